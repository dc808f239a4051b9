-- Printed by wip/mk.py (this session's driver over the kit's print) and from wip/manual.
import Derived.Test.YtobfngikgfjaoaaP0
namespace Go.Proofs.Ytobfngikgfjaoaa.P
open Go.RowKit Go.Proofs.YtobfngikgfjaoaaW.PrintWords Go.Proofs.YtobfngikgfjaoaaW.PrintLast Go.Proofs.YtobfngikgfjaoaaW.PrintMore
attribute [local go_sem] max2_int min2_int max_two min_two max_three min_three max_four min_four   -- for this text's walks alone
set_option linter.unusedVariables false
set_option linter.unusedSimpArgs false

/-! ### toponymref01_Same: function 7 -/
def toponymref01_Same.l0 : Nat → List Int → List Int → Int → Option (Bool)
  | 0, _, _, _ => none
  | k + 1, x0, x1, x5 => if x5 < (x0.length : Int) then (if 0 ≤ x5 then (if x5 < (x1.length : Int) then (if (rd x0 x5) = (rd x1 x5) then (toponymref01_Same.l0 k x0 x1 (wrap64 (x5 + 1))) else (some false)) else (none)) else (none)) else (some true)
def toponymref01_Same.f (k : Nat) (l0 : List Int) (l1 : List Int) : Option (Bool) := if (l0.length : Int) = (l1.length : Int) then (toponymref01_Same.l0 k l0 l1 0) else (some false)
theorem toponymref01_Same.mono_l : ∀ k, (∀ y0 y1 y2, LeO (toponymref01_Same.l0 k y0 y1 y2) (toponymref01_Same.l0 (k + 1) y0 y1 y2))
  | 0 => fun _ _ _ r h => by simp [toponymref01_Same.l0] at h
  | k + 1 => by
    have ih0 := toponymref01_Same.mono_l k
    · intro y0 y1 y2
      unfold toponymref01_Same.l0
      repeat' first
      | (with_reducible exact ih0 _ _ _)
      | (with_reducible exact LeO.refl _)
      | (with_reducible exact LeO.none _)
      | (with_reducible refine LeO.ite ?_ ?_)
      | (with_reducible refine LeO.bind ?_ (fun _ => ?_))
      | exact ih0 _ _ _
      | exact LeO.none _
      | refine LeO.ite ?_ ?_
      | refine LeO.bind ?_ (fun _ => ?_)
theorem toponymref01_Same.mono : ∀ a0 a1 k, LeO (toponymref01_Same.f k a0 a1) (toponymref01_Same.f (k + 1) a0 a1) := by
  intro a0 a1 k
  have ih0 := toponymref01_Same.mono_l k
  unfold toponymref01_Same.f
  repeat' first
      | (with_reducible exact ih0 _ _ _)
      | (with_reducible exact LeO.refl _)
      | (with_reducible exact LeO.none _)
      | (with_reducible refine LeO.ite ?_ ?_)
      | (with_reducible refine LeO.bind ?_ (fun _ => ?_))
      | exact ih0 _ _ _
      | exact LeO.none _
      | refine LeO.ite ?_ ?_
      | refine LeO.bind ?_ (fun _ => ?_)
set_option maxHeartbeats 8000000 in
set_option maxRecDepth 100000 in
theorem toponymref01_Same.calls (k : Nat) (A0 : Option Addr) (c0 : Nat) (l0 : List Int) (A1 : Option Addr) (c1 : Nat) (l1 : List Int) (r : Bool) (w : World) (hr0 : Kd.C (Kd.int .i32) w A0 l0.length l0) (hc0 : l0.length ≤ c0) (hr1 : Kd.C (Kd.int .i32) w A1 l1.length l1) (hc1 : l1.length ≤ c1) (h : toponymref01_Same.f k l0 l1 = some r) :
    Calls Try.prog 7 #[.slice A0 l0.length c0, .slice A1 l1.length c1] w fun e w' => e = .returned (.bool r) ∧ Drawn0 w w' := by
  have HR0 := Aside0.mk hr0
  have HC0 := Aside0.mk hc0
  clear hr0 hc0
  have HR1 := Aside0.mk hr1
  have HC1 := Aside0.mk hc1
  clear hr1 hc1
  have H : (if (l0.length : Int) = (l1.length : Int) then (toponymref01_Same.l0 k l0 l1 0) else (some false)) = some r := h
  clear h
  by_cases c3 : (l0.length : Int) = (l1.length : Int)
  · rw [if_pos c3] at H
    have c3b0 : ((l0.length : Int) == (l1.length : Int)) = true := beq_iff_eq.mpr c3
    have c3b1 : ((l0.length : Int) != (l1.length : Int)) = false := bne_eq_false_iff_eq.mpr c3
    have c3b2 : (l0.length == l1.length) = true := by first | simpa using c3 | (simp at c3 ⊢; omega)
    clear c3
    have H' := Aside0.mk H
    clear H
    go_enter Try.func7, Try.ntmps7
    go_wp2
    repeat (go_quiet (fail); try go_wp2)
    go_loopg [5] k (fun kq v5 w' => ∃ (x5_1 : Int), v5 = .int .i64 x5_1 ∧ Aside0 (toponymref01_Same.l0 kq l0 l1 x5_1 = some r) ∧ Aside0 (kq ≤ k) ∧ Drawn0 w w')
    case atStart => exact ⟨(0), (by first | rfl | (simp; done) | (simp [*]; done)), H', ⟨Nat.le_refl _⟩, by repeat (first | exact Drawn0.refl _ | apply Drawn0.step)⟩
    case round =>
      clear H'
      try clear c1
      try clear p2
      try clear c3
      try clear c3b0
      try clear c3b1
      try clear c3b2
      obtain ⟨x5_1, rfl, HA, HK1, ⟨m1, rfl⟩⟩ := hrel
      cases gk with
      | zero => exact absurd HA.out (by simp [toponymref01_Same.l0])
      | succ k1 =>
        have H := HA.out
        clear HA
        simp only [toponymref01_Same.l0] at H
        by_cases c4 : x5_1 < (l0.length : Int)
        · rw [if_pos c4] at H
          have c4b0 : decide (x5_1 < (l0.length : Int)) = true := decide_eq_true c4
          clear c4
          by_cases c5 : 0 ≤ x5_1
          · rw [if_pos c5] at H
            have c5b0 : decide (0 ≤ x5_1) = true := decide_eq_true c5
            clear c5
            by_cases c6 : x5_1 < (l1.length : Int)
            · rw [if_pos c6] at H
              have c6b0 : decide (x5_1 < (l1.length : Int)) = true := decide_eq_true c6
              clear c6
              by_cases c7 : (rd l0 x5_1) = (rd l1 x5_1)
              · rw [if_pos c7] at H
                have c7b0 : ((rd l0 x5_1) == (rd l1 x5_1)) = true := beq_iff_eq.mpr c7
                have c7b1 : ((rd l0 x5_1) != (rd l1 x5_1)) = false := bne_eq_false_iff_eq.mpr c7
                clear c7
                have H' := Aside0.mk H
                clear H
                have p101 : 0 ≤ (x5_1 : Int) := of_decide_eq_true (by first | (with_reducible assumption) | assumption)
                have q101 : x5_1 < (l0.length : Int) := of_decide_eq_true (by first | (with_reducible assumption) | assumption)
                obtain ⟨ad101, e101, hx101_0⟩ := Kd.at_int HR0.out x5_1 p101 q101
                cases e101
                replace p101 := eq_true p101
                replace q101 := eq_true q101
                have p102 : 0 ≤ (x5_1 : Int) := of_decide_eq_true (by first | (with_reducible assumption) | assumption)
                have q102 : x5_1 < (l1.length : Int) := of_decide_eq_true (by first | (with_reducible assumption) | assumption)
                obtain ⟨ad102, e102, hx102_0⟩ := Kd.at_int HR1.out x5_1 p102 q102
                cases e102
                replace p102 := eq_true p102
                replace q102 := eq_true q102
                go_wp2
                repeat (go_quiet (fail); try go_wp2)
                go_roundg k1
                case measure => have := HK1.out; omega
                case rel => exact ⟨(wrap64 (x5_1 + 1)), (by first | rfl | (simp; done) | (simp [*]; done)), H', ⟨by have := HK1.out; omega⟩, by repeat (first | exact Drawn0.refl _ | apply Drawn0.step)⟩
              · rw [if_neg c7] at H
                have c7b0 : ((rd l0 x5_1) == (rd l1 x5_1)) = false := beq_eq_false_iff_ne.mpr c7
                have c7b1 : ((rd l0 x5_1) != (rd l1 x5_1)) = true := bne_iff_ne.mpr c7
                obtain rfl := Option.some.inj H
                have p101 : 0 ≤ (x5_1 : Int) := of_decide_eq_true (by first | (with_reducible assumption) | assumption)
                have q101 : x5_1 < (l0.length : Int) := of_decide_eq_true (by first | (with_reducible assumption) | assumption)
                obtain ⟨ad101, e101, hx101_0⟩ := Kd.at_int HR0.out x5_1 p101 q101
                cases e101
                replace p101 := eq_true p101
                replace q101 := eq_true q101
                have p102 : 0 ≤ (x5_1 : Int) := of_decide_eq_true (by first | (with_reducible assumption) | assumption)
                have q102 : x5_1 < (l1.length : Int) := of_decide_eq_true (by first | (with_reducible assumption) | assumption)
                obtain ⟨ad102, e102, hx102_0⟩ := Kd.at_int HR1.out x5_1 p102 q102
                cases e102
                replace p102 := eq_true p102
                replace q102 := eq_true q102
                go_wp2
                repeat (go_quiet (fail); try go_wp2)
                go_ret
                exact ⟨by first | rfl | (simp; done) | (simp [*]; done), by repeat (first | exact Drawn0.refl _ | apply Drawn0.step)⟩
            · rw [if_neg c6] at H
              exact absurd H (by simp)
          · rw [if_neg c5] at H
            exact absurd H (by simp)
        · rw [if_neg c4] at H
          have c4b0 : decide (x5_1 < (l0.length : Int)) = false := decide_eq_false c4
          clear c4
          obtain rfl := Option.some.inj H
          go_wp2
          repeat (go_quiet (fail); try go_wp2)
          go_ret
          exact ⟨by first | rfl | (simp; done) | (simp [*]; done), by repeat (first | exact Drawn0.refl _ | apply Drawn0.step)⟩
  · rw [if_neg c3] at H
    have c3b0 : ((l0.length : Int) == (l1.length : Int)) = false := beq_eq_false_iff_ne.mpr c3
    have c3b1 : ((l0.length : Int) != (l1.length : Int)) = true := bne_iff_ne.mpr c3
    have c3b2 : (l0.length == l1.length) = false := by first | simpa using c3 | (simp at c3 ⊢; omega)
    obtain rfl := Option.some.inj H
    go_enter Try.func7, Try.ntmps7
    go_wp2
    repeat (go_quiet (fail); try go_wp2)
    go_ret
    exact ⟨by first | rfl | (simp; done) | (simp [*]; done), by repeat (first | exact Drawn0.refl _ | apply Drawn0.step)⟩

/-! ### fold_more: function 17 -/
def fold_more.f (a0 : Int) : Option (ByteArray) := if a0 = 181 then (some (⟨#[206, 188]⟩ : ByteArray)) else (if a0 = 223 then (some (⟨#[115, 115]⟩ : ByteArray)) else (if a0 = 304 then (some (⟨#[105, 204, 135]⟩ : ByteArray)) else (if a0 = 329 then (some (⟨#[202, 188, 110]⟩ : ByteArray)) else (if a0 = 376 then (some (⟨#[195, 191]⟩ : ByteArray)) else (if a0 = 383 then (some (⟨#[115]⟩ : ByteArray)) else (if a0 = 902 then (some (⟨#[206, 172]⟩ : ByteArray)) else (if a0 = 908 then (some (⟨#[207, 140]⟩ : ByteArray)) else (if a0 = 910 then (some (⟨#[207, 141]⟩ : ByteArray)) else (if a0 = 911 then (some (⟨#[207, 142]⟩ : ByteArray)) else (if a0 = 962 then (some (⟨#[207, 131]⟩ : ByteArray)) else (if a0 = 1025 then (some (⟨#[209, 145]⟩ : ByteArray)) else (if a0 = 8486 then (some (⟨#[207, 137]⟩ : ByteArray)) else (if a0 = 8490 then (some (⟨#[107]⟩ : ByteArray)) else (if a0 = 8491 then (some (⟨#[195, 165]⟩ : ByteArray)) else (if a0 = 64256 then (some (⟨#[102, 102]⟩ : ByteArray)) else (if a0 = 64257 then (some (⟨#[102, 105]⟩ : ByteArray)) else (if a0 = 64258 then (some (⟨#[102, 108]⟩ : ByteArray)) else (if a0 = 64259 then (some (⟨#[102, 102, 105]⟩ : ByteArray)) else (if a0 = 64260 then (some (⟨#[102, 102, 108]⟩ : ByteArray)) else (if a0 = 64261 then (some (⟨#[115, 116]⟩ : ByteArray)) else (some (⟨#[]⟩ : ByteArray))))))))))))))))))))))
set_option maxHeartbeats 8000000 in
set_option maxRecDepth 100000 in
theorem fold_more.calls (a0 : Int) (r : ByteArray) (w : World) (h : fold_more.f a0 = some r) :
    Calls Try.prog 17 #[.int .i32 a0] w fun e w' => e = .returned (.string r) ∧ Drawn0 w w' := by
  have H : (if a0 = 181 then (some (⟨#[206, 188]⟩ : ByteArray)) else (if a0 = 223 then (some (⟨#[115, 115]⟩ : ByteArray)) else (if a0 = 304 then (some (⟨#[105, 204, 135]⟩ : ByteArray)) else (if a0 = 329 then (some (⟨#[202, 188, 110]⟩ : ByteArray)) else (if a0 = 376 then (some (⟨#[195, 191]⟩ : ByteArray)) else (if a0 = 383 then (some (⟨#[115]⟩ : ByteArray)) else (if a0 = 902 then (some (⟨#[206, 172]⟩ : ByteArray)) else (if a0 = 908 then (some (⟨#[207, 140]⟩ : ByteArray)) else (if a0 = 910 then (some (⟨#[207, 141]⟩ : ByteArray)) else (if a0 = 911 then (some (⟨#[207, 142]⟩ : ByteArray)) else (if a0 = 962 then (some (⟨#[207, 131]⟩ : ByteArray)) else (if a0 = 1025 then (some (⟨#[209, 145]⟩ : ByteArray)) else (if a0 = 8486 then (some (⟨#[207, 137]⟩ : ByteArray)) else (if a0 = 8490 then (some (⟨#[107]⟩ : ByteArray)) else (if a0 = 8491 then (some (⟨#[195, 165]⟩ : ByteArray)) else (if a0 = 64256 then (some (⟨#[102, 102]⟩ : ByteArray)) else (if a0 = 64257 then (some (⟨#[102, 105]⟩ : ByteArray)) else (if a0 = 64258 then (some (⟨#[102, 108]⟩ : ByteArray)) else (if a0 = 64259 then (some (⟨#[102, 102, 105]⟩ : ByteArray)) else (if a0 = 64260 then (some (⟨#[102, 102, 108]⟩ : ByteArray)) else (if a0 = 64261 then (some (⟨#[115, 116]⟩ : ByteArray)) else (some (⟨#[]⟩ : ByteArray))))))))))))))))))))))) = some r := h
  clear h
  by_cases c2 : a0 = 181
  · rw [if_pos c2] at H
    have c2b0 : (a0 == 181) = true := beq_iff_eq.mpr c2
    have c2b1 : (a0 != 181) = false := bne_eq_false_iff_eq.mpr c2
    clear c2
    obtain rfl := Option.some.inj H
    go_enter Try.func17, Try.ntmps17
    go_wp2
    go_ret
    exact ⟨by first | rfl | (simp; done) | (simp [*]; done), by repeat (first | exact Drawn0.refl _ | apply Drawn0.step)⟩
  · rw [if_neg c2] at H
    have c2b0 : (a0 == 181) = false := beq_eq_false_iff_ne.mpr c2
    have c2b1 : (a0 != 181) = true := bne_iff_ne.mpr c2
    by_cases c3 : a0 = 223
    · rw [if_pos c3] at H
      have c3b0 : (a0 == 223) = true := beq_iff_eq.mpr c3
      have c3b1 : (a0 != 223) = false := bne_eq_false_iff_eq.mpr c3
      clear c3
      obtain rfl := Option.some.inj H
      go_enter Try.func17, Try.ntmps17
      go_wp2
      go_ret
      exact ⟨by first | rfl | (simp; done) | (simp [*]; done), by repeat (first | exact Drawn0.refl _ | apply Drawn0.step)⟩
    · rw [if_neg c3] at H
      have c3b0 : (a0 == 223) = false := beq_eq_false_iff_ne.mpr c3
      have c3b1 : (a0 != 223) = true := bne_iff_ne.mpr c3
      by_cases c4 : a0 = 304
      · rw [if_pos c4] at H
        have c4b0 : (a0 == 304) = true := beq_iff_eq.mpr c4
        have c4b1 : (a0 != 304) = false := bne_eq_false_iff_eq.mpr c4
        clear c4
        obtain rfl := Option.some.inj H
        go_enter Try.func17, Try.ntmps17
        go_wp2
        go_ret
        exact ⟨by first | rfl | (simp; done) | (simp [*]; done), by repeat (first | exact Drawn0.refl _ | apply Drawn0.step)⟩
      · rw [if_neg c4] at H
        have c4b0 : (a0 == 304) = false := beq_eq_false_iff_ne.mpr c4
        have c4b1 : (a0 != 304) = true := bne_iff_ne.mpr c4
        by_cases c5 : a0 = 329
        · rw [if_pos c5] at H
          have c5b0 : (a0 == 329) = true := beq_iff_eq.mpr c5
          have c5b1 : (a0 != 329) = false := bne_eq_false_iff_eq.mpr c5
          clear c5
          obtain rfl := Option.some.inj H
          go_enter Try.func17, Try.ntmps17
          go_wp2
          go_ret
          exact ⟨by first | rfl | (simp; done) | (simp [*]; done), by repeat (first | exact Drawn0.refl _ | apply Drawn0.step)⟩
        · rw [if_neg c5] at H
          have c5b0 : (a0 == 329) = false := beq_eq_false_iff_ne.mpr c5
          have c5b1 : (a0 != 329) = true := bne_iff_ne.mpr c5
          by_cases c6 : a0 = 376
          · rw [if_pos c6] at H
            have c6b0 : (a0 == 376) = true := beq_iff_eq.mpr c6
            have c6b1 : (a0 != 376) = false := bne_eq_false_iff_eq.mpr c6
            clear c6
            obtain rfl := Option.some.inj H
            go_enter Try.func17, Try.ntmps17
            go_wp2
            go_ret
            exact ⟨by first | rfl | (simp; done) | (simp [*]; done), by repeat (first | exact Drawn0.refl _ | apply Drawn0.step)⟩
          · rw [if_neg c6] at H
            have c6b0 : (a0 == 376) = false := beq_eq_false_iff_ne.mpr c6
            have c6b1 : (a0 != 376) = true := bne_iff_ne.mpr c6
            by_cases c7 : a0 = 383
            · rw [if_pos c7] at H
              have c7b0 : (a0 == 383) = true := beq_iff_eq.mpr c7
              have c7b1 : (a0 != 383) = false := bne_eq_false_iff_eq.mpr c7
              clear c7
              obtain rfl := Option.some.inj H
              go_enter Try.func17, Try.ntmps17
              go_wp2
              go_ret
              exact ⟨by first | rfl | (simp; done) | (simp [*]; done), by repeat (first | exact Drawn0.refl _ | apply Drawn0.step)⟩
            · rw [if_neg c7] at H
              have c7b0 : (a0 == 383) = false := beq_eq_false_iff_ne.mpr c7
              have c7b1 : (a0 != 383) = true := bne_iff_ne.mpr c7
              by_cases c8 : a0 = 902
              · rw [if_pos c8] at H
                have c8b0 : (a0 == 902) = true := beq_iff_eq.mpr c8
                have c8b1 : (a0 != 902) = false := bne_eq_false_iff_eq.mpr c8
                clear c8
                obtain rfl := Option.some.inj H
                go_enter Try.func17, Try.ntmps17
                go_wp2
                go_ret
                exact ⟨by first | rfl | (simp; done) | (simp [*]; done), by repeat (first | exact Drawn0.refl _ | apply Drawn0.step)⟩
              · rw [if_neg c8] at H
                have c8b0 : (a0 == 902) = false := beq_eq_false_iff_ne.mpr c8
                have c8b1 : (a0 != 902) = true := bne_iff_ne.mpr c8
                by_cases c9 : a0 = 908
                · rw [if_pos c9] at H
                  have c9b0 : (a0 == 908) = true := beq_iff_eq.mpr c9
                  have c9b1 : (a0 != 908) = false := bne_eq_false_iff_eq.mpr c9
                  clear c9
                  obtain rfl := Option.some.inj H
                  go_enter Try.func17, Try.ntmps17
                  go_wp2
                  go_ret
                  exact ⟨by first | rfl | (simp; done) | (simp [*]; done), by repeat (first | exact Drawn0.refl _ | apply Drawn0.step)⟩
                · rw [if_neg c9] at H
                  have c9b0 : (a0 == 908) = false := beq_eq_false_iff_ne.mpr c9
                  have c9b1 : (a0 != 908) = true := bne_iff_ne.mpr c9
                  by_cases c10 : a0 = 910
                  · rw [if_pos c10] at H
                    have c10b0 : (a0 == 910) = true := beq_iff_eq.mpr c10
                    have c10b1 : (a0 != 910) = false := bne_eq_false_iff_eq.mpr c10
                    clear c10
                    obtain rfl := Option.some.inj H
                    go_enter Try.func17, Try.ntmps17
                    go_wp2
                    go_ret
                    exact ⟨by first | rfl | (simp; done) | (simp [*]; done), by repeat (first | exact Drawn0.refl _ | apply Drawn0.step)⟩
                  · rw [if_neg c10] at H
                    have c10b0 : (a0 == 910) = false := beq_eq_false_iff_ne.mpr c10
                    have c10b1 : (a0 != 910) = true := bne_iff_ne.mpr c10
                    by_cases c11 : a0 = 911
                    · rw [if_pos c11] at H
                      have c11b0 : (a0 == 911) = true := beq_iff_eq.mpr c11
                      have c11b1 : (a0 != 911) = false := bne_eq_false_iff_eq.mpr c11
                      clear c11
                      obtain rfl := Option.some.inj H
                      go_enter Try.func17, Try.ntmps17
                      go_wp2
                      go_ret
                      exact ⟨by first | rfl | (simp; done) | (simp [*]; done), by repeat (first | exact Drawn0.refl _ | apply Drawn0.step)⟩
                    · rw [if_neg c11] at H
                      have c11b0 : (a0 == 911) = false := beq_eq_false_iff_ne.mpr c11
                      have c11b1 : (a0 != 911) = true := bne_iff_ne.mpr c11
                      by_cases c12 : a0 = 962
                      · rw [if_pos c12] at H
                        have c12b0 : (a0 == 962) = true := beq_iff_eq.mpr c12
                        have c12b1 : (a0 != 962) = false := bne_eq_false_iff_eq.mpr c12
                        clear c12
                        obtain rfl := Option.some.inj H
                        go_enter Try.func17, Try.ntmps17
                        go_wp2
                        go_ret
                        exact ⟨by first | rfl | (simp; done) | (simp [*]; done), by repeat (first | exact Drawn0.refl _ | apply Drawn0.step)⟩
                      · rw [if_neg c12] at H
                        have c12b0 : (a0 == 962) = false := beq_eq_false_iff_ne.mpr c12
                        have c12b1 : (a0 != 962) = true := bne_iff_ne.mpr c12
                        by_cases c13 : a0 = 1025
                        · rw [if_pos c13] at H
                          have c13b0 : (a0 == 1025) = true := beq_iff_eq.mpr c13
                          have c13b1 : (a0 != 1025) = false := bne_eq_false_iff_eq.mpr c13
                          clear c13
                          obtain rfl := Option.some.inj H
                          go_enter Try.func17, Try.ntmps17
                          go_wp2
                          go_ret
                          exact ⟨by first | rfl | (simp; done) | (simp [*]; done), by repeat (first | exact Drawn0.refl _ | apply Drawn0.step)⟩
                        · rw [if_neg c13] at H
                          have c13b0 : (a0 == 1025) = false := beq_eq_false_iff_ne.mpr c13
                          have c13b1 : (a0 != 1025) = true := bne_iff_ne.mpr c13
                          by_cases c14 : a0 = 8486
                          · rw [if_pos c14] at H
                            have c14b0 : (a0 == 8486) = true := beq_iff_eq.mpr c14
                            have c14b1 : (a0 != 8486) = false := bne_eq_false_iff_eq.mpr c14
                            clear c14
                            obtain rfl := Option.some.inj H
                            go_enter Try.func17, Try.ntmps17
                            go_wp2
                            go_ret
                            exact ⟨by first | rfl | (simp; done) | (simp [*]; done), by repeat (first | exact Drawn0.refl _ | apply Drawn0.step)⟩
                          · rw [if_neg c14] at H
                            have c14b0 : (a0 == 8486) = false := beq_eq_false_iff_ne.mpr c14
                            have c14b1 : (a0 != 8486) = true := bne_iff_ne.mpr c14
                            by_cases c15 : a0 = 8490
                            · rw [if_pos c15] at H
                              have c15b0 : (a0 == 8490) = true := beq_iff_eq.mpr c15
                              have c15b1 : (a0 != 8490) = false := bne_eq_false_iff_eq.mpr c15
                              clear c15
                              obtain rfl := Option.some.inj H
                              go_enter Try.func17, Try.ntmps17
                              go_wp2
                              go_ret
                              exact ⟨by first | rfl | (simp; done) | (simp [*]; done), by repeat (first | exact Drawn0.refl _ | apply Drawn0.step)⟩
                            · rw [if_neg c15] at H
                              have c15b0 : (a0 == 8490) = false := beq_eq_false_iff_ne.mpr c15
                              have c15b1 : (a0 != 8490) = true := bne_iff_ne.mpr c15
                              by_cases c16 : a0 = 8491
                              · rw [if_pos c16] at H
                                have c16b0 : (a0 == 8491) = true := beq_iff_eq.mpr c16
                                have c16b1 : (a0 != 8491) = false := bne_eq_false_iff_eq.mpr c16
                                clear c16
                                obtain rfl := Option.some.inj H
                                go_enter Try.func17, Try.ntmps17
                                go_wp2
                                go_ret
                                exact ⟨by first | rfl | (simp; done) | (simp [*]; done), by repeat (first | exact Drawn0.refl _ | apply Drawn0.step)⟩
                              · rw [if_neg c16] at H
                                have c16b0 : (a0 == 8491) = false := beq_eq_false_iff_ne.mpr c16
                                have c16b1 : (a0 != 8491) = true := bne_iff_ne.mpr c16
                                by_cases c17 : a0 = 64256
                                · rw [if_pos c17] at H
                                  have c17b0 : (a0 == 64256) = true := beq_iff_eq.mpr c17
                                  have c17b1 : (a0 != 64256) = false := bne_eq_false_iff_eq.mpr c17
                                  clear c17
                                  obtain rfl := Option.some.inj H
                                  go_enter Try.func17, Try.ntmps17
                                  go_wp2
                                  go_ret
                                  exact ⟨by first | rfl | (simp; done) | (simp [*]; done), by repeat (first | exact Drawn0.refl _ | apply Drawn0.step)⟩
                                · rw [if_neg c17] at H
                                  have c17b0 : (a0 == 64256) = false := beq_eq_false_iff_ne.mpr c17
                                  have c17b1 : (a0 != 64256) = true := bne_iff_ne.mpr c17
                                  by_cases c18 : a0 = 64257
                                  · rw [if_pos c18] at H
                                    have c18b0 : (a0 == 64257) = true := beq_iff_eq.mpr c18
                                    have c18b1 : (a0 != 64257) = false := bne_eq_false_iff_eq.mpr c18
                                    clear c18
                                    obtain rfl := Option.some.inj H
                                    go_enter Try.func17, Try.ntmps17
                                    go_wp2
                                    go_ret
                                    exact ⟨by first | rfl | (simp; done) | (simp [*]; done), by repeat (first | exact Drawn0.refl _ | apply Drawn0.step)⟩
                                  · rw [if_neg c18] at H
                                    have c18b0 : (a0 == 64257) = false := beq_eq_false_iff_ne.mpr c18
                                    have c18b1 : (a0 != 64257) = true := bne_iff_ne.mpr c18
                                    by_cases c19 : a0 = 64258
                                    · rw [if_pos c19] at H
                                      have c19b0 : (a0 == 64258) = true := beq_iff_eq.mpr c19
                                      have c19b1 : (a0 != 64258) = false := bne_eq_false_iff_eq.mpr c19
                                      clear c19
                                      obtain rfl := Option.some.inj H
                                      go_enter Try.func17, Try.ntmps17
                                      go_wp2
                                      go_ret
                                      exact ⟨by first | rfl | (simp; done) | (simp [*]; done), by repeat (first | exact Drawn0.refl _ | apply Drawn0.step)⟩
                                    · rw [if_neg c19] at H
                                      have c19b0 : (a0 == 64258) = false := beq_eq_false_iff_ne.mpr c19
                                      have c19b1 : (a0 != 64258) = true := bne_iff_ne.mpr c19
                                      by_cases c20 : a0 = 64259
                                      · rw [if_pos c20] at H
                                        have c20b0 : (a0 == 64259) = true := beq_iff_eq.mpr c20
                                        have c20b1 : (a0 != 64259) = false := bne_eq_false_iff_eq.mpr c20
                                        clear c20
                                        obtain rfl := Option.some.inj H
                                        go_enter Try.func17, Try.ntmps17
                                        go_wp2
                                        go_ret
                                        exact ⟨by first | rfl | (simp; done) | (simp [*]; done), by repeat (first | exact Drawn0.refl _ | apply Drawn0.step)⟩
                                      · rw [if_neg c20] at H
                                        have c20b0 : (a0 == 64259) = false := beq_eq_false_iff_ne.mpr c20
                                        have c20b1 : (a0 != 64259) = true := bne_iff_ne.mpr c20
                                        by_cases c21 : a0 = 64260
                                        · rw [if_pos c21] at H
                                          have c21b0 : (a0 == 64260) = true := beq_iff_eq.mpr c21
                                          have c21b1 : (a0 != 64260) = false := bne_eq_false_iff_eq.mpr c21
                                          clear c21
                                          obtain rfl := Option.some.inj H
                                          go_enter Try.func17, Try.ntmps17
                                          go_wp2
                                          go_ret
                                          exact ⟨by first | rfl | (simp; done) | (simp [*]; done), by repeat (first | exact Drawn0.refl _ | apply Drawn0.step)⟩
                                        · rw [if_neg c21] at H
                                          have c21b0 : (a0 == 64260) = false := beq_eq_false_iff_ne.mpr c21
                                          have c21b1 : (a0 != 64260) = true := bne_iff_ne.mpr c21
                                          by_cases c22 : a0 = 64261
                                          · rw [if_pos c22] at H
                                            have c22b0 : (a0 == 64261) = true := beq_iff_eq.mpr c22
                                            have c22b1 : (a0 != 64261) = false := bne_eq_false_iff_eq.mpr c22
                                            clear c22
                                            obtain rfl := Option.some.inj H
                                            go_enter Try.func17, Try.ntmps17
                                            go_wp2
                                            go_ret
                                            exact ⟨by first | rfl | (simp; done) | (simp [*]; done), by repeat (first | exact Drawn0.refl _ | apply Drawn0.step)⟩
                                          · rw [if_neg c22] at H
                                            have c22b0 : (a0 == 64261) = false := beq_eq_false_iff_ne.mpr c22
                                            have c22b1 : (a0 != 64261) = true := bne_iff_ne.mpr c22
                                            obtain rfl := Option.some.inj H
                                            go_enter Try.func17, Try.ntmps17
                                            go_wp2
                                            go_ret
                                            exact ⟨by first | rfl | (simp; done) | (simp [*]; done), by repeat (first | exact Drawn0.refl _ | apply Drawn0.step)⟩

/-! ### fold_within: function 25 -/
def fold_within.f (a0 : Int) (a1 : Int) (a2 : Int) : Option (Bool) := if a0 ≥ a1 then (some (decide (a0 ≤ a2))) else (some false)
set_option maxHeartbeats 8000000 in
set_option maxRecDepth 100000 in
theorem fold_within.calls (a0 : Int) (a1 : Int) (a2 : Int) (r : Bool) (w : World) (h : fold_within.f a0 a1 a2 = some r) :
    Calls Try.prog 25 #[.int .i32 a0, .int .i32 a1, .int .i32 a2] w fun e w' => e = .returned (.bool r) ∧ Drawn0 w w' := by
  have H : (if a0 ≥ a1 then (some (decide (a0 ≤ a2))) else (some false)) = some r := h
  clear h
  by_cases c4 : a0 ≥ a1
  · rw [if_pos c4] at H
    have c4b0 : decide (a1 ≤ a0) = true := decide_eq_true c4
    clear c4
    obtain rfl := Option.some.inj H
    go_enter Try.func25, Try.ntmps25
    go_wp2
    go_ret
    exact ⟨by first | rfl | (simp; done) | (simp [*]; done), by repeat (first | exact Drawn0.refl _ | apply Drawn0.step)⟩
  · rw [if_neg c4] at H
    have c4b0 : decide (a1 ≤ a0) = false := decide_eq_false c4
    clear c4
    obtain rfl := Option.some.inj H
    go_enter Try.func25, Try.ntmps25
    go_wp2
    go_ret
    exact ⟨by first | rfl | (simp; done) | (simp [*]; done), by repeat (first | exact Drawn0.refl _ | apply Drawn0.step)⟩

end Go.Proofs.Ytobfngikgfjaoaa.P
