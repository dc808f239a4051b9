-- Printed by wip/mk.py (this session's driver over the kit's print) and from wip/manual.
import Derived.Test.YtobfngikgfjaoaaR0
namespace Go.Proofs.Ytobfngikgfjaoaa.P
open Go.RowKit Go.Proofs.YtobfngikgfjaoaaW.PrintWords Go.Proofs.YtobfngikgfjaoaaW.PrintLast Go.Proofs.YtobfngikgfjaoaaW.PrintMore
attribute [local go_sem] max2_int min2_int max_two min_two max_three min_three max_four min_four   -- for this text's walks alone
set_option linter.unusedVariables false
set_option linter.unusedSimpArgs false

/-! ### fold_more: function 17 -/
def fold_more.f (a0 : Int) : Option (ByteArray) := if a0 = 181 then (some (⟨#[206, 188]⟩ : ByteArray)) else (if a0 = 223 then (some (⟨#[115, 115]⟩ : ByteArray)) else (if a0 = 304 then (some (⟨#[105, 204, 135]⟩ : ByteArray)) else (if a0 = 329 then (some (⟨#[202, 188, 110]⟩ : ByteArray)) else (if a0 = 376 then (some (⟨#[195, 191]⟩ : ByteArray)) else (if a0 = 383 then (some (⟨#[115]⟩ : ByteArray)) else (if a0 = 902 then (some (⟨#[206, 172]⟩ : ByteArray)) else (if a0 = 908 then (some (⟨#[207, 140]⟩ : ByteArray)) else (if a0 = 910 then (some (⟨#[207, 141]⟩ : ByteArray)) else (if a0 = 911 then (some (⟨#[207, 142]⟩ : ByteArray)) else (if a0 = 962 then (some (⟨#[207, 131]⟩ : ByteArray)) else (if a0 = 1025 then (some (⟨#[209, 145]⟩ : ByteArray)) else (if a0 = 8486 then (some (⟨#[207, 137]⟩ : ByteArray)) else (if a0 = 8490 then (some (⟨#[107]⟩ : ByteArray)) else (if a0 = 8491 then (some (⟨#[195, 165]⟩ : ByteArray)) else (if a0 = 64256 then (some (⟨#[102, 102]⟩ : ByteArray)) else (if a0 = 64257 then (some (⟨#[102, 105]⟩ : ByteArray)) else (if a0 = 64258 then (some (⟨#[102, 108]⟩ : ByteArray)) else (if a0 = 64259 then (some (⟨#[102, 102, 105]⟩ : ByteArray)) else (if a0 = 64260 then (some (⟨#[102, 102, 108]⟩ : ByteArray)) else (if a0 = 64261 then (some (⟨#[115, 116]⟩ : ByteArray)) else (some (⟨#[]⟩ : ByteArray))))))))))))))))))))))
set_option maxHeartbeats 8000000 in
set_option maxRecDepth 100000 in
theorem fold_more.calls (a0 : Int) (r : ByteArray) (w : World) (h : fold_more.f a0 = some r) :
    Calls Try.prog 17 #[.int .i32 a0] w fun e w' => e = .returned (.string r) ∧ Drawn0 w w' := by
  have H : (if a0 = 181 then (some (⟨#[206, 188]⟩ : ByteArray)) else (if a0 = 223 then (some (⟨#[115, 115]⟩ : ByteArray)) else (if a0 = 304 then (some (⟨#[105, 204, 135]⟩ : ByteArray)) else (if a0 = 329 then (some (⟨#[202, 188, 110]⟩ : ByteArray)) else (if a0 = 376 then (some (⟨#[195, 191]⟩ : ByteArray)) else (if a0 = 383 then (some (⟨#[115]⟩ : ByteArray)) else (if a0 = 902 then (some (⟨#[206, 172]⟩ : ByteArray)) else (if a0 = 908 then (some (⟨#[207, 140]⟩ : ByteArray)) else (if a0 = 910 then (some (⟨#[207, 141]⟩ : ByteArray)) else (if a0 = 911 then (some (⟨#[207, 142]⟩ : ByteArray)) else (if a0 = 962 then (some (⟨#[207, 131]⟩ : ByteArray)) else (if a0 = 1025 then (some (⟨#[209, 145]⟩ : ByteArray)) else (if a0 = 8486 then (some (⟨#[207, 137]⟩ : ByteArray)) else (if a0 = 8490 then (some (⟨#[107]⟩ : ByteArray)) else (if a0 = 8491 then (some (⟨#[195, 165]⟩ : ByteArray)) else (if a0 = 64256 then (some (⟨#[102, 102]⟩ : ByteArray)) else (if a0 = 64257 then (some (⟨#[102, 105]⟩ : ByteArray)) else (if a0 = 64258 then (some (⟨#[102, 108]⟩ : ByteArray)) else (if a0 = 64259 then (some (⟨#[102, 102, 105]⟩ : ByteArray)) else (if a0 = 64260 then (some (⟨#[102, 102, 108]⟩ : ByteArray)) else (if a0 = 64261 then (some (⟨#[115, 116]⟩ : ByteArray)) else (some (⟨#[]⟩ : ByteArray))))))))))))))))))))))) = some r := h
  clear h
  by_cases c2 : a0 = 181
  · rw [if_pos c2] at H
    have c2b0 : (a0 == 181) = true := beq_iff_eq.mpr c2
    have c2b1 : (a0 != 181) = false := bne_eq_false_iff_eq.mpr c2
    clear c2
    obtain rfl := Option.some.inj H
    go_enter Try.func17, Try.ntmps17
    go_wp2
    go_ret
    exact ⟨by first | rfl | (simp; done) | (simp [*]; done), by repeat (first | exact Drawn0.refl _ | apply Drawn0.step)⟩
  · rw [if_neg c2] at H
    have c2b0 : (a0 == 181) = false := beq_eq_false_iff_ne.mpr c2
    have c2b1 : (a0 != 181) = true := bne_iff_ne.mpr c2
    by_cases c3 : a0 = 223
    · rw [if_pos c3] at H
      have c3b0 : (a0 == 223) = true := beq_iff_eq.mpr c3
      have c3b1 : (a0 != 223) = false := bne_eq_false_iff_eq.mpr c3
      clear c3
      obtain rfl := Option.some.inj H
      go_enter Try.func17, Try.ntmps17
      go_wp2
      go_ret
      exact ⟨by first | rfl | (simp; done) | (simp [*]; done), by repeat (first | exact Drawn0.refl _ | apply Drawn0.step)⟩
    · rw [if_neg c3] at H
      have c3b0 : (a0 == 223) = false := beq_eq_false_iff_ne.mpr c3
      have c3b1 : (a0 != 223) = true := bne_iff_ne.mpr c3
      by_cases c4 : a0 = 304
      · rw [if_pos c4] at H
        have c4b0 : (a0 == 304) = true := beq_iff_eq.mpr c4
        have c4b1 : (a0 != 304) = false := bne_eq_false_iff_eq.mpr c4
        clear c4
        obtain rfl := Option.some.inj H
        go_enter Try.func17, Try.ntmps17
        go_wp2
        go_ret
        exact ⟨by first | rfl | (simp; done) | (simp [*]; done), by repeat (first | exact Drawn0.refl _ | apply Drawn0.step)⟩
      · rw [if_neg c4] at H
        have c4b0 : (a0 == 304) = false := beq_eq_false_iff_ne.mpr c4
        have c4b1 : (a0 != 304) = true := bne_iff_ne.mpr c4
        by_cases c5 : a0 = 329
        · rw [if_pos c5] at H
          have c5b0 : (a0 == 329) = true := beq_iff_eq.mpr c5
          have c5b1 : (a0 != 329) = false := bne_eq_false_iff_eq.mpr c5
          clear c5
          obtain rfl := Option.some.inj H
          go_enter Try.func17, Try.ntmps17
          go_wp2
          go_ret
          exact ⟨by first | rfl | (simp; done) | (simp [*]; done), by repeat (first | exact Drawn0.refl _ | apply Drawn0.step)⟩
        · rw [if_neg c5] at H
          have c5b0 : (a0 == 329) = false := beq_eq_false_iff_ne.mpr c5
          have c5b1 : (a0 != 329) = true := bne_iff_ne.mpr c5
          by_cases c6 : a0 = 376
          · rw [if_pos c6] at H
            have c6b0 : (a0 == 376) = true := beq_iff_eq.mpr c6
            have c6b1 : (a0 != 376) = false := bne_eq_false_iff_eq.mpr c6
            clear c6
            obtain rfl := Option.some.inj H
            go_enter Try.func17, Try.ntmps17
            go_wp2
            go_ret
            exact ⟨by first | rfl | (simp; done) | (simp [*]; done), by repeat (first | exact Drawn0.refl _ | apply Drawn0.step)⟩
          · rw [if_neg c6] at H
            have c6b0 : (a0 == 376) = false := beq_eq_false_iff_ne.mpr c6
            have c6b1 : (a0 != 376) = true := bne_iff_ne.mpr c6
            by_cases c7 : a0 = 383
            · rw [if_pos c7] at H
              have c7b0 : (a0 == 383) = true := beq_iff_eq.mpr c7
              have c7b1 : (a0 != 383) = false := bne_eq_false_iff_eq.mpr c7
              clear c7
              obtain rfl := Option.some.inj H
              go_enter Try.func17, Try.ntmps17
              go_wp2
              go_ret
              exact ⟨by first | rfl | (simp; done) | (simp [*]; done), by repeat (first | exact Drawn0.refl _ | apply Drawn0.step)⟩
            · rw [if_neg c7] at H
              have c7b0 : (a0 == 383) = false := beq_eq_false_iff_ne.mpr c7
              have c7b1 : (a0 != 383) = true := bne_iff_ne.mpr c7
              by_cases c8 : a0 = 902
              · rw [if_pos c8] at H
                have c8b0 : (a0 == 902) = true := beq_iff_eq.mpr c8
                have c8b1 : (a0 != 902) = false := bne_eq_false_iff_eq.mpr c8
                clear c8
                obtain rfl := Option.some.inj H
                go_enter Try.func17, Try.ntmps17
                go_wp2
                go_ret
                exact ⟨by first | rfl | (simp; done) | (simp [*]; done), by repeat (first | exact Drawn0.refl _ | apply Drawn0.step)⟩
              · rw [if_neg c8] at H
                have c8b0 : (a0 == 902) = false := beq_eq_false_iff_ne.mpr c8
                have c8b1 : (a0 != 902) = true := bne_iff_ne.mpr c8
                by_cases c9 : a0 = 908
                · rw [if_pos c9] at H
                  have c9b0 : (a0 == 908) = true := beq_iff_eq.mpr c9
                  have c9b1 : (a0 != 908) = false := bne_eq_false_iff_eq.mpr c9
                  clear c9
                  obtain rfl := Option.some.inj H
                  go_enter Try.func17, Try.ntmps17
                  go_wp2
                  go_ret
                  exact ⟨by first | rfl | (simp; done) | (simp [*]; done), by repeat (first | exact Drawn0.refl _ | apply Drawn0.step)⟩
                · rw [if_neg c9] at H
                  have c9b0 : (a0 == 908) = false := beq_eq_false_iff_ne.mpr c9
                  have c9b1 : (a0 != 908) = true := bne_iff_ne.mpr c9
                  by_cases c10 : a0 = 910
                  · rw [if_pos c10] at H
                    have c10b0 : (a0 == 910) = true := beq_iff_eq.mpr c10
                    have c10b1 : (a0 != 910) = false := bne_eq_false_iff_eq.mpr c10
                    clear c10
                    obtain rfl := Option.some.inj H
                    go_enter Try.func17, Try.ntmps17
                    go_wp2
                    go_ret
                    exact ⟨by first | rfl | (simp; done) | (simp [*]; done), by repeat (first | exact Drawn0.refl _ | apply Drawn0.step)⟩
                  · rw [if_neg c10] at H
                    have c10b0 : (a0 == 910) = false := beq_eq_false_iff_ne.mpr c10
                    have c10b1 : (a0 != 910) = true := bne_iff_ne.mpr c10
                    by_cases c11 : a0 = 911
                    · rw [if_pos c11] at H
                      have c11b0 : (a0 == 911) = true := beq_iff_eq.mpr c11
                      have c11b1 : (a0 != 911) = false := bne_eq_false_iff_eq.mpr c11
                      clear c11
                      obtain rfl := Option.some.inj H
                      go_enter Try.func17, Try.ntmps17
                      go_wp2
                      go_ret
                      exact ⟨by first | rfl | (simp; done) | (simp [*]; done), by repeat (first | exact Drawn0.refl _ | apply Drawn0.step)⟩
                    · rw [if_neg c11] at H
                      have c11b0 : (a0 == 911) = false := beq_eq_false_iff_ne.mpr c11
                      have c11b1 : (a0 != 911) = true := bne_iff_ne.mpr c11
                      by_cases c12 : a0 = 962
                      · rw [if_pos c12] at H
                        have c12b0 : (a0 == 962) = true := beq_iff_eq.mpr c12
                        have c12b1 : (a0 != 962) = false := bne_eq_false_iff_eq.mpr c12
                        clear c12
                        obtain rfl := Option.some.inj H
                        go_enter Try.func17, Try.ntmps17
                        go_wp2
                        go_ret
                        exact ⟨by first | rfl | (simp; done) | (simp [*]; done), by repeat (first | exact Drawn0.refl _ | apply Drawn0.step)⟩
                      · rw [if_neg c12] at H
                        have c12b0 : (a0 == 962) = false := beq_eq_false_iff_ne.mpr c12
                        have c12b1 : (a0 != 962) = true := bne_iff_ne.mpr c12
                        by_cases c13 : a0 = 1025
                        · rw [if_pos c13] at H
                          have c13b0 : (a0 == 1025) = true := beq_iff_eq.mpr c13
                          have c13b1 : (a0 != 1025) = false := bne_eq_false_iff_eq.mpr c13
                          clear c13
                          obtain rfl := Option.some.inj H
                          go_enter Try.func17, Try.ntmps17
                          go_wp2
                          go_ret
                          exact ⟨by first | rfl | (simp; done) | (simp [*]; done), by repeat (first | exact Drawn0.refl _ | apply Drawn0.step)⟩
                        · rw [if_neg c13] at H
                          have c13b0 : (a0 == 1025) = false := beq_eq_false_iff_ne.mpr c13
                          have c13b1 : (a0 != 1025) = true := bne_iff_ne.mpr c13
                          by_cases c14 : a0 = 8486
                          · rw [if_pos c14] at H
                            have c14b0 : (a0 == 8486) = true := beq_iff_eq.mpr c14
                            have c14b1 : (a0 != 8486) = false := bne_eq_false_iff_eq.mpr c14
                            clear c14
                            obtain rfl := Option.some.inj H
                            go_enter Try.func17, Try.ntmps17
                            go_wp2
                            go_ret
                            exact ⟨by first | rfl | (simp; done) | (simp [*]; done), by repeat (first | exact Drawn0.refl _ | apply Drawn0.step)⟩
                          · rw [if_neg c14] at H
                            have c14b0 : (a0 == 8486) = false := beq_eq_false_iff_ne.mpr c14
                            have c14b1 : (a0 != 8486) = true := bne_iff_ne.mpr c14
                            by_cases c15 : a0 = 8490
                            · rw [if_pos c15] at H
                              have c15b0 : (a0 == 8490) = true := beq_iff_eq.mpr c15
                              have c15b1 : (a0 != 8490) = false := bne_eq_false_iff_eq.mpr c15
                              clear c15
                              obtain rfl := Option.some.inj H
                              go_enter Try.func17, Try.ntmps17
                              go_wp2
                              go_ret
                              exact ⟨by first | rfl | (simp; done) | (simp [*]; done), by repeat (first | exact Drawn0.refl _ | apply Drawn0.step)⟩
                            · rw [if_neg c15] at H
                              have c15b0 : (a0 == 8490) = false := beq_eq_false_iff_ne.mpr c15
                              have c15b1 : (a0 != 8490) = true := bne_iff_ne.mpr c15
                              by_cases c16 : a0 = 8491
                              · rw [if_pos c16] at H
                                have c16b0 : (a0 == 8491) = true := beq_iff_eq.mpr c16
                                have c16b1 : (a0 != 8491) = false := bne_eq_false_iff_eq.mpr c16
                                clear c16
                                obtain rfl := Option.some.inj H
                                go_enter Try.func17, Try.ntmps17
                                go_wp2
                                go_ret
                                exact ⟨by first | rfl | (simp; done) | (simp [*]; done), by repeat (first | exact Drawn0.refl _ | apply Drawn0.step)⟩
                              · rw [if_neg c16] at H
                                have c16b0 : (a0 == 8491) = false := beq_eq_false_iff_ne.mpr c16
                                have c16b1 : (a0 != 8491) = true := bne_iff_ne.mpr c16
                                by_cases c17 : a0 = 64256
                                · rw [if_pos c17] at H
                                  have c17b0 : (a0 == 64256) = true := beq_iff_eq.mpr c17
                                  have c17b1 : (a0 != 64256) = false := bne_eq_false_iff_eq.mpr c17
                                  clear c17
                                  obtain rfl := Option.some.inj H
                                  go_enter Try.func17, Try.ntmps17
                                  go_wp2
                                  go_ret
                                  exact ⟨by first | rfl | (simp; done) | (simp [*]; done), by repeat (first | exact Drawn0.refl _ | apply Drawn0.step)⟩
                                · rw [if_neg c17] at H
                                  have c17b0 : (a0 == 64256) = false := beq_eq_false_iff_ne.mpr c17
                                  have c17b1 : (a0 != 64256) = true := bne_iff_ne.mpr c17
                                  by_cases c18 : a0 = 64257
                                  · rw [if_pos c18] at H
                                    have c18b0 : (a0 == 64257) = true := beq_iff_eq.mpr c18
                                    have c18b1 : (a0 != 64257) = false := bne_eq_false_iff_eq.mpr c18
                                    clear c18
                                    obtain rfl := Option.some.inj H
                                    go_enter Try.func17, Try.ntmps17
                                    go_wp2
                                    go_ret
                                    exact ⟨by first | rfl | (simp; done) | (simp [*]; done), by repeat (first | exact Drawn0.refl _ | apply Drawn0.step)⟩
                                  · rw [if_neg c18] at H
                                    have c18b0 : (a0 == 64257) = false := beq_eq_false_iff_ne.mpr c18
                                    have c18b1 : (a0 != 64257) = true := bne_iff_ne.mpr c18
                                    by_cases c19 : a0 = 64258
                                    · rw [if_pos c19] at H
                                      have c19b0 : (a0 == 64258) = true := beq_iff_eq.mpr c19
                                      have c19b1 : (a0 != 64258) = false := bne_eq_false_iff_eq.mpr c19
                                      clear c19
                                      obtain rfl := Option.some.inj H
                                      go_enter Try.func17, Try.ntmps17
                                      go_wp2
                                      go_ret
                                      exact ⟨by first | rfl | (simp; done) | (simp [*]; done), by repeat (first | exact Drawn0.refl _ | apply Drawn0.step)⟩
                                    · rw [if_neg c19] at H
                                      have c19b0 : (a0 == 64258) = false := beq_eq_false_iff_ne.mpr c19
                                      have c19b1 : (a0 != 64258) = true := bne_iff_ne.mpr c19
                                      by_cases c20 : a0 = 64259
                                      · rw [if_pos c20] at H
                                        have c20b0 : (a0 == 64259) = true := beq_iff_eq.mpr c20
                                        have c20b1 : (a0 != 64259) = false := bne_eq_false_iff_eq.mpr c20
                                        clear c20
                                        obtain rfl := Option.some.inj H
                                        go_enter Try.func17, Try.ntmps17
                                        go_wp2
                                        go_ret
                                        exact ⟨by first | rfl | (simp; done) | (simp [*]; done), by repeat (first | exact Drawn0.refl _ | apply Drawn0.step)⟩
                                      · rw [if_neg c20] at H
                                        have c20b0 : (a0 == 64259) = false := beq_eq_false_iff_ne.mpr c20
                                        have c20b1 : (a0 != 64259) = true := bne_iff_ne.mpr c20
                                        by_cases c21 : a0 = 64260
                                        · rw [if_pos c21] at H
                                          have c21b0 : (a0 == 64260) = true := beq_iff_eq.mpr c21
                                          have c21b1 : (a0 != 64260) = false := bne_eq_false_iff_eq.mpr c21
                                          clear c21
                                          obtain rfl := Option.some.inj H
                                          go_enter Try.func17, Try.ntmps17
                                          go_wp2
                                          go_ret
                                          exact ⟨by first | rfl | (simp; done) | (simp [*]; done), by repeat (first | exact Drawn0.refl _ | apply Drawn0.step)⟩
                                        · rw [if_neg c21] at H
                                          have c21b0 : (a0 == 64260) = false := beq_eq_false_iff_ne.mpr c21
                                          have c21b1 : (a0 != 64260) = true := bne_iff_ne.mpr c21
                                          by_cases c22 : a0 = 64261
                                          · rw [if_pos c22] at H
                                            have c22b0 : (a0 == 64261) = true := beq_iff_eq.mpr c22
                                            have c22b1 : (a0 != 64261) = false := bne_eq_false_iff_eq.mpr c22
                                            clear c22
                                            obtain rfl := Option.some.inj H
                                            go_enter Try.func17, Try.ntmps17
                                            go_wp2
                                            go_ret
                                            exact ⟨by first | rfl | (simp; done) | (simp [*]; done), by repeat (first | exact Drawn0.refl _ | apply Drawn0.step)⟩
                                          · rw [if_neg c22] at H
                                            have c22b0 : (a0 == 64261) = false := beq_eq_false_iff_ne.mpr c22
                                            have c22b1 : (a0 != 64261) = true := bne_iff_ne.mpr c22
                                            obtain rfl := Option.some.inj H
                                            go_enter Try.func17, Try.ntmps17
                                            go_wp2
                                            go_ret
                                            exact ⟨by first | rfl | (simp; done) | (simp [*]; done), by repeat (first | exact Drawn0.refl _ | apply Drawn0.step)⟩

/-! ### fold_within: function 25 -/
def fold_within.f (a0 : Int) (a1 : Int) (a2 : Int) : Option (Bool) := if a0 ≥ a1 then (some (decide (a0 ≤ a2))) else (some false)
set_option maxHeartbeats 8000000 in
set_option maxRecDepth 100000 in
theorem fold_within.calls (a0 : Int) (a1 : Int) (a2 : Int) (r : Bool) (w : World) (h : fold_within.f a0 a1 a2 = some r) :
    Calls Try.prog 25 #[.int .i32 a0, .int .i32 a1, .int .i32 a2] w fun e w' => e = .returned (.bool r) ∧ Drawn0 w w' := by
  have H : (if a0 ≥ a1 then (some (decide (a0 ≤ a2))) else (some false)) = some r := h
  clear h
  by_cases c4 : a0 ≥ a1
  · rw [if_pos c4] at H
    have c4b0 : decide (a1 ≤ a0) = true := decide_eq_true c4
    clear c4
    obtain rfl := Option.some.inj H
    go_enter Try.func25, Try.ntmps25
    go_wp2
    go_ret
    exact ⟨by first | rfl | (simp; done) | (simp [*]; done), by repeat (first | exact Drawn0.refl _ | apply Drawn0.step)⟩
  · rw [if_neg c4] at H
    have c4b0 : decide (a1 ≤ a0) = false := decide_eq_false c4
    clear c4
    obtain rfl := Option.some.inj H
    go_enter Try.func25, Try.ntmps25
    go_wp2
    go_ret
    exact ⟨by first | rfl | (simp; done) | (simp [*]; done), by repeat (first | exact Drawn0.refl _ | apply Drawn0.step)⟩

/-! ### fold_up: function 18 -/
mutual
def fold_up.j2 : Nat → Int → Bool → Option (Int)
  | 0, _, _ => none
  | k + 1, x0, x3 => if x3 = true then (some 32) else ((fold_within.f x0 904 906).bind fun t106 => (if t106 = true then (some 37) else ((fold_within.f x0 8544 8555).bind fun t107 => (if t107 = true then (some 16) else ((fold_within.f x0 256 311).bind fun t108 => (if t108 = true then (fold_up.j3 k x0 true) else ((fold_within.f x0 330 375).bind fun t109 => (fold_up.j3 k x0 t109))))))))
def fold_up.j3 : Nat → Int → Bool → Option (Int)
  | 0, _, _ => none
  | k + 1, x0, x28 => if x28 = true then (if x0 = 312 then (some 0) else (some (wrap32 (1 - (Go.bits .and .i32 x0 1))))) else ((fold_within.f x0 313 328).bind fun t110 => (if t110 = true then (some (Go.bits .and .i32 x0 1)) else ((fold_within.f x0 377 382).bind fun t111 => (if t111 = true then (some (Go.bits .and .i32 x0 1)) else (some 0)))))
def fold_up.j0 : Nat → Int → Bool → Option (Int)
  | 0, _, _ => none
  | k + 1, x0, x3 => if x3 = true then (fold_up.j2 k x0 x3) else ((fold_within.f x0 913 939).bind fun t103 => (if t103 = true then (fold_up.j1 k x0 (x0 != 930)) else (fold_up.j1 k x0 false)))
def fold_up.j1 : Nat → Int → Bool → Option (Int)
  | 0, _, _ => none
  | k + 1, x0, x3 => if x3 = true then (fold_up.j2 k x0 x3) else ((fold_within.f x0 1040 1071).bind fun t104 => (if t104 = true then (fold_up.j2 k x0 t104) else ((fold_within.f x0 65313 65338).bind fun t105 => (fold_up.j2 k x0 t105))))
end
def fold_up.f (k : Nat) (a0 : Int) : Option (Int) := (fold_within.f a0 65 90).bind fun t101 => (if t101 = true then (fold_up.j2 k a0 t101) else ((fold_within.f a0 192 222).bind fun t102 => (if t102 = true then (fold_up.j0 k a0 (a0 != 215)) else (fold_up.j0 k a0 false))))
theorem fold_up.mono_l : ∀ k, (∀ y0 y1, LeO (fold_up.j2 k y0 y1) (fold_up.j2 (k + 1) y0 y1)) ∧ (∀ y0 y1, LeO (fold_up.j3 k y0 y1) (fold_up.j3 (k + 1) y0 y1)) ∧ (∀ y0 y1, LeO (fold_up.j0 k y0 y1) (fold_up.j0 (k + 1) y0 y1)) ∧ (∀ y0 y1, LeO (fold_up.j1 k y0 y1) (fold_up.j1 (k + 1) y0 y1))
  | 0 => ⟨fun _ _ r h => by simp [fold_up.j2] at h, fun _ _ r h => by simp [fold_up.j3] at h, fun _ _ r h => by simp [fold_up.j0] at h, fun _ _ r h => by simp [fold_up.j1] at h⟩
  | k + 1 => by
    obtain ⟨ih0, ih1, ih2, ih3⟩ := fold_up.mono_l k
    refine ⟨?_, ?_, ?_, ?_⟩
    · intro y0 y1
      unfold fold_up.j2
      repeat' first
      | (with_reducible exact ih0 _ _)
      | (with_reducible exact ih1 _ _)
      | (with_reducible exact ih2 _ _)
      | (with_reducible exact ih3 _ _)
      | (with_reducible exact LeO.refl _)
      | (with_reducible exact LeO.none _)
      | (with_reducible refine LeO.ite ?_ ?_)
      | (with_reducible refine LeO.bind ?_ (fun _ => ?_))
      | exact ih0 _ _
      | exact ih1 _ _
      | exact ih2 _ _
      | exact ih3 _ _
      | exact LeO.none _
      | refine LeO.ite ?_ ?_
      | refine LeO.bind ?_ (fun _ => ?_)
    · intro y0 y1
      unfold fold_up.j3
      repeat' first
      | (with_reducible exact ih0 _ _)
      | (with_reducible exact ih1 _ _)
      | (with_reducible exact ih2 _ _)
      | (with_reducible exact ih3 _ _)
      | (with_reducible exact LeO.refl _)
      | (with_reducible exact LeO.none _)
      | (with_reducible refine LeO.ite ?_ ?_)
      | (with_reducible refine LeO.bind ?_ (fun _ => ?_))
      | exact ih0 _ _
      | exact ih1 _ _
      | exact ih2 _ _
      | exact ih3 _ _
      | exact LeO.none _
      | refine LeO.ite ?_ ?_
      | refine LeO.bind ?_ (fun _ => ?_)
    · intro y0 y1
      unfold fold_up.j0
      repeat' first
      | (with_reducible exact ih0 _ _)
      | (with_reducible exact ih1 _ _)
      | (with_reducible exact ih2 _ _)
      | (with_reducible exact ih3 _ _)
      | (with_reducible exact LeO.refl _)
      | (with_reducible exact LeO.none _)
      | (with_reducible refine LeO.ite ?_ ?_)
      | (with_reducible refine LeO.bind ?_ (fun _ => ?_))
      | exact ih0 _ _
      | exact ih1 _ _
      | exact ih2 _ _
      | exact ih3 _ _
      | exact LeO.none _
      | refine LeO.ite ?_ ?_
      | refine LeO.bind ?_ (fun _ => ?_)
    · intro y0 y1
      unfold fold_up.j1
      repeat' first
      | (with_reducible exact ih0 _ _)
      | (with_reducible exact ih1 _ _)
      | (with_reducible exact ih2 _ _)
      | (with_reducible exact ih3 _ _)
      | (with_reducible exact LeO.refl _)
      | (with_reducible exact LeO.none _)
      | (with_reducible refine LeO.ite ?_ ?_)
      | (with_reducible refine LeO.bind ?_ (fun _ => ?_))
      | exact ih0 _ _
      | exact ih1 _ _
      | exact ih2 _ _
      | exact ih3 _ _
      | exact LeO.none _
      | refine LeO.ite ?_ ?_
      | refine LeO.bind ?_ (fun _ => ?_)
theorem fold_up.mono : ∀ a0 k, LeO (fold_up.f k a0) (fold_up.f (k + 1) a0) := by
  intro a0 k
  obtain ⟨ih0, ih1, ih2, ih3⟩ := fold_up.mono_l k
  unfold fold_up.f
  repeat' first
      | (with_reducible exact ih0 _ _)
      | (with_reducible exact ih1 _ _)
      | (with_reducible exact ih2 _ _)
      | (with_reducible exact ih3 _ _)
      | (with_reducible exact LeO.refl _)
      | (with_reducible exact LeO.none _)
      | (with_reducible refine LeO.ite ?_ ?_)
      | (with_reducible refine LeO.bind ?_ (fun _ => ?_))
      | exact ih0 _ _
      | exact ih1 _ _
      | exact ih2 _ _
      | exact ih3 _ _
      | exact LeO.none _
      | refine LeO.ite ?_ ?_
      | refine LeO.bind ?_ (fun _ => ?_)
set_option maxHeartbeats 8000000 in
set_option maxRecDepth 100000 in
theorem fold_up.calls (k : Nat) (a0 : Int) (r : Int) (w : World) (h : fold_up.f k a0 = some r) :
    Calls Try.prog 18 #[.int .i32 a0] w fun e w' => e = .returned (.int .i32 r) ∧ Drawn0 w w' := by
  have H : ((fold_within.f a0 65 90).bind fun t101 => (if t101 = true then (fold_up.j2 k a0 t101) else ((fold_within.f a0 192 222).bind fun t102 => (if t102 = true then (fold_up.j0 k a0 (a0 != 215)) else (fold_up.j0 k a0 false))))) = some r := h
  clear h
  replace H := Option.bind_eq_some_iff.mp H
  obtain ⟨t101, A20, H⟩ := H
  replace H : (if t101 = true then (fold_up.j2 k a0 t101) else ((fold_within.f a0 192 222).bind fun t102 => (if t102 = true then (fold_up.j0 k a0 (a0 != 215)) else (fold_up.j0 k a0 false)))) = some r := H
  have A2 := Aside0.mk A20
  clear A20
  have HC3 := Aside0.mk H
  clear H
  go_enter Try.func18, Try.ntmps18
  go_upto_if 3 with (first | ((with_reducible refine gate_callee (f := 25) rfl ?_); refine goesL_ (some 5) rfl rfl Try.func25 (by kernel_rfl) rfl #[.int .i32 a0, .int .i32 65, .int .i32 90] rfl (by (try simp only [List.map_toArray, List.map_cons, List.map_nil]); first | done | rfl | (simp only [List.length_drop, List.length_take]; rfl)) ?_; (with_reducible refine (fold_within.calls a0 65 90 t101 _ A2.out).mono ?_); rintro e w' ⟨rfl, ⟨nd, rfl⟩⟩; (try clear A2); refine ⟨_, rfl, ?_⟩))
  (try simp only [Act.put, List.setIfInBounds_toArray, List.set_cons_zero, List.set_cons_succ])
  go_cut [3] (fun v3 wc => ∃ (kq : Nat) (x3_2 : Bool), v3 = .bool x3_2 ∧ Aside0 (fold_up.j2 kq a0 x3_2 = some r) ∧ Aside0 (kq ≤ k) ∧ Drawn0 w wc)
  case first =>
    have H := HC3.out
    clear HC3
    by_cases c4 : t101 = true
    · subst c4
      have H1 : (fold_up.j2 k a0 true) = some r := by rw [if_pos rfl] at H; exact H
      clear H
      have H := H1
      clear H1
      have H' := Aside0.mk H
      clear H
      go_wp2
      go_meet
      case rel => exact ⟨_, (true), (by first | rfl | (simp; done) | (simp [*]; done)), H', ⟨by first | omega | exact Nat.le_refl _⟩, by repeat (first | exact Drawn0.refl _ | apply Drawn0.step)⟩
    · replace c4 := Bool.eq_false_iff.mpr c4
      subst c4
      have H1 : ((fold_within.f a0 192 222).bind fun t102 => (if t102 = true then (fold_up.j0 k a0 (a0 != 215)) else (fold_up.j0 k a0 false))) = some r := by rw [if_neg (show ¬ (false = true) by decide)] at H; exact H
      clear H
      have H := H1
      clear H1
      have HC5 := Aside0.mk H
      clear H
      go_upto_region 2 with (fail)
      go_cut [3] (fun v3 wc => ∃ (kq : Nat) (x3_4 : Bool), v3 = .bool x3_4 ∧ Aside0 (fold_up.j0 kq a0 x3_4 = some r) ∧ Aside0 (kq ≤ k) ∧ Drawn0 w wc)
      case first =>
        have H := HC5.out
        clear HC5
        replace H := Option.bind_eq_some_iff.mp H
        obtain ⟨t102, A60, H⟩ := H
        replace H : (if t102 = true then (fold_up.j0 k a0 (a0 != 215)) else (fold_up.j0 k a0 false)) = some r := H
        have A6 := Aside0.mk A60
        clear A60
        by_cases c7 : t102 = true
        · subst c7
          have H1 : (fold_up.j0 k a0 (a0 != 215)) = some r := by rw [if_pos rfl] at H; exact H
          clear H
          have H := H1
          clear H1
          have H' := Aside0.mk H
          clear H
          go_wp2_with (first | ((with_reducible refine gate_callee (f := 25) rfl ?_); refine goesL_ (some 7) rfl rfl Try.func25 (by kernel_rfl) rfl #[.int .i32 a0, .int .i32 192, .int .i32 222] rfl (by (try simp only [List.map_toArray, List.map_cons, List.map_nil]); first | done | rfl | (simp only [List.length_drop, List.length_take]; rfl)) ?_; (with_reducible refine (fold_within.calls a0 192 222 true _ A6.out).mono ?_); rintro e w' ⟨rfl, ⟨nd, rfl⟩⟩; (try clear A6); refine ⟨_, rfl, ?_⟩))
          go_meet
          case rel => exact ⟨_, ((a0 != 215)), (by first | rfl | (simp; done) | (simp [*]; done)), H', ⟨by first | omega | exact Nat.le_refl _⟩, by repeat (first | exact Drawn0.refl _ | apply Drawn0.step)⟩
        · replace c7 := Bool.eq_false_iff.mpr c7
          subst c7
          have H1 : (fold_up.j0 k a0 false) = some r := by rw [if_neg (show ¬ (false = true) by decide)] at H; exact H
          clear H
          have H := H1
          clear H1
          have H' := Aside0.mk H
          clear H
          go_wp2_with (first | ((with_reducible refine gate_callee (f := 25) rfl ?_); refine goesL_ (some 7) rfl rfl Try.func25 (by kernel_rfl) rfl #[.int .i32 a0, .int .i32 192, .int .i32 222] rfl (by (try simp only [List.map_toArray, List.map_cons, List.map_nil]); first | done | rfl | (simp only [List.length_drop, List.length_take]; rfl)) ?_; (with_reducible refine (fold_within.calls a0 192 222 false _ A6.out).mono ?_); rintro e w' ⟨rfl, ⟨nd, rfl⟩⟩; (try clear A6); refine ⟨_, rfl, ?_⟩))
          go_meet
          case rel => exact ⟨_, (false), (by first | rfl | (simp; done) | (simp [*]; done)), H', ⟨by first | omega | exact Nat.le_refl _⟩, by repeat (first | exact Drawn0.refl _ | apply Drawn0.step)⟩
      case rest =>
        clear HC5
        try clear c1
        try clear c2
        try clear p2
        try clear c4
        try clear c7
        obtain ⟨kq, x3_4, rfl, HA, HJ4, ⟨mc4, rfl⟩⟩ := hcut
        cases kq with
        | zero => exact absurd HA.out (by simp [fold_up.j0])
        | succ kj4 =>
          have H := HA.out
          clear HA
          simp only [fold_up.j0] at H
          by_cases c8 : x3_4 = true
          · subst c8
            have H1 : (fold_up.j2 kj4 a0 true) = some r := by rw [if_pos rfl] at H; exact H
            clear H
            have H := H1
            clear H1
            have H' := Aside0.mk H
            clear H
            go_wp2
            go_meet
            case rel => exact ⟨_, (true), (by first | rfl | (simp; done) | (simp [*]; done)), H', ⟨by have := HJ4.out; first | omega | exact Nat.le_refl _⟩, by repeat (first | exact Drawn0.refl _ | apply Drawn0.step)⟩
          · replace c8 := Bool.eq_false_iff.mpr c8
            subst c8
            have H1 : ((fold_within.f a0 913 939).bind fun t103 => (if t103 = true then (fold_up.j1 kj4 a0 (a0 != 930)) else (fold_up.j1 kj4 a0 false))) = some r := by rw [if_neg (show ¬ (false = true) by decide)] at H; exact H
            clear H
            have H := H1
            clear H1
            have HC9 := Aside0.mk H
            clear H
            go_upto_region 3 with (fail)
            go_cut [3] (fun v3 wc => ∃ (kq : Nat) (x3_8 : Bool), v3 = .bool x3_8 ∧ Aside0 (fold_up.j1 kq a0 x3_8 = some r) ∧ Aside0 (kq ≤ kj4) ∧ Drawn0 w wc)
            case first =>
              have H := HC9.out
              clear HC9
              replace H := Option.bind_eq_some_iff.mp H
              obtain ⟨t103, A100, H⟩ := H
              replace H : (if t103 = true then (fold_up.j1 kj4 a0 (a0 != 930)) else (fold_up.j1 kj4 a0 false)) = some r := H
              have A10 := Aside0.mk A100
              clear A100
              by_cases c11 : t103 = true
              · subst c11
                have H1 : (fold_up.j1 kj4 a0 (a0 != 930)) = some r := by rw [if_pos rfl] at H; exact H
                clear H
                have H := H1
                clear H1
                have H' := Aside0.mk H
                clear H
                go_wp2_with (first | ((with_reducible refine gate_callee (f := 25) rfl ?_); refine goesL_ (some 13) rfl rfl Try.func25 (by kernel_rfl) rfl #[.int .i32 a0, .int .i32 913, .int .i32 939] rfl (by (try simp only [List.map_toArray, List.map_cons, List.map_nil]); first | done | rfl | (simp only [List.length_drop, List.length_take]; rfl)) ?_; (with_reducible refine (fold_within.calls a0 913 939 true _ A10.out).mono ?_); rintro e w' ⟨rfl, ⟨nd, rfl⟩⟩; (try clear A10); refine ⟨_, rfl, ?_⟩))
                go_meet
                case rel => exact ⟨_, ((a0 != 930)), (by first | rfl | (simp; done) | (simp [*]; done)), H', ⟨by have := HJ4.out; first | omega | exact Nat.le_refl _⟩, by repeat (first | exact Drawn0.refl _ | apply Drawn0.step)⟩
              · replace c11 := Bool.eq_false_iff.mpr c11
                subst c11
                have H1 : (fold_up.j1 kj4 a0 false) = some r := by rw [if_neg (show ¬ (false = true) by decide)] at H; exact H
                clear H
                have H := H1
                clear H1
                have H' := Aside0.mk H
                clear H
                go_wp2_with (first | ((with_reducible refine gate_callee (f := 25) rfl ?_); refine goesL_ (some 13) rfl rfl Try.func25 (by kernel_rfl) rfl #[.int .i32 a0, .int .i32 913, .int .i32 939] rfl (by (try simp only [List.map_toArray, List.map_cons, List.map_nil]); first | done | rfl | (simp only [List.length_drop, List.length_take]; rfl)) ?_; (with_reducible refine (fold_within.calls a0 913 939 false _ A10.out).mono ?_); rintro e w' ⟨rfl, ⟨nd, rfl⟩⟩; (try clear A10); refine ⟨_, rfl, ?_⟩))
                go_meet
                case rel => exact ⟨_, (false), (by first | rfl | (simp; done) | (simp [*]; done)), H', ⟨by have := HJ4.out; first | omega | exact Nat.le_refl _⟩, by repeat (first | exact Drawn0.refl _ | apply Drawn0.step)⟩
            case rest =>
              clear HC9
              try clear c1
              try clear c2
              try clear p2
              try clear c4
              try clear c7
              try clear c8
              try clear c11
              try clear p2
              obtain ⟨kq, x3_8, rfl, HA, HJ8, ⟨mc8, rfl⟩⟩ := hcut
              cases kq with
              | zero => exact absurd HA.out (by simp [fold_up.j1])
              | succ kj8 =>
                have H := HA.out
                clear HA
                simp only [fold_up.j1] at H
                by_cases c12 : x3_8 = true
                · subst c12
                  have H1 : (fold_up.j2 kj8 a0 true) = some r := by rw [if_pos rfl] at H; exact H
                  clear H
                  have H := H1
                  clear H1
                  have H' := Aside0.mk H
                  clear H
                  go_wp2
                  go_meet
                  case rel => exact ⟨_, (true), (by first | rfl | (simp; done) | (simp [*]; done)), H', ⟨by have := HJ4.out; have := HJ8.out; first | omega | exact Nat.le_refl _⟩, by repeat (first | exact Drawn0.refl _ | apply Drawn0.step)⟩
                · replace c12 := Bool.eq_false_iff.mpr c12
                  subst c12
                  have H1 : ((fold_within.f a0 1040 1071).bind fun t104 => (if t104 = true then (fold_up.j2 kj8 a0 t104) else ((fold_within.f a0 65313 65338).bind fun t105 => (fold_up.j2 kj8 a0 t105)))) = some r := by rw [if_neg (show ¬ (false = true) by decide)] at H; exact H
                  clear H
                  have H := H1
                  clear H1
                  replace H := Option.bind_eq_some_iff.mp H
                  obtain ⟨t104, A130, H⟩ := H
                  replace H : (if t104 = true then (fold_up.j2 kj8 a0 t104) else ((fold_within.f a0 65313 65338).bind fun t105 => (fold_up.j2 kj8 a0 t105))) = some r := H
                  have A13 := Aside0.mk A130
                  clear A130
                  by_cases c14 : t104 = true
                  · subst c14
                    have H1 : (fold_up.j2 kj8 a0 true) = some r := by rw [if_pos rfl] at H; exact H
                    clear H
                    have H := H1
                    clear H1
                    have H' := Aside0.mk H
                    clear H
                    go_wp2_with (first | ((with_reducible refine gate_callee (f := 25) rfl ?_); refine goesL_ (some 19) rfl rfl Try.func25 (by kernel_rfl) rfl #[.int .i32 a0, .int .i32 1040, .int .i32 1071] rfl (by (try simp only [List.map_toArray, List.map_cons, List.map_nil]); first | done | rfl | (simp only [List.length_drop, List.length_take]; rfl)) ?_; (with_reducible refine (fold_within.calls a0 1040 1071 true _ A13.out).mono ?_); rintro e w' ⟨rfl, ⟨nd, rfl⟩⟩; (try clear A13); refine ⟨_, rfl, ?_⟩))
                    go_meet
                    case rel => exact ⟨_, (true), (by first | rfl | (simp; done) | (simp [*]; done)), H', ⟨by have := HJ4.out; have := HJ8.out; first | omega | exact Nat.le_refl _⟩, by repeat (first | exact Drawn0.refl _ | apply Drawn0.step)⟩
                  · replace c14 := Bool.eq_false_iff.mpr c14
                    subst c14
                    have H1 : ((fold_within.f a0 65313 65338).bind fun t105 => (fold_up.j2 kj8 a0 t105)) = some r := by rw [if_neg (show ¬ (false = true) by decide)] at H; exact H
                    clear H
                    have H := H1
                    clear H1
                    replace H := Option.bind_eq_some_iff.mp H
                    obtain ⟨t105, A150, H⟩ := H
                    replace H : (fold_up.j2 kj8 a0 t105) = some r := H
                    have A15 := Aside0.mk A150
                    clear A150
                    have H' := Aside0.mk H
                    clear H
                    go_wp2_with (first | ((with_reducible refine gate_callee (f := 25) rfl ?_); refine goesL_ (some 19) rfl rfl Try.func25 (by kernel_rfl) rfl #[.int .i32 a0, .int .i32 1040, .int .i32 1071] rfl (by (try simp only [List.map_toArray, List.map_cons, List.map_nil]); first | done | rfl | (simp only [List.length_drop, List.length_take]; rfl)) ?_; (with_reducible refine (fold_within.calls a0 1040 1071 false _ A13.out).mono ?_); rintro e w' ⟨rfl, ⟨nd, rfl⟩⟩; (try clear A13); refine ⟨_, rfl, ?_⟩) | ((with_reducible refine gate_callee (f := 25) rfl ?_); refine goesL_ (some 21) rfl rfl Try.func25 (by kernel_rfl) rfl #[.int .i32 a0, .int .i32 65313, .int .i32 65338] rfl (by (try simp only [List.map_toArray, List.map_cons, List.map_nil]); first | done | rfl | (simp only [List.length_drop, List.length_take]; rfl)) ?_; (with_reducible refine (fold_within.calls a0 65313 65338 t105 _ A15.out).mono ?_); rintro e w' ⟨rfl, ⟨nd, rfl⟩⟩; (try clear A15); refine ⟨_, rfl, ?_⟩))
                    go_meet
                    case rel => exact ⟨_, (t105), (by first | rfl | (simp; done) | (simp [*]; done)), H', ⟨by have := HJ4.out; have := HJ8.out; first | omega | exact Nat.le_refl _⟩, by repeat (first | exact Drawn0.refl _ | apply Drawn0.step)⟩
  case rest =>
    clear HC3
    try clear c1
    try clear c2
    try clear p2
    try clear c4
    try clear c7
    try clear c8
    try clear c11
    try clear c12
    try clear c14
    try clear p2
    obtain ⟨kq, x3_2, rfl, HA, HJ2, ⟨mc2, rfl⟩⟩ := hcut
    cases kq with
    | zero => exact absurd HA.out (by simp [fold_up.j2])
    | succ kj2 =>
      have H := HA.out
      clear HA
      simp only [fold_up.j2] at H
      by_cases c16 : x3_2 = true
      · subst c16
        have H1 : (some 32) = some r := by rw [if_pos rfl] at H; exact H
        clear H
        have H := H1
        clear H1
        obtain rfl := Option.some.inj H
        go_wp2
        go_ret
        exact ⟨by first | rfl | (simp; done) | (simp [*]; done), by repeat (first | exact Drawn0.refl _ | apply Drawn0.step)⟩
      · replace c16 := Bool.eq_false_iff.mpr c16
        subst c16
        have H1 : ((fold_within.f a0 904 906).bind fun t106 => (if t106 = true then (some 37) else ((fold_within.f a0 8544 8555).bind fun t107 => (if t107 = true then (some 16) else ((fold_within.f a0 256 311).bind fun t108 => (if t108 = true then (fold_up.j3 kj2 a0 true) else ((fold_within.f a0 330 375).bind fun t109 => (fold_up.j3 kj2 a0 t109)))))))) = some r := by rw [if_neg (show ¬ (false = true) by decide)] at H; exact H
        clear H
        have H := H1
        clear H1
        replace H := Option.bind_eq_some_iff.mp H
        obtain ⟨t106, A170, H⟩ := H
        replace H : (if t106 = true then (some 37) else ((fold_within.f a0 8544 8555).bind fun t107 => (if t107 = true then (some 16) else ((fold_within.f a0 256 311).bind fun t108 => (if t108 = true then (fold_up.j3 kj2 a0 true) else ((fold_within.f a0 330 375).bind fun t109 => (fold_up.j3 kj2 a0 t109))))))) = some r := H
        have A17 := Aside0.mk A170
        clear A170
        by_cases c18 : t106 = true
        · subst c18
          have H1 : (some 37) = some r := by rw [if_pos rfl] at H; exact H
          clear H
          have H := H1
          clear H1
          obtain rfl := Option.some.inj H
          go_wp2_with (first | ((with_reducible refine gate_callee (f := 25) rfl ?_); refine goesL_ (some 24) rfl rfl Try.func25 (by kernel_rfl) rfl #[.int .i32 a0, .int .i32 904, .int .i32 906] rfl (by (try simp only [List.map_toArray, List.map_cons, List.map_nil]); first | done | rfl | (simp only [List.length_drop, List.length_take]; rfl)) ?_; (with_reducible refine (fold_within.calls a0 904 906 true _ A17.out).mono ?_); rintro e w' ⟨rfl, ⟨nd, rfl⟩⟩; (try clear A17); refine ⟨_, rfl, ?_⟩))
          go_ret
          exact ⟨by first | rfl | (simp; done) | (simp [*]; done), by repeat (first | exact Drawn0.refl _ | apply Drawn0.step)⟩
        · replace c18 := Bool.eq_false_iff.mpr c18
          subst c18
          have H1 : ((fold_within.f a0 8544 8555).bind fun t107 => (if t107 = true then (some 16) else ((fold_within.f a0 256 311).bind fun t108 => (if t108 = true then (fold_up.j3 kj2 a0 true) else ((fold_within.f a0 330 375).bind fun t109 => (fold_up.j3 kj2 a0 t109)))))) = some r := by rw [if_neg (show ¬ (false = true) by decide)] at H; exact H
          clear H
          have H := H1
          clear H1
          replace H := Option.bind_eq_some_iff.mp H
          obtain ⟨t107, A190, H⟩ := H
          replace H : (if t107 = true then (some 16) else ((fold_within.f a0 256 311).bind fun t108 => (if t108 = true then (fold_up.j3 kj2 a0 true) else ((fold_within.f a0 330 375).bind fun t109 => (fold_up.j3 kj2 a0 t109))))) = some r := H
          have A19 := Aside0.mk A190
          clear A190
          by_cases c20 : t107 = true
          · subst c20
            have H1 : (some 16) = some r := by rw [if_pos rfl] at H; exact H
            clear H
            have H := H1
            clear H1
            obtain rfl := Option.some.inj H
            go_wp2_with (first | ((with_reducible refine gate_callee (f := 25) rfl ?_); refine goesL_ (some 24) rfl rfl Try.func25 (by kernel_rfl) rfl #[.int .i32 a0, .int .i32 904, .int .i32 906] rfl (by (try simp only [List.map_toArray, List.map_cons, List.map_nil]); first | done | rfl | (simp only [List.length_drop, List.length_take]; rfl)) ?_; (with_reducible refine (fold_within.calls a0 904 906 false _ A17.out).mono ?_); rintro e w' ⟨rfl, ⟨nd, rfl⟩⟩; (try clear A17); refine ⟨_, rfl, ?_⟩) | ((with_reducible refine gate_callee (f := 25) rfl ?_); refine goesL_ (some 27) rfl rfl Try.func25 (by kernel_rfl) rfl #[.int .i32 a0, .int .i32 8544, .int .i32 8555] rfl (by (try simp only [List.map_toArray, List.map_cons, List.map_nil]); first | done | rfl | (simp only [List.length_drop, List.length_take]; rfl)) ?_; (with_reducible refine (fold_within.calls a0 8544 8555 true _ A19.out).mono ?_); rintro e w' ⟨rfl, ⟨nd, rfl⟩⟩; (try clear A19); refine ⟨_, rfl, ?_⟩))
            go_ret
            exact ⟨by first | rfl | (simp; done) | (simp [*]; done), by repeat (first | exact Drawn0.refl _ | apply Drawn0.step)⟩
          · replace c20 := Bool.eq_false_iff.mpr c20
            subst c20
            have H1 : ((fold_within.f a0 256 311).bind fun t108 => (if t108 = true then (fold_up.j3 kj2 a0 true) else ((fold_within.f a0 330 375).bind fun t109 => (fold_up.j3 kj2 a0 t109)))) = some r := by rw [if_neg (show ¬ (false = true) by decide)] at H; exact H
            clear H
            have H := H1
            clear H1
            have HC21 := Aside0.mk H
            clear H
            go_upto_region 11 with (first | ((with_reducible refine gate_callee (f := 25) rfl ?_); refine goesL_ (some 24) rfl rfl Try.func25 (by kernel_rfl) rfl #[.int .i32 a0, .int .i32 904, .int .i32 906] rfl (by (try simp only [List.map_toArray, List.map_cons, List.map_nil]); first | done | rfl | (simp only [List.length_drop, List.length_take]; rfl)) ?_; (with_reducible refine (fold_within.calls a0 904 906 false _ A17.out).mono ?_); rintro e w' ⟨rfl, ⟨nd, rfl⟩⟩; (try clear A17); refine ⟨_, rfl, ?_⟩) | ((with_reducible refine gate_callee (f := 25) rfl ?_); refine goesL_ (some 27) rfl rfl Try.func25 (by kernel_rfl) rfl #[.int .i32 a0, .int .i32 8544, .int .i32 8555] rfl (by (try simp only [List.map_toArray, List.map_cons, List.map_nil]); first | done | rfl | (simp only [List.length_drop, List.length_take]; rfl)) ?_; (with_reducible refine (fold_within.calls a0 8544 8555 false _ A19.out).mono ?_); rintro e w' ⟨rfl, ⟨nd, rfl⟩⟩; (try clear A19); refine ⟨_, rfl, ?_⟩))
            (try simp only [Act.put, List.setIfInBounds_toArray, List.set_cons_zero, List.set_cons_succ])
            go_cut [28] (fun v28 wc => ∃ (kq : Nat) (x28_20 : Bool), v28 = .bool x28_20 ∧ Aside0 (fold_up.j3 kq a0 x28_20 = some r) ∧ Aside0 (kq ≤ kj2) ∧ Drawn0 w wc)
            case first =>
              have H := HC21.out
              clear HC21
              replace H := Option.bind_eq_some_iff.mp H
              obtain ⟨t108, A220, H⟩ := H
              replace H : (if t108 = true then (fold_up.j3 kj2 a0 true) else ((fold_within.f a0 330 375).bind fun t109 => (fold_up.j3 kj2 a0 t109))) = some r := H
              have A22 := Aside0.mk A220
              clear A220
              by_cases c23 : t108 = true
              · subst c23
                have H1 : (fold_up.j3 kj2 a0 true) = some r := by rw [if_pos rfl] at H; exact H
                clear H
                have H := H1
                clear H1
                have H' := Aside0.mk H
                clear H
                go_wp2_with (first | ((with_reducible refine gate_callee (f := 25) rfl ?_); refine goesL_ (some 30) rfl rfl Try.func25 (by kernel_rfl) rfl #[.int .i32 a0, .int .i32 256, .int .i32 311] rfl (by (try simp only [List.map_toArray, List.map_cons, List.map_nil]); first | done | rfl | (simp only [List.length_drop, List.length_take]; rfl)) ?_; (with_reducible refine (fold_within.calls a0 256 311 true _ A22.out).mono ?_); rintro e w' ⟨rfl, ⟨nd, rfl⟩⟩; (try clear A22); refine ⟨_, rfl, ?_⟩))
                go_meet
                case rel => exact ⟨_, (true), (by first | rfl | (simp; done) | (simp [*]; done)), H', ⟨by have := HJ2.out; first | omega | exact Nat.le_refl _⟩, by repeat (first | exact Drawn0.refl _ | apply Drawn0.step)⟩
              · replace c23 := Bool.eq_false_iff.mpr c23
                subst c23
                have H1 : ((fold_within.f a0 330 375).bind fun t109 => (fold_up.j3 kj2 a0 t109)) = some r := by rw [if_neg (show ¬ (false = true) by decide)] at H; exact H
                clear H
                have H := H1
                clear H1
                replace H := Option.bind_eq_some_iff.mp H
                obtain ⟨t109, A240, H⟩ := H
                replace H : (fold_up.j3 kj2 a0 t109) = some r := H
                have A24 := Aside0.mk A240
                clear A240
                have H' := Aside0.mk H
                clear H
                go_wp2_with (first | ((with_reducible refine gate_callee (f := 25) rfl ?_); refine goesL_ (some 30) rfl rfl Try.func25 (by kernel_rfl) rfl #[.int .i32 a0, .int .i32 256, .int .i32 311] rfl (by (try simp only [List.map_toArray, List.map_cons, List.map_nil]); first | done | rfl | (simp only [List.length_drop, List.length_take]; rfl)) ?_; (with_reducible refine (fold_within.calls a0 256 311 false _ A22.out).mono ?_); rintro e w' ⟨rfl, ⟨nd, rfl⟩⟩; (try clear A22); refine ⟨_, rfl, ?_⟩) | (go_at_call 25; (with_reducible refine (fold_within.calls a0 330 375 t109 _ A24.out).mono ?_); rintro e w' ⟨rfl, ⟨nd, rfl⟩⟩; (try clear A24)))
                go_meet
                case rel => exact ⟨_, (t109), (by first | rfl | (simp; done) | (simp [*]; done)), H', ⟨by have := HJ2.out; first | omega | exact Nat.le_refl _⟩, by repeat (first | exact Drawn0.refl _ | apply Drawn0.step)⟩
            case rest =>
              clear HC21
              try clear c1
              try clear c2
              try clear p2
              try clear c4
              try clear c7
              try clear c8
              try clear c11
              try clear c12
              try clear c14
              try clear c16
              try clear c18
              try clear c20
              try clear c23
              try clear p2
              obtain ⟨kq, x28_20, rfl, HA, HJ20, ⟨mc20, rfl⟩⟩ := hcut
              cases kq with
              | zero => exact absurd HA.out (by simp [fold_up.j3])
              | succ kj20 =>
                have H := HA.out
                clear HA
                simp only [fold_up.j3] at H
                by_cases c25 : x28_20 = true
                · subst c25
                  have H1 : (if a0 = 312 then (some 0) else (some (wrap32 (1 - (Go.bits .and .i32 a0 1))))) = some r := by rw [if_pos rfl] at H; exact H
                  clear H
                  have H := H1
                  clear H1
                  by_cases c26 : a0 = 312
                  · rw [if_pos c26] at H
                    have c26b0 : (a0 == 312) = true := beq_iff_eq.mpr c26
                    have c26b1 : (a0 != 312) = false := bne_eq_false_iff_eq.mpr c26
                    clear c26
                    obtain rfl := Option.some.inj H
                    go_wp2
                    go_ret
                    exact ⟨by first | rfl | (simp; done) | (simp [*]; done), by repeat (first | exact Drawn0.refl _ | apply Drawn0.step)⟩
                  · rw [if_neg c26] at H
                    have c26b0 : (a0 == 312) = false := beq_eq_false_iff_ne.mpr c26
                    have c26b1 : (a0 != 312) = true := bne_iff_ne.mpr c26
                    obtain rfl := Option.some.inj H
                    go_wp2
                    go_ret
                    exact ⟨by first | rfl | (simp; done) | (simp [*]; done), by repeat (first | exact Drawn0.refl _ | apply Drawn0.step)⟩
                · replace c25 := Bool.eq_false_iff.mpr c25
                  subst c25
                  have H1 : ((fold_within.f a0 313 328).bind fun t110 => (if t110 = true then (some (Go.bits .and .i32 a0 1)) else ((fold_within.f a0 377 382).bind fun t111 => (if t111 = true then (some (Go.bits .and .i32 a0 1)) else (some 0))))) = some r := by rw [if_neg (show ¬ (false = true) by decide)] at H; exact H
                  clear H
                  have H := H1
                  clear H1
                  replace H := Option.bind_eq_some_iff.mp H
                  obtain ⟨t110, A270, H⟩ := H
                  replace H : (if t110 = true then (some (Go.bits .and .i32 a0 1)) else ((fold_within.f a0 377 382).bind fun t111 => (if t111 = true then (some (Go.bits .and .i32 a0 1)) else (some 0)))) = some r := H
                  have A27 := Aside0.mk A270
                  clear A270
                  by_cases c28 : t110 = true
                  · subst c28
                    have H1 : (some (Go.bits .and .i32 a0 1)) = some r := by rw [if_pos rfl] at H; exact H
                    clear H
                    have H := H1
                    clear H1
                    obtain rfl := Option.some.inj H
                    go_wp2_with (first | ((with_reducible refine gate_callee (f := 25) rfl ?_); refine goesL_ (some 42) rfl rfl Try.func25 (by kernel_rfl) rfl #[.int .i32 a0, .int .i32 313, .int .i32 328] rfl (by (try simp only [List.map_toArray, List.map_cons, List.map_nil]); first | done | rfl | (simp only [List.length_drop, List.length_take]; rfl)) ?_; (with_reducible refine (fold_within.calls a0 313 328 true _ A27.out).mono ?_); rintro e w' ⟨rfl, ⟨nd, rfl⟩⟩; (try clear A27); refine ⟨_, rfl, ?_⟩))
                    go_ret
                    exact ⟨by first | rfl | (simp; done) | (simp [*]; done), by repeat (first | exact Drawn0.refl _ | apply Drawn0.step)⟩
                  · replace c28 := Bool.eq_false_iff.mpr c28
                    subst c28
                    have H1 : ((fold_within.f a0 377 382).bind fun t111 => (if t111 = true then (some (Go.bits .and .i32 a0 1)) else (some 0))) = some r := by rw [if_neg (show ¬ (false = true) by decide)] at H; exact H
                    clear H
                    have H := H1
                    clear H1
                    replace H := Option.bind_eq_some_iff.mp H
                    obtain ⟨t111, A290, H⟩ := H
                    replace H : (if t111 = true then (some (Go.bits .and .i32 a0 1)) else (some 0)) = some r := H
                    have A29 := Aside0.mk A290
                    clear A290
                    by_cases c30 : t111 = true
                    · subst c30
                      have H1 : (some (Go.bits .and .i32 a0 1)) = some r := by rw [if_pos rfl] at H; exact H
                      clear H
                      have H := H1
                      clear H1
                      obtain rfl := Option.some.inj H
                      go_wp2_with (first | ((with_reducible refine gate_callee (f := 25) rfl ?_); refine goesL_ (some 42) rfl rfl Try.func25 (by kernel_rfl) rfl #[.int .i32 a0, .int .i32 313, .int .i32 328] rfl (by (try simp only [List.map_toArray, List.map_cons, List.map_nil]); first | done | rfl | (simp only [List.length_drop, List.length_take]; rfl)) ?_; (with_reducible refine (fold_within.calls a0 313 328 false _ A27.out).mono ?_); rintro e w' ⟨rfl, ⟨nd, rfl⟩⟩; (try clear A27); refine ⟨_, rfl, ?_⟩) | (go_at_call 25; (with_reducible refine (fold_within.calls a0 377 382 true _ A29.out).mono ?_); rintro e w' ⟨rfl, ⟨nd, rfl⟩⟩; (try clear A29)))
                      go_ret
                      exact ⟨by first | rfl | (simp; done) | (simp [*]; done), by repeat (first | exact Drawn0.refl _ | apply Drawn0.step)⟩
                    · replace c30 := Bool.eq_false_iff.mpr c30
                      subst c30
                      have H1 : (some 0) = some r := by rw [if_neg (show ¬ (false = true) by decide)] at H; exact H
                      clear H
                      have H := H1
                      clear H1
                      obtain rfl := Option.some.inj H
                      go_wp2_with (first | ((with_reducible refine gate_callee (f := 25) rfl ?_); refine goesL_ (some 42) rfl rfl Try.func25 (by kernel_rfl) rfl #[.int .i32 a0, .int .i32 313, .int .i32 328] rfl (by (try simp only [List.map_toArray, List.map_cons, List.map_nil]); first | done | rfl | (simp only [List.length_drop, List.length_take]; rfl)) ?_; (with_reducible refine (fold_within.calls a0 313 328 false _ A27.out).mono ?_); rintro e w' ⟨rfl, ⟨nd, rfl⟩⟩; (try clear A27); refine ⟨_, rfl, ?_⟩) | (go_at_call 25; (with_reducible refine (fold_within.calls a0 377 382 false _ A29.out).mono ?_); rintro e w' ⟨rfl, ⟨nd, rfl⟩⟩; (try clear A29)))
                      go_ret
                      exact ⟨by first | rfl | (simp; done) | (simp [*]; done), by repeat (first | exact Drawn0.refl _ | apply Drawn0.step)⟩

end Go.Proofs.Ytobfngikgfjaoaa.P
