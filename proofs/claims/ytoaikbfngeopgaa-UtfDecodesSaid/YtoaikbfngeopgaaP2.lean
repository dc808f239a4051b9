-- Printed by wip/mk.py (this session's driver over the kit's print) and from wip/manual.
import Derived.Test.YtoaikbfngeopgaaP0
import Derived.Test.YtoaikbfngeopgaaP1
namespace Go.Proofs.Ytoaikbfngeopgaa.P
open Go.RowKit Go.Proofs.YtoaikbfngeopgaaW.PrintWords Go.Proofs.YtoaikbfngeopgaaW.PrintLast Go.Proofs.YtoaikbfngeopgaaW.PrintMore
attribute [local go_sem] max2_int min2_int max_two min_two max_three min_three max_four min_four   -- for this text's walks alone
set_option linter.unusedVariables false
set_option linter.unusedSimpArgs false

/-! ### utf_Decode: function 16, by hand (utf.Decode.tpl) -/
def utf_Decode.l0 : Nat → ByteArray → Int → Int → Int → Int → Option (Int × Int × Int)
  | 0, _, _, _, _, _ => none
  | k + 1, x0, x1, x7, x8, x10 => if x10 < x8 then (if 0 ≤ wrap64 (x1 + x10) then (if wrap64 (x1 + x10) < (x0.size : Int) then (if bt x0 (wrap64 (x1 + x10)) / 64 = 2 then utf_Decode.l0 k x0 x1 (Go.bits .or .i32 (wrap32 (x7 * 64)) (bt x0 (wrap64 (x1 + x10)) % 64)) x8 (wrap64 (x10 + 1)) else some (0, 0, 10)) else none) else none) else ((utf_Length.f x7).bind fun t => if t = x8 then some (x7, wrap64 (x1 + x8), 0) else some (0, 0, 10))
def utf_Decode.f (k : Nat) (a0 : ByteArray) (a1 : Int) : Option (Int × Int × Int) :=
  if a1 < 0 then some (0, 0, 2) else if a1 ≥ (a0.size : Int) then some (0, 0, 2)
  else if bt a0 a1 < 128 then some (bt a0 a1, wrap64 (a1 + 1), 0)
  else if bt a0 a1 ≥ 194 ∧ bt a0 a1 < 224 then (if 2 > wrap64 ((a0.size : Int) - a1) then some (0, 0, 10) else utf_Decode.l0 k a0 a1 (bt a0 a1 % 32) 2 1)
  else if bt a0 a1 ≥ 224 ∧ bt a0 a1 < 240 then (if 3 > wrap64 ((a0.size : Int) - a1) then some (0, 0, 10) else utf_Decode.l0 k a0 a1 (bt a0 a1 % 16) 3 1)
  else if bt a0 a1 ≥ 240 ∧ bt a0 a1 < 245 then (if 4 > wrap64 ((a0.size : Int) - a1) then some (0, 0, 10) else utf_Decode.l0 k a0 a1 (bt a0 a1 % 8) 4 1)
  else some (0, 0, 10)
theorem utf_Decode.mono_l : ∀ k, (∀ y0 y1 y2 y3 y4, LeO (utf_Decode.l0 k y0 y1 y2 y3 y4) (utf_Decode.l0 (k + 1) y0 y1 y2 y3 y4))
  | 0 => fun _ _ _ _ _ r h => by simp [utf_Decode.l0] at h
  | k + 1 => by
    have ih0 := utf_Decode.mono_l k
    intro y0 y1 y2 y3 y4
    unfold utf_Decode.l0
    repeat' first
      | exact ih0 _ _ _ _ _
      | exact LeO.refl _
      | refine LeO.ite ?_ ?_
      | refine LeO.bind ?_ (fun _ => ?_)
theorem utf_Decode.mono : ∀ a0 a1 k, LeO (utf_Decode.f k a0 a1) (utf_Decode.f (k + 1) a0 a1) := by
  intro a0 a1 k
  have ih0 := utf_Decode.mono_l k
  unfold utf_Decode.f
  repeat' first
      | exact ih0 _ _ _ _ _
      | exact LeO.refl _
      | refine LeO.ite ?_ ?_
set_option maxHeartbeats 8000000 in
set_option maxRecDepth 100000 in
theorem utf_Decode.calls (k : Nat) (a0 : ByteArray) (a1 : Int) (r1 r2 r3 : Int) (w : World) (h : utf_Decode.f k a0 a1 = some (r1, r2, r3)) :
    Calls Try.prog 16 #[.string a0, .int .i64 a1] w fun e w' => e = .returned (.tuple #[.int .i32 r1, .int .i64 r2, .int .i64 r3]) ∧ Drawn0 w w' := by
  have H := h
  clear h
  unfold utf_Decode.f at H
  by_cases c1 : a1 < 0
  · rw [if_pos c1] at H
    have c1b : decide (a1 < 0) = true := decide_eq_true c1
    clear c1
    simp only [Option.some.injEq, Prod.mk.injEq] at H
    obtain ⟨rfl, rfl, rfl⟩ := H
    go_enter Try.func16, Try.ntmps16
    go_wp2
    go_step3
    go_wp2
    rw [Exit.noGoto_ret]
    go_ret3
    exact ⟨rfl, Drawn0.refl _⟩
  · rw [if_neg c1] at H
    have c1b : decide (a1 < 0) = false := decide_eq_false c1
    have c1p : 0 ≤ a1 := by omega
    clear c1
    by_cases c2 : a1 ≥ (a0.size : Int)
    · rw [if_pos c2] at H
      have c2b : decide ((a0.size : Int) ≤ a1) = true := decide_eq_true c2
      clear c2
      simp only [Option.some.injEq, Prod.mk.injEq] at H
      obtain ⟨rfl, rfl, rfl⟩ := H
      go_enter Try.func16, Try.ntmps16
      go_wp2
      go_step3
      go_wp2
      rw [Exit.noGoto_ret]
      go_ret3
      exact ⟨rfl, Drawn0.refl _⟩
    · rw [if_neg c2] at H
      have c2b : decide ((a0.size : Int) ≤ a1) = false := decide_eq_false c2
      have c2p : a1 < (a0.size : Int) := by omega
      have hb := bt_at a0 a1
      have hr := bt_range a0 a1
      clear c2
      by_cases c3 : bt a0 a1 < 128
      · rw [if_pos c3] at H
        have c3b : decide (bt a0 a1 < 128) = true := decide_eq_true c3
        simp only [Option.some.injEq, Prod.mk.injEq] at H
        obtain ⟨rfl, rfl, rfl⟩ := H
        go_enter Try.func16, Try.ntmps16
        go_wp2
        go_step3
        go_wp2
        rw [Exit.noGoto_ret]
        go_ret3
        exact ⟨rfl, Drawn0.refl _⟩
      · rw [if_neg c3] at H
        have c3p : 128 ≤ bt a0 a1 := by omega
        clear c3
        by_cases c4 : bt a0 a1 < 194
        · rw [if_neg (by omega), if_neg (by omega), if_neg (by omega)] at H
          have H' := Aside0.mk H
          clear H
          go_enter Try.func16, Try.ntmps16
          go_wp2
          refine wp_scope_jumps 0 (fun a w' => (a.tmps.size = 93 ∧ a.defers = []) ∧ Aside0 (some ((0 : Int), (0 : Int), (10 : Int)) = some (r1, r2, r3)) ∧ Drawn0 w w') (fun _ _ => 0) rfl ?first ?pass
          case pass =>
            clear H'
            rintro ⟨tm, df⟩ w2 ⟨⟨hz, hd⟩, H2, ⟨nd, rfl⟩⟩
            have H3 := H2.out
            clear H2
            simp only [Option.some.injEq, Prod.mk.injEq] at H3
            obtain ⟨rfl, rfl, rfl⟩ := H3
            replace hd : df = [] := hd
            subst hd
            have HZ := Lib.hid hz
            clear hz
            go_wp2
            go_ret3
            have hz := HZ.out
            exact ⟨by simp [Array.getD, hz], ⟨_, rfl⟩⟩
          case first =>
            go_wp2
            go_step3
            go_simp
            exact ⟨rfl, ⟨rfl, rfl⟩, H', Drawn0.refl _⟩
        · by_cases c5 : bt a0 a1 < 224
          · rw [if_pos (by omega)] at H
            by_cases cn : (2 : Int) > wrap64 ((a0.size : Int) - a1)
            · rw [if_pos cn] at H
              have H' := Aside0.mk H
              clear H
              have cnb : decide (wrap64 ((a0.size : Int) - a1) < 2) = true := decide_eq_true cn
              clear cn
              go_enter Try.func16, Try.ntmps16
              go_wp2
              refine wp_scope_jumps 0 (fun a w' => (a.tmps.size = 93 ∧ a.defers = []) ∧ Aside0 (some ((0 : Int), (0 : Int), (10 : Int)) = some (r1, r2, r3)) ∧ Drawn0 w w') (fun _ _ => 0) rfl ?first ?pass
              case pass =>
                clear H'
                rintro ⟨tm, df⟩ w2 ⟨⟨hz, hd⟩, H2, ⟨nd, rfl⟩⟩
                have H3 := H2.out
                clear H2
                simp only [Option.some.injEq, Prod.mk.injEq] at H3
                obtain ⟨rfl, rfl, rfl⟩ := H3
                replace hd : df = [] := hd
                subst hd
                have HZ := Lib.hid hz
                clear hz
                go_wp2
                go_ret3
                have hz := HZ.out
                exact ⟨by simp [Array.getD, hz], ⟨_, rfl⟩⟩
              case first =>
                go_wp2
                go_step3
                go_simp
                exact ⟨rfl, ⟨rfl, rfl⟩, H', Drawn0.refl _⟩
            · rw [if_neg cn] at H
              have H' := Aside0.mk H
              clear H
              have cnb : decide (wrap64 ((a0.size : Int) - a1) < 2) = false := decide_eq_false cn
              clear cn
              go_enter Try.func16, Try.ntmps16
              go_wp2
              refine wp_scope_jumps 0 (fun a w' => (a.tmps.size = 93 ∧ a.defers = []) ∧ Aside0 (some ((0 : Int), (0 : Int), (10 : Int)) = some (r1, r2, r3)) ∧ Drawn0 w w') (fun _ _ => 0) rfl ?first ?pass
              case pass =>
                clear H'
                rintro ⟨tm, df⟩ w2 ⟨⟨hz, hd⟩, H2, ⟨nd, rfl⟩⟩
                have H3 := H2.out
                clear H2
                simp only [Option.some.injEq, Prod.mk.injEq] at H3
                obtain ⟨rfl, rfl, rfl⟩ := H3
                replace hd : df = [] := hd
                subst hd
                have HZ := Lib.hid hz
                clear hz
                go_wp2
                go_ret3
                have hz := HZ.out
                exact ⟨by simp [Array.getD, hz], ⟨_, rfl⟩⟩
              case first =>
                go_wp2
                go_loopg [7, 10] k (fun kq v7 v10 w' => ∃ (x7 x10 : Int), v7 = .int .i32 x7 ∧ v10 = .int .i64 x10 ∧ Aside0 (utf_Decode.l0 kq a0 a1 x7 2 x10 = some (r1, r2, r3)) ∧ Aside0 (kq ≤ k) ∧ Drawn0 w w')
                case atStart => exact ⟨_, _, rfl, rfl, H', ⟨Nat.le_refl _⟩, Drawn0.refl _⟩
                case round =>
                  clear H' hb hr
                  obtain ⟨x7, x10, rfl, rfl, HA, HK, ⟨nd, rfl⟩⟩ := hrel
                  cases gk with
                  | zero => exact absurd HA.out (by simp [utf_Decode.l0])
                  | succ k1 =>
                    have H := HA.out
                    clear HA
                    simp only [utf_Decode.l0] at H
                    by_cases d1 : x10 < 2
                    · rw [if_pos d1] at H
                      obtain ⟨j, hj⟩ : ∃ j, wrap64 (a1 + x10) = j := ⟨_, rfl⟩
                      rw [hj] at H
                      have hjw : IntKind.i64.wrap (a1 + x10) = j := (i64_w _).trans hj
                      by_cases d2 : 0 ≤ j
                      · rw [if_pos d2] at H
                        by_cases d3 : j < (a0.size : Int)
                        · rw [if_pos d3] at H
                          have hb := bt_at a0 j
                          have hr := bt_range a0 j
                          by_cases d4 : bt a0 j / 64 = 2
                          · rw [if_pos d4] at H
                            have H' := Aside0.mk H
                            have m1 : (Go.bits .and .u8 (bt a0 j) 192 != 128) = false := by rw [u8_and192 hr.1 hr.2, d4]; rfl
                            clear H d4
                            go_wp2
                            go_roundg k1
                            case measure => have := HK.out; omega
                            case rel => exact ⟨_, _, rfl, rfl, H', ⟨by have := HK.out; omega⟩, ⟨_, rfl⟩⟩
                          · rw [if_neg d4] at H
                            have H' := Aside0.mk H
                            have m1 : (Go.bits .and .u8 (bt a0 j) 192 != 128) = true := by rw [u8_and192 hr.1 hr.2, bne_iff_ne]; omega
                            clear H d4
                            go_wp2
                            go_step3
                            go_simp
                            exact ⟨rfl, ⟨rfl, rfl⟩, H', ⟨_, rfl⟩⟩
                        · rw [if_neg d3] at H
                          cases H
                      · rw [if_neg d2] at H
                        cases H
                    · rw [if_neg d1] at H
                      replace H := Option.bind_eq_some_iff.mp H
                      obtain ⟨t, A1, H⟩ := H
                      have A1' := Aside0.mk A1
                      clear A1
                      by_cases d2 : t = 2
                      · rw [if_pos d2] at H
                        simp only [Option.some.injEq, Prod.mk.injEq] at H
                        obtain ⟨rfl, rfl, rfl⟩ := H
                        have d2b : (t == 2) = true := beq_iff_eq.mpr d2
                        have d2c : (t != 2) = false := bne_eq_false_iff_eq.mpr d2
                        clear d2
                        go_wp2_with fail
                        (with_reducible refine (utf_Length.calls x7 t _ A1'.out).mono ?_)
                        rintro e w' ⟨rfl, ⟨nd2, rfl⟩⟩
                        go_wp2
                        rw [jump_ret]
                        go_ret3
                        exact ⟨rfl, ⟨_, rfl⟩⟩
                      · rw [if_neg d2] at H
                        have H' := Aside0.mk H
                        have d2b : (t == 2) = false := beq_eq_false_iff_ne.mpr d2
                        have d2c : (t != 2) = true := bne_iff_ne.mpr d2
                        clear d2 H
                        go_wp2_with fail
                        (with_reducible refine (utf_Length.calls x7 t _ A1'.out).mono ?_)
                        rintro e w' ⟨rfl, ⟨nd2, rfl⟩⟩
                        go_wp2
                        go_step3
                        go_simp
                        exact ⟨rfl, ⟨rfl, rfl⟩, H', ⟨_, rfl⟩⟩
          · by_cases c6 : bt a0 a1 < 240
            · rw [if_neg (by omega), if_pos (by omega)] at H
              by_cases cn : (3 : Int) > wrap64 ((a0.size : Int) - a1)
              · rw [if_pos cn] at H
                have H' := Aside0.mk H
                clear H
                have cnb : decide (wrap64 ((a0.size : Int) - a1) < 3) = true := decide_eq_true cn
                clear cn
                go_enter Try.func16, Try.ntmps16
                go_wp2
                refine wp_scope_jumps 0 (fun a w' => (a.tmps.size = 93 ∧ a.defers = []) ∧ Aside0 (some ((0 : Int), (0 : Int), (10 : Int)) = some (r1, r2, r3)) ∧ Drawn0 w w') (fun _ _ => 0) rfl ?first ?pass
                case pass =>
                  clear H'
                  rintro ⟨tm, df⟩ w2 ⟨⟨hz, hd⟩, H2, ⟨nd, rfl⟩⟩
                  have H3 := H2.out
                  clear H2
                  simp only [Option.some.injEq, Prod.mk.injEq] at H3
                  obtain ⟨rfl, rfl, rfl⟩ := H3
                  replace hd : df = [] := hd
                  subst hd
                  have HZ := Lib.hid hz
                  clear hz
                  go_wp2
                  go_ret3
                  have hz := HZ.out
                  exact ⟨by simp [Array.getD, hz], ⟨_, rfl⟩⟩
                case first =>
                  go_wp2
                  go_step3
                  go_simp
                  exact ⟨rfl, ⟨rfl, rfl⟩, H', Drawn0.refl _⟩
              · rw [if_neg cn] at H
                have H' := Aside0.mk H
                clear H
                have cnb : decide (wrap64 ((a0.size : Int) - a1) < 3) = false := decide_eq_false cn
                clear cn
                go_enter Try.func16, Try.ntmps16
                go_wp2
                refine wp_scope_jumps 0 (fun a w' => (a.tmps.size = 93 ∧ a.defers = []) ∧ Aside0 (some ((0 : Int), (0 : Int), (10 : Int)) = some (r1, r2, r3)) ∧ Drawn0 w w') (fun _ _ => 0) rfl ?first ?pass
                case pass =>
                  clear H'
                  rintro ⟨tm, df⟩ w2 ⟨⟨hz, hd⟩, H2, ⟨nd, rfl⟩⟩
                  have H3 := H2.out
                  clear H2
                  simp only [Option.some.injEq, Prod.mk.injEq] at H3
                  obtain ⟨rfl, rfl, rfl⟩ := H3
                  replace hd : df = [] := hd
                  subst hd
                  have HZ := Lib.hid hz
                  clear hz
                  go_wp2
                  go_ret3
                  have hz := HZ.out
                  exact ⟨by simp [Array.getD, hz], ⟨_, rfl⟩⟩
                case first =>
                  go_wp2
                  go_loopg [7, 10] k (fun kq v7 v10 w' => ∃ (x7 x10 : Int), v7 = .int .i32 x7 ∧ v10 = .int .i64 x10 ∧ Aside0 (utf_Decode.l0 kq a0 a1 x7 3 x10 = some (r1, r2, r3)) ∧ Aside0 (kq ≤ k) ∧ Drawn0 w w')
                  case atStart => exact ⟨_, _, rfl, rfl, H', ⟨Nat.le_refl _⟩, Drawn0.refl _⟩
                  case round =>
                    clear H' hb hr
                    obtain ⟨x7, x10, rfl, rfl, HA, HK, ⟨nd, rfl⟩⟩ := hrel
                    cases gk with
                    | zero => exact absurd HA.out (by simp [utf_Decode.l0])
                    | succ k1 =>
                      have H := HA.out
                      clear HA
                      simp only [utf_Decode.l0] at H
                      by_cases d1 : x10 < 3
                      · rw [if_pos d1] at H
                        obtain ⟨j, hj⟩ : ∃ j, wrap64 (a1 + x10) = j := ⟨_, rfl⟩
                        rw [hj] at H
                        have hjw : IntKind.i64.wrap (a1 + x10) = j := (i64_w _).trans hj
                        by_cases d2 : 0 ≤ j
                        · rw [if_pos d2] at H
                          by_cases d3 : j < (a0.size : Int)
                          · rw [if_pos d3] at H
                            have hb := bt_at a0 j
                            have hr := bt_range a0 j
                            by_cases d4 : bt a0 j / 64 = 2
                            · rw [if_pos d4] at H
                              have H' := Aside0.mk H
                              have m1 : (Go.bits .and .u8 (bt a0 j) 192 != 128) = false := by rw [u8_and192 hr.1 hr.2, d4]; rfl
                              clear H d4
                              go_wp2
                              go_roundg k1
                              case measure => have := HK.out; omega
                              case rel => exact ⟨_, _, rfl, rfl, H', ⟨by have := HK.out; omega⟩, ⟨_, rfl⟩⟩
                            · rw [if_neg d4] at H
                              have H' := Aside0.mk H
                              have m1 : (Go.bits .and .u8 (bt a0 j) 192 != 128) = true := by rw [u8_and192 hr.1 hr.2, bne_iff_ne]; omega
                              clear H d4
                              go_wp2
                              go_step3
                              go_simp
                              exact ⟨rfl, ⟨rfl, rfl⟩, H', ⟨_, rfl⟩⟩
                          · rw [if_neg d3] at H
                            cases H
                        · rw [if_neg d2] at H
                          cases H
                      · rw [if_neg d1] at H
                        replace H := Option.bind_eq_some_iff.mp H
                        obtain ⟨t, A1, H⟩ := H
                        have A1' := Aside0.mk A1
                        clear A1
                        by_cases d2 : t = 3
                        · rw [if_pos d2] at H
                          simp only [Option.some.injEq, Prod.mk.injEq] at H
                          obtain ⟨rfl, rfl, rfl⟩ := H
                          have d2b : (t == 3) = true := beq_iff_eq.mpr d2
                          have d2c : (t != 3) = false := bne_eq_false_iff_eq.mpr d2
                          clear d2
                          go_wp2_with fail
                          (with_reducible refine (utf_Length.calls x7 t _ A1'.out).mono ?_)
                          rintro e w' ⟨rfl, ⟨nd2, rfl⟩⟩
                          go_wp2
                          rw [jump_ret]
                          go_ret3
                          exact ⟨rfl, ⟨_, rfl⟩⟩
                        · rw [if_neg d2] at H
                          have H' := Aside0.mk H
                          have d2b : (t == 3) = false := beq_eq_false_iff_ne.mpr d2
                          have d2c : (t != 3) = true := bne_iff_ne.mpr d2
                          clear d2 H
                          go_wp2_with fail
                          (with_reducible refine (utf_Length.calls x7 t _ A1'.out).mono ?_)
                          rintro e w' ⟨rfl, ⟨nd2, rfl⟩⟩
                          go_wp2
                          go_step3
                          go_simp
                          exact ⟨rfl, ⟨rfl, rfl⟩, H', ⟨_, rfl⟩⟩
            · by_cases c7 : bt a0 a1 < 245
              · rw [if_neg (by omega), if_neg (by omega), if_pos (by omega)] at H
                by_cases cn : (4 : Int) > wrap64 ((a0.size : Int) - a1)
                · rw [if_pos cn] at H
                  have H' := Aside0.mk H
                  clear H
                  have cnb : decide (wrap64 ((a0.size : Int) - a1) < 4) = true := decide_eq_true cn
                  clear cn
                  go_enter Try.func16, Try.ntmps16
                  go_wp2
                  refine wp_scope_jumps 0 (fun a w' => (a.tmps.size = 93 ∧ a.defers = []) ∧ Aside0 (some ((0 : Int), (0 : Int), (10 : Int)) = some (r1, r2, r3)) ∧ Drawn0 w w') (fun _ _ => 0) rfl ?first ?pass
                  case pass =>
                    clear H'
                    rintro ⟨tm, df⟩ w2 ⟨⟨hz, hd⟩, H2, ⟨nd, rfl⟩⟩
                    have H3 := H2.out
                    clear H2
                    simp only [Option.some.injEq, Prod.mk.injEq] at H3
                    obtain ⟨rfl, rfl, rfl⟩ := H3
                    replace hd : df = [] := hd
                    subst hd
                    have HZ := Lib.hid hz
                    clear hz
                    go_wp2
                    go_ret3
                    have hz := HZ.out
                    exact ⟨by simp [Array.getD, hz], ⟨_, rfl⟩⟩
                  case first =>
                    go_wp2
                    go_step3
                    go_simp
                    exact ⟨rfl, ⟨rfl, rfl⟩, H', Drawn0.refl _⟩
                · rw [if_neg cn] at H
                  have H' := Aside0.mk H
                  clear H
                  have cnb : decide (wrap64 ((a0.size : Int) - a1) < 4) = false := decide_eq_false cn
                  clear cn
                  go_enter Try.func16, Try.ntmps16
                  go_wp2
                  refine wp_scope_jumps 0 (fun a w' => (a.tmps.size = 93 ∧ a.defers = []) ∧ Aside0 (some ((0 : Int), (0 : Int), (10 : Int)) = some (r1, r2, r3)) ∧ Drawn0 w w') (fun _ _ => 0) rfl ?first ?pass
                  case pass =>
                    clear H'
                    rintro ⟨tm, df⟩ w2 ⟨⟨hz, hd⟩, H2, ⟨nd, rfl⟩⟩
                    have H3 := H2.out
                    clear H2
                    simp only [Option.some.injEq, Prod.mk.injEq] at H3
                    obtain ⟨rfl, rfl, rfl⟩ := H3
                    replace hd : df = [] := hd
                    subst hd
                    have HZ := Lib.hid hz
                    clear hz
                    go_wp2
                    go_ret3
                    have hz := HZ.out
                    exact ⟨by simp [Array.getD, hz], ⟨_, rfl⟩⟩
                  case first =>
                    go_wp2
                    go_loopg [7, 10] k (fun kq v7 v10 w' => ∃ (x7 x10 : Int), v7 = .int .i32 x7 ∧ v10 = .int .i64 x10 ∧ Aside0 (utf_Decode.l0 kq a0 a1 x7 4 x10 = some (r1, r2, r3)) ∧ Aside0 (kq ≤ k) ∧ Drawn0 w w')
                    case atStart => exact ⟨_, _, rfl, rfl, H', ⟨Nat.le_refl _⟩, Drawn0.refl _⟩
                    case round =>
                      clear H' hb hr
                      obtain ⟨x7, x10, rfl, rfl, HA, HK, ⟨nd, rfl⟩⟩ := hrel
                      cases gk with
                      | zero => exact absurd HA.out (by simp [utf_Decode.l0])
                      | succ k1 =>
                        have H := HA.out
                        clear HA
                        simp only [utf_Decode.l0] at H
                        by_cases d1 : x10 < 4
                        · rw [if_pos d1] at H
                          obtain ⟨j, hj⟩ : ∃ j, wrap64 (a1 + x10) = j := ⟨_, rfl⟩
                          rw [hj] at H
                          have hjw : IntKind.i64.wrap (a1 + x10) = j := (i64_w _).trans hj
                          by_cases d2 : 0 ≤ j
                          · rw [if_pos d2] at H
                            by_cases d3 : j < (a0.size : Int)
                            · rw [if_pos d3] at H
                              have hb := bt_at a0 j
                              have hr := bt_range a0 j
                              by_cases d4 : bt a0 j / 64 = 2
                              · rw [if_pos d4] at H
                                have H' := Aside0.mk H
                                have m1 : (Go.bits .and .u8 (bt a0 j) 192 != 128) = false := by rw [u8_and192 hr.1 hr.2, d4]; rfl
                                clear H d4
                                go_wp2
                                go_roundg k1
                                case measure => have := HK.out; omega
                                case rel => exact ⟨_, _, rfl, rfl, H', ⟨by have := HK.out; omega⟩, ⟨_, rfl⟩⟩
                              · rw [if_neg d4] at H
                                have H' := Aside0.mk H
                                have m1 : (Go.bits .and .u8 (bt a0 j) 192 != 128) = true := by rw [u8_and192 hr.1 hr.2, bne_iff_ne]; omega
                                clear H d4
                                go_wp2
                                go_step3
                                go_simp
                                exact ⟨rfl, ⟨rfl, rfl⟩, H', ⟨_, rfl⟩⟩
                            · rw [if_neg d3] at H
                              cases H
                          · rw [if_neg d2] at H
                            cases H
                        · rw [if_neg d1] at H
                          replace H := Option.bind_eq_some_iff.mp H
                          obtain ⟨t, A1, H⟩ := H
                          have A1' := Aside0.mk A1
                          clear A1
                          by_cases d2 : t = 4
                          · rw [if_pos d2] at H
                            simp only [Option.some.injEq, Prod.mk.injEq] at H
                            obtain ⟨rfl, rfl, rfl⟩ := H
                            have d2b : (t == 4) = true := beq_iff_eq.mpr d2
                            have d2c : (t != 4) = false := bne_eq_false_iff_eq.mpr d2
                            clear d2
                            go_wp2_with fail
                            (with_reducible refine (utf_Length.calls x7 t _ A1'.out).mono ?_)
                            rintro e w' ⟨rfl, ⟨nd2, rfl⟩⟩
                            go_wp2
                            rw [jump_ret]
                            go_ret3
                            exact ⟨rfl, ⟨_, rfl⟩⟩
                          · rw [if_neg d2] at H
                            have H' := Aside0.mk H
                            have d2b : (t == 4) = false := beq_eq_false_iff_ne.mpr d2
                            have d2c : (t != 4) = true := bne_iff_ne.mpr d2
                            clear d2 H
                            go_wp2_with fail
                            (with_reducible refine (utf_Length.calls x7 t _ A1'.out).mono ?_)
                            rintro e w' ⟨rfl, ⟨nd2, rfl⟩⟩
                            go_wp2
                            go_step3
                            go_simp
                            exact ⟨rfl, ⟨rfl, rfl⟩, H', ⟨_, rfl⟩⟩
              · rw [if_neg (by omega), if_neg (by omega), if_neg (by omega)] at H
                have H' := Aside0.mk H
                clear H
                go_enter Try.func16, Try.ntmps16
                go_wp2
                refine wp_scope_jumps 0 (fun a w' => (a.tmps.size = 93 ∧ a.defers = []) ∧ Aside0 (some ((0 : Int), (0 : Int), (10 : Int)) = some (r1, r2, r3)) ∧ Drawn0 w w') (fun _ _ => 0) rfl ?first ?pass
                case pass =>
                  clear H'
                  rintro ⟨tm, df⟩ w2 ⟨⟨hz, hd⟩, H2, ⟨nd, rfl⟩⟩
                  have H3 := H2.out
                  clear H2
                  simp only [Option.some.injEq, Prod.mk.injEq] at H3
                  obtain ⟨rfl, rfl, rfl⟩ := H3
                  replace hd : df = [] := hd
                  subst hd
                  have HZ := Lib.hid hz
                  clear hz
                  go_wp2
                  go_ret3
                  have hz := HZ.out
                  exact ⟨by simp [Array.getD, hz], ⟨_, rfl⟩⟩
                case first =>
                  go_wp2
                  go_step3
                  go_simp
                  exact ⟨rfl, ⟨rfl, rfl⟩, H', Drawn0.refl _⟩

/-! ### utf_Runes: function 18 -/
def utf_Runes.l0 : Nat → ByteArray → List Int → Int → Option (List Int × Int × Int)
  | 0, _, _, _ => none
  | k + 1, x0, x5, x6 => if x6 < (x0.size : Int) then ((utf_Decode.f k x0 x6).bind fun bt128 => (if bt128.2.2 = 0 then (if x5.length < 35184372088832 then (utf_Runes.l0 k x0 (x5 ++ [bt128.1]) bt128.2.1) else (none)) else (some (([] : List Int), x6, bt128.2.2)))) else (some (x5, (x0.size : Int), 0))
def utf_Runes.f (k : Nat) (a0 : ByteArray) : Option (List Int × Int × Int) := utf_Runes.l0 k a0 ([] : List Int) 0
theorem utf_Runes.mono_l : ∀ k, (∀ y0 y1 y2, LeO (utf_Runes.l0 k y0 y1 y2) (utf_Runes.l0 (k + 1) y0 y1 y2))
  | 0 => fun _ _ _ r h => by simp [utf_Runes.l0] at h
  | k + 1 => by
    have ih0 := utf_Runes.mono_l k
    · intro y0 y1 y2
      unfold utf_Runes.l0
      repeat' first
      | (with_reducible exact ih0 _ _ _)
      | (with_reducible exact utf_Decode.mono _ _ _)
      | (with_reducible exact LeO.refl _)
      | (with_reducible exact LeO.none _)
      | (with_reducible refine LeO.ite ?_ ?_)
      | (with_reducible refine LeO.bind ?_ (fun _ => ?_))
      | exact ih0 _ _ _
      | exact utf_Decode.mono _ _ _
      | exact LeO.none _
      | refine LeO.ite ?_ ?_
      | refine LeO.bind ?_ (fun _ => ?_)
theorem utf_Runes.mono : ∀ a0 k, LeO (utf_Runes.f k a0) (utf_Runes.f (k + 1) a0) := by
  intro a0 k
  have ih0 := utf_Runes.mono_l k
  unfold utf_Runes.f
  repeat' first
      | (with_reducible exact ih0 _ _ _)
      | (with_reducible exact utf_Decode.mono _ _ _)
      | (with_reducible exact LeO.refl _)
      | (with_reducible exact LeO.none _)
      | (with_reducible refine LeO.ite ?_ ?_)
      | (with_reducible refine LeO.bind ?_ (fun _ => ?_))
      | exact ih0 _ _ _
      | exact utf_Decode.mono _ _ _
      | exact LeO.none _
      | refine LeO.ite ?_ ?_
      | refine LeO.bind ?_ (fun _ => ?_)
set_option maxHeartbeats 8000000 in
set_option maxRecDepth 100000 in
theorem utf_Runes.calls (k : Nat) (a0 : ByteArray) (r1 : List Int) (r2 : Int) (r3 : Int) (w : World) (h : utf_Runes.f k a0 = some (r1, r2, r3)) :
    Calls Try.prog 18 #[.string a0] w fun e w' => ∃ v0_ : Value, e = .returned (.tuple #[v0_, .int .i64 r2, .int .i64 r3]) ∧ Kd.R (Kd.int .i32) 21 w' w.heap.size (fun _ => True) v0_ r1 ∧ Below w.heap.size w w' := by
  have HB := Aside0.mk (Below.refl w.heap.size w)
  have H : (utf_Runes.l0 k a0 ([] : List Int) 0) = some (r1, r2, r3) := h
  clear h
  have H' := Aside0.mk H
  clear H
  go_enter Try.func18, Try.ntmps18
  go_wp2
  go_loopg [5, 6] k (fun kq v5 v6 w' => ∃ (x5_1 : List Int) (x6_1 : Int), v6 = .int .i64 x6_1 ∧ Aside0 (utf_Runes.l0 kq a0 x5_1 x6_1 = some (r1, r2, r3)) ∧ Aside0 (kq ≤ k) ∧ Aside0 (Kd.R (Kd.int .i32) 21 w' w.heap.size (fun _ => True) v5 x5_1) ∧ Aside0 (Below w.heap.size w w'))
  case atStart => exact ⟨(([] : List Int)), (0), (by first | rfl | (simp; done) | (simp [*]; done)), H', ⟨Nat.le_refl _⟩, ⟨by first | exact Kd.R_nil _ _ _ _ _ | exact Kd.N_nil _ _ _ _ _ | exact Kd.V_nil _ _ _ _ _ | exact Kd.Q_nil _ _ _ _ _ | exact Kd.S_nil _ _ _ _ _⟩, ⟨by repeat (first | (with_reducible first | exact HB.out | apply below_alloc | apply pw_below_drewN | apply below_drew1) | exact HB.out)⟩⟩
  case round =>
    clear H'
    try clear c1
    obtain ⟨x5_1, x6_1, rfl, HA, HK1, HO_5, HB⟩ := hrel
    cases gk with
    | zero => exact absurd HA.out (by simp [utf_Runes.l0])
    | succ k1 =>
      have H := HA.out
      clear HA
      simp only [utf_Runes.l0] at H
      by_cases c2 : x6_1 < (a0.size : Int)
      · rw [if_pos c2] at H
        have c2b0 : decide (x6_1 < (a0.size : Int)) = true := decide_eq_true c2
        clear c2
        replace H := Option.bind_eq_some_iff.mp H
        obtain ⟨⟨t128, t129, t130⟩, A30, H⟩ := H
        replace H : (if t130 = 0 then (if x5_1.length < 35184372088832 then (utf_Runes.l0 k1 a0 (x5_1 ++ [t128]) t129) else (none)) else (some (([] : List Int), x6_1, t130))) = some (r1, r2, r3) := H
        have A3 := Aside0.mk A30
        clear A30
        by_cases c4 : t130 = 0
        · rw [if_pos c4] at H
          have c4b0 : (t130 == 0) = true := beq_iff_eq.mpr c4
          have c4b1 : (t130 != 0) = false := bne_eq_false_iff_eq.mpr c4
          clear c4
          by_cases c5 : x5_1.length < 35184372088832
          · rw [if_pos c5] at H
            have LMc5 := Aside0.mk c5
            clear c5
            obtain ⟨y131, hy131⟩ : ∃ y_ : List Int, y_ = (x5_1 ++ [t128]) := ⟨_, rfl⟩
            replace H : (utf_Runes.l0 k1 a0 y131 t129) = some (r1, r2, r3) := by first | (rw [hy131]; with_reducible exact H) | (have H2_ := (Option.bind_some _ _).symm.trans H; rw [hy131]; with_reducible exact H2_) | (have H2_ := (Option.bind_some _ _).symm.trans H; with_reducible exact H2_) | with_reducible exact H | (rw [hy131]; exact H) | exact H
            have Ny131 := Aside0.mk hy131
            clear hy131
            have H' := Aside0.mk H
            clear H
            go_wp2_with (first | ((with_reducible refine gate_callee (f := 16) rfl ?_); refine goesL_ (some 17) rfl rfl Try.func16 (by kernel_rfl) rfl #[.string a0, .int .i64 x6_1] rfl (by (try simp only [List.map_toArray, List.map_cons, List.map_nil]); first | done | rfl | (simp only [List.length_drop, List.length_take]; rfl)) ?_; (with_reducible refine (utf_Decode.calls k1 a0 x6_1 t128 t129 t130 _ A3.out).mono ?_); rintro e w' ⟨rfl, ⟨nd, rfl⟩⟩; refine ⟨_, rfl, ?_⟩) | ((with_reducible refine gate_builtin (b := .append) (xs := #[.tmp 25, .tmp 27]) rfl ?_); at_builtin; refine Kd.R_append (Kd.int .i32) (w0 := w) w.heap.size rfl (.tmp 25) (.tmp 27) 27 21 (.int .i32 0) 4 rfl Try.underlying27 info21 rfl (by decide) (by omega) u5 x5_1 t128 [.int .i32 t128] (fun _ => True) (fun _ => False) rfl rfl ?aP (fun _ hk => hk.elim) ?aF ?aO ?aB ?aS ?aL ?_; (case aP => exact rfl); (case aB => exact (by repeat (first | (with_reducible first | exact HB.out | apply below_alloc | apply pw_below_drewN | apply below_drew1) | exact HB.out))); (case aF => exact (fun _ _ => trivial)); (case aO => exact (by (with_reducible repeat (first | apply Kd.R_alloc | apply Kd.R_drewN | apply Kd.R_drew)); exact HO_5.out)); (case aS => exact (below_size (by repeat (first | (with_reducible first | exact HB.out | apply below_alloc | apply pw_below_drewN | apply below_drew1) | exact HB.out)))); (case aL => have := LMc5.out; omega); intro v132 w6 ho hb hg hat; rw [← Ny131.out] at ho; have n0_ := Aside0.mk (hb); have n1_ := Aside0.mk (ho); clear HB; clear HO_5; have HB := n0_; have HO133 := n1_; clear n0_ n1_; clear ho hb hg hat))
            go_roundg k1
            case measure => have := HK1.out; omega
            case rel => exact ⟨(y131), (t129), (by first | rfl | (simp; done) | (simp [*]; done)), H', ⟨by have := HK1.out; omega⟩, ⟨by (with_reducible repeat (first | apply Kd.R_alloc | apply Kd.R_drewN | apply Kd.R_drew)); exact HO133.out⟩, ⟨by repeat (first | (with_reducible first | exact HB.out | apply below_alloc | apply pw_below_drewN | apply below_drew1) | exact HB.out)⟩⟩
          · rw [if_neg c5] at H
            exact absurd H (by simp)
        · rw [if_neg c4] at H
          have c4b0 : (t130 == 0) = false := beq_eq_false_iff_ne.mpr c4
          have c4b1 : (t130 != 0) = true := bne_iff_ne.mpr c4
          simp only [Option.some.injEq, Prod.mk.injEq] at H
          obtain ⟨rfl, rfl, rfl⟩ := H
          go_wp2_with (first | ((with_reducible refine gate_callee (f := 16) rfl ?_); refine goesL_ (some 17) rfl rfl Try.func16 (by kernel_rfl) rfl #[.string a0, .int .i64 x6_1] rfl (by (try simp only [List.map_toArray, List.map_cons, List.map_nil]); first | done | rfl | (simp only [List.length_drop, List.length_take]; rfl)) ?_; (with_reducible refine (utf_Decode.calls k1 a0 x6_1 t128 t129 t130 _ A3.out).mono ?_); rintro e w' ⟨rfl, ⟨nd, rfl⟩⟩; refine ⟨_, rfl, ?_⟩))
          go_ret3
          exact ⟨_, by first | rfl | (simp [errW_none, errW_some] <;> rfl) | (simp [*, errW_none, errW_some] <;> rfl), by first | exact Kd.R_nil _ _ _ _ _ | exact Kd.N_nil _ _ _ _ _ | exact Kd.V_nil _ _ _ _ _ | exact Kd.Q_nil _ _ _ _ _ | exact Kd.S_nil _ _ _ _ _, by repeat (first | (with_reducible first | exact HB.out | apply below_alloc | apply pw_below_drewN | apply below_drew1) | exact HB.out)⟩
      · rw [if_neg c2] at H
        have c2b0 : decide (x6_1 < (a0.size : Int)) = false := decide_eq_false c2
        clear c2
        simp only [Option.some.injEq, Prod.mk.injEq] at H
        obtain ⟨rfl, rfl, rfl⟩ := H
        go_wp2
        go_ret3
        exact ⟨_, by first | rfl | (simp [errW_none, errW_some] <;> rfl) | (simp [*, errW_none, errW_some] <;> rfl), by (with_reducible repeat (first | apply Kd.R_alloc | apply Kd.R_drewN | apply Kd.R_drew)); exact HO_5.out, by repeat (first | (with_reducible first | exact HB.out | apply below_alloc | apply pw_below_drewN | apply below_drew1) | exact HB.out)⟩

/-! ### toponymlaw01_awake: function 15 -/
def toponymlaw01_awake.f (k : Nat)  : Option (Bool) := (utf_Encode.f k (([233, 8364] : List Int))).bind fun bt137 => ((utf_Runes.f k bt137.1).bind fun bt139 => ((utf_Decode.f k (⟨#[237, 160, 128]⟩ : ByteArray) 0).bind fun bt144 => ((utf_Runes.f k (⟨#[97, 192, 128]⟩ : ByteArray)).bind fun bt147 => (if bt137.1.toList = ([195, 169, 226, 130, 172] : List UInt8) then (if bt137.2 = 0 then (if (bt139.1.length : Int) = 2 then (if 1 < (bt139.1.length : Int) then (if (rd bt139.1 1) = 8364 then (if bt139.2.1 = 5 then (if bt139.2.2 = 0 then (if bt144.2.2 = 10 then (if bt147.2.1 = 1 then (if bt147.2.2 = 10 then ((utf_Length.f 55296).bind fun t153 => (some (t153 == 0))) else (some false)) else (some false)) else (some false)) else (some false)) else (some false)) else (some false)) else (none)) else (some false)) else (some false)) else (some false)))))
theorem toponymlaw01_awake.mono : ∀ k, LeO (toponymlaw01_awake.f k ) (toponymlaw01_awake.f (k + 1) ) := by
  intro  k
  unfold toponymlaw01_awake.f
  repeat' first
      | (with_reducible exact utf_Decode.mono _ _ _)
      | (with_reducible exact utf_Encode.mono _ _)
      | (with_reducible exact utf_Runes.mono _ _)
      | (with_reducible exact LeO.refl _)
      | (with_reducible exact LeO.none _)
      | (with_reducible refine LeO.ite ?_ ?_)
      | (with_reducible refine LeO.bind ?_ (fun _ => ?_))
      | exact utf_Decode.mono _ _ _
      | exact utf_Encode.mono _ _
      | exact utf_Runes.mono _ _
      | exact LeO.none _
      | refine LeO.ite ?_ ?_
      | refine LeO.bind ?_ (fun _ => ?_)
set_option maxHeartbeats 8000000 in
set_option maxRecDepth 100000 in
theorem toponymlaw01_awake.calls (k : Nat)  (r : Bool) (w : World) (h : toponymlaw01_awake.f k  = some r) :
    Calls Try.prog 15 #[] w fun e w' => e = .returned (.bool r) ∧ Below w.heap.size w w' := by
  have HB := Aside0.mk (Below.refl w.heap.size w)
  have H : ((utf_Encode.f k (([233, 8364] : List Int))).bind fun bt137 => ((utf_Runes.f k bt137.1).bind fun bt139 => ((utf_Decode.f k (⟨#[237, 160, 128]⟩ : ByteArray) 0).bind fun bt144 => ((utf_Runes.f k (⟨#[97, 192, 128]⟩ : ByteArray)).bind fun bt147 => (if bt137.1.toList = ([195, 169, 226, 130, 172] : List UInt8) then (if bt137.2 = 0 then (if (bt139.1.length : Int) = 2 then (if 1 < (bt139.1.length : Int) then (if (rd bt139.1 1) = 8364 then (if bt139.2.1 = 5 then (if bt139.2.2 = 0 then (if bt144.2.2 = 10 then (if bt147.2.1 = 1 then (if bt147.2.2 = 10 then ((utf_Length.f 55296).bind fun t153 => (some (t153 == 0))) else (some false)) else (some false)) else (some false)) else (some false)) else (some false)) else (some false)) else (none)) else (some false)) else (some false)) else (some false)))))) = some r := h
  clear h
  obtain ⟨y134, hy134⟩ : ∃ y_ : List Int, y_ = (([233, 8364] : List Int)) := ⟨_, rfl⟩
  replace H : ((utf_Encode.f k y134).bind fun bt137 => ((utf_Runes.f k bt137.1).bind fun bt139 => ((utf_Decode.f k (⟨#[237, 160, 128]⟩ : ByteArray) 0).bind fun bt144 => ((utf_Runes.f k (⟨#[97, 192, 128]⟩ : ByteArray)).bind fun bt147 => (if bt137.1.toList = ([195, 169, 226, 130, 172] : List UInt8) then (if bt137.2 = 0 then (if (bt139.1.length : Int) = 2 then (if 1 < (bt139.1.length : Int) then (if (rd bt139.1 1) = 8364 then (if bt139.2.1 = 5 then (if bt139.2.2 = 0 then (if bt144.2.2 = 10 then (if bt147.2.1 = 1 then (if bt147.2.2 = 10 then ((utf_Length.f 55296).bind fun t153 => (some (t153 == 0))) else (some false)) else (some false)) else (some false)) else (some false)) else (some false)) else (some false)) else (none)) else (some false)) else (some false)) else (some false)))))) = some r := by first | (rw [hy134]; with_reducible exact H) | (have H2_ := (Option.bind_some _ _).symm.trans H; rw [hy134]; with_reducible exact H2_) | (have H2_ := (Option.bind_some _ _).symm.trans H; with_reducible exact H2_) | with_reducible exact H | (rw [hy134]; exact H) | exact H
  have Ny134 := Aside0.mk hy134
  clear hy134
  replace H := Option.bind_eq_some_iff.mp H
  obtain ⟨⟨t137, t138⟩, A10, H⟩ := H
  replace H : ((utf_Runes.f k t137).bind fun bt139 => ((utf_Decode.f k (⟨#[237, 160, 128]⟩ : ByteArray) 0).bind fun bt144 => ((utf_Runes.f k (⟨#[97, 192, 128]⟩ : ByteArray)).bind fun bt147 => (if t137.toList = ([195, 169, 226, 130, 172] : List UInt8) then (if t138 = 0 then (if (bt139.1.length : Int) = 2 then (if 1 < (bt139.1.length : Int) then (if (rd bt139.1 1) = 8364 then (if bt139.2.1 = 5 then (if bt139.2.2 = 0 then (if bt144.2.2 = 10 then (if bt147.2.1 = 1 then (if bt147.2.2 = 10 then ((utf_Length.f 55296).bind fun t153 => (some (t153 == 0))) else (some false)) else (some false)) else (some false)) else (some false)) else (some false)) else (some false)) else (none)) else (some false)) else (some false)) else (some false))))) = some r := H
  have A1 := Aside0.mk A10
  clear A10
  replace H := Option.bind_eq_some_iff.mp H
  obtain ⟨⟨t139, t140, t141⟩, A20, H⟩ := H
  replace H : ((utf_Decode.f k (⟨#[237, 160, 128]⟩ : ByteArray) 0).bind fun bt144 => ((utf_Runes.f k (⟨#[97, 192, 128]⟩ : ByteArray)).bind fun bt147 => (if t137.toList = ([195, 169, 226, 130, 172] : List UInt8) then (if t138 = 0 then (if (t139.length : Int) = 2 then (if 1 < (t139.length : Int) then (if (rd t139 1) = 8364 then (if t140 = 5 then (if t141 = 0 then (if bt144.2.2 = 10 then (if bt147.2.1 = 1 then (if bt147.2.2 = 10 then ((utf_Length.f 55296).bind fun t153 => (some (t153 == 0))) else (some false)) else (some false)) else (some false)) else (some false)) else (some false)) else (some false)) else (none)) else (some false)) else (some false)) else (some false)))) = some r := H
  have A2 := Aside0.mk A20
  clear A20
  replace H := Option.bind_eq_some_iff.mp H
  obtain ⟨⟨t144, t145, t146⟩, A30, H⟩ := H
  replace H : ((utf_Runes.f k (⟨#[97, 192, 128]⟩ : ByteArray)).bind fun bt147 => (if t137.toList = ([195, 169, 226, 130, 172] : List UInt8) then (if t138 = 0 then (if (t139.length : Int) = 2 then (if 1 < (t139.length : Int) then (if (rd t139 1) = 8364 then (if t140 = 5 then (if t141 = 0 then (if t146 = 10 then (if bt147.2.1 = 1 then (if bt147.2.2 = 10 then ((utf_Length.f 55296).bind fun t153 => (some (t153 == 0))) else (some false)) else (some false)) else (some false)) else (some false)) else (some false)) else (some false)) else (none)) else (some false)) else (some false)) else (some false))) = some r := H
  have A3 := Aside0.mk A30
  clear A30
  replace H := Option.bind_eq_some_iff.mp H
  obtain ⟨⟨t147, t148, t149⟩, A40, H⟩ := H
  replace H : (if t137.toList = ([195, 169, 226, 130, 172] : List UInt8) then (if t138 = 0 then (if (t139.length : Int) = 2 then (if 1 < (t139.length : Int) then (if (rd t139 1) = 8364 then (if t140 = 5 then (if t141 = 0 then (if t146 = 10 then (if t148 = 1 then (if t149 = 10 then ((utf_Length.f 55296).bind fun t153 => (some (t153 == 0))) else (some false)) else (some false)) else (some false)) else (some false)) else (some false)) else (some false)) else (none)) else (some false)) else (some false)) else (some false)) = some r := H
  have A4 := Aside0.mk A40
  clear A40
  by_cases c5 : t137.toList = ([195, 169, 226, 130, 172] : List UInt8)
  · rw [if_pos c5] at H
    have c5b0 : (t137.toList == ([195, 169, 226, 130, 172] : List UInt8)) = true := beq_iff_eq.mpr c5
    have c5b1 : (t137.toList != ([195, 169, 226, 130, 172] : List UInt8)) = false := bne_eq_false_iff_eq.mpr c5
    clear c5
    by_cases c6 : t138 = 0
    · rw [if_pos c6] at H
      have c6b0 : (t138 == 0) = true := beq_iff_eq.mpr c6
      have c6b1 : (t138 != 0) = false := bne_eq_false_iff_eq.mpr c6
      clear c6
      by_cases c7 : (t139.length : Int) = 2
      · rw [if_pos c7] at H
        have c7b0 : ((t139.length : Int) == 2) = true := beq_iff_eq.mpr c7
        have c7b1 : ((t139.length : Int) != 2) = false := bne_eq_false_iff_eq.mpr c7
        clear c7
        by_cases c8 : 1 < (t139.length : Int)
        · rw [if_pos c8] at H
          have c8b0 : decide (1 < (t139.length : Int)) = true := decide_eq_true c8
          have c8b1 : decide (1 < t139.length) = true := decide_eq_true (by omega)
          clear c8
          by_cases c9 : (rd t139 1) = 8364
          · rw [if_pos c9] at H
            have c9b0 : ((rd t139 1) == 8364) = true := beq_iff_eq.mpr c9
            have c9b1 : ((rd t139 1) != 8364) = false := bne_eq_false_iff_eq.mpr c9
            clear c9
            by_cases c10 : t140 = 5
            · rw [if_pos c10] at H
              have c10b0 : (t140 == 5) = true := beq_iff_eq.mpr c10
              have c10b1 : (t140 != 5) = false := bne_eq_false_iff_eq.mpr c10
              clear c10
              by_cases c11 : t141 = 0
              · rw [if_pos c11] at H
                have c11b0 : (t141 == 0) = true := beq_iff_eq.mpr c11
                have c11b1 : (t141 != 0) = false := bne_eq_false_iff_eq.mpr c11
                clear c11
                by_cases c12 : t146 = 10
                · rw [if_pos c12] at H
                  have c12b0 : (t146 == 10) = true := beq_iff_eq.mpr c12
                  have c12b1 : (t146 != 10) = false := bne_eq_false_iff_eq.mpr c12
                  clear c12
                  by_cases c13 : t148 = 1
                  · rw [if_pos c13] at H
                    have c13b0 : (t148 == 1) = true := beq_iff_eq.mpr c13
                    have c13b1 : (t148 != 1) = false := bne_eq_false_iff_eq.mpr c13
                    clear c13
                    by_cases c14 : t149 = 10
                    · rw [if_pos c14] at H
                      have c14b0 : (t149 == 10) = true := beq_iff_eq.mpr c14
                      have c14b1 : (t149 != 10) = false := bne_eq_false_iff_eq.mpr c14
                      clear c14
                      replace H := Option.bind_eq_some_iff.mp H
                      obtain ⟨t153, A150, H⟩ := H
                      replace H : (some (t153 == 0)) = some r := H
                      have A15 := Aside0.mk A150
                      clear A150
                      obtain rfl := Option.some.inj H
                      go_enter Try.func15, Try.ntmps15
                      go_wp2_with (first | ((with_reducible refine gate_dst (N := 13) rfl ?_); (try (refine gate_guard (by rfl) ?_; dsimp only)); refine Kd.R_lit (Kd.int .i32) _ 21 ?hg (N := 13) ?hd (xs := ([233, 8364] : List Int)) (inner := [.int .i32 233, .int .i32 8364]) (ok := fun _ => True) (okp := fun _ => True) ?hr ?hp (fun _ hk => hk) trivial (Below.refl _ _) (Nat.le_refl _) (by simp) ?_; (case hd => rfl); (case hg => rfl); (case hr => first | (go_simp; done) | (go_simp; rfl)); (case hp => exact (Reps.one (show Kd.M (Kd.int .i32) _ _ _ 233 [.int .i32 233] from rfl) (Reps.one (show Kd.M (Kd.int .i32) _ _ _ 8364 [.int .i32 8364] from rfl) (Reps.none _ _)))); intro v135 w16 ho17 hb hg_ hnew_; clear hg_ hnew_; (first | rw [← Ny134.out] at ho17 | (simp only [Int.reduceToNat] at ho17; rw [← Ny134.out] at ho17)); have n0_ := Aside0.mk (Kd.R_lower ho17 (below_size (by repeat (first | (with_reducible first | exact HB.out | apply below_alloc | apply pw_below_drewN | apply below_drew1) | exact HB.out)))); have n1_ := Aside0.mk (below_step (by repeat (first | (with_reducible first | exact HB.out | apply below_alloc | apply pw_below_drewN | apply below_drew1) | exact HB.out)) hb); clear HB; have HO136 := n0_; have HB := n1_; clear n0_ n1_; clear hb ho17; obtain ⟨Ao18, co18, eo18⟩ := Kd.R_slice HO136.out; subst eo18) | ((with_reducible refine gate_callee (f := 9) rfl ?_); refine goesL_ (some 14) rfl rfl Try.func9 (by kernel_rfl) rfl #[.slice Ao18 y134.length co18] rfl (by (try simp only [List.map_toArray, List.map_cons, List.map_nil]); first | done | rfl | (simp only [List.length_drop, List.length_take]; rfl)) ?_; (with_reducible refine (utf_Encode.calls k _ _ y134 t137 t138 _ ?side1 ?side2 A1.out).mono ?_); (case side1 => repeat (first | exact (Kd.R_reads' HO136.out).2.2 | (with_reducible refine Kd.C_alloc ?_ _) | (with_reducible refine Kd.C_drewN ?_ _) | (with_reducible refine Kd.C_drew ?_))); (case side2 => exact (Kd.R_reads' HO136.out).2.1); rintro e w19 ⟨rfl, hb⟩; refine ⟨_, rfl, ?_⟩; have n0_ := Aside0.mk (Kd.R_below (by (with_reducible repeat (first | apply Kd.R_alloc | apply Kd.R_drewN | apply Kd.R_drew)); exact HO136.out) hb); have n1_ := Aside0.mk (below_step (by repeat (first | (with_reducible first | exact HB.out | apply below_alloc | apply pw_below_drewN | apply below_drew1) | exact HB.out)) hb); clear HO136; clear HB; have HO136 := n0_; have HB := n1_; clear n0_ n1_; (try clear hb); (try clear hb2); (try clear hk); (try clear hi)) | ((with_reducible refine gate_callee (f := 18) rfl ?_); refine goesL_ (some 19) rfl rfl Try.func18 (by kernel_rfl) rfl #[.string t137] rfl (by (try simp only [List.map_toArray, List.map_cons, List.map_nil]); first | done | rfl | (simp only [List.length_drop, List.length_take]; rfl)) ?_; (with_reducible refine (utf_Runes.calls k t137 t139 t140 t141 _ A2.out).mono ?_); rintro e w20 ⟨v142, rfl, ho0, hb⟩; (try clear A2); refine ⟨_, rfl, ?_⟩; have n0_ := Aside0.mk (Kd.R_elder' (by (with_reducible repeat (first | apply Kd.R_alloc | apply Kd.R_drewN | apply Kd.R_drew)); exact HO136.out) (Kd.R_base ho0) hb); have n1_ := Aside0.mk (Kd.R_lower (Kd.R_new' ho0 (Kd.R_lt (by (with_reducible repeat (first | apply Kd.R_alloc | apply Kd.R_drewN | apply Kd.R_drew)); exact HO136.out))) (below_size (by repeat (first | (with_reducible first | exact HB.out | apply below_alloc | apply pw_below_drewN | apply below_drew1) | exact HB.out)))); have n2_ := Aside0.mk (below_step (by repeat (first | (with_reducible first | exact HB.out | apply below_alloc | apply pw_below_drewN | apply below_drew1) | exact HB.out)) hb); clear HO136; clear HB; have HO136 := n0_; have HO143 := n1_; have HB := n2_; clear n0_ n1_ n2_; (try clear hb); (try clear hb2); (try clear hk); (try clear hi); (try clear ho0)) | ((with_reducible refine gate_callee (f := 16) rfl ?_); refine goesL_ (some 24) rfl rfl Try.func16 (by kernel_rfl) rfl #[.string (⟨#[237, 160, 128]⟩ : ByteArray), .int .i64 0] rfl (by (try simp only [List.map_toArray, List.map_cons, List.map_nil]); first | done | rfl | (simp only [List.length_drop, List.length_take]; rfl)) ?_; (with_reducible refine (utf_Decode.calls k (⟨#[237, 160, 128]⟩ : ByteArray) 0 t144 t145 t146 _ A3.out).mono ?_); rintro e w' ⟨rfl, ⟨nd, rfl⟩⟩; refine ⟨_, rfl, ?_⟩) | ((with_reducible refine gate_callee (f := 18) rfl ?_); refine goesL_ (some 29) rfl rfl Try.func18 (by kernel_rfl) rfl #[.string (⟨#[97, 192, 128]⟩ : ByteArray)] rfl (by (try simp only [List.map_toArray, List.map_cons, List.map_nil]); first | done | rfl | (simp only [List.length_drop, List.length_take]; rfl)) ?_; (with_reducible refine (utf_Runes.calls k (⟨#[97, 192, 128]⟩ : ByteArray) t147 t148 t149 _ A4.out).mono ?_); rintro e w21 ⟨v150, rfl, ho0, hb⟩; (try clear A4); refine ⟨_, rfl, ?_⟩; have n0_ := Aside0.mk (Kd.R_elder' (by (with_reducible repeat (first | apply Kd.R_alloc | apply Kd.R_drewN | apply Kd.R_drew)); exact HO136.out) (Kd.R_base ho0) hb); have n1_ := Aside0.mk (Kd.R_elder' (by (with_reducible repeat (first | apply Kd.R_alloc | apply Kd.R_drewN | apply Kd.R_drew)); exact HO143.out) (Kd.R_base ho0) hb); have n2_ := Aside0.mk (Kd.R_lower (Kd.R_new' (Kd.R_new' ho0 (Kd.R_lt (by (with_reducible repeat (first | apply Kd.R_alloc | apply Kd.R_drewN | apply Kd.R_drew)); exact HO136.out))) (Kd.R_lt (by (with_reducible repeat (first | apply Kd.R_alloc | apply Kd.R_drewN | apply Kd.R_drew)); exact HO143.out))) (below_size (by repeat (first | (with_reducible first | exact HB.out | apply below_alloc | apply pw_below_drewN | apply below_drew1) | exact HB.out)))); have n3_ := Aside0.mk (below_step (by repeat (first | (with_reducible first | exact HB.out | apply below_alloc | apply pw_below_drewN | apply below_drew1) | exact HB.out)) hb); clear HO136; clear HO143; clear HB; have HO136 := n0_; have HO143 := n1_; have HO151 := n2_; have HB := n3_; clear n0_ n1_ n2_ n3_; (try clear hb); (try clear hb2); (try clear hk); (try clear hi); (try clear ho0); obtain ⟨Ao22, co22, eo22⟩ := Kd.R_slice HO143.out; subst eo22; have p152 : 0 ≤ (1 : Int) := (by omega); have q152 : 1 < (t139.length : Int) := of_decide_eq_true (by first | (with_reducible assumption) | assumption); obtain ⟨ad152, e152, hx152_0⟩ := Kd.at_int (Kd.R_reads' HO143.out).2.2 1 p152 q152; cases e152; (try simp only [show (1 : Int).toNat = 1 from rfl, Nat.reduceMul, Nat.reduceEqDiff, Go.Addr.add, ↓reduceIte] at hx152_0); have qi152 : (1 < t139.length) = True := eq_true (by omega); (try rw [show ((1 : Int)).toNat = 1 from rfl] at hx152_0); replace p152 := eq_true p152; replace q152 := eq_true q152) | (go_at_call 13; (with_reducible refine (utf_Length.calls 55296 t153 _ A15.out).mono ?_); rintro e w' ⟨rfl, ⟨nd, rfl⟩⟩))
                      go_ret
                      exact ⟨by first | rfl | (simp [errW_none, errW_some] <;> rfl) | (simp [*, errW_none, errW_some] <;> rfl), by repeat (first | (with_reducible first | exact HB.out | apply below_alloc | apply pw_below_drewN | apply below_drew1) | exact HB.out)⟩
                    · rw [if_neg c14] at H
                      have c14b0 : (t149 == 10) = false := beq_eq_false_iff_ne.mpr c14
                      have c14b1 : (t149 != 10) = true := bne_iff_ne.mpr c14
                      obtain rfl := Option.some.inj H
                      go_enter Try.func15, Try.ntmps15
                      go_wp2_with (first | ((with_reducible refine gate_dst (N := 13) rfl ?_); (try (refine gate_guard (by rfl) ?_; dsimp only)); refine Kd.R_lit (Kd.int .i32) _ 21 ?hg (N := 13) ?hd (xs := ([233, 8364] : List Int)) (inner := [.int .i32 233, .int .i32 8364]) (ok := fun _ => True) (okp := fun _ => True) ?hr ?hp (fun _ hk => hk) trivial (Below.refl _ _) (Nat.le_refl _) (by simp) ?_; (case hd => rfl); (case hg => rfl); (case hr => first | (go_simp; done) | (go_simp; rfl)); (case hp => exact (Reps.one (show Kd.M (Kd.int .i32) _ _ _ 233 [.int .i32 233] from rfl) (Reps.one (show Kd.M (Kd.int .i32) _ _ _ 8364 [.int .i32 8364] from rfl) (Reps.none _ _)))); intro v135 w23 ho24 hb hg_ hnew_; clear hg_ hnew_; (first | rw [← Ny134.out] at ho24 | (simp only [Int.reduceToNat] at ho24; rw [← Ny134.out] at ho24)); have n0_ := Aside0.mk (Kd.R_lower ho24 (below_size (by repeat (first | (with_reducible first | exact HB.out | apply below_alloc | apply pw_below_drewN | apply below_drew1) | exact HB.out)))); have n1_ := Aside0.mk (below_step (by repeat (first | (with_reducible first | exact HB.out | apply below_alloc | apply pw_below_drewN | apply below_drew1) | exact HB.out)) hb); clear HB; have HO136 := n0_; have HB := n1_; clear n0_ n1_; clear hb ho24; obtain ⟨Ao25, co25, eo25⟩ := Kd.R_slice HO136.out; subst eo25) | ((with_reducible refine gate_callee (f := 9) rfl ?_); refine goesL_ (some 14) rfl rfl Try.func9 (by kernel_rfl) rfl #[.slice Ao25 y134.length co25] rfl (by (try simp only [List.map_toArray, List.map_cons, List.map_nil]); first | done | rfl | (simp only [List.length_drop, List.length_take]; rfl)) ?_; (with_reducible refine (utf_Encode.calls k _ _ y134 t137 t138 _ ?side1 ?side2 A1.out).mono ?_); (case side1 => repeat (first | exact (Kd.R_reads' HO136.out).2.2 | (with_reducible refine Kd.C_alloc ?_ _) | (with_reducible refine Kd.C_drewN ?_ _) | (with_reducible refine Kd.C_drew ?_))); (case side2 => exact (Kd.R_reads' HO136.out).2.1); rintro e w26 ⟨rfl, hb⟩; refine ⟨_, rfl, ?_⟩; have n0_ := Aside0.mk (Kd.R_below (by (with_reducible repeat (first | apply Kd.R_alloc | apply Kd.R_drewN | apply Kd.R_drew)); exact HO136.out) hb); have n1_ := Aside0.mk (below_step (by repeat (first | (with_reducible first | exact HB.out | apply below_alloc | apply pw_below_drewN | apply below_drew1) | exact HB.out)) hb); clear HO136; clear HB; have HO136 := n0_; have HB := n1_; clear n0_ n1_; (try clear hb); (try clear hb2); (try clear hk); (try clear hi)) | ((with_reducible refine gate_callee (f := 18) rfl ?_); refine goesL_ (some 19) rfl rfl Try.func18 (by kernel_rfl) rfl #[.string t137] rfl (by (try simp only [List.map_toArray, List.map_cons, List.map_nil]); first | done | rfl | (simp only [List.length_drop, List.length_take]; rfl)) ?_; (with_reducible refine (utf_Runes.calls k t137 t139 t140 t141 _ A2.out).mono ?_); rintro e w27 ⟨v142, rfl, ho0, hb⟩; (try clear A2); refine ⟨_, rfl, ?_⟩; have n0_ := Aside0.mk (Kd.R_elder' (by (with_reducible repeat (first | apply Kd.R_alloc | apply Kd.R_drewN | apply Kd.R_drew)); exact HO136.out) (Kd.R_base ho0) hb); have n1_ := Aside0.mk (Kd.R_lower (Kd.R_new' ho0 (Kd.R_lt (by (with_reducible repeat (first | apply Kd.R_alloc | apply Kd.R_drewN | apply Kd.R_drew)); exact HO136.out))) (below_size (by repeat (first | (with_reducible first | exact HB.out | apply below_alloc | apply pw_below_drewN | apply below_drew1) | exact HB.out)))); have n2_ := Aside0.mk (below_step (by repeat (first | (with_reducible first | exact HB.out | apply below_alloc | apply pw_below_drewN | apply below_drew1) | exact HB.out)) hb); clear HO136; clear HB; have HO136 := n0_; have HO143 := n1_; have HB := n2_; clear n0_ n1_ n2_; (try clear hb); (try clear hb2); (try clear hk); (try clear hi); (try clear ho0)) | ((with_reducible refine gate_callee (f := 16) rfl ?_); refine goesL_ (some 24) rfl rfl Try.func16 (by kernel_rfl) rfl #[.string (⟨#[237, 160, 128]⟩ : ByteArray), .int .i64 0] rfl (by (try simp only [List.map_toArray, List.map_cons, List.map_nil]); first | done | rfl | (simp only [List.length_drop, List.length_take]; rfl)) ?_; (with_reducible refine (utf_Decode.calls k (⟨#[237, 160, 128]⟩ : ByteArray) 0 t144 t145 t146 _ A3.out).mono ?_); rintro e w' ⟨rfl, ⟨nd, rfl⟩⟩; refine ⟨_, rfl, ?_⟩) | ((with_reducible refine gate_callee (f := 18) rfl ?_); refine goesL_ (some 29) rfl rfl Try.func18 (by kernel_rfl) rfl #[.string (⟨#[97, 192, 128]⟩ : ByteArray)] rfl (by (try simp only [List.map_toArray, List.map_cons, List.map_nil]); first | done | rfl | (simp only [List.length_drop, List.length_take]; rfl)) ?_; (with_reducible refine (utf_Runes.calls k (⟨#[97, 192, 128]⟩ : ByteArray) t147 t148 t149 _ A4.out).mono ?_); rintro e w28 ⟨v150, rfl, ho0, hb⟩; (try clear A4); refine ⟨_, rfl, ?_⟩; have n0_ := Aside0.mk (Kd.R_elder' (by (with_reducible repeat (first | apply Kd.R_alloc | apply Kd.R_drewN | apply Kd.R_drew)); exact HO136.out) (Kd.R_base ho0) hb); have n1_ := Aside0.mk (Kd.R_elder' (by (with_reducible repeat (first | apply Kd.R_alloc | apply Kd.R_drewN | apply Kd.R_drew)); exact HO143.out) (Kd.R_base ho0) hb); have n2_ := Aside0.mk (Kd.R_lower (Kd.R_new' (Kd.R_new' ho0 (Kd.R_lt (by (with_reducible repeat (first | apply Kd.R_alloc | apply Kd.R_drewN | apply Kd.R_drew)); exact HO136.out))) (Kd.R_lt (by (with_reducible repeat (first | apply Kd.R_alloc | apply Kd.R_drewN | apply Kd.R_drew)); exact HO143.out))) (below_size (by repeat (first | (with_reducible first | exact HB.out | apply below_alloc | apply pw_below_drewN | apply below_drew1) | exact HB.out)))); have n3_ := Aside0.mk (below_step (by repeat (first | (with_reducible first | exact HB.out | apply below_alloc | apply pw_below_drewN | apply below_drew1) | exact HB.out)) hb); clear HO136; clear HO143; clear HB; have HO136 := n0_; have HO143 := n1_; have HO151 := n2_; have HB := n3_; clear n0_ n1_ n2_ n3_; (try clear hb); (try clear hb2); (try clear hk); (try clear hi); (try clear ho0); obtain ⟨Ao29, co29, eo29⟩ := Kd.R_slice HO143.out; subst eo29; have p152 : 0 ≤ (1 : Int) := (by omega); have q152 : 1 < (t139.length : Int) := of_decide_eq_true (by first | (with_reducible assumption) | assumption); obtain ⟨ad152, e152, hx152_0⟩ := Kd.at_int (Kd.R_reads' HO143.out).2.2 1 p152 q152; cases e152; (try simp only [show (1 : Int).toNat = 1 from rfl, Nat.reduceMul, Nat.reduceEqDiff, Go.Addr.add, ↓reduceIte] at hx152_0); have qi152 : (1 < t139.length) = True := eq_true (by omega); (try rw [show ((1 : Int)).toNat = 1 from rfl] at hx152_0); replace p152 := eq_true p152; replace q152 := eq_true q152))
                      go_ret
                      exact ⟨by first | rfl | (simp [errW_none, errW_some] <;> rfl) | (simp [*, errW_none, errW_some] <;> rfl), by repeat (first | (with_reducible first | exact HB.out | apply below_alloc | apply pw_below_drewN | apply below_drew1) | exact HB.out)⟩
                  · rw [if_neg c13] at H
                    have c13b0 : (t148 == 1) = false := beq_eq_false_iff_ne.mpr c13
                    have c13b1 : (t148 != 1) = true := bne_iff_ne.mpr c13
                    obtain rfl := Option.some.inj H
                    go_enter Try.func15, Try.ntmps15
                    go_wp2_with (first | ((with_reducible refine gate_dst (N := 13) rfl ?_); (try (refine gate_guard (by rfl) ?_; dsimp only)); refine Kd.R_lit (Kd.int .i32) _ 21 ?hg (N := 13) ?hd (xs := ([233, 8364] : List Int)) (inner := [.int .i32 233, .int .i32 8364]) (ok := fun _ => True) (okp := fun _ => True) ?hr ?hp (fun _ hk => hk) trivial (Below.refl _ _) (Nat.le_refl _) (by simp) ?_; (case hd => rfl); (case hg => rfl); (case hr => first | (go_simp; done) | (go_simp; rfl)); (case hp => exact (Reps.one (show Kd.M (Kd.int .i32) _ _ _ 233 [.int .i32 233] from rfl) (Reps.one (show Kd.M (Kd.int .i32) _ _ _ 8364 [.int .i32 8364] from rfl) (Reps.none _ _)))); intro v135 w30 ho31 hb hg_ hnew_; clear hg_ hnew_; (first | rw [← Ny134.out] at ho31 | (simp only [Int.reduceToNat] at ho31; rw [← Ny134.out] at ho31)); have n0_ := Aside0.mk (Kd.R_lower ho31 (below_size (by repeat (first | (with_reducible first | exact HB.out | apply below_alloc | apply pw_below_drewN | apply below_drew1) | exact HB.out)))); have n1_ := Aside0.mk (below_step (by repeat (first | (with_reducible first | exact HB.out | apply below_alloc | apply pw_below_drewN | apply below_drew1) | exact HB.out)) hb); clear HB; have HO136 := n0_; have HB := n1_; clear n0_ n1_; clear hb ho31; obtain ⟨Ao32, co32, eo32⟩ := Kd.R_slice HO136.out; subst eo32) | ((with_reducible refine gate_callee (f := 9) rfl ?_); refine goesL_ (some 14) rfl rfl Try.func9 (by kernel_rfl) rfl #[.slice Ao32 y134.length co32] rfl (by (try simp only [List.map_toArray, List.map_cons, List.map_nil]); first | done | rfl | (simp only [List.length_drop, List.length_take]; rfl)) ?_; (with_reducible refine (utf_Encode.calls k _ _ y134 t137 t138 _ ?side1 ?side2 A1.out).mono ?_); (case side1 => repeat (first | exact (Kd.R_reads' HO136.out).2.2 | (with_reducible refine Kd.C_alloc ?_ _) | (with_reducible refine Kd.C_drewN ?_ _) | (with_reducible refine Kd.C_drew ?_))); (case side2 => exact (Kd.R_reads' HO136.out).2.1); rintro e w33 ⟨rfl, hb⟩; refine ⟨_, rfl, ?_⟩; have n0_ := Aside0.mk (Kd.R_below (by (with_reducible repeat (first | apply Kd.R_alloc | apply Kd.R_drewN | apply Kd.R_drew)); exact HO136.out) hb); have n1_ := Aside0.mk (below_step (by repeat (first | (with_reducible first | exact HB.out | apply below_alloc | apply pw_below_drewN | apply below_drew1) | exact HB.out)) hb); clear HO136; clear HB; have HO136 := n0_; have HB := n1_; clear n0_ n1_; (try clear hb); (try clear hb2); (try clear hk); (try clear hi)) | ((with_reducible refine gate_callee (f := 18) rfl ?_); refine goesL_ (some 19) rfl rfl Try.func18 (by kernel_rfl) rfl #[.string t137] rfl (by (try simp only [List.map_toArray, List.map_cons, List.map_nil]); first | done | rfl | (simp only [List.length_drop, List.length_take]; rfl)) ?_; (with_reducible refine (utf_Runes.calls k t137 t139 t140 t141 _ A2.out).mono ?_); rintro e w34 ⟨v142, rfl, ho0, hb⟩; (try clear A2); refine ⟨_, rfl, ?_⟩; have n0_ := Aside0.mk (Kd.R_elder' (by (with_reducible repeat (first | apply Kd.R_alloc | apply Kd.R_drewN | apply Kd.R_drew)); exact HO136.out) (Kd.R_base ho0) hb); have n1_ := Aside0.mk (Kd.R_lower (Kd.R_new' ho0 (Kd.R_lt (by (with_reducible repeat (first | apply Kd.R_alloc | apply Kd.R_drewN | apply Kd.R_drew)); exact HO136.out))) (below_size (by repeat (first | (with_reducible first | exact HB.out | apply below_alloc | apply pw_below_drewN | apply below_drew1) | exact HB.out)))); have n2_ := Aside0.mk (below_step (by repeat (first | (with_reducible first | exact HB.out | apply below_alloc | apply pw_below_drewN | apply below_drew1) | exact HB.out)) hb); clear HO136; clear HB; have HO136 := n0_; have HO143 := n1_; have HB := n2_; clear n0_ n1_ n2_; (try clear hb); (try clear hb2); (try clear hk); (try clear hi); (try clear ho0)) | ((with_reducible refine gate_callee (f := 16) rfl ?_); refine goesL_ (some 24) rfl rfl Try.func16 (by kernel_rfl) rfl #[.string (⟨#[237, 160, 128]⟩ : ByteArray), .int .i64 0] rfl (by (try simp only [List.map_toArray, List.map_cons, List.map_nil]); first | done | rfl | (simp only [List.length_drop, List.length_take]; rfl)) ?_; (with_reducible refine (utf_Decode.calls k (⟨#[237, 160, 128]⟩ : ByteArray) 0 t144 t145 t146 _ A3.out).mono ?_); rintro e w' ⟨rfl, ⟨nd, rfl⟩⟩; refine ⟨_, rfl, ?_⟩) | ((with_reducible refine gate_callee (f := 18) rfl ?_); refine goesL_ (some 29) rfl rfl Try.func18 (by kernel_rfl) rfl #[.string (⟨#[97, 192, 128]⟩ : ByteArray)] rfl (by (try simp only [List.map_toArray, List.map_cons, List.map_nil]); first | done | rfl | (simp only [List.length_drop, List.length_take]; rfl)) ?_; (with_reducible refine (utf_Runes.calls k (⟨#[97, 192, 128]⟩ : ByteArray) t147 t148 t149 _ A4.out).mono ?_); rintro e w35 ⟨v150, rfl, ho0, hb⟩; (try clear A4); refine ⟨_, rfl, ?_⟩; have n0_ := Aside0.mk (Kd.R_elder' (by (with_reducible repeat (first | apply Kd.R_alloc | apply Kd.R_drewN | apply Kd.R_drew)); exact HO136.out) (Kd.R_base ho0) hb); have n1_ := Aside0.mk (Kd.R_elder' (by (with_reducible repeat (first | apply Kd.R_alloc | apply Kd.R_drewN | apply Kd.R_drew)); exact HO143.out) (Kd.R_base ho0) hb); have n2_ := Aside0.mk (Kd.R_lower (Kd.R_new' (Kd.R_new' ho0 (Kd.R_lt (by (with_reducible repeat (first | apply Kd.R_alloc | apply Kd.R_drewN | apply Kd.R_drew)); exact HO136.out))) (Kd.R_lt (by (with_reducible repeat (first | apply Kd.R_alloc | apply Kd.R_drewN | apply Kd.R_drew)); exact HO143.out))) (below_size (by repeat (first | (with_reducible first | exact HB.out | apply below_alloc | apply pw_below_drewN | apply below_drew1) | exact HB.out)))); have n3_ := Aside0.mk (below_step (by repeat (first | (with_reducible first | exact HB.out | apply below_alloc | apply pw_below_drewN | apply below_drew1) | exact HB.out)) hb); clear HO136; clear HO143; clear HB; have HO136 := n0_; have HO143 := n1_; have HO151 := n2_; have HB := n3_; clear n0_ n1_ n2_ n3_; (try clear hb); (try clear hb2); (try clear hk); (try clear hi); (try clear ho0); obtain ⟨Ao36, co36, eo36⟩ := Kd.R_slice HO143.out; subst eo36; have p152 : 0 ≤ (1 : Int) := (by omega); have q152 : 1 < (t139.length : Int) := of_decide_eq_true (by first | (with_reducible assumption) | assumption); obtain ⟨ad152, e152, hx152_0⟩ := Kd.at_int (Kd.R_reads' HO143.out).2.2 1 p152 q152; cases e152; (try simp only [show (1 : Int).toNat = 1 from rfl, Nat.reduceMul, Nat.reduceEqDiff, Go.Addr.add, ↓reduceIte] at hx152_0); have qi152 : (1 < t139.length) = True := eq_true (by omega); (try rw [show ((1 : Int)).toNat = 1 from rfl] at hx152_0); replace p152 := eq_true p152; replace q152 := eq_true q152))
                    go_ret
                    exact ⟨by first | rfl | (simp [errW_none, errW_some] <;> rfl) | (simp [*, errW_none, errW_some] <;> rfl), by repeat (first | (with_reducible first | exact HB.out | apply below_alloc | apply pw_below_drewN | apply below_drew1) | exact HB.out)⟩
                · rw [if_neg c12] at H
                  have c12b0 : (t146 == 10) = false := beq_eq_false_iff_ne.mpr c12
                  have c12b1 : (t146 != 10) = true := bne_iff_ne.mpr c12
                  obtain rfl := Option.some.inj H
                  go_enter Try.func15, Try.ntmps15
                  go_wp2_with (first | ((with_reducible refine gate_dst (N := 13) rfl ?_); (try (refine gate_guard (by rfl) ?_; dsimp only)); refine Kd.R_lit (Kd.int .i32) _ 21 ?hg (N := 13) ?hd (xs := ([233, 8364] : List Int)) (inner := [.int .i32 233, .int .i32 8364]) (ok := fun _ => True) (okp := fun _ => True) ?hr ?hp (fun _ hk => hk) trivial (Below.refl _ _) (Nat.le_refl _) (by simp) ?_; (case hd => rfl); (case hg => rfl); (case hr => first | (go_simp; done) | (go_simp; rfl)); (case hp => exact (Reps.one (show Kd.M (Kd.int .i32) _ _ _ 233 [.int .i32 233] from rfl) (Reps.one (show Kd.M (Kd.int .i32) _ _ _ 8364 [.int .i32 8364] from rfl) (Reps.none _ _)))); intro v135 w37 ho38 hb hg_ hnew_; clear hg_ hnew_; (first | rw [← Ny134.out] at ho38 | (simp only [Int.reduceToNat] at ho38; rw [← Ny134.out] at ho38)); have n0_ := Aside0.mk (Kd.R_lower ho38 (below_size (by repeat (first | (with_reducible first | exact HB.out | apply below_alloc | apply pw_below_drewN | apply below_drew1) | exact HB.out)))); have n1_ := Aside0.mk (below_step (by repeat (first | (with_reducible first | exact HB.out | apply below_alloc | apply pw_below_drewN | apply below_drew1) | exact HB.out)) hb); clear HB; have HO136 := n0_; have HB := n1_; clear n0_ n1_; clear hb ho38; obtain ⟨Ao39, co39, eo39⟩ := Kd.R_slice HO136.out; subst eo39) | ((with_reducible refine gate_callee (f := 9) rfl ?_); refine goesL_ (some 14) rfl rfl Try.func9 (by kernel_rfl) rfl #[.slice Ao39 y134.length co39] rfl (by (try simp only [List.map_toArray, List.map_cons, List.map_nil]); first | done | rfl | (simp only [List.length_drop, List.length_take]; rfl)) ?_; (with_reducible refine (utf_Encode.calls k _ _ y134 t137 t138 _ ?side1 ?side2 A1.out).mono ?_); (case side1 => repeat (first | exact (Kd.R_reads' HO136.out).2.2 | (with_reducible refine Kd.C_alloc ?_ _) | (with_reducible refine Kd.C_drewN ?_ _) | (with_reducible refine Kd.C_drew ?_))); (case side2 => exact (Kd.R_reads' HO136.out).2.1); rintro e w40 ⟨rfl, hb⟩; refine ⟨_, rfl, ?_⟩; have n0_ := Aside0.mk (Kd.R_below (by (with_reducible repeat (first | apply Kd.R_alloc | apply Kd.R_drewN | apply Kd.R_drew)); exact HO136.out) hb); have n1_ := Aside0.mk (below_step (by repeat (first | (with_reducible first | exact HB.out | apply below_alloc | apply pw_below_drewN | apply below_drew1) | exact HB.out)) hb); clear HO136; clear HB; have HO136 := n0_; have HB := n1_; clear n0_ n1_; (try clear hb); (try clear hb2); (try clear hk); (try clear hi)) | ((with_reducible refine gate_callee (f := 18) rfl ?_); refine goesL_ (some 19) rfl rfl Try.func18 (by kernel_rfl) rfl #[.string t137] rfl (by (try simp only [List.map_toArray, List.map_cons, List.map_nil]); first | done | rfl | (simp only [List.length_drop, List.length_take]; rfl)) ?_; (with_reducible refine (utf_Runes.calls k t137 t139 t140 t141 _ A2.out).mono ?_); rintro e w41 ⟨v142, rfl, ho0, hb⟩; (try clear A2); refine ⟨_, rfl, ?_⟩; have n0_ := Aside0.mk (Kd.R_elder' (by (with_reducible repeat (first | apply Kd.R_alloc | apply Kd.R_drewN | apply Kd.R_drew)); exact HO136.out) (Kd.R_base ho0) hb); have n1_ := Aside0.mk (Kd.R_lower (Kd.R_new' ho0 (Kd.R_lt (by (with_reducible repeat (first | apply Kd.R_alloc | apply Kd.R_drewN | apply Kd.R_drew)); exact HO136.out))) (below_size (by repeat (first | (with_reducible first | exact HB.out | apply below_alloc | apply pw_below_drewN | apply below_drew1) | exact HB.out)))); have n2_ := Aside0.mk (below_step (by repeat (first | (with_reducible first | exact HB.out | apply below_alloc | apply pw_below_drewN | apply below_drew1) | exact HB.out)) hb); clear HO136; clear HB; have HO136 := n0_; have HO143 := n1_; have HB := n2_; clear n0_ n1_ n2_; (try clear hb); (try clear hb2); (try clear hk); (try clear hi); (try clear ho0)) | ((with_reducible refine gate_callee (f := 16) rfl ?_); refine goesL_ (some 24) rfl rfl Try.func16 (by kernel_rfl) rfl #[.string (⟨#[237, 160, 128]⟩ : ByteArray), .int .i64 0] rfl (by (try simp only [List.map_toArray, List.map_cons, List.map_nil]); first | done | rfl | (simp only [List.length_drop, List.length_take]; rfl)) ?_; (with_reducible refine (utf_Decode.calls k (⟨#[237, 160, 128]⟩ : ByteArray) 0 t144 t145 t146 _ A3.out).mono ?_); rintro e w' ⟨rfl, ⟨nd, rfl⟩⟩; refine ⟨_, rfl, ?_⟩) | ((with_reducible refine gate_callee (f := 18) rfl ?_); refine goesL_ (some 29) rfl rfl Try.func18 (by kernel_rfl) rfl #[.string (⟨#[97, 192, 128]⟩ : ByteArray)] rfl (by (try simp only [List.map_toArray, List.map_cons, List.map_nil]); first | done | rfl | (simp only [List.length_drop, List.length_take]; rfl)) ?_; (with_reducible refine (utf_Runes.calls k (⟨#[97, 192, 128]⟩ : ByteArray) t147 t148 t149 _ A4.out).mono ?_); rintro e w42 ⟨v150, rfl, ho0, hb⟩; (try clear A4); refine ⟨_, rfl, ?_⟩; have n0_ := Aside0.mk (Kd.R_elder' (by (with_reducible repeat (first | apply Kd.R_alloc | apply Kd.R_drewN | apply Kd.R_drew)); exact HO136.out) (Kd.R_base ho0) hb); have n1_ := Aside0.mk (Kd.R_elder' (by (with_reducible repeat (first | apply Kd.R_alloc | apply Kd.R_drewN | apply Kd.R_drew)); exact HO143.out) (Kd.R_base ho0) hb); have n2_ := Aside0.mk (Kd.R_lower (Kd.R_new' (Kd.R_new' ho0 (Kd.R_lt (by (with_reducible repeat (first | apply Kd.R_alloc | apply Kd.R_drewN | apply Kd.R_drew)); exact HO136.out))) (Kd.R_lt (by (with_reducible repeat (first | apply Kd.R_alloc | apply Kd.R_drewN | apply Kd.R_drew)); exact HO143.out))) (below_size (by repeat (first | (with_reducible first | exact HB.out | apply below_alloc | apply pw_below_drewN | apply below_drew1) | exact HB.out)))); have n3_ := Aside0.mk (below_step (by repeat (first | (with_reducible first | exact HB.out | apply below_alloc | apply pw_below_drewN | apply below_drew1) | exact HB.out)) hb); clear HO136; clear HO143; clear HB; have HO136 := n0_; have HO143 := n1_; have HO151 := n2_; have HB := n3_; clear n0_ n1_ n2_ n3_; (try clear hb); (try clear hb2); (try clear hk); (try clear hi); (try clear ho0); obtain ⟨Ao43, co43, eo43⟩ := Kd.R_slice HO143.out; subst eo43; have p152 : 0 ≤ (1 : Int) := (by omega); have q152 : 1 < (t139.length : Int) := of_decide_eq_true (by first | (with_reducible assumption) | assumption); obtain ⟨ad152, e152, hx152_0⟩ := Kd.at_int (Kd.R_reads' HO143.out).2.2 1 p152 q152; cases e152; (try simp only [show (1 : Int).toNat = 1 from rfl, Nat.reduceMul, Nat.reduceEqDiff, Go.Addr.add, ↓reduceIte] at hx152_0); have qi152 : (1 < t139.length) = True := eq_true (by omega); (try rw [show ((1 : Int)).toNat = 1 from rfl] at hx152_0); replace p152 := eq_true p152; replace q152 := eq_true q152))
                  go_ret
                  exact ⟨by first | rfl | (simp [errW_none, errW_some] <;> rfl) | (simp [*, errW_none, errW_some] <;> rfl), by repeat (first | (with_reducible first | exact HB.out | apply below_alloc | apply pw_below_drewN | apply below_drew1) | exact HB.out)⟩
              · rw [if_neg c11] at H
                have c11b0 : (t141 == 0) = false := beq_eq_false_iff_ne.mpr c11
                have c11b1 : (t141 != 0) = true := bne_iff_ne.mpr c11
                obtain rfl := Option.some.inj H
                go_enter Try.func15, Try.ntmps15
                go_wp2_with (first | ((with_reducible refine gate_dst (N := 13) rfl ?_); (try (refine gate_guard (by rfl) ?_; dsimp only)); refine Kd.R_lit (Kd.int .i32) _ 21 ?hg (N := 13) ?hd (xs := ([233, 8364] : List Int)) (inner := [.int .i32 233, .int .i32 8364]) (ok := fun _ => True) (okp := fun _ => True) ?hr ?hp (fun _ hk => hk) trivial (Below.refl _ _) (Nat.le_refl _) (by simp) ?_; (case hd => rfl); (case hg => rfl); (case hr => first | (go_simp; done) | (go_simp; rfl)); (case hp => exact (Reps.one (show Kd.M (Kd.int .i32) _ _ _ 233 [.int .i32 233] from rfl) (Reps.one (show Kd.M (Kd.int .i32) _ _ _ 8364 [.int .i32 8364] from rfl) (Reps.none _ _)))); intro v135 w44 ho45 hb hg_ hnew_; clear hg_ hnew_; (first | rw [← Ny134.out] at ho45 | (simp only [Int.reduceToNat] at ho45; rw [← Ny134.out] at ho45)); have n0_ := Aside0.mk (Kd.R_lower ho45 (below_size (by repeat (first | (with_reducible first | exact HB.out | apply below_alloc | apply pw_below_drewN | apply below_drew1) | exact HB.out)))); have n1_ := Aside0.mk (below_step (by repeat (first | (with_reducible first | exact HB.out | apply below_alloc | apply pw_below_drewN | apply below_drew1) | exact HB.out)) hb); clear HB; have HO136 := n0_; have HB := n1_; clear n0_ n1_; clear hb ho45; obtain ⟨Ao46, co46, eo46⟩ := Kd.R_slice HO136.out; subst eo46) | ((with_reducible refine gate_callee (f := 9) rfl ?_); refine goesL_ (some 14) rfl rfl Try.func9 (by kernel_rfl) rfl #[.slice Ao46 y134.length co46] rfl (by (try simp only [List.map_toArray, List.map_cons, List.map_nil]); first | done | rfl | (simp only [List.length_drop, List.length_take]; rfl)) ?_; (with_reducible refine (utf_Encode.calls k _ _ y134 t137 t138 _ ?side1 ?side2 A1.out).mono ?_); (case side1 => repeat (first | exact (Kd.R_reads' HO136.out).2.2 | (with_reducible refine Kd.C_alloc ?_ _) | (with_reducible refine Kd.C_drewN ?_ _) | (with_reducible refine Kd.C_drew ?_))); (case side2 => exact (Kd.R_reads' HO136.out).2.1); rintro e w47 ⟨rfl, hb⟩; refine ⟨_, rfl, ?_⟩; have n0_ := Aside0.mk (Kd.R_below (by (with_reducible repeat (first | apply Kd.R_alloc | apply Kd.R_drewN | apply Kd.R_drew)); exact HO136.out) hb); have n1_ := Aside0.mk (below_step (by repeat (first | (with_reducible first | exact HB.out | apply below_alloc | apply pw_below_drewN | apply below_drew1) | exact HB.out)) hb); clear HO136; clear HB; have HO136 := n0_; have HB := n1_; clear n0_ n1_; (try clear hb); (try clear hb2); (try clear hk); (try clear hi)) | ((with_reducible refine gate_callee (f := 18) rfl ?_); refine goesL_ (some 19) rfl rfl Try.func18 (by kernel_rfl) rfl #[.string t137] rfl (by (try simp only [List.map_toArray, List.map_cons, List.map_nil]); first | done | rfl | (simp only [List.length_drop, List.length_take]; rfl)) ?_; (with_reducible refine (utf_Runes.calls k t137 t139 t140 t141 _ A2.out).mono ?_); rintro e w48 ⟨v142, rfl, ho0, hb⟩; (try clear A2); refine ⟨_, rfl, ?_⟩; have n0_ := Aside0.mk (Kd.R_elder' (by (with_reducible repeat (first | apply Kd.R_alloc | apply Kd.R_drewN | apply Kd.R_drew)); exact HO136.out) (Kd.R_base ho0) hb); have n1_ := Aside0.mk (Kd.R_lower (Kd.R_new' ho0 (Kd.R_lt (by (with_reducible repeat (first | apply Kd.R_alloc | apply Kd.R_drewN | apply Kd.R_drew)); exact HO136.out))) (below_size (by repeat (first | (with_reducible first | exact HB.out | apply below_alloc | apply pw_below_drewN | apply below_drew1) | exact HB.out)))); have n2_ := Aside0.mk (below_step (by repeat (first | (with_reducible first | exact HB.out | apply below_alloc | apply pw_below_drewN | apply below_drew1) | exact HB.out)) hb); clear HO136; clear HB; have HO136 := n0_; have HO143 := n1_; have HB := n2_; clear n0_ n1_ n2_; (try clear hb); (try clear hb2); (try clear hk); (try clear hi); (try clear ho0)) | ((with_reducible refine gate_callee (f := 16) rfl ?_); refine goesL_ (some 24) rfl rfl Try.func16 (by kernel_rfl) rfl #[.string (⟨#[237, 160, 128]⟩ : ByteArray), .int .i64 0] rfl (by (try simp only [List.map_toArray, List.map_cons, List.map_nil]); first | done | rfl | (simp only [List.length_drop, List.length_take]; rfl)) ?_; (with_reducible refine (utf_Decode.calls k (⟨#[237, 160, 128]⟩ : ByteArray) 0 t144 t145 t146 _ A3.out).mono ?_); rintro e w' ⟨rfl, ⟨nd, rfl⟩⟩; refine ⟨_, rfl, ?_⟩) | ((with_reducible refine gate_callee (f := 18) rfl ?_); refine goesL_ (some 29) rfl rfl Try.func18 (by kernel_rfl) rfl #[.string (⟨#[97, 192, 128]⟩ : ByteArray)] rfl (by (try simp only [List.map_toArray, List.map_cons, List.map_nil]); first | done | rfl | (simp only [List.length_drop, List.length_take]; rfl)) ?_; (with_reducible refine (utf_Runes.calls k (⟨#[97, 192, 128]⟩ : ByteArray) t147 t148 t149 _ A4.out).mono ?_); rintro e w49 ⟨v150, rfl, ho0, hb⟩; (try clear A4); refine ⟨_, rfl, ?_⟩; have n0_ := Aside0.mk (Kd.R_elder' (by (with_reducible repeat (first | apply Kd.R_alloc | apply Kd.R_drewN | apply Kd.R_drew)); exact HO136.out) (Kd.R_base ho0) hb); have n1_ := Aside0.mk (Kd.R_elder' (by (with_reducible repeat (first | apply Kd.R_alloc | apply Kd.R_drewN | apply Kd.R_drew)); exact HO143.out) (Kd.R_base ho0) hb); have n2_ := Aside0.mk (Kd.R_lower (Kd.R_new' (Kd.R_new' ho0 (Kd.R_lt (by (with_reducible repeat (first | apply Kd.R_alloc | apply Kd.R_drewN | apply Kd.R_drew)); exact HO136.out))) (Kd.R_lt (by (with_reducible repeat (first | apply Kd.R_alloc | apply Kd.R_drewN | apply Kd.R_drew)); exact HO143.out))) (below_size (by repeat (first | (with_reducible first | exact HB.out | apply below_alloc | apply pw_below_drewN | apply below_drew1) | exact HB.out)))); have n3_ := Aside0.mk (below_step (by repeat (first | (with_reducible first | exact HB.out | apply below_alloc | apply pw_below_drewN | apply below_drew1) | exact HB.out)) hb); clear HO136; clear HO143; clear HB; have HO136 := n0_; have HO143 := n1_; have HO151 := n2_; have HB := n3_; clear n0_ n1_ n2_ n3_; (try clear hb); (try clear hb2); (try clear hk); (try clear hi); (try clear ho0); obtain ⟨Ao50, co50, eo50⟩ := Kd.R_slice HO143.out; subst eo50; have p152 : 0 ≤ (1 : Int) := (by omega); have q152 : 1 < (t139.length : Int) := of_decide_eq_true (by first | (with_reducible assumption) | assumption); obtain ⟨ad152, e152, hx152_0⟩ := Kd.at_int (Kd.R_reads' HO143.out).2.2 1 p152 q152; cases e152; (try simp only [show (1 : Int).toNat = 1 from rfl, Nat.reduceMul, Nat.reduceEqDiff, Go.Addr.add, ↓reduceIte] at hx152_0); have qi152 : (1 < t139.length) = True := eq_true (by omega); (try rw [show ((1 : Int)).toNat = 1 from rfl] at hx152_0); replace p152 := eq_true p152; replace q152 := eq_true q152))
                go_ret
                exact ⟨by first | rfl | (simp [errW_none, errW_some] <;> rfl) | (simp [*, errW_none, errW_some] <;> rfl), by repeat (first | (with_reducible first | exact HB.out | apply below_alloc | apply pw_below_drewN | apply below_drew1) | exact HB.out)⟩
            · rw [if_neg c10] at H
              have c10b0 : (t140 == 5) = false := beq_eq_false_iff_ne.mpr c10
              have c10b1 : (t140 != 5) = true := bne_iff_ne.mpr c10
              obtain rfl := Option.some.inj H
              go_enter Try.func15, Try.ntmps15
              go_wp2_with (first | ((with_reducible refine gate_dst (N := 13) rfl ?_); (try (refine gate_guard (by rfl) ?_; dsimp only)); refine Kd.R_lit (Kd.int .i32) _ 21 ?hg (N := 13) ?hd (xs := ([233, 8364] : List Int)) (inner := [.int .i32 233, .int .i32 8364]) (ok := fun _ => True) (okp := fun _ => True) ?hr ?hp (fun _ hk => hk) trivial (Below.refl _ _) (Nat.le_refl _) (by simp) ?_; (case hd => rfl); (case hg => rfl); (case hr => first | (go_simp; done) | (go_simp; rfl)); (case hp => exact (Reps.one (show Kd.M (Kd.int .i32) _ _ _ 233 [.int .i32 233] from rfl) (Reps.one (show Kd.M (Kd.int .i32) _ _ _ 8364 [.int .i32 8364] from rfl) (Reps.none _ _)))); intro v135 w51 ho52 hb hg_ hnew_; clear hg_ hnew_; (first | rw [← Ny134.out] at ho52 | (simp only [Int.reduceToNat] at ho52; rw [← Ny134.out] at ho52)); have n0_ := Aside0.mk (Kd.R_lower ho52 (below_size (by repeat (first | (with_reducible first | exact HB.out | apply below_alloc | apply pw_below_drewN | apply below_drew1) | exact HB.out)))); have n1_ := Aside0.mk (below_step (by repeat (first | (with_reducible first | exact HB.out | apply below_alloc | apply pw_below_drewN | apply below_drew1) | exact HB.out)) hb); clear HB; have HO136 := n0_; have HB := n1_; clear n0_ n1_; clear hb ho52; obtain ⟨Ao53, co53, eo53⟩ := Kd.R_slice HO136.out; subst eo53) | ((with_reducible refine gate_callee (f := 9) rfl ?_); refine goesL_ (some 14) rfl rfl Try.func9 (by kernel_rfl) rfl #[.slice Ao53 y134.length co53] rfl (by (try simp only [List.map_toArray, List.map_cons, List.map_nil]); first | done | rfl | (simp only [List.length_drop, List.length_take]; rfl)) ?_; (with_reducible refine (utf_Encode.calls k _ _ y134 t137 t138 _ ?side1 ?side2 A1.out).mono ?_); (case side1 => repeat (first | exact (Kd.R_reads' HO136.out).2.2 | (with_reducible refine Kd.C_alloc ?_ _) | (with_reducible refine Kd.C_drewN ?_ _) | (with_reducible refine Kd.C_drew ?_))); (case side2 => exact (Kd.R_reads' HO136.out).2.1); rintro e w54 ⟨rfl, hb⟩; refine ⟨_, rfl, ?_⟩; have n0_ := Aside0.mk (Kd.R_below (by (with_reducible repeat (first | apply Kd.R_alloc | apply Kd.R_drewN | apply Kd.R_drew)); exact HO136.out) hb); have n1_ := Aside0.mk (below_step (by repeat (first | (with_reducible first | exact HB.out | apply below_alloc | apply pw_below_drewN | apply below_drew1) | exact HB.out)) hb); clear HO136; clear HB; have HO136 := n0_; have HB := n1_; clear n0_ n1_; (try clear hb); (try clear hb2); (try clear hk); (try clear hi)) | ((with_reducible refine gate_callee (f := 18) rfl ?_); refine goesL_ (some 19) rfl rfl Try.func18 (by kernel_rfl) rfl #[.string t137] rfl (by (try simp only [List.map_toArray, List.map_cons, List.map_nil]); first | done | rfl | (simp only [List.length_drop, List.length_take]; rfl)) ?_; (with_reducible refine (utf_Runes.calls k t137 t139 t140 t141 _ A2.out).mono ?_); rintro e w55 ⟨v142, rfl, ho0, hb⟩; (try clear A2); refine ⟨_, rfl, ?_⟩; have n0_ := Aside0.mk (Kd.R_elder' (by (with_reducible repeat (first | apply Kd.R_alloc | apply Kd.R_drewN | apply Kd.R_drew)); exact HO136.out) (Kd.R_base ho0) hb); have n1_ := Aside0.mk (Kd.R_lower (Kd.R_new' ho0 (Kd.R_lt (by (with_reducible repeat (first | apply Kd.R_alloc | apply Kd.R_drewN | apply Kd.R_drew)); exact HO136.out))) (below_size (by repeat (first | (with_reducible first | exact HB.out | apply below_alloc | apply pw_below_drewN | apply below_drew1) | exact HB.out)))); have n2_ := Aside0.mk (below_step (by repeat (first | (with_reducible first | exact HB.out | apply below_alloc | apply pw_below_drewN | apply below_drew1) | exact HB.out)) hb); clear HO136; clear HB; have HO136 := n0_; have HO143 := n1_; have HB := n2_; clear n0_ n1_ n2_; (try clear hb); (try clear hb2); (try clear hk); (try clear hi); (try clear ho0)) | ((with_reducible refine gate_callee (f := 16) rfl ?_); refine goesL_ (some 24) rfl rfl Try.func16 (by kernel_rfl) rfl #[.string (⟨#[237, 160, 128]⟩ : ByteArray), .int .i64 0] rfl (by (try simp only [List.map_toArray, List.map_cons, List.map_nil]); first | done | rfl | (simp only [List.length_drop, List.length_take]; rfl)) ?_; (with_reducible refine (utf_Decode.calls k (⟨#[237, 160, 128]⟩ : ByteArray) 0 t144 t145 t146 _ A3.out).mono ?_); rintro e w' ⟨rfl, ⟨nd, rfl⟩⟩; refine ⟨_, rfl, ?_⟩) | ((with_reducible refine gate_callee (f := 18) rfl ?_); refine goesL_ (some 29) rfl rfl Try.func18 (by kernel_rfl) rfl #[.string (⟨#[97, 192, 128]⟩ : ByteArray)] rfl (by (try simp only [List.map_toArray, List.map_cons, List.map_nil]); first | done | rfl | (simp only [List.length_drop, List.length_take]; rfl)) ?_; (with_reducible refine (utf_Runes.calls k (⟨#[97, 192, 128]⟩ : ByteArray) t147 t148 t149 _ A4.out).mono ?_); rintro e w56 ⟨v150, rfl, ho0, hb⟩; (try clear A4); refine ⟨_, rfl, ?_⟩; have n0_ := Aside0.mk (Kd.R_elder' (by (with_reducible repeat (first | apply Kd.R_alloc | apply Kd.R_drewN | apply Kd.R_drew)); exact HO136.out) (Kd.R_base ho0) hb); have n1_ := Aside0.mk (Kd.R_elder' (by (with_reducible repeat (first | apply Kd.R_alloc | apply Kd.R_drewN | apply Kd.R_drew)); exact HO143.out) (Kd.R_base ho0) hb); have n2_ := Aside0.mk (Kd.R_lower (Kd.R_new' (Kd.R_new' ho0 (Kd.R_lt (by (with_reducible repeat (first | apply Kd.R_alloc | apply Kd.R_drewN | apply Kd.R_drew)); exact HO136.out))) (Kd.R_lt (by (with_reducible repeat (first | apply Kd.R_alloc | apply Kd.R_drewN | apply Kd.R_drew)); exact HO143.out))) (below_size (by repeat (first | (with_reducible first | exact HB.out | apply below_alloc | apply pw_below_drewN | apply below_drew1) | exact HB.out)))); have n3_ := Aside0.mk (below_step (by repeat (first | (with_reducible first | exact HB.out | apply below_alloc | apply pw_below_drewN | apply below_drew1) | exact HB.out)) hb); clear HO136; clear HO143; clear HB; have HO136 := n0_; have HO143 := n1_; have HO151 := n2_; have HB := n3_; clear n0_ n1_ n2_ n3_; (try clear hb); (try clear hb2); (try clear hk); (try clear hi); (try clear ho0); obtain ⟨Ao57, co57, eo57⟩ := Kd.R_slice HO143.out; subst eo57; have p152 : 0 ≤ (1 : Int) := (by omega); have q152 : 1 < (t139.length : Int) := of_decide_eq_true (by first | (with_reducible assumption) | assumption); obtain ⟨ad152, e152, hx152_0⟩ := Kd.at_int (Kd.R_reads' HO143.out).2.2 1 p152 q152; cases e152; (try simp only [show (1 : Int).toNat = 1 from rfl, Nat.reduceMul, Nat.reduceEqDiff, Go.Addr.add, ↓reduceIte] at hx152_0); have qi152 : (1 < t139.length) = True := eq_true (by omega); (try rw [show ((1 : Int)).toNat = 1 from rfl] at hx152_0); replace p152 := eq_true p152; replace q152 := eq_true q152))
              go_ret
              exact ⟨by first | rfl | (simp [errW_none, errW_some] <;> rfl) | (simp [*, errW_none, errW_some] <;> rfl), by repeat (first | (with_reducible first | exact HB.out | apply below_alloc | apply pw_below_drewN | apply below_drew1) | exact HB.out)⟩
          · rw [if_neg c9] at H
            have c9b0 : ((rd t139 1) == 8364) = false := beq_eq_false_iff_ne.mpr c9
            have c9b1 : ((rd t139 1) != 8364) = true := bne_iff_ne.mpr c9
            obtain rfl := Option.some.inj H
            go_enter Try.func15, Try.ntmps15
            go_wp2_with (first | ((with_reducible refine gate_dst (N := 13) rfl ?_); (try (refine gate_guard (by rfl) ?_; dsimp only)); refine Kd.R_lit (Kd.int .i32) _ 21 ?hg (N := 13) ?hd (xs := ([233, 8364] : List Int)) (inner := [.int .i32 233, .int .i32 8364]) (ok := fun _ => True) (okp := fun _ => True) ?hr ?hp (fun _ hk => hk) trivial (Below.refl _ _) (Nat.le_refl _) (by simp) ?_; (case hd => rfl); (case hg => rfl); (case hr => first | (go_simp; done) | (go_simp; rfl)); (case hp => exact (Reps.one (show Kd.M (Kd.int .i32) _ _ _ 233 [.int .i32 233] from rfl) (Reps.one (show Kd.M (Kd.int .i32) _ _ _ 8364 [.int .i32 8364] from rfl) (Reps.none _ _)))); intro v135 w58 ho59 hb hg_ hnew_; clear hg_ hnew_; (first | rw [← Ny134.out] at ho59 | (simp only [Int.reduceToNat] at ho59; rw [← Ny134.out] at ho59)); have n0_ := Aside0.mk (Kd.R_lower ho59 (below_size (by repeat (first | (with_reducible first | exact HB.out | apply below_alloc | apply pw_below_drewN | apply below_drew1) | exact HB.out)))); have n1_ := Aside0.mk (below_step (by repeat (first | (with_reducible first | exact HB.out | apply below_alloc | apply pw_below_drewN | apply below_drew1) | exact HB.out)) hb); clear HB; have HO136 := n0_; have HB := n1_; clear n0_ n1_; clear hb ho59; obtain ⟨Ao60, co60, eo60⟩ := Kd.R_slice HO136.out; subst eo60) | ((with_reducible refine gate_callee (f := 9) rfl ?_); refine goesL_ (some 14) rfl rfl Try.func9 (by kernel_rfl) rfl #[.slice Ao60 y134.length co60] rfl (by (try simp only [List.map_toArray, List.map_cons, List.map_nil]); first | done | rfl | (simp only [List.length_drop, List.length_take]; rfl)) ?_; (with_reducible refine (utf_Encode.calls k _ _ y134 t137 t138 _ ?side1 ?side2 A1.out).mono ?_); (case side1 => repeat (first | exact (Kd.R_reads' HO136.out).2.2 | (with_reducible refine Kd.C_alloc ?_ _) | (with_reducible refine Kd.C_drewN ?_ _) | (with_reducible refine Kd.C_drew ?_))); (case side2 => exact (Kd.R_reads' HO136.out).2.1); rintro e w61 ⟨rfl, hb⟩; refine ⟨_, rfl, ?_⟩; have n0_ := Aside0.mk (Kd.R_below (by (with_reducible repeat (first | apply Kd.R_alloc | apply Kd.R_drewN | apply Kd.R_drew)); exact HO136.out) hb); have n1_ := Aside0.mk (below_step (by repeat (first | (with_reducible first | exact HB.out | apply below_alloc | apply pw_below_drewN | apply below_drew1) | exact HB.out)) hb); clear HO136; clear HB; have HO136 := n0_; have HB := n1_; clear n0_ n1_; (try clear hb); (try clear hb2); (try clear hk); (try clear hi)) | ((with_reducible refine gate_callee (f := 18) rfl ?_); refine goesL_ (some 19) rfl rfl Try.func18 (by kernel_rfl) rfl #[.string t137] rfl (by (try simp only [List.map_toArray, List.map_cons, List.map_nil]); first | done | rfl | (simp only [List.length_drop, List.length_take]; rfl)) ?_; (with_reducible refine (utf_Runes.calls k t137 t139 t140 t141 _ A2.out).mono ?_); rintro e w62 ⟨v142, rfl, ho0, hb⟩; (try clear A2); refine ⟨_, rfl, ?_⟩; have n0_ := Aside0.mk (Kd.R_elder' (by (with_reducible repeat (first | apply Kd.R_alloc | apply Kd.R_drewN | apply Kd.R_drew)); exact HO136.out) (Kd.R_base ho0) hb); have n1_ := Aside0.mk (Kd.R_lower (Kd.R_new' ho0 (Kd.R_lt (by (with_reducible repeat (first | apply Kd.R_alloc | apply Kd.R_drewN | apply Kd.R_drew)); exact HO136.out))) (below_size (by repeat (first | (with_reducible first | exact HB.out | apply below_alloc | apply pw_below_drewN | apply below_drew1) | exact HB.out)))); have n2_ := Aside0.mk (below_step (by repeat (first | (with_reducible first | exact HB.out | apply below_alloc | apply pw_below_drewN | apply below_drew1) | exact HB.out)) hb); clear HO136; clear HB; have HO136 := n0_; have HO143 := n1_; have HB := n2_; clear n0_ n1_ n2_; (try clear hb); (try clear hb2); (try clear hk); (try clear hi); (try clear ho0)) | ((with_reducible refine gate_callee (f := 16) rfl ?_); refine goesL_ (some 24) rfl rfl Try.func16 (by kernel_rfl) rfl #[.string (⟨#[237, 160, 128]⟩ : ByteArray), .int .i64 0] rfl (by (try simp only [List.map_toArray, List.map_cons, List.map_nil]); first | done | rfl | (simp only [List.length_drop, List.length_take]; rfl)) ?_; (with_reducible refine (utf_Decode.calls k (⟨#[237, 160, 128]⟩ : ByteArray) 0 t144 t145 t146 _ A3.out).mono ?_); rintro e w' ⟨rfl, ⟨nd, rfl⟩⟩; refine ⟨_, rfl, ?_⟩) | ((with_reducible refine gate_callee (f := 18) rfl ?_); refine goesL_ (some 29) rfl rfl Try.func18 (by kernel_rfl) rfl #[.string (⟨#[97, 192, 128]⟩ : ByteArray)] rfl (by (try simp only [List.map_toArray, List.map_cons, List.map_nil]); first | done | rfl | (simp only [List.length_drop, List.length_take]; rfl)) ?_; (with_reducible refine (utf_Runes.calls k (⟨#[97, 192, 128]⟩ : ByteArray) t147 t148 t149 _ A4.out).mono ?_); rintro e w63 ⟨v150, rfl, ho0, hb⟩; (try clear A4); refine ⟨_, rfl, ?_⟩; have n0_ := Aside0.mk (Kd.R_elder' (by (with_reducible repeat (first | apply Kd.R_alloc | apply Kd.R_drewN | apply Kd.R_drew)); exact HO136.out) (Kd.R_base ho0) hb); have n1_ := Aside0.mk (Kd.R_elder' (by (with_reducible repeat (first | apply Kd.R_alloc | apply Kd.R_drewN | apply Kd.R_drew)); exact HO143.out) (Kd.R_base ho0) hb); have n2_ := Aside0.mk (Kd.R_lower (Kd.R_new' (Kd.R_new' ho0 (Kd.R_lt (by (with_reducible repeat (first | apply Kd.R_alloc | apply Kd.R_drewN | apply Kd.R_drew)); exact HO136.out))) (Kd.R_lt (by (with_reducible repeat (first | apply Kd.R_alloc | apply Kd.R_drewN | apply Kd.R_drew)); exact HO143.out))) (below_size (by repeat (first | (with_reducible first | exact HB.out | apply below_alloc | apply pw_below_drewN | apply below_drew1) | exact HB.out)))); have n3_ := Aside0.mk (below_step (by repeat (first | (with_reducible first | exact HB.out | apply below_alloc | apply pw_below_drewN | apply below_drew1) | exact HB.out)) hb); clear HO136; clear HO143; clear HB; have HO136 := n0_; have HO143 := n1_; have HO151 := n2_; have HB := n3_; clear n0_ n1_ n2_ n3_; (try clear hb); (try clear hb2); (try clear hk); (try clear hi); (try clear ho0); obtain ⟨Ao64, co64, eo64⟩ := Kd.R_slice HO143.out; subst eo64; have p152 : 0 ≤ (1 : Int) := (by omega); have q152 : 1 < (t139.length : Int) := of_decide_eq_true (by first | (with_reducible assumption) | assumption); obtain ⟨ad152, e152, hx152_0⟩ := Kd.at_int (Kd.R_reads' HO143.out).2.2 1 p152 q152; cases e152; (try simp only [show (1 : Int).toNat = 1 from rfl, Nat.reduceMul, Nat.reduceEqDiff, Go.Addr.add, ↓reduceIte] at hx152_0); have qi152 : (1 < t139.length) = True := eq_true (by omega); (try rw [show ((1 : Int)).toNat = 1 from rfl] at hx152_0); replace p152 := eq_true p152; replace q152 := eq_true q152))
            go_ret
            exact ⟨by first | rfl | (simp [errW_none, errW_some] <;> rfl) | (simp [*, errW_none, errW_some] <;> rfl), by repeat (first | (with_reducible first | exact HB.out | apply below_alloc | apply pw_below_drewN | apply below_drew1) | exact HB.out)⟩
        · rw [if_neg c8] at H
          exact absurd H (by simp)
      · rw [if_neg c7] at H
        have c7b0 : ((t139.length : Int) == 2) = false := beq_eq_false_iff_ne.mpr c7
        have c7b1 : ((t139.length : Int) != 2) = true := bne_iff_ne.mpr c7
        obtain rfl := Option.some.inj H
        go_enter Try.func15, Try.ntmps15
        go_wp2_with (first | ((with_reducible refine gate_dst (N := 13) rfl ?_); (try (refine gate_guard (by rfl) ?_; dsimp only)); refine Kd.R_lit (Kd.int .i32) _ 21 ?hg (N := 13) ?hd (xs := ([233, 8364] : List Int)) (inner := [.int .i32 233, .int .i32 8364]) (ok := fun _ => True) (okp := fun _ => True) ?hr ?hp (fun _ hk => hk) trivial (Below.refl _ _) (Nat.le_refl _) (by simp) ?_; (case hd => rfl); (case hg => rfl); (case hr => first | (go_simp; done) | (go_simp; rfl)); (case hp => exact (Reps.one (show Kd.M (Kd.int .i32) _ _ _ 233 [.int .i32 233] from rfl) (Reps.one (show Kd.M (Kd.int .i32) _ _ _ 8364 [.int .i32 8364] from rfl) (Reps.none _ _)))); intro v135 w65 ho66 hb hg_ hnew_; clear hg_ hnew_; (first | rw [← Ny134.out] at ho66 | (simp only [Int.reduceToNat] at ho66; rw [← Ny134.out] at ho66)); have n0_ := Aside0.mk (Kd.R_lower ho66 (below_size (by repeat (first | (with_reducible first | exact HB.out | apply below_alloc | apply pw_below_drewN | apply below_drew1) | exact HB.out)))); have n1_ := Aside0.mk (below_step (by repeat (first | (with_reducible first | exact HB.out | apply below_alloc | apply pw_below_drewN | apply below_drew1) | exact HB.out)) hb); clear HB; have HO136 := n0_; have HB := n1_; clear n0_ n1_; clear hb ho66; obtain ⟨Ao67, co67, eo67⟩ := Kd.R_slice HO136.out; subst eo67) | ((with_reducible refine gate_callee (f := 9) rfl ?_); refine goesL_ (some 14) rfl rfl Try.func9 (by kernel_rfl) rfl #[.slice Ao67 y134.length co67] rfl (by (try simp only [List.map_toArray, List.map_cons, List.map_nil]); first | done | rfl | (simp only [List.length_drop, List.length_take]; rfl)) ?_; (with_reducible refine (utf_Encode.calls k _ _ y134 t137 t138 _ ?side1 ?side2 A1.out).mono ?_); (case side1 => repeat (first | exact (Kd.R_reads' HO136.out).2.2 | (with_reducible refine Kd.C_alloc ?_ _) | (with_reducible refine Kd.C_drewN ?_ _) | (with_reducible refine Kd.C_drew ?_))); (case side2 => exact (Kd.R_reads' HO136.out).2.1); rintro e w68 ⟨rfl, hb⟩; refine ⟨_, rfl, ?_⟩; have n0_ := Aside0.mk (Kd.R_below (by (with_reducible repeat (first | apply Kd.R_alloc | apply Kd.R_drewN | apply Kd.R_drew)); exact HO136.out) hb); have n1_ := Aside0.mk (below_step (by repeat (first | (with_reducible first | exact HB.out | apply below_alloc | apply pw_below_drewN | apply below_drew1) | exact HB.out)) hb); clear HO136; clear HB; have HO136 := n0_; have HB := n1_; clear n0_ n1_; (try clear hb); (try clear hb2); (try clear hk); (try clear hi)) | ((with_reducible refine gate_callee (f := 18) rfl ?_); refine goesL_ (some 19) rfl rfl Try.func18 (by kernel_rfl) rfl #[.string t137] rfl (by (try simp only [List.map_toArray, List.map_cons, List.map_nil]); first | done | rfl | (simp only [List.length_drop, List.length_take]; rfl)) ?_; (with_reducible refine (utf_Runes.calls k t137 t139 t140 t141 _ A2.out).mono ?_); rintro e w69 ⟨v142, rfl, ho0, hb⟩; (try clear A2); refine ⟨_, rfl, ?_⟩; have n0_ := Aside0.mk (Kd.R_elder' (by (with_reducible repeat (first | apply Kd.R_alloc | apply Kd.R_drewN | apply Kd.R_drew)); exact HO136.out) (Kd.R_base ho0) hb); have n1_ := Aside0.mk (Kd.R_lower (Kd.R_new' ho0 (Kd.R_lt (by (with_reducible repeat (first | apply Kd.R_alloc | apply Kd.R_drewN | apply Kd.R_drew)); exact HO136.out))) (below_size (by repeat (first | (with_reducible first | exact HB.out | apply below_alloc | apply pw_below_drewN | apply below_drew1) | exact HB.out)))); have n2_ := Aside0.mk (below_step (by repeat (first | (with_reducible first | exact HB.out | apply below_alloc | apply pw_below_drewN | apply below_drew1) | exact HB.out)) hb); clear HO136; clear HB; have HO136 := n0_; have HO143 := n1_; have HB := n2_; clear n0_ n1_ n2_; (try clear hb); (try clear hb2); (try clear hk); (try clear hi); (try clear ho0)) | ((with_reducible refine gate_callee (f := 16) rfl ?_); refine goesL_ (some 24) rfl rfl Try.func16 (by kernel_rfl) rfl #[.string (⟨#[237, 160, 128]⟩ : ByteArray), .int .i64 0] rfl (by (try simp only [List.map_toArray, List.map_cons, List.map_nil]); first | done | rfl | (simp only [List.length_drop, List.length_take]; rfl)) ?_; (with_reducible refine (utf_Decode.calls k (⟨#[237, 160, 128]⟩ : ByteArray) 0 t144 t145 t146 _ A3.out).mono ?_); rintro e w' ⟨rfl, ⟨nd, rfl⟩⟩; refine ⟨_, rfl, ?_⟩) | ((with_reducible refine gate_callee (f := 18) rfl ?_); refine goesL_ (some 29) rfl rfl Try.func18 (by kernel_rfl) rfl #[.string (⟨#[97, 192, 128]⟩ : ByteArray)] rfl (by (try simp only [List.map_toArray, List.map_cons, List.map_nil]); first | done | rfl | (simp only [List.length_drop, List.length_take]; rfl)) ?_; (with_reducible refine (utf_Runes.calls k (⟨#[97, 192, 128]⟩ : ByteArray) t147 t148 t149 _ A4.out).mono ?_); rintro e w70 ⟨v150, rfl, ho0, hb⟩; (try clear A4); refine ⟨_, rfl, ?_⟩; have n0_ := Aside0.mk (Kd.R_elder' (by (with_reducible repeat (first | apply Kd.R_alloc | apply Kd.R_drewN | apply Kd.R_drew)); exact HO136.out) (Kd.R_base ho0) hb); have n1_ := Aside0.mk (Kd.R_elder' (by (with_reducible repeat (first | apply Kd.R_alloc | apply Kd.R_drewN | apply Kd.R_drew)); exact HO143.out) (Kd.R_base ho0) hb); have n2_ := Aside0.mk (Kd.R_lower (Kd.R_new' (Kd.R_new' ho0 (Kd.R_lt (by (with_reducible repeat (first | apply Kd.R_alloc | apply Kd.R_drewN | apply Kd.R_drew)); exact HO136.out))) (Kd.R_lt (by (with_reducible repeat (first | apply Kd.R_alloc | apply Kd.R_drewN | apply Kd.R_drew)); exact HO143.out))) (below_size (by repeat (first | (with_reducible first | exact HB.out | apply below_alloc | apply pw_below_drewN | apply below_drew1) | exact HB.out)))); have n3_ := Aside0.mk (below_step (by repeat (first | (with_reducible first | exact HB.out | apply below_alloc | apply pw_below_drewN | apply below_drew1) | exact HB.out)) hb); clear HO136; clear HO143; clear HB; have HO136 := n0_; have HO143 := n1_; have HO151 := n2_; have HB := n3_; clear n0_ n1_ n2_ n3_; (try clear hb); (try clear hb2); (try clear hk); (try clear hi); (try clear ho0); obtain ⟨Ao71, co71, eo71⟩ := Kd.R_slice HO143.out; subst eo71))
        go_ret
        exact ⟨by first | rfl | (simp [errW_none, errW_some] <;> rfl) | (simp [*, errW_none, errW_some] <;> rfl), by repeat (first | (with_reducible first | exact HB.out | apply below_alloc | apply pw_below_drewN | apply below_drew1) | exact HB.out)⟩
    · rw [if_neg c6] at H
      have c6b0 : (t138 == 0) = false := beq_eq_false_iff_ne.mpr c6
      have c6b1 : (t138 != 0) = true := bne_iff_ne.mpr c6
      obtain rfl := Option.some.inj H
      go_enter Try.func15, Try.ntmps15
      go_wp2_with (first | ((with_reducible refine gate_dst (N := 13) rfl ?_); (try (refine gate_guard (by rfl) ?_; dsimp only)); refine Kd.R_lit (Kd.int .i32) _ 21 ?hg (N := 13) ?hd (xs := ([233, 8364] : List Int)) (inner := [.int .i32 233, .int .i32 8364]) (ok := fun _ => True) (okp := fun _ => True) ?hr ?hp (fun _ hk => hk) trivial (Below.refl _ _) (Nat.le_refl _) (by simp) ?_; (case hd => rfl); (case hg => rfl); (case hr => first | (go_simp; done) | (go_simp; rfl)); (case hp => exact (Reps.one (show Kd.M (Kd.int .i32) _ _ _ 233 [.int .i32 233] from rfl) (Reps.one (show Kd.M (Kd.int .i32) _ _ _ 8364 [.int .i32 8364] from rfl) (Reps.none _ _)))); intro v135 w72 ho73 hb hg_ hnew_; clear hg_ hnew_; (first | rw [← Ny134.out] at ho73 | (simp only [Int.reduceToNat] at ho73; rw [← Ny134.out] at ho73)); have n0_ := Aside0.mk (Kd.R_lower ho73 (below_size (by repeat (first | (with_reducible first | exact HB.out | apply below_alloc | apply pw_below_drewN | apply below_drew1) | exact HB.out)))); have n1_ := Aside0.mk (below_step (by repeat (first | (with_reducible first | exact HB.out | apply below_alloc | apply pw_below_drewN | apply below_drew1) | exact HB.out)) hb); clear HB; have HO136 := n0_; have HB := n1_; clear n0_ n1_; clear hb ho73; obtain ⟨Ao74, co74, eo74⟩ := Kd.R_slice HO136.out; subst eo74) | ((with_reducible refine gate_callee (f := 9) rfl ?_); refine goesL_ (some 14) rfl rfl Try.func9 (by kernel_rfl) rfl #[.slice Ao74 y134.length co74] rfl (by (try simp only [List.map_toArray, List.map_cons, List.map_nil]); first | done | rfl | (simp only [List.length_drop, List.length_take]; rfl)) ?_; (with_reducible refine (utf_Encode.calls k _ _ y134 t137 t138 _ ?side1 ?side2 A1.out).mono ?_); (case side1 => repeat (first | exact (Kd.R_reads' HO136.out).2.2 | (with_reducible refine Kd.C_alloc ?_ _) | (with_reducible refine Kd.C_drewN ?_ _) | (with_reducible refine Kd.C_drew ?_))); (case side2 => exact (Kd.R_reads' HO136.out).2.1); rintro e w75 ⟨rfl, hb⟩; refine ⟨_, rfl, ?_⟩; have n0_ := Aside0.mk (Kd.R_below (by (with_reducible repeat (first | apply Kd.R_alloc | apply Kd.R_drewN | apply Kd.R_drew)); exact HO136.out) hb); have n1_ := Aside0.mk (below_step (by repeat (first | (with_reducible first | exact HB.out | apply below_alloc | apply pw_below_drewN | apply below_drew1) | exact HB.out)) hb); clear HO136; clear HB; have HO136 := n0_; have HB := n1_; clear n0_ n1_; (try clear hb); (try clear hb2); (try clear hk); (try clear hi)) | ((with_reducible refine gate_callee (f := 18) rfl ?_); refine goesL_ (some 19) rfl rfl Try.func18 (by kernel_rfl) rfl #[.string t137] rfl (by (try simp only [List.map_toArray, List.map_cons, List.map_nil]); first | done | rfl | (simp only [List.length_drop, List.length_take]; rfl)) ?_; (with_reducible refine (utf_Runes.calls k t137 t139 t140 t141 _ A2.out).mono ?_); rintro e w76 ⟨v142, rfl, ho0, hb⟩; (try clear A2); refine ⟨_, rfl, ?_⟩; have n0_ := Aside0.mk (Kd.R_elder' (by (with_reducible repeat (first | apply Kd.R_alloc | apply Kd.R_drewN | apply Kd.R_drew)); exact HO136.out) (Kd.R_base ho0) hb); have n1_ := Aside0.mk (Kd.R_lower (Kd.R_new' ho0 (Kd.R_lt (by (with_reducible repeat (first | apply Kd.R_alloc | apply Kd.R_drewN | apply Kd.R_drew)); exact HO136.out))) (below_size (by repeat (first | (with_reducible first | exact HB.out | apply below_alloc | apply pw_below_drewN | apply below_drew1) | exact HB.out)))); have n2_ := Aside0.mk (below_step (by repeat (first | (with_reducible first | exact HB.out | apply below_alloc | apply pw_below_drewN | apply below_drew1) | exact HB.out)) hb); clear HO136; clear HB; have HO136 := n0_; have HO143 := n1_; have HB := n2_; clear n0_ n1_ n2_; (try clear hb); (try clear hb2); (try clear hk); (try clear hi); (try clear ho0)) | ((with_reducible refine gate_callee (f := 16) rfl ?_); refine goesL_ (some 24) rfl rfl Try.func16 (by kernel_rfl) rfl #[.string (⟨#[237, 160, 128]⟩ : ByteArray), .int .i64 0] rfl (by (try simp only [List.map_toArray, List.map_cons, List.map_nil]); first | done | rfl | (simp only [List.length_drop, List.length_take]; rfl)) ?_; (with_reducible refine (utf_Decode.calls k (⟨#[237, 160, 128]⟩ : ByteArray) 0 t144 t145 t146 _ A3.out).mono ?_); rintro e w' ⟨rfl, ⟨nd, rfl⟩⟩; refine ⟨_, rfl, ?_⟩) | ((with_reducible refine gate_callee (f := 18) rfl ?_); refine goesL_ (some 29) rfl rfl Try.func18 (by kernel_rfl) rfl #[.string (⟨#[97, 192, 128]⟩ : ByteArray)] rfl (by (try simp only [List.map_toArray, List.map_cons, List.map_nil]); first | done | rfl | (simp only [List.length_drop, List.length_take]; rfl)) ?_; (with_reducible refine (utf_Runes.calls k (⟨#[97, 192, 128]⟩ : ByteArray) t147 t148 t149 _ A4.out).mono ?_); rintro e w77 ⟨v150, rfl, ho0, hb⟩; (try clear A4); refine ⟨_, rfl, ?_⟩; have n0_ := Aside0.mk (Kd.R_elder' (by (with_reducible repeat (first | apply Kd.R_alloc | apply Kd.R_drewN | apply Kd.R_drew)); exact HO136.out) (Kd.R_base ho0) hb); have n1_ := Aside0.mk (Kd.R_elder' (by (with_reducible repeat (first | apply Kd.R_alloc | apply Kd.R_drewN | apply Kd.R_drew)); exact HO143.out) (Kd.R_base ho0) hb); have n2_ := Aside0.mk (Kd.R_lower (Kd.R_new' (Kd.R_new' ho0 (Kd.R_lt (by (with_reducible repeat (first | apply Kd.R_alloc | apply Kd.R_drewN | apply Kd.R_drew)); exact HO136.out))) (Kd.R_lt (by (with_reducible repeat (first | apply Kd.R_alloc | apply Kd.R_drewN | apply Kd.R_drew)); exact HO143.out))) (below_size (by repeat (first | (with_reducible first | exact HB.out | apply below_alloc | apply pw_below_drewN | apply below_drew1) | exact HB.out)))); have n3_ := Aside0.mk (below_step (by repeat (first | (with_reducible first | exact HB.out | apply below_alloc | apply pw_below_drewN | apply below_drew1) | exact HB.out)) hb); clear HO136; clear HO143; clear HB; have HO136 := n0_; have HO143 := n1_; have HO151 := n2_; have HB := n3_; clear n0_ n1_ n2_ n3_; (try clear hb); (try clear hb2); (try clear hk); (try clear hi); (try clear ho0)))
      go_ret
      exact ⟨by first | rfl | (simp [errW_none, errW_some] <;> rfl) | (simp [*, errW_none, errW_some] <;> rfl), by repeat (first | (with_reducible first | exact HB.out | apply below_alloc | apply pw_below_drewN | apply below_drew1) | exact HB.out)⟩
  · rw [if_neg c5] at H
    have c5b0 : (t137.toList == ([195, 169, 226, 130, 172] : List UInt8)) = false := beq_eq_false_iff_ne.mpr c5
    have c5b1 : (t137.toList != ([195, 169, 226, 130, 172] : List UInt8)) = true := bne_iff_ne.mpr c5
    obtain rfl := Option.some.inj H
    go_enter Try.func15, Try.ntmps15
    go_wp2_with (first | ((with_reducible refine gate_dst (N := 13) rfl ?_); (try (refine gate_guard (by rfl) ?_; dsimp only)); refine Kd.R_lit (Kd.int .i32) _ 21 ?hg (N := 13) ?hd (xs := ([233, 8364] : List Int)) (inner := [.int .i32 233, .int .i32 8364]) (ok := fun _ => True) (okp := fun _ => True) ?hr ?hp (fun _ hk => hk) trivial (Below.refl _ _) (Nat.le_refl _) (by simp) ?_; (case hd => rfl); (case hg => rfl); (case hr => first | (go_simp; done) | (go_simp; rfl)); (case hp => exact (Reps.one (show Kd.M (Kd.int .i32) _ _ _ 233 [.int .i32 233] from rfl) (Reps.one (show Kd.M (Kd.int .i32) _ _ _ 8364 [.int .i32 8364] from rfl) (Reps.none _ _)))); intro v135 w78 ho79 hb hg_ hnew_; clear hg_ hnew_; (first | rw [← Ny134.out] at ho79 | (simp only [Int.reduceToNat] at ho79; rw [← Ny134.out] at ho79)); have n0_ := Aside0.mk (Kd.R_lower ho79 (below_size (by repeat (first | (with_reducible first | exact HB.out | apply below_alloc | apply pw_below_drewN | apply below_drew1) | exact HB.out)))); have n1_ := Aside0.mk (below_step (by repeat (first | (with_reducible first | exact HB.out | apply below_alloc | apply pw_below_drewN | apply below_drew1) | exact HB.out)) hb); clear HB; have HO136 := n0_; have HB := n1_; clear n0_ n1_; clear hb ho79; obtain ⟨Ao80, co80, eo80⟩ := Kd.R_slice HO136.out; subst eo80) | ((with_reducible refine gate_callee (f := 9) rfl ?_); refine goesL_ (some 14) rfl rfl Try.func9 (by kernel_rfl) rfl #[.slice Ao80 y134.length co80] rfl (by (try simp only [List.map_toArray, List.map_cons, List.map_nil]); first | done | rfl | (simp only [List.length_drop, List.length_take]; rfl)) ?_; (with_reducible refine (utf_Encode.calls k _ _ y134 t137 t138 _ ?side1 ?side2 A1.out).mono ?_); (case side1 => repeat (first | exact (Kd.R_reads' HO136.out).2.2 | (with_reducible refine Kd.C_alloc ?_ _) | (with_reducible refine Kd.C_drewN ?_ _) | (with_reducible refine Kd.C_drew ?_))); (case side2 => exact (Kd.R_reads' HO136.out).2.1); rintro e w81 ⟨rfl, hb⟩; refine ⟨_, rfl, ?_⟩; have n0_ := Aside0.mk (Kd.R_below (by (with_reducible repeat (first | apply Kd.R_alloc | apply Kd.R_drewN | apply Kd.R_drew)); exact HO136.out) hb); have n1_ := Aside0.mk (below_step (by repeat (first | (with_reducible first | exact HB.out | apply below_alloc | apply pw_below_drewN | apply below_drew1) | exact HB.out)) hb); clear HO136; clear HB; have HO136 := n0_; have HB := n1_; clear n0_ n1_; (try clear hb); (try clear hb2); (try clear hk); (try clear hi)) | ((with_reducible refine gate_callee (f := 18) rfl ?_); refine goesL_ (some 19) rfl rfl Try.func18 (by kernel_rfl) rfl #[.string t137] rfl (by (try simp only [List.map_toArray, List.map_cons, List.map_nil]); first | done | rfl | (simp only [List.length_drop, List.length_take]; rfl)) ?_; (with_reducible refine (utf_Runes.calls k t137 t139 t140 t141 _ A2.out).mono ?_); rintro e w82 ⟨v142, rfl, ho0, hb⟩; (try clear A2); refine ⟨_, rfl, ?_⟩; have n0_ := Aside0.mk (Kd.R_elder' (by (with_reducible repeat (first | apply Kd.R_alloc | apply Kd.R_drewN | apply Kd.R_drew)); exact HO136.out) (Kd.R_base ho0) hb); have n1_ := Aside0.mk (Kd.R_lower (Kd.R_new' ho0 (Kd.R_lt (by (with_reducible repeat (first | apply Kd.R_alloc | apply Kd.R_drewN | apply Kd.R_drew)); exact HO136.out))) (below_size (by repeat (first | (with_reducible first | exact HB.out | apply below_alloc | apply pw_below_drewN | apply below_drew1) | exact HB.out)))); have n2_ := Aside0.mk (below_step (by repeat (first | (with_reducible first | exact HB.out | apply below_alloc | apply pw_below_drewN | apply below_drew1) | exact HB.out)) hb); clear HO136; clear HB; have HO136 := n0_; have HO143 := n1_; have HB := n2_; clear n0_ n1_ n2_; (try clear hb); (try clear hb2); (try clear hk); (try clear hi); (try clear ho0)) | ((with_reducible refine gate_callee (f := 16) rfl ?_); refine goesL_ (some 24) rfl rfl Try.func16 (by kernel_rfl) rfl #[.string (⟨#[237, 160, 128]⟩ : ByteArray), .int .i64 0] rfl (by (try simp only [List.map_toArray, List.map_cons, List.map_nil]); first | done | rfl | (simp only [List.length_drop, List.length_take]; rfl)) ?_; (with_reducible refine (utf_Decode.calls k (⟨#[237, 160, 128]⟩ : ByteArray) 0 t144 t145 t146 _ A3.out).mono ?_); rintro e w' ⟨rfl, ⟨nd, rfl⟩⟩; refine ⟨_, rfl, ?_⟩) | ((with_reducible refine gate_callee (f := 18) rfl ?_); refine goesL_ (some 29) rfl rfl Try.func18 (by kernel_rfl) rfl #[.string (⟨#[97, 192, 128]⟩ : ByteArray)] rfl (by (try simp only [List.map_toArray, List.map_cons, List.map_nil]); first | done | rfl | (simp only [List.length_drop, List.length_take]; rfl)) ?_; (with_reducible refine (utf_Runes.calls k (⟨#[97, 192, 128]⟩ : ByteArray) t147 t148 t149 _ A4.out).mono ?_); rintro e w83 ⟨v150, rfl, ho0, hb⟩; (try clear A4); refine ⟨_, rfl, ?_⟩; have n0_ := Aside0.mk (Kd.R_elder' (by (with_reducible repeat (first | apply Kd.R_alloc | apply Kd.R_drewN | apply Kd.R_drew)); exact HO136.out) (Kd.R_base ho0) hb); have n1_ := Aside0.mk (Kd.R_elder' (by (with_reducible repeat (first | apply Kd.R_alloc | apply Kd.R_drewN | apply Kd.R_drew)); exact HO143.out) (Kd.R_base ho0) hb); have n2_ := Aside0.mk (Kd.R_lower (Kd.R_new' (Kd.R_new' ho0 (Kd.R_lt (by (with_reducible repeat (first | apply Kd.R_alloc | apply Kd.R_drewN | apply Kd.R_drew)); exact HO136.out))) (Kd.R_lt (by (with_reducible repeat (first | apply Kd.R_alloc | apply Kd.R_drewN | apply Kd.R_drew)); exact HO143.out))) (below_size (by repeat (first | (with_reducible first | exact HB.out | apply below_alloc | apply pw_below_drewN | apply below_drew1) | exact HB.out)))); have n3_ := Aside0.mk (below_step (by repeat (first | (with_reducible first | exact HB.out | apply below_alloc | apply pw_below_drewN | apply below_drew1) | exact HB.out)) hb); clear HO136; clear HO143; clear HB; have HO136 := n0_; have HO143 := n1_; have HO151 := n2_; have HB := n3_; clear n0_ n1_ n2_ n3_; (try clear hb); (try clear hb2); (try clear hk); (try clear hi); (try clear ho0)))
    go_ret
    exact ⟨by first | rfl | (simp [errW_none, errW_some] <;> rfl) | (simp [*, errW_none, errW_some] <;> rfl), by repeat (first | (with_reducible first | exact HB.out | apply below_alloc | apply pw_below_drewN | apply below_drew1) | exact HB.out)⟩

end Go.Proofs.Ytoaikbfngeopgaa.P
