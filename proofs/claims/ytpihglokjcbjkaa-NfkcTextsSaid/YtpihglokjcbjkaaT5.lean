-- Printed by wip/mk.py (this session's driver over the kit's print) and from wip/manual.
import Derived.Test.YtpihglokjcbjkaaT0
import Derived.Test.YtpihglokjcbjkaaT4
namespace Go.Proofs.Ytpihglokjcbjkaa.P
open Go.RowKit Go.Proofs.YtpihglokjcbjkaaW.PrintWords Go.Proofs.YtpihglokjcbjkaaW.PrintLast Go.Proofs.YtpihglokjcbjkaaW.PrintMore
attribute [local go_sem] max2_int min2_int max_two min_two max_three min_three max_four min_four   -- for this text's walks alone
set_option linter.unusedVariables false
set_option linter.unusedSimpArgs false

/-! ### utf_Decode: function 43, by hand (utf.Decode.tpl) -/
def utf_Decode.l0 : Nat → ByteArray → Int → Int → Int → Int → Option (Int × Int × Int)
  | 0, _, _, _, _, _ => none
  | k + 1, x0, x1, x7, x8, x10 => if x10 < x8 then (if 0 ≤ wrap64 (x1 + x10) then (if wrap64 (x1 + x10) < (x0.size : Int) then (if bt x0 (wrap64 (x1 + x10)) / 64 = 2 then utf_Decode.l0 k x0 x1 (Go.bits .or .i32 (wrap32 (x7 * 64)) (bt x0 (wrap64 (x1 + x10)) % 64)) x8 (wrap64 (x10 + 1)) else some (0, 0, 10)) else none) else none) else ((utf_Length.f x7).bind fun t => if t = x8 then some (x7, wrap64 (x1 + x8), 0) else some (0, 0, 10))
def utf_Decode.f (k : Nat) (a0 : ByteArray) (a1 : Int) : Option (Int × Int × Int) :=
  if a1 < 0 then some (0, 0, 2) else if a1 ≥ (a0.size : Int) then some (0, 0, 2)
  else if bt a0 a1 < 128 then some (bt a0 a1, wrap64 (a1 + 1), 0)
  else if bt a0 a1 ≥ 194 ∧ bt a0 a1 < 224 then (if 2 > wrap64 ((a0.size : Int) - a1) then some (0, 0, 10) else utf_Decode.l0 k a0 a1 (bt a0 a1 % 32) 2 1)
  else if bt a0 a1 ≥ 224 ∧ bt a0 a1 < 240 then (if 3 > wrap64 ((a0.size : Int) - a1) then some (0, 0, 10) else utf_Decode.l0 k a0 a1 (bt a0 a1 % 16) 3 1)
  else if bt a0 a1 ≥ 240 ∧ bt a0 a1 < 245 then (if 4 > wrap64 ((a0.size : Int) - a1) then some (0, 0, 10) else utf_Decode.l0 k a0 a1 (bt a0 a1 % 8) 4 1)
  else some (0, 0, 10)
theorem utf_Decode.mono_l : ∀ k, (∀ y0 y1 y2 y3 y4, LeO (utf_Decode.l0 k y0 y1 y2 y3 y4) (utf_Decode.l0 (k + 1) y0 y1 y2 y3 y4))
  | 0 => fun _ _ _ _ _ r h => by simp [utf_Decode.l0] at h
  | k + 1 => by
    have ih0 := utf_Decode.mono_l k
    intro y0 y1 y2 y3 y4
    unfold utf_Decode.l0
    repeat' first
      | exact ih0 _ _ _ _ _
      | exact LeO.refl _
      | refine LeO.ite ?_ ?_
      | refine LeO.bind ?_ (fun _ => ?_)
theorem utf_Decode.mono : ∀ a0 a1 k, LeO (utf_Decode.f k a0 a1) (utf_Decode.f (k + 1) a0 a1) := by
  intro a0 a1 k
  have ih0 := utf_Decode.mono_l k
  unfold utf_Decode.f
  repeat' first
      | exact ih0 _ _ _ _ _
      | exact LeO.refl _
      | refine LeO.ite ?_ ?_
set_option maxHeartbeats 8000000 in
set_option maxRecDepth 100000 in
theorem utf_Decode.calls (k : Nat) (a0 : ByteArray) (a1 : Int) (r1 r2 r3 : Int) (w : World) (h : utf_Decode.f k a0 a1 = some (r1, r2, r3)) :
    Calls Try.prog 43 #[.string a0, .int .i64 a1] w fun e w' => e = .returned (.tuple #[.int .i32 r1, .int .i64 r2, .int .i64 r3]) ∧ Drawn0 w w' := by
  have H := h
  clear h
  unfold utf_Decode.f at H
  by_cases c1 : a1 < 0
  · rw [if_pos c1] at H
    have c1b : decide (a1 < 0) = true := decide_eq_true c1
    clear c1
    simp only [Option.some.injEq, Prod.mk.injEq] at H
    obtain ⟨rfl, rfl, rfl⟩ := H
    go_enter Try.func43, Try.ntmps43
    go_wp2
    go_step3
    go_wp2
    rw [Exit.noGoto_ret]
    go_ret3
    exact ⟨rfl, Drawn0.refl _⟩
  · rw [if_neg c1] at H
    have c1b : decide (a1 < 0) = false := decide_eq_false c1
    have c1p : 0 ≤ a1 := by omega
    clear c1
    by_cases c2 : a1 ≥ (a0.size : Int)
    · rw [if_pos c2] at H
      have c2b : decide ((a0.size : Int) ≤ a1) = true := decide_eq_true c2
      clear c2
      simp only [Option.some.injEq, Prod.mk.injEq] at H
      obtain ⟨rfl, rfl, rfl⟩ := H
      go_enter Try.func43, Try.ntmps43
      go_wp2
      go_step3
      go_wp2
      rw [Exit.noGoto_ret]
      go_ret3
      exact ⟨rfl, Drawn0.refl _⟩
    · rw [if_neg c2] at H
      have c2b : decide ((a0.size : Int) ≤ a1) = false := decide_eq_false c2
      have c2p : a1 < (a0.size : Int) := by omega
      have hb := bt_at a0 a1
      have hr := bt_range a0 a1
      clear c2
      by_cases c3 : bt a0 a1 < 128
      · rw [if_pos c3] at H
        have c3b : decide (bt a0 a1 < 128) = true := decide_eq_true c3
        simp only [Option.some.injEq, Prod.mk.injEq] at H
        obtain ⟨rfl, rfl, rfl⟩ := H
        go_enter Try.func43, Try.ntmps43
        go_wp2
        go_step3
        go_wp2
        rw [Exit.noGoto_ret]
        go_ret3
        exact ⟨rfl, Drawn0.refl _⟩
      · rw [if_neg c3] at H
        have c3p : 128 ≤ bt a0 a1 := by omega
        clear c3
        by_cases c4 : bt a0 a1 < 194
        · rw [if_neg (by omega), if_neg (by omega), if_neg (by omega)] at H
          have H' := Aside0.mk H
          clear H
          go_enter Try.func43, Try.ntmps43
          go_wp2
          refine wp_scope_jumps 0 (fun a w' => (a.tmps.size = 93 ∧ a.defers = []) ∧ Aside0 (some ((0 : Int), (0 : Int), (10 : Int)) = some (r1, r2, r3)) ∧ Drawn0 w w') (fun _ _ => 0) rfl ?first ?pass
          case pass =>
            clear H'
            rintro ⟨tm, df⟩ w2 ⟨⟨hz, hd⟩, H2, ⟨nd, rfl⟩⟩
            have H3 := H2.out
            clear H2
            simp only [Option.some.injEq, Prod.mk.injEq] at H3
            obtain ⟨rfl, rfl, rfl⟩ := H3
            replace hd : df = [] := hd
            subst hd
            have HZ := Lib.hid hz
            clear hz
            go_wp2
            go_ret3
            have hz := HZ.out
            exact ⟨by simp [Array.getD, hz], ⟨_, rfl⟩⟩
          case first =>
            go_wp2
            go_step3
            go_simp
            exact ⟨rfl, ⟨rfl, rfl⟩, H', Drawn0.refl _⟩
        · by_cases c5 : bt a0 a1 < 224
          · rw [if_pos (by omega)] at H
            by_cases cn : (2 : Int) > wrap64 ((a0.size : Int) - a1)
            · rw [if_pos cn] at H
              have H' := Aside0.mk H
              clear H
              have cnb : decide (wrap64 ((a0.size : Int) - a1) < 2) = true := decide_eq_true cn
              clear cn
              go_enter Try.func43, Try.ntmps43
              go_wp2
              refine wp_scope_jumps 0 (fun a w' => (a.tmps.size = 93 ∧ a.defers = []) ∧ Aside0 (some ((0 : Int), (0 : Int), (10 : Int)) = some (r1, r2, r3)) ∧ Drawn0 w w') (fun _ _ => 0) rfl ?first ?pass
              case pass =>
                clear H'
                rintro ⟨tm, df⟩ w2 ⟨⟨hz, hd⟩, H2, ⟨nd, rfl⟩⟩
                have H3 := H2.out
                clear H2
                simp only [Option.some.injEq, Prod.mk.injEq] at H3
                obtain ⟨rfl, rfl, rfl⟩ := H3
                replace hd : df = [] := hd
                subst hd
                have HZ := Lib.hid hz
                clear hz
                go_wp2
                go_ret3
                have hz := HZ.out
                exact ⟨by simp [Array.getD, hz], ⟨_, rfl⟩⟩
              case first =>
                go_wp2
                go_step3
                go_simp
                exact ⟨rfl, ⟨rfl, rfl⟩, H', Drawn0.refl _⟩
            · rw [if_neg cn] at H
              have H' := Aside0.mk H
              clear H
              have cnb : decide (wrap64 ((a0.size : Int) - a1) < 2) = false := decide_eq_false cn
              clear cn
              go_enter Try.func43, Try.ntmps43
              go_wp2
              refine wp_scope_jumps 0 (fun a w' => (a.tmps.size = 93 ∧ a.defers = []) ∧ Aside0 (some ((0 : Int), (0 : Int), (10 : Int)) = some (r1, r2, r3)) ∧ Drawn0 w w') (fun _ _ => 0) rfl ?first ?pass
              case pass =>
                clear H'
                rintro ⟨tm, df⟩ w2 ⟨⟨hz, hd⟩, H2, ⟨nd, rfl⟩⟩
                have H3 := H2.out
                clear H2
                simp only [Option.some.injEq, Prod.mk.injEq] at H3
                obtain ⟨rfl, rfl, rfl⟩ := H3
                replace hd : df = [] := hd
                subst hd
                have HZ := Lib.hid hz
                clear hz
                go_wp2
                go_ret3
                have hz := HZ.out
                exact ⟨by simp [Array.getD, hz], ⟨_, rfl⟩⟩
              case first =>
                go_wp2
                go_loopg [7, 10] k (fun kq v7 v10 w' => ∃ (x7 x10 : Int), v7 = .int .i32 x7 ∧ v10 = .int .i64 x10 ∧ Aside0 (utf_Decode.l0 kq a0 a1 x7 2 x10 = some (r1, r2, r3)) ∧ Aside0 (kq ≤ k) ∧ Drawn0 w w')
                case atStart => exact ⟨_, _, rfl, rfl, H', ⟨Nat.le_refl _⟩, Drawn0.refl _⟩
                case round =>
                  clear H' hb hr
                  obtain ⟨x7, x10, rfl, rfl, HA, HK, ⟨nd, rfl⟩⟩ := hrel
                  cases gk with
                  | zero => exact absurd HA.out (by simp [utf_Decode.l0])
                  | succ k1 =>
                    have H := HA.out
                    clear HA
                    simp only [utf_Decode.l0] at H
                    by_cases d1 : x10 < 2
                    · rw [if_pos d1] at H
                      obtain ⟨j, hj⟩ : ∃ j, wrap64 (a1 + x10) = j := ⟨_, rfl⟩
                      rw [hj] at H
                      have hjw : IntKind.i64.wrap (a1 + x10) = j := (i64_w _).trans hj
                      by_cases d2 : 0 ≤ j
                      · rw [if_pos d2] at H
                        by_cases d3 : j < (a0.size : Int)
                        · rw [if_pos d3] at H
                          have hb := bt_at a0 j
                          have hr := bt_range a0 j
                          by_cases d4 : bt a0 j / 64 = 2
                          · rw [if_pos d4] at H
                            have H' := Aside0.mk H
                            have m1 : (Go.bits .and .u8 (bt a0 j) 192 != 128) = false := by rw [u8_and192 hr.1 hr.2, d4]; rfl
                            clear H d4
                            go_wp2
                            go_roundg k1
                            case measure => have := HK.out; omega
                            case rel => exact ⟨_, _, rfl, rfl, H', ⟨by have := HK.out; omega⟩, ⟨_, rfl⟩⟩
                          · rw [if_neg d4] at H
                            have H' := Aside0.mk H
                            have m1 : (Go.bits .and .u8 (bt a0 j) 192 != 128) = true := by rw [u8_and192 hr.1 hr.2, bne_iff_ne]; omega
                            clear H d4
                            go_wp2
                            go_step3
                            go_simp
                            exact ⟨rfl, ⟨rfl, rfl⟩, H', ⟨_, rfl⟩⟩
                        · rw [if_neg d3] at H
                          cases H
                      · rw [if_neg d2] at H
                        cases H
                    · rw [if_neg d1] at H
                      replace H := Option.bind_eq_some_iff.mp H
                      obtain ⟨t, A1, H⟩ := H
                      have A1' := Aside0.mk A1
                      clear A1
                      by_cases d2 : t = 2
                      · rw [if_pos d2] at H
                        simp only [Option.some.injEq, Prod.mk.injEq] at H
                        obtain ⟨rfl, rfl, rfl⟩ := H
                        have d2b : (t == 2) = true := beq_iff_eq.mpr d2
                        have d2c : (t != 2) = false := bne_eq_false_iff_eq.mpr d2
                        clear d2
                        go_wp2_with fail
                        (with_reducible refine (utf_Length.calls x7 t _ A1'.out).mono ?_)
                        rintro e w' ⟨rfl, ⟨nd2, rfl⟩⟩
                        go_wp2
                        rw [jump_ret]
                        go_ret3
                        exact ⟨rfl, ⟨_, rfl⟩⟩
                      · rw [if_neg d2] at H
                        have H' := Aside0.mk H
                        have d2b : (t == 2) = false := beq_eq_false_iff_ne.mpr d2
                        have d2c : (t != 2) = true := bne_iff_ne.mpr d2
                        clear d2 H
                        go_wp2_with fail
                        (with_reducible refine (utf_Length.calls x7 t _ A1'.out).mono ?_)
                        rintro e w' ⟨rfl, ⟨nd2, rfl⟩⟩
                        go_wp2
                        go_step3
                        go_simp
                        exact ⟨rfl, ⟨rfl, rfl⟩, H', ⟨_, rfl⟩⟩
          · by_cases c6 : bt a0 a1 < 240
            · rw [if_neg (by omega), if_pos (by omega)] at H
              by_cases cn : (3 : Int) > wrap64 ((a0.size : Int) - a1)
              · rw [if_pos cn] at H
                have H' := Aside0.mk H
                clear H
                have cnb : decide (wrap64 ((a0.size : Int) - a1) < 3) = true := decide_eq_true cn
                clear cn
                go_enter Try.func43, Try.ntmps43
                go_wp2
                refine wp_scope_jumps 0 (fun a w' => (a.tmps.size = 93 ∧ a.defers = []) ∧ Aside0 (some ((0 : Int), (0 : Int), (10 : Int)) = some (r1, r2, r3)) ∧ Drawn0 w w') (fun _ _ => 0) rfl ?first ?pass
                case pass =>
                  clear H'
                  rintro ⟨tm, df⟩ w2 ⟨⟨hz, hd⟩, H2, ⟨nd, rfl⟩⟩
                  have H3 := H2.out
                  clear H2
                  simp only [Option.some.injEq, Prod.mk.injEq] at H3
                  obtain ⟨rfl, rfl, rfl⟩ := H3
                  replace hd : df = [] := hd
                  subst hd
                  have HZ := Lib.hid hz
                  clear hz
                  go_wp2
                  go_ret3
                  have hz := HZ.out
                  exact ⟨by simp [Array.getD, hz], ⟨_, rfl⟩⟩
                case first =>
                  go_wp2
                  go_step3
                  go_simp
                  exact ⟨rfl, ⟨rfl, rfl⟩, H', Drawn0.refl _⟩
              · rw [if_neg cn] at H
                have H' := Aside0.mk H
                clear H
                have cnb : decide (wrap64 ((a0.size : Int) - a1) < 3) = false := decide_eq_false cn
                clear cn
                go_enter Try.func43, Try.ntmps43
                go_wp2
                refine wp_scope_jumps 0 (fun a w' => (a.tmps.size = 93 ∧ a.defers = []) ∧ Aside0 (some ((0 : Int), (0 : Int), (10 : Int)) = some (r1, r2, r3)) ∧ Drawn0 w w') (fun _ _ => 0) rfl ?first ?pass
                case pass =>
                  clear H'
                  rintro ⟨tm, df⟩ w2 ⟨⟨hz, hd⟩, H2, ⟨nd, rfl⟩⟩
                  have H3 := H2.out
                  clear H2
                  simp only [Option.some.injEq, Prod.mk.injEq] at H3
                  obtain ⟨rfl, rfl, rfl⟩ := H3
                  replace hd : df = [] := hd
                  subst hd
                  have HZ := Lib.hid hz
                  clear hz
                  go_wp2
                  go_ret3
                  have hz := HZ.out
                  exact ⟨by simp [Array.getD, hz], ⟨_, rfl⟩⟩
                case first =>
                  go_wp2
                  go_loopg [7, 10] k (fun kq v7 v10 w' => ∃ (x7 x10 : Int), v7 = .int .i32 x7 ∧ v10 = .int .i64 x10 ∧ Aside0 (utf_Decode.l0 kq a0 a1 x7 3 x10 = some (r1, r2, r3)) ∧ Aside0 (kq ≤ k) ∧ Drawn0 w w')
                  case atStart => exact ⟨_, _, rfl, rfl, H', ⟨Nat.le_refl _⟩, Drawn0.refl _⟩
                  case round =>
                    clear H' hb hr
                    obtain ⟨x7, x10, rfl, rfl, HA, HK, ⟨nd, rfl⟩⟩ := hrel
                    cases gk with
                    | zero => exact absurd HA.out (by simp [utf_Decode.l0])
                    | succ k1 =>
                      have H := HA.out
                      clear HA
                      simp only [utf_Decode.l0] at H
                      by_cases d1 : x10 < 3
                      · rw [if_pos d1] at H
                        obtain ⟨j, hj⟩ : ∃ j, wrap64 (a1 + x10) = j := ⟨_, rfl⟩
                        rw [hj] at H
                        have hjw : IntKind.i64.wrap (a1 + x10) = j := (i64_w _).trans hj
                        by_cases d2 : 0 ≤ j
                        · rw [if_pos d2] at H
                          by_cases d3 : j < (a0.size : Int)
                          · rw [if_pos d3] at H
                            have hb := bt_at a0 j
                            have hr := bt_range a0 j
                            by_cases d4 : bt a0 j / 64 = 2
                            · rw [if_pos d4] at H
                              have H' := Aside0.mk H
                              have m1 : (Go.bits .and .u8 (bt a0 j) 192 != 128) = false := by rw [u8_and192 hr.1 hr.2, d4]; rfl
                              clear H d4
                              go_wp2
                              go_roundg k1
                              case measure => have := HK.out; omega
                              case rel => exact ⟨_, _, rfl, rfl, H', ⟨by have := HK.out; omega⟩, ⟨_, rfl⟩⟩
                            · rw [if_neg d4] at H
                              have H' := Aside0.mk H
                              have m1 : (Go.bits .and .u8 (bt a0 j) 192 != 128) = true := by rw [u8_and192 hr.1 hr.2, bne_iff_ne]; omega
                              clear H d4
                              go_wp2
                              go_step3
                              go_simp
                              exact ⟨rfl, ⟨rfl, rfl⟩, H', ⟨_, rfl⟩⟩
                          · rw [if_neg d3] at H
                            cases H
                        · rw [if_neg d2] at H
                          cases H
                      · rw [if_neg d1] at H
                        replace H := Option.bind_eq_some_iff.mp H
                        obtain ⟨t, A1, H⟩ := H
                        have A1' := Aside0.mk A1
                        clear A1
                        by_cases d2 : t = 3
                        · rw [if_pos d2] at H
                          simp only [Option.some.injEq, Prod.mk.injEq] at H
                          obtain ⟨rfl, rfl, rfl⟩ := H
                          have d2b : (t == 3) = true := beq_iff_eq.mpr d2
                          have d2c : (t != 3) = false := bne_eq_false_iff_eq.mpr d2
                          clear d2
                          go_wp2_with fail
                          (with_reducible refine (utf_Length.calls x7 t _ A1'.out).mono ?_)
                          rintro e w' ⟨rfl, ⟨nd2, rfl⟩⟩
                          go_wp2
                          rw [jump_ret]
                          go_ret3
                          exact ⟨rfl, ⟨_, rfl⟩⟩
                        · rw [if_neg d2] at H
                          have H' := Aside0.mk H
                          have d2b : (t == 3) = false := beq_eq_false_iff_ne.mpr d2
                          have d2c : (t != 3) = true := bne_iff_ne.mpr d2
                          clear d2 H
                          go_wp2_with fail
                          (with_reducible refine (utf_Length.calls x7 t _ A1'.out).mono ?_)
                          rintro e w' ⟨rfl, ⟨nd2, rfl⟩⟩
                          go_wp2
                          go_step3
                          go_simp
                          exact ⟨rfl, ⟨rfl, rfl⟩, H', ⟨_, rfl⟩⟩
            · by_cases c7 : bt a0 a1 < 245
              · rw [if_neg (by omega), if_neg (by omega), if_pos (by omega)] at H
                by_cases cn : (4 : Int) > wrap64 ((a0.size : Int) - a1)
                · rw [if_pos cn] at H
                  have H' := Aside0.mk H
                  clear H
                  have cnb : decide (wrap64 ((a0.size : Int) - a1) < 4) = true := decide_eq_true cn
                  clear cn
                  go_enter Try.func43, Try.ntmps43
                  go_wp2
                  refine wp_scope_jumps 0 (fun a w' => (a.tmps.size = 93 ∧ a.defers = []) ∧ Aside0 (some ((0 : Int), (0 : Int), (10 : Int)) = some (r1, r2, r3)) ∧ Drawn0 w w') (fun _ _ => 0) rfl ?first ?pass
                  case pass =>
                    clear H'
                    rintro ⟨tm, df⟩ w2 ⟨⟨hz, hd⟩, H2, ⟨nd, rfl⟩⟩
                    have H3 := H2.out
                    clear H2
                    simp only [Option.some.injEq, Prod.mk.injEq] at H3
                    obtain ⟨rfl, rfl, rfl⟩ := H3
                    replace hd : df = [] := hd
                    subst hd
                    have HZ := Lib.hid hz
                    clear hz
                    go_wp2
                    go_ret3
                    have hz := HZ.out
                    exact ⟨by simp [Array.getD, hz], ⟨_, rfl⟩⟩
                  case first =>
                    go_wp2
                    go_step3
                    go_simp
                    exact ⟨rfl, ⟨rfl, rfl⟩, H', Drawn0.refl _⟩
                · rw [if_neg cn] at H
                  have H' := Aside0.mk H
                  clear H
                  have cnb : decide (wrap64 ((a0.size : Int) - a1) < 4) = false := decide_eq_false cn
                  clear cn
                  go_enter Try.func43, Try.ntmps43
                  go_wp2
                  refine wp_scope_jumps 0 (fun a w' => (a.tmps.size = 93 ∧ a.defers = []) ∧ Aside0 (some ((0 : Int), (0 : Int), (10 : Int)) = some (r1, r2, r3)) ∧ Drawn0 w w') (fun _ _ => 0) rfl ?first ?pass
                  case pass =>
                    clear H'
                    rintro ⟨tm, df⟩ w2 ⟨⟨hz, hd⟩, H2, ⟨nd, rfl⟩⟩
                    have H3 := H2.out
                    clear H2
                    simp only [Option.some.injEq, Prod.mk.injEq] at H3
                    obtain ⟨rfl, rfl, rfl⟩ := H3
                    replace hd : df = [] := hd
                    subst hd
                    have HZ := Lib.hid hz
                    clear hz
                    go_wp2
                    go_ret3
                    have hz := HZ.out
                    exact ⟨by simp [Array.getD, hz], ⟨_, rfl⟩⟩
                  case first =>
                    go_wp2
                    go_loopg [7, 10] k (fun kq v7 v10 w' => ∃ (x7 x10 : Int), v7 = .int .i32 x7 ∧ v10 = .int .i64 x10 ∧ Aside0 (utf_Decode.l0 kq a0 a1 x7 4 x10 = some (r1, r2, r3)) ∧ Aside0 (kq ≤ k) ∧ Drawn0 w w')
                    case atStart => exact ⟨_, _, rfl, rfl, H', ⟨Nat.le_refl _⟩, Drawn0.refl _⟩
                    case round =>
                      clear H' hb hr
                      obtain ⟨x7, x10, rfl, rfl, HA, HK, ⟨nd, rfl⟩⟩ := hrel
                      cases gk with
                      | zero => exact absurd HA.out (by simp [utf_Decode.l0])
                      | succ k1 =>
                        have H := HA.out
                        clear HA
                        simp only [utf_Decode.l0] at H
                        by_cases d1 : x10 < 4
                        · rw [if_pos d1] at H
                          obtain ⟨j, hj⟩ : ∃ j, wrap64 (a1 + x10) = j := ⟨_, rfl⟩
                          rw [hj] at H
                          have hjw : IntKind.i64.wrap (a1 + x10) = j := (i64_w _).trans hj
                          by_cases d2 : 0 ≤ j
                          · rw [if_pos d2] at H
                            by_cases d3 : j < (a0.size : Int)
                            · rw [if_pos d3] at H
                              have hb := bt_at a0 j
                              have hr := bt_range a0 j
                              by_cases d4 : bt a0 j / 64 = 2
                              · rw [if_pos d4] at H
                                have H' := Aside0.mk H
                                have m1 : (Go.bits .and .u8 (bt a0 j) 192 != 128) = false := by rw [u8_and192 hr.1 hr.2, d4]; rfl
                                clear H d4
                                go_wp2
                                go_roundg k1
                                case measure => have := HK.out; omega
                                case rel => exact ⟨_, _, rfl, rfl, H', ⟨by have := HK.out; omega⟩, ⟨_, rfl⟩⟩
                              · rw [if_neg d4] at H
                                have H' := Aside0.mk H
                                have m1 : (Go.bits .and .u8 (bt a0 j) 192 != 128) = true := by rw [u8_and192 hr.1 hr.2, bne_iff_ne]; omega
                                clear H d4
                                go_wp2
                                go_step3
                                go_simp
                                exact ⟨rfl, ⟨rfl, rfl⟩, H', ⟨_, rfl⟩⟩
                            · rw [if_neg d3] at H
                              cases H
                          · rw [if_neg d2] at H
                            cases H
                        · rw [if_neg d1] at H
                          replace H := Option.bind_eq_some_iff.mp H
                          obtain ⟨t, A1, H⟩ := H
                          have A1' := Aside0.mk A1
                          clear A1
                          by_cases d2 : t = 4
                          · rw [if_pos d2] at H
                            simp only [Option.some.injEq, Prod.mk.injEq] at H
                            obtain ⟨rfl, rfl, rfl⟩ := H
                            have d2b : (t == 4) = true := beq_iff_eq.mpr d2
                            have d2c : (t != 4) = false := bne_eq_false_iff_eq.mpr d2
                            clear d2
                            go_wp2_with fail
                            (with_reducible refine (utf_Length.calls x7 t _ A1'.out).mono ?_)
                            rintro e w' ⟨rfl, ⟨nd2, rfl⟩⟩
                            go_wp2
                            rw [jump_ret]
                            go_ret3
                            exact ⟨rfl, ⟨_, rfl⟩⟩
                          · rw [if_neg d2] at H
                            have H' := Aside0.mk H
                            have d2b : (t == 4) = false := beq_eq_false_iff_ne.mpr d2
                            have d2c : (t != 4) = true := bne_iff_ne.mpr d2
                            clear d2 H
                            go_wp2_with fail
                            (with_reducible refine (utf_Length.calls x7 t _ A1'.out).mono ?_)
                            rintro e w' ⟨rfl, ⟨nd2, rfl⟩⟩
                            go_wp2
                            go_step3
                            go_simp
                            exact ⟨rfl, ⟨rfl, rfl⟩, H', ⟨_, rfl⟩⟩
              · rw [if_neg (by omega), if_neg (by omega), if_neg (by omega)] at H
                have H' := Aside0.mk H
                clear H
                go_enter Try.func43, Try.ntmps43
                go_wp2
                refine wp_scope_jumps 0 (fun a w' => (a.tmps.size = 93 ∧ a.defers = []) ∧ Aside0 (some ((0 : Int), (0 : Int), (10 : Int)) = some (r1, r2, r3)) ∧ Drawn0 w w') (fun _ _ => 0) rfl ?first ?pass
                case pass =>
                  clear H'
                  rintro ⟨tm, df⟩ w2 ⟨⟨hz, hd⟩, H2, ⟨nd, rfl⟩⟩
                  have H3 := H2.out
                  clear H2
                  simp only [Option.some.injEq, Prod.mk.injEq] at H3
                  obtain ⟨rfl, rfl, rfl⟩ := H3
                  replace hd : df = [] := hd
                  subst hd
                  have HZ := Lib.hid hz
                  clear hz
                  go_wp2
                  go_ret3
                  have hz := HZ.out
                  exact ⟨by simp [Array.getD, hz], ⟨_, rfl⟩⟩
                case first =>
                  go_wp2
                  go_step3
                  go_simp
                  exact ⟨rfl, ⟨rfl, rfl⟩, H', Drawn0.refl _⟩

/-! ### utf_Runes: function 26 -/
def utf_Runes.l0 : Nat → ByteArray → List Int → Int → Option (List Int × Int × Int)
 | 0, _, _, _ => none
 | k + 1, x0, x5, x6 => if x6 < (x0.size : Int) then ((utf_Decode.f k x0 x6).bind fun bt249 => (if bt249.2.2 = 0 then (if x5.length < 35184372088832 then (utf_Runes.l0 k x0 (x5 ++ [bt249.1]) bt249.2.1) else (none)) else (some (([] : List Int), x6, bt249.2.2)))) else (some (x5, (x0.size : Int), 0))
def utf_Runes.f (k : Nat) (a0 : ByteArray) : Option (List Int × Int × Int) := utf_Runes.l0 k a0 ([] : List Int) 0
theorem utf_Runes.mono_l : ∀ k, (∀ y0 y1 y2, LeO (utf_Runes.l0 k y0 y1 y2) (utf_Runes.l0 (k + 1) y0 y1 y2))
 | 0 => fun _ _ _ r h => by simp [utf_Runes.l0] at h
 | k + 1 => by
  have ih0 := utf_Runes.mono_l k
  ·intro y0 y1 y2
   unfold utf_Runes.l0
   repeat' first
   | (with_reducible exact ih0 _ _ _)
   | (with_reducible exact utf_Decode.mono _ _ _)
   | (with_reducible exact LeO.refl _)
   | exact ih0 _ _ _
   | exact utf_Decode.mono _ _ _
   | exact LeO.none _
   | refine LeO.ite ?_ ?_
   | refine LeO.bind ?_ (fun _ => ?_)
theorem utf_Runes.mono : ∀ a0 k, LeO (utf_Runes.f k a0) (utf_Runes.f (k + 1) a0) := by
 intro a0 k
 have ih0 := utf_Runes.mono_l k
 unfold utf_Runes.f
 repeat' first
   | (with_reducible exact ih0 _ _ _)
   | (with_reducible exact utf_Decode.mono _ _ _)
   | (with_reducible exact LeO.refl _)
   | exact ih0 _ _ _
   | exact utf_Decode.mono _ _ _
   | exact LeO.none _
   | refine LeO.ite ?_ ?_
   | refine LeO.bind ?_ (fun _ => ?_)
set_option maxHeartbeats 8000000 in
set_option maxRecDepth 100000 in
theorem utf_Runes.calls (k : Nat) (a0 : ByteArray) (r1 : List Int) (r2 : Int) (r3 : Int) (w : World) (h : utf_Runes.f k a0 = some (r1, r2, r3)) :
  Calls Try.prog 26 #[.string a0] w fun e w' => ∃ v0_ : Value, e = .returned (.tuple #[v0_, .int .i64 r2, .int .i64 r3]) ∧ Kd.R (Kd.int .i32) 21 w' w.heap.size (fun _ => True) v0_ r1 ∧ Below w.heap.size w w' := by
 have HB := aM (Below.refl w.heap.size w)
 have H : (utf_Runes.l0 k a0 ([] : List Int) 0) = some (r1, r2, r3) := h
 clear h
 have H' := aM H
 clear H
 go_enter Try.func26, Try.ntmps26
 go_wp2
 go_loopg [5, 6] k (fun kq v5 v6 w' => ∃ (x5_1 : List Int) (x6_1 : Int), v6 = .int .i64 x6_1 ∧ Aside0 (utf_Runes.l0 kq a0 x5_1 x6_1 = some (r1, r2, r3)) ∧ Aside0 (kq ≤ k) ∧ Aside0 (Kd.R (Kd.int .i32) 21 w' w.heap.size (fun _ => True) v5 x5_1) ∧ Aside0 (Below w.heap.size w w'))
 case atStart => exact ⟨(([] : List Int)), (0), zP, H', ⟨Nat.le_refl _⟩, ⟨zL⟩, ⟨zB⟩⟩
 case round =>
  clear H'
  obtain ⟨x5_1, x6_1, rfl, HA, HK1, HO_5, HB⟩ := hrel
  cases gk with
  | zero => exact absurd HA.out (by simp [utf_Runes.l0])
  | succ k1 =>
   have H := HA.out
   clear HA
   simp only [utf_Runes.l0] at H
   by_cases c2 : x6_1 < (a0.size : Int)
   ·rw [if_pos c2] at H
    have c2b0 : decide (x6_1 < (a0.size : Int)) = true := decide_eq_true c2
    clear c2
    obtain ⟨⟨t249, t250, t251⟩, A3, H⟩ := zO H
    try dsimp only at H
    by_cases c4 : t251 = 0
    ·rw [if_pos c4] at H
     have c4b0 : (t251 == 0) = true := beq_iff_eq.mpr c4
     have c4b1 : (t251 != 0) = false := bne_eq_false_iff_eq.mpr c4
     clear c4
     by_cases c5 : x5_1.length < 35184372088832
     ·rw [if_pos c5] at H
      have LMc5 := aM c5
      clear c5
      obtain ⟨y252, hy252⟩ : ∃ y_ : List Int, y_ = (x5_1 ++ [t249]) := ⟨_, rfl⟩
      replace H : (utf_Runes.l0 k1 a0 y252 t250) = some (r1, r2, r3) := zY hy252 H
      have Ny252 := aM hy252
      clear hy252
      have H' := aM H
      clear H
      go_wp2_with (first | ((with_reducible refine gate_callee (f := 43) rfl ?_); refine goesL_ (some 17) rfl rfl Try.func43 zK rfl #[.string a0, .int .i64 x6_1] rfl zM ?_; (with_reducible refine (utf_Decode.calls k1 a0 x6_1 t249 t250 t251 _ A3.out).mono ?_); rintro e w' ⟨rfl, ⟨nd, rfl⟩⟩; refine ⟨_, rfl, ?_⟩) | ((with_reducible refine gate_builtin (b := .append) (xs := #[.tmp 25, .tmp 27]) rfl ?_); at_builtin; refine Kd.R_append (Kd.int .i32) (w0 := w) w.heap.size rfl (.tmp 25) (.tmp 27) 22 21 (.int .i32 0) 4 rfl Try.underlying22 info21 rfl (by decide) (by omega) u5 x5_1 t249 [.int .i32 t249] (fun _ => True) (fun _ => False) rfl rfl ?aP (fun _ hk => hk.elim) ?aF ?aO ?aB ?aS ?aL ?_; (case aP => exact rfl); (case aB => exact zB); (case aF => exact (fun _ _ => trivial)); (case aO => exact (zR HO_5)); (case aS => exact (below_size zB)); (case aL => have := LMc5.out; omega); intro v253 w6 ho hb hg hat; rw [← Ny252.out] at ho; have n_ := zI (aM (hb)) (aM (ho)); clear HB HO_5; obtain ⟨HB, HO254⟩ := n_; clear ho hb hg hat))
      go_roundg k1
      case measure => have := HK1.out; omega
      case rel => exact ⟨(y252), (t250), zP, H', ⟨by have := HK1.out; omega⟩, ⟨zR HO254⟩, ⟨zB⟩⟩
     ·rw [if_neg c5] at H
      exact absurd H (by simp)
    ·rw [if_neg c4] at H
     have c4b0 : (t251 == 0) = false := beq_eq_false_iff_ne.mpr c4
     have c4b1 : (t251 != 0) = true := bne_iff_ne.mpr c4
     simp only [Option.some.injEq, Prod.mk.injEq] at H
     obtain ⟨rfl, rfl, rfl⟩ := H
     go_wp2_with (first | ((with_reducible refine gate_callee (f := 43) rfl ?_); refine goesL_ (some 17) rfl rfl Try.func43 zK rfl #[.string a0, .int .i64 x6_1] rfl zM ?_; (with_reducible refine (utf_Decode.calls k1 a0 x6_1 t249 t250 t251 _ A3.out).mono ?_); rintro e w' ⟨rfl, ⟨nd, rfl⟩⟩; refine ⟨_, rfl, ?_⟩))
     go_ret3
     exact ⟨_, zE, zL, zB⟩
   ·rw [if_neg c2] at H
    have c2b0 : decide (x6_1 < (a0.size : Int)) = false := decide_eq_false c2
    clear c2
    simp only [Option.some.injEq, Prod.mk.injEq] at H
    obtain ⟨rfl, rfl, rfl⟩ := H
    go_wp2
    go_ret3
    exact ⟨_, zE, zR HO_5, zB⟩

/-! ### utf_Encode: function 27 -/
mutual
def utf_Encode.l0 : Nat → List Int → List Int → Int → Int → Option (ByteArray × Int)
 | 0, _, _, _, _ => none
 | k + 1, x4, x9, x10, x11 => if x11 < x10 then (if 0 ≤ x11 then (if x11 < (x9.length : Int) then ((utf_Length.f (rd x9 x11)).bind fun t256 => (if t256 = 0 then (some ((⟨#[]⟩ : ByteArray), 10)) else (if 0 ≤ t256 then (if t256 < 5 then (if 0 ≤ (IntKind.u64.wrap (wrap64 (6 * (wrap64 (t256 - 1))))) then (if x4.length < 140737488355328 then (utf_Encode.l1 k (x4 ++ [Go.bits .or .u8 (bt (⟨#[0, 0, 192, 224, 240]⟩ : ByteArray) t256) ((shr .i32 (rd x9 x11) (IntKind.u64.wrap (wrap64 (6 * (wrap64 (t256 - 1)))))) % 256)]) (rd x9 x11) (wrap64 (t256 - 2)) x9 x10 x11) else (none)) else (none)) else (none)) else (none)))) else (none)) else (none)) else (some (strOfNums x4, 0))
def utf_Encode.l1 : Nat → List Int → Int → Int → List Int → Int → Int → Option (ByteArray × Int)
 | 0, _, _, _, _, _, _ => none
 | k + 1, x4, x6, x8, x9, x10, x11 => if x8 ≥ 0 then (if 0 ≤ (IntKind.u64.wrap (wrap64 (6 * x8))) then (if x4.length < 140737488355328 then (utf_Encode.l1 k (x4 ++ [Go.bits .or .u8 128 (Go.bits .and .u8 ((shr .i32 x6 (IntKind.u64.wrap (wrap64 (6 * x8)))) % 256) 63)]) x6 (wrap64 (x8 - 1)) x9 x10 x11) else (none)) else (none)) else (utf_Encode.l0 k x4 x9 x10 (wrap64 (x11 + 1)))
end
def utf_Encode.f (k : Nat) (l0 : List Int) : Option (ByteArray × Int) := utf_Encode.l0 k ([] : List Int) l0 (l0.length : Int) 0
theorem utf_Encode.mono_l : ∀ k, (∀ y0 y1 y2 y3, LeO (utf_Encode.l0 k y0 y1 y2 y3) (utf_Encode.l0 (k + 1) y0 y1 y2 y3)) ∧ (∀ y0 y1 y2 y3 y4 y5, LeO (utf_Encode.l1 k y0 y1 y2 y3 y4 y5) (utf_Encode.l1 (k + 1) y0 y1 y2 y3 y4 y5))
 | 0 => ⟨fun _ _ _ _ r h => by simp [utf_Encode.l0] at h, fun _ _ _ _ _ _ r h => by simp [utf_Encode.l1] at h⟩
 | k + 1 => by
  obtain ⟨ih0, ih1⟩ := utf_Encode.mono_l k
  refine ⟨?_, ?_⟩
  ·intro y0 y1 y2 y3
   unfold utf_Encode.l0
   repeat' first
   | (with_reducible exact ih0 _ _ _ _)
   | (with_reducible exact ih1 _ _ _ _ _ _)
   | (with_reducible exact LeO.refl _)
   | exact ih0 _ _ _ _
   | exact ih1 _ _ _ _ _ _
   | exact LeO.none _
   | refine LeO.ite ?_ ?_
   | refine LeO.bind ?_ (fun _ => ?_)
  ·intro y0 y1 y2 y3 y4 y5
   unfold utf_Encode.l1
   repeat' first
   | (with_reducible exact ih0 _ _ _ _)
   | (with_reducible exact ih1 _ _ _ _ _ _)
   | (with_reducible exact LeO.refl _)
   | exact ih0 _ _ _ _
   | exact ih1 _ _ _ _ _ _
   | exact LeO.none _
   | refine LeO.ite ?_ ?_
   | refine LeO.bind ?_ (fun _ => ?_)
theorem utf_Encode.mono : ∀ a0 k, LeO (utf_Encode.f k a0) (utf_Encode.f (k + 1) a0) := by
 intro a0 k
 obtain ⟨ih0, ih1⟩ := utf_Encode.mono_l k
 unfold utf_Encode.f
 repeat' first
   | (with_reducible exact ih0 _ _ _ _)
   | (with_reducible exact ih1 _ _ _ _ _ _)
   | (with_reducible exact LeO.refl _)
   | exact ih0 _ _ _ _
   | exact ih1 _ _ _ _ _ _
   | exact LeO.none _
   | refine LeO.ite ?_ ?_
   | refine LeO.bind ?_ (fun _ => ?_)
set_option maxHeartbeats 8000000 in
set_option maxRecDepth 100000 in
theorem utf_Encode.calls (k : Nat) (A0 : Option Addr) (c0 : Nat) (l0 : List Int) (r1 : ByteArray) (r2 : Int) (w : World) (hr0 : Kd.C (Kd.int .i32) w A0 l0.length l0) (hc0 : l0.length ≤ c0) (h : utf_Encode.f k l0 = some (r1, r2)) :
  Calls Try.prog 27 #[.slice A0 l0.length c0] w fun e w' => e = .returned (.tuple #[.string r1, .int .i64 r2]) ∧ Below w.heap.size w w' := by
 have HR0 := aM hr0
 have HC0 := aM hc0
 clear hr0 hc0
 have HB := aM (Below.refl w.heap.size w)
 have H : (utf_Encode.l0 k ([] : List Int) l0 (l0.length : Int) 0) = some (r1, r2) := h
 clear h
 have H' := aM H
 clear H
 go_enter Try.func27, Try.ntmps27
 go_wp2
 go_loopg [4, 11] k (fun kq v4 v11 w' => ∃ (x4_1 : List Int) (x11_1 : Int), v11 = .int .i64 x11_1 ∧ Aside0 (utf_Encode.l0 kq x4_1 l0 (l0.length : Int) x11_1 = some (r1, r2)) ∧ Aside0 (kq ≤ k) ∧ Aside0 (Kd.R (Kd.int .u8) 5 w' w.heap.size (fun _ => True) v4 x4_1) ∧ Aside0 (Below w.heap.size w w'))
 case atStart => exact ⟨(([] : List Int)), (0), zP, H', ⟨Nat.le_refl _⟩, ⟨zL⟩, ⟨zB⟩⟩
 case round =>
  clear H'
  obtain ⟨x4_1, x11_1, rfl, HA, HK1, HO_4, HB⟩ := hrel
  cases gk with
  | zero => exact absurd HA.out (by simp [utf_Encode.l0])
  | succ k1 =>
   have H := HA.out
   clear HA
   simp only [utf_Encode.l0] at H
   by_cases c2 : x11_1 < (l0.length : Int)
   ·rw [if_pos c2] at H
    have c2b0 : decide (x11_1 < (l0.length : Int)) = true := decide_eq_true c2
    clear c2
    by_cases c3 : 0 ≤ x11_1
    ·rw [if_pos c3] at H
     have c3b0 : decide (0 ≤ x11_1) = true := decide_eq_true c3
     clear c3
     by_cases c4 : x11_1 < (l0.length : Int)
     ·rw [if_pos c4] at H
      have c4b0 : decide (x11_1 < (l0.length : Int)) = true := decide_eq_true c4
      clear c4
      obtain ⟨t256, A5, H⟩ := zO H
      by_cases c6 : t256 = 0
      ·rw [if_pos c6] at H
       have c6b0 : (t256 == 0) = true := beq_iff_eq.mpr c6
       have c6b1 : (t256 != 0) = false := bne_eq_false_iff_eq.mpr c6
       clear c6
       simp only [Option.some.injEq, Prod.mk.injEq] at H
       obtain ⟨rfl, rfl⟩ := H
       have p255 : 0 ≤ (x11_1 : Int) := zoA
       have q255 : x11_1 < (l0.length : Int) := zoA
       obtain ⟨ad255, e255, hx255_0⟩ := Kd.at_int HR0.out x11_1 p255 q255
       cases e255
       replace hx255_0 := (HB.out.cell (World.block_lt_of_cell? w _ hx255_0)).trans hx255_0
       replace p255 := eq_true p255
       replace q255 := eq_true q255
       go_wp2_with (first | ((with_reducible refine gate_callee (f := 44) rfl ?_); refine goesL_ (some 16) rfl rfl Try.func44 zK rfl #[.int .i32 (rd l0 x11_1)] rfl zM ?_; (with_reducible refine (utf_Length.calls (rd l0 x11_1) t256 _ A5.out).mono ?_); rintro e w' ⟨rfl, ⟨nd, rfl⟩⟩; refine ⟨_, rfl, ?_⟩))
       go_ret2
       exact ⟨zE, zB⟩
      ·rw [if_neg c6] at H
       have c6b0 : (t256 == 0) = false := beq_eq_false_iff_ne.mpr c6
       have c6b1 : (t256 != 0) = true := bne_iff_ne.mpr c6
       by_cases c7 : 0 ≤ t256
       ·rw [if_pos c7] at H
        have c7b0 : decide (0 ≤ t256) = true := decide_eq_true c7
        clear c7
        by_cases c8 : t256 < 5
        ·rw [if_pos c8] at H
         have c8b0 : decide (t256 < 5) = true := decide_eq_true c8
         clear c8
         obtain ⟨ji10, hji10⟩ : ∃ j_ : Int, (IntKind.u64.wrap (wrap64 (6 * (wrap64 (t256 - 1))))) = j_ := ⟨_, rfl⟩
         replace H : (if 0 ≤ (ji10) then (if x4_1.length < 140737488355328 then (utf_Encode.l1 k1 (x4_1 ++ [Go.bits .or .u8 (bt (⟨#[0, 0, 192, 224, 240]⟩ : ByteArray) t256) ((shr .i32 (rd l0 x11_1) (ji10)) % 256)]) (rd l0 x11_1) (wrap64 (t256 - 2)) l0 (l0.length : Int) x11_1) else (none)) else (none)) = some (r1, r2) := by first | (rw [hji10] at H; exact H) | (simp only [hji10] at H ⊢; exact H)
         (try rw [hji10] at A5)
         by_cases c11 : 0 ≤ (ji10)
         ·rw [if_pos c11] at H
          have c11b0 := eq_true c11
          have c11b1 : decide (0 ≤ (ji10)) = true := decide_eq_true c11
          clear c11
          obtain ⟨ji12, hji12⟩ : ∃ j_ : Int, (shr .i32 (rd l0 x11_1) (ji10)) = j_ := ⟨_, rfl⟩
          replace H : (if x4_1.length < 140737488355328 then (utf_Encode.l1 k1 (x4_1 ++ [Go.bits .or .u8 (bt (⟨#[0, 0, 192, 224, 240]⟩ : ByteArray) t256) ((ji12) % 256)]) (rd l0 x11_1) (wrap64 (t256 - 2)) l0 (l0.length : Int) x11_1) else (none)) = some (r1, r2) := by first | (rw [hji12] at H; exact H) | (simp only [hji12] at H ⊢; exact H)
          (try rw [hji12] at A5)
          have hji12_ : ((rd l0 x11_1) / 2 ^ min (ji10).toNat 32) = ji12 := hji12
          have hji12z : (ji10) ≤ 32 → ((rd l0 x11_1) / 2 ^ (ji10).toNat) = ji12 := shr_small hji12
          by_cases c13 : x4_1.length < 140737488355328
          ·rw [if_pos c13] at H
           have LMc13 := aM c13
           clear c13
           obtain ⟨y257, hy257⟩ : ∃ y_ : List Int, y_ = (x4_1 ++ [Go.bits .or .u8 (bt (⟨#[0, 0, 192, 224, 240]⟩ : ByteArray) t256) ((ji12) % 256)]) := ⟨_, rfl⟩
           replace H : (utf_Encode.l1 k1 y257 (rd l0 x11_1) (wrap64 (t256 - 2)) l0 (l0.length : Int) x11_1) = some (r1, r2) := zY hy257 H
           have Ny257 := aM hy257
           clear hy257
           have H' := aM H
           clear H
           have p255 : 0 ≤ (x11_1 : Int) := zoA
           have q255 : x11_1 < (l0.length : Int) := zoA
           obtain ⟨ad255, e255, hx255_0⟩ := Kd.at_int HR0.out x11_1 p255 q255
           cases e255
           replace hx255_0 := (HB.out.cell (World.block_lt_of_cell? w _ hx255_0)).trans hx255_0
           replace p255 := eq_true p255
           replace q255 := eq_true q255
           go_wp2_with (first | ((with_reducible refine gate_callee (f := 44) rfl ?_); refine goesL_ (some 16) rfl rfl Try.func44 zK rfl #[.int .i32 (rd l0 x11_1)] rfl zM ?_; (with_reducible refine (utf_Length.calls (rd l0 x11_1) t256 _ A5.out).mono ?_); rintro e w' ⟨rfl, ⟨nd, rfl⟩⟩; refine ⟨_, rfl, ?_⟩; have p9 : 0 ≤ (t256 : Int) := zoA; have q9 : t256 < (5 : Int) := zoA; have hx9 := bt_at (⟨#[0, 0, 192, 224, 240]⟩ : ByteArray) t256; replace p9 := eq_true p9; replace q9 := eq_true q9) | ((with_reducible refine gate_builtin (b := .append) (xs := #[.tmp 19, .tmp 30]) rfl ?_); at_builtin; refine Kd.R_append (Kd.int .u8) (w0 := w) w.heap.size rfl (.tmp 19) (.tmp 30) 63 5 (.int .u8 0) 1 rfl Try.underlying63 info5 rfl (by decide) (by omega) u4 x4_1 (Go.bits .or .u8 (bt (⟨#[0, 0, 192, 224, 240]⟩ : ByteArray) t256) ((ji12) % 256)) [.int .u8 (Go.bits .or .u8 (bt (⟨#[0, 0, 192, 224, 240]⟩ : ByteArray) t256) ((ji12) % 256))] (fun _ => True) (fun _ => False) rfl rfl ?aP (fun _ hk => hk.elim) ?aF ?aO ?aB ?aS ?aL ?_; (case aP => exact rfl); (case aB => exact zB); (case aF => exact (fun _ _ => trivial)); (case aO => exact (zR HO_4)); (case aS => exact (below_size zB)); (case aL => have := LMc13.out; omega); intro v258 w14 ho hb hg hat; rw [← Ny257.out] at ho; have n_ := zI (aM (hb)) (aM (ho)); clear HB HO_4; obtain ⟨HB, HO259⟩ := n_; clear ho hb hg hat))
           go_loopg [4, 8] k1 (fun kq v4 v8 w' => ∃ (x4_2 : List Int) (x8_2 : Int), v8 = .int .i64 x8_2 ∧ Aside0 (utf_Encode.l1 kq x4_2 (rd l0 x11_1) x8_2 l0 (l0.length : Int) x11_1 = some (r1, r2)) ∧ Aside0 (kq ≤ k1) ∧ Aside0 (Kd.R (Kd.int .u8) 5 w' w.heap.size (fun _ => True) v4 x4_2) ∧ Aside0 (Below w.heap.size w w'))
           case atStart => exact ⟨(y257), (wrap64 (t256 - 2)), zP, H', ⟨Nat.le_refl _⟩, ⟨zR HO259⟩, ⟨zB⟩⟩
           case round =>
            clear H'
            try clear c1
            try clear c2
            try clear c2b0
            try clear p2
            try clear q2
            try clear hx2
            try clear c3
            try clear c3b0
            try clear c4
            try clear c4b0
            try clear c6
            try clear c6b0
            try clear c6b1
            try clear p6
            try clear c7
            try clear c7b0
            try clear c8
            try clear c8b0
            try clear p9
            try clear q9
            try clear hx9
            try clear c11
            try clear c11b0
            try clear c11b1
            try clear c13
            try clear hx255_0
            try clear p255
            try clear p9
            try clear q255
            try clear q9
            obtain ⟨x4_2, x8_2, rfl, HA, HK2, HO_4, HB⟩ := hrel
            cases gk with
            | zero => exact absurd HA.out (by simp [utf_Encode.l1])
            | succ k2 =>
             have H := HA.out
             clear HA
             simp only [utf_Encode.l1] at H
             by_cases c15 : x8_2 ≥ 0
             ·rw [if_pos c15] at H
              have c15b0 : decide (0 ≤ x8_2) = true := decide_eq_true c15
              clear c15
              obtain ⟨ji16, hji16⟩ : ∃ j_ : Int, (IntKind.u64.wrap (wrap64 (6 * x8_2))) = j_ := ⟨_, rfl⟩
              replace H : (if 0 ≤ (ji16) then (if x4_2.length < 140737488355328 then (utf_Encode.l1 k2 (x4_2 ++ [Go.bits .or .u8 128 (Go.bits .and .u8 ((shr .i32 (rd l0 x11_1) (ji16)) % 256) 63)]) (rd l0 x11_1) (wrap64 (x8_2 - 1)) l0 (l0.length : Int) x11_1) else (none)) else (none)) = some (r1, r2) := by first | (rw [hji16] at H; exact H) | (simp only [hji16] at H ⊢; exact H)
              by_cases c17 : 0 ≤ (ji16)
              ·rw [if_pos c17] at H
               have c17b0 := eq_true c17
               have c17b1 : decide (0 ≤ (ji16)) = true := decide_eq_true c17
               clear c17
               obtain ⟨ji18, hji18⟩ : ∃ j_ : Int, (shr .i32 (rd l0 x11_1) (ji16)) = j_ := ⟨_, rfl⟩
               replace H : (if x4_2.length < 140737488355328 then (utf_Encode.l1 k2 (x4_2 ++ [Go.bits .or .u8 128 (Go.bits .and .u8 ((ji18) % 256) 63)]) (rd l0 x11_1) (wrap64 (x8_2 - 1)) l0 (l0.length : Int) x11_1) else (none)) = some (r1, r2) := by first | (rw [hji18] at H; exact H) | (simp only [hji18] at H ⊢; exact H)
               have hji18_ : ((rd l0 x11_1) / 2 ^ min (ji16).toNat 32) = ji18 := hji18
               have hji18z : (ji16) ≤ 32 → ((rd l0 x11_1) / 2 ^ (ji16).toNat) = ji18 := shr_small hji18
               by_cases c19 : x4_2.length < 140737488355328
               ·rw [if_pos c19] at H
                have LMc19 := aM c19
                clear c19
                obtain ⟨y260, hy260⟩ : ∃ y_ : List Int, y_ = (x4_2 ++ [Go.bits .or .u8 128 (Go.bits .and .u8 ((ji18) % 256) 63)]) := ⟨_, rfl⟩
                replace H : (utf_Encode.l1 k2 y260 (rd l0 x11_1) (wrap64 (x8_2 - 1)) l0 (l0.length : Int) x11_1) = some (r1, r2) := zY hy260 H
                rw [or_and_63] at hy260
                have Ny260 := aM hy260
                clear hy260
                have H' := aM H
                clear H
                go_wp2_with (first | ((with_reducible refine gate_builtin (b := .append) (xs := #[.tmp 38, .tmp 47]) rfl ?_); at_builtin; refine Kd.R_append (Kd.int .u8) (w0 := w) w.heap.size rfl (.tmp 38) (.tmp 47) 63 5 (.int .u8 0) 1 rfl Try.underlying63 info5 rfl (by decide) (by omega) u4 x4_2 ((128 + ji18 % 64)) [.int .u8 ((128 + ji18 % 64))] (fun _ => True) (fun _ => False) rfl rfl ?aP (fun _ hk => hk.elim) ?aF ?aO ?aB ?aS ?aL ?_; (case aP => exact rfl); (case aB => exact zB); (case aF => exact (fun _ _ => trivial)); (case aO => exact (zR HO_4)); (case aS => exact (below_size zB)); (case aL => have := LMc19.out; omega); intro v261 w20 ho hb hg hat; rw [← Ny260.out] at ho; have n_ := zI (aM (hb)) (aM (ho)); clear HB HO_4; obtain ⟨HB, HO262⟩ := n_; clear ho hb hg hat))
                go_roundg k2
                case measure => have := HK1.out; have := HK2.out; omega
                case rel => exact ⟨(y260), (wrap64 (x8_2 - 1)), zP, H', ⟨by have := HK1.out; have := HK2.out; omega⟩, ⟨zR HO262⟩, ⟨zB⟩⟩
               ·rw [if_neg c19] at H
                exact absurd H (by simp)
              ·rw [if_neg c17] at H
               exact absurd H (by simp)
             ·rw [if_neg c15] at H
              have c15b0 : decide (0 ≤ x8_2) = false := decide_eq_false c15
              clear c15
              have H' := aM H
              clear H
              go_wp2
              go_roundg k2
              case measure => have := HK1.out; have := HK2.out; omega
              case rel => exact ⟨(x4_2), (wrap64 (x11_1 + 1)), zP, H', ⟨by have := HK1.out; have := HK2.out; omega⟩, ⟨zR HO_4⟩, ⟨zB⟩⟩
          ·rw [if_neg c13] at H
           exact absurd H (by simp)
         ·rw [if_neg c11] at H
          exact absurd H (by simp)
        ·rw [if_neg c8] at H
         exact absurd H (by simp)
       ·rw [if_neg c7] at H
        exact absurd H (by simp)
     ·rw [if_neg c4] at H
      exact absurd H (by simp)
    ·rw [if_neg c3] at H
     exact absurd H (by simp)
   ·rw [if_neg c2] at H
    have c2b0 : decide (x11_1 < (l0.length : Int)) = false := decide_eq_false c2
    clear c2
    simp only [Option.some.injEq, Prod.mk.injEq] at H
    obtain ⟨rfl, rfl⟩ := H
    have hcv21 := own_string (P := Try.prog) Try.underlying63 Try.underlying5 Try.underlying9 (Kd.own_of_R HO_4.out)
    go_wp2
    go_ret2
    exact ⟨zE, zB⟩

/-! ### nfkc_Text: function 13 -/
def nfkc_Text.f (k : Nat) (a0 : Bool) (a1 : ByteArray) : Option (ByteArray × Int) := (utf_Runes.f k a1).bind fun bt263 => (if bt263.2.2 = 0 then ((nfkc_Runes.f k a0 bt263.1).bind fun t268 => ((utf_Encode.f k t268).bind fun bt271 => (some (bt271.1, bt271.2)))) else (some ((⟨#[]⟩ : ByteArray), bt263.2.2)))
theorem nfkc_Text.mono : ∀ a0 a1 k, LeO (nfkc_Text.f k a0 a1) (nfkc_Text.f (k + 1) a0 a1) := by
 intro a0 a1 k
 unfold nfkc_Text.f
 repeat' first
   | (with_reducible exact nfkc_Runes.mono _ _ _)
   | (with_reducible exact utf_Encode.mono _ _)
   | (with_reducible exact utf_Runes.mono _ _)
   | (with_reducible exact LeO.refl _)
   | exact nfkc_Runes.mono _ _ _
   | exact utf_Encode.mono _ _
   | exact utf_Runes.mono _ _
   | exact LeO.none _
   | refine LeO.ite ?_ ?_
   | refine LeO.bind ?_ (fun _ => ?_)
set_option maxHeartbeats 8000000 in
set_option maxRecDepth 100000 in
theorem nfkc_Text.calls (k : Nat) (a0 : Bool) (a1 : ByteArray) (r1 : ByteArray) (r2 : Int) (w : World) (h : nfkc_Text.f k a0 a1 = some (r1, r2)) :
  Calls Try.prog 13 #[.bool a0, .string a1] w fun e w' => e = .returned (.tuple #[.string r1, .int .i64 r2]) ∧ Below w.heap.size w w' := by
 have HB := aM (Below.refl w.heap.size w)
 have H : ((utf_Runes.f k a1).bind fun bt263 => (if bt263.2.2 = 0 then ((nfkc_Runes.f k a0 bt263.1).bind fun t268 => ((utf_Encode.f k t268).bind fun bt271 => (some (bt271.1, bt271.2)))) else (some ((⟨#[]⟩ : ByteArray), bt263.2.2)))) = some (r1, r2) := h
 clear h
 obtain ⟨⟨t263, t264, t265⟩, A3, H⟩ := zO H
 try dsimp only at H
 by_cases c4 : t265 = 0
 ·rw [if_pos c4] at H
  have c4b0 : (t265 == 0) = true := beq_iff_eq.mpr c4
  have c4b1 : (t265 != 0) = false := bne_eq_false_iff_eq.mpr c4
  clear c4
  obtain ⟨t268, A5, H⟩ := zO H
  obtain ⟨⟨t271, t272⟩, A6, H⟩ := zO H
  try dsimp only at H
  simp only [Option.some.injEq, Prod.mk.injEq] at H
  obtain ⟨rfl, rfl⟩ := H
  go_enter Try.func13, Try.ntmps13
  go_wp2_with (first | ((with_reducible refine gate_callee (f := 26) rfl ?_); refine goesL_ (some 11) rfl rfl Try.func26 zK rfl #[.string a1] rfl zM ?_; (with_reducible refine (utf_Runes.calls k a1 t263 t264 t265 _ A3.out).mono ?_); rintro e w7 ⟨v266, rfl, ho0, hb⟩; refine ⟨_, rfl, ?_⟩; have n_ := zI (aM (Kd.R_lower ho0 (below_size zB))) (aM (below_step zB hb)); clear HB; obtain ⟨HO267, HB⟩ := n_; (try clear hb); (try clear ho0); obtain ⟨Ao8, co8, rfl⟩ := Kd.R_slice HO267.out) | ((with_reducible refine gate_callee (f := 11) rfl ?_); refine goesL_ (some 20) rfl rfl Try.func11 zK rfl #[.bool a0, .slice Ao8 t263.length co8] rfl zM ?_; (with_reducible refine (nfkc_Runes.calls k a0 _ _ t263 t268 _ ?side1 ?side2 A5.out).mono ?_); (case side1 => exact zC (Kd.R_reads' HO267.out).2.2); (case side2 => exact (Kd.R_reads' HO267.out).2.1); rintro e w9 ⟨v269, rfl, ho0, hb⟩; refine ⟨_, rfl, ?_⟩; have n_ := zI (aM (Kd.R_elder' (zR HO267) (Kd.R_base ho0) hb)) (zI (aM (Kd.R_lower (Kd.R_new' ho0 (Kd.R_lt (zR HO267))) (below_size zB))) (aM (below_step zB hb))); clear HO267 HB; obtain ⟨HO267, HO270, HB⟩ := n_; (try clear hb); (try clear ho0); obtain ⟨Ao10, co10, rfl⟩ := Kd.R_slice HO270.out) | ((with_reducible refine gate_callee (f := 27) rfl ?_); refine goesL_ (some 21) rfl rfl Try.func27 zK rfl #[.slice Ao10 t268.length co10] rfl zM ?_; (with_reducible refine (utf_Encode.calls k _ _ t268 t271 t272 _ ?side1 ?side2 A6.out).mono ?_); (case side1 => exact zC (Kd.R_reads' HO270.out).2.2); (case side2 => exact (Kd.R_reads' HO270.out).2.1); rintro e w11 ⟨rfl, hb⟩; refine ⟨_, rfl, ?_⟩; have n_ := zI (aM (Kd.R_below (zR HO267) hb)) (zI (aM (Kd.R_below (zR HO270) hb)) (aM (below_step zB hb))); clear HO267 HO270 HB; obtain ⟨HO267, HO270, HB⟩ := n_; (try clear hb)))
  go_ret2
  exact ⟨zE, zB⟩
 ·rw [if_neg c4] at H
  have c4b0 : (t265 == 0) = false := beq_eq_false_iff_ne.mpr c4
  have c4b1 : (t265 != 0) = true := bne_iff_ne.mpr c4
  simp only [Option.some.injEq, Prod.mk.injEq] at H
  obtain ⟨rfl, rfl⟩ := H
  go_enter Try.func13, Try.ntmps13
  go_wp2_with (first | ((with_reducible refine gate_callee (f := 26) rfl ?_); refine goesL_ (some 11) rfl rfl Try.func26 zK rfl #[.string a1] rfl zM ?_; (with_reducible refine (utf_Runes.calls k a1 t263 t264 t265 _ A3.out).mono ?_); rintro e w12 ⟨v266, rfl, ho0, hb⟩; refine ⟨_, rfl, ?_⟩; have n_ := zI (aM (Kd.R_lower ho0 (below_size zB))) (aM (below_step zB hb)); clear HB; obtain ⟨HO267, HB⟩ := n_; (try clear hb); (try clear ho0)))
  go_ret2
  exact ⟨zE, zB⟩

/-! ### nfkc_Same: function 15, by hand (nfkc.Same.tpl) -/
section
variable {P : Program} {ops : Array Oper} {Q : Exit → Act → World → Prop}
theorem run_free {oi : Oper} {a : Act} {w : World} {x : Tmp} {f : FuncId} {fr : Array Value} {fn : Func} {xs : Array Operand} {ts : Array TypeId} (hx : a.eval (.tmp x) = .func (.func f) #[] fr) (hf : P.funcs[f]? = some fn) (hname : (fn.name == "runtime.NumGoroutine") = false) (hb : fn.body.isSome = true) (args : Array Value)
    (hop : oi.op = .call { callee := .value (.tmp x), args := xs, argTypes := ts }) (hargs : xs.map a.eval ++ fr = args) : (execOp a.eval oi).run P w = .ok (.enter f args) w := by
  have he := enters_ hf hname hb args w
  unfold execOp
  simp [hop, resolve, Deferred.ofValue, invoke, hx, hargs, he]
theorem goesLF_ {rest : List Oper} {oi : Oper} {a : Act} {w : World} (N : Option Tmp) {x : Tmp} {f : FuncId} {fr : Array Value} (hx : a.eval (.tmp x) = .func (.func f) #[] fr) (hd : oi.dst = N) (hg : oi.guard = none) {fn : Func} {xs : Array Operand} {ts : Array TypeId} (hf : P.funcs[f]? = some fn) (hname : (fn.name == "runtime.NumGoroutine") = false) (hb : fn.body.isSome = true) (args : Array Value)
    (hop : oi.op = .call { callee := .value (.tmp x), args := xs, argTypes := ts }) (hargs : xs.map a.eval ++ fr = args)
    (h : Calls P f args w fun e w' => ∃ v, e = .returned v ∧ wpList P ops Q rest (a.put N v) w') : wpList P ops Q (oi :: rest) a w := by
  refine wpList_plain hg fun K hK => ?_
  unfold Oper.wp
  rw [run_free hx hf hname hb args hop hargs, Oper.upon_enter]
  refine h.mono fun e w'' hh => ?_
  obtain ⟨v, rfl, hk⟩ := hh
  subst hd
  exact hK _ _ hk
end
def nfkc_Same.f (k : Nat) (a0 : Bool) (a1 : ByteArray) (a2 : ByteArray) : Option (Bool × Int) := (nfkc_Text.f k a0 a1).bind fun x => ((nfkc_Text.f k a0 a2).bind fun y => (some ((if x.2 = 0 then y.2 else x.2) == 0 && x.1.toList == y.1.toList, if x.2 = 0 then y.2 else x.2)))
theorem nfkc_Same.mono : ∀ a0 a1 a2 k, LeO (nfkc_Same.f k a0 a1 a2) (nfkc_Same.f (k + 1) a0 a1 a2) := by
  intro a0 a1 a2 k
  unfold nfkc_Same.f
  exact LeO.bind (nfkc_Text.mono _ _ _) (fun _ => LeO.bind (nfkc_Text.mono _ _ _) (fun _ => LeO.refl _))
set_option maxHeartbeats 8000000 in
set_option maxRecDepth 100000 in
theorem nfkc_Same.in (k : Nat) (b : Bool) (s : ByteArray) (x : Int) (gl ge : Nat) (tl te : TypeId) (r1 : ByteArray) (r2 : Int) (w0 w : World) (hl : w.heap[gl]? = some (.cells #[.bool b] tl (0, 0))) (he : w.heap[ge]? = some (.cells #[.int .i64 x] te (0, 0))) (hne : gl ≠ ge) (HB : Below w0.heap.size w0 w) (hge : w0.heap.size ≤ ge) (h : nfkc_Text.f k b s = some (r1, r2)) :
    Calls Try.prog 30 #[.string s, .pointer (some ⟨gl, 0, none⟩), .pointer (some ⟨ge, 0, none⟩)] w fun e w' => e = .returned (.string r1) ∧ w'.heap[gl]? = some (.cells #[.bool b] tl (0, 0)) ∧ w'.heap[ge]? = some (.cells #[.int .i64 (if x = 0 then r2 else x)] te (0, 0)) ∧ Below w0.heap.size w0 w' := by
  have hcl : w.cell? ⟨gl, 0, none⟩ = some (.bool b) := blk_cell hl 0
  have HS := fun (w' : World) => nfkc_Text.calls k b s r1 r2 w' h
  have key : ∀ w1 : World, Below w.heap.size w w1 → w1.heap[gl]? = some (.cells #[.bool b] tl (0, 0)) ∧ w1.heap[ge]? = some (.cells #[.int .i64 x] te (0, 0)) ∧ Below w0.heap.size w0 w1 := fun w1 hb =>
    ⟨(hb.block gl (blk_lt hl)).trans hl, (hb.block ge (blk_lt he)).trans he, below_step HB hb⟩
  have HS' := Aside0.mk HS
  have key' := Aside0.mk key
  have hge' := Aside0.mk hge
  have hne' := Aside0.mk hne
  clear HS h key hl he HB hge hne
  by_cases c3 : x = 0
  · have c3b0 : decide (x = 0) = true := decide_eq_true c3
    have c3b1 : (x == 0) = true := by simp [c3]
    subst c3
    go_enter Try.func30, Try.ntmps30
    go_wp2_with (first | ((with_reducible refine gate_callee (f := 13) rfl ?_); refine goesL_ (some 10) rfl rfl Try.func13 (by kernel_rfl) rfl #[.bool b, .string s] rfl (by (try simp only [List.map_toArray, List.map_cons, List.map_nil]); first | done | rfl) ?_; (with_reducible refine (HS'.out _).mono ?_); rintro e w1 ⟨rfl, hb⟩; refine ⟨_, rfl, ?_⟩; obtain ⟨hl1, he1, hb1⟩ := key'.out w1 hb; have hl1' := Aside0.mk hl1; have he1' := Aside0.mk he1; have hb1' := Aside0.mk hb1; have hce := (blk_cell he1 0 : w1.cell? ⟨ge, 0, none⟩ = some (.int .i64 0)); have hcf := (blk_frozen he1 0 : w1.frozen? ⟨ge, 0, none⟩ = false); clear hl1 he1 hb1 hb))
    go_ret
    exact ⟨rfl, (Below.heap_setCell w1 ⟨ge, 0, none⟩ _ gl hne'.out).trans hl1'.out, blk_set he1'.out 0 _, below_set hb1'.out hge'.out⟩
  · have c3b0 : decide (x = 0) = false := decide_eq_false c3
    have c3b1 : (x == 0) = false := by simp [c3]
    have e3 : (if x = 0 then r2 else x) = x := if_neg c3
    rw [e3]
    clear c3
    go_enter Try.func30, Try.ntmps30
    go_wp2_with (first | ((with_reducible refine gate_callee (f := 13) rfl ?_); refine goesL_ (some 10) rfl rfl Try.func13 (by kernel_rfl) rfl #[.bool b, .string s] rfl (by (try simp only [List.map_toArray, List.map_cons, List.map_nil]); first | done | rfl) ?_; (with_reducible refine (HS'.out _).mono ?_); rintro e w1 ⟨rfl, hb⟩; refine ⟨_, rfl, ?_⟩; obtain ⟨hl1, he1, hb1⟩ := key'.out w1 hb; have hl1' := Aside0.mk hl1; have he1' := Aside0.mk he1; have hb1' := Aside0.mk hb1; have hce := (blk_cell he1 0 : w1.cell? ⟨ge, 0, none⟩ = some (.int .i64 x)); clear hl1 he1 hb1 hb))
    go_ret
    exact ⟨rfl, hl1'.out, he1'.out, hb1'.out⟩

set_option maxHeartbeats 8000000 in
set_option maxRecDepth 100000 in
theorem nfkc_Same.calls (k : Nat) (a0 : Bool) (a1 : ByteArray) (a2 : ByteArray) (r1 : Bool) (r2 : Int) (w : World) (h : nfkc_Same.f k a0 a1 a2 = some (r1, r2)) :
    Calls Try.prog 15 #[.bool a0, .string a1, .string a2] w fun e w' => e = .returned (.tuple #[.bool r1, .int .i64 r2]) ∧ Below w.heap.size w w' := by
  unfold nfkc_Same.f at h
  obtain ⟨⟨x1, x2⟩, h1, h⟩ := Option.bind_eq_some_iff.mp h
  obtain ⟨⟨y1, y2⟩, h2, h⟩ := Option.bind_eq_some_iff.mp h
  simp only [Option.some.injEq, Prod.mk.injEq] at h
  obtain ⟨rfl, rfl⟩ := h
  have C1 := Aside0.mk (fun (gl ge : Nat) (w' : World) hl he hne HB hge => nfkc_Same.in k a0 a1 0 gl ge 4 29 x1 x2 w w' hl he hne HB hge h1)
  have C2 := Aside0.mk (fun (gl ge : Nat) (w' : World) hl he hne HB hge => nfkc_Same.in k a0 a2 x2 gl ge 4 29 y1 y2 w w' hl he hne HB hge h2)
  clear h1 h2
  simp only [↓reduceIte] at C1
  generalize hz : (if x2 = 0 then y2 else x2) = z at C2 ⊢
  clear hz
  by_cases c3 : z = 0
  · subst c3
    go_enter Try.func15, Try.ntmps15
    go_wp2_with (first | ((with_reducible refine gate_dst (N := 3) rfl ?_); refine box_event ?hg (N := 3) ?hd (cs := #[.bool a0]) (t := 4) ?hr ?_; (case hd => rfl); (case hg => rfl); (case hr => first | (go_simp; done) | (go_simp; rfl)); intro gl hgl w1 hbox hb; have HB1 := Aside0.mk hb; have hl1 := Aside0.mk hbox; have hg1 := Aside0.mk hgl; clear hb hbox hgl) | ((with_reducible refine gate_dst (N := 8) rfl ?_); refine box_event ?hg (N := 8) ?hd (cs := #[.int .i64 0]) (t := 29) ?hr ?_; (case hd => rfl); (case hg => rfl); (case hr => first | (go_simp; done) | (go_simp; rfl)); intro ge hge w2 hbox hb; have hne := Aside0.mk (show gl ≠ ge from by rw [hge]; exact Nat.ne_of_lt (blk_lt hl1.out)); have hgw := Aside0.mk (show w.heap.size ≤ ge from by rw [hge]; exact HB1.out.size); have HB2 := Aside0.mk (below_step HB1.out hb); have hl2 := Aside0.mk ((hb.block gl (blk_lt hl1.out)).trans hl1.out); have he2 := Aside0.mk hbox; have hc2 := (blk_cell hbox 0 : w2.cell? ⟨ge, 0, none⟩ = some (.int .i64 0)); have hf2 := (blk_frozen hbox 0 : w2.frozen? ⟨ge, 0, none⟩ = false); clear hge hbox hb))
    refine (C1.out gl ge _ ((Below.heap_setCell w2 ⟨ge, 0, none⟩ _ gl hne.out).trans hl2.out) (blk_set he2.out 0 _) hne.out (below_set HB2.out hgw.out) hgw.out).mono ?_
    rintro e w4 ⟨rfl, hl, he, hb⟩
    have hl4 := Aside0.mk hl
    have he4 := Aside0.mk he
    have HB4 := Aside0.mk hb
    clear hl he hb
    go_wp2_with (first | (with_reducible refine gate_dst (N := 99) rfl ?_))
    refine (C2.out gl ge _ hl4.out he4.out hne.out HB4.out hgw.out).mono ?_
    rintro e w5 ⟨rfl, hl, he, hb⟩
    have HB5 := Aside0.mk hb
    have hc5 := (blk_cell he 0 : w5.cell? ⟨ge, 0, none⟩ = some (.int .i64 0))
    clear hl he hb
    go_wp2
    refine start_ (n := 10) (S := fun w' => w'.cell? ⟨ge, 0, none⟩ = some (.int .i64 0)) (ds := []) #[false, false, false, false, false, false, false, false, false, false] (by kernel_rfl) rfl rfl (by exact hc5) (fun hHeld => ?_)
    have HB6 := Aside0.mk (below_drew1 HB5.out)
    generalize w5.drew = w6 at HB6 hHeld ⊢
    refine take_ (i := 0) (N := some 19) (v := .int .i64 0) (a' := ?_) #[true, false, false, false, false, false, false, false, false, false] rfl rfl (by kernel_rfl) (fun _ _ _ h => h) (Or.inl ⟨by rfl, ?_⟩) hHeld ?_ ?_
    · intro w' hs
      go_simp
      try (with_reducible rfl)
    rotate_left
    · simp only [Act.put, List.setIfInBounds_toArray, List.set_cons_zero, List.set_cons_succ, i64_w, i32_w]
      rfl
    refine pure_ (i := 1) (N := some 20) (v := ?_) (a' := ?_) #[true, true, false, false, false, false, false, false, false, false] rfl rfl (by kernel_rfl) (fun _ _ _ h => h) (Or.inl ⟨by rfl, ?_⟩) ?_ ?_
    rotate_left
    · intro w'
      go_simp
      with_reducible rfl
    rotate_left
    · simp only [Act.put, List.setIfInBounds_toArray, List.set_cons_zero, List.set_cons_succ, i64_w, i32_w]
      rfl
    refine pure_ (i := 2) (N := some 21) (v := ?_) (a' := ?_) #[true, true, true, false, false, false, false, false, false, false] rfl rfl (by kernel_rfl) (fun _ _ _ h => h) (Or.inl ⟨by rfl, ?_⟩) ?_ ?_
    rotate_left
    · intro w'
      go_simp
      with_reducible rfl
    rotate_left
    · simp only [Act.put, List.setIfInBounds_toArray, List.set_cons_zero, List.set_cons_succ, i64_w, i32_w]
      rfl
    refine pure_ (i := 3) (N := some 22) (v := ?_) (a' := ?_) #[true, true, true, true, false, false, false, false, false, false] rfl rfl (by kernel_rfl) (fun _ _ _ h => h) (Or.inl ⟨by rfl, ?_⟩) ?_ ?_
    rotate_left
    · intro w'
      go_simp
      with_reducible rfl
    rotate_left
    · simp only [Act.put, List.setIfInBounds_toArray, List.set_cons_zero, List.set_cons_succ, i64_w, i32_w]
      rfl
    refine pure_ (i := 4) (N := some 23) (v := ?_) (a' := ?_) #[true, true, true, true, true, false, false, false, false, false] rfl rfl (by kernel_rfl) (fun _ _ _ h => h) (Or.inl ⟨by rfl, ?_⟩) ?_ ?_
    rotate_left
    · intro w'
      go_simp
      with_reducible rfl
    rotate_left
    · simp only [Act.put, List.setIfInBounds_toArray, List.set_cons_zero, List.set_cons_succ, i64_w, i32_w]
      rfl
    refine pure_ (i := 5) (N := some 24) (v := ?_) (a' := ?_) #[true, true, true, true, true, true, false, false, false, false] rfl rfl (by kernel_rfl) (fun _ _ _ h => h) (Or.inl ⟨by rfl, ?_⟩) ?_ ?_
    rotate_left
    · intro w'
      go_simp
      with_reducible rfl
    rotate_left
    · simp only [Act.put, List.setIfInBounds_toArray, List.set_cons_zero, List.set_cons_succ, i64_w, i32_w]
      rfl
    refine pure_ (i := 6) (N := some 25) (v := ?_) (a' := ?_) #[true, true, true, true, true, true, true, false, false, false] rfl rfl (by kernel_rfl) (fun _ _ _ h => h) (Or.inl ⟨by rfl, ?_⟩) ?_ ?_
    rotate_left
    · intro w'
      go_simp
      with_reducible rfl
    rotate_left
    · simp only [Act.put, List.setIfInBounds_toArray, List.set_cons_zero, List.set_cons_succ, i64_w, i32_w]
      rfl
    refine take_ (i := 7) (N := some 26) (v := .int .i64 0) (a' := ?_) #[true, true, true, true, true, true, true, true, false, false] rfl rfl (by kernel_rfl) (fun _ _ _ h => h) (Or.inl ⟨by rfl, ?_⟩) hHeld ?_ ?_
    · intro w' hs
      go_simp
      try (with_reducible rfl)
    rotate_left
    · simp only [Act.put, List.setIfInBounds_toArray, List.set_cons_zero, List.set_cons_succ, i64_w, i32_w]
      rfl
    refine pure_ (i := 8) (N := some 6) (v := ?_) (a' := ?_) #[true, true, true, true, true, true, true, true, true, false] rfl rfl (by kernel_rfl) (fun _ _ _ h => h) (Or.inl ⟨by rfl, ?_⟩) ?_ ?_
    rotate_left
    · intro w'
      go_simp
      with_reducible rfl
    rotate_left
    · simp only [Act.put, List.setIfInBounds_toArray, List.set_cons_zero, List.set_cons_succ, i64_w, i32_w]
      rfl
    refine pure_ (i := 9) (N := some 7) (v := ?_) (a' := ?_) #[true, true, true, true, true, true, true, true, true, true] rfl rfl (by kernel_rfl) (fun _ _ _ h => h) (Or.inl ⟨by rfl, ?_⟩) ?_ ?_
    rotate_left
    · intro w'
      go_simp
      with_reducible rfl
    rotate_left
    · simp only [Act.put, List.setIfInBounds_toArray, List.set_cons_zero, List.set_cons_succ, i64_w, i32_w]
      rfl
    refine done_ (by kernel_rfl) ?_
    go_wp2
    go_ret2
    exact ⟨by first | rfl | (simp; done) | (simp [*]; done), HB6.out⟩
  · have c3b0 : decide (z = 0) = false := decide_eq_false c3
    have c3b1 : (z == 0) = false := by simp [c3]
    clear c3
    go_enter Try.func15, Try.ntmps15
    go_wp2_with (first | ((with_reducible refine gate_dst (N := 3) rfl ?_); refine box_event ?hg (N := 3) ?hd (cs := #[.bool a0]) (t := 4) ?hr ?_; (case hd => rfl); (case hg => rfl); (case hr => first | (go_simp; done) | (go_simp; rfl)); intro gl hgl w1 hbox hb; have HB1 := Aside0.mk hb; have hl1 := Aside0.mk hbox; have hg1 := Aside0.mk hgl; clear hb hbox hgl) | ((with_reducible refine gate_dst (N := 8) rfl ?_); refine box_event ?hg (N := 8) ?hd (cs := #[.int .i64 0]) (t := 29) ?hr ?_; (case hd => rfl); (case hg => rfl); (case hr => first | (go_simp; done) | (go_simp; rfl)); intro ge hge w2 hbox hb; have hne := Aside0.mk (show gl ≠ ge from by rw [hge]; exact Nat.ne_of_lt (blk_lt hl1.out)); have hgw := Aside0.mk (show w.heap.size ≤ ge from by rw [hge]; exact HB1.out.size); have HB2 := Aside0.mk (below_step HB1.out hb); have hl2 := Aside0.mk ((hb.block gl (blk_lt hl1.out)).trans hl1.out); have he2 := Aside0.mk hbox; have hc2 := (blk_cell hbox 0 : w2.cell? ⟨ge, 0, none⟩ = some (.int .i64 0)); have hf2 := (blk_frozen hbox 0 : w2.frozen? ⟨ge, 0, none⟩ = false); clear hge hbox hb))
    refine (C1.out gl ge _ ((Below.heap_setCell w2 ⟨ge, 0, none⟩ _ gl hne.out).trans hl2.out) (blk_set he2.out 0 _) hne.out (below_set HB2.out hgw.out) hgw.out).mono ?_
    rintro e w4 ⟨rfl, hl, he, hb⟩
    have hl4 := Aside0.mk hl
    have he4 := Aside0.mk he
    have HB4 := Aside0.mk hb
    clear hl he hb
    go_wp2_with (first | (with_reducible refine gate_dst (N := 99) rfl ?_))
    refine (C2.out gl ge _ hl4.out he4.out hne.out HB4.out hgw.out).mono ?_
    rintro e w5 ⟨rfl, hl, he, hb⟩
    have HB5 := Aside0.mk hb
    have hc5 := (blk_cell he 0 : w5.cell? ⟨ge, 0, none⟩ = some (.int .i64 z))
    clear hl he hb
    go_wp2
    refine start_ (n := 10) (S := fun w' => w'.cell? ⟨ge, 0, none⟩ = some (.int .i64 z)) (ds := []) #[false, false, false, false, false, false, false, false, false, false] (by kernel_rfl) rfl rfl (by exact hc5) (fun hHeld => ?_)
    have HB6 := Aside0.mk (below_drew1 HB5.out)
    generalize w5.drew = w6 at HB6 hHeld ⊢
    refine take_ (i := 0) (N := some 19) (v := .int .i64 z) (a' := ?_) #[true, false, false, false, false, false, false, false, false, false] rfl rfl (by kernel_rfl) (fun _ _ _ h => h) (Or.inl ⟨by rfl, ?_⟩) hHeld ?_ ?_
    · intro w' hs
      go_simp
      try (with_reducible rfl)
    rotate_left
    · simp only [Act.put, List.setIfInBounds_toArray, List.set_cons_zero, List.set_cons_succ, i64_w, i32_w]
      rfl
    refine pure_ (i := 1) (N := some 20) (v := ?_) (a' := ?_) #[true, true, false, false, false, false, false, false, false, false] rfl rfl (by kernel_rfl) (fun _ _ _ h => h) (Or.inl ⟨by rfl, ?_⟩) ?_ ?_
    rotate_left
    · intro w'
      go_simp
      with_reducible rfl
    rotate_left
    · simp only [Act.put, List.setIfInBounds_toArray, List.set_cons_zero, List.set_cons_succ, i64_w, i32_w]
      rfl
    refine pure_ (i := 2) (N := some 21) (v := ?_) (a' := ?_) #[true, true, true, false, false, false, false, false, false, false] rfl rfl (by kernel_rfl) (fun _ _ _ h => h) (Or.inl ⟨by rfl, ?_⟩) ?_ ?_
    rotate_left
    · intro w'
      go_simp
      with_reducible rfl
    rotate_left
    · simp only [Act.put, List.setIfInBounds_toArray, List.set_cons_zero, List.set_cons_succ, i64_w, i32_w]
      rfl
    refine pure_ (i := 3) (N := some 22) (v := undef) (a' := ?_) #[true, true, true, true, false, false, false, false, false, false] rfl rfl (by kernel_rfl) (fun _ _ _ h => h) (Or.inr ⟨by rfl, rfl⟩) ?_ ?_
    rotate_left
    · simp only [Act.put, List.setIfInBounds_toArray, List.set_cons_zero, List.set_cons_succ, i64_w, i32_w]
      rfl
    refine pure_ (i := 4) (N := some 23) (v := undef) (a' := ?_) #[true, true, true, true, true, false, false, false, false, false] rfl rfl (by kernel_rfl) (fun _ _ _ h => h) (Or.inr ⟨by rfl, rfl⟩) ?_ ?_
    rotate_left
    · simp only [Act.put, List.setIfInBounds_toArray, List.set_cons_zero, List.set_cons_succ, i64_w, i32_w]
      rfl
    refine pure_ (i := 5) (N := some 24) (v := undef) (a' := ?_) #[true, true, true, true, true, true, false, false, false, false] rfl rfl (by kernel_rfl) (fun _ _ _ h => h) (Or.inr ⟨by rfl, rfl⟩) ?_ ?_
    rotate_left
    · simp only [Act.put, List.setIfInBounds_toArray, List.set_cons_zero, List.set_cons_succ, i64_w, i32_w]
      rfl
    refine pure_ (i := 6) (N := some 25) (v := ?_) (a' := ?_) #[true, true, true, true, true, true, true, false, false, false] rfl rfl (by kernel_rfl) (fun _ _ _ h => h) (Or.inl ⟨by rfl, ?_⟩) ?_ ?_
    rotate_left
    · intro w'
      go_simp
      with_reducible rfl
    rotate_left
    · simp only [Act.put, List.setIfInBounds_toArray, List.set_cons_zero, List.set_cons_succ, i64_w, i32_w]
      rfl
    refine take_ (i := 7) (N := some 26) (v := .int .i64 z) (a' := ?_) #[true, true, true, true, true, true, true, true, false, false] rfl rfl (by kernel_rfl) (fun _ _ _ h => h) (Or.inl ⟨by rfl, ?_⟩) hHeld ?_ ?_
    · intro w' hs
      go_simp
      try (with_reducible rfl)
    rotate_left
    · simp only [Act.put, List.setIfInBounds_toArray, List.set_cons_zero, List.set_cons_succ, i64_w, i32_w]
      rfl
    refine pure_ (i := 8) (N := some 6) (v := ?_) (a' := ?_) #[true, true, true, true, true, true, true, true, true, false] rfl rfl (by kernel_rfl) (fun _ _ _ h => h) (Or.inl ⟨by rfl, ?_⟩) ?_ ?_
    rotate_left
    · intro w'
      go_simp
      with_reducible rfl
    rotate_left
    · simp only [Act.put, List.setIfInBounds_toArray, List.set_cons_zero, List.set_cons_succ, i64_w, i32_w]
      rfl
    refine pure_ (i := 9) (N := some 7) (v := ?_) (a' := ?_) #[true, true, true, true, true, true, true, true, true, true] rfl rfl (by kernel_rfl) (fun _ _ _ h => h) (Or.inl ⟨by rfl, ?_⟩) ?_ ?_
    rotate_left
    · intro w'
      go_simp
      with_reducible rfl
    rotate_left
    · simp only [Act.put, List.setIfInBounds_toArray, List.set_cons_zero, List.set_cons_succ, i64_w, i32_w]
      rfl
    refine done_ (by kernel_rfl) ?_
    go_wp2
    go_ret2
    exact ⟨by first | rfl | (simp; done) | (simp [*]; done), HB6.out⟩

/-! ### toponymlaw08_awake: function 8 -/
def toponymlaw08_awake.f (k : Nat)  : Option (Bool) := (nfkc_Text.f k true (⟨#[239, 172, 129, 97, 204, 129]⟩ : ByteArray)).bind fun bt273 => ((nfkc_Text.f k false (⟨#[239, 172, 129, 97, 204, 129]⟩ : ByteArray)).bind fun bt275 => ((nfkc_Same.f k true (⟨#[226, 132, 171]⟩ : ByteArray) (⟨#[65, 204, 138]⟩ : ByteArray)).bind fun bt277 => ((nfkc_Text.f k true (⟨#[255]⟩ : ByteArray)).bind fun bt279 => (if bt273.1.toList = ([102, 105, 195, 161] : List UInt8) then (if bt273.2 = 0 then (if bt275.1.toList = ([239, 172, 129, 195, 161] : List UInt8) then (if bt275.2 = 0 then (if bt277.1 = true then (if bt277.2 = 0 then (if bt279.2 = 10 then ((nfkc_Is.f k true (([97] : List Int))).bind fun t284 => (if t284 = true then ((nfkc_Is.f k false (([97, 769] : List Int))).bind fun t288 => (some (!t288))) else (some false))) else (some false)) else (some false)) else (some false)) else (some false)) else (some false)) else (some false)) else (some false)))))
theorem toponymlaw08_awake.mono : ∀ k, LeO (toponymlaw08_awake.f k ) (toponymlaw08_awake.f (k + 1) ) := by
 intro  k
 unfold toponymlaw08_awake.f
 repeat' first
   | (with_reducible exact nfkc_Is.mono _ _ _)
   | (with_reducible exact nfkc_Same.mono _ _ _ _)
   | (with_reducible exact nfkc_Text.mono _ _ _)
   | (with_reducible exact LeO.refl _)
   | exact nfkc_Is.mono _ _ _
   | exact nfkc_Same.mono _ _ _ _
   | exact nfkc_Text.mono _ _ _
   | exact LeO.none _
   | refine LeO.ite ?_ ?_
   | refine LeO.bind ?_ (fun _ => ?_)
set_option maxHeartbeats 8000000 in
set_option maxRecDepth 100000 in
theorem toponymlaw08_awake.calls (k : Nat)  (r : Bool) (w : World) (h : toponymlaw08_awake.f k  = some r) :
  Calls Try.prog 8 #[] w fun e w' => e = .returned (.bool r) ∧ Below w.heap.size w w' := by
 have hT := aM (yes_of toponymlaw08_awake.mono (n := 100) (by decide +kernel) h)
 have HB := aM (Below.refl w.heap.size w)
 have H : ((nfkc_Text.f k true (⟨#[239, 172, 129, 97, 204, 129]⟩ : ByteArray)).bind fun bt273 => ((nfkc_Text.f k false (⟨#[239, 172, 129, 97, 204, 129]⟩ : ByteArray)).bind fun bt275 => ((nfkc_Same.f k true (⟨#[226, 132, 171]⟩ : ByteArray) (⟨#[65, 204, 138]⟩ : ByteArray)).bind fun bt277 => ((nfkc_Text.f k true (⟨#[255]⟩ : ByteArray)).bind fun bt279 => (if bt273.1.toList = ([102, 105, 195, 161] : List UInt8) then (if bt273.2 = 0 then (if bt275.1.toList = ([239, 172, 129, 195, 161] : List UInt8) then (if bt275.2 = 0 then (if bt277.1 = true then (if bt277.2 = 0 then (if bt279.2 = 10 then ((nfkc_Is.f k true (([97] : List Int))).bind fun t284 => (if t284 = true then ((nfkc_Is.f k false (([97, 769] : List Int))).bind fun t288 => (some (!t288))) else (some false))) else (some false)) else (some false)) else (some false)) else (some false)) else (some false)) else (some false)) else (some false)))))) = some r := h
 clear h
 obtain ⟨⟨t273, t274⟩, A1, H⟩ := zO H
 try dsimp only at H
 obtain ⟨⟨t275, t276⟩, A2, H⟩ := zO H
 try dsimp only at H
 obtain ⟨⟨t277, t278⟩, A3, H⟩ := zO H
 try dsimp only at H
 obtain ⟨⟨t279, t280⟩, A4, H⟩ := zO H
 try dsimp only at H
 by_cases c5 : t273.toList = ([102, 105, 195, 161] : List UInt8)
 ·rw [if_pos c5] at H
  have c5b0 : (t273.toList == ([102, 105, 195, 161] : List UInt8)) = true := beq_iff_eq.mpr c5
  have c5b1 : (t273.toList != ([102, 105, 195, 161] : List UInt8)) = false := bne_eq_false_iff_eq.mpr c5
  clear c5
  by_cases c6 : t274 = 0
  ·rw [if_pos c6] at H
   have c6b0 : (t274 == 0) = true := beq_iff_eq.mpr c6
   have c6b1 : (t274 != 0) = false := bne_eq_false_iff_eq.mpr c6
   clear c6
   by_cases c7 : t275.toList = ([239, 172, 129, 195, 161] : List UInt8)
   ·rw [if_pos c7] at H
    have c7b0 : (t275.toList == ([239, 172, 129, 195, 161] : List UInt8)) = true := beq_iff_eq.mpr c7
    have c7b1 : (t275.toList != ([239, 172, 129, 195, 161] : List UInt8)) = false := bne_eq_false_iff_eq.mpr c7
    clear c7
    by_cases c8 : t276 = 0
    ·rw [if_pos c8] at H
     have c8b0 : (t276 == 0) = true := beq_iff_eq.mpr c8
     have c8b1 : (t276 != 0) = false := bne_eq_false_iff_eq.mpr c8
     clear c8
     by_cases c9 : t277 = true
     ·subst c9
      rw [if_pos rfl] at H
      by_cases c10 : t278 = 0
      ·rw [if_pos c10] at H
       have c10b0 : (t278 == 0) = true := beq_iff_eq.mpr c10
       have c10b1 : (t278 != 0) = false := bne_eq_false_iff_eq.mpr c10
       clear c10
       by_cases c11 : t280 = 10
       ·rw [if_pos c11] at H
        have c11b0 : (t280 == 10) = true := beq_iff_eq.mpr c11
        have c11b1 : (t280 != 10) = false := bne_eq_false_iff_eq.mpr c11
        clear c11
        obtain ⟨y281, hy281⟩ : ∃ y_ : List Int, y_ = (([97] : List Int)) := ⟨_, rfl⟩
        replace H : ((nfkc_Is.f k true y281).bind fun t284 => (if t284 = true then ((nfkc_Is.f k false (([97, 769] : List Int))).bind fun t288 => (some (!t288))) else (some false))) = some r := zY hy281 H
        have Ny281 := aM hy281
        clear hy281
        obtain ⟨t284, A12, H⟩ := zO H
        by_cases c13 : t284 = true
        ·subst c13
         rw [if_pos rfl] at H
         obtain ⟨y285, hy285⟩ : ∃ y_ : List Int, y_ = (([97, 769] : List Int)) := ⟨_, rfl⟩
         replace H : ((nfkc_Is.f k false y285).bind fun t288 => (some (!t288))) = some r := zY hy285 H
         have Ny285 := aM hy285
         clear hy285
         obtain ⟨t288, A14, H⟩ := zO H
         obtain rfl := sI H
         go_enter Try.func8, Try.ntmps8
         go_wp2_with (first | ((with_reducible refine gate_callee (f := 13) rfl ?_); refine goesL_ (some 10) rfl rfl Try.func13 zK rfl #[.bool true, .string (⟨#[239, 172, 129, 97, 204, 129]⟩ : ByteArray)] rfl zM ?_; (with_reducible refine (nfkc_Text.calls k true (⟨#[239, 172, 129, 97, 204, 129]⟩ : ByteArray) t273 t274 _ A1.out).mono ?_); rintro e w15 ⟨rfl, hb⟩; (try clear A1); refine ⟨_, rfl, ?_⟩; replace HB := aM (below_step zB hb); (try clear hb); (try clear hk)) | ((with_reducible refine gate_callee (f := 13) rfl ?_); refine goesL_ (some 14) rfl rfl Try.func13 zK rfl #[.bool false, .string (⟨#[239, 172, 129, 97, 204, 129]⟩ : ByteArray)] rfl zM ?_; (with_reducible refine (nfkc_Text.calls k false (⟨#[239, 172, 129, 97, 204, 129]⟩ : ByteArray) t275 t276 _ A2.out).mono ?_); rintro e w16 ⟨rfl, hb⟩; (try clear A2); refine ⟨_, rfl, ?_⟩; replace HB := aM (below_step zB hb); (try clear hb); (try clear hk)) | ((with_reducible refine gate_callee (f := 15) rfl ?_); refine goesL_ (some 18) rfl rfl Try.func15 zK rfl #[.bool true, .string (⟨#[226, 132, 171]⟩ : ByteArray), .string (⟨#[65, 204, 138]⟩ : ByteArray)] rfl zM ?_; (with_reducible refine (nfkc_Same.calls k true (⟨#[226, 132, 171]⟩ : ByteArray) (⟨#[65, 204, 138]⟩ : ByteArray) true t278 _ A3.out).mono ?_); rintro e w17 ⟨rfl, hb⟩; refine ⟨_, rfl, ?_⟩; replace HB := aM (below_step zB hb); (try clear hb); (try clear hk)) | ((with_reducible refine gate_callee (f := 13) rfl ?_); refine goesL_ (some 22) rfl rfl Try.func13 zK rfl #[.bool true, .string (⟨#[255]⟩ : ByteArray)] rfl zM ?_; (with_reducible refine (nfkc_Text.calls k true (⟨#[255]⟩ : ByteArray) t279 t280 _ A4.out).mono ?_); rintro e w18 ⟨rfl, hb⟩; (try clear A4); refine ⟨_, rfl, ?_⟩; replace HB := aM (below_step zB hb); (try clear hb); (try clear hk)) | ((with_reducible refine gate_dst (N := 51) rfl ?_); (try (refine gate_guard (by rfl) ?_; dsimp only)); refine Kd.R_lit (Kd.int .i32) _ 21 ?hg (N := 51) ?hd (xs := ([97] : List Int)) (inner := [.int .i32 97]) (ok := fun _ => True) (okp := fun _ => True) ?hr ?hp (fun _ hk => hk) trivial (Below.refl _ _) (Nat.le_refl _) (by simp) ?_; (case hd => rfl); (case hg => rfl); (case hr => first | (go_simp; done) | (go_simp; rfl)); (case hp => exact (Reps.one (show Kd.M (Kd.int .i32) _ _ _ 97 [.int .i32 97] from rfl) (Reps.none _ _))); intro v282 w19 ho20 hb hg_ hnew_; clear hg_ hnew_; (first | rw [← Ny281.out] at ho20 | (simp only [Int.reduceToNat] at ho20; rw [← Ny281.out] at ho20)); have n_ := zI (aM (Kd.R_lower ho20 (below_size zB))) (aM (below_step zB hb)); clear HB; obtain ⟨HO283, HB⟩ := n_; clear hb ho20; obtain ⟨Ao21, co21, rfl⟩ := Kd.R_slice HO283.out) | (go_at_call 12; (with_reducible refine (nfkc_Is.calls k true _ _ y281 true _ ?side1 ?side2 A12.out).mono ?_); (case side1 => exact zC (Kd.R_reads' HO283.out).2.2); (case side2 => exact (Kd.R_reads' HO283.out).2.1); rintro e w22 ⟨rfl, hb⟩; (try clear A12); have n_ := zI (aM (Kd.R_below (zR HO283) hb)) (aM (below_step zB hb)); clear HO283 HB; obtain ⟨HO283, HB⟩ := n_; (try clear hb); (try clear hk)) | ((with_reducible refine gate_dst (N := 55) rfl ?_); (try (refine gate_guard (by rfl) ?_; dsimp only)); refine Kd.R_lit (Kd.int .i32) _ 21 ?hg (N := 55) ?hd (xs := ([97, 769] : List Int)) (inner := [.int .i32 97, .int .i32 769]) (ok := fun _ => True) (okp := fun _ => True) ?hr ?hp (fun _ hk => hk) trivial (Below.refl _ _) (Nat.le_refl _) (by simp) ?_; (case hd => rfl); (case hg => rfl); (case hr => first | (go_simp; done) | (go_simp; rfl)); (case hp => exact (Reps.one (show Kd.M (Kd.int .i32) _ _ _ 97 [.int .i32 97] from rfl) (Reps.one (show Kd.M (Kd.int .i32) _ _ _ 769 [.int .i32 769] from rfl) (Reps.none _ _)))); intro v286 w23 ho24 hb hg_ hnew_; clear hg_ hnew_; (first | rw [← Ny285.out] at ho24 | (simp only [Int.reduceToNat] at ho24; rw [← Ny285.out] at ho24)); have n_ := zI (aM (Kd.R_elder' (zR HO283) (Kd.R_base ho24) hb)) (zI (aM (Kd.R_lower (Kd.R_new' ho24 (Kd.R_lt (zR HO283))) (below_size zB))) (aM (below_step zB hb))); clear HO283 HB; obtain ⟨HO283, HO287, HB⟩ := n_; clear hb ho24; obtain ⟨Ao25, co25, rfl⟩ := Kd.R_slice HO287.out) | (go_at_call 12; (with_reducible refine (nfkc_Is.calls k false _ _ y285 t288 _ ?side1 ?side2 A14.out).mono ?_); (case side1 => exact zC (Kd.R_reads' HO287.out).2.2); (case side2 => exact (Kd.R_reads' HO287.out).2.1); rintro e w26 ⟨rfl, hb⟩; (try clear A14); have n_ := zI (aM (Kd.R_below (zR HO283) hb)) (zI (aM (Kd.R_below (zR HO287) hb)) (aM (below_step zB hb))); clear HO283 HO287 HB; obtain ⟨HO283, HO287, HB⟩ := n_; (try clear hb); (try clear hk)))
         go_ret
         exact ⟨zE, zB⟩
        ·replace c13 := Bool.eq_false_iff.mpr c13
         subst c13
         rw [if_neg (show ¬ (false = true) by decide)] at H
         exact absurd ((sI H).trans hT.out) (by decide)
       ·rw [if_neg c11] at H
        exact absurd ((sI H).trans hT.out) (by decide)
      ·rw [if_neg c10] at H
       exact absurd ((sI H).trans hT.out) (by decide)
     ·replace c9 := Bool.eq_false_iff.mpr c9
      subst c9
      rw [if_neg (show ¬ (false = true) by decide)] at H
      exact absurd ((sI H).trans hT.out) (by decide)
    ·rw [if_neg c8] at H
     exact absurd ((sI H).trans hT.out) (by decide)
   ·rw [if_neg c7] at H
    exact absurd ((sI H).trans hT.out) (by decide)
  ·rw [if_neg c6] at H
   exact absurd ((sI H).trans hT.out) (by decide)
 ·rw [if_neg c5] at H
  exact absurd ((sI H).trans hT.out) (by decide)
end Go.Proofs.Ytpihglokjcbjkaa.P
