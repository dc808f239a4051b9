-- Printed by wip/mk.py (this session's driver over the kit's print) and from wip/manual.
import Derived.Test.YtbffakgmlgimeaaP0
namespace Go.Proofs.Ytbffakgmlgimeaa.P
open Go.RowKit Go.Proofs.YtbffakgmlgimeaaW.PrintWords Go.Proofs.YtbffakgmlgimeaaW.PrintLast Go.Proofs.YtbffakgmlgimeaaW.PrintMore
attribute [local go_sem] max2_int min2_int max_two min_two max_three min_three max_four min_four   -- for this text's walks alone
set_option linter.unusedVariables false
set_option linter.unusedSimpArgs false

/-! ### prep_known: function 14 -/
def prep_known.f (a0 : Int) : Option (Bool) := if a0 ≥ 1 then (some (decide (a0 ≤ 4))) else (some false)
set_option maxHeartbeats 8000000 in
set_option maxRecDepth 100000 in
theorem prep_known.calls (a0 : Int) (r : Bool) (w : World) (h : prep_known.f a0 = some r) :
  Calls Try.prog 14 #[.int .i64 a0] w fun e w' => e = .returned (.bool r) ∧ Drawn0 w w' := by
 have H := h
 clear h
 unfold prep_known.f at H
 by_cases c2 : a0 ≥ 1
 ·rw [if_pos c2] at H
  have c2b0 : decide (1 ≤ a0) = true := decide_eq_true c2
  clear c2
  obtain rfl := sI H
  go_enter Try.func14, Try.ntmps14
  go_wp2
  go_ret
  exact ⟨zP, zD⟩
 ·rw [if_neg c2] at H
  have c2b0 : decide (1 ≤ a0) = false := decide_eq_false c2
  clear c2
  obtain rfl := sI H
  go_enter Try.func14, Try.ntmps14
  go_wp2
  go_ret
  exact ⟨zP, zD⟩

/-! ### utf_Point: function 44 -/
def utf_Point.f (a0 : Int) : Option (Bool) := if a0 ≥ 0 then (if a0 ≤ 1114111 then (if a0 < 55296 then (some true) else (some (decide (a0 > 57343)))) else (some false)) else (some false)
set_option maxHeartbeats 8000000 in
set_option maxRecDepth 100000 in
theorem utf_Point.calls (a0 : Int) (r : Bool) (w : World) (h : utf_Point.f a0 = some r) :
  Calls Try.prog 44 #[.int .i32 a0] w fun e w' => e = .returned (.bool r) ∧ Drawn0 w w' := by
 have H := h
 clear h
 unfold utf_Point.f at H
 by_cases c2 : a0 ≥ 0
 ·rw [if_pos c2] at H
  have c2b0 : decide (0 ≤ a0) = true := decide_eq_true c2
  clear c2
  by_cases c3 : a0 ≤ 1114111
  ·rw [if_pos c3] at H
   have c3b0 : decide (a0 ≤ 1114111) = true := decide_eq_true c3
   clear c3
   by_cases c4 : a0 < 55296
   ·rw [if_pos c4] at H
    have c4b0 : decide (a0 < 55296) = true := decide_eq_true c4
    clear c4
    obtain rfl := sI H
    go_enter Try.func44, Try.ntmps44
    go_wp2
    go_ret
    exact ⟨zP, zD⟩
   ·rw [if_neg c4] at H
    have c4b0 : decide (a0 < 55296) = false := decide_eq_false c4
    clear c4
    obtain rfl := sI H
    go_enter Try.func44, Try.ntmps44
    go_wp2
    go_ret
    exact ⟨zP, zD⟩
  ·rw [if_neg c3] at H
   have c3b0 : decide (a0 ≤ 1114111) = false := decide_eq_false c3
   clear c3
   obtain rfl := sI H
   go_enter Try.func44, Try.ntmps44
   go_wp2
   go_ret
   exact ⟨zP, zD⟩
 ·rw [if_neg c2] at H
  have c2b0 : decide (0 ≤ a0) = false := decide_eq_false c2
  clear c2
  obtain rfl := sI H
  go_enter Try.func44, Try.ntmps44
  go_wp2
  go_ret
  exact ⟨zP, zD⟩

/-! ### utf_Length: function 26 -/
def utf_Length.f (a0 : Int) : Option (Int) := (utf_Point.f a0).bind fun t101 => (if t101 = true then (if a0 < 128 then (some 1) else (if a0 < 2048 then (some 2) else (if a0 < 65536 then (some 3) else (some 4)))) else (some 0))
set_option maxHeartbeats 8000000 in
set_option maxRecDepth 100000 in
theorem utf_Length.calls (a0 : Int) (r : Int) (w : World) (h : utf_Length.f a0 = some r) :
  Calls Try.prog 26 #[.int .i32 a0] w fun e w' => e = .returned (.int .i64 r) ∧ Drawn0 w w' := by
 have H := h
 clear h
 unfold utf_Length.f at H
 obtain ⟨t101, A2, H⟩ := zO H
 by_cases c3 : t101 = true
 ·subst c3
  rw [if_pos rfl] at H
  by_cases c4 : a0 < 128
  ·rw [if_pos c4] at H
   have c4b0 : decide (a0 < 128) = true := decide_eq_true c4
   clear c4
   obtain rfl := sI H
   go_enter Try.func26, Try.ntmps26
   go_wp2_with (first | ((with_reducible refine gate_callee (f := 44) rfl ?_); refine goesL_ (some 5) rfl rfl Try.func44 zK rfl #[.int .i32 a0] rfl zM ?_; (with_reducible refine (utf_Point.calls a0 true _ A2.out).mono ?_); rintro e w' ⟨rfl, ⟨nd, rfl⟩⟩; refine ⟨_, rfl, ?_⟩))
   go_ret
   exact ⟨zP, zD⟩
  ·rw [if_neg c4] at H
   have c4b0 : decide (a0 < 128) = false := decide_eq_false c4
   clear c4
   by_cases c5 : a0 < 2048
   ·rw [if_pos c5] at H
    have c5b0 : decide (a0 < 2048) = true := decide_eq_true c5
    clear c5
    obtain rfl := sI H
    go_enter Try.func26, Try.ntmps26
    go_wp2_with (first | ((with_reducible refine gate_callee (f := 44) rfl ?_); refine goesL_ (some 5) rfl rfl Try.func44 zK rfl #[.int .i32 a0] rfl zM ?_; (with_reducible refine (utf_Point.calls a0 true _ A2.out).mono ?_); rintro e w' ⟨rfl, ⟨nd, rfl⟩⟩; refine ⟨_, rfl, ?_⟩))
    go_ret
    exact ⟨zP, zD⟩
   ·rw [if_neg c5] at H
    have c5b0 : decide (a0 < 2048) = false := decide_eq_false c5
    clear c5
    by_cases c6 : a0 < 65536
    ·rw [if_pos c6] at H
     have c6b0 : decide (a0 < 65536) = true := decide_eq_true c6
     clear c6
     obtain rfl := sI H
     go_enter Try.func26, Try.ntmps26
     go_wp2_with (first | ((with_reducible refine gate_callee (f := 44) rfl ?_); refine goesL_ (some 5) rfl rfl Try.func44 zK rfl #[.int .i32 a0] rfl zM ?_; (with_reducible refine (utf_Point.calls a0 true _ A2.out).mono ?_); rintro e w' ⟨rfl, ⟨nd, rfl⟩⟩; refine ⟨_, rfl, ?_⟩))
     go_ret
     exact ⟨zP, zD⟩
    ·rw [if_neg c6] at H
     have c6b0 : decide (a0 < 65536) = false := decide_eq_false c6
     clear c6
     obtain rfl := sI H
     go_enter Try.func26, Try.ntmps26
     go_wp2_with (first | ((with_reducible refine gate_callee (f := 44) rfl ?_); refine goesL_ (some 5) rfl rfl Try.func44 zK rfl #[.int .i32 a0] rfl zM ?_; (with_reducible refine (utf_Point.calls a0 true _ A2.out).mono ?_); rintro e w' ⟨rfl, ⟨nd, rfl⟩⟩; refine ⟨_, rfl, ?_⟩))
     go_ret
     exact ⟨zP, zD⟩
 ·replace c3 := Bool.eq_false_iff.mpr c3
  subst c3
  rw [if_neg (show ¬ (false = true) by decide)] at H
  obtain rfl := sI H
  go_enter Try.func26, Try.ntmps26
  go_wp2_with (first | ((with_reducible refine gate_callee (f := 44) rfl ?_); refine goesL_ (some 5) rfl rfl Try.func44 zK rfl #[.int .i32 a0] rfl zM ?_; (with_reducible refine (utf_Point.calls a0 false _ A2.out).mono ?_); rintro e w' ⟨rfl, ⟨nd, rfl⟩⟩; refine ⟨_, rfl, ?_⟩))
  go_ret
  exact ⟨zP, zD⟩

/-! ### utf_Decode: function 21, by hand (utf.Decode.tpl) -/
def utf_Decode.l0 : Nat → ByteArray → Int → Int → Int → Int → Option (Int × Int × Int)
  | 0, _, _, _, _, _ => none
  | k + 1, x0, x1, x7, x8, x10 => if x10 < x8 then (if 0 ≤ wrap64 (x1 + x10) then (if wrap64 (x1 + x10) < (x0.size : Int) then (if bt x0 (wrap64 (x1 + x10)) / 64 = 2 then utf_Decode.l0 k x0 x1 (Go.bits .or .i32 (wrap32 (x7 * 64)) (bt x0 (wrap64 (x1 + x10)) % 64)) x8 (wrap64 (x10 + 1)) else some (0, 0, 10)) else none) else none) else ((utf_Length.f x7).bind fun t => if t = x8 then some (x7, wrap64 (x1 + x8), 0) else some (0, 0, 10))
def utf_Decode.f (k : Nat) (a0 : ByteArray) (a1 : Int) : Option (Int × Int × Int) :=
  if a1 < 0 then some (0, 0, 2) else if a1 ≥ (a0.size : Int) then some (0, 0, 2)
  else if bt a0 a1 < 128 then some (bt a0 a1, wrap64 (a1 + 1), 0)
  else if bt a0 a1 ≥ 194 ∧ bt a0 a1 < 224 then (if 2 > wrap64 ((a0.size : Int) - a1) then some (0, 0, 10) else utf_Decode.l0 k a0 a1 (bt a0 a1 % 32) 2 1)
  else if bt a0 a1 ≥ 224 ∧ bt a0 a1 < 240 then (if 3 > wrap64 ((a0.size : Int) - a1) then some (0, 0, 10) else utf_Decode.l0 k a0 a1 (bt a0 a1 % 16) 3 1)
  else if bt a0 a1 ≥ 240 ∧ bt a0 a1 < 245 then (if 4 > wrap64 ((a0.size : Int) - a1) then some (0, 0, 10) else utf_Decode.l0 k a0 a1 (bt a0 a1 % 8) 4 1)
  else some (0, 0, 10)
theorem utf_Decode.mono_l : ∀ k, (∀ y0 y1 y2 y3 y4, LeO (utf_Decode.l0 k y0 y1 y2 y3 y4) (utf_Decode.l0 (k + 1) y0 y1 y2 y3 y4))
  | 0 => fun _ _ _ _ _ r h => by simp [utf_Decode.l0] at h
  | k + 1 => by
    have ih0 := utf_Decode.mono_l k
    intro y0 y1 y2 y3 y4
    unfold utf_Decode.l0
    repeat' first
      | exact ih0 _ _ _ _ _
      | exact LeO.refl _
      | refine LeO.ite ?_ ?_
      | refine LeO.bind ?_ (fun _ => ?_)
theorem utf_Decode.mono : ∀ a0 a1 k, LeO (utf_Decode.f k a0 a1) (utf_Decode.f (k + 1) a0 a1) := by
  intro a0 a1 k
  have ih0 := utf_Decode.mono_l k
  unfold utf_Decode.f
  repeat' first
      | exact ih0 _ _ _ _ _
      | exact LeO.refl _
      | refine LeO.ite ?_ ?_
set_option maxHeartbeats 8000000 in
set_option maxRecDepth 100000 in
theorem utf_Decode.calls (k : Nat) (a0 : ByteArray) (a1 : Int) (r1 r2 r3 : Int) (w : World) (h : utf_Decode.f k a0 a1 = some (r1, r2, r3)) :
    Calls Try.prog 21 #[.string a0, .int .i64 a1] w fun e w' => e = .returned (.tuple #[.int .i32 r1, .int .i64 r2, .int .i64 r3]) ∧ Drawn0 w w' := by
  have H := h
  clear h
  unfold utf_Decode.f at H
  by_cases c1 : a1 < 0
  · rw [if_pos c1] at H
    have c1b : decide (a1 < 0) = true := decide_eq_true c1
    clear c1
    simp only [Option.some.injEq, Prod.mk.injEq] at H
    obtain ⟨rfl, rfl, rfl⟩ := H
    go_enter Try.func21, Try.ntmps21
    go_wp2
    go_step3
    go_wp2
    rw [Exit.noGoto_ret]
    go_ret3
    exact ⟨rfl, Drawn0.refl _⟩
  · rw [if_neg c1] at H
    have c1b : decide (a1 < 0) = false := decide_eq_false c1
    have c1p : 0 ≤ a1 := by omega
    clear c1
    by_cases c2 : a1 ≥ (a0.size : Int)
    · rw [if_pos c2] at H
      have c2b : decide ((a0.size : Int) ≤ a1) = true := decide_eq_true c2
      clear c2
      simp only [Option.some.injEq, Prod.mk.injEq] at H
      obtain ⟨rfl, rfl, rfl⟩ := H
      go_enter Try.func21, Try.ntmps21
      go_wp2
      go_step3
      go_wp2
      rw [Exit.noGoto_ret]
      go_ret3
      exact ⟨rfl, Drawn0.refl _⟩
    · rw [if_neg c2] at H
      have c2b : decide ((a0.size : Int) ≤ a1) = false := decide_eq_false c2
      have c2p : a1 < (a0.size : Int) := by omega
      have hb := bt_at a0 a1
      have hr := bt_range a0 a1
      clear c2
      by_cases c3 : bt a0 a1 < 128
      · rw [if_pos c3] at H
        have c3b : decide (bt a0 a1 < 128) = true := decide_eq_true c3
        simp only [Option.some.injEq, Prod.mk.injEq] at H
        obtain ⟨rfl, rfl, rfl⟩ := H
        go_enter Try.func21, Try.ntmps21
        go_wp2
        go_step3
        go_wp2
        rw [Exit.noGoto_ret]
        go_ret3
        exact ⟨rfl, Drawn0.refl _⟩
      · rw [if_neg c3] at H
        have c3p : 128 ≤ bt a0 a1 := by omega
        clear c3
        by_cases c4 : bt a0 a1 < 194
        · rw [if_neg (by omega), if_neg (by omega), if_neg (by omega)] at H
          have H' := Aside0.mk H
          clear H
          go_enter Try.func21, Try.ntmps21
          go_wp2
          refine wp_scope_jumps 0 (fun a w' => (a.tmps.size = 93 ∧ a.defers = []) ∧ Aside0 (some ((0 : Int), (0 : Int), (10 : Int)) = some (r1, r2, r3)) ∧ Drawn0 w w') (fun _ _ => 0) rfl ?first ?pass
          case pass =>
            clear H'
            rintro ⟨tm, df⟩ w2 ⟨⟨hz, hd⟩, H2, ⟨nd, rfl⟩⟩
            have H3 := H2.out
            clear H2
            simp only [Option.some.injEq, Prod.mk.injEq] at H3
            obtain ⟨rfl, rfl, rfl⟩ := H3
            replace hd : df = [] := hd
            subst hd
            have HZ := Lib.hid hz
            clear hz
            go_wp2
            go_ret3
            have hz := HZ.out
            exact ⟨by simp [Array.getD, hz], ⟨_, rfl⟩⟩
          case first =>
            go_wp2
            go_step3
            go_simp
            exact ⟨rfl, ⟨rfl, rfl⟩, H', Drawn0.refl _⟩
        · by_cases c5 : bt a0 a1 < 224
          · rw [if_pos (by omega)] at H
            by_cases cn : (2 : Int) > wrap64 ((a0.size : Int) - a1)
            · rw [if_pos cn] at H
              have H' := Aside0.mk H
              clear H
              have cnb : decide (wrap64 ((a0.size : Int) - a1) < 2) = true := decide_eq_true cn
              clear cn
              go_enter Try.func21, Try.ntmps21
              go_wp2
              refine wp_scope_jumps 0 (fun a w' => (a.tmps.size = 93 ∧ a.defers = []) ∧ Aside0 (some ((0 : Int), (0 : Int), (10 : Int)) = some (r1, r2, r3)) ∧ Drawn0 w w') (fun _ _ => 0) rfl ?first ?pass
              case pass =>
                clear H'
                rintro ⟨tm, df⟩ w2 ⟨⟨hz, hd⟩, H2, ⟨nd, rfl⟩⟩
                have H3 := H2.out
                clear H2
                simp only [Option.some.injEq, Prod.mk.injEq] at H3
                obtain ⟨rfl, rfl, rfl⟩ := H3
                replace hd : df = [] := hd
                subst hd
                have HZ := Lib.hid hz
                clear hz
                go_wp2
                go_ret3
                have hz := HZ.out
                exact ⟨by simp [Array.getD, hz], ⟨_, rfl⟩⟩
              case first =>
                go_wp2
                go_step3
                go_simp
                exact ⟨rfl, ⟨rfl, rfl⟩, H', Drawn0.refl _⟩
            · rw [if_neg cn] at H
              have H' := Aside0.mk H
              clear H
              have cnb : decide (wrap64 ((a0.size : Int) - a1) < 2) = false := decide_eq_false cn
              clear cn
              go_enter Try.func21, Try.ntmps21
              go_wp2
              refine wp_scope_jumps 0 (fun a w' => (a.tmps.size = 93 ∧ a.defers = []) ∧ Aside0 (some ((0 : Int), (0 : Int), (10 : Int)) = some (r1, r2, r3)) ∧ Drawn0 w w') (fun _ _ => 0) rfl ?first ?pass
              case pass =>
                clear H'
                rintro ⟨tm, df⟩ w2 ⟨⟨hz, hd⟩, H2, ⟨nd, rfl⟩⟩
                have H3 := H2.out
                clear H2
                simp only [Option.some.injEq, Prod.mk.injEq] at H3
                obtain ⟨rfl, rfl, rfl⟩ := H3
                replace hd : df = [] := hd
                subst hd
                have HZ := Lib.hid hz
                clear hz
                go_wp2
                go_ret3
                have hz := HZ.out
                exact ⟨by simp [Array.getD, hz], ⟨_, rfl⟩⟩
              case first =>
                go_wp2
                go_loopg [7, 10] k (fun kq v7 v10 w' => ∃ (x7 x10 : Int), v7 = .int .i32 x7 ∧ v10 = .int .i64 x10 ∧ Aside0 (utf_Decode.l0 kq a0 a1 x7 2 x10 = some (r1, r2, r3)) ∧ Aside0 (kq ≤ k) ∧ Drawn0 w w')
                case atStart => exact ⟨_, _, rfl, rfl, H', ⟨Nat.le_refl _⟩, Drawn0.refl _⟩
                case round =>
                  clear H' hb hr
                  obtain ⟨x7, x10, rfl, rfl, HA, HK, ⟨nd, rfl⟩⟩ := hrel
                  cases gk with
                  | zero => exact absurd HA.out (by simp [utf_Decode.l0])
                  | succ k1 =>
                    have H := HA.out
                    clear HA
                    simp only [utf_Decode.l0] at H
                    by_cases d1 : x10 < 2
                    · rw [if_pos d1] at H
                      obtain ⟨j, hj⟩ : ∃ j, wrap64 (a1 + x10) = j := ⟨_, rfl⟩
                      rw [hj] at H
                      have hjw : IntKind.i64.wrap (a1 + x10) = j := (i64_w _).trans hj
                      by_cases d2 : 0 ≤ j
                      · rw [if_pos d2] at H
                        by_cases d3 : j < (a0.size : Int)
                        · rw [if_pos d3] at H
                          have hb := bt_at a0 j
                          have hr := bt_range a0 j
                          by_cases d4 : bt a0 j / 64 = 2
                          · rw [if_pos d4] at H
                            have H' := Aside0.mk H
                            have m1 : (Go.bits .and .u8 (bt a0 j) 192 != 128) = false := by rw [u8_and192 hr.1 hr.2, d4]; rfl
                            clear H d4
                            go_wp2
                            go_roundg k1
                            case measure => have := HK.out; omega
                            case rel => exact ⟨_, _, rfl, rfl, H', ⟨by have := HK.out; omega⟩, ⟨_, rfl⟩⟩
                          · rw [if_neg d4] at H
                            have H' := Aside0.mk H
                            have m1 : (Go.bits .and .u8 (bt a0 j) 192 != 128) = true := by rw [u8_and192 hr.1 hr.2, bne_iff_ne]; omega
                            clear H d4
                            go_wp2
                            go_step3
                            go_simp
                            exact ⟨rfl, ⟨rfl, rfl⟩, H', ⟨_, rfl⟩⟩
                        · rw [if_neg d3] at H
                          cases H
                      · rw [if_neg d2] at H
                        cases H
                    · rw [if_neg d1] at H
                      replace H := Option.bind_eq_some_iff.mp H
                      obtain ⟨t, A1, H⟩ := H
                      have A1' := Aside0.mk A1
                      clear A1
                      by_cases d2 : t = 2
                      · rw [if_pos d2] at H
                        simp only [Option.some.injEq, Prod.mk.injEq] at H
                        obtain ⟨rfl, rfl, rfl⟩ := H
                        have d2b : (t == 2) = true := beq_iff_eq.mpr d2
                        have d2c : (t != 2) = false := bne_eq_false_iff_eq.mpr d2
                        clear d2
                        go_wp2_with fail
                        (with_reducible refine (utf_Length.calls x7 t _ A1'.out).mono ?_)
                        rintro e w' ⟨rfl, ⟨nd2, rfl⟩⟩
                        go_wp2
                        rw [jump_ret]
                        go_ret3
                        exact ⟨rfl, ⟨_, rfl⟩⟩
                      · rw [if_neg d2] at H
                        have H' := Aside0.mk H
                        have d2b : (t == 2) = false := beq_eq_false_iff_ne.mpr d2
                        have d2c : (t != 2) = true := bne_iff_ne.mpr d2
                        clear d2 H
                        go_wp2_with fail
                        (with_reducible refine (utf_Length.calls x7 t _ A1'.out).mono ?_)
                        rintro e w' ⟨rfl, ⟨nd2, rfl⟩⟩
                        go_wp2
                        go_step3
                        go_simp
                        exact ⟨rfl, ⟨rfl, rfl⟩, H', ⟨_, rfl⟩⟩
          · by_cases c6 : bt a0 a1 < 240
            · rw [if_neg (by omega), if_pos (by omega)] at H
              by_cases cn : (3 : Int) > wrap64 ((a0.size : Int) - a1)
              · rw [if_pos cn] at H
                have H' := Aside0.mk H
                clear H
                have cnb : decide (wrap64 ((a0.size : Int) - a1) < 3) = true := decide_eq_true cn
                clear cn
                go_enter Try.func21, Try.ntmps21
                go_wp2
                refine wp_scope_jumps 0 (fun a w' => (a.tmps.size = 93 ∧ a.defers = []) ∧ Aside0 (some ((0 : Int), (0 : Int), (10 : Int)) = some (r1, r2, r3)) ∧ Drawn0 w w') (fun _ _ => 0) rfl ?first ?pass
                case pass =>
                  clear H'
                  rintro ⟨tm, df⟩ w2 ⟨⟨hz, hd⟩, H2, ⟨nd, rfl⟩⟩
                  have H3 := H2.out
                  clear H2
                  simp only [Option.some.injEq, Prod.mk.injEq] at H3
                  obtain ⟨rfl, rfl, rfl⟩ := H3
                  replace hd : df = [] := hd
                  subst hd
                  have HZ := Lib.hid hz
                  clear hz
                  go_wp2
                  go_ret3
                  have hz := HZ.out
                  exact ⟨by simp [Array.getD, hz], ⟨_, rfl⟩⟩
                case first =>
                  go_wp2
                  go_step3
                  go_simp
                  exact ⟨rfl, ⟨rfl, rfl⟩, H', Drawn0.refl _⟩
              · rw [if_neg cn] at H
                have H' := Aside0.mk H
                clear H
                have cnb : decide (wrap64 ((a0.size : Int) - a1) < 3) = false := decide_eq_false cn
                clear cn
                go_enter Try.func21, Try.ntmps21
                go_wp2
                refine wp_scope_jumps 0 (fun a w' => (a.tmps.size = 93 ∧ a.defers = []) ∧ Aside0 (some ((0 : Int), (0 : Int), (10 : Int)) = some (r1, r2, r3)) ∧ Drawn0 w w') (fun _ _ => 0) rfl ?first ?pass
                case pass =>
                  clear H'
                  rintro ⟨tm, df⟩ w2 ⟨⟨hz, hd⟩, H2, ⟨nd, rfl⟩⟩
                  have H3 := H2.out
                  clear H2
                  simp only [Option.some.injEq, Prod.mk.injEq] at H3
                  obtain ⟨rfl, rfl, rfl⟩ := H3
                  replace hd : df = [] := hd
                  subst hd
                  have HZ := Lib.hid hz
                  clear hz
                  go_wp2
                  go_ret3
                  have hz := HZ.out
                  exact ⟨by simp [Array.getD, hz], ⟨_, rfl⟩⟩
                case first =>
                  go_wp2
                  go_loopg [7, 10] k (fun kq v7 v10 w' => ∃ (x7 x10 : Int), v7 = .int .i32 x7 ∧ v10 = .int .i64 x10 ∧ Aside0 (utf_Decode.l0 kq a0 a1 x7 3 x10 = some (r1, r2, r3)) ∧ Aside0 (kq ≤ k) ∧ Drawn0 w w')
                  case atStart => exact ⟨_, _, rfl, rfl, H', ⟨Nat.le_refl _⟩, Drawn0.refl _⟩
                  case round =>
                    clear H' hb hr
                    obtain ⟨x7, x10, rfl, rfl, HA, HK, ⟨nd, rfl⟩⟩ := hrel
                    cases gk with
                    | zero => exact absurd HA.out (by simp [utf_Decode.l0])
                    | succ k1 =>
                      have H := HA.out
                      clear HA
                      simp only [utf_Decode.l0] at H
                      by_cases d1 : x10 < 3
                      · rw [if_pos d1] at H
                        obtain ⟨j, hj⟩ : ∃ j, wrap64 (a1 + x10) = j := ⟨_, rfl⟩
                        rw [hj] at H
                        have hjw : IntKind.i64.wrap (a1 + x10) = j := (i64_w _).trans hj
                        by_cases d2 : 0 ≤ j
                        · rw [if_pos d2] at H
                          by_cases d3 : j < (a0.size : Int)
                          · rw [if_pos d3] at H
                            have hb := bt_at a0 j
                            have hr := bt_range a0 j
                            by_cases d4 : bt a0 j / 64 = 2
                            · rw [if_pos d4] at H
                              have H' := Aside0.mk H
                              have m1 : (Go.bits .and .u8 (bt a0 j) 192 != 128) = false := by rw [u8_and192 hr.1 hr.2, d4]; rfl
                              clear H d4
                              go_wp2
                              go_roundg k1
                              case measure => have := HK.out; omega
                              case rel => exact ⟨_, _, rfl, rfl, H', ⟨by have := HK.out; omega⟩, ⟨_, rfl⟩⟩
                            · rw [if_neg d4] at H
                              have H' := Aside0.mk H
                              have m1 : (Go.bits .and .u8 (bt a0 j) 192 != 128) = true := by rw [u8_and192 hr.1 hr.2, bne_iff_ne]; omega
                              clear H d4
                              go_wp2
                              go_step3
                              go_simp
                              exact ⟨rfl, ⟨rfl, rfl⟩, H', ⟨_, rfl⟩⟩
                          · rw [if_neg d3] at H
                            cases H
                        · rw [if_neg d2] at H
                          cases H
                      · rw [if_neg d1] at H
                        replace H := Option.bind_eq_some_iff.mp H
                        obtain ⟨t, A1, H⟩ := H
                        have A1' := Aside0.mk A1
                        clear A1
                        by_cases d2 : t = 3
                        · rw [if_pos d2] at H
                          simp only [Option.some.injEq, Prod.mk.injEq] at H
                          obtain ⟨rfl, rfl, rfl⟩ := H
                          have d2b : (t == 3) = true := beq_iff_eq.mpr d2
                          have d2c : (t != 3) = false := bne_eq_false_iff_eq.mpr d2
                          clear d2
                          go_wp2_with fail
                          (with_reducible refine (utf_Length.calls x7 t _ A1'.out).mono ?_)
                          rintro e w' ⟨rfl, ⟨nd2, rfl⟩⟩
                          go_wp2
                          rw [jump_ret]
                          go_ret3
                          exact ⟨rfl, ⟨_, rfl⟩⟩
                        · rw [if_neg d2] at H
                          have H' := Aside0.mk H
                          have d2b : (t == 3) = false := beq_eq_false_iff_ne.mpr d2
                          have d2c : (t != 3) = true := bne_iff_ne.mpr d2
                          clear d2 H
                          go_wp2_with fail
                          (with_reducible refine (utf_Length.calls x7 t _ A1'.out).mono ?_)
                          rintro e w' ⟨rfl, ⟨nd2, rfl⟩⟩
                          go_wp2
                          go_step3
                          go_simp
                          exact ⟨rfl, ⟨rfl, rfl⟩, H', ⟨_, rfl⟩⟩
            · by_cases c7 : bt a0 a1 < 245
              · rw [if_neg (by omega), if_neg (by omega), if_pos (by omega)] at H
                by_cases cn : (4 : Int) > wrap64 ((a0.size : Int) - a1)
                · rw [if_pos cn] at H
                  have H' := Aside0.mk H
                  clear H
                  have cnb : decide (wrap64 ((a0.size : Int) - a1) < 4) = true := decide_eq_true cn
                  clear cn
                  go_enter Try.func21, Try.ntmps21
                  go_wp2
                  refine wp_scope_jumps 0 (fun a w' => (a.tmps.size = 93 ∧ a.defers = []) ∧ Aside0 (some ((0 : Int), (0 : Int), (10 : Int)) = some (r1, r2, r3)) ∧ Drawn0 w w') (fun _ _ => 0) rfl ?first ?pass
                  case pass =>
                    clear H'
                    rintro ⟨tm, df⟩ w2 ⟨⟨hz, hd⟩, H2, ⟨nd, rfl⟩⟩
                    have H3 := H2.out
                    clear H2
                    simp only [Option.some.injEq, Prod.mk.injEq] at H3
                    obtain ⟨rfl, rfl, rfl⟩ := H3
                    replace hd : df = [] := hd
                    subst hd
                    have HZ := Lib.hid hz
                    clear hz
                    go_wp2
                    go_ret3
                    have hz := HZ.out
                    exact ⟨by simp [Array.getD, hz], ⟨_, rfl⟩⟩
                  case first =>
                    go_wp2
                    go_step3
                    go_simp
                    exact ⟨rfl, ⟨rfl, rfl⟩, H', Drawn0.refl _⟩
                · rw [if_neg cn] at H
                  have H' := Aside0.mk H
                  clear H
                  have cnb : decide (wrap64 ((a0.size : Int) - a1) < 4) = false := decide_eq_false cn
                  clear cn
                  go_enter Try.func21, Try.ntmps21
                  go_wp2
                  refine wp_scope_jumps 0 (fun a w' => (a.tmps.size = 93 ∧ a.defers = []) ∧ Aside0 (some ((0 : Int), (0 : Int), (10 : Int)) = some (r1, r2, r3)) ∧ Drawn0 w w') (fun _ _ => 0) rfl ?first ?pass
                  case pass =>
                    clear H'
                    rintro ⟨tm, df⟩ w2 ⟨⟨hz, hd⟩, H2, ⟨nd, rfl⟩⟩
                    have H3 := H2.out
                    clear H2
                    simp only [Option.some.injEq, Prod.mk.injEq] at H3
                    obtain ⟨rfl, rfl, rfl⟩ := H3
                    replace hd : df = [] := hd
                    subst hd
                    have HZ := Lib.hid hz
                    clear hz
                    go_wp2
                    go_ret3
                    have hz := HZ.out
                    exact ⟨by simp [Array.getD, hz], ⟨_, rfl⟩⟩
                  case first =>
                    go_wp2
                    go_loopg [7, 10] k (fun kq v7 v10 w' => ∃ (x7 x10 : Int), v7 = .int .i32 x7 ∧ v10 = .int .i64 x10 ∧ Aside0 (utf_Decode.l0 kq a0 a1 x7 4 x10 = some (r1, r2, r3)) ∧ Aside0 (kq ≤ k) ∧ Drawn0 w w')
                    case atStart => exact ⟨_, _, rfl, rfl, H', ⟨Nat.le_refl _⟩, Drawn0.refl _⟩
                    case round =>
                      clear H' hb hr
                      obtain ⟨x7, x10, rfl, rfl, HA, HK, ⟨nd, rfl⟩⟩ := hrel
                      cases gk with
                      | zero => exact absurd HA.out (by simp [utf_Decode.l0])
                      | succ k1 =>
                        have H := HA.out
                        clear HA
                        simp only [utf_Decode.l0] at H
                        by_cases d1 : x10 < 4
                        · rw [if_pos d1] at H
                          obtain ⟨j, hj⟩ : ∃ j, wrap64 (a1 + x10) = j := ⟨_, rfl⟩
                          rw [hj] at H
                          have hjw : IntKind.i64.wrap (a1 + x10) = j := (i64_w _).trans hj
                          by_cases d2 : 0 ≤ j
                          · rw [if_pos d2] at H
                            by_cases d3 : j < (a0.size : Int)
                            · rw [if_pos d3] at H
                              have hb := bt_at a0 j
                              have hr := bt_range a0 j
                              by_cases d4 : bt a0 j / 64 = 2
                              · rw [if_pos d4] at H
                                have H' := Aside0.mk H
                                have m1 : (Go.bits .and .u8 (bt a0 j) 192 != 128) = false := by rw [u8_and192 hr.1 hr.2, d4]; rfl
                                clear H d4
                                go_wp2
                                go_roundg k1
                                case measure => have := HK.out; omega
                                case rel => exact ⟨_, _, rfl, rfl, H', ⟨by have := HK.out; omega⟩, ⟨_, rfl⟩⟩
                              · rw [if_neg d4] at H
                                have H' := Aside0.mk H
                                have m1 : (Go.bits .and .u8 (bt a0 j) 192 != 128) = true := by rw [u8_and192 hr.1 hr.2, bne_iff_ne]; omega
                                clear H d4
                                go_wp2
                                go_step3
                                go_simp
                                exact ⟨rfl, ⟨rfl, rfl⟩, H', ⟨_, rfl⟩⟩
                            · rw [if_neg d3] at H
                              cases H
                          · rw [if_neg d2] at H
                            cases H
                        · rw [if_neg d1] at H
                          replace H := Option.bind_eq_some_iff.mp H
                          obtain ⟨t, A1, H⟩ := H
                          have A1' := Aside0.mk A1
                          clear A1
                          by_cases d2 : t = 4
                          · rw [if_pos d2] at H
                            simp only [Option.some.injEq, Prod.mk.injEq] at H
                            obtain ⟨rfl, rfl, rfl⟩ := H
                            have d2b : (t == 4) = true := beq_iff_eq.mpr d2
                            have d2c : (t != 4) = false := bne_eq_false_iff_eq.mpr d2
                            clear d2
                            go_wp2_with fail
                            (with_reducible refine (utf_Length.calls x7 t _ A1'.out).mono ?_)
                            rintro e w' ⟨rfl, ⟨nd2, rfl⟩⟩
                            go_wp2
                            rw [jump_ret]
                            go_ret3
                            exact ⟨rfl, ⟨_, rfl⟩⟩
                          · rw [if_neg d2] at H
                            have H' := Aside0.mk H
                            have d2b : (t == 4) = false := beq_eq_false_iff_ne.mpr d2
                            have d2c : (t != 4) = true := bne_iff_ne.mpr d2
                            clear d2 H
                            go_wp2_with fail
                            (with_reducible refine (utf_Length.calls x7 t _ A1'.out).mono ?_)
                            rintro e w' ⟨rfl, ⟨nd2, rfl⟩⟩
                            go_wp2
                            go_step3
                            go_simp
                            exact ⟨rfl, ⟨rfl, rfl⟩, H', ⟨_, rfl⟩⟩
              · rw [if_neg (by omega), if_neg (by omega), if_neg (by omega)] at H
                have H' := Aside0.mk H
                clear H
                go_enter Try.func21, Try.ntmps21
                go_wp2
                refine wp_scope_jumps 0 (fun a w' => (a.tmps.size = 93 ∧ a.defers = []) ∧ Aside0 (some ((0 : Int), (0 : Int), (10 : Int)) = some (r1, r2, r3)) ∧ Drawn0 w w') (fun _ _ => 0) rfl ?first ?pass
                case pass =>
                  clear H'
                  rintro ⟨tm, df⟩ w2 ⟨⟨hz, hd⟩, H2, ⟨nd, rfl⟩⟩
                  have H3 := H2.out
                  clear H2
                  simp only [Option.some.injEq, Prod.mk.injEq] at H3
                  obtain ⟨rfl, rfl, rfl⟩ := H3
                  replace hd : df = [] := hd
                  subst hd
                  have HZ := Lib.hid hz
                  clear hz
                  go_wp2
                  go_ret3
                  have hz := HZ.out
                  exact ⟨by simp [Array.getD, hz], ⟨_, rfl⟩⟩
                case first =>
                  go_wp2
                  go_step3
                  go_simp
                  exact ⟨rfl, ⟨rfl, rfl⟩, H', Drawn0.refl _⟩

/-! ### utf_Runes: function 15 -/
def utf_Runes.l0 : Nat → ByteArray → List Int → Int → Option (List Int × Int × Int)
 | 0, _, _, _ => none
 | k + 1, x0, x5, x6 => if x6 < (x0.size : Int) then ((utf_Decode.f k x0 x6).bind fun bt102 => (if bt102.2.2 = 0 then (if x5.length < 35184372088832 then (utf_Runes.l0 k x0 (x5 ++ [bt102.1]) bt102.2.1) else (none)) else (some (([] : List Int), x6, bt102.2.2)))) else (some (x5, (x0.size : Int), 0))
def utf_Runes.f (k : Nat) (a0 : ByteArray) : Option (List Int × Int × Int) := utf_Runes.l0 k a0 ([] : List Int) 0
theorem utf_Runes.mono_l : ∀ k, (∀ y0 y1 y2, LeO (utf_Runes.l0 k y0 y1 y2) (utf_Runes.l0 (k + 1) y0 y1 y2))
 | 0 => fun _ _ _ r h => by simp [utf_Runes.l0] at h
 | k + 1 => by
  have ih0 := utf_Runes.mono_l k
  ·intro y0 y1 y2
   unfold utf_Runes.l0
   repeat' first
   | (with_reducible exact ih0 _ _ _)
   | (with_reducible exact utf_Decode.mono _ _ _)
   | (with_reducible exact LeO.refl _)
   | exact ih0 _ _ _
   | exact utf_Decode.mono _ _ _
   | exact LeO.none _
   | refine LeO.ite ?_ ?_
   | refine LeO.bind ?_ (fun _ => ?_)
theorem utf_Runes.mono : ∀ a0 k, LeO (utf_Runes.f k a0) (utf_Runes.f (k + 1) a0) := by
 intro a0 k
 have ih0 := utf_Runes.mono_l k
 unfold utf_Runes.f
 repeat' first
   | (with_reducible exact ih0 _ _ _)
   | (with_reducible exact utf_Decode.mono _ _ _)
   | (with_reducible exact LeO.refl _)
   | exact ih0 _ _ _
   | exact utf_Decode.mono _ _ _
   | exact LeO.none _
   | refine LeO.ite ?_ ?_
   | refine LeO.bind ?_ (fun _ => ?_)
set_option maxHeartbeats 8000000 in
set_option maxRecDepth 100000 in
theorem utf_Runes.calls (k : Nat) (a0 : ByteArray) (r1 : List Int) (r2 : Int) (r3 : Int) (w : World) (h : utf_Runes.f k a0 = some (r1, r2, r3)) :
  Calls Try.prog 15 #[.string a0] w fun e w' => ∃ v0_ : Value, e = .returned (.tuple #[v0_, .int .i64 r2, .int .i64 r3]) ∧ Kd.R (Kd.int .i32) 21 w' w.heap.size (fun _ => True) v0_ r1 ∧ Below w.heap.size w w' := by
 have HB := aM (Below.refl w.heap.size w)
 have H := h
 clear h
 unfold utf_Runes.f at H
 have H' := aM H
 clear H
 go_enter Try.func15, Try.ntmps15
 go_wp2
 go_loopg [5, 6] k (fun kq v5 v6 w' => ∃ (x5_1 : List Int) (x6_1 : Int), v6 = .int .i64 x6_1 ∧ Aside0 (utf_Runes.l0 kq a0 x5_1 x6_1 = some (r1, r2, r3)) ∧ Aside0 (kq ≤ k) ∧ Aside0 (Kd.R (Kd.int .i32) 21 w' w.heap.size (fun _ => True) v5 x5_1) ∧ Aside0 (Below w.heap.size w w'))
 case atStart => exact ⟨(([] : List Int)), (0), zP, H', ⟨Nat.le_refl _⟩, ⟨zL⟩, ⟨zB⟩⟩
 case round =>
  clear H'
  try clear c1
  obtain ⟨x5_1, x6_1, rfl, HA, HK1, HO_5, HB⟩ := hrel
  cases gk with
  | zero => exact absurd HA.out (by simp [utf_Runes.l0])
  | succ k1 =>
   have H := HA.out
   clear HA
   simp only [utf_Runes.l0] at H
   by_cases c2 : x6_1 < (a0.size : Int)
   ·rw [if_pos c2] at H
    have c2b0 : decide (x6_1 < (a0.size : Int)) = true := decide_eq_true c2
    clear c2
    obtain ⟨⟨t102, t103, t104⟩, A3, H⟩ := zO H
    try dsimp only at H
    by_cases c4 : t104 = 0
    ·rw [if_pos c4] at H
     have c4b0 : (t104 == 0) = true := beq_iff_eq.mpr c4
     have c4b1 : (t104 != 0) = false := bne_eq_false_iff_eq.mpr c4
     clear c4
     by_cases c5 : x5_1.length < 35184372088832
     ·rw [if_pos c5] at H
      have LMc5 := aM c5
      clear c5
      obtain ⟨y105, hy105⟩ : ∃ y_ : List Int, y_ = (x5_1 ++ [t102]) := ⟨_, rfl⟩
      replace H : (utf_Runes.l0 k1 a0 y105 t103) = some (r1, r2, r3) := zY hy105 H
      have Ny105 := aM hy105
      clear hy105
      have H' := aM H
      clear H
      go_wp2_with (first | ((with_reducible refine gate_callee (f := 21) rfl ?_); refine goesL_ (some 17) rfl rfl Try.func21 zK rfl #[.string a0, .int .i64 x6_1] rfl zM ?_; (with_reducible refine (utf_Decode.calls k1 a0 x6_1 t102 t103 t104 _ A3.out).mono ?_); rintro e w' ⟨rfl, ⟨nd, rfl⟩⟩; refine ⟨_, rfl, ?_⟩) | ((with_reducible refine gate_builtin (b := .append) (xs := #[.tmp 25, .tmp 27]) rfl ?_); at_builtin; refine Kd.R_append (Kd.int .i32) (w0 := w) w.heap.size rfl (.tmp 25) (.tmp 27) 34 21 (.int .i32 0) 4 rfl Try.underlying34 info21 rfl (by decide) (by omega) u5 x5_1 t102 [.int .i32 t102] (fun _ => True) (fun _ => False) rfl rfl ?aP (fun _ hk => hk.elim) ?aF ?aO ?aB ?aS ?aL ?_; (case aP => exact rfl); (case aB => exact zB); (case aF => exact (fun _ _ => trivial)); (case aO => exact (zR HO_5)); (case aS => exact (below_size zB)); (case aL => have := LMc5.out; omega); intro v106 w6 ho hb hg hat; rw [← Ny105.out] at ho; have n_ := zI (aM (hb)) (aM (ho)); clear HB HO_5; obtain ⟨HB, HO107⟩ := n_; clear ho hb hg hat))
      go_roundg k1
      case measure => have := HK1.out; omega
      case rel => exact ⟨(y105), (t103), zP, H', ⟨by have := HK1.out; omega⟩, ⟨zR HO107⟩, ⟨zB⟩⟩
     ·rw [if_neg c5] at H
      exact absurd H (by simp)
    ·rw [if_neg c4] at H
     have c4b0 : (t104 == 0) = false := beq_eq_false_iff_ne.mpr c4
     have c4b1 : (t104 != 0) = true := bne_iff_ne.mpr c4
     simp only [Option.some.injEq, Prod.mk.injEq] at H
     obtain ⟨rfl, rfl, rfl⟩ := H
     go_wp2_with (first | ((with_reducible refine gate_callee (f := 21) rfl ?_); refine goesL_ (some 17) rfl rfl Try.func21 zK rfl #[.string a0, .int .i64 x6_1] rfl zM ?_; (with_reducible refine (utf_Decode.calls k1 a0 x6_1 t102 t103 t104 _ A3.out).mono ?_); rintro e w' ⟨rfl, ⟨nd, rfl⟩⟩; refine ⟨_, rfl, ?_⟩))
     go_ret3
     exact ⟨_, zE, zL, zB⟩
   ·rw [if_neg c2] at H
    have c2b0 : decide (x6_1 < (a0.size : Int)) = false := decide_eq_false c2
    clear c2
    simp only [Option.some.injEq, Prod.mk.injEq] at H
    obtain ⟨rfl, rfl, rfl⟩ := H
    go_wp2
    go_ret3
    exact ⟨_, zE, zR HO_5, zB⟩

/-! ### slices_Index_int_int: function 65 -/
def slices_Index_int_int.l0 : Nat → List Int → Int → Int → Int → Option (Int)
 | 0, _, _, _, _ => none
 | k + 1, x0, x1, x7, x8 => if x8 < x7 then (if 0 ≤ x8 then (if x8 < (x0.length : Int) then (if x1 = (rd x0 x8) then (some x8) else (slices_Index_int_int.l0 k x0 x1 x7 (wrap64 (x8 + 1)))) else (none)) else (none)) else (some (-1))
def slices_Index_int_int.f (k : Nat) (l0 : List Int) (a1 : Int) : Option (Int) := slices_Index_int_int.l0 k l0 a1 (l0.length : Int) 0
theorem slices_Index_int_int.mono_l : ∀ k, (∀ y0 y1 y2 y3, LeO (slices_Index_int_int.l0 k y0 y1 y2 y3) (slices_Index_int_int.l0 (k + 1) y0 y1 y2 y3))
 | 0 => fun _ _ _ _ r h => by simp [slices_Index_int_int.l0] at h
 | k + 1 => by
  have ih0 := slices_Index_int_int.mono_l k
  ·intro y0 y1 y2 y3
   unfold slices_Index_int_int.l0
   repeat' first
   | (with_reducible exact ih0 _ _ _ _)
   | (with_reducible exact LeO.refl _)
   | exact ih0 _ _ _ _
   | exact LeO.none _
   | refine LeO.ite ?_ ?_
   | refine LeO.bind ?_ (fun _ => ?_)
theorem slices_Index_int_int.mono : ∀ a0 a1 k, LeO (slices_Index_int_int.f k a0 a1) (slices_Index_int_int.f (k + 1) a0 a1) := by
 intro a0 a1 k
 have ih0 := slices_Index_int_int.mono_l k
 unfold slices_Index_int_int.f
 repeat' first
   | (with_reducible exact ih0 _ _ _ _)
   | (with_reducible exact LeO.refl _)
   | exact ih0 _ _ _ _
   | exact LeO.none _
   | refine LeO.ite ?_ ?_
   | refine LeO.bind ?_ (fun _ => ?_)
set_option maxHeartbeats 8000000 in
set_option maxRecDepth 100000 in
theorem slices_Index_int_int.calls (k : Nat) (A0 : Option Addr) (c0 : Nat) (l0 : List Int) (a1 : Int) (r : Int) (w : World) (hr0 : Kd.C (Kd.int .i64) w A0 l0.length l0) (hc0 : l0.length ≤ c0) (h : slices_Index_int_int.f k l0 a1 = some r) :
  Calls Try.prog 65 #[.slice A0 l0.length c0, .int .i64 a1] w fun e w' => e = .returned (.int .i64 r) ∧ Drawn0 w w' := by
 have HR0 := aM hr0
 have HC0 := aM hc0
 clear hr0 hc0
 have H := h
 clear h
 unfold slices_Index_int_int.f at H
 have H' := aM H
 clear H
 go_enter Try.func65, Try.ntmps65
 go_wp2
 go_loopg [8] k (fun kq v8 w' => ∃ (x8_1 : Int), v8 = .int .i64 x8_1 ∧ Aside0 (slices_Index_int_int.l0 kq l0 a1 (l0.length : Int) x8_1 = some r) ∧ Aside0 (kq ≤ k) ∧ Drawn0 w w')
 case atStart => exact ⟨(0), zP, H', ⟨Nat.le_refl _⟩, zD⟩
 case round =>
  clear H'
  try clear p2
  obtain ⟨x8_1, rfl, HA, HK1, ⟨m1, rfl⟩⟩ := hrel
  cases gk with
  | zero => exact absurd HA.out (by simp [slices_Index_int_int.l0])
  | succ k1 =>
   have H := HA.out
   clear HA
   simp only [slices_Index_int_int.l0] at H
   by_cases c3 : x8_1 < (l0.length : Int)
   ·rw [if_pos c3] at H
    have c3b0 : decide (x8_1 < (l0.length : Int)) = true := decide_eq_true c3
    clear c3
    by_cases c4 : 0 ≤ x8_1
    ·rw [if_pos c4] at H
     have c4b0 : decide (0 ≤ x8_1) = true := decide_eq_true c4
     clear c4
     by_cases c5 : x8_1 < (l0.length : Int)
     ·rw [if_pos c5] at H
      have c5b0 : decide (x8_1 < (l0.length : Int)) = true := decide_eq_true c5
      clear c5
      by_cases c6 : a1 = (rd l0 x8_1)
      ·rw [if_pos c6] at H
       have c6b0 : (a1 == (rd l0 x8_1)) = true := beq_iff_eq.mpr c6
       have c6b1 : (a1 != (rd l0 x8_1)) = false := bne_eq_false_iff_eq.mpr c6
       clear c6
       obtain rfl := sI H
       have p108 : 0 ≤ (x8_1 : Int) := zoA
       have q108 : x8_1 < (l0.length : Int) := zoA
       obtain ⟨ad108, e108, hx108_0⟩ := Kd.at_int HR0.out x8_1 p108 q108
       cases e108
       replace p108 := eq_true p108
       replace q108 := eq_true q108
       go_wp2
       go_ret
       exact ⟨zP, zD⟩
      ·rw [if_neg c6] at H
       have c6b0 : (a1 == (rd l0 x8_1)) = false := beq_eq_false_iff_ne.mpr c6
       have c6b1 : (a1 != (rd l0 x8_1)) = true := bne_iff_ne.mpr c6
       have H' := aM H
       clear H
       have p108 : 0 ≤ (x8_1 : Int) := zoA
       have q108 : x8_1 < (l0.length : Int) := zoA
       obtain ⟨ad108, e108, hx108_0⟩ := Kd.at_int HR0.out x8_1 p108 q108
       cases e108
       replace p108 := eq_true p108
       replace q108 := eq_true q108
       go_wp2
       go_roundg k1
       case measure => have := HK1.out; omega
       case rel => exact ⟨(wrap64 (x8_1 + 1)), zP, H', ⟨by have := HK1.out; omega⟩, zD⟩
     ·rw [if_neg c5] at H
      exact absurd H (by simp)
    ·rw [if_neg c4] at H
     exact absurd H (by simp)
   ·rw [if_neg c3] at H
    have c3b0 : decide (x8_1 < (l0.length : Int)) = false := decide_eq_false c3
    clear c3
    obtain rfl := sI H
    go_wp2
    go_ret
    exact ⟨zP, zD⟩

/-! ### slices_Contains_int_int: function 51 -/
def slices_Contains_int_int.f (k : Nat) (l0 : List Int) (a1 : Int) : Option (Bool) := (slices_Index_int_int.f k l0 a1).bind fun t109 => (some (decide (t109 ≥ 0)))
theorem slices_Contains_int_int.mono : ∀ a0 a1 k, LeO (slices_Contains_int_int.f k a0 a1) (slices_Contains_int_int.f (k + 1) a0 a1) := by
 intro a0 a1 k
 unfold slices_Contains_int_int.f
 repeat' first
   | (with_reducible exact slices_Index_int_int.mono _ _ _)
   | (with_reducible exact LeO.refl _)
   | exact slices_Index_int_int.mono _ _ _
   | exact LeO.none _
   | refine LeO.ite ?_ ?_
   | refine LeO.bind ?_ (fun _ => ?_)
set_option maxHeartbeats 8000000 in
set_option maxRecDepth 100000 in
theorem slices_Contains_int_int.calls (k : Nat) (A0 : Option Addr) (c0 : Nat) (l0 : List Int) (a1 : Int) (r : Bool) (w : World) (hr0 : Kd.C (Kd.int .i64) w A0 l0.length l0) (hc0 : l0.length ≤ c0) (h : slices_Contains_int_int.f k l0 a1 = some r) :
  Calls Try.prog 51 #[.slice A0 l0.length c0, .int .i64 a1] w fun e w' => e = .returned (.bool r) ∧ Drawn0 w w' := by
 have HR0 := aM hr0
 have HC0 := aM hc0
 clear hr0 hc0
 have H := h
 clear h
 unfold slices_Contains_int_int.f at H
 obtain ⟨t109, A3, H⟩ := zO H
 obtain rfl := sI H
 go_enter Try.func51, Try.ntmps51
 go_wp2_with (first | ((with_reducible refine gate_callee (f := 65) rfl ?_); refine goesL_ (some 7) rfl rfl Try.func65 zK rfl #[.slice A0 l0.length c0, .int .i64 a1] rfl zM ?_; (with_reducible refine (slices_Index_int_int.calls k _ _ l0 a1 t109 _ ?side1 ?side2 A3.out).mono ?_); (case side1 => exact zC HR0.out); (case side2 => exact HC0.out); rintro e w' ⟨rfl, ⟨nd, rfl⟩⟩; refine ⟨_, rfl, ?_⟩))
 go_ret
 exact ⟨zP, zD⟩

end Go.Proofs.Ytbffakgmlgimeaa.P
