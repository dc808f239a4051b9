-- Printed by wip/mk.py (this session's driver over the kit's print) and from wip/manual.
import Derived.Test.YtdgnekknmpfepaaGreatDoorP0
namespace Go.Proofs.YtdgnekknmpfepaaGreatDoor.P
open Go.RowKit Go.Proofs.YtdgnekknmpfepaaGreatDoorW.PrintWords Go.Proofs.YtdgnekknmpfepaaGreatDoorW.PrintLast Go.Proofs.YtdgnekknmpfepaaGreatDoorW.PrintMore
attribute [local go_sem] run_store_float run_store_complex max2_int min2_int max_two min_two max_three min_three max_four min_four   -- for this text's walks alone
set_option linter.unusedVariables false
set_option linter.unusedSimpArgs false

/-! ### chars_digit: function 203 -/
def chars_digit.f (a0 : Int) : Option (Bool) := if a0 ≥ 48 then (if a0 ≤ 57 then (some true) else (if a0 ≥ 178 then (if a0 ≤ 179 then (some true) else (if a0 = 185 then (some true) else (if a0 ≥ 1632 then (if a0 ≤ 1641 then (some true) else (if a0 = 8304 then (some true) else (if a0 ≥ 8308 then (if a0 ≤ 8313 then (some true) else (if a0 ≥ 8320 then (if a0 ≤ 8329 then (some true) else (if a0 ≥ 65296 then (some (decide (a0 ≤ 65305))) else (some false))) else (if a0 ≥ 65296 then (some (decide (a0 ≤ 65305))) else (some false)))) else (if a0 ≥ 8320 then (if a0 ≤ 8329 then (some true) else (if a0 ≥ 65296 then (some (decide (a0 ≤ 65305))) else (some false))) else (if a0 ≥ 65296 then (some (decide (a0 ≤ 65305))) else (some false)))))) else (if a0 = 8304 then (some true) else (if a0 ≥ 8308 then (if a0 ≤ 8313 then (some true) else (if a0 ≥ 8320 then (if a0 ≤ 8329 then (some true) else (if a0 ≥ 65296 then (some (decide (a0 ≤ 65305))) else (some false))) else (if a0 ≥ 65296 then (some (decide (a0 ≤ 65305))) else (some false)))) else (if a0 ≥ 8320 then (if a0 ≤ 8329 then (some true) else (if a0 ≥ 65296 then (some (decide (a0 ≤ 65305))) else (some false))) else (if a0 ≥ 65296 then (some (decide (a0 ≤ 65305))) else (some false)))))))) else (if a0 = 185 then (some true) else (if a0 ≥ 1632 then (if a0 ≤ 1641 then (some true) else (if a0 = 8304 then (some true) else (if a0 ≥ 8308 then (if a0 ≤ 8313 then (some true) else (if a0 ≥ 8320 then (if a0 ≤ 8329 then (some true) else (if a0 ≥ 65296 then (some (decide (a0 ≤ 65305))) else (some false))) else (if a0 ≥ 65296 then (some (decide (a0 ≤ 65305))) else (some false)))) else (if a0 ≥ 8320 then (if a0 ≤ 8329 then (some true) else (if a0 ≥ 65296 then (some (decide (a0 ≤ 65305))) else (some false))) else (if a0 ≥ 65296 then (some (decide (a0 ≤ 65305))) else (some false)))))) else (if a0 = 8304 then (some true) else (if a0 ≥ 8308 then (if a0 ≤ 8313 then (some true) else (if a0 ≥ 8320 then (if a0 ≤ 8329 then (some true) else (if a0 ≥ 65296 then (some (decide (a0 ≤ 65305))) else (some false))) else (if a0 ≥ 65296 then (some (decide (a0 ≤ 65305))) else (some false)))) else (if a0 ≥ 8320 then (if a0 ≤ 8329 then (some true) else (if a0 ≥ 65296 then (some (decide (a0 ≤ 65305))) else (some false))) else (if a0 ≥ 65296 then (some (decide (a0 ≤ 65305))) else (some false))))))))) else (if a0 ≥ 178 then (if a0 ≤ 179 then (some true) else (if a0 = 185 then (some true) else (if a0 ≥ 1632 then (if a0 ≤ 1641 then (some true) else (if a0 = 8304 then (some true) else (if a0 ≥ 8308 then (if a0 ≤ 8313 then (some true) else (if a0 ≥ 8320 then (if a0 ≤ 8329 then (some true) else (if a0 ≥ 65296 then (some (decide (a0 ≤ 65305))) else (some false))) else (if a0 ≥ 65296 then (some (decide (a0 ≤ 65305))) else (some false)))) else (if a0 ≥ 8320 then (if a0 ≤ 8329 then (some true) else (if a0 ≥ 65296 then (some (decide (a0 ≤ 65305))) else (some false))) else (if a0 ≥ 65296 then (some (decide (a0 ≤ 65305))) else (some false)))))) else (if a0 = 8304 then (some true) else (if a0 ≥ 8308 then (if a0 ≤ 8313 then (some true) else (if a0 ≥ 8320 then (if a0 ≤ 8329 then (some true) else (if a0 ≥ 65296 then (some (decide (a0 ≤ 65305))) else (some false))) else (if a0 ≥ 65296 then (some (decide (a0 ≤ 65305))) else (some false)))) else (if a0 ≥ 8320 then (if a0 ≤ 8329 then (some true) else (if a0 ≥ 65296 then (some (decide (a0 ≤ 65305))) else (some false))) else (if a0 ≥ 65296 then (some (decide (a0 ≤ 65305))) else (some false)))))))) else (if a0 = 185 then (some true) else (if a0 ≥ 1632 then (if a0 ≤ 1641 then (some true) else (if a0 = 8304 then (some true) else (if a0 ≥ 8308 then (if a0 ≤ 8313 then (some true) else (if a0 ≥ 8320 then (if a0 ≤ 8329 then (some true) else (if a0 ≥ 65296 then (some (decide (a0 ≤ 65305))) else (some false))) else (if a0 ≥ 65296 then (some (decide (a0 ≤ 65305))) else (some false)))) else (if a0 ≥ 8320 then (if a0 ≤ 8329 then (some true) else (if a0 ≥ 65296 then (some (decide (a0 ≤ 65305))) else (some false))) else (if a0 ≥ 65296 then (some (decide (a0 ≤ 65305))) else (some false)))))) else (if a0 = 8304 then (some true) else (if a0 ≥ 8308 then (if a0 ≤ 8313 then (some true) else (if a0 ≥ 8320 then (if a0 ≤ 8329 then (some true) else (if a0 ≥ 65296 then (some (decide (a0 ≤ 65305))) else (some false))) else (if a0 ≥ 65296 then (some (decide (a0 ≤ 65305))) else (some false)))) else (if a0 ≥ 8320 then (if a0 ≤ 8329 then (some true) else (if a0 ≥ 65296 then (some (decide (a0 ≤ 65305))) else (some false))) else (if a0 ≥ 65296 then (some (decide (a0 ≤ 65305))) else (some false))))))))
set_option maxHeartbeats 8000000 in
set_option maxRecDepth 100000 in
theorem chars_digit.calls (a0 : Int) (r : Bool) (w : World) (h : chars_digit.f a0 = some r) :
  Calls Tryz.prog 203 #[.int .i32 a0] w fun e w' => e = .returned (.bool r) ∧ Drawn0 w w' := by
 have H := h
 clear h
 unfold chars_digit.f at H
 by_cases c2 : a0 ≥ 48
 ·rw [if_pos c2] at H
  have c2b0 : decide (48 ≤ a0) = true := decide_eq_true c2
  clear c2
  by_cases c3 : a0 ≤ 57
  ·rw [if_pos c3] at H
   have c3b0 : decide (a0 ≤ 57) = true := decide_eq_true c3
   clear c3
   obtain rfl := sI H
   go_enter Tryz.func203, Tryz.ntmps203
   go_wp2
   go_ret
   exact ⟨zP, zD⟩
  ·rw [if_neg c3] at H
   have c3b0 : decide (a0 ≤ 57) = false := decide_eq_false c3
   clear c3
   by_cases c4 : a0 ≥ 178
   ·rw [if_pos c4] at H
    have c4b0 : decide (178 ≤ a0) = true := decide_eq_true c4
    clear c4
    by_cases c5 : a0 ≤ 179
    ·rw [if_pos c5] at H
     have c5b0 : decide (a0 ≤ 179) = true := decide_eq_true c5
     clear c5
     obtain rfl := sI H
     go_enter Tryz.func203, Tryz.ntmps203
     go_wp2
     go_ret
     exact ⟨zP, zD⟩
    ·rw [if_neg c5] at H
     have c5b0 : decide (a0 ≤ 179) = false := decide_eq_false c5
     clear c5
     by_cases c6 : a0 = 185
     ·rw [if_pos c6] at H
      have c6b0 : (a0 == 185) = true := beq_iff_eq.mpr c6
      have c6b1 : (a0 != 185) = false := bne_eq_false_iff_eq.mpr c6
      clear c6
      obtain rfl := sI H
      go_enter Tryz.func203, Tryz.ntmps203
      go_wp2
      go_ret
      exact ⟨zP, zD⟩
     ·rw [if_neg c6] at H
      have c6b0 : (a0 == 185) = false := beq_eq_false_iff_ne.mpr c6
      have c6b1 : (a0 != 185) = true := bne_iff_ne.mpr c6
      by_cases c7 : a0 ≥ 1632
      ·rw [if_pos c7] at H
       have c7b0 : decide (1632 ≤ a0) = true := decide_eq_true c7
       clear c7
       by_cases c8 : a0 ≤ 1641
       ·rw [if_pos c8] at H
        have c8b0 : decide (a0 ≤ 1641) = true := decide_eq_true c8
        clear c8
        obtain rfl := sI H
        go_enter Tryz.func203, Tryz.ntmps203
        go_wp2
        go_ret
        exact ⟨zP, zD⟩
       ·rw [if_neg c8] at H
        have c8b0 : decide (a0 ≤ 1641) = false := decide_eq_false c8
        clear c8
        by_cases c9 : a0 = 8304
        ·rw [if_pos c9] at H
         have c9b0 : (a0 == 8304) = true := beq_iff_eq.mpr c9
         have c9b1 : (a0 != 8304) = false := bne_eq_false_iff_eq.mpr c9
         clear c9
         obtain rfl := sI H
         go_enter Tryz.func203, Tryz.ntmps203
         go_wp2
         go_ret
         exact ⟨zP, zD⟩
        ·rw [if_neg c9] at H
         have c9b0 : (a0 == 8304) = false := beq_eq_false_iff_ne.mpr c9
         have c9b1 : (a0 != 8304) = true := bne_iff_ne.mpr c9
         by_cases c10 : a0 ≥ 8308
         ·rw [if_pos c10] at H
          have c10b0 : decide (8308 ≤ a0) = true := decide_eq_true c10
          clear c10
          by_cases c11 : a0 ≤ 8313
          ·rw [if_pos c11] at H
           have c11b0 : decide (a0 ≤ 8313) = true := decide_eq_true c11
           clear c11
           obtain rfl := sI H
           go_enter Tryz.func203, Tryz.ntmps203
           go_wp2
           go_ret
           exact ⟨zP, zD⟩
          ·rw [if_neg c11] at H
           have c11b0 : decide (a0 ≤ 8313) = false := decide_eq_false c11
           clear c11
           by_cases c12 : a0 ≥ 8320
           ·rw [if_pos c12] at H
            have c12b0 : decide (8320 ≤ a0) = true := decide_eq_true c12
            clear c12
            by_cases c13 : a0 ≤ 8329
            ·rw [if_pos c13] at H
             have c13b0 : decide (a0 ≤ 8329) = true := decide_eq_true c13
             clear c13
             obtain rfl := sI H
             go_enter Tryz.func203, Tryz.ntmps203
             go_wp2
             go_ret
             exact ⟨zP, zD⟩
            ·rw [if_neg c13] at H
             have c13b0 : decide (a0 ≤ 8329) = false := decide_eq_false c13
             clear c13
             by_cases c14 : a0 ≥ 65296
             ·rw [if_pos c14] at H
              have c14b0 : decide (65296 ≤ a0) = true := decide_eq_true c14
              clear c14
              obtain rfl := sI H
              go_enter Tryz.func203, Tryz.ntmps203
              go_wp2
              go_ret
              exact ⟨zP, zD⟩
             ·rw [if_neg c14] at H
              have c14b0 : decide (65296 ≤ a0) = false := decide_eq_false c14
              clear c14
              obtain rfl := sI H
              go_enter Tryz.func203, Tryz.ntmps203
              go_wp2
              go_ret
              exact ⟨zP, zD⟩
           ·rw [if_neg c12] at H
            have c12b0 : decide (8320 ≤ a0) = false := decide_eq_false c12
            clear c12
            by_cases c15 : a0 ≥ 65296
            ·rw [if_pos c15] at H
             have c15b0 : decide (65296 ≤ a0) = true := decide_eq_true c15
             clear c15
             obtain rfl := sI H
             go_enter Tryz.func203, Tryz.ntmps203
             go_wp2
             go_ret
             exact ⟨zP, zD⟩
            ·rw [if_neg c15] at H
             have c15b0 : decide (65296 ≤ a0) = false := decide_eq_false c15
             clear c15
             obtain rfl := sI H
             go_enter Tryz.func203, Tryz.ntmps203
             go_wp2
             go_ret
             exact ⟨zP, zD⟩
         ·rw [if_neg c10] at H
          have c10b0 : decide (8308 ≤ a0) = false := decide_eq_false c10
          clear c10
          by_cases c16 : a0 ≥ 8320
          ·rw [if_pos c16] at H
           have c16b0 : decide (8320 ≤ a0) = true := decide_eq_true c16
           clear c16
           by_cases c17 : a0 ≤ 8329
           ·rw [if_pos c17] at H
            have c17b0 : decide (a0 ≤ 8329) = true := decide_eq_true c17
            clear c17
            obtain rfl := sI H
            go_enter Tryz.func203, Tryz.ntmps203
            go_wp2
            go_ret
            exact ⟨zP, zD⟩
           ·rw [if_neg c17] at H
            have c17b0 : decide (a0 ≤ 8329) = false := decide_eq_false c17
            clear c17
            by_cases c18 : a0 ≥ 65296
            ·rw [if_pos c18] at H
             have c18b0 : decide (65296 ≤ a0) = true := decide_eq_true c18
             clear c18
             obtain rfl := sI H
             go_enter Tryz.func203, Tryz.ntmps203
             go_wp2
             go_ret
             exact ⟨zP, zD⟩
            ·rw [if_neg c18] at H
             have c18b0 : decide (65296 ≤ a0) = false := decide_eq_false c18
             clear c18
             obtain rfl := sI H
             go_enter Tryz.func203, Tryz.ntmps203
             go_wp2
             go_ret
             exact ⟨zP, zD⟩
          ·rw [if_neg c16] at H
           have c16b0 : decide (8320 ≤ a0) = false := decide_eq_false c16
           clear c16
           by_cases c19 : a0 ≥ 65296
           ·rw [if_pos c19] at H
            have c19b0 : decide (65296 ≤ a0) = true := decide_eq_true c19
            clear c19
            obtain rfl := sI H
            go_enter Tryz.func203, Tryz.ntmps203
            go_wp2
            go_ret
            exact ⟨zP, zD⟩
           ·rw [if_neg c19] at H
            have c19b0 : decide (65296 ≤ a0) = false := decide_eq_false c19
            clear c19
            obtain rfl := sI H
            go_enter Tryz.func203, Tryz.ntmps203
            go_wp2
            go_ret
            exact ⟨zP, zD⟩
      ·rw [if_neg c7] at H
       have c7b0 : decide (1632 ≤ a0) = false := decide_eq_false c7
       clear c7
       by_cases c20 : a0 = 8304
       ·rw [if_pos c20] at H
        have c20b0 : (a0 == 8304) = true := beq_iff_eq.mpr c20
        have c20b1 : (a0 != 8304) = false := bne_eq_false_iff_eq.mpr c20
        clear c20
        obtain rfl := sI H
        go_enter Tryz.func203, Tryz.ntmps203
        go_wp2
        go_ret
        exact ⟨zP, zD⟩
       ·rw [if_neg c20] at H
        have c20b0 : (a0 == 8304) = false := beq_eq_false_iff_ne.mpr c20
        have c20b1 : (a0 != 8304) = true := bne_iff_ne.mpr c20
        by_cases c21 : a0 ≥ 8308
        ·rw [if_pos c21] at H
         have c21b0 : decide (8308 ≤ a0) = true := decide_eq_true c21
         clear c21
         by_cases c22 : a0 ≤ 8313
         ·rw [if_pos c22] at H
          have c22b0 : decide (a0 ≤ 8313) = true := decide_eq_true c22
          clear c22
          obtain rfl := sI H
          go_enter Tryz.func203, Tryz.ntmps203
          go_wp2
          go_ret
          exact ⟨zP, zD⟩
         ·rw [if_neg c22] at H
          have c22b0 : decide (a0 ≤ 8313) = false := decide_eq_false c22
          clear c22
          by_cases c23 : a0 ≥ 8320
          ·rw [if_pos c23] at H
           have c23b0 : decide (8320 ≤ a0) = true := decide_eq_true c23
           clear c23
           by_cases c24 : a0 ≤ 8329
           ·rw [if_pos c24] at H
            have c24b0 : decide (a0 ≤ 8329) = true := decide_eq_true c24
            clear c24
            obtain rfl := sI H
            go_enter Tryz.func203, Tryz.ntmps203
            go_wp2
            go_ret
            exact ⟨zP, zD⟩
           ·rw [if_neg c24] at H
            have c24b0 : decide (a0 ≤ 8329) = false := decide_eq_false c24
            clear c24
            by_cases c25 : a0 ≥ 65296
            ·rw [if_pos c25] at H
             have c25b0 : decide (65296 ≤ a0) = true := decide_eq_true c25
             clear c25
             obtain rfl := sI H
             go_enter Tryz.func203, Tryz.ntmps203
             go_wp2
             go_ret
             exact ⟨zP, zD⟩
            ·rw [if_neg c25] at H
             have c25b0 : decide (65296 ≤ a0) = false := decide_eq_false c25
             clear c25
             obtain rfl := sI H
             go_enter Tryz.func203, Tryz.ntmps203
             go_wp2
             go_ret
             exact ⟨zP, zD⟩
          ·rw [if_neg c23] at H
           have c23b0 : decide (8320 ≤ a0) = false := decide_eq_false c23
           clear c23
           by_cases c26 : a0 ≥ 65296
           ·rw [if_pos c26] at H
            have c26b0 : decide (65296 ≤ a0) = true := decide_eq_true c26
            clear c26
            obtain rfl := sI H
            go_enter Tryz.func203, Tryz.ntmps203
            go_wp2
            go_ret
            exact ⟨zP, zD⟩
           ·rw [if_neg c26] at H
            have c26b0 : decide (65296 ≤ a0) = false := decide_eq_false c26
            clear c26
            obtain rfl := sI H
            go_enter Tryz.func203, Tryz.ntmps203
            go_wp2
            go_ret
            exact ⟨zP, zD⟩
        ·rw [if_neg c21] at H
         have c21b0 : decide (8308 ≤ a0) = false := decide_eq_false c21
         clear c21
         by_cases c27 : a0 ≥ 8320
         ·rw [if_pos c27] at H
          have c27b0 : decide (8320 ≤ a0) = true := decide_eq_true c27
          clear c27
          by_cases c28 : a0 ≤ 8329
          ·rw [if_pos c28] at H
           have c28b0 : decide (a0 ≤ 8329) = true := decide_eq_true c28
           clear c28
           obtain rfl := sI H
           go_enter Tryz.func203, Tryz.ntmps203
           go_wp2
           go_ret
           exact ⟨zP, zD⟩
          ·rw [if_neg c28] at H
           have c28b0 : decide (a0 ≤ 8329) = false := decide_eq_false c28
           clear c28
           by_cases c29 : a0 ≥ 65296
           ·rw [if_pos c29] at H
            have c29b0 : decide (65296 ≤ a0) = true := decide_eq_true c29
            clear c29
            obtain rfl := sI H
            go_enter Tryz.func203, Tryz.ntmps203
            go_wp2
            go_ret
            exact ⟨zP, zD⟩
           ·rw [if_neg c29] at H
            have c29b0 : decide (65296 ≤ a0) = false := decide_eq_false c29
            clear c29
            obtain rfl := sI H
            go_enter Tryz.func203, Tryz.ntmps203
            go_wp2
            go_ret
            exact ⟨zP, zD⟩
         ·rw [if_neg c27] at H
          have c27b0 : decide (8320 ≤ a0) = false := decide_eq_false c27
          clear c27
          by_cases c30 : a0 ≥ 65296
          ·rw [if_pos c30] at H
           have c30b0 : decide (65296 ≤ a0) = true := decide_eq_true c30
           clear c30
           obtain rfl := sI H
           go_enter Tryz.func203, Tryz.ntmps203
           go_wp2
           go_ret
           exact ⟨zP, zD⟩
          ·rw [if_neg c30] at H
           have c30b0 : decide (65296 ≤ a0) = false := decide_eq_false c30
           clear c30
           obtain rfl := sI H
           go_enter Tryz.func203, Tryz.ntmps203
           go_wp2
           go_ret
           exact ⟨zP, zD⟩
   ·rw [if_neg c4] at H
    have c4b0 : decide (178 ≤ a0) = false := decide_eq_false c4
    clear c4
    by_cases c31 : a0 = 185
    ·rw [if_pos c31] at H
     have c31b0 : (a0 == 185) = true := beq_iff_eq.mpr c31
     have c31b1 : (a0 != 185) = false := bne_eq_false_iff_eq.mpr c31
     clear c31
     obtain rfl := sI H
     go_enter Tryz.func203, Tryz.ntmps203
     go_wp2
     go_ret
     exact ⟨zP, zD⟩
    ·rw [if_neg c31] at H
     have c31b0 : (a0 == 185) = false := beq_eq_false_iff_ne.mpr c31
     have c31b1 : (a0 != 185) = true := bne_iff_ne.mpr c31
     by_cases c32 : a0 ≥ 1632
     ·rw [if_pos c32] at H
      have c32b0 : decide (1632 ≤ a0) = true := decide_eq_true c32
      clear c32
      by_cases c33 : a0 ≤ 1641
      ·rw [if_pos c33] at H
       have c33b0 : decide (a0 ≤ 1641) = true := decide_eq_true c33
       clear c33
       obtain rfl := sI H
       go_enter Tryz.func203, Tryz.ntmps203
       go_wp2
       go_ret
       exact ⟨zP, zD⟩
      ·rw [if_neg c33] at H
       have c33b0 : decide (a0 ≤ 1641) = false := decide_eq_false c33
       clear c33
       by_cases c34 : a0 = 8304
       ·rw [if_pos c34] at H
        have c34b0 : (a0 == 8304) = true := beq_iff_eq.mpr c34
        have c34b1 : (a0 != 8304) = false := bne_eq_false_iff_eq.mpr c34
        clear c34
        obtain rfl := sI H
        go_enter Tryz.func203, Tryz.ntmps203
        go_wp2
        go_ret
        exact ⟨zP, zD⟩
       ·rw [if_neg c34] at H
        have c34b0 : (a0 == 8304) = false := beq_eq_false_iff_ne.mpr c34
        have c34b1 : (a0 != 8304) = true := bne_iff_ne.mpr c34
        by_cases c35 : a0 ≥ 8308
        ·rw [if_pos c35] at H
         have c35b0 : decide (8308 ≤ a0) = true := decide_eq_true c35
         clear c35
         by_cases c36 : a0 ≤ 8313
         ·rw [if_pos c36] at H
          have c36b0 : decide (a0 ≤ 8313) = true := decide_eq_true c36
          clear c36
          obtain rfl := sI H
          go_enter Tryz.func203, Tryz.ntmps203
          go_wp2
          go_ret
          exact ⟨zP, zD⟩
         ·rw [if_neg c36] at H
          have c36b0 : decide (a0 ≤ 8313) = false := decide_eq_false c36
          clear c36
          by_cases c37 : a0 ≥ 8320
          ·rw [if_pos c37] at H
           have c37b0 : decide (8320 ≤ a0) = true := decide_eq_true c37
           clear c37
           by_cases c38 : a0 ≤ 8329
           ·rw [if_pos c38] at H
            have c38b0 : decide (a0 ≤ 8329) = true := decide_eq_true c38
            clear c38
            obtain rfl := sI H
            go_enter Tryz.func203, Tryz.ntmps203
            go_wp2
            go_ret
            exact ⟨zP, zD⟩
           ·rw [if_neg c38] at H
            have c38b0 : decide (a0 ≤ 8329) = false := decide_eq_false c38
            clear c38
            by_cases c39 : a0 ≥ 65296
            ·rw [if_pos c39] at H
             have c39b0 : decide (65296 ≤ a0) = true := decide_eq_true c39
             clear c39
             obtain rfl := sI H
             go_enter Tryz.func203, Tryz.ntmps203
             go_wp2
             go_ret
             exact ⟨zP, zD⟩
            ·rw [if_neg c39] at H
             have c39b0 : decide (65296 ≤ a0) = false := decide_eq_false c39
             clear c39
             obtain rfl := sI H
             go_enter Tryz.func203, Tryz.ntmps203
             go_wp2
             go_ret
             exact ⟨zP, zD⟩
          ·rw [if_neg c37] at H
           have c37b0 : decide (8320 ≤ a0) = false := decide_eq_false c37
           clear c37
           by_cases c40 : a0 ≥ 65296
           ·rw [if_pos c40] at H
            have c40b0 : decide (65296 ≤ a0) = true := decide_eq_true c40
            clear c40
            obtain rfl := sI H
            go_enter Tryz.func203, Tryz.ntmps203
            go_wp2
            go_ret
            exact ⟨zP, zD⟩
           ·rw [if_neg c40] at H
            have c40b0 : decide (65296 ≤ a0) = false := decide_eq_false c40
            clear c40
            obtain rfl := sI H
            go_enter Tryz.func203, Tryz.ntmps203
            go_wp2
            go_ret
            exact ⟨zP, zD⟩
        ·rw [if_neg c35] at H
         have c35b0 : decide (8308 ≤ a0) = false := decide_eq_false c35
         clear c35
         by_cases c41 : a0 ≥ 8320
         ·rw [if_pos c41] at H
          have c41b0 : decide (8320 ≤ a0) = true := decide_eq_true c41
          clear c41
          by_cases c42 : a0 ≤ 8329
          ·rw [if_pos c42] at H
           have c42b0 : decide (a0 ≤ 8329) = true := decide_eq_true c42
           clear c42
           obtain rfl := sI H
           go_enter Tryz.func203, Tryz.ntmps203
           go_wp2
           go_ret
           exact ⟨zP, zD⟩
          ·rw [if_neg c42] at H
           have c42b0 : decide (a0 ≤ 8329) = false := decide_eq_false c42
           clear c42
           by_cases c43 : a0 ≥ 65296
           ·rw [if_pos c43] at H
            have c43b0 : decide (65296 ≤ a0) = true := decide_eq_true c43
            clear c43
            obtain rfl := sI H
            go_enter Tryz.func203, Tryz.ntmps203
            go_wp2
            go_ret
            exact ⟨zP, zD⟩
           ·rw [if_neg c43] at H
            have c43b0 : decide (65296 ≤ a0) = false := decide_eq_false c43
            clear c43
            obtain rfl := sI H
            go_enter Tryz.func203, Tryz.ntmps203
            go_wp2
            go_ret
            exact ⟨zP, zD⟩
         ·rw [if_neg c41] at H
          have c41b0 : decide (8320 ≤ a0) = false := decide_eq_false c41
          clear c41
          by_cases c44 : a0 ≥ 65296
          ·rw [if_pos c44] at H
           have c44b0 : decide (65296 ≤ a0) = true := decide_eq_true c44
           clear c44
           obtain rfl := sI H
           go_enter Tryz.func203, Tryz.ntmps203
           go_wp2
           go_ret
           exact ⟨zP, zD⟩
          ·rw [if_neg c44] at H
           have c44b0 : decide (65296 ≤ a0) = false := decide_eq_false c44
           clear c44
           obtain rfl := sI H
           go_enter Tryz.func203, Tryz.ntmps203
           go_wp2
           go_ret
           exact ⟨zP, zD⟩
     ·rw [if_neg c32] at H
      have c32b0 : decide (1632 ≤ a0) = false := decide_eq_false c32
      clear c32
      by_cases c45 : a0 = 8304
      ·rw [if_pos c45] at H
       have c45b0 : (a0 == 8304) = true := beq_iff_eq.mpr c45
       have c45b1 : (a0 != 8304) = false := bne_eq_false_iff_eq.mpr c45
       clear c45
       obtain rfl := sI H
       go_enter Tryz.func203, Tryz.ntmps203
       go_wp2
       go_ret
       exact ⟨zP, zD⟩
      ·rw [if_neg c45] at H
       have c45b0 : (a0 == 8304) = false := beq_eq_false_iff_ne.mpr c45
       have c45b1 : (a0 != 8304) = true := bne_iff_ne.mpr c45
       by_cases c46 : a0 ≥ 8308
       ·rw [if_pos c46] at H
        have c46b0 : decide (8308 ≤ a0) = true := decide_eq_true c46
        clear c46
        by_cases c47 : a0 ≤ 8313
        ·rw [if_pos c47] at H
         have c47b0 : decide (a0 ≤ 8313) = true := decide_eq_true c47
         clear c47
         obtain rfl := sI H
         go_enter Tryz.func203, Tryz.ntmps203
         go_wp2
         go_ret
         exact ⟨zP, zD⟩
        ·rw [if_neg c47] at H
         have c47b0 : decide (a0 ≤ 8313) = false := decide_eq_false c47
         clear c47
         by_cases c48 : a0 ≥ 8320
         ·rw [if_pos c48] at H
          have c48b0 : decide (8320 ≤ a0) = true := decide_eq_true c48
          clear c48
          by_cases c49 : a0 ≤ 8329
          ·rw [if_pos c49] at H
           have c49b0 : decide (a0 ≤ 8329) = true := decide_eq_true c49
           clear c49
           obtain rfl := sI H
           go_enter Tryz.func203, Tryz.ntmps203
           go_wp2
           go_ret
           exact ⟨zP, zD⟩
          ·rw [if_neg c49] at H
           have c49b0 : decide (a0 ≤ 8329) = false := decide_eq_false c49
           clear c49
           by_cases c50 : a0 ≥ 65296
           ·rw [if_pos c50] at H
            have c50b0 : decide (65296 ≤ a0) = true := decide_eq_true c50
            clear c50
            obtain rfl := sI H
            go_enter Tryz.func203, Tryz.ntmps203
            go_wp2
            go_ret
            exact ⟨zP, zD⟩
           ·rw [if_neg c50] at H
            have c50b0 : decide (65296 ≤ a0) = false := decide_eq_false c50
            clear c50
            obtain rfl := sI H
            go_enter Tryz.func203, Tryz.ntmps203
            go_wp2
            go_ret
            exact ⟨zP, zD⟩
         ·rw [if_neg c48] at H
          have c48b0 : decide (8320 ≤ a0) = false := decide_eq_false c48
          clear c48
          by_cases c51 : a0 ≥ 65296
          ·rw [if_pos c51] at H
           have c51b0 : decide (65296 ≤ a0) = true := decide_eq_true c51
           clear c51
           obtain rfl := sI H
           go_enter Tryz.func203, Tryz.ntmps203
           go_wp2
           go_ret
           exact ⟨zP, zD⟩
          ·rw [if_neg c51] at H
           have c51b0 : decide (65296 ≤ a0) = false := decide_eq_false c51
           clear c51
           obtain rfl := sI H
           go_enter Tryz.func203, Tryz.ntmps203
           go_wp2
           go_ret
           exact ⟨zP, zD⟩
       ·rw [if_neg c46] at H
        have c46b0 : decide (8308 ≤ a0) = false := decide_eq_false c46
        clear c46
        by_cases c52 : a0 ≥ 8320
        ·rw [if_pos c52] at H
         have c52b0 : decide (8320 ≤ a0) = true := decide_eq_true c52
         clear c52
         by_cases c53 : a0 ≤ 8329
         ·rw [if_pos c53] at H
          have c53b0 : decide (a0 ≤ 8329) = true := decide_eq_true c53
          clear c53
          obtain rfl := sI H
          go_enter Tryz.func203, Tryz.ntmps203
          go_wp2
          go_ret
          exact ⟨zP, zD⟩
         ·rw [if_neg c53] at H
          have c53b0 : decide (a0 ≤ 8329) = false := decide_eq_false c53
          clear c53
          by_cases c54 : a0 ≥ 65296
          ·rw [if_pos c54] at H
           have c54b0 : decide (65296 ≤ a0) = true := decide_eq_true c54
           clear c54
           obtain rfl := sI H
           go_enter Tryz.func203, Tryz.ntmps203
           go_wp2
           go_ret
           exact ⟨zP, zD⟩
          ·rw [if_neg c54] at H
           have c54b0 : decide (65296 ≤ a0) = false := decide_eq_false c54
           clear c54
           obtain rfl := sI H
           go_enter Tryz.func203, Tryz.ntmps203
           go_wp2
           go_ret
           exact ⟨zP, zD⟩
        ·rw [if_neg c52] at H
         have c52b0 : decide (8320 ≤ a0) = false := decide_eq_false c52
         clear c52
         by_cases c55 : a0 ≥ 65296
         ·rw [if_pos c55] at H
          have c55b0 : decide (65296 ≤ a0) = true := decide_eq_true c55
          clear c55
          obtain rfl := sI H
          go_enter Tryz.func203, Tryz.ntmps203
          go_wp2
          go_ret
          exact ⟨zP, zD⟩
         ·rw [if_neg c55] at H
          have c55b0 : decide (65296 ≤ a0) = false := decide_eq_false c55
          clear c55
          obtain rfl := sI H
          go_enter Tryz.func203, Tryz.ntmps203
          go_wp2
          go_ret
          exact ⟨zP, zD⟩
 ·rw [if_neg c2] at H
  have c2b0 : decide (48 ≤ a0) = false := decide_eq_false c2
  clear c2
  by_cases c56 : a0 ≥ 178
  ·rw [if_pos c56] at H
   have c56b0 : decide (178 ≤ a0) = true := decide_eq_true c56
   clear c56
   by_cases c57 : a0 ≤ 179
   ·rw [if_pos c57] at H
    have c57b0 : decide (a0 ≤ 179) = true := decide_eq_true c57
    clear c57
    obtain rfl := sI H
    go_enter Tryz.func203, Tryz.ntmps203
    go_wp2
    go_ret
    exact ⟨zP, zD⟩
   ·rw [if_neg c57] at H
    have c57b0 : decide (a0 ≤ 179) = false := decide_eq_false c57
    clear c57
    by_cases c58 : a0 = 185
    ·rw [if_pos c58] at H
     have c58b0 : (a0 == 185) = true := beq_iff_eq.mpr c58
     have c58b1 : (a0 != 185) = false := bne_eq_false_iff_eq.mpr c58
     clear c58
     obtain rfl := sI H
     go_enter Tryz.func203, Tryz.ntmps203
     go_wp2
     go_ret
     exact ⟨zP, zD⟩
    ·rw [if_neg c58] at H
     have c58b0 : (a0 == 185) = false := beq_eq_false_iff_ne.mpr c58
     have c58b1 : (a0 != 185) = true := bne_iff_ne.mpr c58
     by_cases c59 : a0 ≥ 1632
     ·rw [if_pos c59] at H
      have c59b0 : decide (1632 ≤ a0) = true := decide_eq_true c59
      clear c59
      by_cases c60 : a0 ≤ 1641
      ·rw [if_pos c60] at H
       have c60b0 : decide (a0 ≤ 1641) = true := decide_eq_true c60
       clear c60
       obtain rfl := sI H
       go_enter Tryz.func203, Tryz.ntmps203
       go_wp2
       go_ret
       exact ⟨zP, zD⟩
      ·rw [if_neg c60] at H
       have c60b0 : decide (a0 ≤ 1641) = false := decide_eq_false c60
       clear c60
       by_cases c61 : a0 = 8304
       ·rw [if_pos c61] at H
        have c61b0 : (a0 == 8304) = true := beq_iff_eq.mpr c61
        have c61b1 : (a0 != 8304) = false := bne_eq_false_iff_eq.mpr c61
        clear c61
        obtain rfl := sI H
        go_enter Tryz.func203, Tryz.ntmps203
        go_wp2
        go_ret
        exact ⟨zP, zD⟩
       ·rw [if_neg c61] at H
        have c61b0 : (a0 == 8304) = false := beq_eq_false_iff_ne.mpr c61
        have c61b1 : (a0 != 8304) = true := bne_iff_ne.mpr c61
        by_cases c62 : a0 ≥ 8308
        ·rw [if_pos c62] at H
         have c62b0 : decide (8308 ≤ a0) = true := decide_eq_true c62
         clear c62
         by_cases c63 : a0 ≤ 8313
         ·rw [if_pos c63] at H
          have c63b0 : decide (a0 ≤ 8313) = true := decide_eq_true c63
          clear c63
          obtain rfl := sI H
          go_enter Tryz.func203, Tryz.ntmps203
          go_wp2
          go_ret
          exact ⟨zP, zD⟩
         ·rw [if_neg c63] at H
          have c63b0 : decide (a0 ≤ 8313) = false := decide_eq_false c63
          clear c63
          by_cases c64 : a0 ≥ 8320
          ·rw [if_pos c64] at H
           have c64b0 : decide (8320 ≤ a0) = true := decide_eq_true c64
           clear c64
           by_cases c65 : a0 ≤ 8329
           ·rw [if_pos c65] at H
            have c65b0 : decide (a0 ≤ 8329) = true := decide_eq_true c65
            clear c65
            obtain rfl := sI H
            go_enter Tryz.func203, Tryz.ntmps203
            go_wp2
            go_ret
            exact ⟨zP, zD⟩
           ·rw [if_neg c65] at H
            have c65b0 : decide (a0 ≤ 8329) = false := decide_eq_false c65
            clear c65
            by_cases c66 : a0 ≥ 65296
            ·rw [if_pos c66] at H
             have c66b0 : decide (65296 ≤ a0) = true := decide_eq_true c66
             clear c66
             obtain rfl := sI H
             go_enter Tryz.func203, Tryz.ntmps203
             go_wp2
             go_ret
             exact ⟨zP, zD⟩
            ·rw [if_neg c66] at H
             have c66b0 : decide (65296 ≤ a0) = false := decide_eq_false c66
             clear c66
             obtain rfl := sI H
             go_enter Tryz.func203, Tryz.ntmps203
             go_wp2
             go_ret
             exact ⟨zP, zD⟩
          ·rw [if_neg c64] at H
           have c64b0 : decide (8320 ≤ a0) = false := decide_eq_false c64
           clear c64
           by_cases c67 : a0 ≥ 65296
           ·rw [if_pos c67] at H
            have c67b0 : decide (65296 ≤ a0) = true := decide_eq_true c67
            clear c67
            obtain rfl := sI H
            go_enter Tryz.func203, Tryz.ntmps203
            go_wp2
            go_ret
            exact ⟨zP, zD⟩
           ·rw [if_neg c67] at H
            have c67b0 : decide (65296 ≤ a0) = false := decide_eq_false c67
            clear c67
            obtain rfl := sI H
            go_enter Tryz.func203, Tryz.ntmps203
            go_wp2
            go_ret
            exact ⟨zP, zD⟩
        ·rw [if_neg c62] at H
         have c62b0 : decide (8308 ≤ a0) = false := decide_eq_false c62
         clear c62
         by_cases c68 : a0 ≥ 8320
         ·rw [if_pos c68] at H
          have c68b0 : decide (8320 ≤ a0) = true := decide_eq_true c68
          clear c68
          by_cases c69 : a0 ≤ 8329
          ·rw [if_pos c69] at H
           have c69b0 : decide (a0 ≤ 8329) = true := decide_eq_true c69
           clear c69
           obtain rfl := sI H
           go_enter Tryz.func203, Tryz.ntmps203
           go_wp2
           go_ret
           exact ⟨zP, zD⟩
          ·rw [if_neg c69] at H
           have c69b0 : decide (a0 ≤ 8329) = false := decide_eq_false c69
           clear c69
           by_cases c70 : a0 ≥ 65296
           ·rw [if_pos c70] at H
            have c70b0 : decide (65296 ≤ a0) = true := decide_eq_true c70
            clear c70
            obtain rfl := sI H
            go_enter Tryz.func203, Tryz.ntmps203
            go_wp2
            go_ret
            exact ⟨zP, zD⟩
           ·rw [if_neg c70] at H
            have c70b0 : decide (65296 ≤ a0) = false := decide_eq_false c70
            clear c70
            obtain rfl := sI H
            go_enter Tryz.func203, Tryz.ntmps203
            go_wp2
            go_ret
            exact ⟨zP, zD⟩
         ·rw [if_neg c68] at H
          have c68b0 : decide (8320 ≤ a0) = false := decide_eq_false c68
          clear c68
          by_cases c71 : a0 ≥ 65296
          ·rw [if_pos c71] at H
           have c71b0 : decide (65296 ≤ a0) = true := decide_eq_true c71
           clear c71
           obtain rfl := sI H
           go_enter Tryz.func203, Tryz.ntmps203
           go_wp2
           go_ret
           exact ⟨zP, zD⟩
          ·rw [if_neg c71] at H
           have c71b0 : decide (65296 ≤ a0) = false := decide_eq_false c71
           clear c71
           obtain rfl := sI H
           go_enter Tryz.func203, Tryz.ntmps203
           go_wp2
           go_ret
           exact ⟨zP, zD⟩
     ·rw [if_neg c59] at H
      have c59b0 : decide (1632 ≤ a0) = false := decide_eq_false c59
      clear c59
      by_cases c72 : a0 = 8304
      ·rw [if_pos c72] at H
       have c72b0 : (a0 == 8304) = true := beq_iff_eq.mpr c72
       have c72b1 : (a0 != 8304) = false := bne_eq_false_iff_eq.mpr c72
       clear c72
       obtain rfl := sI H
       go_enter Tryz.func203, Tryz.ntmps203
       go_wp2
       go_ret
       exact ⟨zP, zD⟩
      ·rw [if_neg c72] at H
       have c72b0 : (a0 == 8304) = false := beq_eq_false_iff_ne.mpr c72
       have c72b1 : (a0 != 8304) = true := bne_iff_ne.mpr c72
       by_cases c73 : a0 ≥ 8308
       ·rw [if_pos c73] at H
        have c73b0 : decide (8308 ≤ a0) = true := decide_eq_true c73
        clear c73
        by_cases c74 : a0 ≤ 8313
        ·rw [if_pos c74] at H
         have c74b0 : decide (a0 ≤ 8313) = true := decide_eq_true c74
         clear c74
         obtain rfl := sI H
         go_enter Tryz.func203, Tryz.ntmps203
         go_wp2
         go_ret
         exact ⟨zP, zD⟩
        ·rw [if_neg c74] at H
         have c74b0 : decide (a0 ≤ 8313) = false := decide_eq_false c74
         clear c74
         by_cases c75 : a0 ≥ 8320
         ·rw [if_pos c75] at H
          have c75b0 : decide (8320 ≤ a0) = true := decide_eq_true c75
          clear c75
          by_cases c76 : a0 ≤ 8329
          ·rw [if_pos c76] at H
           have c76b0 : decide (a0 ≤ 8329) = true := decide_eq_true c76
           clear c76
           obtain rfl := sI H
           go_enter Tryz.func203, Tryz.ntmps203
           go_wp2
           go_ret
           exact ⟨zP, zD⟩
          ·rw [if_neg c76] at H
           have c76b0 : decide (a0 ≤ 8329) = false := decide_eq_false c76
           clear c76
           by_cases c77 : a0 ≥ 65296
           ·rw [if_pos c77] at H
            have c77b0 : decide (65296 ≤ a0) = true := decide_eq_true c77
            clear c77
            obtain rfl := sI H
            go_enter Tryz.func203, Tryz.ntmps203
            go_wp2
            go_ret
            exact ⟨zP, zD⟩
           ·rw [if_neg c77] at H
            have c77b0 : decide (65296 ≤ a0) = false := decide_eq_false c77
            clear c77
            obtain rfl := sI H
            go_enter Tryz.func203, Tryz.ntmps203
            go_wp2
            go_ret
            exact ⟨zP, zD⟩
         ·rw [if_neg c75] at H
          have c75b0 : decide (8320 ≤ a0) = false := decide_eq_false c75
          clear c75
          by_cases c78 : a0 ≥ 65296
          ·rw [if_pos c78] at H
           have c78b0 : decide (65296 ≤ a0) = true := decide_eq_true c78
           clear c78
           obtain rfl := sI H
           go_enter Tryz.func203, Tryz.ntmps203
           go_wp2
           go_ret
           exact ⟨zP, zD⟩
          ·rw [if_neg c78] at H
           have c78b0 : decide (65296 ≤ a0) = false := decide_eq_false c78
           clear c78
           obtain rfl := sI H
           go_enter Tryz.func203, Tryz.ntmps203
           go_wp2
           go_ret
           exact ⟨zP, zD⟩
       ·rw [if_neg c73] at H
        have c73b0 : decide (8308 ≤ a0) = false := decide_eq_false c73
        clear c73
        by_cases c79 : a0 ≥ 8320
        ·rw [if_pos c79] at H
         have c79b0 : decide (8320 ≤ a0) = true := decide_eq_true c79
         clear c79
         by_cases c80 : a0 ≤ 8329
         ·rw [if_pos c80] at H
          have c80b0 : decide (a0 ≤ 8329) = true := decide_eq_true c80
          clear c80
          obtain rfl := sI H
          go_enter Tryz.func203, Tryz.ntmps203
          go_wp2
          go_ret
          exact ⟨zP, zD⟩
         ·rw [if_neg c80] at H
          have c80b0 : decide (a0 ≤ 8329) = false := decide_eq_false c80
          clear c80
          by_cases c81 : a0 ≥ 65296
          ·rw [if_pos c81] at H
           have c81b0 : decide (65296 ≤ a0) = true := decide_eq_true c81
           clear c81
           obtain rfl := sI H
           go_enter Tryz.func203, Tryz.ntmps203
           go_wp2
           go_ret
           exact ⟨zP, zD⟩
          ·rw [if_neg c81] at H
           have c81b0 : decide (65296 ≤ a0) = false := decide_eq_false c81
           clear c81
           obtain rfl := sI H
           go_enter Tryz.func203, Tryz.ntmps203
           go_wp2
           go_ret
           exact ⟨zP, zD⟩
        ·rw [if_neg c79] at H
         have c79b0 : decide (8320 ≤ a0) = false := decide_eq_false c79
         clear c79
         by_cases c82 : a0 ≥ 65296
         ·rw [if_pos c82] at H
          have c82b0 : decide (65296 ≤ a0) = true := decide_eq_true c82
          clear c82
          obtain rfl := sI H
          go_enter Tryz.func203, Tryz.ntmps203
          go_wp2
          go_ret
          exact ⟨zP, zD⟩
         ·rw [if_neg c82] at H
          have c82b0 : decide (65296 ≤ a0) = false := decide_eq_false c82
          clear c82
          obtain rfl := sI H
          go_enter Tryz.func203, Tryz.ntmps203
          go_wp2
          go_ret
          exact ⟨zP, zD⟩
  ·rw [if_neg c56] at H
   have c56b0 : decide (178 ≤ a0) = false := decide_eq_false c56
   clear c56
   by_cases c83 : a0 = 185
   ·rw [if_pos c83] at H
    have c83b0 : (a0 == 185) = true := beq_iff_eq.mpr c83
    have c83b1 : (a0 != 185) = false := bne_eq_false_iff_eq.mpr c83
    clear c83
    obtain rfl := sI H
    go_enter Tryz.func203, Tryz.ntmps203
    go_wp2
    go_ret
    exact ⟨zP, zD⟩
   ·rw [if_neg c83] at H
    have c83b0 : (a0 == 185) = false := beq_eq_false_iff_ne.mpr c83
    have c83b1 : (a0 != 185) = true := bne_iff_ne.mpr c83
    by_cases c84 : a0 ≥ 1632
    ·rw [if_pos c84] at H
     have c84b0 : decide (1632 ≤ a0) = true := decide_eq_true c84
     clear c84
     by_cases c85 : a0 ≤ 1641
     ·rw [if_pos c85] at H
      have c85b0 : decide (a0 ≤ 1641) = true := decide_eq_true c85
      clear c85
      obtain rfl := sI H
      go_enter Tryz.func203, Tryz.ntmps203
      go_wp2
      go_ret
      exact ⟨zP, zD⟩
     ·rw [if_neg c85] at H
      have c85b0 : decide (a0 ≤ 1641) = false := decide_eq_false c85
      clear c85
      by_cases c86 : a0 = 8304
      ·rw [if_pos c86] at H
       have c86b0 : (a0 == 8304) = true := beq_iff_eq.mpr c86
       have c86b1 : (a0 != 8304) = false := bne_eq_false_iff_eq.mpr c86
       clear c86
       obtain rfl := sI H
       go_enter Tryz.func203, Tryz.ntmps203
       go_wp2
       go_ret
       exact ⟨zP, zD⟩
      ·rw [if_neg c86] at H
       have c86b0 : (a0 == 8304) = false := beq_eq_false_iff_ne.mpr c86
       have c86b1 : (a0 != 8304) = true := bne_iff_ne.mpr c86
       by_cases c87 : a0 ≥ 8308
       ·rw [if_pos c87] at H
        have c87b0 : decide (8308 ≤ a0) = true := decide_eq_true c87
        clear c87
        by_cases c88 : a0 ≤ 8313
        ·rw [if_pos c88] at H
         have c88b0 : decide (a0 ≤ 8313) = true := decide_eq_true c88
         clear c88
         obtain rfl := sI H
         go_enter Tryz.func203, Tryz.ntmps203
         go_wp2
         go_ret
         exact ⟨zP, zD⟩
        ·rw [if_neg c88] at H
         have c88b0 : decide (a0 ≤ 8313) = false := decide_eq_false c88
         clear c88
         by_cases c89 : a0 ≥ 8320
         ·rw [if_pos c89] at H
          have c89b0 : decide (8320 ≤ a0) = true := decide_eq_true c89
          clear c89
          by_cases c90 : a0 ≤ 8329
          ·rw [if_pos c90] at H
           have c90b0 : decide (a0 ≤ 8329) = true := decide_eq_true c90
           clear c90
           obtain rfl := sI H
           go_enter Tryz.func203, Tryz.ntmps203
           go_wp2
           go_ret
           exact ⟨zP, zD⟩
          ·rw [if_neg c90] at H
           have c90b0 : decide (a0 ≤ 8329) = false := decide_eq_false c90
           clear c90
           by_cases c91 : a0 ≥ 65296
           ·rw [if_pos c91] at H
            have c91b0 : decide (65296 ≤ a0) = true := decide_eq_true c91
            clear c91
            obtain rfl := sI H
            go_enter Tryz.func203, Tryz.ntmps203
            go_wp2
            go_ret
            exact ⟨zP, zD⟩
           ·rw [if_neg c91] at H
            have c91b0 : decide (65296 ≤ a0) = false := decide_eq_false c91
            clear c91
            obtain rfl := sI H
            go_enter Tryz.func203, Tryz.ntmps203
            go_wp2
            go_ret
            exact ⟨zP, zD⟩
         ·rw [if_neg c89] at H
          have c89b0 : decide (8320 ≤ a0) = false := decide_eq_false c89
          clear c89
          by_cases c92 : a0 ≥ 65296
          ·rw [if_pos c92] at H
           have c92b0 : decide (65296 ≤ a0) = true := decide_eq_true c92
           clear c92
           obtain rfl := sI H
           go_enter Tryz.func203, Tryz.ntmps203
           go_wp2
           go_ret
           exact ⟨zP, zD⟩
          ·rw [if_neg c92] at H
           have c92b0 : decide (65296 ≤ a0) = false := decide_eq_false c92
           clear c92
           obtain rfl := sI H
           go_enter Tryz.func203, Tryz.ntmps203
           go_wp2
           go_ret
           exact ⟨zP, zD⟩
       ·rw [if_neg c87] at H
        have c87b0 : decide (8308 ≤ a0) = false := decide_eq_false c87
        clear c87
        by_cases c93 : a0 ≥ 8320
        ·rw [if_pos c93] at H
         have c93b0 : decide (8320 ≤ a0) = true := decide_eq_true c93
         clear c93
         by_cases c94 : a0 ≤ 8329
         ·rw [if_pos c94] at H
          have c94b0 : decide (a0 ≤ 8329) = true := decide_eq_true c94
          clear c94
          obtain rfl := sI H
          go_enter Tryz.func203, Tryz.ntmps203
          go_wp2
          go_ret
          exact ⟨zP, zD⟩
         ·rw [if_neg c94] at H
          have c94b0 : decide (a0 ≤ 8329) = false := decide_eq_false c94
          clear c94
          by_cases c95 : a0 ≥ 65296
          ·rw [if_pos c95] at H
           have c95b0 : decide (65296 ≤ a0) = true := decide_eq_true c95
           clear c95
           obtain rfl := sI H
           go_enter Tryz.func203, Tryz.ntmps203
           go_wp2
           go_ret
           exact ⟨zP, zD⟩
          ·rw [if_neg c95] at H
           have c95b0 : decide (65296 ≤ a0) = false := decide_eq_false c95
           clear c95
           obtain rfl := sI H
           go_enter Tryz.func203, Tryz.ntmps203
           go_wp2
           go_ret
           exact ⟨zP, zD⟩
        ·rw [if_neg c93] at H
         have c93b0 : decide (8320 ≤ a0) = false := decide_eq_false c93
         clear c93
         by_cases c96 : a0 ≥ 65296
         ·rw [if_pos c96] at H
          have c96b0 : decide (65296 ≤ a0) = true := decide_eq_true c96
          clear c96
          obtain rfl := sI H
          go_enter Tryz.func203, Tryz.ntmps203
          go_wp2
          go_ret
          exact ⟨zP, zD⟩
         ·rw [if_neg c96] at H
          have c96b0 : decide (65296 ≤ a0) = false := decide_eq_false c96
          clear c96
          obtain rfl := sI H
          go_enter Tryz.func203, Tryz.ntmps203
          go_wp2
          go_ret
          exact ⟨zP, zD⟩
    ·rw [if_neg c84] at H
     have c84b0 : decide (1632 ≤ a0) = false := decide_eq_false c84
     clear c84
     by_cases c97 : a0 = 8304
     ·rw [if_pos c97] at H
      have c97b0 : (a0 == 8304) = true := beq_iff_eq.mpr c97
      have c97b1 : (a0 != 8304) = false := bne_eq_false_iff_eq.mpr c97
      clear c97
      obtain rfl := sI H
      go_enter Tryz.func203, Tryz.ntmps203
      go_wp2
      go_ret
      exact ⟨zP, zD⟩
     ·rw [if_neg c97] at H
      have c97b0 : (a0 == 8304) = false := beq_eq_false_iff_ne.mpr c97
      have c97b1 : (a0 != 8304) = true := bne_iff_ne.mpr c97
      by_cases c98 : a0 ≥ 8308
      ·rw [if_pos c98] at H
       have c98b0 : decide (8308 ≤ a0) = true := decide_eq_true c98
       clear c98
       by_cases c99 : a0 ≤ 8313
       ·rw [if_pos c99] at H
        have c99b0 : decide (a0 ≤ 8313) = true := decide_eq_true c99
        clear c99
        obtain rfl := sI H
        go_enter Tryz.func203, Tryz.ntmps203
        go_wp2
        go_ret
        exact ⟨zP, zD⟩
       ·rw [if_neg c99] at H
        have c99b0 : decide (a0 ≤ 8313) = false := decide_eq_false c99
        clear c99
        by_cases c100 : a0 ≥ 8320
        ·rw [if_pos c100] at H
         have c100b0 : decide (8320 ≤ a0) = true := decide_eq_true c100
         clear c100
         by_cases c101 : a0 ≤ 8329
         ·rw [if_pos c101] at H
          have c101b0 : decide (a0 ≤ 8329) = true := decide_eq_true c101
          clear c101
          obtain rfl := sI H
          go_enter Tryz.func203, Tryz.ntmps203
          go_wp2
          go_ret
          exact ⟨zP, zD⟩
         ·rw [if_neg c101] at H
          have c101b0 : decide (a0 ≤ 8329) = false := decide_eq_false c101
          clear c101
          by_cases c102 : a0 ≥ 65296
          ·rw [if_pos c102] at H
           have c102b0 : decide (65296 ≤ a0) = true := decide_eq_true c102
           clear c102
           obtain rfl := sI H
           go_enter Tryz.func203, Tryz.ntmps203
           go_wp2
           go_ret
           exact ⟨zP, zD⟩
          ·rw [if_neg c102] at H
           have c102b0 : decide (65296 ≤ a0) = false := decide_eq_false c102
           clear c102
           obtain rfl := sI H
           go_enter Tryz.func203, Tryz.ntmps203
           go_wp2
           go_ret
           exact ⟨zP, zD⟩
        ·rw [if_neg c100] at H
         have c100b0 : decide (8320 ≤ a0) = false := decide_eq_false c100
         clear c100
         by_cases c103 : a0 ≥ 65296
         ·rw [if_pos c103] at H
          have c103b0 : decide (65296 ≤ a0) = true := decide_eq_true c103
          clear c103
          obtain rfl := sI H
          go_enter Tryz.func203, Tryz.ntmps203
          go_wp2
          go_ret
          exact ⟨zP, zD⟩
         ·rw [if_neg c103] at H
          have c103b0 : decide (65296 ≤ a0) = false := decide_eq_false c103
          clear c103
          obtain rfl := sI H
          go_enter Tryz.func203, Tryz.ntmps203
          go_wp2
          go_ret
          exact ⟨zP, zD⟩
      ·rw [if_neg c98] at H
       have c98b0 : decide (8308 ≤ a0) = false := decide_eq_false c98
       clear c98
       by_cases c104 : a0 ≥ 8320
       ·rw [if_pos c104] at H
        have c104b0 : decide (8320 ≤ a0) = true := decide_eq_true c104
        clear c104
        by_cases c105 : a0 ≤ 8329
        ·rw [if_pos c105] at H
         have c105b0 : decide (a0 ≤ 8329) = true := decide_eq_true c105
         clear c105
         obtain rfl := sI H
         go_enter Tryz.func203, Tryz.ntmps203
         go_wp2
         go_ret
         exact ⟨zP, zD⟩
        ·rw [if_neg c105] at H
         have c105b0 : decide (a0 ≤ 8329) = false := decide_eq_false c105
         clear c105
         by_cases c106 : a0 ≥ 65296
         ·rw [if_pos c106] at H
          have c106b0 : decide (65296 ≤ a0) = true := decide_eq_true c106
          clear c106
          obtain rfl := sI H
          go_enter Tryz.func203, Tryz.ntmps203
          go_wp2
          go_ret
          exact ⟨zP, zD⟩
         ·rw [if_neg c106] at H
          have c106b0 : decide (65296 ≤ a0) = false := decide_eq_false c106
          clear c106
          obtain rfl := sI H
          go_enter Tryz.func203, Tryz.ntmps203
          go_wp2
          go_ret
          exact ⟨zP, zD⟩
       ·rw [if_neg c104] at H
        have c104b0 : decide (8320 ≤ a0) = false := decide_eq_false c104
        clear c104
        by_cases c107 : a0 ≥ 65296
        ·rw [if_pos c107] at H
         have c107b0 : decide (65296 ≤ a0) = true := decide_eq_true c107
         clear c107
         obtain rfl := sI H
         go_enter Tryz.func203, Tryz.ntmps203
         go_wp2
         go_ret
         exact ⟨zP, zD⟩
        ·rw [if_neg c107] at H
         have c107b0 : decide (65296 ≤ a0) = false := decide_eq_false c107
         clear c107
         obtain rfl := sI H
         go_enter Tryz.func203, Tryz.ntmps203
         go_wp2
         go_ret
         exact ⟨zP, zD⟩

end Go.Proofs.YtdgnekknmpfepaaGreatDoor.P
