-- Printed by wip/mk.py (this session's driver over the kit's print) and from wip/manual.
import Derived.Test.YtdgnekknmpfepaaGreatDoorP0
import Derived.Test.YtdgnekknmpfepaaGreatDoorP1
import Derived.Test.YtdgnekknmpfepaaGreatDoorP2
import Derived.Test.YtdgnekknmpfepaaGreatDoorP3
namespace Go.Proofs.YtdgnekknmpfepaaGreatDoor.P
open Go.RowKit Go.Proofs.YtdgnekknmpfepaaGreatDoorW.PrintWords Go.Proofs.YtdgnekknmpfepaaGreatDoorW.PrintLast Go.Proofs.YtdgnekknmpfepaaGreatDoorW.PrintMore
attribute [local go_sem] run_store_float run_store_complex max2_int min2_int max_two min_two max_three min_three max_four min_four   -- for this text's walks alone
set_option linter.unusedVariables false
set_option linter.unusedSimpArgs false

/-! ### chars_bad: function 208 -/
def chars_bad.f (a0 : Int) : Option (Bool) := if a0 ≥ 832 then (if a0 ≤ 833 then (some true) else (if a0 ≥ 57344 then (if a0 ≤ 63743 then (some true) else (if a0 ≥ 64976 then (if a0 ≤ 65007 then (some true) else (if a0 ≥ 65533 then (if a0 ≤ 65535 then (some true) else (if a0 > 65535 then (if a0 ≤ 1114111 then (some ((Go.bits .and .i32 a0 65534) == 65534)) else (some false)) else (some false))) else (if a0 > 65535 then (if a0 ≤ 1114111 then (some ((Go.bits .and .i32 a0 65534) == 65534)) else (some false)) else (some false)))) else (if a0 ≥ 65533 then (if a0 ≤ 65535 then (some true) else (if a0 > 65535 then (if a0 ≤ 1114111 then (some ((Go.bits .and .i32 a0 65534) == 65534)) else (some false)) else (some false))) else (if a0 > 65535 then (if a0 ≤ 1114111 then (some ((Go.bits .and .i32 a0 65534) == 65534)) else (some false)) else (some false))))) else (if a0 ≥ 64976 then (if a0 ≤ 65007 then (some true) else (if a0 ≥ 65533 then (if a0 ≤ 65535 then (some true) else (if a0 > 65535 then (if a0 ≤ 1114111 then (some ((Go.bits .and .i32 a0 65534) == 65534)) else (some false)) else (some false))) else (if a0 > 65535 then (if a0 ≤ 1114111 then (some ((Go.bits .and .i32 a0 65534) == 65534)) else (some false)) else (some false)))) else (if a0 ≥ 65533 then (if a0 ≤ 65535 then (some true) else (if a0 > 65535 then (if a0 ≤ 1114111 then (some ((Go.bits .and .i32 a0 65534) == 65534)) else (some false)) else (some false))) else (if a0 > 65535 then (if a0 ≤ 1114111 then (some ((Go.bits .and .i32 a0 65534) == 65534)) else (some false)) else (some false)))))) else (if a0 ≥ 57344 then (if a0 ≤ 63743 then (some true) else (if a0 ≥ 64976 then (if a0 ≤ 65007 then (some true) else (if a0 ≥ 65533 then (if a0 ≤ 65535 then (some true) else (if a0 > 65535 then (if a0 ≤ 1114111 then (some ((Go.bits .and .i32 a0 65534) == 65534)) else (some false)) else (some false))) else (if a0 > 65535 then (if a0 ≤ 1114111 then (some ((Go.bits .and .i32 a0 65534) == 65534)) else (some false)) else (some false)))) else (if a0 ≥ 65533 then (if a0 ≤ 65535 then (some true) else (if a0 > 65535 then (if a0 ≤ 1114111 then (some ((Go.bits .and .i32 a0 65534) == 65534)) else (some false)) else (some false))) else (if a0 > 65535 then (if a0 ≤ 1114111 then (some ((Go.bits .and .i32 a0 65534) == 65534)) else (some false)) else (some false))))) else (if a0 ≥ 64976 then (if a0 ≤ 65007 then (some true) else (if a0 ≥ 65533 then (if a0 ≤ 65535 then (some true) else (if a0 > 65535 then (if a0 ≤ 1114111 then (some ((Go.bits .and .i32 a0 65534) == 65534)) else (some false)) else (some false))) else (if a0 > 65535 then (if a0 ≤ 1114111 then (some ((Go.bits .and .i32 a0 65534) == 65534)) else (some false)) else (some false)))) else (if a0 ≥ 65533 then (if a0 ≤ 65535 then (some true) else (if a0 > 65535 then (if a0 ≤ 1114111 then (some ((Go.bits .and .i32 a0 65534) == 65534)) else (some false)) else (some false))) else (if a0 > 65535 then (if a0 ≤ 1114111 then (some ((Go.bits .and .i32 a0 65534) == 65534)) else (some false)) else (some false)))))
set_option maxHeartbeats 8000000 in
set_option maxRecDepth 100000 in
theorem chars_bad.calls (a0 : Int) (r : Bool) (w : World) (h : chars_bad.f a0 = some r) :
  Calls Tryz.prog 208 #[.int .i32 a0] w fun e w' => e = .returned (.bool r) ∧ Drawn0 w w' := by
 have H := h
 clear h
 unfold chars_bad.f at H
 by_cases c2 : a0 ≥ 832
 ·rw [if_pos c2] at H
  have c2b0 : decide (832 ≤ a0) = true := decide_eq_true c2
  clear c2
  by_cases c3 : a0 ≤ 833
  ·rw [if_pos c3] at H
   have c3b0 : decide (a0 ≤ 833) = true := decide_eq_true c3
   clear c3
   obtain rfl := sI H
   go_enter Tryz.func208, Tryz.ntmps208
   go_wp2
   go_ret
   exact ⟨zP, zD⟩
  ·rw [if_neg c3] at H
   have c3b0 : decide (a0 ≤ 833) = false := decide_eq_false c3
   clear c3
   by_cases c4 : a0 ≥ 57344
   ·rw [if_pos c4] at H
    have c4b0 : decide (57344 ≤ a0) = true := decide_eq_true c4
    clear c4
    by_cases c5 : a0 ≤ 63743
    ·rw [if_pos c5] at H
     have c5b0 : decide (a0 ≤ 63743) = true := decide_eq_true c5
     clear c5
     obtain rfl := sI H
     go_enter Tryz.func208, Tryz.ntmps208
     go_wp2
     go_ret
     exact ⟨zP, zD⟩
    ·rw [if_neg c5] at H
     have c5b0 : decide (a0 ≤ 63743) = false := decide_eq_false c5
     clear c5
     by_cases c6 : a0 ≥ 64976
     ·rw [if_pos c6] at H
      have c6b0 : decide (64976 ≤ a0) = true := decide_eq_true c6
      clear c6
      by_cases c7 : a0 ≤ 65007
      ·rw [if_pos c7] at H
       have c7b0 : decide (a0 ≤ 65007) = true := decide_eq_true c7
       clear c7
       obtain rfl := sI H
       go_enter Tryz.func208, Tryz.ntmps208
       go_wp2
       go_ret
       exact ⟨zP, zD⟩
      ·rw [if_neg c7] at H
       have c7b0 : decide (a0 ≤ 65007) = false := decide_eq_false c7
       clear c7
       by_cases c8 : a0 ≥ 65533
       ·rw [if_pos c8] at H
        have c8b0 : decide (65533 ≤ a0) = true := decide_eq_true c8
        clear c8
        by_cases c9 : a0 ≤ 65535
        ·rw [if_pos c9] at H
         have c9b0 : decide (a0 ≤ 65535) = true := decide_eq_true c9
         clear c9
         obtain rfl := sI H
         go_enter Tryz.func208, Tryz.ntmps208
         go_wp2
         go_ret
         exact ⟨zP, zD⟩
        ·rw [if_neg c9] at H
         have c9b0 : decide (a0 ≤ 65535) = false := decide_eq_false c9
         clear c9
         by_cases c10 : a0 > 65535
         ·rw [if_pos c10] at H
          have c10b0 : decide (65535 < a0) = true := decide_eq_true c10
          clear c10
          by_cases c11 : a0 ≤ 1114111
          ·rw [if_pos c11] at H
           have c11b0 : decide (a0 ≤ 1114111) = true := decide_eq_true c11
           clear c11
           obtain rfl := sI H
           go_enter Tryz.func208, Tryz.ntmps208
           go_wp2
           go_ret
           exact ⟨zP, zD⟩
          ·rw [if_neg c11] at H
           have c11b0 : decide (a0 ≤ 1114111) = false := decide_eq_false c11
           clear c11
           obtain rfl := sI H
           go_enter Tryz.func208, Tryz.ntmps208
           go_wp2
           go_ret
           exact ⟨zP, zD⟩
         ·rw [if_neg c10] at H
          have c10b0 : decide (65535 < a0) = false := decide_eq_false c10
          clear c10
          obtain rfl := sI H
          go_enter Tryz.func208, Tryz.ntmps208
          go_wp2
          go_ret
          exact ⟨zP, zD⟩
       ·rw [if_neg c8] at H
        have c8b0 : decide (65533 ≤ a0) = false := decide_eq_false c8
        clear c8
        by_cases c12 : a0 > 65535
        ·rw [if_pos c12] at H
         have c12b0 : decide (65535 < a0) = true := decide_eq_true c12
         clear c12
         by_cases c13 : a0 ≤ 1114111
         ·rw [if_pos c13] at H
          have c13b0 : decide (a0 ≤ 1114111) = true := decide_eq_true c13
          clear c13
          obtain rfl := sI H
          go_enter Tryz.func208, Tryz.ntmps208
          go_wp2
          go_ret
          exact ⟨zP, zD⟩
         ·rw [if_neg c13] at H
          have c13b0 : decide (a0 ≤ 1114111) = false := decide_eq_false c13
          clear c13
          obtain rfl := sI H
          go_enter Tryz.func208, Tryz.ntmps208
          go_wp2
          go_ret
          exact ⟨zP, zD⟩
        ·rw [if_neg c12] at H
         have c12b0 : decide (65535 < a0) = false := decide_eq_false c12
         clear c12
         obtain rfl := sI H
         go_enter Tryz.func208, Tryz.ntmps208
         go_wp2
         go_ret
         exact ⟨zP, zD⟩
     ·rw [if_neg c6] at H
      have c6b0 : decide (64976 ≤ a0) = false := decide_eq_false c6
      clear c6
      by_cases c14 : a0 ≥ 65533
      ·rw [if_pos c14] at H
       have c14b0 : decide (65533 ≤ a0) = true := decide_eq_true c14
       clear c14
       by_cases c15 : a0 ≤ 65535
       ·rw [if_pos c15] at H
        have c15b0 : decide (a0 ≤ 65535) = true := decide_eq_true c15
        clear c15
        obtain rfl := sI H
        go_enter Tryz.func208, Tryz.ntmps208
        go_wp2
        go_ret
        exact ⟨zP, zD⟩
       ·rw [if_neg c15] at H
        have c15b0 : decide (a0 ≤ 65535) = false := decide_eq_false c15
        clear c15
        by_cases c16 : a0 > 65535
        ·rw [if_pos c16] at H
         have c16b0 : decide (65535 < a0) = true := decide_eq_true c16
         clear c16
         by_cases c17 : a0 ≤ 1114111
         ·rw [if_pos c17] at H
          have c17b0 : decide (a0 ≤ 1114111) = true := decide_eq_true c17
          clear c17
          obtain rfl := sI H
          go_enter Tryz.func208, Tryz.ntmps208
          go_wp2
          go_ret
          exact ⟨zP, zD⟩
         ·rw [if_neg c17] at H
          have c17b0 : decide (a0 ≤ 1114111) = false := decide_eq_false c17
          clear c17
          obtain rfl := sI H
          go_enter Tryz.func208, Tryz.ntmps208
          go_wp2
          go_ret
          exact ⟨zP, zD⟩
        ·rw [if_neg c16] at H
         have c16b0 : decide (65535 < a0) = false := decide_eq_false c16
         clear c16
         obtain rfl := sI H
         go_enter Tryz.func208, Tryz.ntmps208
         go_wp2
         go_ret
         exact ⟨zP, zD⟩
      ·rw [if_neg c14] at H
       have c14b0 : decide (65533 ≤ a0) = false := decide_eq_false c14
       clear c14
       by_cases c18 : a0 > 65535
       ·rw [if_pos c18] at H
        have c18b0 : decide (65535 < a0) = true := decide_eq_true c18
        clear c18
        by_cases c19 : a0 ≤ 1114111
        ·rw [if_pos c19] at H
         have c19b0 : decide (a0 ≤ 1114111) = true := decide_eq_true c19
         clear c19
         obtain rfl := sI H
         go_enter Tryz.func208, Tryz.ntmps208
         go_wp2
         go_ret
         exact ⟨zP, zD⟩
        ·rw [if_neg c19] at H
         have c19b0 : decide (a0 ≤ 1114111) = false := decide_eq_false c19
         clear c19
         obtain rfl := sI H
         go_enter Tryz.func208, Tryz.ntmps208
         go_wp2
         go_ret
         exact ⟨zP, zD⟩
       ·rw [if_neg c18] at H
        have c18b0 : decide (65535 < a0) = false := decide_eq_false c18
        clear c18
        obtain rfl := sI H
        go_enter Tryz.func208, Tryz.ntmps208
        go_wp2
        go_ret
        exact ⟨zP, zD⟩
   ·rw [if_neg c4] at H
    have c4b0 : decide (57344 ≤ a0) = false := decide_eq_false c4
    clear c4
    by_cases c20 : a0 ≥ 64976
    ·rw [if_pos c20] at H
     have c20b0 : decide (64976 ≤ a0) = true := decide_eq_true c20
     clear c20
     by_cases c21 : a0 ≤ 65007
     ·rw [if_pos c21] at H
      have c21b0 : decide (a0 ≤ 65007) = true := decide_eq_true c21
      clear c21
      obtain rfl := sI H
      go_enter Tryz.func208, Tryz.ntmps208
      go_wp2
      go_ret
      exact ⟨zP, zD⟩
     ·rw [if_neg c21] at H
      have c21b0 : decide (a0 ≤ 65007) = false := decide_eq_false c21
      clear c21
      by_cases c22 : a0 ≥ 65533
      ·rw [if_pos c22] at H
       have c22b0 : decide (65533 ≤ a0) = true := decide_eq_true c22
       clear c22
       by_cases c23 : a0 ≤ 65535
       ·rw [if_pos c23] at H
        have c23b0 : decide (a0 ≤ 65535) = true := decide_eq_true c23
        clear c23
        obtain rfl := sI H
        go_enter Tryz.func208, Tryz.ntmps208
        go_wp2
        go_ret
        exact ⟨zP, zD⟩
       ·rw [if_neg c23] at H
        have c23b0 : decide (a0 ≤ 65535) = false := decide_eq_false c23
        clear c23
        by_cases c24 : a0 > 65535
        ·rw [if_pos c24] at H
         have c24b0 : decide (65535 < a0) = true := decide_eq_true c24
         clear c24
         by_cases c25 : a0 ≤ 1114111
         ·rw [if_pos c25] at H
          have c25b0 : decide (a0 ≤ 1114111) = true := decide_eq_true c25
          clear c25
          obtain rfl := sI H
          go_enter Tryz.func208, Tryz.ntmps208
          go_wp2
          go_ret
          exact ⟨zP, zD⟩
         ·rw [if_neg c25] at H
          have c25b0 : decide (a0 ≤ 1114111) = false := decide_eq_false c25
          clear c25
          obtain rfl := sI H
          go_enter Tryz.func208, Tryz.ntmps208
          go_wp2
          go_ret
          exact ⟨zP, zD⟩
        ·rw [if_neg c24] at H
         have c24b0 : decide (65535 < a0) = false := decide_eq_false c24
         clear c24
         obtain rfl := sI H
         go_enter Tryz.func208, Tryz.ntmps208
         go_wp2
         go_ret
         exact ⟨zP, zD⟩
      ·rw [if_neg c22] at H
       have c22b0 : decide (65533 ≤ a0) = false := decide_eq_false c22
       clear c22
       by_cases c26 : a0 > 65535
       ·rw [if_pos c26] at H
        have c26b0 : decide (65535 < a0) = true := decide_eq_true c26
        clear c26
        by_cases c27 : a0 ≤ 1114111
        ·rw [if_pos c27] at H
         have c27b0 : decide (a0 ≤ 1114111) = true := decide_eq_true c27
         clear c27
         obtain rfl := sI H
         go_enter Tryz.func208, Tryz.ntmps208
         go_wp2
         go_ret
         exact ⟨zP, zD⟩
        ·rw [if_neg c27] at H
         have c27b0 : decide (a0 ≤ 1114111) = false := decide_eq_false c27
         clear c27
         obtain rfl := sI H
         go_enter Tryz.func208, Tryz.ntmps208
         go_wp2
         go_ret
         exact ⟨zP, zD⟩
       ·rw [if_neg c26] at H
        have c26b0 : decide (65535 < a0) = false := decide_eq_false c26
        clear c26
        obtain rfl := sI H
        go_enter Tryz.func208, Tryz.ntmps208
        go_wp2
        go_ret
        exact ⟨zP, zD⟩
    ·rw [if_neg c20] at H
     have c20b0 : decide (64976 ≤ a0) = false := decide_eq_false c20
     clear c20
     by_cases c28 : a0 ≥ 65533
     ·rw [if_pos c28] at H
      have c28b0 : decide (65533 ≤ a0) = true := decide_eq_true c28
      clear c28
      by_cases c29 : a0 ≤ 65535
      ·rw [if_pos c29] at H
       have c29b0 : decide (a0 ≤ 65535) = true := decide_eq_true c29
       clear c29
       obtain rfl := sI H
       go_enter Tryz.func208, Tryz.ntmps208
       go_wp2
       go_ret
       exact ⟨zP, zD⟩
      ·rw [if_neg c29] at H
       have c29b0 : decide (a0 ≤ 65535) = false := decide_eq_false c29
       clear c29
       by_cases c30 : a0 > 65535
       ·rw [if_pos c30] at H
        have c30b0 : decide (65535 < a0) = true := decide_eq_true c30
        clear c30
        by_cases c31 : a0 ≤ 1114111
        ·rw [if_pos c31] at H
         have c31b0 : decide (a0 ≤ 1114111) = true := decide_eq_true c31
         clear c31
         obtain rfl := sI H
         go_enter Tryz.func208, Tryz.ntmps208
         go_wp2
         go_ret
         exact ⟨zP, zD⟩
        ·rw [if_neg c31] at H
         have c31b0 : decide (a0 ≤ 1114111) = false := decide_eq_false c31
         clear c31
         obtain rfl := sI H
         go_enter Tryz.func208, Tryz.ntmps208
         go_wp2
         go_ret
         exact ⟨zP, zD⟩
       ·rw [if_neg c30] at H
        have c30b0 : decide (65535 < a0) = false := decide_eq_false c30
        clear c30
        obtain rfl := sI H
        go_enter Tryz.func208, Tryz.ntmps208
        go_wp2
        go_ret
        exact ⟨zP, zD⟩
     ·rw [if_neg c28] at H
      have c28b0 : decide (65533 ≤ a0) = false := decide_eq_false c28
      clear c28
      by_cases c32 : a0 > 65535
      ·rw [if_pos c32] at H
       have c32b0 : decide (65535 < a0) = true := decide_eq_true c32
       clear c32
       by_cases c33 : a0 ≤ 1114111
       ·rw [if_pos c33] at H
        have c33b0 : decide (a0 ≤ 1114111) = true := decide_eq_true c33
        clear c33
        obtain rfl := sI H
        go_enter Tryz.func208, Tryz.ntmps208
        go_wp2
        go_ret
        exact ⟨zP, zD⟩
       ·rw [if_neg c33] at H
        have c33b0 : decide (a0 ≤ 1114111) = false := decide_eq_false c33
        clear c33
        obtain rfl := sI H
        go_enter Tryz.func208, Tryz.ntmps208
        go_wp2
        go_ret
        exact ⟨zP, zD⟩
      ·rw [if_neg c32] at H
       have c32b0 : decide (65535 < a0) = false := decide_eq_false c32
       clear c32
       obtain rfl := sI H
       go_enter Tryz.func208, Tryz.ntmps208
       go_wp2
       go_ret
       exact ⟨zP, zD⟩
 ·rw [if_neg c2] at H
  have c2b0 : decide (832 ≤ a0) = false := decide_eq_false c2
  clear c2
  by_cases c34 : a0 ≥ 57344
  ·rw [if_pos c34] at H
   have c34b0 : decide (57344 ≤ a0) = true := decide_eq_true c34
   clear c34
   by_cases c35 : a0 ≤ 63743
   ·rw [if_pos c35] at H
    have c35b0 : decide (a0 ≤ 63743) = true := decide_eq_true c35
    clear c35
    obtain rfl := sI H
    go_enter Tryz.func208, Tryz.ntmps208
    go_wp2
    go_ret
    exact ⟨zP, zD⟩
   ·rw [if_neg c35] at H
    have c35b0 : decide (a0 ≤ 63743) = false := decide_eq_false c35
    clear c35
    by_cases c36 : a0 ≥ 64976
    ·rw [if_pos c36] at H
     have c36b0 : decide (64976 ≤ a0) = true := decide_eq_true c36
     clear c36
     by_cases c37 : a0 ≤ 65007
     ·rw [if_pos c37] at H
      have c37b0 : decide (a0 ≤ 65007) = true := decide_eq_true c37
      clear c37
      obtain rfl := sI H
      go_enter Tryz.func208, Tryz.ntmps208
      go_wp2
      go_ret
      exact ⟨zP, zD⟩
     ·rw [if_neg c37] at H
      have c37b0 : decide (a0 ≤ 65007) = false := decide_eq_false c37
      clear c37
      by_cases c38 : a0 ≥ 65533
      ·rw [if_pos c38] at H
       have c38b0 : decide (65533 ≤ a0) = true := decide_eq_true c38
       clear c38
       by_cases c39 : a0 ≤ 65535
       ·rw [if_pos c39] at H
        have c39b0 : decide (a0 ≤ 65535) = true := decide_eq_true c39
        clear c39
        obtain rfl := sI H
        go_enter Tryz.func208, Tryz.ntmps208
        go_wp2
        go_ret
        exact ⟨zP, zD⟩
       ·rw [if_neg c39] at H
        have c39b0 : decide (a0 ≤ 65535) = false := decide_eq_false c39
        clear c39
        by_cases c40 : a0 > 65535
        ·rw [if_pos c40] at H
         have c40b0 : decide (65535 < a0) = true := decide_eq_true c40
         clear c40
         by_cases c41 : a0 ≤ 1114111
         ·rw [if_pos c41] at H
          have c41b0 : decide (a0 ≤ 1114111) = true := decide_eq_true c41
          clear c41
          obtain rfl := sI H
          go_enter Tryz.func208, Tryz.ntmps208
          go_wp2
          go_ret
          exact ⟨zP, zD⟩
         ·rw [if_neg c41] at H
          have c41b0 : decide (a0 ≤ 1114111) = false := decide_eq_false c41
          clear c41
          obtain rfl := sI H
          go_enter Tryz.func208, Tryz.ntmps208
          go_wp2
          go_ret
          exact ⟨zP, zD⟩
        ·rw [if_neg c40] at H
         have c40b0 : decide (65535 < a0) = false := decide_eq_false c40
         clear c40
         obtain rfl := sI H
         go_enter Tryz.func208, Tryz.ntmps208
         go_wp2
         go_ret
         exact ⟨zP, zD⟩
      ·rw [if_neg c38] at H
       have c38b0 : decide (65533 ≤ a0) = false := decide_eq_false c38
       clear c38
       by_cases c42 : a0 > 65535
       ·rw [if_pos c42] at H
        have c42b0 : decide (65535 < a0) = true := decide_eq_true c42
        clear c42
        by_cases c43 : a0 ≤ 1114111
        ·rw [if_pos c43] at H
         have c43b0 : decide (a0 ≤ 1114111) = true := decide_eq_true c43
         clear c43
         obtain rfl := sI H
         go_enter Tryz.func208, Tryz.ntmps208
         go_wp2
         go_ret
         exact ⟨zP, zD⟩
        ·rw [if_neg c43] at H
         have c43b0 : decide (a0 ≤ 1114111) = false := decide_eq_false c43
         clear c43
         obtain rfl := sI H
         go_enter Tryz.func208, Tryz.ntmps208
         go_wp2
         go_ret
         exact ⟨zP, zD⟩
       ·rw [if_neg c42] at H
        have c42b0 : decide (65535 < a0) = false := decide_eq_false c42
        clear c42
        obtain rfl := sI H
        go_enter Tryz.func208, Tryz.ntmps208
        go_wp2
        go_ret
        exact ⟨zP, zD⟩
    ·rw [if_neg c36] at H
     have c36b0 : decide (64976 ≤ a0) = false := decide_eq_false c36
     clear c36
     by_cases c44 : a0 ≥ 65533
     ·rw [if_pos c44] at H
      have c44b0 : decide (65533 ≤ a0) = true := decide_eq_true c44
      clear c44
      by_cases c45 : a0 ≤ 65535
      ·rw [if_pos c45] at H
       have c45b0 : decide (a0 ≤ 65535) = true := decide_eq_true c45
       clear c45
       obtain rfl := sI H
       go_enter Tryz.func208, Tryz.ntmps208
       go_wp2
       go_ret
       exact ⟨zP, zD⟩
      ·rw [if_neg c45] at H
       have c45b0 : decide (a0 ≤ 65535) = false := decide_eq_false c45
       clear c45
       by_cases c46 : a0 > 65535
       ·rw [if_pos c46] at H
        have c46b0 : decide (65535 < a0) = true := decide_eq_true c46
        clear c46
        by_cases c47 : a0 ≤ 1114111
        ·rw [if_pos c47] at H
         have c47b0 : decide (a0 ≤ 1114111) = true := decide_eq_true c47
         clear c47
         obtain rfl := sI H
         go_enter Tryz.func208, Tryz.ntmps208
         go_wp2
         go_ret
         exact ⟨zP, zD⟩
        ·rw [if_neg c47] at H
         have c47b0 : decide (a0 ≤ 1114111) = false := decide_eq_false c47
         clear c47
         obtain rfl := sI H
         go_enter Tryz.func208, Tryz.ntmps208
         go_wp2
         go_ret
         exact ⟨zP, zD⟩
       ·rw [if_neg c46] at H
        have c46b0 : decide (65535 < a0) = false := decide_eq_false c46
        clear c46
        obtain rfl := sI H
        go_enter Tryz.func208, Tryz.ntmps208
        go_wp2
        go_ret
        exact ⟨zP, zD⟩
     ·rw [if_neg c44] at H
      have c44b0 : decide (65533 ≤ a0) = false := decide_eq_false c44
      clear c44
      by_cases c48 : a0 > 65535
      ·rw [if_pos c48] at H
       have c48b0 : decide (65535 < a0) = true := decide_eq_true c48
       clear c48
       by_cases c49 : a0 ≤ 1114111
       ·rw [if_pos c49] at H
        have c49b0 : decide (a0 ≤ 1114111) = true := decide_eq_true c49
        clear c49
        obtain rfl := sI H
        go_enter Tryz.func208, Tryz.ntmps208
        go_wp2
        go_ret
        exact ⟨zP, zD⟩
       ·rw [if_neg c49] at H
        have c49b0 : decide (a0 ≤ 1114111) = false := decide_eq_false c49
        clear c49
        obtain rfl := sI H
        go_enter Tryz.func208, Tryz.ntmps208
        go_wp2
        go_ret
        exact ⟨zP, zD⟩
      ·rw [if_neg c48] at H
       have c48b0 : decide (65535 < a0) = false := decide_eq_false c48
       clear c48
       obtain rfl := sI H
       go_enter Tryz.func208, Tryz.ntmps208
       go_wp2
       go_ret
       exact ⟨zP, zD⟩
  ·rw [if_neg c34] at H
   have c34b0 : decide (57344 ≤ a0) = false := decide_eq_false c34
   clear c34
   by_cases c50 : a0 ≥ 64976
   ·rw [if_pos c50] at H
    have c50b0 : decide (64976 ≤ a0) = true := decide_eq_true c50
    clear c50
    by_cases c51 : a0 ≤ 65007
    ·rw [if_pos c51] at H
     have c51b0 : decide (a0 ≤ 65007) = true := decide_eq_true c51
     clear c51
     obtain rfl := sI H
     go_enter Tryz.func208, Tryz.ntmps208
     go_wp2
     go_ret
     exact ⟨zP, zD⟩
    ·rw [if_neg c51] at H
     have c51b0 : decide (a0 ≤ 65007) = false := decide_eq_false c51
     clear c51
     by_cases c52 : a0 ≥ 65533
     ·rw [if_pos c52] at H
      have c52b0 : decide (65533 ≤ a0) = true := decide_eq_true c52
      clear c52
      by_cases c53 : a0 ≤ 65535
      ·rw [if_pos c53] at H
       have c53b0 : decide (a0 ≤ 65535) = true := decide_eq_true c53
       clear c53
       obtain rfl := sI H
       go_enter Tryz.func208, Tryz.ntmps208
       go_wp2
       go_ret
       exact ⟨zP, zD⟩
      ·rw [if_neg c53] at H
       have c53b0 : decide (a0 ≤ 65535) = false := decide_eq_false c53
       clear c53
       by_cases c54 : a0 > 65535
       ·rw [if_pos c54] at H
        have c54b0 : decide (65535 < a0) = true := decide_eq_true c54
        clear c54
        by_cases c55 : a0 ≤ 1114111
        ·rw [if_pos c55] at H
         have c55b0 : decide (a0 ≤ 1114111) = true := decide_eq_true c55
         clear c55
         obtain rfl := sI H
         go_enter Tryz.func208, Tryz.ntmps208
         go_wp2
         go_ret
         exact ⟨zP, zD⟩
        ·rw [if_neg c55] at H
         have c55b0 : decide (a0 ≤ 1114111) = false := decide_eq_false c55
         clear c55
         obtain rfl := sI H
         go_enter Tryz.func208, Tryz.ntmps208
         go_wp2
         go_ret
         exact ⟨zP, zD⟩
       ·rw [if_neg c54] at H
        have c54b0 : decide (65535 < a0) = false := decide_eq_false c54
        clear c54
        obtain rfl := sI H
        go_enter Tryz.func208, Tryz.ntmps208
        go_wp2
        go_ret
        exact ⟨zP, zD⟩
     ·rw [if_neg c52] at H
      have c52b0 : decide (65533 ≤ a0) = false := decide_eq_false c52
      clear c52
      by_cases c56 : a0 > 65535
      ·rw [if_pos c56] at H
       have c56b0 : decide (65535 < a0) = true := decide_eq_true c56
       clear c56
       by_cases c57 : a0 ≤ 1114111
       ·rw [if_pos c57] at H
        have c57b0 : decide (a0 ≤ 1114111) = true := decide_eq_true c57
        clear c57
        obtain rfl := sI H
        go_enter Tryz.func208, Tryz.ntmps208
        go_wp2
        go_ret
        exact ⟨zP, zD⟩
       ·rw [if_neg c57] at H
        have c57b0 : decide (a0 ≤ 1114111) = false := decide_eq_false c57
        clear c57
        obtain rfl := sI H
        go_enter Tryz.func208, Tryz.ntmps208
        go_wp2
        go_ret
        exact ⟨zP, zD⟩
      ·rw [if_neg c56] at H
       have c56b0 : decide (65535 < a0) = false := decide_eq_false c56
       clear c56
       obtain rfl := sI H
       go_enter Tryz.func208, Tryz.ntmps208
       go_wp2
       go_ret
       exact ⟨zP, zD⟩
   ·rw [if_neg c50] at H
    have c50b0 : decide (64976 ≤ a0) = false := decide_eq_false c50
    clear c50
    by_cases c58 : a0 ≥ 65533
    ·rw [if_pos c58] at H
     have c58b0 : decide (65533 ≤ a0) = true := decide_eq_true c58
     clear c58
     by_cases c59 : a0 ≤ 65535
     ·rw [if_pos c59] at H
      have c59b0 : decide (a0 ≤ 65535) = true := decide_eq_true c59
      clear c59
      obtain rfl := sI H
      go_enter Tryz.func208, Tryz.ntmps208
      go_wp2
      go_ret
      exact ⟨zP, zD⟩
     ·rw [if_neg c59] at H
      have c59b0 : decide (a0 ≤ 65535) = false := decide_eq_false c59
      clear c59
      by_cases c60 : a0 > 65535
      ·rw [if_pos c60] at H
       have c60b0 : decide (65535 < a0) = true := decide_eq_true c60
       clear c60
       by_cases c61 : a0 ≤ 1114111
       ·rw [if_pos c61] at H
        have c61b0 : decide (a0 ≤ 1114111) = true := decide_eq_true c61
        clear c61
        obtain rfl := sI H
        go_enter Tryz.func208, Tryz.ntmps208
        go_wp2
        go_ret
        exact ⟨zP, zD⟩
       ·rw [if_neg c61] at H
        have c61b0 : decide (a0 ≤ 1114111) = false := decide_eq_false c61
        clear c61
        obtain rfl := sI H
        go_enter Tryz.func208, Tryz.ntmps208
        go_wp2
        go_ret
        exact ⟨zP, zD⟩
      ·rw [if_neg c60] at H
       have c60b0 : decide (65535 < a0) = false := decide_eq_false c60
       clear c60
       obtain rfl := sI H
       go_enter Tryz.func208, Tryz.ntmps208
       go_wp2
       go_ret
       exact ⟨zP, zD⟩
    ·rw [if_neg c58] at H
     have c58b0 : decide (65533 ≤ a0) = false := decide_eq_false c58
     clear c58
     by_cases c62 : a0 > 65535
     ·rw [if_pos c62] at H
      have c62b0 : decide (65535 < a0) = true := decide_eq_true c62
      clear c62
      by_cases c63 : a0 ≤ 1114111
      ·rw [if_pos c63] at H
       have c63b0 : decide (a0 ≤ 1114111) = true := decide_eq_true c63
       clear c63
       obtain rfl := sI H
       go_enter Tryz.func208, Tryz.ntmps208
       go_wp2
       go_ret
       exact ⟨zP, zD⟩
      ·rw [if_neg c63] at H
       have c63b0 : decide (a0 ≤ 1114111) = false := decide_eq_false c63
       clear c63
       obtain rfl := sI H
       go_enter Tryz.func208, Tryz.ntmps208
       go_wp2
       go_ret
       exact ⟨zP, zD⟩
     ·rw [if_neg c62] at H
      have c62b0 : decide (65535 < a0) = false := decide_eq_false c62
      clear c62
      obtain rfl := sI H
      go_enter Tryz.func208, Tryz.ntmps208
      go_wp2
      go_ret
      exact ⟨zP, zD⟩

/-! ### chars_Kind: function 173 -/
def chars_Kind.f (a0 : Int) : Option (Int) := (chars_letter.f a0).bind fun t110 => (if t110 = true then (some 1) else ((chars_digit.f a0).bind fun t111 => (if t111 = true then (some 2) else ((chars_mark.f a0).bind fun t112 => (if t112 = true then (some 3) else ((chars_sign.f a0).bind fun t113 => (if t113 = true then (some 4) else ((chars_space.f a0).bind fun t114 => (if t114 = true then (some 5) else ((chars_gone.f a0).bind fun t115 => (if t115 = true then (some 6) else ((chars_bad.f a0).bind fun t116 => (if t116 = true then (some 7) else (some 0))))))))))))))
set_option maxHeartbeats 8000000 in
set_option maxRecDepth 100000 in
theorem chars_Kind.calls (a0 : Int) (r : Int) (w : World) (h : chars_Kind.f a0 = some r) :
  Calls Tryz.prog 173 #[.int .i32 a0] w fun e w' => e = .returned (.int .i64 r) ∧ Drawn0 w w' := by
 have H := h
 clear h
 unfold chars_Kind.f at H
 obtain ⟨t110, A2, H⟩ := zO H
 by_cases c3 : t110 = true
 ·subst c3
  rw [if_pos rfl] at H
  obtain rfl := sI H
  go_enter Tryz.func173, Tryz.ntmps173
  go_wp2_with (first | ((with_reducible refine gate_callee (f := 202) rfl ?_); refine goesL_ (some 5) rfl rfl Tryz.func202 zK rfl #[.int .i32 a0] rfl zM ?_; (with_reducible refine (chars_letter.calls a0 true _ A2.out).mono ?_); rintro e w' ⟨rfl, ⟨nd, rfl⟩⟩; refine ⟨_, rfl, ?_⟩))
  go_ret
  exact ⟨zP, zD⟩
 ·replace c3 := Bool.eq_false_iff.mpr c3
  subst c3
  rw [if_neg (show ¬ (false = true) by decide)] at H
  obtain ⟨t111, A4, H⟩ := zO H
  by_cases c5 : t111 = true
  ·subst c5
   rw [if_pos rfl] at H
   obtain rfl := sI H
   go_enter Tryz.func173, Tryz.ntmps173
   go_wp2_with (first | ((with_reducible refine gate_callee (f := 202) rfl ?_); refine goesL_ (some 5) rfl rfl Tryz.func202 zK rfl #[.int .i32 a0] rfl zM ?_; (with_reducible refine (chars_letter.calls a0 false _ A2.out).mono ?_); rintro e w' ⟨rfl, ⟨nd, rfl⟩⟩; refine ⟨_, rfl, ?_⟩) | ((with_reducible refine gate_callee (f := 203) rfl ?_); refine goesL_ (some 8) rfl rfl Tryz.func203 zK rfl #[.int .i32 a0] rfl zM ?_; (with_reducible refine (chars_digit.calls a0 true _ A4.out).mono ?_); rintro e w' ⟨rfl, ⟨nd, rfl⟩⟩; refine ⟨_, rfl, ?_⟩))
   go_ret
   exact ⟨zP, zD⟩
  ·replace c5 := Bool.eq_false_iff.mpr c5
   subst c5
   rw [if_neg (show ¬ (false = true) by decide)] at H
   obtain ⟨t112, A6, H⟩ := zO H
   by_cases c7 : t112 = true
   ·subst c7
    rw [if_pos rfl] at H
    obtain rfl := sI H
    go_enter Tryz.func173, Tryz.ntmps173
    go_wp2_with (first | ((with_reducible refine gate_callee (f := 202) rfl ?_); refine goesL_ (some 5) rfl rfl Tryz.func202 zK rfl #[.int .i32 a0] rfl zM ?_; (with_reducible refine (chars_letter.calls a0 false _ A2.out).mono ?_); rintro e w' ⟨rfl, ⟨nd, rfl⟩⟩; refine ⟨_, rfl, ?_⟩) | ((with_reducible refine gate_callee (f := 203) rfl ?_); refine goesL_ (some 8) rfl rfl Tryz.func203 zK rfl #[.int .i32 a0] rfl zM ?_; (with_reducible refine (chars_digit.calls a0 false _ A4.out).mono ?_); rintro e w' ⟨rfl, ⟨nd, rfl⟩⟩; refine ⟨_, rfl, ?_⟩) | ((with_reducible refine gate_callee (f := 204) rfl ?_); refine goesL_ (some 11) rfl rfl Tryz.func204 zK rfl #[.int .i32 a0] rfl zM ?_; (with_reducible refine (chars_mark.calls a0 true _ A6.out).mono ?_); rintro e w' ⟨rfl, ⟨nd, rfl⟩⟩; refine ⟨_, rfl, ?_⟩))
    go_ret
    exact ⟨zP, zD⟩
   ·replace c7 := Bool.eq_false_iff.mpr c7
    subst c7
    rw [if_neg (show ¬ (false = true) by decide)] at H
    obtain ⟨t113, A8, H⟩ := zO H
    by_cases c9 : t113 = true
    ·subst c9
     rw [if_pos rfl] at H
     obtain rfl := sI H
     go_enter Tryz.func173, Tryz.ntmps173
     go_wp2_with (first | ((with_reducible refine gate_callee (f := 202) rfl ?_); refine goesL_ (some 5) rfl rfl Tryz.func202 zK rfl #[.int .i32 a0] rfl zM ?_; (with_reducible refine (chars_letter.calls a0 false _ A2.out).mono ?_); rintro e w' ⟨rfl, ⟨nd, rfl⟩⟩; refine ⟨_, rfl, ?_⟩) | ((with_reducible refine gate_callee (f := 203) rfl ?_); refine goesL_ (some 8) rfl rfl Tryz.func203 zK rfl #[.int .i32 a0] rfl zM ?_; (with_reducible refine (chars_digit.calls a0 false _ A4.out).mono ?_); rintro e w' ⟨rfl, ⟨nd, rfl⟩⟩; refine ⟨_, rfl, ?_⟩) | ((with_reducible refine gate_callee (f := 204) rfl ?_); refine goesL_ (some 11) rfl rfl Tryz.func204 zK rfl #[.int .i32 a0] rfl zM ?_; (with_reducible refine (chars_mark.calls a0 false _ A6.out).mono ?_); rintro e w' ⟨rfl, ⟨nd, rfl⟩⟩; refine ⟨_, rfl, ?_⟩) | ((with_reducible refine gate_callee (f := 205) rfl ?_); refine goesL_ (some 14) rfl rfl Tryz.func205 zK rfl #[.int .i32 a0] rfl zM ?_; (with_reducible refine (chars_sign.calls a0 true _ A8.out).mono ?_); rintro e w' ⟨rfl, ⟨nd, rfl⟩⟩; refine ⟨_, rfl, ?_⟩))
     go_ret
     exact ⟨zP, zD⟩
    ·replace c9 := Bool.eq_false_iff.mpr c9
     subst c9
     rw [if_neg (show ¬ (false = true) by decide)] at H
     obtain ⟨t114, A10, H⟩ := zO H
     by_cases c11 : t114 = true
     ·subst c11
      rw [if_pos rfl] at H
      obtain rfl := sI H
      go_enter Tryz.func173, Tryz.ntmps173
      go_wp2_with (first | ((with_reducible refine gate_callee (f := 202) rfl ?_); refine goesL_ (some 5) rfl rfl Tryz.func202 zK rfl #[.int .i32 a0] rfl zM ?_; (with_reducible refine (chars_letter.calls a0 false _ A2.out).mono ?_); rintro e w' ⟨rfl, ⟨nd, rfl⟩⟩; refine ⟨_, rfl, ?_⟩) | ((with_reducible refine gate_callee (f := 203) rfl ?_); refine goesL_ (some 8) rfl rfl Tryz.func203 zK rfl #[.int .i32 a0] rfl zM ?_; (with_reducible refine (chars_digit.calls a0 false _ A4.out).mono ?_); rintro e w' ⟨rfl, ⟨nd, rfl⟩⟩; refine ⟨_, rfl, ?_⟩) | ((with_reducible refine gate_callee (f := 204) rfl ?_); refine goesL_ (some 11) rfl rfl Tryz.func204 zK rfl #[.int .i32 a0] rfl zM ?_; (with_reducible refine (chars_mark.calls a0 false _ A6.out).mono ?_); rintro e w' ⟨rfl, ⟨nd, rfl⟩⟩; refine ⟨_, rfl, ?_⟩) | ((with_reducible refine gate_callee (f := 205) rfl ?_); refine goesL_ (some 14) rfl rfl Tryz.func205 zK rfl #[.int .i32 a0] rfl zM ?_; (with_reducible refine (chars_sign.calls a0 false _ A8.out).mono ?_); rintro e w' ⟨rfl, ⟨nd, rfl⟩⟩; refine ⟨_, rfl, ?_⟩) | ((with_reducible refine gate_callee (f := 206) rfl ?_); refine goesL_ (some 17) rfl rfl Tryz.func206 zK rfl #[.int .i32 a0] rfl zM ?_; (with_reducible refine (chars_space.calls a0 true _ A10.out).mono ?_); rintro e w' ⟨rfl, ⟨nd, rfl⟩⟩; refine ⟨_, rfl, ?_⟩))
      go_ret
      exact ⟨zP, zD⟩
     ·replace c11 := Bool.eq_false_iff.mpr c11
      subst c11
      rw [if_neg (show ¬ (false = true) by decide)] at H
      obtain ⟨t115, A12, H⟩ := zO H
      by_cases c13 : t115 = true
      ·subst c13
       rw [if_pos rfl] at H
       obtain rfl := sI H
       go_enter Tryz.func173, Tryz.ntmps173
       go_wp2_with (first | ((with_reducible refine gate_callee (f := 202) rfl ?_); refine goesL_ (some 5) rfl rfl Tryz.func202 zK rfl #[.int .i32 a0] rfl zM ?_; (with_reducible refine (chars_letter.calls a0 false _ A2.out).mono ?_); rintro e w' ⟨rfl, ⟨nd, rfl⟩⟩; refine ⟨_, rfl, ?_⟩) | ((with_reducible refine gate_callee (f := 203) rfl ?_); refine goesL_ (some 8) rfl rfl Tryz.func203 zK rfl #[.int .i32 a0] rfl zM ?_; (with_reducible refine (chars_digit.calls a0 false _ A4.out).mono ?_); rintro e w' ⟨rfl, ⟨nd, rfl⟩⟩; refine ⟨_, rfl, ?_⟩) | ((with_reducible refine gate_callee (f := 204) rfl ?_); refine goesL_ (some 11) rfl rfl Tryz.func204 zK rfl #[.int .i32 a0] rfl zM ?_; (with_reducible refine (chars_mark.calls a0 false _ A6.out).mono ?_); rintro e w' ⟨rfl, ⟨nd, rfl⟩⟩; refine ⟨_, rfl, ?_⟩) | ((with_reducible refine gate_callee (f := 205) rfl ?_); refine goesL_ (some 14) rfl rfl Tryz.func205 zK rfl #[.int .i32 a0] rfl zM ?_; (with_reducible refine (chars_sign.calls a0 false _ A8.out).mono ?_); rintro e w' ⟨rfl, ⟨nd, rfl⟩⟩; refine ⟨_, rfl, ?_⟩) | ((with_reducible refine gate_callee (f := 206) rfl ?_); refine goesL_ (some 17) rfl rfl Tryz.func206 zK rfl #[.int .i32 a0] rfl zM ?_; (with_reducible refine (chars_space.calls a0 false _ A10.out).mono ?_); rintro e w' ⟨rfl, ⟨nd, rfl⟩⟩; refine ⟨_, rfl, ?_⟩) | ((with_reducible refine gate_callee (f := 207) rfl ?_); refine goesL_ (some 20) rfl rfl Tryz.func207 zK rfl #[.int .i32 a0] rfl zM ?_; (with_reducible refine (chars_gone.calls a0 true _ A12.out).mono ?_); rintro e w' ⟨rfl, ⟨nd, rfl⟩⟩; refine ⟨_, rfl, ?_⟩))
       go_ret
       exact ⟨zP, zD⟩
      ·replace c13 := Bool.eq_false_iff.mpr c13
       subst c13
       rw [if_neg (show ¬ (false = true) by decide)] at H
       obtain ⟨t116, A14, H⟩ := zO H
       by_cases c15 : t116 = true
       ·subst c15
        rw [if_pos rfl] at H
        obtain rfl := sI H
        go_enter Tryz.func173, Tryz.ntmps173
        go_wp2_with (first | ((with_reducible refine gate_callee (f := 202) rfl ?_); refine goesL_ (some 5) rfl rfl Tryz.func202 zK rfl #[.int .i32 a0] rfl zM ?_; (with_reducible refine (chars_letter.calls a0 false _ A2.out).mono ?_); rintro e w' ⟨rfl, ⟨nd, rfl⟩⟩; refine ⟨_, rfl, ?_⟩) | ((with_reducible refine gate_callee (f := 203) rfl ?_); refine goesL_ (some 8) rfl rfl Tryz.func203 zK rfl #[.int .i32 a0] rfl zM ?_; (with_reducible refine (chars_digit.calls a0 false _ A4.out).mono ?_); rintro e w' ⟨rfl, ⟨nd, rfl⟩⟩; refine ⟨_, rfl, ?_⟩) | ((with_reducible refine gate_callee (f := 204) rfl ?_); refine goesL_ (some 11) rfl rfl Tryz.func204 zK rfl #[.int .i32 a0] rfl zM ?_; (with_reducible refine (chars_mark.calls a0 false _ A6.out).mono ?_); rintro e w' ⟨rfl, ⟨nd, rfl⟩⟩; refine ⟨_, rfl, ?_⟩) | ((with_reducible refine gate_callee (f := 205) rfl ?_); refine goesL_ (some 14) rfl rfl Tryz.func205 zK rfl #[.int .i32 a0] rfl zM ?_; (with_reducible refine (chars_sign.calls a0 false _ A8.out).mono ?_); rintro e w' ⟨rfl, ⟨nd, rfl⟩⟩; refine ⟨_, rfl, ?_⟩) | ((with_reducible refine gate_callee (f := 206) rfl ?_); refine goesL_ (some 17) rfl rfl Tryz.func206 zK rfl #[.int .i32 a0] rfl zM ?_; (with_reducible refine (chars_space.calls a0 false _ A10.out).mono ?_); rintro e w' ⟨rfl, ⟨nd, rfl⟩⟩; refine ⟨_, rfl, ?_⟩) | ((with_reducible refine gate_callee (f := 207) rfl ?_); refine goesL_ (some 20) rfl rfl Tryz.func207 zK rfl #[.int .i32 a0] rfl zM ?_; (with_reducible refine (chars_gone.calls a0 false _ A12.out).mono ?_); rintro e w' ⟨rfl, ⟨nd, rfl⟩⟩; refine ⟨_, rfl, ?_⟩) | ((with_reducible refine gate_callee (f := 208) rfl ?_); refine goesL_ (some 23) rfl rfl Tryz.func208 zK rfl #[.int .i32 a0] rfl zM ?_; (with_reducible refine (chars_bad.calls a0 true _ A14.out).mono ?_); rintro e w' ⟨rfl, ⟨nd, rfl⟩⟩; refine ⟨_, rfl, ?_⟩))
        go_ret
        exact ⟨zP, zD⟩
       ·replace c15 := Bool.eq_false_iff.mpr c15
        subst c15
        rw [if_neg (show ¬ (false = true) by decide)] at H
        obtain rfl := sI H
        go_enter Tryz.func173, Tryz.ntmps173
        go_wp2_with (first | ((with_reducible refine gate_callee (f := 202) rfl ?_); refine goesL_ (some 5) rfl rfl Tryz.func202 zK rfl #[.int .i32 a0] rfl zM ?_; (with_reducible refine (chars_letter.calls a0 false _ A2.out).mono ?_); rintro e w' ⟨rfl, ⟨nd, rfl⟩⟩; refine ⟨_, rfl, ?_⟩) | ((with_reducible refine gate_callee (f := 203) rfl ?_); refine goesL_ (some 8) rfl rfl Tryz.func203 zK rfl #[.int .i32 a0] rfl zM ?_; (with_reducible refine (chars_digit.calls a0 false _ A4.out).mono ?_); rintro e w' ⟨rfl, ⟨nd, rfl⟩⟩; refine ⟨_, rfl, ?_⟩) | ((with_reducible refine gate_callee (f := 204) rfl ?_); refine goesL_ (some 11) rfl rfl Tryz.func204 zK rfl #[.int .i32 a0] rfl zM ?_; (with_reducible refine (chars_mark.calls a0 false _ A6.out).mono ?_); rintro e w' ⟨rfl, ⟨nd, rfl⟩⟩; refine ⟨_, rfl, ?_⟩) | ((with_reducible refine gate_callee (f := 205) rfl ?_); refine goesL_ (some 14) rfl rfl Tryz.func205 zK rfl #[.int .i32 a0] rfl zM ?_; (with_reducible refine (chars_sign.calls a0 false _ A8.out).mono ?_); rintro e w' ⟨rfl, ⟨nd, rfl⟩⟩; refine ⟨_, rfl, ?_⟩) | ((with_reducible refine gate_callee (f := 206) rfl ?_); refine goesL_ (some 17) rfl rfl Tryz.func206 zK rfl #[.int .i32 a0] rfl zM ?_; (with_reducible refine (chars_space.calls a0 false _ A10.out).mono ?_); rintro e w' ⟨rfl, ⟨nd, rfl⟩⟩; refine ⟨_, rfl, ?_⟩) | ((with_reducible refine gate_callee (f := 207) rfl ?_); refine goesL_ (some 20) rfl rfl Tryz.func207 zK rfl #[.int .i32 a0] rfl zM ?_; (with_reducible refine (chars_gone.calls a0 false _ A12.out).mono ?_); rintro e w' ⟨rfl, ⟨nd, rfl⟩⟩; refine ⟨_, rfl, ?_⟩) | ((with_reducible refine gate_callee (f := 208) rfl ?_); refine goesL_ (some 23) rfl rfl Tryz.func208 zK rfl #[.int .i32 a0] rfl zM ?_; (with_reducible refine (chars_bad.calls a0 false _ A14.out).mono ?_); rintro e w' ⟨rfl, ⟨nd, rfl⟩⟩; refine ⟨_, rfl, ?_⟩))
        go_ret
        exact ⟨zP, zD⟩

/-! ### chars_Is: function 128 -/
def chars_Is.f (k : Nat) (a0 : Int) (l1 : List Int) : Option (Bool) := (chars_Kind.f a0).bind fun t117 => ((slices_Contains_int_int.f k l1 t117).bind fun t118 => (some t118))
theorem chars_Is.mono : ∀ a0 a1 k, LeO (chars_Is.f k a0 a1) (chars_Is.f (k + 1) a0 a1) := by
 intro a0 a1 k
 unfold chars_Is.f
 repeat' first
   | (with_reducible exact slices_Contains_int_int.mono _ _ _)
   | (with_reducible exact LeO.refl _)
   | exact slices_Contains_int_int.mono _ _ _
   | exact LeO.none _
   | refine LeO.ite ?_ ?_
   | refine LeO.bind ?_ (fun _ => ?_)
set_option maxHeartbeats 8000000 in
set_option maxRecDepth 100000 in
theorem chars_Is.calls (k : Nat) (a0 : Int) (A1 : Option Addr) (c1 : Nat) (l1 : List Int) (r : Bool) (w : World) (hr1 : Kd.C (Kd.int .i64) w A1 l1.length l1) (hc1 : l1.length ≤ c1) (h : chars_Is.f k a0 l1 = some r) :
  Calls Tryz.prog 128 #[.int .i32 a0, .slice A1 l1.length c1] w fun e w' => e = .returned (.bool r) ∧ Drawn0 w w' := by
 have HR1 := aM hr1
 have HC1 := aM hc1
 clear hr1 hc1
 have H := h
 clear h
 unfold chars_Is.f at H
 obtain ⟨t117, A3, H⟩ := zO H
 obtain ⟨t118, A4, H⟩ := zO H
 obtain rfl := sI H
 go_enter Tryz.func128, Tryz.ntmps128
 go_wp2_with (first | ((with_reducible refine gate_callee (f := 173) rfl ?_); refine goesL_ (some 7) rfl rfl Tryz.func173 zK rfl #[.int .i32 a0] rfl zM ?_; (with_reducible refine (chars_Kind.calls a0 t117 _ A3.out).mono ?_); rintro e w' ⟨rfl, ⟨nd, rfl⟩⟩; refine ⟨_, rfl, ?_⟩) | ((with_reducible refine gate_callee (f := 172) rfl ?_); refine goesL_ (some 8) rfl rfl Tryz.func172 zK rfl #[.slice A1 l1.length c1, .int .i64 t117] rfl zM ?_; (with_reducible refine (slices_Contains_int_int.calls k _ _ l1 t117 t118 _ ?side1 ?side2 A4.out).mono ?_); (case side1 => exact zC HR1.out); (case side2 => exact HC1.out); rintro e w' ⟨rfl, ⟨nd, rfl⟩⟩; refine ⟨_, rfl, ?_⟩))
 go_ret
 exact ⟨zP, zD⟩

/-! ### fold_One: function 129, by hand (stub.fold.One.tpl) -/
def fold_One.f (k : Nat) (a0 : Int) : Option (List Int) := stubNone _
theorem fold_One.mono : ∀ a0 k, LeO (fold_One.f k a0) (fold_One.f (k + 1) a0) := fun _ _ => LeO.refl _
theorem fold_One.calls (k : Nat) (a0 : Int) (r : List Int) (w : World) (h : fold_One.f k a0 = some r) :
    Calls Tryz.prog 129 #[.int .i32 a0] w fun e w' => ∃ v0_ : Value, e = .returned (v0_) ∧ Kd.R (Kd.int .i32) 21 w' w.heap.size (fun _ => True) (v0_) (r) ∧ Below w.heap.size w w' := by
  cases (stubNone_eq _).symm.trans h

/-! ### fold_Map: function 84 -/
def fold_Map.l0 : Nat → Bool → List Int → List Int → Int → Int → Option (List Int)
 | 0, _, _, _, _, _ => none
 | k + 1, x0, x5, x8, x9, x10 => if x10 < x9 then (if 0 ≤ x10 then (if x10 < (x8.length : Int) then ((chars_Is.f k (rd x8 x10) (([6] : List Int))).bind fun t123 => (if t123 = true then (fold_Map.l0 k x0 x5 x8 x9 (wrap64 (x10 + 1))) else ((chars_Is.f k (rd x8 x10) (([5] : List Int))).bind fun t127 => (if t127 = true then (if x5.length < 35184372088832 then (fold_Map.l0 k x0 (x5 ++ [32]) x8 x9 (wrap64 (x10 + 1))) else (none)) else (if x0 = true then ((fold_One.f k (rd x8 x10)).bind fun t131 => (if x5.length + t131.length < 35184372088832 then (fold_Map.l0 k x0 (x5 ++ t131) x8 x9 (wrap64 (x10 + 1))) else (none))) else (if x5.length < 35184372088832 then (fold_Map.l0 k x0 (x5 ++ [rd x8 x10]) x8 x9 (wrap64 (x10 + 1))) else (none))))))) else (none)) else (none)) else (some x5)
def fold_Map.f (k : Nat) (a0 : Bool) (l1 : List Int) : Option (List Int) := fold_Map.l0 k a0 ([] : List Int) l1 (l1.length : Int) 0
theorem fold_Map.mono_l : ∀ k, (∀ y0 y1 y2 y3 y4, LeO (fold_Map.l0 k y0 y1 y2 y3 y4) (fold_Map.l0 (k + 1) y0 y1 y2 y3 y4))
 | 0 => fun _ _ _ _ _ r h => by simp [fold_Map.l0] at h
 | k + 1 => by
  have ih0 := fold_Map.mono_l k
  ·intro y0 y1 y2 y3 y4
   unfold fold_Map.l0
   repeat' first
   | (with_reducible exact ih0 _ _ _ _ _)
   | (with_reducible exact chars_Is.mono _ _ _)
   | (with_reducible exact fold_One.mono _ _)
   | (with_reducible exact LeO.refl _)
   | exact ih0 _ _ _ _ _
   | exact chars_Is.mono _ _ _
   | exact fold_One.mono _ _
   | exact LeO.none _
   | refine LeO.ite ?_ ?_
   | refine LeO.bind ?_ (fun _ => ?_)
theorem fold_Map.mono : ∀ a0 a1 k, LeO (fold_Map.f k a0 a1) (fold_Map.f (k + 1) a0 a1) := by
 intro a0 a1 k
 have ih0 := fold_Map.mono_l k
 unfold fold_Map.f
 repeat' first
   | (with_reducible exact ih0 _ _ _ _ _)
   | (with_reducible exact chars_Is.mono _ _ _)
   | (with_reducible exact fold_One.mono _ _)
   | (with_reducible exact LeO.refl _)
   | exact ih0 _ _ _ _ _
   | exact chars_Is.mono _ _ _
   | exact fold_One.mono _ _
   | exact LeO.none _
   | refine LeO.ite ?_ ?_
   | refine LeO.bind ?_ (fun _ => ?_)
set_option maxHeartbeats 8000000 in
set_option maxRecDepth 100000 in
theorem fold_Map.calls (k : Nat) (a0 : Bool) (A1 : Option Addr) (c1 : Nat) (l1 : List Int) (r : List Int) (w : World) (hr1 : Kd.C (Kd.int .i32) w A1 l1.length l1) (hc1 : l1.length ≤ c1) (h : fold_Map.f k a0 l1 = some r) :
  Calls Tryz.prog 84 #[.bool a0, .slice A1 l1.length c1] w fun e w' => ∃ v0_ : Value, e = .returned (v0_) ∧ Kd.R (Kd.int .i32) 21 w' w.heap.size (fun _ => True) v0_ r ∧ Below w.heap.size w w' := by
 have HR1 := aM hr1
 have HC1 := aM hc1
 clear hr1 hc1
 have HB := aM (Below.refl w.heap.size w)
 have H := h
 clear h
 unfold fold_Map.f at H
 have H' := aM H
 clear H
 go_enter Tryz.func84, Tryz.ntmps84
 go_wp2
 (repeat (go_step3; try (go_wp2)))
 go_loopg [5, 10] k (fun kq v5 v10 w' => ∃ (x5_1 : List Int) (x10_1 : Int), v10 = .int .i64 x10_1 ∧ Aside0 (fold_Map.l0 kq a0 x5_1 l1 (l1.length : Int) x10_1 = some r) ∧ Aside0 (kq ≤ k) ∧ Aside0 (Kd.R (Kd.int .i32) 21 w' w.heap.size (fun _ => True) v5 x5_1) ∧ Aside0 (Below w.heap.size w w'))
 case atStart => exact ⟨(([] : List Int)), (0), zP, H', ⟨Nat.le_refl _⟩, ⟨zL⟩, ⟨zB⟩⟩
 case round =>
  clear H'
  try clear c1
  try clear p2
  obtain ⟨x5_1, x10_1, rfl, HA, HK1, HO_5, HB⟩ := hrel
  cases gk with
  | zero => exact absurd HA.out (by simp [fold_Map.l0])
  | succ k1 =>
   have H := HA.out
   clear HA
   simp only [fold_Map.l0] at H
   by_cases c3 : x10_1 < (l1.length : Int)
   ·rw [if_pos c3] at H
    have c3b0 : decide (x10_1 < (l1.length : Int)) = true := decide_eq_true c3
    clear c3
    by_cases c4 : 0 ≤ x10_1
    ·rw [if_pos c4] at H
     have c4b0 : decide (0 ≤ x10_1) = true := decide_eq_true c4
     clear c4
     by_cases c5 : x10_1 < (l1.length : Int)
     ·rw [if_pos c5] at H
      have c5b0 : decide (x10_1 < (l1.length : Int)) = true := decide_eq_true c5
      clear c5
      obtain ⟨y120, hy120⟩ : ∃ y_ : List Int, y_ = (([6] : List Int)) := ⟨_, rfl⟩
      replace H : ((chars_Is.f k1 (rd l1 x10_1) y120).bind fun t123 => (if t123 = true then (fold_Map.l0 k1 a0 x5_1 l1 (l1.length : Int) (wrap64 (x10_1 + 1))) else ((chars_Is.f k1 (rd l1 x10_1) (([5] : List Int))).bind fun t127 => (if t127 = true then (if x5_1.length < 35184372088832 then (fold_Map.l0 k1 a0 (x5_1 ++ [32]) l1 (l1.length : Int) (wrap64 (x10_1 + 1))) else (none)) else (if a0 = true then ((fold_One.f k1 (rd l1 x10_1)).bind fun t131 => (if x5_1.length + t131.length < 35184372088832 then (fold_Map.l0 k1 a0 (x5_1 ++ t131) l1 (l1.length : Int) (wrap64 (x10_1 + 1))) else (none))) else (if x5_1.length < 35184372088832 then (fold_Map.l0 k1 a0 (x5_1 ++ [rd l1 x10_1]) l1 (l1.length : Int) (wrap64 (x10_1 + 1))) else (none))))))) = some r := zY hy120 H
      have Ny120 := aM hy120
      clear hy120
      obtain ⟨t123, A6, H⟩ := zO H
      by_cases c7 : t123 = true
      ·subst c7
       rw [if_pos rfl] at H
       have H' := aM H
       clear H
       have p119 : 0 ≤ (x10_1 : Int) := zoA
       have q119 : x10_1 < (l1.length : Int) := zoA
       obtain ⟨ad119, e119, hx119_0⟩ := Kd.at_int HR1.out x10_1 p119 q119
       cases e119
       replace hx119_0 := (HB.out.cell (World.block_lt_of_cell? w _ hx119_0)).trans hx119_0
       replace p119 := eq_true p119
       replace q119 := eq_true q119
       go_wp2_with (first | ((with_reducible refine gate_dst (N := 20) rfl ?_); refine Kd.R_lit (Kd.int .i64) _ 3 ?hg (N := 20) ?hd (xs := ([6] : List Int)) (inner := [.int .i64 6]) (ok := fun _ => True) (okp := fun _ => True) ?hr ?hp (fun _ hk => hk) trivial (Below.refl _ _) (Nat.le_refl _) (by simp) ?_; (case hd => rfl); (case hg => rfl); (case hr => first | (go_simp; done) | (go_simp; rfl)); (case hp => exact (Reps.one (show Kd.M (Kd.int .i64) _ _ _ 6 [.int .i64 6] from rfl) (Reps.none _ _))); intro v121 w8 ho9 hb hg_ hnew_; clear hg_ hnew_; (first | rw [← Ny120.out] at ho9 | (simp only [Int.reduceToNat] at ho9; rw [← Ny120.out] at ho9)); have n_ := zI (aM (Kd.R_below (zR HO_5) hb)) (zI (aM (Kd.R_lower ho9 (below_size zB))) (aM (below_step zB hb))); clear HO_5 HB; obtain ⟨HO_5, HO122, HB⟩ := n_; clear hb ho9; obtain ⟨Ao10, co10, rfl⟩ := Kd.R_slice HO122.out) | ((with_reducible refine gate_callee (f := 128) rfl ?_); refine goesL_ (some 21) rfl rfl Tryz.func128 zK rfl #[.int .i32 (rd l1 x10_1), .slice Ao10 y120.length co10] rfl zM ?_; (with_reducible refine (chars_Is.calls k1 (rd l1 x10_1) _ _ y120 true _ ?side1 ?side2 A6.out).mono ?_); (case side1 => exact zC (Kd.R_reads' HO122.out).2.2); (case side2 => exact (Kd.R_reads' HO122.out).2.1); rintro e w' ⟨rfl, ⟨nd, rfl⟩⟩; (try clear A6); refine ⟨_, rfl, ?_⟩))
       go_roundg k1
       case measure => have := HK1.out; omega
       case rel => exact ⟨(x5_1), (wrap64 (x10_1 + 1)), zP, H', ⟨by have := HK1.out; omega⟩, ⟨zR HO_5⟩, ⟨zB⟩⟩
      ·replace c7 := Bool.eq_false_iff.mpr c7
       subst c7
       rw [if_neg (show ¬ (false = true) by decide)] at H
       obtain ⟨y124, hy124⟩ : ∃ y_ : List Int, y_ = (([5] : List Int)) := ⟨_, rfl⟩
       replace H : ((chars_Is.f k1 (rd l1 x10_1) y124).bind fun t127 => (if t127 = true then (if x5_1.length < 35184372088832 then (fold_Map.l0 k1 a0 (x5_1 ++ [32]) l1 (l1.length : Int) (wrap64 (x10_1 + 1))) else (none)) else (if a0 = true then ((fold_One.f k1 (rd l1 x10_1)).bind fun t131 => (if x5_1.length + t131.length < 35184372088832 then (fold_Map.l0 k1 a0 (x5_1 ++ t131) l1 (l1.length : Int) (wrap64 (x10_1 + 1))) else (none))) else (if x5_1.length < 35184372088832 then (fold_Map.l0 k1 a0 (x5_1 ++ [rd l1 x10_1]) l1 (l1.length : Int) (wrap64 (x10_1 + 1))) else (none))))) = some r := zY hy124 H
       have Ny124 := aM hy124
       clear hy124
       obtain ⟨t127, A11, H⟩ := zO H
       by_cases c12 : t127 = true
       ·subst c12
        rw [if_pos rfl] at H
        by_cases c13 : x5_1.length < 35184372088832
        ·rw [if_pos c13] at H
         have LMc13 := aM c13
         clear c13
         obtain ⟨y128, hy128⟩ : ∃ y_ : List Int, y_ = (x5_1 ++ [32]) := ⟨_, rfl⟩
         replace H : (fold_Map.l0 k1 a0 y128 l1 (l1.length : Int) (wrap64 (x10_1 + 1))) = some r := zY hy128 H
         have Ny128 := aM hy128
         clear hy128
         have H' := aM H
         clear H
         have p119 : 0 ≤ (x10_1 : Int) := zoA
         have q119 : x10_1 < (l1.length : Int) := zoA
         obtain ⟨ad119, e119, hx119_0⟩ := Kd.at_int HR1.out x10_1 p119 q119
         cases e119
         replace hx119_0 := (HB.out.cell (World.block_lt_of_cell? w _ hx119_0)).trans hx119_0
         replace p119 := eq_true p119
         replace q119 := eq_true q119
         go_wp2_with (first | ((with_reducible refine gate_dst (N := 20) rfl ?_); refine Kd.R_lit (Kd.int .i64) _ 3 ?hg (N := 20) ?hd (xs := ([6] : List Int)) (inner := [.int .i64 6]) (ok := fun _ => True) (okp := fun _ => True) ?hr ?hp (fun _ hk => hk) trivial (Below.refl _ _) (Nat.le_refl _) (by simp) ?_; (case hd => rfl); (case hg => rfl); (case hr => first | (go_simp; done) | (go_simp; rfl)); (case hp => exact (Reps.one (show Kd.M (Kd.int .i64) _ _ _ 6 [.int .i64 6] from rfl) (Reps.none _ _))); intro v121 w14 ho15 hb hg_ hnew_; clear hg_ hnew_; (first | rw [← Ny120.out] at ho15 | (simp only [Int.reduceToNat] at ho15; rw [← Ny120.out] at ho15)); have n_ := zI (aM (Kd.R_below (zR HO_5) hb)) (zI (aM (Kd.R_lower ho15 (below_size zB))) (aM (below_step zB hb))); clear HO_5 HB; obtain ⟨HO_5, HO122, HB⟩ := n_; clear hb ho15; obtain ⟨Ao16, co16, rfl⟩ := Kd.R_slice HO122.out) | ((with_reducible refine gate_callee (f := 128) rfl ?_); refine goesL_ (some 21) rfl rfl Tryz.func128 zK rfl #[.int .i32 (rd l1 x10_1), .slice Ao16 y120.length co16] rfl zM ?_; (with_reducible refine (chars_Is.calls k1 (rd l1 x10_1) _ _ y120 false _ ?side1 ?side2 A6.out).mono ?_); (case side1 => exact zC (Kd.R_reads' HO122.out).2.2); (case side2 => exact (Kd.R_reads' HO122.out).2.1); rintro e w' ⟨rfl, ⟨nd, rfl⟩⟩; (try clear A6); refine ⟨_, rfl, ?_⟩) | ((with_reducible refine gate_dst (N := 24) rfl ?_); refine Kd.R_lit (Kd.int .i64) _ 3 ?hg (N := 24) ?hd (xs := ([5] : List Int)) (inner := [.int .i64 5]) (ok := fun _ => True) (okp := fun _ => True) ?hr ?hp (fun _ hk => hk) trivial (Below.refl _ _) (Nat.le_refl _) (by simp) ?_; (case hd => rfl); (case hg => rfl); (case hr => first | (go_simp; done) | (go_simp; rfl)); (case hp => exact (Reps.one (show Kd.M (Kd.int .i64) _ _ _ 5 [.int .i64 5] from rfl) (Reps.none _ _))); intro v125 w17 ho18 hb hg_ hnew_; clear hg_ hnew_; (first | rw [← Ny124.out] at ho18 | (simp only [Int.reduceToNat] at ho18; rw [← Ny124.out] at ho18)); have n_ := zI (aM (Kd.R_below (zR HO_5) hb)) (zI (aM (Kd.R_elder' (zR HO122) (Kd.R_base ho18) hb)) (zI (aM (Kd.R_lower (Kd.R_new' ho18 (Kd.R_lt (zR HO122))) (below_size zB))) (aM (below_step zB hb)))); clear HO_5 HO122 HB; obtain ⟨HO_5, HO122, HO126, HB⟩ := n_; clear hb ho18; obtain ⟨Ao19, co19, rfl⟩ := Kd.R_slice HO126.out) | ((with_reducible refine gate_callee (f := 128) rfl ?_); refine goesL_ (some 25) rfl rfl Tryz.func128 zK rfl #[.int .i32 (rd l1 x10_1), .slice Ao19 y124.length co19] rfl zM ?_; (with_reducible refine (chars_Is.calls k1 (rd l1 x10_1) _ _ y124 true _ ?side1 ?side2 A11.out).mono ?_); (case side1 => exact zC (Kd.R_reads' HO126.out).2.2); (case side2 => exact (Kd.R_reads' HO126.out).2.1); rintro e w' ⟨rfl, ⟨nd, rfl⟩⟩; (try clear A11); refine ⟨_, rfl, ?_⟩) | ((with_reducible refine gate_builtin (b := .append) (xs := #[.tmp 26, .tmp 27]) rfl ?_); at_builtin; refine Kd.R_append (Kd.int .i32) (w0 := w) w.heap.size rfl (.tmp 26) (.tmp 27) 65 21 (.int .i32 0) 4 rfl Tryz.underlying65 info21 rfl (by decide) (by omega) u5 x5_1 32 [.int .i32 32] (fun _ => True) (fun _ => False) rfl rfl ?aP (fun _ hk => hk.elim) ?aF ?aO ?aB ?aS ?aL ?_; (case aP => exact rfl); (case aB => exact zB); (case aF => exact (fun _ _ => trivial)); (case aO => exact (zR HO_5)); (case aS => exact (below_size zB)); (case aL => have := LMc13.out; omega); intro v129 w20 ho hb hg hat; rw [← Ny128.out] at ho; have n_ := zI (aM (Kd.R_over' (zR HO122) (Kd.R_typed (zR HO_5)) (by decide) hg)) (zI (aM (Kd.R_over' (zR HO126) (Kd.R_typed (zR HO_5)) (by decide) hg)) (zI (aM (hb)) (aM (ho)))); clear HO122 HO126 HB HO_5; obtain ⟨HO122, HO126, HB, HO130⟩ := n_; clear ho hb hg hat))
         go_roundg k1
         case measure => have := HK1.out; omega
         case rel => exact ⟨(y128), (wrap64 (x10_1 + 1)), zP, H', ⟨by have := HK1.out; omega⟩, ⟨zR HO130⟩, ⟨zB⟩⟩
        ·rw [if_neg c13] at H
         exact absurd H (by simp)
       ·replace c12 := Bool.eq_false_iff.mpr c12
        subst c12
        rw [if_neg (show ¬ (false = true) by decide)] at H
        by_cases c21 : a0 = true
        ·subst c21
         rw [if_pos rfl] at H
         obtain ⟨t131, A22, H⟩ := zO H
         by_cases c23 : x5_1.length + t131.length < 35184372088832
         ·rw [if_pos c23] at H
          have LMc23 := aM c23
          clear c23
          obtain ⟨y134, hy134⟩ : ∃ y_ : List Int, y_ = (x5_1 ++ t131) := ⟨_, rfl⟩
          replace H : (fold_Map.l0 k1 true y134 l1 (l1.length : Int) (wrap64 (x10_1 + 1))) = some r := zY hy134 H
          have Ny134 := aM hy134
          clear hy134
          have H' := aM H
          clear H
          have p119 : 0 ≤ (x10_1 : Int) := zoA
          have q119 : x10_1 < (l1.length : Int) := zoA
          obtain ⟨ad119, e119, hx119_0⟩ := Kd.at_int HR1.out x10_1 p119 q119
          cases e119
          replace hx119_0 := (HB.out.cell (World.block_lt_of_cell? w _ hx119_0)).trans hx119_0
          replace p119 := eq_true p119
          replace q119 := eq_true q119
          go_wp2_with (first | ((with_reducible refine gate_dst (N := 20) rfl ?_); refine Kd.R_lit (Kd.int .i64) _ 3 ?hg (N := 20) ?hd (xs := ([6] : List Int)) (inner := [.int .i64 6]) (ok := fun _ => True) (okp := fun _ => True) ?hr ?hp (fun _ hk => hk) trivial (Below.refl _ _) (Nat.le_refl _) (by simp) ?_; (case hd => rfl); (case hg => rfl); (case hr => first | (go_simp; done) | (go_simp; rfl)); (case hp => exact (Reps.one (show Kd.M (Kd.int .i64) _ _ _ 6 [.int .i64 6] from rfl) (Reps.none _ _))); intro v121 w24 ho25 hb hg_ hnew_; clear hg_ hnew_; (first | rw [← Ny120.out] at ho25 | (simp only [Int.reduceToNat] at ho25; rw [← Ny120.out] at ho25)); have n_ := zI (aM (Kd.R_below (zR HO_5) hb)) (zI (aM (Kd.R_lower ho25 (below_size zB))) (aM (below_step zB hb))); clear HO_5 HB; obtain ⟨HO_5, HO122, HB⟩ := n_; clear hb ho25; obtain ⟨Ao26, co26, rfl⟩ := Kd.R_slice HO122.out) | ((with_reducible refine gate_callee (f := 128) rfl ?_); refine goesL_ (some 21) rfl rfl Tryz.func128 zK rfl #[.int .i32 (rd l1 x10_1), .slice Ao26 y120.length co26] rfl zM ?_; (with_reducible refine (chars_Is.calls k1 (rd l1 x10_1) _ _ y120 false _ ?side1 ?side2 A6.out).mono ?_); (case side1 => exact zC (Kd.R_reads' HO122.out).2.2); (case side2 => exact (Kd.R_reads' HO122.out).2.1); rintro e w' ⟨rfl, ⟨nd, rfl⟩⟩; (try clear A6); refine ⟨_, rfl, ?_⟩) | ((with_reducible refine gate_dst (N := 24) rfl ?_); refine Kd.R_lit (Kd.int .i64) _ 3 ?hg (N := 24) ?hd (xs := ([5] : List Int)) (inner := [.int .i64 5]) (ok := fun _ => True) (okp := fun _ => True) ?hr ?hp (fun _ hk => hk) trivial (Below.refl _ _) (Nat.le_refl _) (by simp) ?_; (case hd => rfl); (case hg => rfl); (case hr => first | (go_simp; done) | (go_simp; rfl)); (case hp => exact (Reps.one (show Kd.M (Kd.int .i64) _ _ _ 5 [.int .i64 5] from rfl) (Reps.none _ _))); intro v125 w27 ho28 hb hg_ hnew_; clear hg_ hnew_; (first | rw [← Ny124.out] at ho28 | (simp only [Int.reduceToNat] at ho28; rw [← Ny124.out] at ho28)); have n_ := zI (aM (Kd.R_below (zR HO_5) hb)) (zI (aM (Kd.R_elder' (zR HO122) (Kd.R_base ho28) hb)) (zI (aM (Kd.R_lower (Kd.R_new' ho28 (Kd.R_lt (zR HO122))) (below_size zB))) (aM (below_step zB hb)))); clear HO_5 HO122 HB; obtain ⟨HO_5, HO122, HO126, HB⟩ := n_; clear hb ho28; obtain ⟨Ao29, co29, rfl⟩ := Kd.R_slice HO126.out) | ((with_reducible refine gate_callee (f := 128) rfl ?_); refine goesL_ (some 25) rfl rfl Tryz.func128 zK rfl #[.int .i32 (rd l1 x10_1), .slice Ao29 y124.length co29] rfl zM ?_; (with_reducible refine (chars_Is.calls k1 (rd l1 x10_1) _ _ y124 false _ ?side1 ?side2 A11.out).mono ?_); (case side1 => exact zC (Kd.R_reads' HO126.out).2.2); (case side2 => exact (Kd.R_reads' HO126.out).2.1); rintro e w' ⟨rfl, ⟨nd, rfl⟩⟩; (try clear A11); refine ⟨_, rfl, ?_⟩) | ((with_reducible refine gate_callee (f := 129) rfl ?_); refine goesL_ (some 33) rfl rfl Tryz.func129 zK rfl #[.int .i32 (rd l1 x10_1)] rfl zM ?_; (with_reducible refine (fold_One.calls k1 (rd l1 x10_1) t131 _ A22.out).mono ?_); rintro e w30 ⟨v132, rfl, ho0, hb⟩; refine ⟨_, rfl, ?_⟩; have n_ := zI (aM (Kd.R_elder' (zR HO_5) (Kd.R_base ho0) hb)) (zI (aM (Kd.R_below (zR HO122) hb)) (zI (aM (Kd.R_below (zR HO126) hb)) (zI (aM (Kd.R_lower (Kd.R_new' ho0 (Kd.R_lt (zR HO_5))) (below_size zB))) (aM (below_step zB hb))))); clear HO_5 HO122 HO126 HB; obtain ⟨HO_5, HO122, HO126, HO133, HB⟩ := n_; (try clear hb); (try clear hk); (try clear ho0); obtain ⟨Ao32, co32, rfl⟩ := Kd.R_slice HO133.out) | ((with_reducible refine gate_builtin (b := .append) (xs := #[.tmp 31, .tmp 33]) rfl ?_); at_builtin; refine Kd.R_append_rows (Kd.int .i32) (w0 := w) w.heap.size rfl (.tmp 31) (.tmp 33) 65 21 (.int .i32 0) 4 rfl Tryz.underlying65 info21 rfl (by decide) (by omega) u5 x5_1 t131 _ _ _ (fun k_ => some k_ ≠ (.slice Ao32 t131.length co32 : Value).ownBlock) (fun _ => False) rfl rfl ?aO ?aR (fun _ _ h => h) (fun _ h => h.elim) ?aF ?aB ?aS ?aL ?_; (case aR => repeat (first | exact (Kd.R_reads' HO133.out).2.2 | (with_reducible refine Kd.C_alloc ?_ _) | (with_reducible refine Kd.C_drewN ?_ _) | (with_reducible refine Kd.C_drew ?_))); (case aB => exact zB); (case aF => exact (fun k_ hk => Kd.fresh' (Kd.R_lt (zR HO133)) k_ hk)); (case aO => exact (by (with_reducible repeat (first | apply Kd.R_alloc | apply Kd.R_drewN | apply Kd.R_drew)); exact Kd.R_mono HO_5.out (fun _ hk => hk.2))); (case aS => exact (below_size zB)); (case aL => have := LMc23.out; omega); intro v135 w31 ho hb hg hat; rw [← Ny134.out] at ho; have n_ := zI (aM (Kd.R_over' (zR HO122) (Kd.R_typed (zR HO_5)) (by decide) hg)) (zI (aM (Kd.R_over' (zR HO126) (Kd.R_typed (zR HO_5)) (by decide) hg)) (zI (aM (Kd.R_after (ok := (fun _ => True)) (zR HO133) hg hat)) (zI (aM (hb)) (aM (ho))))); clear HO122 HO126 HO133 HB HO_5; obtain ⟨HO122, HO126, HO133, HB, HO136⟩ := n_; clear ho hb hg hat))
          go_roundg k1
          case measure => have := HK1.out; omega
          case rel => exact ⟨(y134), (wrap64 (x10_1 + 1)), zP, H', ⟨by have := HK1.out; omega⟩, ⟨by (with_reducible repeat (first | apply Kd.R_alloc | apply Kd.R_drewN | apply Kd.R_drew)); exact Kd.R_mono HO136.out (fun _ hk => trivial)⟩, ⟨zB⟩⟩
         ·rw [if_neg c23] at H
          exact absurd H (by simp)
        ·replace c21 := Bool.eq_false_iff.mpr c21
         subst c21
         rw [if_neg (show ¬ (false = true) by decide)] at H
         by_cases c33 : x5_1.length < 35184372088832
         ·rw [if_pos c33] at H
          have LMc33 := aM c33
          clear c33
          obtain ⟨y137, hy137⟩ : ∃ y_ : List Int, y_ = (x5_1 ++ [rd l1 x10_1]) := ⟨_, rfl⟩
          replace H : (fold_Map.l0 k1 false y137 l1 (l1.length : Int) (wrap64 (x10_1 + 1))) = some r := zY hy137 H
          have Ny137 := aM hy137
          clear hy137
          have H' := aM H
          clear H
          have p119 : 0 ≤ (x10_1 : Int) := zoA
          have q119 : x10_1 < (l1.length : Int) := zoA
          obtain ⟨ad119, e119, hx119_0⟩ := Kd.at_int HR1.out x10_1 p119 q119
          cases e119
          replace hx119_0 := (HB.out.cell (World.block_lt_of_cell? w _ hx119_0)).trans hx119_0
          replace p119 := eq_true p119
          replace q119 := eq_true q119
          go_wp2_with (first | ((with_reducible refine gate_dst (N := 20) rfl ?_); refine Kd.R_lit (Kd.int .i64) _ 3 ?hg (N := 20) ?hd (xs := ([6] : List Int)) (inner := [.int .i64 6]) (ok := fun _ => True) (okp := fun _ => True) ?hr ?hp (fun _ hk => hk) trivial (Below.refl _ _) (Nat.le_refl _) (by simp) ?_; (case hd => rfl); (case hg => rfl); (case hr => first | (go_simp; done) | (go_simp; rfl)); (case hp => exact (Reps.one (show Kd.M (Kd.int .i64) _ _ _ 6 [.int .i64 6] from rfl) (Reps.none _ _))); intro v121 w34 ho35 hb hg_ hnew_; clear hg_ hnew_; (first | rw [← Ny120.out] at ho35 | (simp only [Int.reduceToNat] at ho35; rw [← Ny120.out] at ho35)); have n_ := zI (aM (Kd.R_below (zR HO_5) hb)) (zI (aM (Kd.R_lower ho35 (below_size zB))) (aM (below_step zB hb))); clear HO_5 HB; obtain ⟨HO_5, HO122, HB⟩ := n_; clear hb ho35; obtain ⟨Ao36, co36, rfl⟩ := Kd.R_slice HO122.out) | ((with_reducible refine gate_callee (f := 128) rfl ?_); refine goesL_ (some 21) rfl rfl Tryz.func128 zK rfl #[.int .i32 (rd l1 x10_1), .slice Ao36 y120.length co36] rfl zM ?_; (with_reducible refine (chars_Is.calls k1 (rd l1 x10_1) _ _ y120 false _ ?side1 ?side2 A6.out).mono ?_); (case side1 => exact zC (Kd.R_reads' HO122.out).2.2); (case side2 => exact (Kd.R_reads' HO122.out).2.1); rintro e w' ⟨rfl, ⟨nd, rfl⟩⟩; (try clear A6); refine ⟨_, rfl, ?_⟩) | ((with_reducible refine gate_dst (N := 24) rfl ?_); refine Kd.R_lit (Kd.int .i64) _ 3 ?hg (N := 24) ?hd (xs := ([5] : List Int)) (inner := [.int .i64 5]) (ok := fun _ => True) (okp := fun _ => True) ?hr ?hp (fun _ hk => hk) trivial (Below.refl _ _) (Nat.le_refl _) (by simp) ?_; (case hd => rfl); (case hg => rfl); (case hr => first | (go_simp; done) | (go_simp; rfl)); (case hp => exact (Reps.one (show Kd.M (Kd.int .i64) _ _ _ 5 [.int .i64 5] from rfl) (Reps.none _ _))); intro v125 w37 ho38 hb hg_ hnew_; clear hg_ hnew_; (first | rw [← Ny124.out] at ho38 | (simp only [Int.reduceToNat] at ho38; rw [← Ny124.out] at ho38)); have n_ := zI (aM (Kd.R_below (zR HO_5) hb)) (zI (aM (Kd.R_elder' (zR HO122) (Kd.R_base ho38) hb)) (zI (aM (Kd.R_lower (Kd.R_new' ho38 (Kd.R_lt (zR HO122))) (below_size zB))) (aM (below_step zB hb)))); clear HO_5 HO122 HB; obtain ⟨HO_5, HO122, HO126, HB⟩ := n_; clear hb ho38; obtain ⟨Ao39, co39, rfl⟩ := Kd.R_slice HO126.out) | ((with_reducible refine gate_callee (f := 128) rfl ?_); refine goesL_ (some 25) rfl rfl Tryz.func128 zK rfl #[.int .i32 (rd l1 x10_1), .slice Ao39 y124.length co39] rfl zM ?_; (with_reducible refine (chars_Is.calls k1 (rd l1 x10_1) _ _ y124 false _ ?side1 ?side2 A11.out).mono ?_); (case side1 => exact zC (Kd.R_reads' HO126.out).2.2); (case side2 => exact (Kd.R_reads' HO126.out).2.1); rintro e w' ⟨rfl, ⟨nd, rfl⟩⟩; (try clear A11); refine ⟨_, rfl, ?_⟩) | ((with_reducible refine gate_builtin (b := .append) (xs := #[.tmp 14, .tmp 16]) rfl ?_); at_builtin; refine Kd.R_append (Kd.int .i32) (w0 := w) w.heap.size rfl (.tmp 14) (.tmp 16) 65 21 (.int .i32 0) 4 rfl Tryz.underlying65 info21 rfl (by decide) (by omega) u5 x5_1 (rd l1 x10_1) [.int .i32 (rd l1 x10_1)] (fun _ => True) (fun _ => False) rfl rfl ?aP (fun _ hk => hk.elim) ?aF ?aO ?aB ?aS ?aL ?_; (case aP => exact rfl); (case aB => exact zB); (case aF => exact (fun _ _ => trivial)); (case aO => exact (zR HO_5)); (case aS => exact (below_size zB)); (case aL => have := LMc33.out; omega); intro v138 w40 ho hb hg hat; rw [← Ny137.out] at ho; have n_ := zI (aM (Kd.R_over' (zR HO122) (Kd.R_typed (zR HO_5)) (by decide) hg)) (zI (aM (Kd.R_over' (zR HO126) (Kd.R_typed (zR HO_5)) (by decide) hg)) (zI (aM (hb)) (aM (ho)))); clear HO122 HO126 HB HO_5; obtain ⟨HO122, HO126, HB, HO139⟩ := n_; clear ho hb hg hat))
          go_roundg k1
          case measure => have := HK1.out; omega
          case rel => exact ⟨(y137), (wrap64 (x10_1 + 1)), zP, H', ⟨by have := HK1.out; omega⟩, ⟨zR HO139⟩, ⟨zB⟩⟩
         ·rw [if_neg c33] at H
          exact absurd H (by simp)
     ·rw [if_neg c5] at H
      exact absurd H (by simp)
    ·rw [if_neg c4] at H
     exact absurd H (by simp)
   ·rw [if_neg c3] at H
    have c3b0 : decide (x10_1 < (l1.length : Int)) = false := decide_eq_false c3
    clear c3
    obtain rfl := sI H
    go_wp2
    (try rw [Exit.noGoto_ret])
    go_ret
    exact ⟨_, zE, zR HO_5, zB⟩

/-! ### nfkc_plain_1: function 177 -/
def nfkc_plain_1.f (a0 : Int) : Option (Bool) := if a0 < 0 then (some true) else (some (decide (a0 ≥ 128)))
set_option maxHeartbeats 8000000 in
set_option maxRecDepth 100000 in
theorem nfkc_plain_1.calls (a0 : Int) (r : Bool) (w : World) (h : nfkc_plain_1.f a0 = some r) :
  Calls Tryz.prog 177 #[.int .i32 a0] w fun e w' => e = .returned (.bool r) ∧ Drawn0 w w' := by
 have H := h
 clear h
 unfold nfkc_plain_1.f at H
 by_cases c2 : a0 < 0
 ·rw [if_pos c2] at H
  have c2b0 : decide (a0 < 0) = true := decide_eq_true c2
  clear c2
  obtain rfl := sI H
  go_enter Tryz.func177, Tryz.ntmps177
  go_wp2
  go_ret
  exact ⟨zP, zD⟩
 ·rw [if_neg c2] at H
  have c2b0 : decide (a0 < 0) = false := decide_eq_false c2
  clear c2
  obtain rfl := sI H
  go_enter Tryz.func177, Tryz.ntmps177
  go_wp2
  go_ret
  exact ⟨zP, zD⟩

/-! ### slices_IndexFunc_rune_rune_nfkc_plain_1: function 273 -/
def slices_IndexFunc_rune_rune_nfkc_plain_1.l0 : Nat → List Int → Int → Int → Option (Int)
 | 0, _, _, _ => none
 | k + 1, x0, x7, x8 => if x8 < x7 then (if 0 ≤ x8 then (if x8 < (x0.length : Int) then ((nfkc_plain_1.f (rd x0 x8)).bind fun t141 => (if t141 = true then (some x8) else (slices_IndexFunc_rune_rune_nfkc_plain_1.l0 k x0 x7 (wrap64 (x8 + 1))))) else (none)) else (none)) else (some (-1))
def slices_IndexFunc_rune_rune_nfkc_plain_1.f (k : Nat) (l0 : List Int) (a1 : Int) : Option (Int) := slices_IndexFunc_rune_rune_nfkc_plain_1.l0 k l0 (l0.length : Int) 0
theorem slices_IndexFunc_rune_rune_nfkc_plain_1.mono_l : ∀ k, (∀ y0 y1 y2, LeO (slices_IndexFunc_rune_rune_nfkc_plain_1.l0 k y0 y1 y2) (slices_IndexFunc_rune_rune_nfkc_plain_1.l0 (k + 1) y0 y1 y2))
 | 0 => fun _ _ _ r h => by simp [slices_IndexFunc_rune_rune_nfkc_plain_1.l0] at h
 | k + 1 => by
  have ih0 := slices_IndexFunc_rune_rune_nfkc_plain_1.mono_l k
  ·intro y0 y1 y2
   unfold slices_IndexFunc_rune_rune_nfkc_plain_1.l0
   repeat' first
   | (with_reducible exact ih0 _ _ _)
   | (with_reducible exact LeO.refl _)
   | exact ih0 _ _ _
   | exact LeO.none _
   | refine LeO.ite ?_ ?_
   | refine LeO.bind ?_ (fun _ => ?_)
theorem slices_IndexFunc_rune_rune_nfkc_plain_1.mono : ∀ a0 a1 k, LeO (slices_IndexFunc_rune_rune_nfkc_plain_1.f k a0 a1) (slices_IndexFunc_rune_rune_nfkc_plain_1.f (k + 1) a0 a1) := by
 intro a0 a1 k
 have ih0 := slices_IndexFunc_rune_rune_nfkc_plain_1.mono_l k
 unfold slices_IndexFunc_rune_rune_nfkc_plain_1.f
 repeat' first
   | (with_reducible exact ih0 _ _ _)
   | (with_reducible exact LeO.refl _)
   | exact ih0 _ _ _
   | exact LeO.none _
   | refine LeO.ite ?_ ?_
   | refine LeO.bind ?_ (fun _ => ?_)
set_option maxHeartbeats 8000000 in
set_option maxRecDepth 100000 in
theorem slices_IndexFunc_rune_rune_nfkc_plain_1.calls (k : Nat) (A0 : Option Addr) (c0 : Nat) (l0 : List Int) (a1 : Int) (r : Int) (w : World) (hr0 : Kd.C (Kd.int .i32) w A0 l0.length l0) (hc0 : l0.length ≤ c0) (h : slices_IndexFunc_rune_rune_nfkc_plain_1.f k l0 a1 = some r) :
  Calls Tryz.prog 210 #[.slice A0 l0.length c0, .func (.func 177) #[] #[]] w fun e w' => e = .returned (.int .i64 r) ∧ Drawn0 w w' := by
 have HR0 := aM hr0
 have HC0 := aM hc0
 clear hr0 hc0
 have H := h
 clear h
 unfold slices_IndexFunc_rune_rune_nfkc_plain_1.f at H
 have H' := aM H
 clear H
 go_enter Tryz.func210, Tryz.ntmps210
 go_wp2
 go_loopg [8] k (fun kq v8 w' => ∃ (x8_1 : Int), v8 = .int .i64 x8_1 ∧ Aside0 (slices_IndexFunc_rune_rune_nfkc_plain_1.l0 kq l0 (l0.length : Int) x8_1 = some r) ∧ Aside0 (kq ≤ k) ∧ Drawn0 w w')
 case atStart => exact ⟨(0), zP, H', ⟨Nat.le_refl _⟩, zD⟩
 case round =>
  clear H'
  try clear c2
  try clear p2
  obtain ⟨x8_1, rfl, HA, HK1, ⟨m1, rfl⟩⟩ := hrel
  cases gk with
  | zero => exact absurd HA.out (by simp [slices_IndexFunc_rune_rune_nfkc_plain_1.l0])
  | succ k1 =>
   have H := HA.out
   clear HA
   simp only [slices_IndexFunc_rune_rune_nfkc_plain_1.l0] at H
   by_cases c3 : x8_1 < (l0.length : Int)
   ·rw [if_pos c3] at H
    have c3b0 : decide (x8_1 < (l0.length : Int)) = true := decide_eq_true c3
    clear c3
    by_cases c4 : 0 ≤ x8_1
    ·rw [if_pos c4] at H
     have c4b0 : decide (0 ≤ x8_1) = true := decide_eq_true c4
     clear c4
     by_cases c5 : x8_1 < (l0.length : Int)
     ·rw [if_pos c5] at H
      have c5b0 : decide (x8_1 < (l0.length : Int)) = true := decide_eq_true c5
      clear c5
      obtain ⟨t141, A6, H⟩ := zO H
      by_cases c7 : t141 = true
      ·subst c7
       rw [if_pos rfl] at H
       obtain rfl := sI H
       have p140 : 0 ≤ (x8_1 : Int) := zoA
       have q140 : x8_1 < (l0.length : Int) := zoA
       obtain ⟨ad140, e140, hx140_0⟩ := Kd.at_int HR0.out x8_1 p140 q140
       cases e140
       replace p140 := eq_true p140
       replace q140 := eq_true q140
       go_wp2_with (first | ((with_reducible refine gate_tmp (x := 11) rfl ?_); refine goesLT_ (some 16) (x := 11) rfl rfl rfl Tryz.func177 zK rfl #[.int .i32 (rd l0 x8_1)] rfl zM ?_; (with_reducible refine (nfkc_plain_1.calls (rd l0 x8_1) true _ A6.out).mono ?_); rintro e w' ⟨rfl, ⟨nd, rfl⟩⟩; refine ⟨_, rfl, ?_⟩))
       go_ret
       exact ⟨zP, zD⟩
      ·replace c7 := Bool.eq_false_iff.mpr c7
       subst c7
       rw [if_neg (show ¬ (false = true) by decide)] at H
       have H' := aM H
       clear H
       have p140 : 0 ≤ (x8_1 : Int) := zoA
       have q140 : x8_1 < (l0.length : Int) := zoA
       obtain ⟨ad140, e140, hx140_0⟩ := Kd.at_int HR0.out x8_1 p140 q140
       cases e140
       replace p140 := eq_true p140
       replace q140 := eq_true q140
       go_wp2_with (first | ((with_reducible refine gate_tmp (x := 11) rfl ?_); refine goesLT_ (some 16) (x := 11) rfl rfl rfl Tryz.func177 zK rfl #[.int .i32 (rd l0 x8_1)] rfl zM ?_; (with_reducible refine (nfkc_plain_1.calls (rd l0 x8_1) false _ A6.out).mono ?_); rintro e w' ⟨rfl, ⟨nd, rfl⟩⟩; refine ⟨_, rfl, ?_⟩))
       go_roundg k1
       case measure => have := HK1.out; omega
       case rel => exact ⟨(wrap64 (x8_1 + 1)), zP, H', ⟨by have := HK1.out; omega⟩, zD⟩
     ·rw [if_neg c5] at H
      exact absurd H (by simp)
    ·rw [if_neg c4] at H
     exact absurd H (by simp)
   ·rw [if_neg c3] at H
    have c3b0 : decide (x8_1 < (l0.length : Int)) = false := decide_eq_false c3
    clear c3
    obtain rfl := sI H
    go_wp2
    go_ret
    exact ⟨zP, zD⟩

/-! ### slices_ContainsFunc_rune_rune_nfkc_plain_1: function 272 -/
def slices_ContainsFunc_rune_rune_nfkc_plain_1.f (k : Nat) (l0 : List Int) (a1 : Int) : Option (Bool) := (slices_IndexFunc_rune_rune_nfkc_plain_1.f k l0 7770177).bind fun t142 => (some (decide (t142 ≥ 0)))
theorem slices_ContainsFunc_rune_rune_nfkc_plain_1.mono : ∀ a0 a1 k, LeO (slices_ContainsFunc_rune_rune_nfkc_plain_1.f k a0 a1) (slices_ContainsFunc_rune_rune_nfkc_plain_1.f (k + 1) a0 a1) := by
 intro a0 a1 k
 unfold slices_ContainsFunc_rune_rune_nfkc_plain_1.f
 repeat' first
   | (with_reducible exact slices_IndexFunc_rune_rune_nfkc_plain_1.mono _ _ _)
   | (with_reducible exact LeO.refl _)
   | exact slices_IndexFunc_rune_rune_nfkc_plain_1.mono _ _ _
   | exact LeO.none _
   | refine LeO.ite ?_ ?_
   | refine LeO.bind ?_ (fun _ => ?_)
set_option maxHeartbeats 8000000 in
set_option maxRecDepth 100000 in
theorem slices_ContainsFunc_rune_rune_nfkc_plain_1.calls (k : Nat) (A0 : Option Addr) (c0 : Nat) (l0 : List Int) (a1 : Int) (r : Bool) (w : World) (hr0 : Kd.C (Kd.int .i32) w A0 l0.length l0) (hc0 : l0.length ≤ c0) (h : slices_ContainsFunc_rune_rune_nfkc_plain_1.f k l0 a1 = some r) :
  Calls Tryz.prog 176 #[.slice A0 l0.length c0, .func (.func 177) #[] #[]] w fun e w' => e = .returned (.bool r) ∧ Drawn0 w w' := by
 have HR0 := aM hr0
 have HC0 := aM hc0
 clear hr0 hc0
 have H := h
 clear h
 unfold slices_ContainsFunc_rune_rune_nfkc_plain_1.f at H
 obtain ⟨t142, A3, H⟩ := zO H
 obtain rfl := sI H
 go_enter Tryz.func176, Tryz.ntmps176
 go_wp2_with (first | ((with_reducible refine gate_callee (f := 210) rfl ?_); refine goesL_ (some 7) rfl rfl Tryz.func210 zK rfl #[.slice A0 l0.length c0, .func (.func 177) #[] #[]] rfl zM ?_; (with_reducible refine (slices_IndexFunc_rune_rune_nfkc_plain_1.calls k _ _ l0 7770177 t142 _ ?side1 ?side2 A3.out).mono ?_); (case side1 => exact zC HR0.out); (case side2 => exact HC0.out); rintro e w' ⟨rfl, ⟨nd, rfl⟩⟩; refine ⟨_, rfl, ?_⟩))
 go_ret
 exact ⟨zP, zD⟩

/-! ### nfkc_plain: function 130 -/
def nfkc_plain.f (k : Nat) (l0 : List Int) : Option (Bool) := (slices_ContainsFunc_rune_rune_nfkc_plain_1.f k l0 7770177).bind fun t143 => (some (!t143))
theorem nfkc_plain.mono : ∀ a0 k, LeO (nfkc_plain.f k a0) (nfkc_plain.f (k + 1) a0) := by
 intro a0 k
 unfold nfkc_plain.f
 repeat' first
   | (with_reducible exact slices_ContainsFunc_rune_rune_nfkc_plain_1.mono _ _ _)
   | (with_reducible exact LeO.refl _)
   | exact slices_ContainsFunc_rune_rune_nfkc_plain_1.mono _ _ _
   | exact LeO.none _
   | refine LeO.ite ?_ ?_
   | refine LeO.bind ?_ (fun _ => ?_)
set_option maxHeartbeats 8000000 in
set_option maxRecDepth 100000 in
theorem nfkc_plain.calls (k : Nat) (A0 : Option Addr) (c0 : Nat) (l0 : List Int) (r : Bool) (w : World) (hr0 : Kd.C (Kd.int .i32) w A0 l0.length l0) (hc0 : l0.length ≤ c0) (h : nfkc_plain.f k l0 = some r) :
  Calls Tryz.prog 130 #[.slice A0 l0.length c0] w fun e w' => e = .returned (.bool r) ∧ Drawn0 w w' := by
 have HR0 := aM hr0
 have HC0 := aM hc0
 clear hr0 hc0
 have H := h
 clear h
 unfold nfkc_plain.f at H
 obtain ⟨t143, A2, H⟩ := zO H
 obtain rfl := sI H
 go_enter Tryz.func130, Tryz.ntmps130
 go_wp2_with (first | ((with_reducible refine gate_callee (f := 176) rfl ?_); refine goesL_ (some 4) rfl rfl Tryz.func176 zK rfl #[.slice A0 l0.length c0, .func (.func 177) #[] #[]] rfl zM ?_; (with_reducible refine (slices_ContainsFunc_rune_rune_nfkc_plain_1.calls k _ _ l0 7770177 t143 _ ?side1 ?side2 A2.out).mono ?_); (case side1 => exact zC HR0.out); (case side2 => exact HC0.out); rintro e w' ⟨rfl, ⟨nd, rfl⟩⟩; refine ⟨_, rfl, ?_⟩))
 go_ret
 exact ⟨zP, zD⟩

end Go.Proofs.YtdgnekknmpfepaaGreatDoor.P
