-- Printed by wip/mk.py (this session's driver over the kit's print) and from wip/manual.
import Derived.Test.YtncppcjobimilaaT0
import Derived.Test.YtncppcjobimilaaT3
import Derived.Test.YtncppcjobimilaaT7
import Derived.Test.YtncppcjobimilaaT8
import Derived.Test.YtncppcjobimilaaT9
namespace Go.Proofs.Ytncppcjobimilaa.P
open Go.RowKit Go.Proofs.YtncppcjobimilaaW.PrintWords Go.Proofs.YtncppcjobimilaaW.PrintLast Go.Proofs.YtncppcjobimilaaW.PrintMore
attribute [local go_sem] max2_int min2_int max_two min_two max_three min_three max_four min_four   -- for this text's walks alone
set_option linter.unusedVariables false
set_option linter.unusedSimpArgs false

/-! ### chars_bad: function 91 -/
def chars_bad.f (a0 : Int) : Option (Bool) := if a0 ≥ 832 then (if a0 ≤ 833 then (some true) else (if a0 ≥ 57344 then (if a0 ≤ 63743 then (some true) else (if a0 ≥ 64976 then (if a0 ≤ 65007 then (some true) else (if a0 ≥ 65533 then (if a0 ≤ 65535 then (some true) else (if a0 > 65535 then (if a0 ≤ 1114111 then (some ((Go.bits .and .i32 a0 65534) == 65534)) else (some false)) else (some false))) else (if a0 > 65535 then (if a0 ≤ 1114111 then (some ((Go.bits .and .i32 a0 65534) == 65534)) else (some false)) else (some false)))) else (if a0 ≥ 65533 then (if a0 ≤ 65535 then (some true) else (if a0 > 65535 then (if a0 ≤ 1114111 then (some ((Go.bits .and .i32 a0 65534) == 65534)) else (some false)) else (some false))) else (if a0 > 65535 then (if a0 ≤ 1114111 then (some ((Go.bits .and .i32 a0 65534) == 65534)) else (some false)) else (some false))))) else (if a0 ≥ 64976 then (if a0 ≤ 65007 then (some true) else (if a0 ≥ 65533 then (if a0 ≤ 65535 then (some true) else (if a0 > 65535 then (if a0 ≤ 1114111 then (some ((Go.bits .and .i32 a0 65534) == 65534)) else (some false)) else (some false))) else (if a0 > 65535 then (if a0 ≤ 1114111 then (some ((Go.bits .and .i32 a0 65534) == 65534)) else (some false)) else (some false)))) else (if a0 ≥ 65533 then (if a0 ≤ 65535 then (some true) else (if a0 > 65535 then (if a0 ≤ 1114111 then (some ((Go.bits .and .i32 a0 65534) == 65534)) else (some false)) else (some false))) else (if a0 > 65535 then (if a0 ≤ 1114111 then (some ((Go.bits .and .i32 a0 65534) == 65534)) else (some false)) else (some false)))))) else (if a0 ≥ 57344 then (if a0 ≤ 63743 then (some true) else (if a0 ≥ 64976 then (if a0 ≤ 65007 then (some true) else (if a0 ≥ 65533 then (if a0 ≤ 65535 then (some true) else (if a0 > 65535 then (if a0 ≤ 1114111 then (some ((Go.bits .and .i32 a0 65534) == 65534)) else (some false)) else (some false))) else (if a0 > 65535 then (if a0 ≤ 1114111 then (some ((Go.bits .and .i32 a0 65534) == 65534)) else (some false)) else (some false)))) else (if a0 ≥ 65533 then (if a0 ≤ 65535 then (some true) else (if a0 > 65535 then (if a0 ≤ 1114111 then (some ((Go.bits .and .i32 a0 65534) == 65534)) else (some false)) else (some false))) else (if a0 > 65535 then (if a0 ≤ 1114111 then (some ((Go.bits .and .i32 a0 65534) == 65534)) else (some false)) else (some false))))) else (if a0 ≥ 64976 then (if a0 ≤ 65007 then (some true) else (if a0 ≥ 65533 then (if a0 ≤ 65535 then (some true) else (if a0 > 65535 then (if a0 ≤ 1114111 then (some ((Go.bits .and .i32 a0 65534) == 65534)) else (some false)) else (some false))) else (if a0 > 65535 then (if a0 ≤ 1114111 then (some ((Go.bits .and .i32 a0 65534) == 65534)) else (some false)) else (some false)))) else (if a0 ≥ 65533 then (if a0 ≤ 65535 then (some true) else (if a0 > 65535 then (if a0 ≤ 1114111 then (some ((Go.bits .and .i32 a0 65534) == 65534)) else (some false)) else (some false))) else (if a0 > 65535 then (if a0 ≤ 1114111 then (some ((Go.bits .and .i32 a0 65534) == 65534)) else (some false)) else (some false)))))
set_option maxHeartbeats 8000000 in
set_option maxRecDepth 100000 in
theorem chars_bad.calls (a0 : Int) (r : Bool) (w : World) (h : chars_bad.f a0 = some r) :
  Calls Try.prog 91 #[.int .i32 a0] w fun e w' => e = .returned (.bool r) ∧ Drawn0 w w' := by
 have H := h
 clear h
 unfold chars_bad.f at H
 by_cases c2 : a0 ≥ 832
 ·rw [if_pos c2] at H
  have c2b0 : decide (832 ≤ a0) = true := decide_eq_true c2
  clear c2
  by_cases c3 : a0 ≤ 833
  ·rw [if_pos c3] at H
   have c3b0 : decide (a0 ≤ 833) = true := decide_eq_true c3
   clear c3
   obtain rfl := sI H
   go_enter Try.func91, Try.ntmps91
   go_wp2
   go_ret
   exact ⟨zP, zD⟩
  ·rw [if_neg c3] at H
   have c3b0 : decide (a0 ≤ 833) = false := decide_eq_false c3
   clear c3
   by_cases c4 : a0 ≥ 57344
   ·rw [if_pos c4] at H
    have c4b0 : decide (57344 ≤ a0) = true := decide_eq_true c4
    clear c4
    by_cases c5 : a0 ≤ 63743
    ·rw [if_pos c5] at H
     have c5b0 : decide (a0 ≤ 63743) = true := decide_eq_true c5
     clear c5
     obtain rfl := sI H
     go_enter Try.func91, Try.ntmps91
     go_wp2
     go_ret
     exact ⟨zP, zD⟩
    ·rw [if_neg c5] at H
     have c5b0 : decide (a0 ≤ 63743) = false := decide_eq_false c5
     clear c5
     by_cases c6 : a0 ≥ 64976
     ·rw [if_pos c6] at H
      have c6b0 : decide (64976 ≤ a0) = true := decide_eq_true c6
      clear c6
      by_cases c7 : a0 ≤ 65007
      ·rw [if_pos c7] at H
       have c7b0 : decide (a0 ≤ 65007) = true := decide_eq_true c7
       clear c7
       obtain rfl := sI H
       go_enter Try.func91, Try.ntmps91
       go_wp2
       go_ret
       exact ⟨zP, zD⟩
      ·rw [if_neg c7] at H
       have c7b0 : decide (a0 ≤ 65007) = false := decide_eq_false c7
       clear c7
       by_cases c8 : a0 ≥ 65533
       ·rw [if_pos c8] at H
        have c8b0 : decide (65533 ≤ a0) = true := decide_eq_true c8
        clear c8
        by_cases c9 : a0 ≤ 65535
        ·rw [if_pos c9] at H
         have c9b0 : decide (a0 ≤ 65535) = true := decide_eq_true c9
         clear c9
         obtain rfl := sI H
         go_enter Try.func91, Try.ntmps91
         go_wp2
         go_ret
         exact ⟨zP, zD⟩
        ·rw [if_neg c9] at H
         have c9b0 : decide (a0 ≤ 65535) = false := decide_eq_false c9
         clear c9
         by_cases c10 : a0 > 65535
         ·rw [if_pos c10] at H
          have c10b0 : decide (65535 < a0) = true := decide_eq_true c10
          clear c10
          by_cases c11 : a0 ≤ 1114111
          ·rw [if_pos c11] at H
           have c11b0 : decide (a0 ≤ 1114111) = true := decide_eq_true c11
           clear c11
           obtain rfl := sI H
           go_enter Try.func91, Try.ntmps91
           go_wp2
           go_ret
           exact ⟨zP, zD⟩
          ·rw [if_neg c11] at H
           have c11b0 : decide (a0 ≤ 1114111) = false := decide_eq_false c11
           clear c11
           obtain rfl := sI H
           go_enter Try.func91, Try.ntmps91
           go_wp2
           go_ret
           exact ⟨zP, zD⟩
         ·rw [if_neg c10] at H
          have c10b0 : decide (65535 < a0) = false := decide_eq_false c10
          clear c10
          obtain rfl := sI H
          go_enter Try.func91, Try.ntmps91
          go_wp2
          go_ret
          exact ⟨zP, zD⟩
       ·rw [if_neg c8] at H
        have c8b0 : decide (65533 ≤ a0) = false := decide_eq_false c8
        clear c8
        by_cases c12 : a0 > 65535
        ·rw [if_pos c12] at H
         have c12b0 : decide (65535 < a0) = true := decide_eq_true c12
         clear c12
         by_cases c13 : a0 ≤ 1114111
         ·rw [if_pos c13] at H
          have c13b0 : decide (a0 ≤ 1114111) = true := decide_eq_true c13
          clear c13
          obtain rfl := sI H
          go_enter Try.func91, Try.ntmps91
          go_wp2
          go_ret
          exact ⟨zP, zD⟩
         ·rw [if_neg c13] at H
          have c13b0 : decide (a0 ≤ 1114111) = false := decide_eq_false c13
          clear c13
          obtain rfl := sI H
          go_enter Try.func91, Try.ntmps91
          go_wp2
          go_ret
          exact ⟨zP, zD⟩
        ·rw [if_neg c12] at H
         have c12b0 : decide (65535 < a0) = false := decide_eq_false c12
         clear c12
         obtain rfl := sI H
         go_enter Try.func91, Try.ntmps91
         go_wp2
         go_ret
         exact ⟨zP, zD⟩
     ·rw [if_neg c6] at H
      have c6b0 : decide (64976 ≤ a0) = false := decide_eq_false c6
      clear c6
      by_cases c14 : a0 ≥ 65533
      ·rw [if_pos c14] at H
       have c14b0 : decide (65533 ≤ a0) = true := decide_eq_true c14
       clear c14
       by_cases c15 : a0 ≤ 65535
       ·rw [if_pos c15] at H
        have c15b0 : decide (a0 ≤ 65535) = true := decide_eq_true c15
        clear c15
        obtain rfl := sI H
        go_enter Try.func91, Try.ntmps91
        go_wp2
        go_ret
        exact ⟨zP, zD⟩
       ·rw [if_neg c15] at H
        have c15b0 : decide (a0 ≤ 65535) = false := decide_eq_false c15
        clear c15
        by_cases c16 : a0 > 65535
        ·rw [if_pos c16] at H
         have c16b0 : decide (65535 < a0) = true := decide_eq_true c16
         clear c16
         by_cases c17 : a0 ≤ 1114111
         ·rw [if_pos c17] at H
          have c17b0 : decide (a0 ≤ 1114111) = true := decide_eq_true c17
          clear c17
          obtain rfl := sI H
          go_enter Try.func91, Try.ntmps91
          go_wp2
          go_ret
          exact ⟨zP, zD⟩
         ·rw [if_neg c17] at H
          have c17b0 : decide (a0 ≤ 1114111) = false := decide_eq_false c17
          clear c17
          obtain rfl := sI H
          go_enter Try.func91, Try.ntmps91
          go_wp2
          go_ret
          exact ⟨zP, zD⟩
        ·rw [if_neg c16] at H
         have c16b0 : decide (65535 < a0) = false := decide_eq_false c16
         clear c16
         obtain rfl := sI H
         go_enter Try.func91, Try.ntmps91
         go_wp2
         go_ret
         exact ⟨zP, zD⟩
      ·rw [if_neg c14] at H
       have c14b0 : decide (65533 ≤ a0) = false := decide_eq_false c14
       clear c14
       by_cases c18 : a0 > 65535
       ·rw [if_pos c18] at H
        have c18b0 : decide (65535 < a0) = true := decide_eq_true c18
        clear c18
        by_cases c19 : a0 ≤ 1114111
        ·rw [if_pos c19] at H
         have c19b0 : decide (a0 ≤ 1114111) = true := decide_eq_true c19
         clear c19
         obtain rfl := sI H
         go_enter Try.func91, Try.ntmps91
         go_wp2
         go_ret
         exact ⟨zP, zD⟩
        ·rw [if_neg c19] at H
         have c19b0 : decide (a0 ≤ 1114111) = false := decide_eq_false c19
         clear c19
         obtain rfl := sI H
         go_enter Try.func91, Try.ntmps91
         go_wp2
         go_ret
         exact ⟨zP, zD⟩
       ·rw [if_neg c18] at H
        have c18b0 : decide (65535 < a0) = false := decide_eq_false c18
        clear c18
        obtain rfl := sI H
        go_enter Try.func91, Try.ntmps91
        go_wp2
        go_ret
        exact ⟨zP, zD⟩
   ·rw [if_neg c4] at H
    have c4b0 : decide (57344 ≤ a0) = false := decide_eq_false c4
    clear c4
    by_cases c20 : a0 ≥ 64976
    ·rw [if_pos c20] at H
     have c20b0 : decide (64976 ≤ a0) = true := decide_eq_true c20
     clear c20
     by_cases c21 : a0 ≤ 65007
     ·rw [if_pos c21] at H
      have c21b0 : decide (a0 ≤ 65007) = true := decide_eq_true c21
      clear c21
      obtain rfl := sI H
      go_enter Try.func91, Try.ntmps91
      go_wp2
      go_ret
      exact ⟨zP, zD⟩
     ·rw [if_neg c21] at H
      have c21b0 : decide (a0 ≤ 65007) = false := decide_eq_false c21
      clear c21
      by_cases c22 : a0 ≥ 65533
      ·rw [if_pos c22] at H
       have c22b0 : decide (65533 ≤ a0) = true := decide_eq_true c22
       clear c22
       by_cases c23 : a0 ≤ 65535
       ·rw [if_pos c23] at H
        have c23b0 : decide (a0 ≤ 65535) = true := decide_eq_true c23
        clear c23
        obtain rfl := sI H
        go_enter Try.func91, Try.ntmps91
        go_wp2
        go_ret
        exact ⟨zP, zD⟩
       ·rw [if_neg c23] at H
        have c23b0 : decide (a0 ≤ 65535) = false := decide_eq_false c23
        clear c23
        by_cases c24 : a0 > 65535
        ·rw [if_pos c24] at H
         have c24b0 : decide (65535 < a0) = true := decide_eq_true c24
         clear c24
         by_cases c25 : a0 ≤ 1114111
         ·rw [if_pos c25] at H
          have c25b0 : decide (a0 ≤ 1114111) = true := decide_eq_true c25
          clear c25
          obtain rfl := sI H
          go_enter Try.func91, Try.ntmps91
          go_wp2
          go_ret
          exact ⟨zP, zD⟩
         ·rw [if_neg c25] at H
          have c25b0 : decide (a0 ≤ 1114111) = false := decide_eq_false c25
          clear c25
          obtain rfl := sI H
          go_enter Try.func91, Try.ntmps91
          go_wp2
          go_ret
          exact ⟨zP, zD⟩
        ·rw [if_neg c24] at H
         have c24b0 : decide (65535 < a0) = false := decide_eq_false c24
         clear c24
         obtain rfl := sI H
         go_enter Try.func91, Try.ntmps91
         go_wp2
         go_ret
         exact ⟨zP, zD⟩
      ·rw [if_neg c22] at H
       have c22b0 : decide (65533 ≤ a0) = false := decide_eq_false c22
       clear c22
       by_cases c26 : a0 > 65535
       ·rw [if_pos c26] at H
        have c26b0 : decide (65535 < a0) = true := decide_eq_true c26
        clear c26
        by_cases c27 : a0 ≤ 1114111
        ·rw [if_pos c27] at H
         have c27b0 : decide (a0 ≤ 1114111) = true := decide_eq_true c27
         clear c27
         obtain rfl := sI H
         go_enter Try.func91, Try.ntmps91
         go_wp2
         go_ret
         exact ⟨zP, zD⟩
        ·rw [if_neg c27] at H
         have c27b0 : decide (a0 ≤ 1114111) = false := decide_eq_false c27
         clear c27
         obtain rfl := sI H
         go_enter Try.func91, Try.ntmps91
         go_wp2
         go_ret
         exact ⟨zP, zD⟩
       ·rw [if_neg c26] at H
        have c26b0 : decide (65535 < a0) = false := decide_eq_false c26
        clear c26
        obtain rfl := sI H
        go_enter Try.func91, Try.ntmps91
        go_wp2
        go_ret
        exact ⟨zP, zD⟩
    ·rw [if_neg c20] at H
     have c20b0 : decide (64976 ≤ a0) = false := decide_eq_false c20
     clear c20
     by_cases c28 : a0 ≥ 65533
     ·rw [if_pos c28] at H
      have c28b0 : decide (65533 ≤ a0) = true := decide_eq_true c28
      clear c28
      by_cases c29 : a0 ≤ 65535
      ·rw [if_pos c29] at H
       have c29b0 : decide (a0 ≤ 65535) = true := decide_eq_true c29
       clear c29
       obtain rfl := sI H
       go_enter Try.func91, Try.ntmps91
       go_wp2
       go_ret
       exact ⟨zP, zD⟩
      ·rw [if_neg c29] at H
       have c29b0 : decide (a0 ≤ 65535) = false := decide_eq_false c29
       clear c29
       by_cases c30 : a0 > 65535
       ·rw [if_pos c30] at H
        have c30b0 : decide (65535 < a0) = true := decide_eq_true c30
        clear c30
        by_cases c31 : a0 ≤ 1114111
        ·rw [if_pos c31] at H
         have c31b0 : decide (a0 ≤ 1114111) = true := decide_eq_true c31
         clear c31
         obtain rfl := sI H
         go_enter Try.func91, Try.ntmps91
         go_wp2
         go_ret
         exact ⟨zP, zD⟩
        ·rw [if_neg c31] at H
         have c31b0 : decide (a0 ≤ 1114111) = false := decide_eq_false c31
         clear c31
         obtain rfl := sI H
         go_enter Try.func91, Try.ntmps91
         go_wp2
         go_ret
         exact ⟨zP, zD⟩
       ·rw [if_neg c30] at H
        have c30b0 : decide (65535 < a0) = false := decide_eq_false c30
        clear c30
        obtain rfl := sI H
        go_enter Try.func91, Try.ntmps91
        go_wp2
        go_ret
        exact ⟨zP, zD⟩
     ·rw [if_neg c28] at H
      have c28b0 : decide (65533 ≤ a0) = false := decide_eq_false c28
      clear c28
      by_cases c32 : a0 > 65535
      ·rw [if_pos c32] at H
       have c32b0 : decide (65535 < a0) = true := decide_eq_true c32
       clear c32
       by_cases c33 : a0 ≤ 1114111
       ·rw [if_pos c33] at H
        have c33b0 : decide (a0 ≤ 1114111) = true := decide_eq_true c33
        clear c33
        obtain rfl := sI H
        go_enter Try.func91, Try.ntmps91
        go_wp2
        go_ret
        exact ⟨zP, zD⟩
       ·rw [if_neg c33] at H
        have c33b0 : decide (a0 ≤ 1114111) = false := decide_eq_false c33
        clear c33
        obtain rfl := sI H
        go_enter Try.func91, Try.ntmps91
        go_wp2
        go_ret
        exact ⟨zP, zD⟩
      ·rw [if_neg c32] at H
       have c32b0 : decide (65535 < a0) = false := decide_eq_false c32
       clear c32
       obtain rfl := sI H
       go_enter Try.func91, Try.ntmps91
       go_wp2
       go_ret
       exact ⟨zP, zD⟩
 ·rw [if_neg c2] at H
  have c2b0 : decide (832 ≤ a0) = false := decide_eq_false c2
  clear c2
  by_cases c34 : a0 ≥ 57344
  ·rw [if_pos c34] at H
   have c34b0 : decide (57344 ≤ a0) = true := decide_eq_true c34
   clear c34
   by_cases c35 : a0 ≤ 63743
   ·rw [if_pos c35] at H
    have c35b0 : decide (a0 ≤ 63743) = true := decide_eq_true c35
    clear c35
    obtain rfl := sI H
    go_enter Try.func91, Try.ntmps91
    go_wp2
    go_ret
    exact ⟨zP, zD⟩
   ·rw [if_neg c35] at H
    have c35b0 : decide (a0 ≤ 63743) = false := decide_eq_false c35
    clear c35
    by_cases c36 : a0 ≥ 64976
    ·rw [if_pos c36] at H
     have c36b0 : decide (64976 ≤ a0) = true := decide_eq_true c36
     clear c36
     by_cases c37 : a0 ≤ 65007
     ·rw [if_pos c37] at H
      have c37b0 : decide (a0 ≤ 65007) = true := decide_eq_true c37
      clear c37
      obtain rfl := sI H
      go_enter Try.func91, Try.ntmps91
      go_wp2
      go_ret
      exact ⟨zP, zD⟩
     ·rw [if_neg c37] at H
      have c37b0 : decide (a0 ≤ 65007) = false := decide_eq_false c37
      clear c37
      by_cases c38 : a0 ≥ 65533
      ·rw [if_pos c38] at H
       have c38b0 : decide (65533 ≤ a0) = true := decide_eq_true c38
       clear c38
       by_cases c39 : a0 ≤ 65535
       ·rw [if_pos c39] at H
        have c39b0 : decide (a0 ≤ 65535) = true := decide_eq_true c39
        clear c39
        obtain rfl := sI H
        go_enter Try.func91, Try.ntmps91
        go_wp2
        go_ret
        exact ⟨zP, zD⟩
       ·rw [if_neg c39] at H
        have c39b0 : decide (a0 ≤ 65535) = false := decide_eq_false c39
        clear c39
        by_cases c40 : a0 > 65535
        ·rw [if_pos c40] at H
         have c40b0 : decide (65535 < a0) = true := decide_eq_true c40
         clear c40
         by_cases c41 : a0 ≤ 1114111
         ·rw [if_pos c41] at H
          have c41b0 : decide (a0 ≤ 1114111) = true := decide_eq_true c41
          clear c41
          obtain rfl := sI H
          go_enter Try.func91, Try.ntmps91
          go_wp2
          go_ret
          exact ⟨zP, zD⟩
         ·rw [if_neg c41] at H
          have c41b0 : decide (a0 ≤ 1114111) = false := decide_eq_false c41
          clear c41
          obtain rfl := sI H
          go_enter Try.func91, Try.ntmps91
          go_wp2
          go_ret
          exact ⟨zP, zD⟩
        ·rw [if_neg c40] at H
         have c40b0 : decide (65535 < a0) = false := decide_eq_false c40
         clear c40
         obtain rfl := sI H
         go_enter Try.func91, Try.ntmps91
         go_wp2
         go_ret
         exact ⟨zP, zD⟩
      ·rw [if_neg c38] at H
       have c38b0 : decide (65533 ≤ a0) = false := decide_eq_false c38
       clear c38
       by_cases c42 : a0 > 65535
       ·rw [if_pos c42] at H
        have c42b0 : decide (65535 < a0) = true := decide_eq_true c42
        clear c42
        by_cases c43 : a0 ≤ 1114111
        ·rw [if_pos c43] at H
         have c43b0 : decide (a0 ≤ 1114111) = true := decide_eq_true c43
         clear c43
         obtain rfl := sI H
         go_enter Try.func91, Try.ntmps91
         go_wp2
         go_ret
         exact ⟨zP, zD⟩
        ·rw [if_neg c43] at H
         have c43b0 : decide (a0 ≤ 1114111) = false := decide_eq_false c43
         clear c43
         obtain rfl := sI H
         go_enter Try.func91, Try.ntmps91
         go_wp2
         go_ret
         exact ⟨zP, zD⟩
       ·rw [if_neg c42] at H
        have c42b0 : decide (65535 < a0) = false := decide_eq_false c42
        clear c42
        obtain rfl := sI H
        go_enter Try.func91, Try.ntmps91
        go_wp2
        go_ret
        exact ⟨zP, zD⟩
    ·rw [if_neg c36] at H
     have c36b0 : decide (64976 ≤ a0) = false := decide_eq_false c36
     clear c36
     by_cases c44 : a0 ≥ 65533
     ·rw [if_pos c44] at H
      have c44b0 : decide (65533 ≤ a0) = true := decide_eq_true c44
      clear c44
      by_cases c45 : a0 ≤ 65535
      ·rw [if_pos c45] at H
       have c45b0 : decide (a0 ≤ 65535) = true := decide_eq_true c45
       clear c45
       obtain rfl := sI H
       go_enter Try.func91, Try.ntmps91
       go_wp2
       go_ret
       exact ⟨zP, zD⟩
      ·rw [if_neg c45] at H
       have c45b0 : decide (a0 ≤ 65535) = false := decide_eq_false c45
       clear c45
       by_cases c46 : a0 > 65535
       ·rw [if_pos c46] at H
        have c46b0 : decide (65535 < a0) = true := decide_eq_true c46
        clear c46
        by_cases c47 : a0 ≤ 1114111
        ·rw [if_pos c47] at H
         have c47b0 : decide (a0 ≤ 1114111) = true := decide_eq_true c47
         clear c47
         obtain rfl := sI H
         go_enter Try.func91, Try.ntmps91
         go_wp2
         go_ret
         exact ⟨zP, zD⟩
        ·rw [if_neg c47] at H
         have c47b0 : decide (a0 ≤ 1114111) = false := decide_eq_false c47
         clear c47
         obtain rfl := sI H
         go_enter Try.func91, Try.ntmps91
         go_wp2
         go_ret
         exact ⟨zP, zD⟩
       ·rw [if_neg c46] at H
        have c46b0 : decide (65535 < a0) = false := decide_eq_false c46
        clear c46
        obtain rfl := sI H
        go_enter Try.func91, Try.ntmps91
        go_wp2
        go_ret
        exact ⟨zP, zD⟩
     ·rw [if_neg c44] at H
      have c44b0 : decide (65533 ≤ a0) = false := decide_eq_false c44
      clear c44
      by_cases c48 : a0 > 65535
      ·rw [if_pos c48] at H
       have c48b0 : decide (65535 < a0) = true := decide_eq_true c48
       clear c48
       by_cases c49 : a0 ≤ 1114111
       ·rw [if_pos c49] at H
        have c49b0 : decide (a0 ≤ 1114111) = true := decide_eq_true c49
        clear c49
        obtain rfl := sI H
        go_enter Try.func91, Try.ntmps91
        go_wp2
        go_ret
        exact ⟨zP, zD⟩
       ·rw [if_neg c49] at H
        have c49b0 : decide (a0 ≤ 1114111) = false := decide_eq_false c49
        clear c49
        obtain rfl := sI H
        go_enter Try.func91, Try.ntmps91
        go_wp2
        go_ret
        exact ⟨zP, zD⟩
      ·rw [if_neg c48] at H
       have c48b0 : decide (65535 < a0) = false := decide_eq_false c48
       clear c48
       obtain rfl := sI H
       go_enter Try.func91, Try.ntmps91
       go_wp2
       go_ret
       exact ⟨zP, zD⟩
  ·rw [if_neg c34] at H
   have c34b0 : decide (57344 ≤ a0) = false := decide_eq_false c34
   clear c34
   by_cases c50 : a0 ≥ 64976
   ·rw [if_pos c50] at H
    have c50b0 : decide (64976 ≤ a0) = true := decide_eq_true c50
    clear c50
    by_cases c51 : a0 ≤ 65007
    ·rw [if_pos c51] at H
     have c51b0 : decide (a0 ≤ 65007) = true := decide_eq_true c51
     clear c51
     obtain rfl := sI H
     go_enter Try.func91, Try.ntmps91
     go_wp2
     go_ret
     exact ⟨zP, zD⟩
    ·rw [if_neg c51] at H
     have c51b0 : decide (a0 ≤ 65007) = false := decide_eq_false c51
     clear c51
     by_cases c52 : a0 ≥ 65533
     ·rw [if_pos c52] at H
      have c52b0 : decide (65533 ≤ a0) = true := decide_eq_true c52
      clear c52
      by_cases c53 : a0 ≤ 65535
      ·rw [if_pos c53] at H
       have c53b0 : decide (a0 ≤ 65535) = true := decide_eq_true c53
       clear c53
       obtain rfl := sI H
       go_enter Try.func91, Try.ntmps91
       go_wp2
       go_ret
       exact ⟨zP, zD⟩
      ·rw [if_neg c53] at H
       have c53b0 : decide (a0 ≤ 65535) = false := decide_eq_false c53
       clear c53
       by_cases c54 : a0 > 65535
       ·rw [if_pos c54] at H
        have c54b0 : decide (65535 < a0) = true := decide_eq_true c54
        clear c54
        by_cases c55 : a0 ≤ 1114111
        ·rw [if_pos c55] at H
         have c55b0 : decide (a0 ≤ 1114111) = true := decide_eq_true c55
         clear c55
         obtain rfl := sI H
         go_enter Try.func91, Try.ntmps91
         go_wp2
         go_ret
         exact ⟨zP, zD⟩
        ·rw [if_neg c55] at H
         have c55b0 : decide (a0 ≤ 1114111) = false := decide_eq_false c55
         clear c55
         obtain rfl := sI H
         go_enter Try.func91, Try.ntmps91
         go_wp2
         go_ret
         exact ⟨zP, zD⟩
       ·rw [if_neg c54] at H
        have c54b0 : decide (65535 < a0) = false := decide_eq_false c54
        clear c54
        obtain rfl := sI H
        go_enter Try.func91, Try.ntmps91
        go_wp2
        go_ret
        exact ⟨zP, zD⟩
     ·rw [if_neg c52] at H
      have c52b0 : decide (65533 ≤ a0) = false := decide_eq_false c52
      clear c52
      by_cases c56 : a0 > 65535
      ·rw [if_pos c56] at H
       have c56b0 : decide (65535 < a0) = true := decide_eq_true c56
       clear c56
       by_cases c57 : a0 ≤ 1114111
       ·rw [if_pos c57] at H
        have c57b0 : decide (a0 ≤ 1114111) = true := decide_eq_true c57
        clear c57
        obtain rfl := sI H
        go_enter Try.func91, Try.ntmps91
        go_wp2
        go_ret
        exact ⟨zP, zD⟩
       ·rw [if_neg c57] at H
        have c57b0 : decide (a0 ≤ 1114111) = false := decide_eq_false c57
        clear c57
        obtain rfl := sI H
        go_enter Try.func91, Try.ntmps91
        go_wp2
        go_ret
        exact ⟨zP, zD⟩
      ·rw [if_neg c56] at H
       have c56b0 : decide (65535 < a0) = false := decide_eq_false c56
       clear c56
       obtain rfl := sI H
       go_enter Try.func91, Try.ntmps91
       go_wp2
       go_ret
       exact ⟨zP, zD⟩
   ·rw [if_neg c50] at H
    have c50b0 : decide (64976 ≤ a0) = false := decide_eq_false c50
    clear c50
    by_cases c58 : a0 ≥ 65533
    ·rw [if_pos c58] at H
     have c58b0 : decide (65533 ≤ a0) = true := decide_eq_true c58
     clear c58
     by_cases c59 : a0 ≤ 65535
     ·rw [if_pos c59] at H
      have c59b0 : decide (a0 ≤ 65535) = true := decide_eq_true c59
      clear c59
      obtain rfl := sI H
      go_enter Try.func91, Try.ntmps91
      go_wp2
      go_ret
      exact ⟨zP, zD⟩
     ·rw [if_neg c59] at H
      have c59b0 : decide (a0 ≤ 65535) = false := decide_eq_false c59
      clear c59
      by_cases c60 : a0 > 65535
      ·rw [if_pos c60] at H
       have c60b0 : decide (65535 < a0) = true := decide_eq_true c60
       clear c60
       by_cases c61 : a0 ≤ 1114111
       ·rw [if_pos c61] at H
        have c61b0 : decide (a0 ≤ 1114111) = true := decide_eq_true c61
        clear c61
        obtain rfl := sI H
        go_enter Try.func91, Try.ntmps91
        go_wp2
        go_ret
        exact ⟨zP, zD⟩
       ·rw [if_neg c61] at H
        have c61b0 : decide (a0 ≤ 1114111) = false := decide_eq_false c61
        clear c61
        obtain rfl := sI H
        go_enter Try.func91, Try.ntmps91
        go_wp2
        go_ret
        exact ⟨zP, zD⟩
      ·rw [if_neg c60] at H
       have c60b0 : decide (65535 < a0) = false := decide_eq_false c60
       clear c60
       obtain rfl := sI H
       go_enter Try.func91, Try.ntmps91
       go_wp2
       go_ret
       exact ⟨zP, zD⟩
    ·rw [if_neg c58] at H
     have c58b0 : decide (65533 ≤ a0) = false := decide_eq_false c58
     clear c58
     by_cases c62 : a0 > 65535
     ·rw [if_pos c62] at H
      have c62b0 : decide (65535 < a0) = true := decide_eq_true c62
      clear c62
      by_cases c63 : a0 ≤ 1114111
      ·rw [if_pos c63] at H
       have c63b0 : decide (a0 ≤ 1114111) = true := decide_eq_true c63
       clear c63
       obtain rfl := sI H
       go_enter Try.func91, Try.ntmps91
       go_wp2
       go_ret
       exact ⟨zP, zD⟩
      ·rw [if_neg c63] at H
       have c63b0 : decide (a0 ≤ 1114111) = false := decide_eq_false c63
       clear c63
       obtain rfl := sI H
       go_enter Try.func91, Try.ntmps91
       go_wp2
       go_ret
       exact ⟨zP, zD⟩
     ·rw [if_neg c62] at H
      have c62b0 : decide (65535 < a0) = false := decide_eq_false c62
      clear c62
      obtain rfl := sI H
      go_enter Try.func91, Try.ntmps91
      go_wp2
      go_ret
      exact ⟨zP, zD⟩

/-! ### chars_Kind: function 70 -/
def chars_Kind.f (a0 : Int) : Option (Int) := (chars_letter.f a0).bind fun t278 => (if t278 = true then (some 1) else ((chars_digit.f a0).bind fun t279 => (if t279 = true then (some 2) else ((chars_mark.f a0).bind fun t280 => (if t280 = true then (some 3) else ((chars_sign.f a0).bind fun t281 => (if t281 = true then (some 4) else ((chars_space.f a0).bind fun t282 => (if t282 = true then (some 5) else ((chars_gone.f a0).bind fun t283 => (if t283 = true then (some 6) else ((chars_bad.f a0).bind fun t284 => (if t284 = true then (some 7) else (some 0))))))))))))))
set_option maxHeartbeats 8000000 in
set_option maxRecDepth 100000 in
theorem chars_Kind.calls (a0 : Int) (r : Int) (w : World) (h : chars_Kind.f a0 = some r) :
  Calls Try.prog 70 #[.int .i32 a0] w fun e w' => e = .returned (.int .i64 r) ∧ Drawn0 w w' := by
 have H := h
 clear h
 unfold chars_Kind.f at H
 obtain ⟨t278, A2, H⟩ := zO H
 by_cases c3 : t278 = true
 ·subst c3
  rw [if_pos rfl] at H
  obtain rfl := sI H
  go_enter Try.func70, Try.ntmps70
  go_wp2_with (first | ((with_reducible refine gate_callee (f := 86) rfl ?_); refine goesL_ (some 5) rfl rfl Try.func86 zK rfl #[.int .i32 a0] rfl zM ?_; (with_reducible refine (chars_letter.calls a0 true _ A2.out).mono ?_); rintro e w' ⟨rfl, ⟨nd, rfl⟩⟩; refine ⟨_, rfl, ?_⟩))
  go_ret
  exact ⟨zP, zD⟩
 ·replace c3 := Bool.eq_false_iff.mpr c3
  subst c3
  rw [if_neg (show ¬ (false = true) by decide)] at H
  obtain ⟨t279, A4, H⟩ := zO H
  by_cases c5 : t279 = true
  ·subst c5
   rw [if_pos rfl] at H
   obtain rfl := sI H
   go_enter Try.func70, Try.ntmps70
   go_wp2_with (first | ((with_reducible refine gate_callee (f := 86) rfl ?_); refine goesL_ (some 5) rfl rfl Try.func86 zK rfl #[.int .i32 a0] rfl zM ?_; (with_reducible refine (chars_letter.calls a0 false _ A2.out).mono ?_); rintro e w' ⟨rfl, ⟨nd, rfl⟩⟩; refine ⟨_, rfl, ?_⟩) | ((with_reducible refine gate_callee (f := 87) rfl ?_); refine goesL_ (some 8) rfl rfl Try.func87 zK rfl #[.int .i32 a0] rfl zM ?_; (with_reducible refine (chars_digit.calls a0 true _ A4.out).mono ?_); rintro e w' ⟨rfl, ⟨nd, rfl⟩⟩; refine ⟨_, rfl, ?_⟩))
   go_ret
   exact ⟨zP, zD⟩
  ·replace c5 := Bool.eq_false_iff.mpr c5
   subst c5
   rw [if_neg (show ¬ (false = true) by decide)] at H
   obtain ⟨t280, A6, H⟩ := zO H
   by_cases c7 : t280 = true
   ·subst c7
    rw [if_pos rfl] at H
    obtain rfl := sI H
    go_enter Try.func70, Try.ntmps70
    go_wp2_with (first | ((with_reducible refine gate_callee (f := 86) rfl ?_); refine goesL_ (some 5) rfl rfl Try.func86 zK rfl #[.int .i32 a0] rfl zM ?_; (with_reducible refine (chars_letter.calls a0 false _ A2.out).mono ?_); rintro e w' ⟨rfl, ⟨nd, rfl⟩⟩; refine ⟨_, rfl, ?_⟩) | ((with_reducible refine gate_callee (f := 87) rfl ?_); refine goesL_ (some 8) rfl rfl Try.func87 zK rfl #[.int .i32 a0] rfl zM ?_; (with_reducible refine (chars_digit.calls a0 false _ A4.out).mono ?_); rintro e w' ⟨rfl, ⟨nd, rfl⟩⟩; refine ⟨_, rfl, ?_⟩) | ((with_reducible refine gate_callee (f := 77) rfl ?_); refine goesL_ (some 11) rfl rfl Try.func77 zK rfl #[.int .i32 a0] rfl zM ?_; (with_reducible refine (chars_mark.calls a0 true _ A6.out).mono ?_); rintro e w' ⟨rfl, ⟨nd, rfl⟩⟩; refine ⟨_, rfl, ?_⟩))
    go_ret
    exact ⟨zP, zD⟩
   ·replace c7 := Bool.eq_false_iff.mpr c7
    subst c7
    rw [if_neg (show ¬ (false = true) by decide)] at H
    obtain ⟨t281, A8, H⟩ := zO H
    by_cases c9 : t281 = true
    ·subst c9
     rw [if_pos rfl] at H
     obtain rfl := sI H
     go_enter Try.func70, Try.ntmps70
     go_wp2_with (first | ((with_reducible refine gate_callee (f := 86) rfl ?_); refine goesL_ (some 5) rfl rfl Try.func86 zK rfl #[.int .i32 a0] rfl zM ?_; (with_reducible refine (chars_letter.calls a0 false _ A2.out).mono ?_); rintro e w' ⟨rfl, ⟨nd, rfl⟩⟩; refine ⟨_, rfl, ?_⟩) | ((with_reducible refine gate_callee (f := 87) rfl ?_); refine goesL_ (some 8) rfl rfl Try.func87 zK rfl #[.int .i32 a0] rfl zM ?_; (with_reducible refine (chars_digit.calls a0 false _ A4.out).mono ?_); rintro e w' ⟨rfl, ⟨nd, rfl⟩⟩; refine ⟨_, rfl, ?_⟩) | ((with_reducible refine gate_callee (f := 77) rfl ?_); refine goesL_ (some 11) rfl rfl Try.func77 zK rfl #[.int .i32 a0] rfl zM ?_; (with_reducible refine (chars_mark.calls a0 false _ A6.out).mono ?_); rintro e w' ⟨rfl, ⟨nd, rfl⟩⟩; refine ⟨_, rfl, ?_⟩) | ((with_reducible refine gate_callee (f := 88) rfl ?_); refine goesL_ (some 14) rfl rfl Try.func88 zK rfl #[.int .i32 a0] rfl zM ?_; (with_reducible refine (chars_sign.calls a0 true _ A8.out).mono ?_); rintro e w' ⟨rfl, ⟨nd, rfl⟩⟩; refine ⟨_, rfl, ?_⟩))
     go_ret
     exact ⟨zP, zD⟩
    ·replace c9 := Bool.eq_false_iff.mpr c9
     subst c9
     rw [if_neg (show ¬ (false = true) by decide)] at H
     obtain ⟨t282, A10, H⟩ := zO H
     by_cases c11 : t282 = true
     ·subst c11
      rw [if_pos rfl] at H
      obtain rfl := sI H
      go_enter Try.func70, Try.ntmps70
      go_wp2_with (first | ((with_reducible refine gate_callee (f := 86) rfl ?_); refine goesL_ (some 5) rfl rfl Try.func86 zK rfl #[.int .i32 a0] rfl zM ?_; (with_reducible refine (chars_letter.calls a0 false _ A2.out).mono ?_); rintro e w' ⟨rfl, ⟨nd, rfl⟩⟩; refine ⟨_, rfl, ?_⟩) | ((with_reducible refine gate_callee (f := 87) rfl ?_); refine goesL_ (some 8) rfl rfl Try.func87 zK rfl #[.int .i32 a0] rfl zM ?_; (with_reducible refine (chars_digit.calls a0 false _ A4.out).mono ?_); rintro e w' ⟨rfl, ⟨nd, rfl⟩⟩; refine ⟨_, rfl, ?_⟩) | ((with_reducible refine gate_callee (f := 77) rfl ?_); refine goesL_ (some 11) rfl rfl Try.func77 zK rfl #[.int .i32 a0] rfl zM ?_; (with_reducible refine (chars_mark.calls a0 false _ A6.out).mono ?_); rintro e w' ⟨rfl, ⟨nd, rfl⟩⟩; refine ⟨_, rfl, ?_⟩) | ((with_reducible refine gate_callee (f := 88) rfl ?_); refine goesL_ (some 14) rfl rfl Try.func88 zK rfl #[.int .i32 a0] rfl zM ?_; (with_reducible refine (chars_sign.calls a0 false _ A8.out).mono ?_); rintro e w' ⟨rfl, ⟨nd, rfl⟩⟩; refine ⟨_, rfl, ?_⟩) | ((with_reducible refine gate_callee (f := 89) rfl ?_); refine goesL_ (some 17) rfl rfl Try.func89 zK rfl #[.int .i32 a0] rfl zM ?_; (with_reducible refine (chars_space.calls a0 true _ A10.out).mono ?_); rintro e w' ⟨rfl, ⟨nd, rfl⟩⟩; refine ⟨_, rfl, ?_⟩))
      go_ret
      exact ⟨zP, zD⟩
     ·replace c11 := Bool.eq_false_iff.mpr c11
      subst c11
      rw [if_neg (show ¬ (false = true) by decide)] at H
      obtain ⟨t283, A12, H⟩ := zO H
      by_cases c13 : t283 = true
      ·subst c13
       rw [if_pos rfl] at H
       obtain rfl := sI H
       go_enter Try.func70, Try.ntmps70
       go_wp2_with (first | ((with_reducible refine gate_callee (f := 86) rfl ?_); refine goesL_ (some 5) rfl rfl Try.func86 zK rfl #[.int .i32 a0] rfl zM ?_; (with_reducible refine (chars_letter.calls a0 false _ A2.out).mono ?_); rintro e w' ⟨rfl, ⟨nd, rfl⟩⟩; refine ⟨_, rfl, ?_⟩) | ((with_reducible refine gate_callee (f := 87) rfl ?_); refine goesL_ (some 8) rfl rfl Try.func87 zK rfl #[.int .i32 a0] rfl zM ?_; (with_reducible refine (chars_digit.calls a0 false _ A4.out).mono ?_); rintro e w' ⟨rfl, ⟨nd, rfl⟩⟩; refine ⟨_, rfl, ?_⟩) | ((with_reducible refine gate_callee (f := 77) rfl ?_); refine goesL_ (some 11) rfl rfl Try.func77 zK rfl #[.int .i32 a0] rfl zM ?_; (with_reducible refine (chars_mark.calls a0 false _ A6.out).mono ?_); rintro e w' ⟨rfl, ⟨nd, rfl⟩⟩; refine ⟨_, rfl, ?_⟩) | ((with_reducible refine gate_callee (f := 88) rfl ?_); refine goesL_ (some 14) rfl rfl Try.func88 zK rfl #[.int .i32 a0] rfl zM ?_; (with_reducible refine (chars_sign.calls a0 false _ A8.out).mono ?_); rintro e w' ⟨rfl, ⟨nd, rfl⟩⟩; refine ⟨_, rfl, ?_⟩) | ((with_reducible refine gate_callee (f := 89) rfl ?_); refine goesL_ (some 17) rfl rfl Try.func89 zK rfl #[.int .i32 a0] rfl zM ?_; (with_reducible refine (chars_space.calls a0 false _ A10.out).mono ?_); rintro e w' ⟨rfl, ⟨nd, rfl⟩⟩; refine ⟨_, rfl, ?_⟩) | ((with_reducible refine gate_callee (f := 90) rfl ?_); refine goesL_ (some 20) rfl rfl Try.func90 zK rfl #[.int .i32 a0] rfl zM ?_; (with_reducible refine (chars_gone.calls a0 true _ A12.out).mono ?_); rintro e w' ⟨rfl, ⟨nd, rfl⟩⟩; refine ⟨_, rfl, ?_⟩))
       go_ret
       exact ⟨zP, zD⟩
      ·replace c13 := Bool.eq_false_iff.mpr c13
       subst c13
       rw [if_neg (show ¬ (false = true) by decide)] at H
       obtain ⟨t284, A14, H⟩ := zO H
       by_cases c15 : t284 = true
       ·subst c15
        rw [if_pos rfl] at H
        obtain rfl := sI H
        go_enter Try.func70, Try.ntmps70
        go_wp2_with (first | ((with_reducible refine gate_callee (f := 86) rfl ?_); refine goesL_ (some 5) rfl rfl Try.func86 zK rfl #[.int .i32 a0] rfl zM ?_; (with_reducible refine (chars_letter.calls a0 false _ A2.out).mono ?_); rintro e w' ⟨rfl, ⟨nd, rfl⟩⟩; refine ⟨_, rfl, ?_⟩) | ((with_reducible refine gate_callee (f := 87) rfl ?_); refine goesL_ (some 8) rfl rfl Try.func87 zK rfl #[.int .i32 a0] rfl zM ?_; (with_reducible refine (chars_digit.calls a0 false _ A4.out).mono ?_); rintro e w' ⟨rfl, ⟨nd, rfl⟩⟩; refine ⟨_, rfl, ?_⟩) | ((with_reducible refine gate_callee (f := 77) rfl ?_); refine goesL_ (some 11) rfl rfl Try.func77 zK rfl #[.int .i32 a0] rfl zM ?_; (with_reducible refine (chars_mark.calls a0 false _ A6.out).mono ?_); rintro e w' ⟨rfl, ⟨nd, rfl⟩⟩; refine ⟨_, rfl, ?_⟩) | ((with_reducible refine gate_callee (f := 88) rfl ?_); refine goesL_ (some 14) rfl rfl Try.func88 zK rfl #[.int .i32 a0] rfl zM ?_; (with_reducible refine (chars_sign.calls a0 false _ A8.out).mono ?_); rintro e w' ⟨rfl, ⟨nd, rfl⟩⟩; refine ⟨_, rfl, ?_⟩) | ((with_reducible refine gate_callee (f := 89) rfl ?_); refine goesL_ (some 17) rfl rfl Try.func89 zK rfl #[.int .i32 a0] rfl zM ?_; (with_reducible refine (chars_space.calls a0 false _ A10.out).mono ?_); rintro e w' ⟨rfl, ⟨nd, rfl⟩⟩; refine ⟨_, rfl, ?_⟩) | ((with_reducible refine gate_callee (f := 90) rfl ?_); refine goesL_ (some 20) rfl rfl Try.func90 zK rfl #[.int .i32 a0] rfl zM ?_; (with_reducible refine (chars_gone.calls a0 false _ A12.out).mono ?_); rintro e w' ⟨rfl, ⟨nd, rfl⟩⟩; refine ⟨_, rfl, ?_⟩) | ((with_reducible refine gate_callee (f := 91) rfl ?_); refine goesL_ (some 23) rfl rfl Try.func91 zK rfl #[.int .i32 a0] rfl zM ?_; (with_reducible refine (chars_bad.calls a0 true _ A14.out).mono ?_); rintro e w' ⟨rfl, ⟨nd, rfl⟩⟩; refine ⟨_, rfl, ?_⟩))
        go_ret
        exact ⟨zP, zD⟩
       ·replace c15 := Bool.eq_false_iff.mpr c15
        subst c15
        rw [if_neg (show ¬ (false = true) by decide)] at H
        obtain rfl := sI H
        go_enter Try.func70, Try.ntmps70
        go_wp2_with (first | ((with_reducible refine gate_callee (f := 86) rfl ?_); refine goesL_ (some 5) rfl rfl Try.func86 zK rfl #[.int .i32 a0] rfl zM ?_; (with_reducible refine (chars_letter.calls a0 false _ A2.out).mono ?_); rintro e w' ⟨rfl, ⟨nd, rfl⟩⟩; refine ⟨_, rfl, ?_⟩) | ((with_reducible refine gate_callee (f := 87) rfl ?_); refine goesL_ (some 8) rfl rfl Try.func87 zK rfl #[.int .i32 a0] rfl zM ?_; (with_reducible refine (chars_digit.calls a0 false _ A4.out).mono ?_); rintro e w' ⟨rfl, ⟨nd, rfl⟩⟩; refine ⟨_, rfl, ?_⟩) | ((with_reducible refine gate_callee (f := 77) rfl ?_); refine goesL_ (some 11) rfl rfl Try.func77 zK rfl #[.int .i32 a0] rfl zM ?_; (with_reducible refine (chars_mark.calls a0 false _ A6.out).mono ?_); rintro e w' ⟨rfl, ⟨nd, rfl⟩⟩; refine ⟨_, rfl, ?_⟩) | ((with_reducible refine gate_callee (f := 88) rfl ?_); refine goesL_ (some 14) rfl rfl Try.func88 zK rfl #[.int .i32 a0] rfl zM ?_; (with_reducible refine (chars_sign.calls a0 false _ A8.out).mono ?_); rintro e w' ⟨rfl, ⟨nd, rfl⟩⟩; refine ⟨_, rfl, ?_⟩) | ((with_reducible refine gate_callee (f := 89) rfl ?_); refine goesL_ (some 17) rfl rfl Try.func89 zK rfl #[.int .i32 a0] rfl zM ?_; (with_reducible refine (chars_space.calls a0 false _ A10.out).mono ?_); rintro e w' ⟨rfl, ⟨nd, rfl⟩⟩; refine ⟨_, rfl, ?_⟩) | ((with_reducible refine gate_callee (f := 90) rfl ?_); refine goesL_ (some 20) rfl rfl Try.func90 zK rfl #[.int .i32 a0] rfl zM ?_; (with_reducible refine (chars_gone.calls a0 false _ A12.out).mono ?_); rintro e w' ⟨rfl, ⟨nd, rfl⟩⟩; refine ⟨_, rfl, ?_⟩) | ((with_reducible refine gate_callee (f := 91) rfl ?_); refine goesL_ (some 23) rfl rfl Try.func91 zK rfl #[.int .i32 a0] rfl zM ?_; (with_reducible refine (chars_bad.calls a0 false _ A14.out).mono ?_); rintro e w' ⟨rfl, ⟨nd, rfl⟩⟩; refine ⟨_, rfl, ?_⟩))
        go_ret
        exact ⟨zP, zD⟩

/-! ### chars_Is: function 46 -/
def chars_Is.f (k : Nat) (a0 : Int) (l1 : List Int) : Option (Bool) := (chars_Kind.f a0).bind fun t285 => ((slices_Contains_int_int.f k l1 t285).bind fun t286 => (some t286))
theorem chars_Is.mono : ∀ a0 a1 k, LeO (chars_Is.f k a0 a1) (chars_Is.f (k + 1) a0 a1) := by
 intro a0 a1 k
 unfold chars_Is.f
 repeat' first
   | (with_reducible exact slices_Contains_int_int.mono _ _ _)
   | (with_reducible exact LeO.refl _)
   | exact slices_Contains_int_int.mono _ _ _
   | exact LeO.none _
   | refine LeO.ite ?_ ?_
   | refine LeO.bind ?_ (fun _ => ?_)
set_option maxHeartbeats 8000000 in
set_option maxRecDepth 100000 in
theorem chars_Is.calls (k : Nat) (a0 : Int) (A1 : Option Addr) (c1 : Nat) (l1 : List Int) (r : Bool) (w : World) (hr1 : Kd.C (Kd.int .i64) w A1 l1.length l1) (hc1 : l1.length ≤ c1) (h : chars_Is.f k a0 l1 = some r) :
  Calls Try.prog 46 #[.int .i32 a0, .slice A1 l1.length c1] w fun e w' => e = .returned (.bool r) ∧ Drawn0 w w' := by
 have HR1 := aM hr1
 have HC1 := aM hc1
 clear hr1 hc1
 have H := h
 clear h
 unfold chars_Is.f at H
 obtain ⟨t285, A3, H⟩ := zO H
 obtain ⟨t286, A4, H⟩ := zO H
 obtain rfl := sI H
 go_enter Try.func46, Try.ntmps46
 go_wp2_with (first | ((with_reducible refine gate_callee (f := 70) rfl ?_); refine goesL_ (some 7) rfl rfl Try.func70 zK rfl #[.int .i32 a0] rfl zM ?_; (with_reducible refine (chars_Kind.calls a0 t285 _ A3.out).mono ?_); rintro e w' ⟨rfl, ⟨nd, rfl⟩⟩; refine ⟨_, rfl, ?_⟩) | ((with_reducible refine gate_callee (f := 69) rfl ?_); refine goesL_ (some 8) rfl rfl Try.func69 zK rfl #[.slice A1 l1.length c1, .int .i64 t285] rfl zM ?_; (with_reducible refine (slices_Contains_int_int.calls k _ _ l1 t285 t286 _ ?side1 ?side2 A4.out).mono ?_); (case side1 => exact zC HR1.out); (case side2 => exact HC1.out); rintro e w' ⟨rfl, ⟨nd, rfl⟩⟩; refine ⟨_, rfl, ?_⟩))
 go_ret
 exact ⟨zP, zD⟩

/-! ### fold_more: function 71 -/
def fold_more.f (a0 : Int) : Option (ByteArray) := if a0 = 181 then (some (⟨#[206, 188]⟩ : ByteArray)) else (if a0 = 223 then (some (⟨#[115, 115]⟩ : ByteArray)) else (if a0 = 304 then (some (⟨#[105, 204, 135]⟩ : ByteArray)) else (if a0 = 329 then (some (⟨#[202, 188, 110]⟩ : ByteArray)) else (if a0 = 376 then (some (⟨#[195, 191]⟩ : ByteArray)) else (if a0 = 383 then (some (⟨#[115]⟩ : ByteArray)) else (if a0 = 902 then (some (⟨#[206, 172]⟩ : ByteArray)) else (if a0 = 908 then (some (⟨#[207, 140]⟩ : ByteArray)) else (if a0 = 910 then (some (⟨#[207, 141]⟩ : ByteArray)) else (if a0 = 911 then (some (⟨#[207, 142]⟩ : ByteArray)) else (if a0 = 962 then (some (⟨#[207, 131]⟩ : ByteArray)) else (if a0 = 1025 then (some (⟨#[209, 145]⟩ : ByteArray)) else (if a0 = 8486 then (some (⟨#[207, 137]⟩ : ByteArray)) else (if a0 = 8490 then (some (⟨#[107]⟩ : ByteArray)) else (if a0 = 8491 then (some (⟨#[195, 165]⟩ : ByteArray)) else (if a0 = 64256 then (some (⟨#[102, 102]⟩ : ByteArray)) else (if a0 = 64257 then (some (⟨#[102, 105]⟩ : ByteArray)) else (if a0 = 64258 then (some (⟨#[102, 108]⟩ : ByteArray)) else (if a0 = 64259 then (some (⟨#[102, 102, 105]⟩ : ByteArray)) else (if a0 = 64260 then (some (⟨#[102, 102, 108]⟩ : ByteArray)) else (if a0 = 64261 then (some (⟨#[115, 116]⟩ : ByteArray)) else (some (⟨#[]⟩ : ByteArray))))))))))))))))))))))
set_option maxHeartbeats 8000000 in
set_option maxRecDepth 100000 in
theorem fold_more.calls (a0 : Int) (r : ByteArray) (w : World) (h : fold_more.f a0 = some r) :
  Calls Try.prog 71 #[.int .i32 a0] w fun e w' => e = .returned (.string r) ∧ Drawn0 w w' := by
 have H := h
 clear h
 unfold fold_more.f at H
 by_cases c2 : a0 = 181
 ·rw [if_pos c2] at H
  have c2b0 : (a0 == 181) = true := beq_iff_eq.mpr c2
  have c2b1 : (a0 != 181) = false := bne_eq_false_iff_eq.mpr c2
  clear c2
  obtain rfl := sI H
  go_enter Try.func71, Try.ntmps71
  go_wp2
  go_ret
  exact ⟨zP, zD⟩
 ·rw [if_neg c2] at H
  have c2b0 : (a0 == 181) = false := beq_eq_false_iff_ne.mpr c2
  have c2b1 : (a0 != 181) = true := bne_iff_ne.mpr c2
  by_cases c3 : a0 = 223
  ·rw [if_pos c3] at H
   have c3b0 : (a0 == 223) = true := beq_iff_eq.mpr c3
   have c3b1 : (a0 != 223) = false := bne_eq_false_iff_eq.mpr c3
   clear c3
   obtain rfl := sI H
   go_enter Try.func71, Try.ntmps71
   go_wp2
   go_ret
   exact ⟨zP, zD⟩
  ·rw [if_neg c3] at H
   have c3b0 : (a0 == 223) = false := beq_eq_false_iff_ne.mpr c3
   have c3b1 : (a0 != 223) = true := bne_iff_ne.mpr c3
   by_cases c4 : a0 = 304
   ·rw [if_pos c4] at H
    have c4b0 : (a0 == 304) = true := beq_iff_eq.mpr c4
    have c4b1 : (a0 != 304) = false := bne_eq_false_iff_eq.mpr c4
    clear c4
    obtain rfl := sI H
    go_enter Try.func71, Try.ntmps71
    go_wp2
    go_ret
    exact ⟨zP, zD⟩
   ·rw [if_neg c4] at H
    have c4b0 : (a0 == 304) = false := beq_eq_false_iff_ne.mpr c4
    have c4b1 : (a0 != 304) = true := bne_iff_ne.mpr c4
    by_cases c5 : a0 = 329
    ·rw [if_pos c5] at H
     have c5b0 : (a0 == 329) = true := beq_iff_eq.mpr c5
     have c5b1 : (a0 != 329) = false := bne_eq_false_iff_eq.mpr c5
     clear c5
     obtain rfl := sI H
     go_enter Try.func71, Try.ntmps71
     go_wp2
     go_ret
     exact ⟨zP, zD⟩
    ·rw [if_neg c5] at H
     have c5b0 : (a0 == 329) = false := beq_eq_false_iff_ne.mpr c5
     have c5b1 : (a0 != 329) = true := bne_iff_ne.mpr c5
     by_cases c6 : a0 = 376
     ·rw [if_pos c6] at H
      have c6b0 : (a0 == 376) = true := beq_iff_eq.mpr c6
      have c6b1 : (a0 != 376) = false := bne_eq_false_iff_eq.mpr c6
      clear c6
      obtain rfl := sI H
      go_enter Try.func71, Try.ntmps71
      go_wp2
      go_ret
      exact ⟨zP, zD⟩
     ·rw [if_neg c6] at H
      have c6b0 : (a0 == 376) = false := beq_eq_false_iff_ne.mpr c6
      have c6b1 : (a0 != 376) = true := bne_iff_ne.mpr c6
      by_cases c7 : a0 = 383
      ·rw [if_pos c7] at H
       have c7b0 : (a0 == 383) = true := beq_iff_eq.mpr c7
       have c7b1 : (a0 != 383) = false := bne_eq_false_iff_eq.mpr c7
       clear c7
       obtain rfl := sI H
       go_enter Try.func71, Try.ntmps71
       go_wp2
       go_ret
       exact ⟨zP, zD⟩
      ·rw [if_neg c7] at H
       have c7b0 : (a0 == 383) = false := beq_eq_false_iff_ne.mpr c7
       have c7b1 : (a0 != 383) = true := bne_iff_ne.mpr c7
       by_cases c8 : a0 = 902
       ·rw [if_pos c8] at H
        have c8b0 : (a0 == 902) = true := beq_iff_eq.mpr c8
        have c8b1 : (a0 != 902) = false := bne_eq_false_iff_eq.mpr c8
        clear c8
        obtain rfl := sI H
        go_enter Try.func71, Try.ntmps71
        go_wp2
        go_ret
        exact ⟨zP, zD⟩
       ·rw [if_neg c8] at H
        have c8b0 : (a0 == 902) = false := beq_eq_false_iff_ne.mpr c8
        have c8b1 : (a0 != 902) = true := bne_iff_ne.mpr c8
        by_cases c9 : a0 = 908
        ·rw [if_pos c9] at H
         have c9b0 : (a0 == 908) = true := beq_iff_eq.mpr c9
         have c9b1 : (a0 != 908) = false := bne_eq_false_iff_eq.mpr c9
         clear c9
         obtain rfl := sI H
         go_enter Try.func71, Try.ntmps71
         go_wp2
         go_ret
         exact ⟨zP, zD⟩
        ·rw [if_neg c9] at H
         have c9b0 : (a0 == 908) = false := beq_eq_false_iff_ne.mpr c9
         have c9b1 : (a0 != 908) = true := bne_iff_ne.mpr c9
         by_cases c10 : a0 = 910
         ·rw [if_pos c10] at H
          have c10b0 : (a0 == 910) = true := beq_iff_eq.mpr c10
          have c10b1 : (a0 != 910) = false := bne_eq_false_iff_eq.mpr c10
          clear c10
          obtain rfl := sI H
          go_enter Try.func71, Try.ntmps71
          go_wp2
          go_ret
          exact ⟨zP, zD⟩
         ·rw [if_neg c10] at H
          have c10b0 : (a0 == 910) = false := beq_eq_false_iff_ne.mpr c10
          have c10b1 : (a0 != 910) = true := bne_iff_ne.mpr c10
          by_cases c11 : a0 = 911
          ·rw [if_pos c11] at H
           have c11b0 : (a0 == 911) = true := beq_iff_eq.mpr c11
           have c11b1 : (a0 != 911) = false := bne_eq_false_iff_eq.mpr c11
           clear c11
           obtain rfl := sI H
           go_enter Try.func71, Try.ntmps71
           go_wp2
           go_ret
           exact ⟨zP, zD⟩
          ·rw [if_neg c11] at H
           have c11b0 : (a0 == 911) = false := beq_eq_false_iff_ne.mpr c11
           have c11b1 : (a0 != 911) = true := bne_iff_ne.mpr c11
           by_cases c12 : a0 = 962
           ·rw [if_pos c12] at H
            have c12b0 : (a0 == 962) = true := beq_iff_eq.mpr c12
            have c12b1 : (a0 != 962) = false := bne_eq_false_iff_eq.mpr c12
            clear c12
            obtain rfl := sI H
            go_enter Try.func71, Try.ntmps71
            go_wp2
            go_ret
            exact ⟨zP, zD⟩
           ·rw [if_neg c12] at H
            have c12b0 : (a0 == 962) = false := beq_eq_false_iff_ne.mpr c12
            have c12b1 : (a0 != 962) = true := bne_iff_ne.mpr c12
            by_cases c13 : a0 = 1025
            ·rw [if_pos c13] at H
             have c13b0 : (a0 == 1025) = true := beq_iff_eq.mpr c13
             have c13b1 : (a0 != 1025) = false := bne_eq_false_iff_eq.mpr c13
             clear c13
             obtain rfl := sI H
             go_enter Try.func71, Try.ntmps71
             go_wp2
             go_ret
             exact ⟨zP, zD⟩
            ·rw [if_neg c13] at H
             have c13b0 : (a0 == 1025) = false := beq_eq_false_iff_ne.mpr c13
             have c13b1 : (a0 != 1025) = true := bne_iff_ne.mpr c13
             by_cases c14 : a0 = 8486
             ·rw [if_pos c14] at H
              have c14b0 : (a0 == 8486) = true := beq_iff_eq.mpr c14
              have c14b1 : (a0 != 8486) = false := bne_eq_false_iff_eq.mpr c14
              clear c14
              obtain rfl := sI H
              go_enter Try.func71, Try.ntmps71
              go_wp2
              go_ret
              exact ⟨zP, zD⟩
             ·rw [if_neg c14] at H
              have c14b0 : (a0 == 8486) = false := beq_eq_false_iff_ne.mpr c14
              have c14b1 : (a0 != 8486) = true := bne_iff_ne.mpr c14
              by_cases c15 : a0 = 8490
              ·rw [if_pos c15] at H
               have c15b0 : (a0 == 8490) = true := beq_iff_eq.mpr c15
               have c15b1 : (a0 != 8490) = false := bne_eq_false_iff_eq.mpr c15
               clear c15
               obtain rfl := sI H
               go_enter Try.func71, Try.ntmps71
               go_wp2
               go_ret
               exact ⟨zP, zD⟩
              ·rw [if_neg c15] at H
               have c15b0 : (a0 == 8490) = false := beq_eq_false_iff_ne.mpr c15
               have c15b1 : (a0 != 8490) = true := bne_iff_ne.mpr c15
               by_cases c16 : a0 = 8491
               ·rw [if_pos c16] at H
                have c16b0 : (a0 == 8491) = true := beq_iff_eq.mpr c16
                have c16b1 : (a0 != 8491) = false := bne_eq_false_iff_eq.mpr c16
                clear c16
                obtain rfl := sI H
                go_enter Try.func71, Try.ntmps71
                go_wp2
                go_ret
                exact ⟨zP, zD⟩
               ·rw [if_neg c16] at H
                have c16b0 : (a0 == 8491) = false := beq_eq_false_iff_ne.mpr c16
                have c16b1 : (a0 != 8491) = true := bne_iff_ne.mpr c16
                by_cases c17 : a0 = 64256
                ·rw [if_pos c17] at H
                 have c17b0 : (a0 == 64256) = true := beq_iff_eq.mpr c17
                 have c17b1 : (a0 != 64256) = false := bne_eq_false_iff_eq.mpr c17
                 clear c17
                 obtain rfl := sI H
                 go_enter Try.func71, Try.ntmps71
                 go_wp2
                 go_ret
                 exact ⟨zP, zD⟩
                ·rw [if_neg c17] at H
                 have c17b0 : (a0 == 64256) = false := beq_eq_false_iff_ne.mpr c17
                 have c17b1 : (a0 != 64256) = true := bne_iff_ne.mpr c17
                 by_cases c18 : a0 = 64257
                 ·rw [if_pos c18] at H
                  have c18b0 : (a0 == 64257) = true := beq_iff_eq.mpr c18
                  have c18b1 : (a0 != 64257) = false := bne_eq_false_iff_eq.mpr c18
                  clear c18
                  obtain rfl := sI H
                  go_enter Try.func71, Try.ntmps71
                  go_wp2
                  go_ret
                  exact ⟨zP, zD⟩
                 ·rw [if_neg c18] at H
                  have c18b0 : (a0 == 64257) = false := beq_eq_false_iff_ne.mpr c18
                  have c18b1 : (a0 != 64257) = true := bne_iff_ne.mpr c18
                  by_cases c19 : a0 = 64258
                  ·rw [if_pos c19] at H
                   have c19b0 : (a0 == 64258) = true := beq_iff_eq.mpr c19
                   have c19b1 : (a0 != 64258) = false := bne_eq_false_iff_eq.mpr c19
                   clear c19
                   obtain rfl := sI H
                   go_enter Try.func71, Try.ntmps71
                   go_wp2
                   go_ret
                   exact ⟨zP, zD⟩
                  ·rw [if_neg c19] at H
                   have c19b0 : (a0 == 64258) = false := beq_eq_false_iff_ne.mpr c19
                   have c19b1 : (a0 != 64258) = true := bne_iff_ne.mpr c19
                   by_cases c20 : a0 = 64259
                   ·rw [if_pos c20] at H
                    have c20b0 : (a0 == 64259) = true := beq_iff_eq.mpr c20
                    have c20b1 : (a0 != 64259) = false := bne_eq_false_iff_eq.mpr c20
                    clear c20
                    obtain rfl := sI H
                    go_enter Try.func71, Try.ntmps71
                    go_wp2
                    go_ret
                    exact ⟨zP, zD⟩
                   ·rw [if_neg c20] at H
                    have c20b0 : (a0 == 64259) = false := beq_eq_false_iff_ne.mpr c20
                    have c20b1 : (a0 != 64259) = true := bne_iff_ne.mpr c20
                    by_cases c21 : a0 = 64260
                    ·rw [if_pos c21] at H
                     have c21b0 : (a0 == 64260) = true := beq_iff_eq.mpr c21
                     have c21b1 : (a0 != 64260) = false := bne_eq_false_iff_eq.mpr c21
                     clear c21
                     obtain rfl := sI H
                     go_enter Try.func71, Try.ntmps71
                     go_wp2
                     go_ret
                     exact ⟨zP, zD⟩
                    ·rw [if_neg c21] at H
                     have c21b0 : (a0 == 64260) = false := beq_eq_false_iff_ne.mpr c21
                     have c21b1 : (a0 != 64260) = true := bne_iff_ne.mpr c21
                     by_cases c22 : a0 = 64261
                     ·rw [if_pos c22] at H
                      have c22b0 : (a0 == 64261) = true := beq_iff_eq.mpr c22
                      have c22b1 : (a0 != 64261) = false := bne_eq_false_iff_eq.mpr c22
                      clear c22
                      obtain rfl := sI H
                      go_enter Try.func71, Try.ntmps71
                      go_wp2
                      go_ret
                      exact ⟨zP, zD⟩
                     ·rw [if_neg c22] at H
                      have c22b0 : (a0 == 64261) = false := beq_eq_false_iff_ne.mpr c22
                      have c22b1 : (a0 != 64261) = true := bne_iff_ne.mpr c22
                      obtain rfl := sI H
                      go_enter Try.func71, Try.ntmps71
                      go_wp2
                      go_ret
                      exact ⟨zP, zD⟩

/-! ### fold_within: function 92 -/
def fold_within.f (a0 : Int) (a1 : Int) (a2 : Int) : Option (Bool) := if a0 ≥ a1 then (some (decide (a0 ≤ a2))) else (some false)
set_option maxHeartbeats 8000000 in
set_option maxRecDepth 100000 in
theorem fold_within.calls (a0 : Int) (a1 : Int) (a2 : Int) (r : Bool) (w : World) (h : fold_within.f a0 a1 a2 = some r) :
  Calls Try.prog 92 #[.int .i32 a0, .int .i32 a1, .int .i32 a2] w fun e w' => e = .returned (.bool r) ∧ Drawn0 w w' := by
 have H := h
 clear h
 unfold fold_within.f at H
 by_cases c4 : a0 ≥ a1
 ·rw [if_pos c4] at H
  have c4b0 : decide (a1 ≤ a0) = true := decide_eq_true c4
  clear c4
  obtain rfl := sI H
  go_enter Try.func92, Try.ntmps92
  go_wp2
  go_ret
  exact ⟨zP, zD⟩
 ·rw [if_neg c4] at H
  have c4b0 : decide (a1 ≤ a0) = false := decide_eq_false c4
  clear c4
  obtain rfl := sI H
  go_enter Try.func92, Try.ntmps92
  go_wp2
  go_ret
  exact ⟨zP, zD⟩

end Go.Proofs.Ytncppcjobimilaa.P
