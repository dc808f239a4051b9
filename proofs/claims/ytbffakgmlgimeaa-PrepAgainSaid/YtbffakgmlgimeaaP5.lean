-- Printed by wip/mk.py (this session's driver over the kit's print) and from wip/manual.
import Derived.Test.YtbffakgmlgimeaaP0
import Derived.Test.YtbffakgmlgimeaaP1
import Derived.Test.YtbffakgmlgimeaaP2
import Derived.Test.YtbffakgmlgimeaaP3
import Derived.Test.YtbffakgmlgimeaaP4
namespace Go.Proofs.Ytbffakgmlgimeaa.P
open Go.RowKit Go.Proofs.YtbffakgmlgimeaaW.PrintWords Go.Proofs.YtbffakgmlgimeaaW.PrintLast Go.Proofs.YtbffakgmlgimeaaW.PrintMore
attribute [local go_sem] max2_int min2_int max_two min_two max_three min_three max_four min_four   -- for this text's walks alone
set_option linter.unusedVariables false
set_option linter.unusedSimpArgs false

/-! ### chars_bad: function 71 -/
def chars_bad.f (a0 : Int) : Option (Bool) := if a0 ≥ 832 then (if a0 ≤ 833 then (some true) else (if a0 ≥ 57344 then (if a0 ≤ 63743 then (some true) else (if a0 ≥ 64976 then (if a0 ≤ 65007 then (some true) else (if a0 ≥ 65533 then (if a0 ≤ 65535 then (some true) else (if a0 > 65535 then (if a0 ≤ 1114111 then (some ((Go.bits .and .i32 a0 65534) == 65534)) else (some false)) else (some false))) else (if a0 > 65535 then (if a0 ≤ 1114111 then (some ((Go.bits .and .i32 a0 65534) == 65534)) else (some false)) else (some false)))) else (if a0 ≥ 65533 then (if a0 ≤ 65535 then (some true) else (if a0 > 65535 then (if a0 ≤ 1114111 then (some ((Go.bits .and .i32 a0 65534) == 65534)) else (some false)) else (some false))) else (if a0 > 65535 then (if a0 ≤ 1114111 then (some ((Go.bits .and .i32 a0 65534) == 65534)) else (some false)) else (some false))))) else (if a0 ≥ 64976 then (if a0 ≤ 65007 then (some true) else (if a0 ≥ 65533 then (if a0 ≤ 65535 then (some true) else (if a0 > 65535 then (if a0 ≤ 1114111 then (some ((Go.bits .and .i32 a0 65534) == 65534)) else (some false)) else (some false))) else (if a0 > 65535 then (if a0 ≤ 1114111 then (some ((Go.bits .and .i32 a0 65534) == 65534)) else (some false)) else (some false)))) else (if a0 ≥ 65533 then (if a0 ≤ 65535 then (some true) else (if a0 > 65535 then (if a0 ≤ 1114111 then (some ((Go.bits .and .i32 a0 65534) == 65534)) else (some false)) else (some false))) else (if a0 > 65535 then (if a0 ≤ 1114111 then (some ((Go.bits .and .i32 a0 65534) == 65534)) else (some false)) else (some false)))))) else (if a0 ≥ 57344 then (if a0 ≤ 63743 then (some true) else (if a0 ≥ 64976 then (if a0 ≤ 65007 then (some true) else (if a0 ≥ 65533 then (if a0 ≤ 65535 then (some true) else (if a0 > 65535 then (if a0 ≤ 1114111 then (some ((Go.bits .and .i32 a0 65534) == 65534)) else (some false)) else (some false))) else (if a0 > 65535 then (if a0 ≤ 1114111 then (some ((Go.bits .and .i32 a0 65534) == 65534)) else (some false)) else (some false)))) else (if a0 ≥ 65533 then (if a0 ≤ 65535 then (some true) else (if a0 > 65535 then (if a0 ≤ 1114111 then (some ((Go.bits .and .i32 a0 65534) == 65534)) else (some false)) else (some false))) else (if a0 > 65535 then (if a0 ≤ 1114111 then (some ((Go.bits .and .i32 a0 65534) == 65534)) else (some false)) else (some false))))) else (if a0 ≥ 64976 then (if a0 ≤ 65007 then (some true) else (if a0 ≥ 65533 then (if a0 ≤ 65535 then (some true) else (if a0 > 65535 then (if a0 ≤ 1114111 then (some ((Go.bits .and .i32 a0 65534) == 65534)) else (some false)) else (some false))) else (if a0 > 65535 then (if a0 ≤ 1114111 then (some ((Go.bits .and .i32 a0 65534) == 65534)) else (some false)) else (some false)))) else (if a0 ≥ 65533 then (if a0 ≤ 65535 then (some true) else (if a0 > 65535 then (if a0 ≤ 1114111 then (some ((Go.bits .and .i32 a0 65534) == 65534)) else (some false)) else (some false))) else (if a0 > 65535 then (if a0 ≤ 1114111 then (some ((Go.bits .and .i32 a0 65534) == 65534)) else (some false)) else (some false)))))
set_option maxHeartbeats 8000000 in
set_option maxRecDepth 100000 in
theorem chars_bad.calls (a0 : Int) (r : Bool) (w : World) (h : chars_bad.f a0 = some r) :
  Calls Try.prog 71 #[.int .i32 a0] w fun e w' => e = .returned (.bool r) ∧ Drawn0 w w' := by
 have H := h
 clear h
 unfold chars_bad.f at H
 by_cases c2 : a0 ≥ 832
 ·rw [if_pos c2] at H
  have c2b0 : decide (832 ≤ a0) = true := decide_eq_true c2
  clear c2
  by_cases c3 : a0 ≤ 833
  ·rw [if_pos c3] at H
   have c3b0 : decide (a0 ≤ 833) = true := decide_eq_true c3
   clear c3
   obtain rfl := sI H
   go_enter Try.func71, Try.ntmps71
   go_wp2
   go_ret
   exact ⟨zP, zD⟩
  ·rw [if_neg c3] at H
   have c3b0 : decide (a0 ≤ 833) = false := decide_eq_false c3
   clear c3
   by_cases c4 : a0 ≥ 57344
   ·rw [if_pos c4] at H
    have c4b0 : decide (57344 ≤ a0) = true := decide_eq_true c4
    clear c4
    by_cases c5 : a0 ≤ 63743
    ·rw [if_pos c5] at H
     have c5b0 : decide (a0 ≤ 63743) = true := decide_eq_true c5
     clear c5
     obtain rfl := sI H
     go_enter Try.func71, Try.ntmps71
     go_wp2
     go_ret
     exact ⟨zP, zD⟩
    ·rw [if_neg c5] at H
     have c5b0 : decide (a0 ≤ 63743) = false := decide_eq_false c5
     clear c5
     by_cases c6 : a0 ≥ 64976
     ·rw [if_pos c6] at H
      have c6b0 : decide (64976 ≤ a0) = true := decide_eq_true c6
      clear c6
      by_cases c7 : a0 ≤ 65007
      ·rw [if_pos c7] at H
       have c7b0 : decide (a0 ≤ 65007) = true := decide_eq_true c7
       clear c7
       obtain rfl := sI H
       go_enter Try.func71, Try.ntmps71
       go_wp2
       go_ret
       exact ⟨zP, zD⟩
      ·rw [if_neg c7] at H
       have c7b0 : decide (a0 ≤ 65007) = false := decide_eq_false c7
       clear c7
       by_cases c8 : a0 ≥ 65533
       ·rw [if_pos c8] at H
        have c8b0 : decide (65533 ≤ a0) = true := decide_eq_true c8
        clear c8
        by_cases c9 : a0 ≤ 65535
        ·rw [if_pos c9] at H
         have c9b0 : decide (a0 ≤ 65535) = true := decide_eq_true c9
         clear c9
         obtain rfl := sI H
         go_enter Try.func71, Try.ntmps71
         go_wp2
         go_ret
         exact ⟨zP, zD⟩
        ·rw [if_neg c9] at H
         have c9b0 : decide (a0 ≤ 65535) = false := decide_eq_false c9
         clear c9
         by_cases c10 : a0 > 65535
         ·rw [if_pos c10] at H
          have c10b0 : decide (65535 < a0) = true := decide_eq_true c10
          clear c10
          by_cases c11 : a0 ≤ 1114111
          ·rw [if_pos c11] at H
           have c11b0 : decide (a0 ≤ 1114111) = true := decide_eq_true c11
           clear c11
           obtain rfl := sI H
           go_enter Try.func71, Try.ntmps71
           go_wp2
           go_ret
           exact ⟨zP, zD⟩
          ·rw [if_neg c11] at H
           have c11b0 : decide (a0 ≤ 1114111) = false := decide_eq_false c11
           clear c11
           obtain rfl := sI H
           go_enter Try.func71, Try.ntmps71
           go_wp2
           go_ret
           exact ⟨zP, zD⟩
         ·rw [if_neg c10] at H
          have c10b0 : decide (65535 < a0) = false := decide_eq_false c10
          clear c10
          obtain rfl := sI H
          go_enter Try.func71, Try.ntmps71
          go_wp2
          go_ret
          exact ⟨zP, zD⟩
       ·rw [if_neg c8] at H
        have c8b0 : decide (65533 ≤ a0) = false := decide_eq_false c8
        clear c8
        by_cases c12 : a0 > 65535
        ·rw [if_pos c12] at H
         have c12b0 : decide (65535 < a0) = true := decide_eq_true c12
         clear c12
         by_cases c13 : a0 ≤ 1114111
         ·rw [if_pos c13] at H
          have c13b0 : decide (a0 ≤ 1114111) = true := decide_eq_true c13
          clear c13
          obtain rfl := sI H
          go_enter Try.func71, Try.ntmps71
          go_wp2
          go_ret
          exact ⟨zP, zD⟩
         ·rw [if_neg c13] at H
          have c13b0 : decide (a0 ≤ 1114111) = false := decide_eq_false c13
          clear c13
          obtain rfl := sI H
          go_enter Try.func71, Try.ntmps71
          go_wp2
          go_ret
          exact ⟨zP, zD⟩
        ·rw [if_neg c12] at H
         have c12b0 : decide (65535 < a0) = false := decide_eq_false c12
         clear c12
         obtain rfl := sI H
         go_enter Try.func71, Try.ntmps71
         go_wp2
         go_ret
         exact ⟨zP, zD⟩
     ·rw [if_neg c6] at H
      have c6b0 : decide (64976 ≤ a0) = false := decide_eq_false c6
      clear c6
      by_cases c14 : a0 ≥ 65533
      ·rw [if_pos c14] at H
       have c14b0 : decide (65533 ≤ a0) = true := decide_eq_true c14
       clear c14
       by_cases c15 : a0 ≤ 65535
       ·rw [if_pos c15] at H
        have c15b0 : decide (a0 ≤ 65535) = true := decide_eq_true c15
        clear c15
        obtain rfl := sI H
        go_enter Try.func71, Try.ntmps71
        go_wp2
        go_ret
        exact ⟨zP, zD⟩
       ·rw [if_neg c15] at H
        have c15b0 : decide (a0 ≤ 65535) = false := decide_eq_false c15
        clear c15
        by_cases c16 : a0 > 65535
        ·rw [if_pos c16] at H
         have c16b0 : decide (65535 < a0) = true := decide_eq_true c16
         clear c16
         by_cases c17 : a0 ≤ 1114111
         ·rw [if_pos c17] at H
          have c17b0 : decide (a0 ≤ 1114111) = true := decide_eq_true c17
          clear c17
          obtain rfl := sI H
          go_enter Try.func71, Try.ntmps71
          go_wp2
          go_ret
          exact ⟨zP, zD⟩
         ·rw [if_neg c17] at H
          have c17b0 : decide (a0 ≤ 1114111) = false := decide_eq_false c17
          clear c17
          obtain rfl := sI H
          go_enter Try.func71, Try.ntmps71
          go_wp2
          go_ret
          exact ⟨zP, zD⟩
        ·rw [if_neg c16] at H
         have c16b0 : decide (65535 < a0) = false := decide_eq_false c16
         clear c16
         obtain rfl := sI H
         go_enter Try.func71, Try.ntmps71
         go_wp2
         go_ret
         exact ⟨zP, zD⟩
      ·rw [if_neg c14] at H
       have c14b0 : decide (65533 ≤ a0) = false := decide_eq_false c14
       clear c14
       by_cases c18 : a0 > 65535
       ·rw [if_pos c18] at H
        have c18b0 : decide (65535 < a0) = true := decide_eq_true c18
        clear c18
        by_cases c19 : a0 ≤ 1114111
        ·rw [if_pos c19] at H
         have c19b0 : decide (a0 ≤ 1114111) = true := decide_eq_true c19
         clear c19
         obtain rfl := sI H
         go_enter Try.func71, Try.ntmps71
         go_wp2
         go_ret
         exact ⟨zP, zD⟩
        ·rw [if_neg c19] at H
         have c19b0 : decide (a0 ≤ 1114111) = false := decide_eq_false c19
         clear c19
         obtain rfl := sI H
         go_enter Try.func71, Try.ntmps71
         go_wp2
         go_ret
         exact ⟨zP, zD⟩
       ·rw [if_neg c18] at H
        have c18b0 : decide (65535 < a0) = false := decide_eq_false c18
        clear c18
        obtain rfl := sI H
        go_enter Try.func71, Try.ntmps71
        go_wp2
        go_ret
        exact ⟨zP, zD⟩
   ·rw [if_neg c4] at H
    have c4b0 : decide (57344 ≤ a0) = false := decide_eq_false c4
    clear c4
    by_cases c20 : a0 ≥ 64976
    ·rw [if_pos c20] at H
     have c20b0 : decide (64976 ≤ a0) = true := decide_eq_true c20
     clear c20
     by_cases c21 : a0 ≤ 65007
     ·rw [if_pos c21] at H
      have c21b0 : decide (a0 ≤ 65007) = true := decide_eq_true c21
      clear c21
      obtain rfl := sI H
      go_enter Try.func71, Try.ntmps71
      go_wp2
      go_ret
      exact ⟨zP, zD⟩
     ·rw [if_neg c21] at H
      have c21b0 : decide (a0 ≤ 65007) = false := decide_eq_false c21
      clear c21
      by_cases c22 : a0 ≥ 65533
      ·rw [if_pos c22] at H
       have c22b0 : decide (65533 ≤ a0) = true := decide_eq_true c22
       clear c22
       by_cases c23 : a0 ≤ 65535
       ·rw [if_pos c23] at H
        have c23b0 : decide (a0 ≤ 65535) = true := decide_eq_true c23
        clear c23
        obtain rfl := sI H
        go_enter Try.func71, Try.ntmps71
        go_wp2
        go_ret
        exact ⟨zP, zD⟩
       ·rw [if_neg c23] at H
        have c23b0 : decide (a0 ≤ 65535) = false := decide_eq_false c23
        clear c23
        by_cases c24 : a0 > 65535
        ·rw [if_pos c24] at H
         have c24b0 : decide (65535 < a0) = true := decide_eq_true c24
         clear c24
         by_cases c25 : a0 ≤ 1114111
         ·rw [if_pos c25] at H
          have c25b0 : decide (a0 ≤ 1114111) = true := decide_eq_true c25
          clear c25
          obtain rfl := sI H
          go_enter Try.func71, Try.ntmps71
          go_wp2
          go_ret
          exact ⟨zP, zD⟩
         ·rw [if_neg c25] at H
          have c25b0 : decide (a0 ≤ 1114111) = false := decide_eq_false c25
          clear c25
          obtain rfl := sI H
          go_enter Try.func71, Try.ntmps71
          go_wp2
          go_ret
          exact ⟨zP, zD⟩
        ·rw [if_neg c24] at H
         have c24b0 : decide (65535 < a0) = false := decide_eq_false c24
         clear c24
         obtain rfl := sI H
         go_enter Try.func71, Try.ntmps71
         go_wp2
         go_ret
         exact ⟨zP, zD⟩
      ·rw [if_neg c22] at H
       have c22b0 : decide (65533 ≤ a0) = false := decide_eq_false c22
       clear c22
       by_cases c26 : a0 > 65535
       ·rw [if_pos c26] at H
        have c26b0 : decide (65535 < a0) = true := decide_eq_true c26
        clear c26
        by_cases c27 : a0 ≤ 1114111
        ·rw [if_pos c27] at H
         have c27b0 : decide (a0 ≤ 1114111) = true := decide_eq_true c27
         clear c27
         obtain rfl := sI H
         go_enter Try.func71, Try.ntmps71
         go_wp2
         go_ret
         exact ⟨zP, zD⟩
        ·rw [if_neg c27] at H
         have c27b0 : decide (a0 ≤ 1114111) = false := decide_eq_false c27
         clear c27
         obtain rfl := sI H
         go_enter Try.func71, Try.ntmps71
         go_wp2
         go_ret
         exact ⟨zP, zD⟩
       ·rw [if_neg c26] at H
        have c26b0 : decide (65535 < a0) = false := decide_eq_false c26
        clear c26
        obtain rfl := sI H
        go_enter Try.func71, Try.ntmps71
        go_wp2
        go_ret
        exact ⟨zP, zD⟩
    ·rw [if_neg c20] at H
     have c20b0 : decide (64976 ≤ a0) = false := decide_eq_false c20
     clear c20
     by_cases c28 : a0 ≥ 65533
     ·rw [if_pos c28] at H
      have c28b0 : decide (65533 ≤ a0) = true := decide_eq_true c28
      clear c28
      by_cases c29 : a0 ≤ 65535
      ·rw [if_pos c29] at H
       have c29b0 : decide (a0 ≤ 65535) = true := decide_eq_true c29
       clear c29
       obtain rfl := sI H
       go_enter Try.func71, Try.ntmps71
       go_wp2
       go_ret
       exact ⟨zP, zD⟩
      ·rw [if_neg c29] at H
       have c29b0 : decide (a0 ≤ 65535) = false := decide_eq_false c29
       clear c29
       by_cases c30 : a0 > 65535
       ·rw [if_pos c30] at H
        have c30b0 : decide (65535 < a0) = true := decide_eq_true c30
        clear c30
        by_cases c31 : a0 ≤ 1114111
        ·rw [if_pos c31] at H
         have c31b0 : decide (a0 ≤ 1114111) = true := decide_eq_true c31
         clear c31
         obtain rfl := sI H
         go_enter Try.func71, Try.ntmps71
         go_wp2
         go_ret
         exact ⟨zP, zD⟩
        ·rw [if_neg c31] at H
         have c31b0 : decide (a0 ≤ 1114111) = false := decide_eq_false c31
         clear c31
         obtain rfl := sI H
         go_enter Try.func71, Try.ntmps71
         go_wp2
         go_ret
         exact ⟨zP, zD⟩
       ·rw [if_neg c30] at H
        have c30b0 : decide (65535 < a0) = false := decide_eq_false c30
        clear c30
        obtain rfl := sI H
        go_enter Try.func71, Try.ntmps71
        go_wp2
        go_ret
        exact ⟨zP, zD⟩
     ·rw [if_neg c28] at H
      have c28b0 : decide (65533 ≤ a0) = false := decide_eq_false c28
      clear c28
      by_cases c32 : a0 > 65535
      ·rw [if_pos c32] at H
       have c32b0 : decide (65535 < a0) = true := decide_eq_true c32
       clear c32
       by_cases c33 : a0 ≤ 1114111
       ·rw [if_pos c33] at H
        have c33b0 : decide (a0 ≤ 1114111) = true := decide_eq_true c33
        clear c33
        obtain rfl := sI H
        go_enter Try.func71, Try.ntmps71
        go_wp2
        go_ret
        exact ⟨zP, zD⟩
       ·rw [if_neg c33] at H
        have c33b0 : decide (a0 ≤ 1114111) = false := decide_eq_false c33
        clear c33
        obtain rfl := sI H
        go_enter Try.func71, Try.ntmps71
        go_wp2
        go_ret
        exact ⟨zP, zD⟩
      ·rw [if_neg c32] at H
       have c32b0 : decide (65535 < a0) = false := decide_eq_false c32
       clear c32
       obtain rfl := sI H
       go_enter Try.func71, Try.ntmps71
       go_wp2
       go_ret
       exact ⟨zP, zD⟩
 ·rw [if_neg c2] at H
  have c2b0 : decide (832 ≤ a0) = false := decide_eq_false c2
  clear c2
  by_cases c34 : a0 ≥ 57344
  ·rw [if_pos c34] at H
   have c34b0 : decide (57344 ≤ a0) = true := decide_eq_true c34
   clear c34
   by_cases c35 : a0 ≤ 63743
   ·rw [if_pos c35] at H
    have c35b0 : decide (a0 ≤ 63743) = true := decide_eq_true c35
    clear c35
    obtain rfl := sI H
    go_enter Try.func71, Try.ntmps71
    go_wp2
    go_ret
    exact ⟨zP, zD⟩
   ·rw [if_neg c35] at H
    have c35b0 : decide (a0 ≤ 63743) = false := decide_eq_false c35
    clear c35
    by_cases c36 : a0 ≥ 64976
    ·rw [if_pos c36] at H
     have c36b0 : decide (64976 ≤ a0) = true := decide_eq_true c36
     clear c36
     by_cases c37 : a0 ≤ 65007
     ·rw [if_pos c37] at H
      have c37b0 : decide (a0 ≤ 65007) = true := decide_eq_true c37
      clear c37
      obtain rfl := sI H
      go_enter Try.func71, Try.ntmps71
      go_wp2
      go_ret
      exact ⟨zP, zD⟩
     ·rw [if_neg c37] at H
      have c37b0 : decide (a0 ≤ 65007) = false := decide_eq_false c37
      clear c37
      by_cases c38 : a0 ≥ 65533
      ·rw [if_pos c38] at H
       have c38b0 : decide (65533 ≤ a0) = true := decide_eq_true c38
       clear c38
       by_cases c39 : a0 ≤ 65535
       ·rw [if_pos c39] at H
        have c39b0 : decide (a0 ≤ 65535) = true := decide_eq_true c39
        clear c39
        obtain rfl := sI H
        go_enter Try.func71, Try.ntmps71
        go_wp2
        go_ret
        exact ⟨zP, zD⟩
       ·rw [if_neg c39] at H
        have c39b0 : decide (a0 ≤ 65535) = false := decide_eq_false c39
        clear c39
        by_cases c40 : a0 > 65535
        ·rw [if_pos c40] at H
         have c40b0 : decide (65535 < a0) = true := decide_eq_true c40
         clear c40
         by_cases c41 : a0 ≤ 1114111
         ·rw [if_pos c41] at H
          have c41b0 : decide (a0 ≤ 1114111) = true := decide_eq_true c41
          clear c41
          obtain rfl := sI H
          go_enter Try.func71, Try.ntmps71
          go_wp2
          go_ret
          exact ⟨zP, zD⟩
         ·rw [if_neg c41] at H
          have c41b0 : decide (a0 ≤ 1114111) = false := decide_eq_false c41
          clear c41
          obtain rfl := sI H
          go_enter Try.func71, Try.ntmps71
          go_wp2
          go_ret
          exact ⟨zP, zD⟩
        ·rw [if_neg c40] at H
         have c40b0 : decide (65535 < a0) = false := decide_eq_false c40
         clear c40
         obtain rfl := sI H
         go_enter Try.func71, Try.ntmps71
         go_wp2
         go_ret
         exact ⟨zP, zD⟩
      ·rw [if_neg c38] at H
       have c38b0 : decide (65533 ≤ a0) = false := decide_eq_false c38
       clear c38
       by_cases c42 : a0 > 65535
       ·rw [if_pos c42] at H
        have c42b0 : decide (65535 < a0) = true := decide_eq_true c42
        clear c42
        by_cases c43 : a0 ≤ 1114111
        ·rw [if_pos c43] at H
         have c43b0 : decide (a0 ≤ 1114111) = true := decide_eq_true c43
         clear c43
         obtain rfl := sI H
         go_enter Try.func71, Try.ntmps71
         go_wp2
         go_ret
         exact ⟨zP, zD⟩
        ·rw [if_neg c43] at H
         have c43b0 : decide (a0 ≤ 1114111) = false := decide_eq_false c43
         clear c43
         obtain rfl := sI H
         go_enter Try.func71, Try.ntmps71
         go_wp2
         go_ret
         exact ⟨zP, zD⟩
       ·rw [if_neg c42] at H
        have c42b0 : decide (65535 < a0) = false := decide_eq_false c42
        clear c42
        obtain rfl := sI H
        go_enter Try.func71, Try.ntmps71
        go_wp2
        go_ret
        exact ⟨zP, zD⟩
    ·rw [if_neg c36] at H
     have c36b0 : decide (64976 ≤ a0) = false := decide_eq_false c36
     clear c36
     by_cases c44 : a0 ≥ 65533
     ·rw [if_pos c44] at H
      have c44b0 : decide (65533 ≤ a0) = true := decide_eq_true c44
      clear c44
      by_cases c45 : a0 ≤ 65535
      ·rw [if_pos c45] at H
       have c45b0 : decide (a0 ≤ 65535) = true := decide_eq_true c45
       clear c45
       obtain rfl := sI H
       go_enter Try.func71, Try.ntmps71
       go_wp2
       go_ret
       exact ⟨zP, zD⟩
      ·rw [if_neg c45] at H
       have c45b0 : decide (a0 ≤ 65535) = false := decide_eq_false c45
       clear c45
       by_cases c46 : a0 > 65535
       ·rw [if_pos c46] at H
        have c46b0 : decide (65535 < a0) = true := decide_eq_true c46
        clear c46
        by_cases c47 : a0 ≤ 1114111
        ·rw [if_pos c47] at H
         have c47b0 : decide (a0 ≤ 1114111) = true := decide_eq_true c47
         clear c47
         obtain rfl := sI H
         go_enter Try.func71, Try.ntmps71
         go_wp2
         go_ret
         exact ⟨zP, zD⟩
        ·rw [if_neg c47] at H
         have c47b0 : decide (a0 ≤ 1114111) = false := decide_eq_false c47
         clear c47
         obtain rfl := sI H
         go_enter Try.func71, Try.ntmps71
         go_wp2
         go_ret
         exact ⟨zP, zD⟩
       ·rw [if_neg c46] at H
        have c46b0 : decide (65535 < a0) = false := decide_eq_false c46
        clear c46
        obtain rfl := sI H
        go_enter Try.func71, Try.ntmps71
        go_wp2
        go_ret
        exact ⟨zP, zD⟩
     ·rw [if_neg c44] at H
      have c44b0 : decide (65533 ≤ a0) = false := decide_eq_false c44
      clear c44
      by_cases c48 : a0 > 65535
      ·rw [if_pos c48] at H
       have c48b0 : decide (65535 < a0) = true := decide_eq_true c48
       clear c48
       by_cases c49 : a0 ≤ 1114111
       ·rw [if_pos c49] at H
        have c49b0 : decide (a0 ≤ 1114111) = true := decide_eq_true c49
        clear c49
        obtain rfl := sI H
        go_enter Try.func71, Try.ntmps71
        go_wp2
        go_ret
        exact ⟨zP, zD⟩
       ·rw [if_neg c49] at H
        have c49b0 : decide (a0 ≤ 1114111) = false := decide_eq_false c49
        clear c49
        obtain rfl := sI H
        go_enter Try.func71, Try.ntmps71
        go_wp2
        go_ret
        exact ⟨zP, zD⟩
      ·rw [if_neg c48] at H
       have c48b0 : decide (65535 < a0) = false := decide_eq_false c48
       clear c48
       obtain rfl := sI H
       go_enter Try.func71, Try.ntmps71
       go_wp2
       go_ret
       exact ⟨zP, zD⟩
  ·rw [if_neg c34] at H
   have c34b0 : decide (57344 ≤ a0) = false := decide_eq_false c34
   clear c34
   by_cases c50 : a0 ≥ 64976
   ·rw [if_pos c50] at H
    have c50b0 : decide (64976 ≤ a0) = true := decide_eq_true c50
    clear c50
    by_cases c51 : a0 ≤ 65007
    ·rw [if_pos c51] at H
     have c51b0 : decide (a0 ≤ 65007) = true := decide_eq_true c51
     clear c51
     obtain rfl := sI H
     go_enter Try.func71, Try.ntmps71
     go_wp2
     go_ret
     exact ⟨zP, zD⟩
    ·rw [if_neg c51] at H
     have c51b0 : decide (a0 ≤ 65007) = false := decide_eq_false c51
     clear c51
     by_cases c52 : a0 ≥ 65533
     ·rw [if_pos c52] at H
      have c52b0 : decide (65533 ≤ a0) = true := decide_eq_true c52
      clear c52
      by_cases c53 : a0 ≤ 65535
      ·rw [if_pos c53] at H
       have c53b0 : decide (a0 ≤ 65535) = true := decide_eq_true c53
       clear c53
       obtain rfl := sI H
       go_enter Try.func71, Try.ntmps71
       go_wp2
       go_ret
       exact ⟨zP, zD⟩
      ·rw [if_neg c53] at H
       have c53b0 : decide (a0 ≤ 65535) = false := decide_eq_false c53
       clear c53
       by_cases c54 : a0 > 65535
       ·rw [if_pos c54] at H
        have c54b0 : decide (65535 < a0) = true := decide_eq_true c54
        clear c54
        by_cases c55 : a0 ≤ 1114111
        ·rw [if_pos c55] at H
         have c55b0 : decide (a0 ≤ 1114111) = true := decide_eq_true c55
         clear c55
         obtain rfl := sI H
         go_enter Try.func71, Try.ntmps71
         go_wp2
         go_ret
         exact ⟨zP, zD⟩
        ·rw [if_neg c55] at H
         have c55b0 : decide (a0 ≤ 1114111) = false := decide_eq_false c55
         clear c55
         obtain rfl := sI H
         go_enter Try.func71, Try.ntmps71
         go_wp2
         go_ret
         exact ⟨zP, zD⟩
       ·rw [if_neg c54] at H
        have c54b0 : decide (65535 < a0) = false := decide_eq_false c54
        clear c54
        obtain rfl := sI H
        go_enter Try.func71, Try.ntmps71
        go_wp2
        go_ret
        exact ⟨zP, zD⟩
     ·rw [if_neg c52] at H
      have c52b0 : decide (65533 ≤ a0) = false := decide_eq_false c52
      clear c52
      by_cases c56 : a0 > 65535
      ·rw [if_pos c56] at H
       have c56b0 : decide (65535 < a0) = true := decide_eq_true c56
       clear c56
       by_cases c57 : a0 ≤ 1114111
       ·rw [if_pos c57] at H
        have c57b0 : decide (a0 ≤ 1114111) = true := decide_eq_true c57
        clear c57
        obtain rfl := sI H
        go_enter Try.func71, Try.ntmps71
        go_wp2
        go_ret
        exact ⟨zP, zD⟩
       ·rw [if_neg c57] at H
        have c57b0 : decide (a0 ≤ 1114111) = false := decide_eq_false c57
        clear c57
        obtain rfl := sI H
        go_enter Try.func71, Try.ntmps71
        go_wp2
        go_ret
        exact ⟨zP, zD⟩
      ·rw [if_neg c56] at H
       have c56b0 : decide (65535 < a0) = false := decide_eq_false c56
       clear c56
       obtain rfl := sI H
       go_enter Try.func71, Try.ntmps71
       go_wp2
       go_ret
       exact ⟨zP, zD⟩
   ·rw [if_neg c50] at H
    have c50b0 : decide (64976 ≤ a0) = false := decide_eq_false c50
    clear c50
    by_cases c58 : a0 ≥ 65533
    ·rw [if_pos c58] at H
     have c58b0 : decide (65533 ≤ a0) = true := decide_eq_true c58
     clear c58
     by_cases c59 : a0 ≤ 65535
     ·rw [if_pos c59] at H
      have c59b0 : decide (a0 ≤ 65535) = true := decide_eq_true c59
      clear c59
      obtain rfl := sI H
      go_enter Try.func71, Try.ntmps71
      go_wp2
      go_ret
      exact ⟨zP, zD⟩
     ·rw [if_neg c59] at H
      have c59b0 : decide (a0 ≤ 65535) = false := decide_eq_false c59
      clear c59
      by_cases c60 : a0 > 65535
      ·rw [if_pos c60] at H
       have c60b0 : decide (65535 < a0) = true := decide_eq_true c60
       clear c60
       by_cases c61 : a0 ≤ 1114111
       ·rw [if_pos c61] at H
        have c61b0 : decide (a0 ≤ 1114111) = true := decide_eq_true c61
        clear c61
        obtain rfl := sI H
        go_enter Try.func71, Try.ntmps71
        go_wp2
        go_ret
        exact ⟨zP, zD⟩
       ·rw [if_neg c61] at H
        have c61b0 : decide (a0 ≤ 1114111) = false := decide_eq_false c61
        clear c61
        obtain rfl := sI H
        go_enter Try.func71, Try.ntmps71
        go_wp2
        go_ret
        exact ⟨zP, zD⟩
      ·rw [if_neg c60] at H
       have c60b0 : decide (65535 < a0) = false := decide_eq_false c60
       clear c60
       obtain rfl := sI H
       go_enter Try.func71, Try.ntmps71
       go_wp2
       go_ret
       exact ⟨zP, zD⟩
    ·rw [if_neg c58] at H
     have c58b0 : decide (65533 ≤ a0) = false := decide_eq_false c58
     clear c58
     by_cases c62 : a0 > 65535
     ·rw [if_pos c62] at H
      have c62b0 : decide (65535 < a0) = true := decide_eq_true c62
      clear c62
      by_cases c63 : a0 ≤ 1114111
      ·rw [if_pos c63] at H
       have c63b0 : decide (a0 ≤ 1114111) = true := decide_eq_true c63
       clear c63
       obtain rfl := sI H
       go_enter Try.func71, Try.ntmps71
       go_wp2
       go_ret
       exact ⟨zP, zD⟩
      ·rw [if_neg c63] at H
       have c63b0 : decide (a0 ≤ 1114111) = false := decide_eq_false c63
       clear c63
       obtain rfl := sI H
       go_enter Try.func71, Try.ntmps71
       go_wp2
       go_ret
       exact ⟨zP, zD⟩
     ·rw [if_neg c62] at H
      have c62b0 : decide (65535 < a0) = false := decide_eq_false c62
      clear c62
      obtain rfl := sI H
      go_enter Try.func71, Try.ntmps71
      go_wp2
      go_ret
      exact ⟨zP, zD⟩

/-! ### chars_Kind: function 52 -/
def chars_Kind.f (a0 : Int) : Option (Int) := (chars_letter.f a0).bind fun t110 => (if t110 = true then (some 1) else ((chars_digit.f a0).bind fun t111 => (if t111 = true then (some 2) else ((chars_mark.f a0).bind fun t112 => (if t112 = true then (some 3) else ((chars_sign.f a0).bind fun t113 => (if t113 = true then (some 4) else ((chars_space.f a0).bind fun t114 => (if t114 = true then (some 5) else ((chars_gone.f a0).bind fun t115 => (if t115 = true then (some 6) else ((chars_bad.f a0).bind fun t116 => (if t116 = true then (some 7) else (some 0))))))))))))))
set_option maxHeartbeats 8000000 in
set_option maxRecDepth 100000 in
theorem chars_Kind.calls (a0 : Int) (r : Int) (w : World) (h : chars_Kind.f a0 = some r) :
  Calls Try.prog 52 #[.int .i32 a0] w fun e w' => e = .returned (.int .i64 r) ∧ Drawn0 w w' := by
 have H := h
 clear h
 unfold chars_Kind.f at H
 obtain ⟨t110, A2, H⟩ := zO H
 by_cases c3 : t110 = true
 ·subst c3
  rw [if_pos rfl] at H
  obtain rfl := sI H
  go_enter Try.func52, Try.ntmps52
  go_wp2_with (first | ((with_reducible refine gate_callee (f := 66) rfl ?_); refine goesL_ (some 5) rfl rfl Try.func66 zK rfl #[.int .i32 a0] rfl zM ?_; (with_reducible refine (chars_letter.calls a0 true _ A2.out).mono ?_); rintro e w' ⟨rfl, ⟨nd, rfl⟩⟩; refine ⟨_, rfl, ?_⟩))
  go_ret
  exact ⟨zP, zD⟩
 ·replace c3 := Bool.eq_false_iff.mpr c3
  subst c3
  rw [if_neg (show ¬ (false = true) by decide)] at H
  obtain ⟨t111, A4, H⟩ := zO H
  by_cases c5 : t111 = true
  ·subst c5
   rw [if_pos rfl] at H
   obtain rfl := sI H
   go_enter Try.func52, Try.ntmps52
   go_wp2_with (first | ((with_reducible refine gate_callee (f := 66) rfl ?_); refine goesL_ (some 5) rfl rfl Try.func66 zK rfl #[.int .i32 a0] rfl zM ?_; (with_reducible refine (chars_letter.calls a0 false _ A2.out).mono ?_); rintro e w' ⟨rfl, ⟨nd, rfl⟩⟩; refine ⟨_, rfl, ?_⟩) | ((with_reducible refine gate_callee (f := 67) rfl ?_); refine goesL_ (some 8) rfl rfl Try.func67 zK rfl #[.int .i32 a0] rfl zM ?_; (with_reducible refine (chars_digit.calls a0 true _ A4.out).mono ?_); rintro e w' ⟨rfl, ⟨nd, rfl⟩⟩; refine ⟨_, rfl, ?_⟩))
   go_ret
   exact ⟨zP, zD⟩
  ·replace c5 := Bool.eq_false_iff.mpr c5
   subst c5
   rw [if_neg (show ¬ (false = true) by decide)] at H
   obtain ⟨t112, A6, H⟩ := zO H
   by_cases c7 : t112 = true
   ·subst c7
    rw [if_pos rfl] at H
    obtain rfl := sI H
    go_enter Try.func52, Try.ntmps52
    go_wp2_with (first | ((with_reducible refine gate_callee (f := 66) rfl ?_); refine goesL_ (some 5) rfl rfl Try.func66 zK rfl #[.int .i32 a0] rfl zM ?_; (with_reducible refine (chars_letter.calls a0 false _ A2.out).mono ?_); rintro e w' ⟨rfl, ⟨nd, rfl⟩⟩; refine ⟨_, rfl, ?_⟩) | ((with_reducible refine gate_callee (f := 67) rfl ?_); refine goesL_ (some 8) rfl rfl Try.func67 zK rfl #[.int .i32 a0] rfl zM ?_; (with_reducible refine (chars_digit.calls a0 false _ A4.out).mono ?_); rintro e w' ⟨rfl, ⟨nd, rfl⟩⟩; refine ⟨_, rfl, ?_⟩) | ((with_reducible refine gate_callee (f := 57) rfl ?_); refine goesL_ (some 11) rfl rfl Try.func57 zK rfl #[.int .i32 a0] rfl zM ?_; (with_reducible refine (chars_mark.calls a0 true _ A6.out).mono ?_); rintro e w' ⟨rfl, ⟨nd, rfl⟩⟩; refine ⟨_, rfl, ?_⟩))
    go_ret
    exact ⟨zP, zD⟩
   ·replace c7 := Bool.eq_false_iff.mpr c7
    subst c7
    rw [if_neg (show ¬ (false = true) by decide)] at H
    obtain ⟨t113, A8, H⟩ := zO H
    by_cases c9 : t113 = true
    ·subst c9
     rw [if_pos rfl] at H
     obtain rfl := sI H
     go_enter Try.func52, Try.ntmps52
     go_wp2_with (first | ((with_reducible refine gate_callee (f := 66) rfl ?_); refine goesL_ (some 5) rfl rfl Try.func66 zK rfl #[.int .i32 a0] rfl zM ?_; (with_reducible refine (chars_letter.calls a0 false _ A2.out).mono ?_); rintro e w' ⟨rfl, ⟨nd, rfl⟩⟩; refine ⟨_, rfl, ?_⟩) | ((with_reducible refine gate_callee (f := 67) rfl ?_); refine goesL_ (some 8) rfl rfl Try.func67 zK rfl #[.int .i32 a0] rfl zM ?_; (with_reducible refine (chars_digit.calls a0 false _ A4.out).mono ?_); rintro e w' ⟨rfl, ⟨nd, rfl⟩⟩; refine ⟨_, rfl, ?_⟩) | ((with_reducible refine gate_callee (f := 57) rfl ?_); refine goesL_ (some 11) rfl rfl Try.func57 zK rfl #[.int .i32 a0] rfl zM ?_; (with_reducible refine (chars_mark.calls a0 false _ A6.out).mono ?_); rintro e w' ⟨rfl, ⟨nd, rfl⟩⟩; refine ⟨_, rfl, ?_⟩) | ((with_reducible refine gate_callee (f := 68) rfl ?_); refine goesL_ (some 14) rfl rfl Try.func68 zK rfl #[.int .i32 a0] rfl zM ?_; (with_reducible refine (chars_sign.calls a0 true _ A8.out).mono ?_); rintro e w' ⟨rfl, ⟨nd, rfl⟩⟩; refine ⟨_, rfl, ?_⟩))
     go_ret
     exact ⟨zP, zD⟩
    ·replace c9 := Bool.eq_false_iff.mpr c9
     subst c9
     rw [if_neg (show ¬ (false = true) by decide)] at H
     obtain ⟨t114, A10, H⟩ := zO H
     by_cases c11 : t114 = true
     ·subst c11
      rw [if_pos rfl] at H
      obtain rfl := sI H
      go_enter Try.func52, Try.ntmps52
      go_wp2_with (first | ((with_reducible refine gate_callee (f := 66) rfl ?_); refine goesL_ (some 5) rfl rfl Try.func66 zK rfl #[.int .i32 a0] rfl zM ?_; (with_reducible refine (chars_letter.calls a0 false _ A2.out).mono ?_); rintro e w' ⟨rfl, ⟨nd, rfl⟩⟩; refine ⟨_, rfl, ?_⟩) | ((with_reducible refine gate_callee (f := 67) rfl ?_); refine goesL_ (some 8) rfl rfl Try.func67 zK rfl #[.int .i32 a0] rfl zM ?_; (with_reducible refine (chars_digit.calls a0 false _ A4.out).mono ?_); rintro e w' ⟨rfl, ⟨nd, rfl⟩⟩; refine ⟨_, rfl, ?_⟩) | ((with_reducible refine gate_callee (f := 57) rfl ?_); refine goesL_ (some 11) rfl rfl Try.func57 zK rfl #[.int .i32 a0] rfl zM ?_; (with_reducible refine (chars_mark.calls a0 false _ A6.out).mono ?_); rintro e w' ⟨rfl, ⟨nd, rfl⟩⟩; refine ⟨_, rfl, ?_⟩) | ((with_reducible refine gate_callee (f := 68) rfl ?_); refine goesL_ (some 14) rfl rfl Try.func68 zK rfl #[.int .i32 a0] rfl zM ?_; (with_reducible refine (chars_sign.calls a0 false _ A8.out).mono ?_); rintro e w' ⟨rfl, ⟨nd, rfl⟩⟩; refine ⟨_, rfl, ?_⟩) | ((with_reducible refine gate_callee (f := 69) rfl ?_); refine goesL_ (some 17) rfl rfl Try.func69 zK rfl #[.int .i32 a0] rfl zM ?_; (with_reducible refine (chars_space.calls a0 true _ A10.out).mono ?_); rintro e w' ⟨rfl, ⟨nd, rfl⟩⟩; refine ⟨_, rfl, ?_⟩))
      go_ret
      exact ⟨zP, zD⟩
     ·replace c11 := Bool.eq_false_iff.mpr c11
      subst c11
      rw [if_neg (show ¬ (false = true) by decide)] at H
      obtain ⟨t115, A12, H⟩ := zO H
      by_cases c13 : t115 = true
      ·subst c13
       rw [if_pos rfl] at H
       obtain rfl := sI H
       go_enter Try.func52, Try.ntmps52
       go_wp2_with (first | ((with_reducible refine gate_callee (f := 66) rfl ?_); refine goesL_ (some 5) rfl rfl Try.func66 zK rfl #[.int .i32 a0] rfl zM ?_; (with_reducible refine (chars_letter.calls a0 false _ A2.out).mono ?_); rintro e w' ⟨rfl, ⟨nd, rfl⟩⟩; refine ⟨_, rfl, ?_⟩) | ((with_reducible refine gate_callee (f := 67) rfl ?_); refine goesL_ (some 8) rfl rfl Try.func67 zK rfl #[.int .i32 a0] rfl zM ?_; (with_reducible refine (chars_digit.calls a0 false _ A4.out).mono ?_); rintro e w' ⟨rfl, ⟨nd, rfl⟩⟩; refine ⟨_, rfl, ?_⟩) | ((with_reducible refine gate_callee (f := 57) rfl ?_); refine goesL_ (some 11) rfl rfl Try.func57 zK rfl #[.int .i32 a0] rfl zM ?_; (with_reducible refine (chars_mark.calls a0 false _ A6.out).mono ?_); rintro e w' ⟨rfl, ⟨nd, rfl⟩⟩; refine ⟨_, rfl, ?_⟩) | ((with_reducible refine gate_callee (f := 68) rfl ?_); refine goesL_ (some 14) rfl rfl Try.func68 zK rfl #[.int .i32 a0] rfl zM ?_; (with_reducible refine (chars_sign.calls a0 false _ A8.out).mono ?_); rintro e w' ⟨rfl, ⟨nd, rfl⟩⟩; refine ⟨_, rfl, ?_⟩) | ((with_reducible refine gate_callee (f := 69) rfl ?_); refine goesL_ (some 17) rfl rfl Try.func69 zK rfl #[.int .i32 a0] rfl zM ?_; (with_reducible refine (chars_space.calls a0 false _ A10.out).mono ?_); rintro e w' ⟨rfl, ⟨nd, rfl⟩⟩; refine ⟨_, rfl, ?_⟩) | ((with_reducible refine gate_callee (f := 70) rfl ?_); refine goesL_ (some 20) rfl rfl Try.func70 zK rfl #[.int .i32 a0] rfl zM ?_; (with_reducible refine (chars_gone.calls a0 true _ A12.out).mono ?_); rintro e w' ⟨rfl, ⟨nd, rfl⟩⟩; refine ⟨_, rfl, ?_⟩))
       go_ret
       exact ⟨zP, zD⟩
      ·replace c13 := Bool.eq_false_iff.mpr c13
       subst c13
       rw [if_neg (show ¬ (false = true) by decide)] at H
       obtain ⟨t116, A14, H⟩ := zO H
       by_cases c15 : t116 = true
       ·subst c15
        rw [if_pos rfl] at H
        obtain rfl := sI H
        go_enter Try.func52, Try.ntmps52
        go_wp2_with (first | ((with_reducible refine gate_callee (f := 66) rfl ?_); refine goesL_ (some 5) rfl rfl Try.func66 zK rfl #[.int .i32 a0] rfl zM ?_; (with_reducible refine (chars_letter.calls a0 false _ A2.out).mono ?_); rintro e w' ⟨rfl, ⟨nd, rfl⟩⟩; refine ⟨_, rfl, ?_⟩) | ((with_reducible refine gate_callee (f := 67) rfl ?_); refine goesL_ (some 8) rfl rfl Try.func67 zK rfl #[.int .i32 a0] rfl zM ?_; (with_reducible refine (chars_digit.calls a0 false _ A4.out).mono ?_); rintro e w' ⟨rfl, ⟨nd, rfl⟩⟩; refine ⟨_, rfl, ?_⟩) | ((with_reducible refine gate_callee (f := 57) rfl ?_); refine goesL_ (some 11) rfl rfl Try.func57 zK rfl #[.int .i32 a0] rfl zM ?_; (with_reducible refine (chars_mark.calls a0 false _ A6.out).mono ?_); rintro e w' ⟨rfl, ⟨nd, rfl⟩⟩; refine ⟨_, rfl, ?_⟩) | ((with_reducible refine gate_callee (f := 68) rfl ?_); refine goesL_ (some 14) rfl rfl Try.func68 zK rfl #[.int .i32 a0] rfl zM ?_; (with_reducible refine (chars_sign.calls a0 false _ A8.out).mono ?_); rintro e w' ⟨rfl, ⟨nd, rfl⟩⟩; refine ⟨_, rfl, ?_⟩) | ((with_reducible refine gate_callee (f := 69) rfl ?_); refine goesL_ (some 17) rfl rfl Try.func69 zK rfl #[.int .i32 a0] rfl zM ?_; (with_reducible refine (chars_space.calls a0 false _ A10.out).mono ?_); rintro e w' ⟨rfl, ⟨nd, rfl⟩⟩; refine ⟨_, rfl, ?_⟩) | ((with_reducible refine gate_callee (f := 70) rfl ?_); refine goesL_ (some 20) rfl rfl Try.func70 zK rfl #[.int .i32 a0] rfl zM ?_; (with_reducible refine (chars_gone.calls a0 false _ A12.out).mono ?_); rintro e w' ⟨rfl, ⟨nd, rfl⟩⟩; refine ⟨_, rfl, ?_⟩) | ((with_reducible refine gate_callee (f := 71) rfl ?_); refine goesL_ (some 23) rfl rfl Try.func71 zK rfl #[.int .i32 a0] rfl zM ?_; (with_reducible refine (chars_bad.calls a0 true _ A14.out).mono ?_); rintro e w' ⟨rfl, ⟨nd, rfl⟩⟩; refine ⟨_, rfl, ?_⟩))
        go_ret
        exact ⟨zP, zD⟩
       ·replace c15 := Bool.eq_false_iff.mpr c15
        subst c15
        rw [if_neg (show ¬ (false = true) by decide)] at H
        obtain rfl := sI H
        go_enter Try.func52, Try.ntmps52
        go_wp2_with (first | ((with_reducible refine gate_callee (f := 66) rfl ?_); refine goesL_ (some 5) rfl rfl Try.func66 zK rfl #[.int .i32 a0] rfl zM ?_; (with_reducible refine (chars_letter.calls a0 false _ A2.out).mono ?_); rintro e w' ⟨rfl, ⟨nd, rfl⟩⟩; refine ⟨_, rfl, ?_⟩) | ((with_reducible refine gate_callee (f := 67) rfl ?_); refine goesL_ (some 8) rfl rfl Try.func67 zK rfl #[.int .i32 a0] rfl zM ?_; (with_reducible refine (chars_digit.calls a0 false _ A4.out).mono ?_); rintro e w' ⟨rfl, ⟨nd, rfl⟩⟩; refine ⟨_, rfl, ?_⟩) | ((with_reducible refine gate_callee (f := 57) rfl ?_); refine goesL_ (some 11) rfl rfl Try.func57 zK rfl #[.int .i32 a0] rfl zM ?_; (with_reducible refine (chars_mark.calls a0 false _ A6.out).mono ?_); rintro e w' ⟨rfl, ⟨nd, rfl⟩⟩; refine ⟨_, rfl, ?_⟩) | ((with_reducible refine gate_callee (f := 68) rfl ?_); refine goesL_ (some 14) rfl rfl Try.func68 zK rfl #[.int .i32 a0] rfl zM ?_; (with_reducible refine (chars_sign.calls a0 false _ A8.out).mono ?_); rintro e w' ⟨rfl, ⟨nd, rfl⟩⟩; refine ⟨_, rfl, ?_⟩) | ((with_reducible refine gate_callee (f := 69) rfl ?_); refine goesL_ (some 17) rfl rfl Try.func69 zK rfl #[.int .i32 a0] rfl zM ?_; (with_reducible refine (chars_space.calls a0 false _ A10.out).mono ?_); rintro e w' ⟨rfl, ⟨nd, rfl⟩⟩; refine ⟨_, rfl, ?_⟩) | ((with_reducible refine gate_callee (f := 70) rfl ?_); refine goesL_ (some 20) rfl rfl Try.func70 zK rfl #[.int .i32 a0] rfl zM ?_; (with_reducible refine (chars_gone.calls a0 false _ A12.out).mono ?_); rintro e w' ⟨rfl, ⟨nd, rfl⟩⟩; refine ⟨_, rfl, ?_⟩) | ((with_reducible refine gate_callee (f := 71) rfl ?_); refine goesL_ (some 23) rfl rfl Try.func71 zK rfl #[.int .i32 a0] rfl zM ?_; (with_reducible refine (chars_bad.calls a0 false _ A14.out).mono ?_); rintro e w' ⟨rfl, ⟨nd, rfl⟩⟩; refine ⟨_, rfl, ?_⟩))
        go_ret
        exact ⟨zP, zD⟩

/-! ### chars_Is: function 34 -/
def chars_Is.f (k : Nat) (a0 : Int) (l1 : List Int) : Option (Bool) := (chars_Kind.f a0).bind fun t117 => ((slices_Contains_int_int.f k l1 t117).bind fun t118 => (some t118))
theorem chars_Is.mono : ∀ a0 a1 k, LeO (chars_Is.f k a0 a1) (chars_Is.f (k + 1) a0 a1) := by
 intro a0 a1 k
 unfold chars_Is.f
 repeat' first
   | (with_reducible exact slices_Contains_int_int.mono _ _ _)
   | (with_reducible exact LeO.refl _)
   | exact slices_Contains_int_int.mono _ _ _
   | exact LeO.none _
   | refine LeO.ite ?_ ?_
   | refine LeO.bind ?_ (fun _ => ?_)
set_option maxHeartbeats 8000000 in
set_option maxRecDepth 100000 in
theorem chars_Is.calls (k : Nat) (a0 : Int) (A1 : Option Addr) (c1 : Nat) (l1 : List Int) (r : Bool) (w : World) (hr1 : Kd.C (Kd.int .i64) w A1 l1.length l1) (hc1 : l1.length ≤ c1) (h : chars_Is.f k a0 l1 = some r) :
  Calls Try.prog 34 #[.int .i32 a0, .slice A1 l1.length c1] w fun e w' => e = .returned (.bool r) ∧ Drawn0 w w' := by
 have HR1 := aM hr1
 have HC1 := aM hc1
 clear hr1 hc1
 have H := h
 clear h
 unfold chars_Is.f at H
 obtain ⟨t117, A3, H⟩ := zO H
 obtain ⟨t118, A4, H⟩ := zO H
 obtain rfl := sI H
 go_enter Try.func34, Try.ntmps34
 go_wp2_with (first | ((with_reducible refine gate_callee (f := 52) rfl ?_); refine goesL_ (some 7) rfl rfl Try.func52 zK rfl #[.int .i32 a0] rfl zM ?_; (with_reducible refine (chars_Kind.calls a0 t117 _ A3.out).mono ?_); rintro e w' ⟨rfl, ⟨nd, rfl⟩⟩; refine ⟨_, rfl, ?_⟩) | ((with_reducible refine gate_callee (f := 51) rfl ?_); refine goesL_ (some 8) rfl rfl Try.func51 zK rfl #[.slice A1 l1.length c1, .int .i64 t117] rfl zM ?_; (with_reducible refine (slices_Contains_int_int.calls k _ _ l1 t117 t118 _ ?side1 ?side2 A4.out).mono ?_); (case side1 => exact zC HR1.out); (case side2 => exact HC1.out); rintro e w' ⟨rfl, ⟨nd, rfl⟩⟩; refine ⟨_, rfl, ?_⟩))
 go_ret
 exact ⟨zP, zD⟩

/-! ### guard_Fit: function 28 -/
def guard_Fit.f (k : Nat) (a0 : Int) : Option (Bool) := (chars_Is.f k a0 (([0, 7] : List Int))).bind fun t122 => (some (!t122))
theorem guard_Fit.mono : ∀ a0 k, LeO (guard_Fit.f k a0) (guard_Fit.f (k + 1) a0) := by
 intro a0 k
 unfold guard_Fit.f
 repeat' first
   | (with_reducible exact chars_Is.mono _ _ _)
   | (with_reducible exact LeO.refl _)
   | exact chars_Is.mono _ _ _
   | exact LeO.none _
   | refine LeO.ite ?_ ?_
   | refine LeO.bind ?_ (fun _ => ?_)
set_option maxHeartbeats 8000000 in
set_option maxRecDepth 100000 in
theorem guard_Fit.calls (k : Nat) (a0 : Int) (r : Bool) (w : World) (h : guard_Fit.f k a0 = some r) :
  Calls Try.prog 28 #[.int .i32 a0] w fun e w' => e = .returned (.bool r) ∧ Below w.heap.size w w' := by
 have HB := aM (Below.refl w.heap.size w)
 have H := h
 clear h
 unfold guard_Fit.f at H
 obtain ⟨y119, hy119⟩ : ∃ y_ : List Int, y_ = (([0, 7] : List Int)) := ⟨_, rfl⟩
 replace H : ((chars_Is.f k a0 y119).bind fun t122 => (some (!t122))) = some r := zY hy119 H
 have Ny119 := aM hy119
 clear hy119
 obtain ⟨t122, A2, H⟩ := zO H
 obtain rfl := sI H
 go_enter Try.func28, Try.ntmps28
 go_wp2_with (first | ((with_reducible refine gate_dst (N := 4) rfl ?_); refine Kd.R_lit (Kd.int .i64) _ 3 ?hg (N := 4) ?hd (xs := ([0, 7] : List Int)) (inner := [.int .i64 0, .int .i64 7]) (ok := fun _ => True) (okp := fun _ => True) ?hr ?hp (fun _ hk => hk) trivial (Below.refl _ _) (Nat.le_refl _) (by simp) ?_; (case hd => rfl); (case hg => rfl); (case hr => first | (go_simp; done) | (go_simp; rfl)); (case hp => exact (Reps.one (show Kd.M (Kd.int .i64) _ _ _ 0 [.int .i64 0] from rfl) (Reps.one (show Kd.M (Kd.int .i64) _ _ _ 7 [.int .i64 7] from rfl) (Reps.none _ _)))); intro v120 w3 ho4 hb hg_ hnew_; clear hg_ hnew_; (first | rw [← Ny119.out] at ho4 | (simp only [Int.reduceToNat] at ho4; rw [← Ny119.out] at ho4)); have n_ := zI (aM (Kd.R_lower ho4 (below_size zB))) (aM (below_step zB hb)); clear HB; obtain ⟨HO121, HB⟩ := n_; clear hb ho4; obtain ⟨Ao5, co5, rfl⟩ := Kd.R_slice HO121.out) | ((with_reducible refine gate_callee (f := 34) rfl ?_); refine goesL_ (some 5) rfl rfl Try.func34 zK rfl #[.int .i32 a0, .slice Ao5 y119.length co5] rfl zM ?_; (with_reducible refine (chars_Is.calls k a0 _ _ y119 t122 _ ?side1 ?side2 A2.out).mono ?_); (case side1 => exact zC (Kd.R_reads' HO121.out).2.2); (case side2 => exact (Kd.R_reads' HO121.out).2.1); rintro e w' ⟨rfl, ⟨nd, rfl⟩⟩; refine ⟨_, rfl, ?_⟩))
 go_ret
 exact ⟨zE, zB⟩

/-! ### guard_first_rune_guard_Fit: function 100 -/
def guard_first_rune_guard_Fit.l0 : Nat → List Int → List Int → Int → Int → Option (Int)
 | 0, _, _, _, _ => none
 | k + 1, x0, x7, x8, x9 => if x9 < x8 then (if 0 ≤ x9 then (if x9 < (x7.length : Int) then ((guard_Fit.f k (rd x7 x9)).bind fun t124 => (if t124 = true then (guard_first_rune_guard_Fit.l0 k x0 x7 x8 (wrap64 (x9 + 1))) else (some x9))) else (none)) else (none)) else (some (x0.length : Int))
def guard_first_rune_guard_Fit.f (k : Nat) (l0 : List Int) (a1 : Int) : Option (Int) := guard_first_rune_guard_Fit.l0 k l0 l0 (l0.length : Int) 0
theorem guard_first_rune_guard_Fit.mono_l : ∀ k, (∀ y0 y1 y2 y3, LeO (guard_first_rune_guard_Fit.l0 k y0 y1 y2 y3) (guard_first_rune_guard_Fit.l0 (k + 1) y0 y1 y2 y3))
 | 0 => fun _ _ _ _ r h => by simp [guard_first_rune_guard_Fit.l0] at h
 | k + 1 => by
  have ih0 := guard_first_rune_guard_Fit.mono_l k
  ·intro y0 y1 y2 y3
   unfold guard_first_rune_guard_Fit.l0
   repeat' first
   | (with_reducible exact ih0 _ _ _ _)
   | (with_reducible exact guard_Fit.mono _ _)
   | (with_reducible exact LeO.refl _)
   | exact ih0 _ _ _ _
   | exact guard_Fit.mono _ _
   | exact LeO.none _
   | refine LeO.ite ?_ ?_
   | refine LeO.bind ?_ (fun _ => ?_)
theorem guard_first_rune_guard_Fit.mono : ∀ a0 a1 k, LeO (guard_first_rune_guard_Fit.f k a0 a1) (guard_first_rune_guard_Fit.f (k + 1) a0 a1) := by
 intro a0 a1 k
 have ih0 := guard_first_rune_guard_Fit.mono_l k
 unfold guard_first_rune_guard_Fit.f
 repeat' first
   | (with_reducible exact ih0 _ _ _ _)
   | (with_reducible exact guard_Fit.mono _ _)
   | (with_reducible exact LeO.refl _)
   | exact ih0 _ _ _ _
   | exact guard_Fit.mono _ _
   | exact LeO.none _
   | refine LeO.ite ?_ ?_
   | refine LeO.bind ?_ (fun _ => ?_)
set_option maxHeartbeats 8000000 in
set_option maxRecDepth 100000 in
theorem guard_first_rune_guard_Fit.calls (k : Nat) (A0 : Option Addr) (c0 : Nat) (l0 : List Int) (a1 : Int) (r : Int) (w : World) (hr0 : Kd.C (Kd.int .i32) w A0 l0.length l0) (hc0 : l0.length ≤ c0) (h : guard_first_rune_guard_Fit.f k l0 a1 = some r) :
  Calls Try.prog 27 #[.slice A0 l0.length c0, .func (.func 28) #[] #[]] w fun e w' => e = .returned (.int .i64 r) ∧ Below w.heap.size w w' := by
 have HR0 := aM hr0
 have HC0 := aM hc0
 clear hr0 hc0
 have HB := aM (Below.refl w.heap.size w)
 have H := h
 clear h
 unfold guard_first_rune_guard_Fit.f at H
 have H' := aM H
 clear H
 go_enter Try.func27, Try.ntmps27
 go_wp2
 go_loopg [9] k (fun kq v9 w' => ∃ (x9_1 : Int), v9 = .int .i64 x9_1 ∧ Aside0 (guard_first_rune_guard_Fit.l0 kq l0 l0 (l0.length : Int) x9_1 = some r) ∧ Aside0 (kq ≤ k) ∧ Aside0 (Below w.heap.size w w'))
 case atStart => exact ⟨(0), zP, H', ⟨Nat.le_refl _⟩, ⟨zB⟩⟩
 case round =>
  clear H'
  try clear c1
  try clear p2
  obtain ⟨x9_1, rfl, HA, HK1, HB⟩ := hrel
  cases gk with
  | zero => exact absurd HA.out (by simp [guard_first_rune_guard_Fit.l0])
  | succ k1 =>
   have H := HA.out
   clear HA
   simp only [guard_first_rune_guard_Fit.l0] at H
   by_cases c3 : x9_1 < (l0.length : Int)
   ·rw [if_pos c3] at H
    have c3b0 : decide (x9_1 < (l0.length : Int)) = true := decide_eq_true c3
    clear c3
    by_cases c4 : 0 ≤ x9_1
    ·rw [if_pos c4] at H
     have c4b0 : decide (0 ≤ x9_1) = true := decide_eq_true c4
     clear c4
     by_cases c5 : x9_1 < (l0.length : Int)
     ·rw [if_pos c5] at H
      have c5b0 : decide (x9_1 < (l0.length : Int)) = true := decide_eq_true c5
      clear c5
      obtain ⟨t124, A6, H⟩ := zO H
      by_cases c7 : t124 = true
      ·subst c7
       rw [if_pos rfl] at H
       have H' := aM H
       clear H
       have p123 : 0 ≤ (x9_1 : Int) := zoA
       have q123 : x9_1 < (l0.length : Int) := zoA
       obtain ⟨ad123, e123, hx123_0⟩ := Kd.at_int HR0.out x9_1 p123 q123
       cases e123
       replace hx123_0 := (HB.out.cell (World.block_lt_of_cell? w _ hx123_0)).trans hx123_0
       replace p123 := eq_true p123
       replace q123 := eq_true q123
       go_wp2_with (first | ((with_reducible refine gate_tmp (x := 14) rfl ?_); refine goesLT_ (some 16) (x := 14) rfl rfl rfl Try.func28 zK rfl #[.int .i32 (rd l0 x9_1)] rfl zM ?_; (with_reducible refine (guard_Fit.calls k1 (rd l0 x9_1) true _ A6.out).mono ?_); rintro e w8 ⟨rfl, hb⟩; refine ⟨_, rfl, ?_⟩; replace HB := aM (below_step zB hb); (try clear hb)))
       go_roundg k1
       case measure => have := HK1.out; omega
       case rel => exact ⟨(wrap64 (x9_1 + 1)), zP, H', ⟨by have := HK1.out; omega⟩, ⟨zB⟩⟩
      ·replace c7 := Bool.eq_false_iff.mpr c7
       subst c7
       rw [if_neg (show ¬ (false = true) by decide)] at H
       obtain rfl := sI H
       have p123 : 0 ≤ (x9_1 : Int) := zoA
       have q123 : x9_1 < (l0.length : Int) := zoA
       obtain ⟨ad123, e123, hx123_0⟩ := Kd.at_int HR0.out x9_1 p123 q123
       cases e123
       replace hx123_0 := (HB.out.cell (World.block_lt_of_cell? w _ hx123_0)).trans hx123_0
       replace p123 := eq_true p123
       replace q123 := eq_true q123
       go_wp2_with (first | ((with_reducible refine gate_tmp (x := 14) rfl ?_); refine goesLT_ (some 16) (x := 14) rfl rfl rfl Try.func28 zK rfl #[.int .i32 (rd l0 x9_1)] rfl zM ?_; (with_reducible refine (guard_Fit.calls k1 (rd l0 x9_1) false _ A6.out).mono ?_); rintro e w9 ⟨rfl, hb⟩; refine ⟨_, rfl, ?_⟩; replace HB := aM (below_step zB hb); (try clear hb)))
       go_ret
       exact ⟨zE, zB⟩
     ·rw [if_neg c5] at H
      exact absurd H (by simp)
    ·rw [if_neg c4] at H
     exact absurd H (by simp)
   ·rw [if_neg c3] at H
    have c3b0 : decide (x9_1 < (l0.length : Int)) = false := decide_eq_false c3
    clear c3
    obtain rfl := sI H
    go_wp2
    go_ret
    exact ⟨zE, zB⟩

/-! ### guard_Check: function 19 -/
def guard_Check.f (k : Nat) (l0 : List Int) : Option (Int × Int) := (guard_first_rune_guard_Fit.f k l0 7770028).bind fun t125 => (if t125 < (l0.length : Int) then (some (t125, 30)) else (some (t125, 0)))
theorem guard_Check.mono : ∀ a0 k, LeO (guard_Check.f k a0) (guard_Check.f (k + 1) a0) := by
 intro a0 k
 unfold guard_Check.f
 repeat' first
   | (with_reducible exact guard_first_rune_guard_Fit.mono _ _ _)
   | (with_reducible exact LeO.refl _)
   | exact guard_first_rune_guard_Fit.mono _ _ _
   | exact LeO.none _
   | refine LeO.ite ?_ ?_
   | refine LeO.bind ?_ (fun _ => ?_)
set_option maxHeartbeats 8000000 in
set_option maxRecDepth 100000 in
theorem guard_Check.calls (k : Nat) (A0 : Option Addr) (c0 : Nat) (l0 : List Int) (r1 : Int) (r2 : Int) (w : World) (hr0 : Kd.C (Kd.int .i32) w A0 l0.length l0) (hc0 : l0.length ≤ c0) (h : guard_Check.f k l0 = some (r1, r2)) :
  Calls Try.prog 19 #[.slice A0 l0.length c0] w fun e w' => e = .returned (.tuple #[.int .i64 r1, .int .i64 r2]) ∧ Below w.heap.size w w' := by
 have HR0 := aM hr0
 have HC0 := aM hc0
 clear hr0 hc0
 have HB := aM (Below.refl w.heap.size w)
 have H := h
 clear h
 unfold guard_Check.f at H
 obtain ⟨t125, A2, H⟩ := zO H
 by_cases c3 : t125 < (l0.length : Int)
 ·rw [if_pos c3] at H
  have c3b0 : decide (t125 < (l0.length : Int)) = true := decide_eq_true c3
  clear c3
  simp only [Option.some.injEq, Prod.mk.injEq] at H
  obtain ⟨rfl, rfl⟩ := H
  go_enter Try.func19, Try.ntmps19
  go_wp2_with (first | ((with_reducible refine gate_callee (f := 27) rfl ?_); refine goesL_ (some 6) rfl rfl Try.func27 zK rfl #[.slice A0 l0.length c0, .func (.func 28) #[] #[]] rfl zM ?_; (with_reducible refine (guard_first_rune_guard_Fit.calls k _ _ l0 7770028 t125 _ ?side1 ?side2 A2.out).mono ?_); (case side1 => exact zC HR0.out); (case side2 => exact HC0.out); rintro e w4 ⟨rfl, hb⟩; refine ⟨_, rfl, ?_⟩; replace HB := aM (below_step zB hb); (try clear hb)))
  go_ret2
  exact ⟨zE, zB⟩
 ·rw [if_neg c3] at H
  have c3b0 : decide (t125 < (l0.length : Int)) = false := decide_eq_false c3
  clear c3
  simp only [Option.some.injEq, Prod.mk.injEq] at H
  obtain ⟨rfl, rfl⟩ := H
  go_enter Try.func19, Try.ntmps19
  go_wp2_with (first | ((with_reducible refine gate_callee (f := 27) rfl ?_); refine goesL_ (some 6) rfl rfl Try.func27 zK rfl #[.slice A0 l0.length c0, .func (.func 28) #[] #[]] rfl zM ?_; (with_reducible refine (guard_first_rune_guard_Fit.calls k _ _ l0 7770028 t125 _ ?side1 ?side2 A2.out).mono ?_); (case side1 => exact zC HR0.out); (case side2 => exact HC0.out); rintro e w5 ⟨rfl, hb⟩; refine ⟨_, rfl, ?_⟩; replace HB := aM (below_step zB hb); (try clear hb)))
  go_ret2
  exact ⟨zE, zB⟩

/-! ### nfkc_plain_1: function 46 -/
def nfkc_plain_1.f (a0 : Int) : Option (Bool) := if a0 < 0 then (some true) else (some (decide (a0 ≥ 128)))
set_option maxHeartbeats 8000000 in
set_option maxRecDepth 100000 in
theorem nfkc_plain_1.calls (a0 : Int) (r : Bool) (w : World) (h : nfkc_plain_1.f a0 = some r) :
  Calls Try.prog 46 #[.int .i32 a0] w fun e w' => e = .returned (.bool r) ∧ Drawn0 w w' := by
 have H := h
 clear h
 unfold nfkc_plain_1.f at H
 by_cases c2 : a0 < 0
 ·rw [if_pos c2] at H
  have c2b0 : decide (a0 < 0) = true := decide_eq_true c2
  clear c2
  obtain rfl := sI H
  go_enter Try.func46, Try.ntmps46
  go_wp2
  go_ret
  exact ⟨zP, zD⟩
 ·rw [if_neg c2] at H
  have c2b0 : decide (a0 < 0) = false := decide_eq_false c2
  clear c2
  obtain rfl := sI H
  go_enter Try.func46, Try.ntmps46
  go_wp2
  go_ret
  exact ⟨zP, zD⟩

/-! ### slices_IndexFunc_rune_rune_nfkc_plain_1: function 102 -/
def slices_IndexFunc_rune_rune_nfkc_plain_1.l0 : Nat → List Int → Int → Int → Option (Int)
 | 0, _, _, _ => none
 | k + 1, x0, x7, x8 => if x8 < x7 then (if 0 ≤ x8 then (if x8 < (x0.length : Int) then ((nfkc_plain_1.f (rd x0 x8)).bind fun t127 => (if t127 = true then (some x8) else (slices_IndexFunc_rune_rune_nfkc_plain_1.l0 k x0 x7 (wrap64 (x8 + 1))))) else (none)) else (none)) else (some (-1))
def slices_IndexFunc_rune_rune_nfkc_plain_1.f (k : Nat) (l0 : List Int) (a1 : Int) : Option (Int) := slices_IndexFunc_rune_rune_nfkc_plain_1.l0 k l0 (l0.length : Int) 0
theorem slices_IndexFunc_rune_rune_nfkc_plain_1.mono_l : ∀ k, (∀ y0 y1 y2, LeO (slices_IndexFunc_rune_rune_nfkc_plain_1.l0 k y0 y1 y2) (slices_IndexFunc_rune_rune_nfkc_plain_1.l0 (k + 1) y0 y1 y2))
 | 0 => fun _ _ _ r h => by simp [slices_IndexFunc_rune_rune_nfkc_plain_1.l0] at h
 | k + 1 => by
  have ih0 := slices_IndexFunc_rune_rune_nfkc_plain_1.mono_l k
  ·intro y0 y1 y2
   unfold slices_IndexFunc_rune_rune_nfkc_plain_1.l0
   repeat' first
   | (with_reducible exact ih0 _ _ _)
   | (with_reducible exact LeO.refl _)
   | exact ih0 _ _ _
   | exact LeO.none _
   | refine LeO.ite ?_ ?_
   | refine LeO.bind ?_ (fun _ => ?_)
theorem slices_IndexFunc_rune_rune_nfkc_plain_1.mono : ∀ a0 a1 k, LeO (slices_IndexFunc_rune_rune_nfkc_plain_1.f k a0 a1) (slices_IndexFunc_rune_rune_nfkc_plain_1.f (k + 1) a0 a1) := by
 intro a0 a1 k
 have ih0 := slices_IndexFunc_rune_rune_nfkc_plain_1.mono_l k
 unfold slices_IndexFunc_rune_rune_nfkc_plain_1.f
 repeat' first
   | (with_reducible exact ih0 _ _ _)
   | (with_reducible exact LeO.refl _)
   | exact ih0 _ _ _
   | exact LeO.none _
   | refine LeO.ite ?_ ?_
   | refine LeO.bind ?_ (fun _ => ?_)
set_option maxHeartbeats 8000000 in
set_option maxRecDepth 100000 in
theorem slices_IndexFunc_rune_rune_nfkc_plain_1.calls (k : Nat) (A0 : Option Addr) (c0 : Nat) (l0 : List Int) (a1 : Int) (r : Int) (w : World) (hr0 : Kd.C (Kd.int .i32) w A0 l0.length l0) (hc0 : l0.length ≤ c0) (h : slices_IndexFunc_rune_rune_nfkc_plain_1.f k l0 a1 = some r) :
  Calls Try.prog 56 #[.slice A0 l0.length c0, .func (.func 46) #[] #[]] w fun e w' => e = .returned (.int .i64 r) ∧ Drawn0 w w' := by
 have HR0 := aM hr0
 have HC0 := aM hc0
 clear hr0 hc0
 have H := h
 clear h
 unfold slices_IndexFunc_rune_rune_nfkc_plain_1.f at H
 have H' := aM H
 clear H
 go_enter Try.func56, Try.ntmps56
 go_wp2
 go_loopg [8] k (fun kq v8 w' => ∃ (x8_1 : Int), v8 = .int .i64 x8_1 ∧ Aside0 (slices_IndexFunc_rune_rune_nfkc_plain_1.l0 kq l0 (l0.length : Int) x8_1 = some r) ∧ Aside0 (kq ≤ k) ∧ Drawn0 w w')
 case atStart => exact ⟨(0), zP, H', ⟨Nat.le_refl _⟩, zD⟩
 case round =>
  clear H'
  try clear c1
  try clear p2
  obtain ⟨x8_1, rfl, HA, HK1, ⟨m1, rfl⟩⟩ := hrel
  cases gk with
  | zero => exact absurd HA.out (by simp [slices_IndexFunc_rune_rune_nfkc_plain_1.l0])
  | succ k1 =>
   have H := HA.out
   clear HA
   simp only [slices_IndexFunc_rune_rune_nfkc_plain_1.l0] at H
   by_cases c3 : x8_1 < (l0.length : Int)
   ·rw [if_pos c3] at H
    have c3b0 : decide (x8_1 < (l0.length : Int)) = true := decide_eq_true c3
    clear c3
    by_cases c4 : 0 ≤ x8_1
    ·rw [if_pos c4] at H
     have c4b0 : decide (0 ≤ x8_1) = true := decide_eq_true c4
     clear c4
     by_cases c5 : x8_1 < (l0.length : Int)
     ·rw [if_pos c5] at H
      have c5b0 : decide (x8_1 < (l0.length : Int)) = true := decide_eq_true c5
      clear c5
      obtain ⟨t127, A6, H⟩ := zO H
      by_cases c7 : t127 = true
      ·subst c7
       rw [if_pos rfl] at H
       obtain rfl := sI H
       have p126 : 0 ≤ (x8_1 : Int) := zoA
       have q126 : x8_1 < (l0.length : Int) := zoA
       obtain ⟨ad126, e126, hx126_0⟩ := Kd.at_int HR0.out x8_1 p126 q126
       cases e126
       replace p126 := eq_true p126
       replace q126 := eq_true q126
       go_wp2_with (first | ((with_reducible refine gate_tmp (x := 11) rfl ?_); refine goesLT_ (some 16) (x := 11) rfl rfl rfl Try.func46 zK rfl #[.int .i32 (rd l0 x8_1)] rfl zM ?_; (with_reducible refine (nfkc_plain_1.calls (rd l0 x8_1) true _ A6.out).mono ?_); rintro e w' ⟨rfl, ⟨nd, rfl⟩⟩; refine ⟨_, rfl, ?_⟩))
       go_ret
       exact ⟨zP, zD⟩
      ·replace c7 := Bool.eq_false_iff.mpr c7
       subst c7
       rw [if_neg (show ¬ (false = true) by decide)] at H
       have H' := aM H
       clear H
       have p126 : 0 ≤ (x8_1 : Int) := zoA
       have q126 : x8_1 < (l0.length : Int) := zoA
       obtain ⟨ad126, e126, hx126_0⟩ := Kd.at_int HR0.out x8_1 p126 q126
       cases e126
       replace p126 := eq_true p126
       replace q126 := eq_true q126
       go_wp2_with (first | ((with_reducible refine gate_tmp (x := 11) rfl ?_); refine goesLT_ (some 16) (x := 11) rfl rfl rfl Try.func46 zK rfl #[.int .i32 (rd l0 x8_1)] rfl zM ?_; (with_reducible refine (nfkc_plain_1.calls (rd l0 x8_1) false _ A6.out).mono ?_); rintro e w' ⟨rfl, ⟨nd, rfl⟩⟩; refine ⟨_, rfl, ?_⟩))
       go_roundg k1
       case measure => have := HK1.out; omega
       case rel => exact ⟨(wrap64 (x8_1 + 1)), zP, H', ⟨by have := HK1.out; omega⟩, zD⟩
     ·rw [if_neg c5] at H
      exact absurd H (by simp)
    ·rw [if_neg c4] at H
     exact absurd H (by simp)
   ·rw [if_neg c3] at H
    have c3b0 : decide (x8_1 < (l0.length : Int)) = false := decide_eq_false c3
    clear c3
    obtain rfl := sI H
    go_wp2
    go_ret
    exact ⟨zP, zD⟩

/-! ### slices_ContainsFunc_rune_rune_nfkc_plain_1: function 101 -/
def slices_ContainsFunc_rune_rune_nfkc_plain_1.f (k : Nat) (l0 : List Int) (a1 : Int) : Option (Bool) := (slices_IndexFunc_rune_rune_nfkc_plain_1.f k l0 7770046).bind fun t128 => (some (decide (t128 ≥ 0)))
theorem slices_ContainsFunc_rune_rune_nfkc_plain_1.mono : ∀ a0 a1 k, LeO (slices_ContainsFunc_rune_rune_nfkc_plain_1.f k a0 a1) (slices_ContainsFunc_rune_rune_nfkc_plain_1.f (k + 1) a0 a1) := by
 intro a0 a1 k
 unfold slices_ContainsFunc_rune_rune_nfkc_plain_1.f
 repeat' first
   | (with_reducible exact slices_IndexFunc_rune_rune_nfkc_plain_1.mono _ _ _)
   | (with_reducible exact LeO.refl _)
   | exact slices_IndexFunc_rune_rune_nfkc_plain_1.mono _ _ _
   | exact LeO.none _
   | refine LeO.ite ?_ ?_
   | refine LeO.bind ?_ (fun _ => ?_)
set_option maxHeartbeats 8000000 in
set_option maxRecDepth 100000 in
theorem slices_ContainsFunc_rune_rune_nfkc_plain_1.calls (k : Nat) (A0 : Option Addr) (c0 : Nat) (l0 : List Int) (a1 : Int) (r : Bool) (w : World) (hr0 : Kd.C (Kd.int .i32) w A0 l0.length l0) (hc0 : l0.length ≤ c0) (h : slices_ContainsFunc_rune_rune_nfkc_plain_1.f k l0 a1 = some r) :
  Calls Try.prog 45 #[.slice A0 l0.length c0, .func (.func 46) #[] #[]] w fun e w' => e = .returned (.bool r) ∧ Drawn0 w w' := by
 have HR0 := aM hr0
 have HC0 := aM hc0
 clear hr0 hc0
 have H := h
 clear h
 unfold slices_ContainsFunc_rune_rune_nfkc_plain_1.f at H
 obtain ⟨t128, A3, H⟩ := zO H
 obtain rfl := sI H
 go_enter Try.func45, Try.ntmps45
 go_wp2_with (first | ((with_reducible refine gate_callee (f := 56) rfl ?_); refine goesL_ (some 7) rfl rfl Try.func56 zK rfl #[.slice A0 l0.length c0, .func (.func 46) #[] #[]] rfl zM ?_; (with_reducible refine (slices_IndexFunc_rune_rune_nfkc_plain_1.calls k _ _ l0 7770046 t128 _ ?side1 ?side2 A3.out).mono ?_); (case side1 => exact zC HR0.out); (case side2 => exact HC0.out); rintro e w' ⟨rfl, ⟨nd, rfl⟩⟩; refine ⟨_, rfl, ?_⟩))
 go_ret
 exact ⟨zP, zD⟩

/-! ### nfkc_plain: function 29 -/
def nfkc_plain.f (k : Nat) (l0 : List Int) : Option (Bool) := (slices_ContainsFunc_rune_rune_nfkc_plain_1.f k l0 7770046).bind fun t129 => (some (!t129))
theorem nfkc_plain.mono : ∀ a0 k, LeO (nfkc_plain.f k a0) (nfkc_plain.f (k + 1) a0) := by
 intro a0 k
 unfold nfkc_plain.f
 repeat' first
   | (with_reducible exact slices_ContainsFunc_rune_rune_nfkc_plain_1.mono _ _ _)
   | (with_reducible exact LeO.refl _)
   | exact slices_ContainsFunc_rune_rune_nfkc_plain_1.mono _ _ _
   | exact LeO.none _
   | refine LeO.ite ?_ ?_
   | refine LeO.bind ?_ (fun _ => ?_)
set_option maxHeartbeats 8000000 in
set_option maxRecDepth 100000 in
theorem nfkc_plain.calls (k : Nat) (A0 : Option Addr) (c0 : Nat) (l0 : List Int) (r : Bool) (w : World) (hr0 : Kd.C (Kd.int .i32) w A0 l0.length l0) (hc0 : l0.length ≤ c0) (h : nfkc_plain.f k l0 = some r) :
  Calls Try.prog 29 #[.slice A0 l0.length c0] w fun e w' => e = .returned (.bool r) ∧ Drawn0 w w' := by
 have HR0 := aM hr0
 have HC0 := aM hc0
 clear hr0 hc0
 have H := h
 clear h
 unfold nfkc_plain.f at H
 obtain ⟨t129, A2, H⟩ := zO H
 obtain rfl := sI H
 go_enter Try.func29, Try.ntmps29
 go_wp2_with (first | ((with_reducible refine gate_callee (f := 45) rfl ?_); refine goesL_ (some 4) rfl rfl Try.func45 zK rfl #[.slice A0 l0.length c0, .func (.func 46) #[] #[]] rfl zM ?_; (with_reducible refine (slices_ContainsFunc_rune_rune_nfkc_plain_1.calls k _ _ l0 7770046 t129 _ ?side1 ?side2 A2.out).mono ?_); (case side1 => exact zC HR0.out); (case side2 => exact HC0.out); rintro e w' ⟨rfl, ⟨nd, rfl⟩⟩; refine ⟨_, rfl, ?_⟩))
 go_ret
 exact ⟨zP, zD⟩

end Go.Proofs.Ytbffakgmlgimeaa.P
