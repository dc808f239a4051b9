-- Printed by wip/mk.py (this session's driver over the kit's print) and from wip/manual.
import Derived.Test.YtpihglokjcbjkaaT0
namespace Go.Proofs.Ytpihglokjcbjkaa.P
open Go.RowKit Go.Proofs.YtpihglokjcbjkaaW.PrintWords Go.Proofs.YtpihglokjcbjkaaW.PrintLast Go.Proofs.YtpihglokjcbjkaaW.PrintMore
attribute [local go_sem] max2_int min2_int max_two min_two max_three min_three max_four min_four   -- for this text's walks alone
set_option linter.unusedVariables false
set_option linter.unusedSimpArgs false

/-! ### chars_mark: function 48 -/
def chars_mark.f (a0 : Int) : Option (Bool) := if a0 ≥ 768 then (if a0 ≤ 772 then (some true) else (if a0 ≥ 774 then (if a0 ≤ 776 then (some true) else (if a0 ≥ 778 then (if a0 ≤ 780 then (some true) else (if a0 = 803 then (some true) else (if a0 ≥ 807 then (if a0 ≤ 808 then (some true) else (if a0 ≥ 12441 then (some (decide (a0 ≤ 12442))) else (some false))) else (if a0 ≥ 12441 then (some (decide (a0 ≤ 12442))) else (some false))))) else (if a0 = 803 then (some true) else (if a0 ≥ 807 then (if a0 ≤ 808 then (some true) else (if a0 ≥ 12441 then (some (decide (a0 ≤ 12442))) else (some false))) else (if a0 ≥ 12441 then (some (decide (a0 ≤ 12442))) else (some false)))))) else (if a0 ≥ 778 then (if a0 ≤ 780 then (some true) else (if a0 = 803 then (some true) else (if a0 ≥ 807 then (if a0 ≤ 808 then (some true) else (if a0 ≥ 12441 then (some (decide (a0 ≤ 12442))) else (some false))) else (if a0 ≥ 12441 then (some (decide (a0 ≤ 12442))) else (some false))))) else (if a0 = 803 then (some true) else (if a0 ≥ 807 then (if a0 ≤ 808 then (some true) else (if a0 ≥ 12441 then (some (decide (a0 ≤ 12442))) else (some false))) else (if a0 ≥ 12441 then (some (decide (a0 ≤ 12442))) else (some false))))))) else (if a0 ≥ 774 then (if a0 ≤ 776 then (some true) else (if a0 ≥ 778 then (if a0 ≤ 780 then (some true) else (if a0 = 803 then (some true) else (if a0 ≥ 807 then (if a0 ≤ 808 then (some true) else (if a0 ≥ 12441 then (some (decide (a0 ≤ 12442))) else (some false))) else (if a0 ≥ 12441 then (some (decide (a0 ≤ 12442))) else (some false))))) else (if a0 = 803 then (some true) else (if a0 ≥ 807 then (if a0 ≤ 808 then (some true) else (if a0 ≥ 12441 then (some (decide (a0 ≤ 12442))) else (some false))) else (if a0 ≥ 12441 then (some (decide (a0 ≤ 12442))) else (some false)))))) else (if a0 ≥ 778 then (if a0 ≤ 780 then (some true) else (if a0 = 803 then (some true) else (if a0 ≥ 807 then (if a0 ≤ 808 then (some true) else (if a0 ≥ 12441 then (some (decide (a0 ≤ 12442))) else (some false))) else (if a0 ≥ 12441 then (some (decide (a0 ≤ 12442))) else (some false))))) else (if a0 = 803 then (some true) else (if a0 ≥ 807 then (if a0 ≤ 808 then (some true) else (if a0 ≥ 12441 then (some (decide (a0 ≤ 12442))) else (some false))) else (if a0 ≥ 12441 then (some (decide (a0 ≤ 12442))) else (some false))))))
set_option maxHeartbeats 8000000 in
set_option maxRecDepth 100000 in
theorem chars_mark.calls (a0 : Int) (r : Bool) (w : World) (h : chars_mark.f a0 = some r) :
  Calls Try.prog 48 #[.int .i32 a0] w fun e w' => e = .returned (.bool r) ∧ Drawn0 w w' := by
 have H : (if a0 ≥ 768 then (if a0 ≤ 772 then (some true) else (if a0 ≥ 774 then (if a0 ≤ 776 then (some true) else (if a0 ≥ 778 then (if a0 ≤ 780 then (some true) else (if a0 = 803 then (some true) else (if a0 ≥ 807 then (if a0 ≤ 808 then (some true) else (if a0 ≥ 12441 then (some (decide (a0 ≤ 12442))) else (some false))) else (if a0 ≥ 12441 then (some (decide (a0 ≤ 12442))) else (some false))))) else (if a0 = 803 then (some true) else (if a0 ≥ 807 then (if a0 ≤ 808 then (some true) else (if a0 ≥ 12441 then (some (decide (a0 ≤ 12442))) else (some false))) else (if a0 ≥ 12441 then (some (decide (a0 ≤ 12442))) else (some false)))))) else (if a0 ≥ 778 then (if a0 ≤ 780 then (some true) else (if a0 = 803 then (some true) else (if a0 ≥ 807 then (if a0 ≤ 808 then (some true) else (if a0 ≥ 12441 then (some (decide (a0 ≤ 12442))) else (some false))) else (if a0 ≥ 12441 then (some (decide (a0 ≤ 12442))) else (some false))))) else (if a0 = 803 then (some true) else (if a0 ≥ 807 then (if a0 ≤ 808 then (some true) else (if a0 ≥ 12441 then (some (decide (a0 ≤ 12442))) else (some false))) else (if a0 ≥ 12441 then (some (decide (a0 ≤ 12442))) else (some false))))))) else (if a0 ≥ 774 then (if a0 ≤ 776 then (some true) else (if a0 ≥ 778 then (if a0 ≤ 780 then (some true) else (if a0 = 803 then (some true) else (if a0 ≥ 807 then (if a0 ≤ 808 then (some true) else (if a0 ≥ 12441 then (some (decide (a0 ≤ 12442))) else (some false))) else (if a0 ≥ 12441 then (some (decide (a0 ≤ 12442))) else (some false))))) else (if a0 = 803 then (some true) else (if a0 ≥ 807 then (if a0 ≤ 808 then (some true) else (if a0 ≥ 12441 then (some (decide (a0 ≤ 12442))) else (some false))) else (if a0 ≥ 12441 then (some (decide (a0 ≤ 12442))) else (some false)))))) else (if a0 ≥ 778 then (if a0 ≤ 780 then (some true) else (if a0 = 803 then (some true) else (if a0 ≥ 807 then (if a0 ≤ 808 then (some true) else (if a0 ≥ 12441 then (some (decide (a0 ≤ 12442))) else (some false))) else (if a0 ≥ 12441 then (some (decide (a0 ≤ 12442))) else (some false))))) else (if a0 = 803 then (some true) else (if a0 ≥ 807 then (if a0 ≤ 808 then (some true) else (if a0 ≥ 12441 then (some (decide (a0 ≤ 12442))) else (some false))) else (if a0 ≥ 12441 then (some (decide (a0 ≤ 12442))) else (some false))))))) = some r := h
 clear h
 by_cases c2 : a0 ≥ 768
 ·rw [if_pos c2] at H
  have c2b0 : decide (768 ≤ a0) = true := decide_eq_true c2
  clear c2
  by_cases c3 : a0 ≤ 772
  ·rw [if_pos c3] at H
   have c3b0 : decide (a0 ≤ 772) = true := decide_eq_true c3
   clear c3
   obtain rfl := sI H
   go_enter Try.func48, Try.ntmps48
   go_wp2
   go_ret
   exact ⟨zP, zD⟩
  ·rw [if_neg c3] at H
   have c3b0 : decide (a0 ≤ 772) = false := decide_eq_false c3
   clear c3
   by_cases c4 : a0 ≥ 774
   ·rw [if_pos c4] at H
    have c4b0 : decide (774 ≤ a0) = true := decide_eq_true c4
    clear c4
    by_cases c5 : a0 ≤ 776
    ·rw [if_pos c5] at H
     have c5b0 : decide (a0 ≤ 776) = true := decide_eq_true c5
     clear c5
     obtain rfl := sI H
     go_enter Try.func48, Try.ntmps48
     go_wp2
     go_ret
     exact ⟨zP, zD⟩
    ·rw [if_neg c5] at H
     have c5b0 : decide (a0 ≤ 776) = false := decide_eq_false c5
     clear c5
     by_cases c6 : a0 ≥ 778
     ·rw [if_pos c6] at H
      have c6b0 : decide (778 ≤ a0) = true := decide_eq_true c6
      clear c6
      by_cases c7 : a0 ≤ 780
      ·rw [if_pos c7] at H
       have c7b0 : decide (a0 ≤ 780) = true := decide_eq_true c7
       clear c7
       obtain rfl := sI H
       go_enter Try.func48, Try.ntmps48
       go_wp2
       go_ret
       exact ⟨zP, zD⟩
      ·rw [if_neg c7] at H
       have c7b0 : decide (a0 ≤ 780) = false := decide_eq_false c7
       clear c7
       by_cases c8 : a0 = 803
       ·rw [if_pos c8] at H
        have c8b0 : (a0 == 803) = true := beq_iff_eq.mpr c8
        have c8b1 : (a0 != 803) = false := bne_eq_false_iff_eq.mpr c8
        clear c8
        obtain rfl := sI H
        go_enter Try.func48, Try.ntmps48
        go_wp2
        go_ret
        exact ⟨zP, zD⟩
       ·rw [if_neg c8] at H
        have c8b0 : (a0 == 803) = false := beq_eq_false_iff_ne.mpr c8
        have c8b1 : (a0 != 803) = true := bne_iff_ne.mpr c8
        by_cases c9 : a0 ≥ 807
        ·rw [if_pos c9] at H
         have c9b0 : decide (807 ≤ a0) = true := decide_eq_true c9
         clear c9
         by_cases c10 : a0 ≤ 808
         ·rw [if_pos c10] at H
          have c10b0 : decide (a0 ≤ 808) = true := decide_eq_true c10
          clear c10
          obtain rfl := sI H
          go_enter Try.func48, Try.ntmps48
          go_wp2
          go_ret
          exact ⟨zP, zD⟩
         ·rw [if_neg c10] at H
          have c10b0 : decide (a0 ≤ 808) = false := decide_eq_false c10
          clear c10
          by_cases c11 : a0 ≥ 12441
          ·rw [if_pos c11] at H
           have c11b0 : decide (12441 ≤ a0) = true := decide_eq_true c11
           clear c11
           obtain rfl := sI H
           go_enter Try.func48, Try.ntmps48
           go_wp2
           go_ret
           exact ⟨zP, zD⟩
          ·rw [if_neg c11] at H
           have c11b0 : decide (12441 ≤ a0) = false := decide_eq_false c11
           clear c11
           obtain rfl := sI H
           go_enter Try.func48, Try.ntmps48
           go_wp2
           go_ret
           exact ⟨zP, zD⟩
        ·rw [if_neg c9] at H
         have c9b0 : decide (807 ≤ a0) = false := decide_eq_false c9
         clear c9
         by_cases c12 : a0 ≥ 12441
         ·rw [if_pos c12] at H
          have c12b0 : decide (12441 ≤ a0) = true := decide_eq_true c12
          clear c12
          obtain rfl := sI H
          go_enter Try.func48, Try.ntmps48
          go_wp2
          go_ret
          exact ⟨zP, zD⟩
         ·rw [if_neg c12] at H
          have c12b0 : decide (12441 ≤ a0) = false := decide_eq_false c12
          clear c12
          obtain rfl := sI H
          go_enter Try.func48, Try.ntmps48
          go_wp2
          go_ret
          exact ⟨zP, zD⟩
     ·rw [if_neg c6] at H
      have c6b0 : decide (778 ≤ a0) = false := decide_eq_false c6
      clear c6
      by_cases c13 : a0 = 803
      ·rw [if_pos c13] at H
       have c13b0 : (a0 == 803) = true := beq_iff_eq.mpr c13
       have c13b1 : (a0 != 803) = false := bne_eq_false_iff_eq.mpr c13
       clear c13
       obtain rfl := sI H
       go_enter Try.func48, Try.ntmps48
       go_wp2
       go_ret
       exact ⟨zP, zD⟩
      ·rw [if_neg c13] at H
       have c13b0 : (a0 == 803) = false := beq_eq_false_iff_ne.mpr c13
       have c13b1 : (a0 != 803) = true := bne_iff_ne.mpr c13
       by_cases c14 : a0 ≥ 807
       ·rw [if_pos c14] at H
        have c14b0 : decide (807 ≤ a0) = true := decide_eq_true c14
        clear c14
        by_cases c15 : a0 ≤ 808
        ·rw [if_pos c15] at H
         have c15b0 : decide (a0 ≤ 808) = true := decide_eq_true c15
         clear c15
         obtain rfl := sI H
         go_enter Try.func48, Try.ntmps48
         go_wp2
         go_ret
         exact ⟨zP, zD⟩
        ·rw [if_neg c15] at H
         have c15b0 : decide (a0 ≤ 808) = false := decide_eq_false c15
         clear c15
         by_cases c16 : a0 ≥ 12441
         ·rw [if_pos c16] at H
          have c16b0 : decide (12441 ≤ a0) = true := decide_eq_true c16
          clear c16
          obtain rfl := sI H
          go_enter Try.func48, Try.ntmps48
          go_wp2
          go_ret
          exact ⟨zP, zD⟩
         ·rw [if_neg c16] at H
          have c16b0 : decide (12441 ≤ a0) = false := decide_eq_false c16
          clear c16
          obtain rfl := sI H
          go_enter Try.func48, Try.ntmps48
          go_wp2
          go_ret
          exact ⟨zP, zD⟩
       ·rw [if_neg c14] at H
        have c14b0 : decide (807 ≤ a0) = false := decide_eq_false c14
        clear c14
        by_cases c17 : a0 ≥ 12441
        ·rw [if_pos c17] at H
         have c17b0 : decide (12441 ≤ a0) = true := decide_eq_true c17
         clear c17
         obtain rfl := sI H
         go_enter Try.func48, Try.ntmps48
         go_wp2
         go_ret
         exact ⟨zP, zD⟩
        ·rw [if_neg c17] at H
         have c17b0 : decide (12441 ≤ a0) = false := decide_eq_false c17
         clear c17
         obtain rfl := sI H
         go_enter Try.func48, Try.ntmps48
         go_wp2
         go_ret
         exact ⟨zP, zD⟩
   ·rw [if_neg c4] at H
    have c4b0 : decide (774 ≤ a0) = false := decide_eq_false c4
    clear c4
    by_cases c18 : a0 ≥ 778
    ·rw [if_pos c18] at H
     have c18b0 : decide (778 ≤ a0) = true := decide_eq_true c18
     clear c18
     by_cases c19 : a0 ≤ 780
     ·rw [if_pos c19] at H
      have c19b0 : decide (a0 ≤ 780) = true := decide_eq_true c19
      clear c19
      obtain rfl := sI H
      go_enter Try.func48, Try.ntmps48
      go_wp2
      go_ret
      exact ⟨zP, zD⟩
     ·rw [if_neg c19] at H
      have c19b0 : decide (a0 ≤ 780) = false := decide_eq_false c19
      clear c19
      by_cases c20 : a0 = 803
      ·rw [if_pos c20] at H
       have c20b0 : (a0 == 803) = true := beq_iff_eq.mpr c20
       have c20b1 : (a0 != 803) = false := bne_eq_false_iff_eq.mpr c20
       clear c20
       obtain rfl := sI H
       go_enter Try.func48, Try.ntmps48
       go_wp2
       go_ret
       exact ⟨zP, zD⟩
      ·rw [if_neg c20] at H
       have c20b0 : (a0 == 803) = false := beq_eq_false_iff_ne.mpr c20
       have c20b1 : (a0 != 803) = true := bne_iff_ne.mpr c20
       by_cases c21 : a0 ≥ 807
       ·rw [if_pos c21] at H
        have c21b0 : decide (807 ≤ a0) = true := decide_eq_true c21
        clear c21
        by_cases c22 : a0 ≤ 808
        ·rw [if_pos c22] at H
         have c22b0 : decide (a0 ≤ 808) = true := decide_eq_true c22
         clear c22
         obtain rfl := sI H
         go_enter Try.func48, Try.ntmps48
         go_wp2
         go_ret
         exact ⟨zP, zD⟩
        ·rw [if_neg c22] at H
         have c22b0 : decide (a0 ≤ 808) = false := decide_eq_false c22
         clear c22
         by_cases c23 : a0 ≥ 12441
         ·rw [if_pos c23] at H
          have c23b0 : decide (12441 ≤ a0) = true := decide_eq_true c23
          clear c23
          obtain rfl := sI H
          go_enter Try.func48, Try.ntmps48
          go_wp2
          go_ret
          exact ⟨zP, zD⟩
         ·rw [if_neg c23] at H
          have c23b0 : decide (12441 ≤ a0) = false := decide_eq_false c23
          clear c23
          obtain rfl := sI H
          go_enter Try.func48, Try.ntmps48
          go_wp2
          go_ret
          exact ⟨zP, zD⟩
       ·rw [if_neg c21] at H
        have c21b0 : decide (807 ≤ a0) = false := decide_eq_false c21
        clear c21
        by_cases c24 : a0 ≥ 12441
        ·rw [if_pos c24] at H
         have c24b0 : decide (12441 ≤ a0) = true := decide_eq_true c24
         clear c24
         obtain rfl := sI H
         go_enter Try.func48, Try.ntmps48
         go_wp2
         go_ret
         exact ⟨zP, zD⟩
        ·rw [if_neg c24] at H
         have c24b0 : decide (12441 ≤ a0) = false := decide_eq_false c24
         clear c24
         obtain rfl := sI H
         go_enter Try.func48, Try.ntmps48
         go_wp2
         go_ret
         exact ⟨zP, zD⟩
    ·rw [if_neg c18] at H
     have c18b0 : decide (778 ≤ a0) = false := decide_eq_false c18
     clear c18
     by_cases c25 : a0 = 803
     ·rw [if_pos c25] at H
      have c25b0 : (a0 == 803) = true := beq_iff_eq.mpr c25
      have c25b1 : (a0 != 803) = false := bne_eq_false_iff_eq.mpr c25
      clear c25
      obtain rfl := sI H
      go_enter Try.func48, Try.ntmps48
      go_wp2
      go_ret
      exact ⟨zP, zD⟩
     ·rw [if_neg c25] at H
      have c25b0 : (a0 == 803) = false := beq_eq_false_iff_ne.mpr c25
      have c25b1 : (a0 != 803) = true := bne_iff_ne.mpr c25
      by_cases c26 : a0 ≥ 807
      ·rw [if_pos c26] at H
       have c26b0 : decide (807 ≤ a0) = true := decide_eq_true c26
       clear c26
       by_cases c27 : a0 ≤ 808
       ·rw [if_pos c27] at H
        have c27b0 : decide (a0 ≤ 808) = true := decide_eq_true c27
        clear c27
        obtain rfl := sI H
        go_enter Try.func48, Try.ntmps48
        go_wp2
        go_ret
        exact ⟨zP, zD⟩
       ·rw [if_neg c27] at H
        have c27b0 : decide (a0 ≤ 808) = false := decide_eq_false c27
        clear c27
        by_cases c28 : a0 ≥ 12441
        ·rw [if_pos c28] at H
         have c28b0 : decide (12441 ≤ a0) = true := decide_eq_true c28
         clear c28
         obtain rfl := sI H
         go_enter Try.func48, Try.ntmps48
         go_wp2
         go_ret
         exact ⟨zP, zD⟩
        ·rw [if_neg c28] at H
         have c28b0 : decide (12441 ≤ a0) = false := decide_eq_false c28
         clear c28
         obtain rfl := sI H
         go_enter Try.func48, Try.ntmps48
         go_wp2
         go_ret
         exact ⟨zP, zD⟩
      ·rw [if_neg c26] at H
       have c26b0 : decide (807 ≤ a0) = false := decide_eq_false c26
       clear c26
       by_cases c29 : a0 ≥ 12441
       ·rw [if_pos c29] at H
        have c29b0 : decide (12441 ≤ a0) = true := decide_eq_true c29
        clear c29
        obtain rfl := sI H
        go_enter Try.func48, Try.ntmps48
        go_wp2
        go_ret
        exact ⟨zP, zD⟩
       ·rw [if_neg c29] at H
        have c29b0 : decide (12441 ≤ a0) = false := decide_eq_false c29
        clear c29
        obtain rfl := sI H
        go_enter Try.func48, Try.ntmps48
        go_wp2
        go_ret
        exact ⟨zP, zD⟩
 ·rw [if_neg c2] at H
  have c2b0 : decide (768 ≤ a0) = false := decide_eq_false c2
  clear c2
  by_cases c30 : a0 ≥ 774
  ·rw [if_pos c30] at H
   have c30b0 : decide (774 ≤ a0) = true := decide_eq_true c30
   clear c30
   by_cases c31 : a0 ≤ 776
   ·rw [if_pos c31] at H
    have c31b0 : decide (a0 ≤ 776) = true := decide_eq_true c31
    clear c31
    obtain rfl := sI H
    go_enter Try.func48, Try.ntmps48
    go_wp2
    go_ret
    exact ⟨zP, zD⟩
   ·rw [if_neg c31] at H
    have c31b0 : decide (a0 ≤ 776) = false := decide_eq_false c31
    clear c31
    by_cases c32 : a0 ≥ 778
    ·rw [if_pos c32] at H
     have c32b0 : decide (778 ≤ a0) = true := decide_eq_true c32
     clear c32
     by_cases c33 : a0 ≤ 780
     ·rw [if_pos c33] at H
      have c33b0 : decide (a0 ≤ 780) = true := decide_eq_true c33
      clear c33
      obtain rfl := sI H
      go_enter Try.func48, Try.ntmps48
      go_wp2
      go_ret
      exact ⟨zP, zD⟩
     ·rw [if_neg c33] at H
      have c33b0 : decide (a0 ≤ 780) = false := decide_eq_false c33
      clear c33
      by_cases c34 : a0 = 803
      ·rw [if_pos c34] at H
       have c34b0 : (a0 == 803) = true := beq_iff_eq.mpr c34
       have c34b1 : (a0 != 803) = false := bne_eq_false_iff_eq.mpr c34
       clear c34
       obtain rfl := sI H
       go_enter Try.func48, Try.ntmps48
       go_wp2
       go_ret
       exact ⟨zP, zD⟩
      ·rw [if_neg c34] at H
       have c34b0 : (a0 == 803) = false := beq_eq_false_iff_ne.mpr c34
       have c34b1 : (a0 != 803) = true := bne_iff_ne.mpr c34
       by_cases c35 : a0 ≥ 807
       ·rw [if_pos c35] at H
        have c35b0 : decide (807 ≤ a0) = true := decide_eq_true c35
        clear c35
        by_cases c36 : a0 ≤ 808
        ·rw [if_pos c36] at H
         have c36b0 : decide (a0 ≤ 808) = true := decide_eq_true c36
         clear c36
         obtain rfl := sI H
         go_enter Try.func48, Try.ntmps48
         go_wp2
         go_ret
         exact ⟨zP, zD⟩
        ·rw [if_neg c36] at H
         have c36b0 : decide (a0 ≤ 808) = false := decide_eq_false c36
         clear c36
         by_cases c37 : a0 ≥ 12441
         ·rw [if_pos c37] at H
          have c37b0 : decide (12441 ≤ a0) = true := decide_eq_true c37
          clear c37
          obtain rfl := sI H
          go_enter Try.func48, Try.ntmps48
          go_wp2
          go_ret
          exact ⟨zP, zD⟩
         ·rw [if_neg c37] at H
          have c37b0 : decide (12441 ≤ a0) = false := decide_eq_false c37
          clear c37
          obtain rfl := sI H
          go_enter Try.func48, Try.ntmps48
          go_wp2
          go_ret
          exact ⟨zP, zD⟩
       ·rw [if_neg c35] at H
        have c35b0 : decide (807 ≤ a0) = false := decide_eq_false c35
        clear c35
        by_cases c38 : a0 ≥ 12441
        ·rw [if_pos c38] at H
         have c38b0 : decide (12441 ≤ a0) = true := decide_eq_true c38
         clear c38
         obtain rfl := sI H
         go_enter Try.func48, Try.ntmps48
         go_wp2
         go_ret
         exact ⟨zP, zD⟩
        ·rw [if_neg c38] at H
         have c38b0 : decide (12441 ≤ a0) = false := decide_eq_false c38
         clear c38
         obtain rfl := sI H
         go_enter Try.func48, Try.ntmps48
         go_wp2
         go_ret
         exact ⟨zP, zD⟩
    ·rw [if_neg c32] at H
     have c32b0 : decide (778 ≤ a0) = false := decide_eq_false c32
     clear c32
     by_cases c39 : a0 = 803
     ·rw [if_pos c39] at H
      have c39b0 : (a0 == 803) = true := beq_iff_eq.mpr c39
      have c39b1 : (a0 != 803) = false := bne_eq_false_iff_eq.mpr c39
      clear c39
      obtain rfl := sI H
      go_enter Try.func48, Try.ntmps48
      go_wp2
      go_ret
      exact ⟨zP, zD⟩
     ·rw [if_neg c39] at H
      have c39b0 : (a0 == 803) = false := beq_eq_false_iff_ne.mpr c39
      have c39b1 : (a0 != 803) = true := bne_iff_ne.mpr c39
      by_cases c40 : a0 ≥ 807
      ·rw [if_pos c40] at H
       have c40b0 : decide (807 ≤ a0) = true := decide_eq_true c40
       clear c40
       by_cases c41 : a0 ≤ 808
       ·rw [if_pos c41] at H
        have c41b0 : decide (a0 ≤ 808) = true := decide_eq_true c41
        clear c41
        obtain rfl := sI H
        go_enter Try.func48, Try.ntmps48
        go_wp2
        go_ret
        exact ⟨zP, zD⟩
       ·rw [if_neg c41] at H
        have c41b0 : decide (a0 ≤ 808) = false := decide_eq_false c41
        clear c41
        by_cases c42 : a0 ≥ 12441
        ·rw [if_pos c42] at H
         have c42b0 : decide (12441 ≤ a0) = true := decide_eq_true c42
         clear c42
         obtain rfl := sI H
         go_enter Try.func48, Try.ntmps48
         go_wp2
         go_ret
         exact ⟨zP, zD⟩
        ·rw [if_neg c42] at H
         have c42b0 : decide (12441 ≤ a0) = false := decide_eq_false c42
         clear c42
         obtain rfl := sI H
         go_enter Try.func48, Try.ntmps48
         go_wp2
         go_ret
         exact ⟨zP, zD⟩
      ·rw [if_neg c40] at H
       have c40b0 : decide (807 ≤ a0) = false := decide_eq_false c40
       clear c40
       by_cases c43 : a0 ≥ 12441
       ·rw [if_pos c43] at H
        have c43b0 : decide (12441 ≤ a0) = true := decide_eq_true c43
        clear c43
        obtain rfl := sI H
        go_enter Try.func48, Try.ntmps48
        go_wp2
        go_ret
        exact ⟨zP, zD⟩
       ·rw [if_neg c43] at H
        have c43b0 : decide (12441 ≤ a0) = false := decide_eq_false c43
        clear c43
        obtain rfl := sI H
        go_enter Try.func48, Try.ntmps48
        go_wp2
        go_ret
        exact ⟨zP, zD⟩
  ·rw [if_neg c30] at H
   have c30b0 : decide (774 ≤ a0) = false := decide_eq_false c30
   clear c30
   by_cases c44 : a0 ≥ 778
   ·rw [if_pos c44] at H
    have c44b0 : decide (778 ≤ a0) = true := decide_eq_true c44
    clear c44
    by_cases c45 : a0 ≤ 780
    ·rw [if_pos c45] at H
     have c45b0 : decide (a0 ≤ 780) = true := decide_eq_true c45
     clear c45
     obtain rfl := sI H
     go_enter Try.func48, Try.ntmps48
     go_wp2
     go_ret
     exact ⟨zP, zD⟩
    ·rw [if_neg c45] at H
     have c45b0 : decide (a0 ≤ 780) = false := decide_eq_false c45
     clear c45
     by_cases c46 : a0 = 803
     ·rw [if_pos c46] at H
      have c46b0 : (a0 == 803) = true := beq_iff_eq.mpr c46
      have c46b1 : (a0 != 803) = false := bne_eq_false_iff_eq.mpr c46
      clear c46
      obtain rfl := sI H
      go_enter Try.func48, Try.ntmps48
      go_wp2
      go_ret
      exact ⟨zP, zD⟩
     ·rw [if_neg c46] at H
      have c46b0 : (a0 == 803) = false := beq_eq_false_iff_ne.mpr c46
      have c46b1 : (a0 != 803) = true := bne_iff_ne.mpr c46
      by_cases c47 : a0 ≥ 807
      ·rw [if_pos c47] at H
       have c47b0 : decide (807 ≤ a0) = true := decide_eq_true c47
       clear c47
       by_cases c48 : a0 ≤ 808
       ·rw [if_pos c48] at H
        have c48b0 : decide (a0 ≤ 808) = true := decide_eq_true c48
        clear c48
        obtain rfl := sI H
        go_enter Try.func48, Try.ntmps48
        go_wp2
        go_ret
        exact ⟨zP, zD⟩
       ·rw [if_neg c48] at H
        have c48b0 : decide (a0 ≤ 808) = false := decide_eq_false c48
        clear c48
        by_cases c49 : a0 ≥ 12441
        ·rw [if_pos c49] at H
         have c49b0 : decide (12441 ≤ a0) = true := decide_eq_true c49
         clear c49
         obtain rfl := sI H
         go_enter Try.func48, Try.ntmps48
         go_wp2
         go_ret
         exact ⟨zP, zD⟩
        ·rw [if_neg c49] at H
         have c49b0 : decide (12441 ≤ a0) = false := decide_eq_false c49
         clear c49
         obtain rfl := sI H
         go_enter Try.func48, Try.ntmps48
         go_wp2
         go_ret
         exact ⟨zP, zD⟩
      ·rw [if_neg c47] at H
       have c47b0 : decide (807 ≤ a0) = false := decide_eq_false c47
       clear c47
       by_cases c50 : a0 ≥ 12441
       ·rw [if_pos c50] at H
        have c50b0 : decide (12441 ≤ a0) = true := decide_eq_true c50
        clear c50
        obtain rfl := sI H
        go_enter Try.func48, Try.ntmps48
        go_wp2
        go_ret
        exact ⟨zP, zD⟩
       ·rw [if_neg c50] at H
        have c50b0 : decide (12441 ≤ a0) = false := decide_eq_false c50
        clear c50
        obtain rfl := sI H
        go_enter Try.func48, Try.ntmps48
        go_wp2
        go_ret
        exact ⟨zP, zD⟩
   ·rw [if_neg c44] at H
    have c44b0 : decide (778 ≤ a0) = false := decide_eq_false c44
    clear c44
    by_cases c51 : a0 = 803
    ·rw [if_pos c51] at H
     have c51b0 : (a0 == 803) = true := beq_iff_eq.mpr c51
     have c51b1 : (a0 != 803) = false := bne_eq_false_iff_eq.mpr c51
     clear c51
     obtain rfl := sI H
     go_enter Try.func48, Try.ntmps48
     go_wp2
     go_ret
     exact ⟨zP, zD⟩
    ·rw [if_neg c51] at H
     have c51b0 : (a0 == 803) = false := beq_eq_false_iff_ne.mpr c51
     have c51b1 : (a0 != 803) = true := bne_iff_ne.mpr c51
     by_cases c52 : a0 ≥ 807
     ·rw [if_pos c52] at H
      have c52b0 : decide (807 ≤ a0) = true := decide_eq_true c52
      clear c52
      by_cases c53 : a0 ≤ 808
      ·rw [if_pos c53] at H
       have c53b0 : decide (a0 ≤ 808) = true := decide_eq_true c53
       clear c53
       obtain rfl := sI H
       go_enter Try.func48, Try.ntmps48
       go_wp2
       go_ret
       exact ⟨zP, zD⟩
      ·rw [if_neg c53] at H
       have c53b0 : decide (a0 ≤ 808) = false := decide_eq_false c53
       clear c53
       by_cases c54 : a0 ≥ 12441
       ·rw [if_pos c54] at H
        have c54b0 : decide (12441 ≤ a0) = true := decide_eq_true c54
        clear c54
        obtain rfl := sI H
        go_enter Try.func48, Try.ntmps48
        go_wp2
        go_ret
        exact ⟨zP, zD⟩
       ·rw [if_neg c54] at H
        have c54b0 : decide (12441 ≤ a0) = false := decide_eq_false c54
        clear c54
        obtain rfl := sI H
        go_enter Try.func48, Try.ntmps48
        go_wp2
        go_ret
        exact ⟨zP, zD⟩
     ·rw [if_neg c52] at H
      have c52b0 : decide (807 ≤ a0) = false := decide_eq_false c52
      clear c52
      by_cases c55 : a0 ≥ 12441
      ·rw [if_pos c55] at H
       have c55b0 : decide (12441 ≤ a0) = true := decide_eq_true c55
       clear c55
       obtain rfl := sI H
       go_enter Try.func48, Try.ntmps48
       go_wp2
       go_ret
       exact ⟨zP, zD⟩
      ·rw [if_neg c55] at H
       have c55b0 : decide (12441 ≤ a0) = false := decide_eq_false c55
       clear c55
       obtain rfl := sI H
       go_enter Try.func48, Try.ntmps48
       go_wp2
       go_ret
       exact ⟨zP, zD⟩

/-! ### chars_Class: function 31 -/
def chars_Class.j0 : Nat → Int → Bool → Option (Int)
 | 0, _, _ => none
 | k + 1, x0, x7 => if x7 = true then (some 202) else (if x0 = 803 then (some 220) else (if x0 ≥ 12441 then (some 8) else (some 230)))
def chars_Class.f (k : Nat) (a0 : Int) : Option (Int) := (chars_mark.f a0).bind fun t101 => (if t101 = true then (if a0 = 807 then (chars_Class.j0 k a0 true) else (chars_Class.j0 k a0 (a0 == 808))) else (some 0))
theorem chars_Class.mono_l : ∀ k, (∀ y0 y1, LeO (chars_Class.j0 k y0 y1) (chars_Class.j0 (k + 1) y0 y1))
 | 0 => fun _ _ r h => by simp [chars_Class.j0] at h
 | k + 1 => by
  have ih0 := chars_Class.mono_l k
  ·intro y0 y1
   unfold chars_Class.j0
   repeat' first
   | (with_reducible exact ih0 _ _)
   | (with_reducible exact LeO.refl _)
   | exact ih0 _ _
   | exact LeO.none _
   | refine LeO.ite ?_ ?_
   | refine LeO.bind ?_ (fun _ => ?_)
theorem chars_Class.mono : ∀ a0 k, LeO (chars_Class.f k a0) (chars_Class.f (k + 1) a0) := by
 intro a0 k
 have ih0 := chars_Class.mono_l k
 unfold chars_Class.f
 repeat' first
   | (with_reducible exact ih0 _ _)
   | (with_reducible exact LeO.refl _)
   | exact ih0 _ _
   | exact LeO.none _
   | refine LeO.ite ?_ ?_
   | refine LeO.bind ?_ (fun _ => ?_)
set_option maxHeartbeats 8000000 in
set_option maxRecDepth 100000 in
theorem chars_Class.calls (k : Nat) (a0 : Int) (r : Int) (w : World) (h : chars_Class.f k a0 = some r) :
  Calls Try.prog 31 #[.int .i32 a0] w fun e w' => e = .returned (.int .i64 r) ∧ Drawn0 w w' := by
 have H : ((chars_mark.f a0).bind fun t101 => (if t101 = true then (if a0 = 807 then (chars_Class.j0 k a0 true) else (chars_Class.j0 k a0 (a0 == 808))) else (some 0))) = some r := h
 clear h
 obtain ⟨t101, A2, H⟩ := zO H
 by_cases c3 : t101 = true
 ·subst c3
  rw [if_pos rfl] at H
  have HC4 := aM H
  clear H
  go_enter Try.func31, Try.ntmps31
  go_upto_region 3 with (first | ((with_reducible refine gate_callee (f := 48) rfl ?_); refine goesL_ (some 5) rfl rfl Try.func48 zK rfl #[.int .i32 a0] rfl zM ?_; (with_reducible refine (chars_mark.calls a0 true _ A2.out).mono ?_); rintro e w' ⟨rfl, ⟨nd, rfl⟩⟩; refine ⟨_, rfl, ?_⟩))
  (try simp only [Act.put, List.setIfInBounds_toArray, List.set_cons_zero, List.set_cons_succ])
  go_cut [7] (fun v7 wc => ∃ (kq : Nat) (x7_3 : Bool), v7 = .bool x7_3 ∧ Aside0 (chars_Class.j0 kq a0 x7_3 = some r) ∧ Aside0 (kq ≤ k) ∧ Drawn0 w wc)
  case first =>
   have H := HC4.out
   clear HC4
   by_cases c5 : a0 = 807
   ·rw [if_pos c5] at H
    have c5b0 : (a0 == 807) = true := beq_iff_eq.mpr c5
    have c5b1 : (a0 != 807) = false := bne_eq_false_iff_eq.mpr c5
    clear c5
    (first | rw [c5b0] | (simp only [i64_w, i32_w]; rw [c5b0]) | skip)
    have H' := aM H
    clear H
    go_wp2
    go_meet
    case rel => exact ⟨_, (true), zP, H', ⟨by first | omega | exact Nat.le_refl _⟩, zD⟩
   ·rw [if_neg c5] at H
    have c5b0 : (a0 == 807) = false := beq_eq_false_iff_ne.mpr c5
    have c5b1 : (a0 != 807) = true := bne_iff_ne.mpr c5
    (first | rw [c5b0] | (simp only [i64_w, i32_w]; rw [c5b0]) | skip)
    have H' := aM H
    clear H
    go_wp2
    go_meet
    case rel => exact ⟨_, ((a0 == 808)), zP, H', ⟨by first | omega | exact Nat.le_refl _⟩, zD⟩
  case rest =>
   clear HC4
   try clear p2
   try clear c3
   try clear c4
   try clear c5
   try clear c5b0
   try clear c5b1
   obtain ⟨kq, x7_3, rfl, HA, HJ3, ⟨mc3, rfl⟩⟩ := hcut
   cases kq with
   | zero => exact absurd HA.out (by simp [chars_Class.j0])
   | succ kj3 =>
    have H := HA.out
    clear HA
    simp only [chars_Class.j0] at H
    by_cases c6 : x7_3 = true
    ·subst c6
     rw [if_pos rfl] at H
     obtain rfl := sI H
     go_wp2
     go_ret
     exact ⟨zP, zD⟩
    ·replace c6 := Bool.eq_false_iff.mpr c6
     subst c6
     rw [if_neg (show ¬ (false = true) by decide)] at H
     by_cases c7 : a0 = 803
     ·rw [if_pos c7] at H
      have c7b0 : (a0 == 803) = true := beq_iff_eq.mpr c7
      have c7b1 : (a0 != 803) = false := bne_eq_false_iff_eq.mpr c7
      clear c7
      obtain rfl := sI H
      go_wp2
      go_ret
      exact ⟨zP, zD⟩
     ·rw [if_neg c7] at H
      have c7b0 : (a0 == 803) = false := beq_eq_false_iff_ne.mpr c7
      have c7b1 : (a0 != 803) = true := bne_iff_ne.mpr c7
      by_cases c8 : a0 ≥ 12441
      ·rw [if_pos c8] at H
       have c8b0 : decide (12441 ≤ a0) = true := decide_eq_true c8
       clear c8
       obtain rfl := sI H
       go_wp2
       go_ret
       exact ⟨zP, zD⟩
      ·rw [if_neg c8] at H
       have c8b0 : decide (12441 ≤ a0) = false := decide_eq_false c8
       clear c8
       obtain rfl := sI H
       go_wp2
       go_ret
       exact ⟨zP, zD⟩
 ·replace c3 := Bool.eq_false_iff.mpr c3
  subst c3
  rw [if_neg (show ¬ (false = true) by decide)] at H
  obtain rfl := sI H
  go_enter Try.func31, Try.ntmps31
  go_wp2_with (first | ((with_reducible refine gate_callee (f := 48) rfl ?_); refine goesL_ (some 5) rfl rfl Try.func48 zK rfl #[.int .i32 a0] rfl zM ?_; (with_reducible refine (chars_mark.calls a0 false _ A2.out).mono ?_); rintro e w' ⟨rfl, ⟨nd, rfl⟩⟩; refine ⟨_, rfl, ?_⟩))
  go_ret
  exact ⟨zP, zD⟩

/-! ### hangul_Syllable: function 49 -/
def hangul_Syllable.f (a0 : Int) : Option (Bool) := if a0 ≥ 44032 then (some (decide (a0 ≤ 55203))) else (some false)
set_option maxHeartbeats 8000000 in
set_option maxRecDepth 100000 in
theorem hangul_Syllable.calls (a0 : Int) (r : Bool) (w : World) (h : hangul_Syllable.f a0 = some r) :
  Calls Try.prog 49 #[.int .i32 a0] w fun e w' => e = .returned (.bool r) ∧ Drawn0 w w' := by
 have H : (if a0 ≥ 44032 then (some (decide (a0 ≤ 55203))) else (some false)) = some r := h
 clear h
 by_cases c2 : a0 ≥ 44032
 ·rw [if_pos c2] at H
  have c2b0 : decide (44032 ≤ a0) = true := decide_eq_true c2
  clear c2
  obtain rfl := sI H
  go_enter Try.func49, Try.ntmps49
  go_wp2
  go_ret
  exact ⟨zP, zD⟩
 ·rw [if_neg c2] at H
  have c2b0 : decide (44032 ≤ a0) = false := decide_eq_false c2
  clear c2
  obtain rfl := sI H
  go_enter Try.func49, Try.ntmps49
  go_wp2
  go_ret
  exact ⟨zP, zD⟩

/-! ### hangul_Apart: function 50, by hand (hangul.Apart.tpl) -/
def hangul_Apart.f (a0 : Int) : Option (List Int) := if a0 ≥ 44032 ∧ a0 ≤ 55203 then (if (a0 - 44032) % 28 = 0 then some [4352 + (a0 - 44032) / 28 / 21, 4449 + (a0 - 44032) / 28 % 21] else some [4352 + (a0 - 44032) / 28 / 21, 4449 + (a0 - 44032) / 28 % 21, 4519 + (a0 - 44032) % 28]) else some [a0]
set_option maxHeartbeats 8000000 in
set_option maxRecDepth 100000 in
theorem hangul_Apart.calls (a0 : Int) (r : List Int) (w : World) (h : hangul_Apart.f a0 = some r) :
    Calls Try.prog 50 #[.int .i32 a0] w fun e w' => ∃ v0_ : Value, e = .returned (v0_) ∧ Kd.V (Kd.int .i32) 21 w' w.heap.size (fun k_ => (w.heap.size ≤ k_)) (v0_) (r) ∧ Below w.heap.size w w' := by
  have H := h
  clear h
  unfold hangul_Apart.f at H
  by_cases c : a0 ≥ 44032 ∧ a0 ≤ 55203
  · rw [if_pos c] at H
    have A : hangul_Syllable.f a0 = some true := by
      unfold hangul_Syllable.f
      rw [if_pos c.1]
      simp [c.2]
    have A' := Aside0.mk A
    clear A
    obtain ⟨hb0, hb1⟩ := c
    have hb0 : 44032 ≤ a0 := hb0
    by_cases c2 : (a0 - 44032) % 28 = 0
    · rw [if_pos c2] at H
      obtain rfl := Option.some.inj H
      have h2 : ((a0 - 44032) % 28 == 0) = true := by simp [c2]
      clear c2 H
      go_enter Try.func50, Try.ntmps50
      go_wp2_with fail
      (with_reducible refine (hangul_Syllable.calls a0 _ _ A'.out).mono ?_)
      rintro e w1 ⟨rfl, hd⟩
      have HD := Aside0.mk hd
      clear hd
      go_wp2
      go_ret
      exact ⟨_, rfl, new_V [4352 + (a0 - 44032) / 28 / 21, 4449 + (a0 - 44032) / 28 % 21, 4519 + (a0 - 44032) % 28] [4352 + (a0 - 44032) / 28 / 21, 4449 + (a0 - 44032) / 28 % 21] 3 21 HD.out.below rfl (Nat.le_of_ble_eq_true rfl) (Nat.le_of_ble_eq_true rfl), below_alloc HD.out.below _⟩
    · rw [if_neg c2] at H
      obtain rfl := Option.some.inj H
      have h2 : ((a0 - 44032) % 28 == 0) = false := by simpa using c2
      clear c2 H
      go_enter Try.func50, Try.ntmps50
      go_wp2_with fail
      (with_reducible refine (hangul_Syllable.calls a0 _ _ A'.out).mono ?_)
      rintro e w1 ⟨rfl, hd⟩
      have HD := Aside0.mk hd
      clear hd
      go_wp2
      go_ret
      exact ⟨_, rfl, new_V [4352 + (a0 - 44032) / 28 / 21, 4449 + (a0 - 44032) / 28 % 21, 4519 + (a0 - 44032) % 28] [4352 + (a0 - 44032) / 28 / 21, 4449 + (a0 - 44032) / 28 % 21, 4519 + (a0 - 44032) % 28] 3 21 HD.out.below rfl (Nat.le_of_ble_eq_true rfl) (Nat.le_of_ble_eq_true rfl), below_alloc HD.out.below _⟩
  · rw [if_neg c] at H
    have A : hangul_Syllable.f a0 = some false := by
      unfold hangul_Syllable.f
      by_cases h1 : a0 ≥ 44032
      · rw [if_pos h1]
        have : ¬ a0 ≤ 55203 := fun h2 => c ⟨h1, h2⟩
        simp [this]
      · rw [if_neg h1]
    have A' := Aside0.mk A
    clear A c
    obtain rfl := Option.some.inj H
    go_enter Try.func50, Try.ntmps50
    go_wp2_with fail
    (with_reducible refine (hangul_Syllable.calls a0 _ _ A'.out).mono ?_)
    rintro e w1 ⟨rfl, hd⟩
    have HD := Aside0.mk hd
    clear hd
    go_wp2
    go_ret
    exact ⟨_, rfl, new_V [a0] [a0] 1 21 HD.out.below rfl (Nat.le_of_ble_eq_true rfl) (Nat.le_of_ble_eq_true rfl), below_alloc HD.out.below _⟩

/-! ### letters_Rows: function 79 -/
def letters_Rows.f  : Option ((List (S96))) := some (([(⟨768, (⟨#[195, 128, 195, 136, 195, 140, 195, 146, 195, 153, 195, 160, 195, 168, 195, 172, 195, 178, 195, 185]⟩ : ByteArray), (⟨#[65, 69, 73, 79, 85, 97, 101, 105, 111, 117]⟩ : ByteArray)⟩ : S96), (⟨769, (⟨#[195, 129, 195, 137, 195, 141, 195, 147, 195, 154, 195, 157, 195, 161, 195, 169, 195, 173, 195, 179, 195, 186, 195, 189, 196, 134, 196, 135, 196, 185, 196, 186, 197, 131, 197, 132, 197, 148, 197, 149, 197, 154, 197, 155, 197, 185, 197, 186, 206, 134, 206, 136, 206, 137, 206, 138, 206, 140, 206, 142, 206, 143, 206, 172, 206, 173, 206, 174, 206, 175, 207, 140, 207, 141, 207, 142, 206, 144, 206, 176]⟩ : ByteArray), (⟨#[65, 69, 73, 79, 85, 89, 97, 101, 105, 111, 117, 121, 67, 99, 76, 108, 78, 110, 82, 114, 83, 115, 90, 122, 206, 145, 206, 149, 206, 151, 206, 153, 206, 159, 206, 165, 206, 169, 206, 177, 206, 181, 206, 183, 206, 185, 206, 191, 207, 133, 207, 137, 207, 138, 207, 139]⟩ : ByteArray)⟩ : S96), (⟨770, (⟨#[195, 130, 195, 138, 195, 142, 195, 148, 195, 155, 195, 162, 195, 170, 195, 174, 195, 180, 195, 187, 196, 136, 196, 137, 196, 156, 196, 157, 196, 164, 196, 165, 196, 180, 196, 181, 197, 156, 197, 157, 197, 180, 197, 181, 197, 182, 197, 183]⟩ : ByteArray), (⟨#[65, 69, 73, 79, 85, 97, 101, 105, 111, 117, 67, 99, 71, 103, 72, 104, 74, 106, 83, 115, 87, 119, 89, 121]⟩ : ByteArray)⟩ : S96), (⟨771, (⟨#[195, 131, 195, 145, 195, 149, 195, 163, 195, 177, 195, 181, 196, 168, 196, 169, 197, 168, 197, 169]⟩ : ByteArray), (⟨#[65, 78, 79, 97, 110, 111, 73, 105, 85, 117]⟩ : ByteArray)⟩ : S96), (⟨772, (⟨#[196, 128, 196, 129, 196, 146, 196, 147, 196, 170, 196, 171, 197, 140, 197, 141, 197, 170, 197, 171]⟩ : ByteArray), (⟨#[65, 97, 69, 101, 73, 105, 79, 111, 85, 117]⟩ : ByteArray)⟩ : S96), (⟨774, (⟨#[196, 130, 196, 131, 196, 148, 196, 149, 196, 158, 196, 159, 196, 172, 196, 173, 197, 142, 197, 143, 197, 172, 197, 173, 208, 153, 208, 185]⟩ : ByteArray), (⟨#[65, 97, 69, 101, 71, 103, 73, 105, 79, 111, 85, 117, 208, 152, 208, 184]⟩ : ByteArray)⟩ : S96), (⟨775, (⟨#[196, 138, 196, 139, 196, 150, 196, 151, 196, 160, 196, 161, 196, 176, 197, 187, 197, 188]⟩ : ByteArray), (⟨#[67, 99, 69, 101, 71, 103, 73, 90, 122]⟩ : ByteArray)⟩ : S96), (⟨776, (⟨#[195, 132, 195, 139, 195, 143, 195, 150, 195, 156, 195, 164, 195, 171, 195, 175, 195, 182, 195, 188, 195, 191, 197, 184, 206, 170, 206, 171, 207, 138, 207, 139, 208, 129, 209, 145]⟩ : ByteArray), (⟨#[65, 69, 73, 79, 85, 97, 101, 105, 111, 117, 121, 89, 206, 153, 206, 165, 206, 185, 207, 133, 208, 149, 208, 181]⟩ : ByteArray)⟩ : S96), (⟨778, (⟨#[195, 133, 195, 165, 197, 174, 197, 175]⟩ : ByteArray), (⟨#[65, 97, 85, 117]⟩ : ByteArray)⟩ : S96), (⟨779, (⟨#[197, 144, 197, 145, 197, 176, 197, 177]⟩ : ByteArray), (⟨#[79, 111, 85, 117]⟩ : ByteArray)⟩ : S96), (⟨780, (⟨#[196, 140, 196, 141, 196, 142, 196, 143, 196, 154, 196, 155, 196, 189, 196, 190, 197, 135, 197, 136, 197, 152, 197, 153, 197, 160, 197, 161, 197, 164, 197, 165, 197, 189, 197, 190]⟩ : ByteArray), (⟨#[67, 99, 68, 100, 69, 101, 76, 108, 78, 110, 82, 114, 83, 115, 84, 116, 90, 122]⟩ : ByteArray)⟩ : S96), (⟨807, (⟨#[195, 135, 195, 167, 196, 162, 196, 163, 196, 182, 196, 183, 196, 187, 196, 188, 197, 133, 197, 134, 197, 150, 197, 151, 197, 158, 197, 159, 197, 162, 197, 163]⟩ : ByteArray), (⟨#[67, 99, 71, 103, 75, 107, 76, 108, 78, 110, 82, 114, 83, 115, 84, 116]⟩ : ByteArray)⟩ : S96), (⟨808, (⟨#[196, 132, 196, 133, 196, 152, 196, 153, 196, 174, 196, 175, 197, 178, 197, 179]⟩ : ByteArray), (⟨#[65, 97, 69, 101, 73, 105, 85, 117]⟩ : ByteArray)⟩ : S96), (⟨12441, (⟨#[227, 129, 140, 227, 129, 142, 227, 129, 144, 227, 129, 146, 227, 129, 148, 227, 129, 150, 227, 129, 152, 227, 129, 154, 227, 129, 156, 227, 129, 158, 227, 129, 160, 227, 129, 162, 227, 129, 165, 227, 129, 167, 227, 129, 169, 227, 129, 176, 227, 129, 179, 227, 129, 182, 227, 129, 185, 227, 129, 188, 227, 130, 148]⟩ : ByteArray), (⟨#[227, 129, 139, 227, 129, 141, 227, 129, 143, 227, 129, 145, 227, 129, 147, 227, 129, 149, 227, 129, 151, 227, 129, 153, 227, 129, 155, 227, 129, 157, 227, 129, 159, 227, 129, 161, 227, 129, 164, 227, 129, 166, 227, 129, 168, 227, 129, 175, 227, 129, 178, 227, 129, 181, 227, 129, 184, 227, 129, 187, 227, 129, 134]⟩ : ByteArray)⟩ : S96), (⟨12442, (⟨#[227, 129, 177, 227, 129, 180, 227, 129, 183, 227, 129, 186, 227, 129, 189]⟩ : ByteArray), (⟨#[227, 129, 175, 227, 129, 178, 227, 129, 181, 227, 129, 184, 227, 129, 187]⟩ : ByteArray)⟩ : S96)] : List (S96)))
set_option maxHeartbeats 8000000 in
set_option maxRecDepth 100000 in
theorem letters_Rows.calls  (r : List (S96)) (w : World) (h : letters_Rows.f  = some r) :
  Calls Try.prog 79 #[] w fun e w' => ∃ v0_ : Value, e = .returned (v0_) ∧ Kd.R k96 96 w' w.heap.size (fun _ => True) v0_ r ∧ Below w.heap.size w w' := by
 have hu96 := Try.underlying96
 have HB := aM (Below.refl w.heap.size w)
 have H : (some (([(⟨768, (⟨#[195, 128, 195, 136, 195, 140, 195, 146, 195, 153, 195, 160, 195, 168, 195, 172, 195, 178, 195, 185]⟩ : ByteArray), (⟨#[65, 69, 73, 79, 85, 97, 101, 105, 111, 117]⟩ : ByteArray)⟩ : S96), (⟨769, (⟨#[195, 129, 195, 137, 195, 141, 195, 147, 195, 154, 195, 157, 195, 161, 195, 169, 195, 173, 195, 179, 195, 186, 195, 189, 196, 134, 196, 135, 196, 185, 196, 186, 197, 131, 197, 132, 197, 148, 197, 149, 197, 154, 197, 155, 197, 185, 197, 186, 206, 134, 206, 136, 206, 137, 206, 138, 206, 140, 206, 142, 206, 143, 206, 172, 206, 173, 206, 174, 206, 175, 207, 140, 207, 141, 207, 142, 206, 144, 206, 176]⟩ : ByteArray), (⟨#[65, 69, 73, 79, 85, 89, 97, 101, 105, 111, 117, 121, 67, 99, 76, 108, 78, 110, 82, 114, 83, 115, 90, 122, 206, 145, 206, 149, 206, 151, 206, 153, 206, 159, 206, 165, 206, 169, 206, 177, 206, 181, 206, 183, 206, 185, 206, 191, 207, 133, 207, 137, 207, 138, 207, 139]⟩ : ByteArray)⟩ : S96), (⟨770, (⟨#[195, 130, 195, 138, 195, 142, 195, 148, 195, 155, 195, 162, 195, 170, 195, 174, 195, 180, 195, 187, 196, 136, 196, 137, 196, 156, 196, 157, 196, 164, 196, 165, 196, 180, 196, 181, 197, 156, 197, 157, 197, 180, 197, 181, 197, 182, 197, 183]⟩ : ByteArray), (⟨#[65, 69, 73, 79, 85, 97, 101, 105, 111, 117, 67, 99, 71, 103, 72, 104, 74, 106, 83, 115, 87, 119, 89, 121]⟩ : ByteArray)⟩ : S96), (⟨771, (⟨#[195, 131, 195, 145, 195, 149, 195, 163, 195, 177, 195, 181, 196, 168, 196, 169, 197, 168, 197, 169]⟩ : ByteArray), (⟨#[65, 78, 79, 97, 110, 111, 73, 105, 85, 117]⟩ : ByteArray)⟩ : S96), (⟨772, (⟨#[196, 128, 196, 129, 196, 146, 196, 147, 196, 170, 196, 171, 197, 140, 197, 141, 197, 170, 197, 171]⟩ : ByteArray), (⟨#[65, 97, 69, 101, 73, 105, 79, 111, 85, 117]⟩ : ByteArray)⟩ : S96), (⟨774, (⟨#[196, 130, 196, 131, 196, 148, 196, 149, 196, 158, 196, 159, 196, 172, 196, 173, 197, 142, 197, 143, 197, 172, 197, 173, 208, 153, 208, 185]⟩ : ByteArray), (⟨#[65, 97, 69, 101, 71, 103, 73, 105, 79, 111, 85, 117, 208, 152, 208, 184]⟩ : ByteArray)⟩ : S96), (⟨775, (⟨#[196, 138, 196, 139, 196, 150, 196, 151, 196, 160, 196, 161, 196, 176, 197, 187, 197, 188]⟩ : ByteArray), (⟨#[67, 99, 69, 101, 71, 103, 73, 90, 122]⟩ : ByteArray)⟩ : S96), (⟨776, (⟨#[195, 132, 195, 139, 195, 143, 195, 150, 195, 156, 195, 164, 195, 171, 195, 175, 195, 182, 195, 188, 195, 191, 197, 184, 206, 170, 206, 171, 207, 138, 207, 139, 208, 129, 209, 145]⟩ : ByteArray), (⟨#[65, 69, 73, 79, 85, 97, 101, 105, 111, 117, 121, 89, 206, 153, 206, 165, 206, 185, 207, 133, 208, 149, 208, 181]⟩ : ByteArray)⟩ : S96), (⟨778, (⟨#[195, 133, 195, 165, 197, 174, 197, 175]⟩ : ByteArray), (⟨#[65, 97, 85, 117]⟩ : ByteArray)⟩ : S96), (⟨779, (⟨#[197, 144, 197, 145, 197, 176, 197, 177]⟩ : ByteArray), (⟨#[79, 111, 85, 117]⟩ : ByteArray)⟩ : S96), (⟨780, (⟨#[196, 140, 196, 141, 196, 142, 196, 143, 196, 154, 196, 155, 196, 189, 196, 190, 197, 135, 197, 136, 197, 152, 197, 153, 197, 160, 197, 161, 197, 164, 197, 165, 197, 189, 197, 190]⟩ : ByteArray), (⟨#[67, 99, 68, 100, 69, 101, 76, 108, 78, 110, 82, 114, 83, 115, 84, 116, 90, 122]⟩ : ByteArray)⟩ : S96), (⟨807, (⟨#[195, 135, 195, 167, 196, 162, 196, 163, 196, 182, 196, 183, 196, 187, 196, 188, 197, 133, 197, 134, 197, 150, 197, 151, 197, 158, 197, 159, 197, 162, 197, 163]⟩ : ByteArray), (⟨#[67, 99, 71, 103, 75, 107, 76, 108, 78, 110, 82, 114, 83, 115, 84, 116]⟩ : ByteArray)⟩ : S96), (⟨808, (⟨#[196, 132, 196, 133, 196, 152, 196, 153, 196, 174, 196, 175, 197, 178, 197, 179]⟩ : ByteArray), (⟨#[65, 97, 69, 101, 73, 105, 85, 117]⟩ : ByteArray)⟩ : S96), (⟨12441, (⟨#[227, 129, 140, 227, 129, 142, 227, 129, 144, 227, 129, 146, 227, 129, 148, 227, 129, 150, 227, 129, 152, 227, 129, 154, 227, 129, 156, 227, 129, 158, 227, 129, 160, 227, 129, 162, 227, 129, 165, 227, 129, 167, 227, 129, 169, 227, 129, 176, 227, 129, 179, 227, 129, 182, 227, 129, 185, 227, 129, 188, 227, 130, 148]⟩ : ByteArray), (⟨#[227, 129, 139, 227, 129, 141, 227, 129, 143, 227, 129, 145, 227, 129, 147, 227, 129, 149, 227, 129, 151, 227, 129, 153, 227, 129, 155, 227, 129, 157, 227, 129, 159, 227, 129, 161, 227, 129, 164, 227, 129, 166, 227, 129, 168, 227, 129, 175, 227, 129, 178, 227, 129, 181, 227, 129, 184, 227, 129, 187, 227, 129, 134]⟩ : ByteArray)⟩ : S96), (⟨12442, (⟨#[227, 129, 177, 227, 129, 180, 227, 129, 183, 227, 129, 186, 227, 129, 189]⟩ : ByteArray), (⟨#[227, 129, 175, 227, 129, 178, 227, 129, 181, 227, 129, 184, 227, 129, 187]⟩ : ByteArray)⟩ : S96)] : List (S96)))) = some r := h
 clear h
 obtain ⟨y102, hy102⟩ : ∃ y_ : List (S96), y_ = (([(⟨768, (⟨#[195, 128, 195, 136, 195, 140, 195, 146, 195, 153, 195, 160, 195, 168, 195, 172, 195, 178, 195, 185]⟩ : ByteArray), (⟨#[65, 69, 73, 79, 85, 97, 101, 105, 111, 117]⟩ : ByteArray)⟩ : S96), (⟨769, (⟨#[195, 129, 195, 137, 195, 141, 195, 147, 195, 154, 195, 157, 195, 161, 195, 169, 195, 173, 195, 179, 195, 186, 195, 189, 196, 134, 196, 135, 196, 185, 196, 186, 197, 131, 197, 132, 197, 148, 197, 149, 197, 154, 197, 155, 197, 185, 197, 186, 206, 134, 206, 136, 206, 137, 206, 138, 206, 140, 206, 142, 206, 143, 206, 172, 206, 173, 206, 174, 206, 175, 207, 140, 207, 141, 207, 142, 206, 144, 206, 176]⟩ : ByteArray), (⟨#[65, 69, 73, 79, 85, 89, 97, 101, 105, 111, 117, 121, 67, 99, 76, 108, 78, 110, 82, 114, 83, 115, 90, 122, 206, 145, 206, 149, 206, 151, 206, 153, 206, 159, 206, 165, 206, 169, 206, 177, 206, 181, 206, 183, 206, 185, 206, 191, 207, 133, 207, 137, 207, 138, 207, 139]⟩ : ByteArray)⟩ : S96), (⟨770, (⟨#[195, 130, 195, 138, 195, 142, 195, 148, 195, 155, 195, 162, 195, 170, 195, 174, 195, 180, 195, 187, 196, 136, 196, 137, 196, 156, 196, 157, 196, 164, 196, 165, 196, 180, 196, 181, 197, 156, 197, 157, 197, 180, 197, 181, 197, 182, 197, 183]⟩ : ByteArray), (⟨#[65, 69, 73, 79, 85, 97, 101, 105, 111, 117, 67, 99, 71, 103, 72, 104, 74, 106, 83, 115, 87, 119, 89, 121]⟩ : ByteArray)⟩ : S96), (⟨771, (⟨#[195, 131, 195, 145, 195, 149, 195, 163, 195, 177, 195, 181, 196, 168, 196, 169, 197, 168, 197, 169]⟩ : ByteArray), (⟨#[65, 78, 79, 97, 110, 111, 73, 105, 85, 117]⟩ : ByteArray)⟩ : S96), (⟨772, (⟨#[196, 128, 196, 129, 196, 146, 196, 147, 196, 170, 196, 171, 197, 140, 197, 141, 197, 170, 197, 171]⟩ : ByteArray), (⟨#[65, 97, 69, 101, 73, 105, 79, 111, 85, 117]⟩ : ByteArray)⟩ : S96), (⟨774, (⟨#[196, 130, 196, 131, 196, 148, 196, 149, 196, 158, 196, 159, 196, 172, 196, 173, 197, 142, 197, 143, 197, 172, 197, 173, 208, 153, 208, 185]⟩ : ByteArray), (⟨#[65, 97, 69, 101, 71, 103, 73, 105, 79, 111, 85, 117, 208, 152, 208, 184]⟩ : ByteArray)⟩ : S96), (⟨775, (⟨#[196, 138, 196, 139, 196, 150, 196, 151, 196, 160, 196, 161, 196, 176, 197, 187, 197, 188]⟩ : ByteArray), (⟨#[67, 99, 69, 101, 71, 103, 73, 90, 122]⟩ : ByteArray)⟩ : S96), (⟨776, (⟨#[195, 132, 195, 139, 195, 143, 195, 150, 195, 156, 195, 164, 195, 171, 195, 175, 195, 182, 195, 188, 195, 191, 197, 184, 206, 170, 206, 171, 207, 138, 207, 139, 208, 129, 209, 145]⟩ : ByteArray), (⟨#[65, 69, 73, 79, 85, 97, 101, 105, 111, 117, 121, 89, 206, 153, 206, 165, 206, 185, 207, 133, 208, 149, 208, 181]⟩ : ByteArray)⟩ : S96), (⟨778, (⟨#[195, 133, 195, 165, 197, 174, 197, 175]⟩ : ByteArray), (⟨#[65, 97, 85, 117]⟩ : ByteArray)⟩ : S96), (⟨779, (⟨#[197, 144, 197, 145, 197, 176, 197, 177]⟩ : ByteArray), (⟨#[79, 111, 85, 117]⟩ : ByteArray)⟩ : S96), (⟨780, (⟨#[196, 140, 196, 141, 196, 142, 196, 143, 196, 154, 196, 155, 196, 189, 196, 190, 197, 135, 197, 136, 197, 152, 197, 153, 197, 160, 197, 161, 197, 164, 197, 165, 197, 189, 197, 190]⟩ : ByteArray), (⟨#[67, 99, 68, 100, 69, 101, 76, 108, 78, 110, 82, 114, 83, 115, 84, 116, 90, 122]⟩ : ByteArray)⟩ : S96), (⟨807, (⟨#[195, 135, 195, 167, 196, 162, 196, 163, 196, 182, 196, 183, 196, 187, 196, 188, 197, 133, 197, 134, 197, 150, 197, 151, 197, 158, 197, 159, 197, 162, 197, 163]⟩ : ByteArray), (⟨#[67, 99, 71, 103, 75, 107, 76, 108, 78, 110, 82, 114, 83, 115, 84, 116]⟩ : ByteArray)⟩ : S96), (⟨808, (⟨#[196, 132, 196, 133, 196, 152, 196, 153, 196, 174, 196, 175, 197, 178, 197, 179]⟩ : ByteArray), (⟨#[65, 97, 69, 101, 73, 105, 85, 117]⟩ : ByteArray)⟩ : S96), (⟨12441, (⟨#[227, 129, 140, 227, 129, 142, 227, 129, 144, 227, 129, 146, 227, 129, 148, 227, 129, 150, 227, 129, 152, 227, 129, 154, 227, 129, 156, 227, 129, 158, 227, 129, 160, 227, 129, 162, 227, 129, 165, 227, 129, 167, 227, 129, 169, 227, 129, 176, 227, 129, 179, 227, 129, 182, 227, 129, 185, 227, 129, 188, 227, 130, 148]⟩ : ByteArray), (⟨#[227, 129, 139, 227, 129, 141, 227, 129, 143, 227, 129, 145, 227, 129, 147, 227, 129, 149, 227, 129, 151, 227, 129, 153, 227, 129, 155, 227, 129, 157, 227, 129, 159, 227, 129, 161, 227, 129, 164, 227, 129, 166, 227, 129, 168, 227, 129, 175, 227, 129, 178, 227, 129, 181, 227, 129, 184, 227, 129, 187, 227, 129, 134]⟩ : ByteArray)⟩ : S96), (⟨12442, (⟨#[227, 129, 177, 227, 129, 180, 227, 129, 183, 227, 129, 186, 227, 129, 189]⟩ : ByteArray), (⟨#[227, 129, 175, 227, 129, 178, 227, 129, 181, 227, 129, 184, 227, 129, 187]⟩ : ByteArray)⟩ : S96)] : List (S96))) := ⟨_, rfl⟩
 replace H : (some y102) = some r := zY hy102 H
 have Ny102 := aM hy102
 clear hy102
 obtain rfl := sI H
 go_enter Try.func79, Try.ntmps79
 go_wp2_with (first | ((with_reducible refine gate_dst (N := 16) rfl ?_); refine Kd.R_lit k96 _ 96 ?hg (N := 16) ?hd (xs := ([(⟨768, (⟨#[195, 128, 195, 136, 195, 140, 195, 146, 195, 153, 195, 160, 195, 168, 195, 172, 195, 178, 195, 185]⟩ : ByteArray), (⟨#[65, 69, 73, 79, 85, 97, 101, 105, 111, 117]⟩ : ByteArray)⟩ : S96), (⟨769, (⟨#[195, 129, 195, 137, 195, 141, 195, 147, 195, 154, 195, 157, 195, 161, 195, 169, 195, 173, 195, 179, 195, 186, 195, 189, 196, 134, 196, 135, 196, 185, 196, 186, 197, 131, 197, 132, 197, 148, 197, 149, 197, 154, 197, 155, 197, 185, 197, 186, 206, 134, 206, 136, 206, 137, 206, 138, 206, 140, 206, 142, 206, 143, 206, 172, 206, 173, 206, 174, 206, 175, 207, 140, 207, 141, 207, 142, 206, 144, 206, 176]⟩ : ByteArray), (⟨#[65, 69, 73, 79, 85, 89, 97, 101, 105, 111, 117, 121, 67, 99, 76, 108, 78, 110, 82, 114, 83, 115, 90, 122, 206, 145, 206, 149, 206, 151, 206, 153, 206, 159, 206, 165, 206, 169, 206, 177, 206, 181, 206, 183, 206, 185, 206, 191, 207, 133, 207, 137, 207, 138, 207, 139]⟩ : ByteArray)⟩ : S96), (⟨770, (⟨#[195, 130, 195, 138, 195, 142, 195, 148, 195, 155, 195, 162, 195, 170, 195, 174, 195, 180, 195, 187, 196, 136, 196, 137, 196, 156, 196, 157, 196, 164, 196, 165, 196, 180, 196, 181, 197, 156, 197, 157, 197, 180, 197, 181, 197, 182, 197, 183]⟩ : ByteArray), (⟨#[65, 69, 73, 79, 85, 97, 101, 105, 111, 117, 67, 99, 71, 103, 72, 104, 74, 106, 83, 115, 87, 119, 89, 121]⟩ : ByteArray)⟩ : S96), (⟨771, (⟨#[195, 131, 195, 145, 195, 149, 195, 163, 195, 177, 195, 181, 196, 168, 196, 169, 197, 168, 197, 169]⟩ : ByteArray), (⟨#[65, 78, 79, 97, 110, 111, 73, 105, 85, 117]⟩ : ByteArray)⟩ : S96), (⟨772, (⟨#[196, 128, 196, 129, 196, 146, 196, 147, 196, 170, 196, 171, 197, 140, 197, 141, 197, 170, 197, 171]⟩ : ByteArray), (⟨#[65, 97, 69, 101, 73, 105, 79, 111, 85, 117]⟩ : ByteArray)⟩ : S96), (⟨774, (⟨#[196, 130, 196, 131, 196, 148, 196, 149, 196, 158, 196, 159, 196, 172, 196, 173, 197, 142, 197, 143, 197, 172, 197, 173, 208, 153, 208, 185]⟩ : ByteArray), (⟨#[65, 97, 69, 101, 71, 103, 73, 105, 79, 111, 85, 117, 208, 152, 208, 184]⟩ : ByteArray)⟩ : S96), (⟨775, (⟨#[196, 138, 196, 139, 196, 150, 196, 151, 196, 160, 196, 161, 196, 176, 197, 187, 197, 188]⟩ : ByteArray), (⟨#[67, 99, 69, 101, 71, 103, 73, 90, 122]⟩ : ByteArray)⟩ : S96), (⟨776, (⟨#[195, 132, 195, 139, 195, 143, 195, 150, 195, 156, 195, 164, 195, 171, 195, 175, 195, 182, 195, 188, 195, 191, 197, 184, 206, 170, 206, 171, 207, 138, 207, 139, 208, 129, 209, 145]⟩ : ByteArray), (⟨#[65, 69, 73, 79, 85, 97, 101, 105, 111, 117, 121, 89, 206, 153, 206, 165, 206, 185, 207, 133, 208, 149, 208, 181]⟩ : ByteArray)⟩ : S96), (⟨778, (⟨#[195, 133, 195, 165, 197, 174, 197, 175]⟩ : ByteArray), (⟨#[65, 97, 85, 117]⟩ : ByteArray)⟩ : S96), (⟨779, (⟨#[197, 144, 197, 145, 197, 176, 197, 177]⟩ : ByteArray), (⟨#[79, 111, 85, 117]⟩ : ByteArray)⟩ : S96), (⟨780, (⟨#[196, 140, 196, 141, 196, 142, 196, 143, 196, 154, 196, 155, 196, 189, 196, 190, 197, 135, 197, 136, 197, 152, 197, 153, 197, 160, 197, 161, 197, 164, 197, 165, 197, 189, 197, 190]⟩ : ByteArray), (⟨#[67, 99, 68, 100, 69, 101, 76, 108, 78, 110, 82, 114, 83, 115, 84, 116, 90, 122]⟩ : ByteArray)⟩ : S96), (⟨807, (⟨#[195, 135, 195, 167, 196, 162, 196, 163, 196, 182, 196, 183, 196, 187, 196, 188, 197, 133, 197, 134, 197, 150, 197, 151, 197, 158, 197, 159, 197, 162, 197, 163]⟩ : ByteArray), (⟨#[67, 99, 71, 103, 75, 107, 76, 108, 78, 110, 82, 114, 83, 115, 84, 116]⟩ : ByteArray)⟩ : S96), (⟨808, (⟨#[196, 132, 196, 133, 196, 152, 196, 153, 196, 174, 196, 175, 197, 178, 197, 179]⟩ : ByteArray), (⟨#[65, 97, 69, 101, 73, 105, 85, 117]⟩ : ByteArray)⟩ : S96), (⟨12441, (⟨#[227, 129, 140, 227, 129, 142, 227, 129, 144, 227, 129, 146, 227, 129, 148, 227, 129, 150, 227, 129, 152, 227, 129, 154, 227, 129, 156, 227, 129, 158, 227, 129, 160, 227, 129, 162, 227, 129, 165, 227, 129, 167, 227, 129, 169, 227, 129, 176, 227, 129, 179, 227, 129, 182, 227, 129, 185, 227, 129, 188, 227, 130, 148]⟩ : ByteArray), (⟨#[227, 129, 139, 227, 129, 141, 227, 129, 143, 227, 129, 145, 227, 129, 147, 227, 129, 149, 227, 129, 151, 227, 129, 153, 227, 129, 155, 227, 129, 157, 227, 129, 159, 227, 129, 161, 227, 129, 164, 227, 129, 166, 227, 129, 168, 227, 129, 175, 227, 129, 178, 227, 129, 181, 227, 129, 184, 227, 129, 187, 227, 129, 134]⟩ : ByteArray)⟩ : S96), (⟨12442, (⟨#[227, 129, 177, 227, 129, 180, 227, 129, 183, 227, 129, 186, 227, 129, 189]⟩ : ByteArray), (⟨#[227, 129, 175, 227, 129, 178, 227, 129, 181, 227, 129, 184, 227, 129, 187]⟩ : ByteArray)⟩ : S96)] : List (S96))) (inner := [.int .i32 768, .string (⟨#[195, 128, 195, 136, 195, 140, 195, 146, 195, 153, 195, 160, 195, 168, 195, 172, 195, 178, 195, 185]⟩ : ByteArray), .string (⟨#[65, 69, 73, 79, 85, 97, 101, 105, 111, 117]⟩ : ByteArray), .int .i32 769, .string (⟨#[195, 129, 195, 137, 195, 141, 195, 147, 195, 154, 195, 157, 195, 161, 195, 169, 195, 173, 195, 179, 195, 186, 195, 189, 196, 134, 196, 135, 196, 185, 196, 186, 197, 131, 197, 132, 197, 148, 197, 149, 197, 154, 197, 155, 197, 185, 197, 186, 206, 134, 206, 136, 206, 137, 206, 138, 206, 140, 206, 142, 206, 143, 206, 172, 206, 173, 206, 174, 206, 175, 207, 140, 207, 141, 207, 142, 206, 144, 206, 176]⟩ : ByteArray), .string (⟨#[65, 69, 73, 79, 85, 89, 97, 101, 105, 111, 117, 121, 67, 99, 76, 108, 78, 110, 82, 114, 83, 115, 90, 122, 206, 145, 206, 149, 206, 151, 206, 153, 206, 159, 206, 165, 206, 169, 206, 177, 206, 181, 206, 183, 206, 185, 206, 191, 207, 133, 207, 137, 207, 138, 207, 139]⟩ : ByteArray), .int .i32 770, .string (⟨#[195, 130, 195, 138, 195, 142, 195, 148, 195, 155, 195, 162, 195, 170, 195, 174, 195, 180, 195, 187, 196, 136, 196, 137, 196, 156, 196, 157, 196, 164, 196, 165, 196, 180, 196, 181, 197, 156, 197, 157, 197, 180, 197, 181, 197, 182, 197, 183]⟩ : ByteArray), .string (⟨#[65, 69, 73, 79, 85, 97, 101, 105, 111, 117, 67, 99, 71, 103, 72, 104, 74, 106, 83, 115, 87, 119, 89, 121]⟩ : ByteArray), .int .i32 771, .string (⟨#[195, 131, 195, 145, 195, 149, 195, 163, 195, 177, 195, 181, 196, 168, 196, 169, 197, 168, 197, 169]⟩ : ByteArray), .string (⟨#[65, 78, 79, 97, 110, 111, 73, 105, 85, 117]⟩ : ByteArray), .int .i32 772, .string (⟨#[196, 128, 196, 129, 196, 146, 196, 147, 196, 170, 196, 171, 197, 140, 197, 141, 197, 170, 197, 171]⟩ : ByteArray), .string (⟨#[65, 97, 69, 101, 73, 105, 79, 111, 85, 117]⟩ : ByteArray), .int .i32 774, .string (⟨#[196, 130, 196, 131, 196, 148, 196, 149, 196, 158, 196, 159, 196, 172, 196, 173, 197, 142, 197, 143, 197, 172, 197, 173, 208, 153, 208, 185]⟩ : ByteArray), .string (⟨#[65, 97, 69, 101, 71, 103, 73, 105, 79, 111, 85, 117, 208, 152, 208, 184]⟩ : ByteArray), .int .i32 775, .string (⟨#[196, 138, 196, 139, 196, 150, 196, 151, 196, 160, 196, 161, 196, 176, 197, 187, 197, 188]⟩ : ByteArray), .string (⟨#[67, 99, 69, 101, 71, 103, 73, 90, 122]⟩ : ByteArray), .int .i32 776, .string (⟨#[195, 132, 195, 139, 195, 143, 195, 150, 195, 156, 195, 164, 195, 171, 195, 175, 195, 182, 195, 188, 195, 191, 197, 184, 206, 170, 206, 171, 207, 138, 207, 139, 208, 129, 209, 145]⟩ : ByteArray), .string (⟨#[65, 69, 73, 79, 85, 97, 101, 105, 111, 117, 121, 89, 206, 153, 206, 165, 206, 185, 207, 133, 208, 149, 208, 181]⟩ : ByteArray), .int .i32 778, .string (⟨#[195, 133, 195, 165, 197, 174, 197, 175]⟩ : ByteArray), .string (⟨#[65, 97, 85, 117]⟩ : ByteArray), .int .i32 779, .string (⟨#[197, 144, 197, 145, 197, 176, 197, 177]⟩ : ByteArray), .string (⟨#[79, 111, 85, 117]⟩ : ByteArray), .int .i32 780, .string (⟨#[196, 140, 196, 141, 196, 142, 196, 143, 196, 154, 196, 155, 196, 189, 196, 190, 197, 135, 197, 136, 197, 152, 197, 153, 197, 160, 197, 161, 197, 164, 197, 165, 197, 189, 197, 190]⟩ : ByteArray), .string (⟨#[67, 99, 68, 100, 69, 101, 76, 108, 78, 110, 82, 114, 83, 115, 84, 116, 90, 122]⟩ : ByteArray), .int .i32 807, .string (⟨#[195, 135, 195, 167, 196, 162, 196, 163, 196, 182, 196, 183, 196, 187, 196, 188, 197, 133, 197, 134, 197, 150, 197, 151, 197, 158, 197, 159, 197, 162, 197, 163]⟩ : ByteArray), .string (⟨#[67, 99, 71, 103, 75, 107, 76, 108, 78, 110, 82, 114, 83, 115, 84, 116]⟩ : ByteArray), .int .i32 808, .string (⟨#[196, 132, 196, 133, 196, 152, 196, 153, 196, 174, 196, 175, 197, 178, 197, 179]⟩ : ByteArray), .string (⟨#[65, 97, 69, 101, 73, 105, 85, 117]⟩ : ByteArray), .int .i32 12441, .string (⟨#[227, 129, 140, 227, 129, 142, 227, 129, 144, 227, 129, 146, 227, 129, 148, 227, 129, 150, 227, 129, 152, 227, 129, 154, 227, 129, 156, 227, 129, 158, 227, 129, 160, 227, 129, 162, 227, 129, 165, 227, 129, 167, 227, 129, 169, 227, 129, 176, 227, 129, 179, 227, 129, 182, 227, 129, 185, 227, 129, 188, 227, 130, 148]⟩ : ByteArray), .string (⟨#[227, 129, 139, 227, 129, 141, 227, 129, 143, 227, 129, 145, 227, 129, 147, 227, 129, 149, 227, 129, 151, 227, 129, 153, 227, 129, 155, 227, 129, 157, 227, 129, 159, 227, 129, 161, 227, 129, 164, 227, 129, 166, 227, 129, 168, 227, 129, 175, 227, 129, 178, 227, 129, 181, 227, 129, 184, 227, 129, 187, 227, 129, 134]⟩ : ByteArray), .int .i32 12442, .string (⟨#[227, 129, 177, 227, 129, 180, 227, 129, 183, 227, 129, 186, 227, 129, 189]⟩ : ByteArray), .string (⟨#[227, 129, 175, 227, 129, 178, 227, 129, 181, 227, 129, 184, 227, 129, 187]⟩ : ByteArray)]) (ok := fun _ => True) (okp := fun _ => True) ?hr ?hp (fun _ hk => hk) trivial (Below.refl _ _) (Nat.le_refl _) (by simp) ?_; (case hd => rfl); (case hg => rfl); (case hr => first | (go_simp; done) | (go_simp; rfl)); (case hp => exact (Reps.c3 (show Kd.M k96 _ _ _ (⟨768, (⟨#[195, 128, 195, 136, 195, 140, 195, 146, 195, 153, 195, 160, 195, 168, 195, 172, 195, 178, 195, 185]⟩ : ByteArray), (⟨#[65, 69, 73, 79, 85, 97, 101, 105, 111, 117]⟩ : ByteArray)⟩ : S96) [.int .i32 768, .string (⟨#[195, 128, 195, 136, 195, 140, 195, 146, 195, 153, 195, 160, 195, 168, 195, 172, 195, 178, 195, 185]⟩ : ByteArray), .string (⟨#[65, 69, 73, 79, 85, 97, 101, 105, 111, 117]⟩ : ByteArray)] from (k96_mkM _ _ _ (⟨768, (⟨#[195, 128, 195, 136, 195, 140, 195, 146, 195, 153, 195, 160, 195, 168, 195, 172, 195, 178, 195, 185]⟩ : ByteArray), (⟨#[65, 69, 73, 79, 85, 97, 101, 105, 111, 117]⟩ : ByteArray)⟩ : S96) )) (Reps.c3 (show Kd.M k96 _ _ _ (⟨769, (⟨#[195, 129, 195, 137, 195, 141, 195, 147, 195, 154, 195, 157, 195, 161, 195, 169, 195, 173, 195, 179, 195, 186, 195, 189, 196, 134, 196, 135, 196, 185, 196, 186, 197, 131, 197, 132, 197, 148, 197, 149, 197, 154, 197, 155, 197, 185, 197, 186, 206, 134, 206, 136, 206, 137, 206, 138, 206, 140, 206, 142, 206, 143, 206, 172, 206, 173, 206, 174, 206, 175, 207, 140, 207, 141, 207, 142, 206, 144, 206, 176]⟩ : ByteArray), (⟨#[65, 69, 73, 79, 85, 89, 97, 101, 105, 111, 117, 121, 67, 99, 76, 108, 78, 110, 82, 114, 83, 115, 90, 122, 206, 145, 206, 149, 206, 151, 206, 153, 206, 159, 206, 165, 206, 169, 206, 177, 206, 181, 206, 183, 206, 185, 206, 191, 207, 133, 207, 137, 207, 138, 207, 139]⟩ : ByteArray)⟩ : S96) [.int .i32 769, .string (⟨#[195, 129, 195, 137, 195, 141, 195, 147, 195, 154, 195, 157, 195, 161, 195, 169, 195, 173, 195, 179, 195, 186, 195, 189, 196, 134, 196, 135, 196, 185, 196, 186, 197, 131, 197, 132, 197, 148, 197, 149, 197, 154, 197, 155, 197, 185, 197, 186, 206, 134, 206, 136, 206, 137, 206, 138, 206, 140, 206, 142, 206, 143, 206, 172, 206, 173, 206, 174, 206, 175, 207, 140, 207, 141, 207, 142, 206, 144, 206, 176]⟩ : ByteArray), .string (⟨#[65, 69, 73, 79, 85, 89, 97, 101, 105, 111, 117, 121, 67, 99, 76, 108, 78, 110, 82, 114, 83, 115, 90, 122, 206, 145, 206, 149, 206, 151, 206, 153, 206, 159, 206, 165, 206, 169, 206, 177, 206, 181, 206, 183, 206, 185, 206, 191, 207, 133, 207, 137, 207, 138, 207, 139]⟩ : ByteArray)] from (k96_mkM _ _ _ (⟨769, (⟨#[195, 129, 195, 137, 195, 141, 195, 147, 195, 154, 195, 157, 195, 161, 195, 169, 195, 173, 195, 179, 195, 186, 195, 189, 196, 134, 196, 135, 196, 185, 196, 186, 197, 131, 197, 132, 197, 148, 197, 149, 197, 154, 197, 155, 197, 185, 197, 186, 206, 134, 206, 136, 206, 137, 206, 138, 206, 140, 206, 142, 206, 143, 206, 172, 206, 173, 206, 174, 206, 175, 207, 140, 207, 141, 207, 142, 206, 144, 206, 176]⟩ : ByteArray), (⟨#[65, 69, 73, 79, 85, 89, 97, 101, 105, 111, 117, 121, 67, 99, 76, 108, 78, 110, 82, 114, 83, 115, 90, 122, 206, 145, 206, 149, 206, 151, 206, 153, 206, 159, 206, 165, 206, 169, 206, 177, 206, 181, 206, 183, 206, 185, 206, 191, 207, 133, 207, 137, 207, 138, 207, 139]⟩ : ByteArray)⟩ : S96) )) (Reps.c3 (show Kd.M k96 _ _ _ (⟨770, (⟨#[195, 130, 195, 138, 195, 142, 195, 148, 195, 155, 195, 162, 195, 170, 195, 174, 195, 180, 195, 187, 196, 136, 196, 137, 196, 156, 196, 157, 196, 164, 196, 165, 196, 180, 196, 181, 197, 156, 197, 157, 197, 180, 197, 181, 197, 182, 197, 183]⟩ : ByteArray), (⟨#[65, 69, 73, 79, 85, 97, 101, 105, 111, 117, 67, 99, 71, 103, 72, 104, 74, 106, 83, 115, 87, 119, 89, 121]⟩ : ByteArray)⟩ : S96) [.int .i32 770, .string (⟨#[195, 130, 195, 138, 195, 142, 195, 148, 195, 155, 195, 162, 195, 170, 195, 174, 195, 180, 195, 187, 196, 136, 196, 137, 196, 156, 196, 157, 196, 164, 196, 165, 196, 180, 196, 181, 197, 156, 197, 157, 197, 180, 197, 181, 197, 182, 197, 183]⟩ : ByteArray), .string (⟨#[65, 69, 73, 79, 85, 97, 101, 105, 111, 117, 67, 99, 71, 103, 72, 104, 74, 106, 83, 115, 87, 119, 89, 121]⟩ : ByteArray)] from (k96_mkM _ _ _ (⟨770, (⟨#[195, 130, 195, 138, 195, 142, 195, 148, 195, 155, 195, 162, 195, 170, 195, 174, 195, 180, 195, 187, 196, 136, 196, 137, 196, 156, 196, 157, 196, 164, 196, 165, 196, 180, 196, 181, 197, 156, 197, 157, 197, 180, 197, 181, 197, 182, 197, 183]⟩ : ByteArray), (⟨#[65, 69, 73, 79, 85, 97, 101, 105, 111, 117, 67, 99, 71, 103, 72, 104, 74, 106, 83, 115, 87, 119, 89, 121]⟩ : ByteArray)⟩ : S96) )) (Reps.c3 (show Kd.M k96 _ _ _ (⟨771, (⟨#[195, 131, 195, 145, 195, 149, 195, 163, 195, 177, 195, 181, 196, 168, 196, 169, 197, 168, 197, 169]⟩ : ByteArray), (⟨#[65, 78, 79, 97, 110, 111, 73, 105, 85, 117]⟩ : ByteArray)⟩ : S96) [.int .i32 771, .string (⟨#[195, 131, 195, 145, 195, 149, 195, 163, 195, 177, 195, 181, 196, 168, 196, 169, 197, 168, 197, 169]⟩ : ByteArray), .string (⟨#[65, 78, 79, 97, 110, 111, 73, 105, 85, 117]⟩ : ByteArray)] from (k96_mkM _ _ _ (⟨771, (⟨#[195, 131, 195, 145, 195, 149, 195, 163, 195, 177, 195, 181, 196, 168, 196, 169, 197, 168, 197, 169]⟩ : ByteArray), (⟨#[65, 78, 79, 97, 110, 111, 73, 105, 85, 117]⟩ : ByteArray)⟩ : S96) )) (Reps.c3 (show Kd.M k96 _ _ _ (⟨772, (⟨#[196, 128, 196, 129, 196, 146, 196, 147, 196, 170, 196, 171, 197, 140, 197, 141, 197, 170, 197, 171]⟩ : ByteArray), (⟨#[65, 97, 69, 101, 73, 105, 79, 111, 85, 117]⟩ : ByteArray)⟩ : S96) [.int .i32 772, .string (⟨#[196, 128, 196, 129, 196, 146, 196, 147, 196, 170, 196, 171, 197, 140, 197, 141, 197, 170, 197, 171]⟩ : ByteArray), .string (⟨#[65, 97, 69, 101, 73, 105, 79, 111, 85, 117]⟩ : ByteArray)] from (k96_mkM _ _ _ (⟨772, (⟨#[196, 128, 196, 129, 196, 146, 196, 147, 196, 170, 196, 171, 197, 140, 197, 141, 197, 170, 197, 171]⟩ : ByteArray), (⟨#[65, 97, 69, 101, 73, 105, 79, 111, 85, 117]⟩ : ByteArray)⟩ : S96) )) (Reps.c3 (show Kd.M k96 _ _ _ (⟨774, (⟨#[196, 130, 196, 131, 196, 148, 196, 149, 196, 158, 196, 159, 196, 172, 196, 173, 197, 142, 197, 143, 197, 172, 197, 173, 208, 153, 208, 185]⟩ : ByteArray), (⟨#[65, 97, 69, 101, 71, 103, 73, 105, 79, 111, 85, 117, 208, 152, 208, 184]⟩ : ByteArray)⟩ : S96) [.int .i32 774, .string (⟨#[196, 130, 196, 131, 196, 148, 196, 149, 196, 158, 196, 159, 196, 172, 196, 173, 197, 142, 197, 143, 197, 172, 197, 173, 208, 153, 208, 185]⟩ : ByteArray), .string (⟨#[65, 97, 69, 101, 71, 103, 73, 105, 79, 111, 85, 117, 208, 152, 208, 184]⟩ : ByteArray)] from (k96_mkM _ _ _ (⟨774, (⟨#[196, 130, 196, 131, 196, 148, 196, 149, 196, 158, 196, 159, 196, 172, 196, 173, 197, 142, 197, 143, 197, 172, 197, 173, 208, 153, 208, 185]⟩ : ByteArray), (⟨#[65, 97, 69, 101, 71, 103, 73, 105, 79, 111, 85, 117, 208, 152, 208, 184]⟩ : ByteArray)⟩ : S96) )) (Reps.c3 (show Kd.M k96 _ _ _ (⟨775, (⟨#[196, 138, 196, 139, 196, 150, 196, 151, 196, 160, 196, 161, 196, 176, 197, 187, 197, 188]⟩ : ByteArray), (⟨#[67, 99, 69, 101, 71, 103, 73, 90, 122]⟩ : ByteArray)⟩ : S96) [.int .i32 775, .string (⟨#[196, 138, 196, 139, 196, 150, 196, 151, 196, 160, 196, 161, 196, 176, 197, 187, 197, 188]⟩ : ByteArray), .string (⟨#[67, 99, 69, 101, 71, 103, 73, 90, 122]⟩ : ByteArray)] from (k96_mkM _ _ _ (⟨775, (⟨#[196, 138, 196, 139, 196, 150, 196, 151, 196, 160, 196, 161, 196, 176, 197, 187, 197, 188]⟩ : ByteArray), (⟨#[67, 99, 69, 101, 71, 103, 73, 90, 122]⟩ : ByteArray)⟩ : S96) )) (Reps.c3 (show Kd.M k96 _ _ _ (⟨776, (⟨#[195, 132, 195, 139, 195, 143, 195, 150, 195, 156, 195, 164, 195, 171, 195, 175, 195, 182, 195, 188, 195, 191, 197, 184, 206, 170, 206, 171, 207, 138, 207, 139, 208, 129, 209, 145]⟩ : ByteArray), (⟨#[65, 69, 73, 79, 85, 97, 101, 105, 111, 117, 121, 89, 206, 153, 206, 165, 206, 185, 207, 133, 208, 149, 208, 181]⟩ : ByteArray)⟩ : S96) [.int .i32 776, .string (⟨#[195, 132, 195, 139, 195, 143, 195, 150, 195, 156, 195, 164, 195, 171, 195, 175, 195, 182, 195, 188, 195, 191, 197, 184, 206, 170, 206, 171, 207, 138, 207, 139, 208, 129, 209, 145]⟩ : ByteArray), .string (⟨#[65, 69, 73, 79, 85, 97, 101, 105, 111, 117, 121, 89, 206, 153, 206, 165, 206, 185, 207, 133, 208, 149, 208, 181]⟩ : ByteArray)] from (k96_mkM _ _ _ (⟨776, (⟨#[195, 132, 195, 139, 195, 143, 195, 150, 195, 156, 195, 164, 195, 171, 195, 175, 195, 182, 195, 188, 195, 191, 197, 184, 206, 170, 206, 171, 207, 138, 207, 139, 208, 129, 209, 145]⟩ : ByteArray), (⟨#[65, 69, 73, 79, 85, 97, 101, 105, 111, 117, 121, 89, 206, 153, 206, 165, 206, 185, 207, 133, 208, 149, 208, 181]⟩ : ByteArray)⟩ : S96) )) (Reps.c3 (show Kd.M k96 _ _ _ (⟨778, (⟨#[195, 133, 195, 165, 197, 174, 197, 175]⟩ : ByteArray), (⟨#[65, 97, 85, 117]⟩ : ByteArray)⟩ : S96) [.int .i32 778, .string (⟨#[195, 133, 195, 165, 197, 174, 197, 175]⟩ : ByteArray), .string (⟨#[65, 97, 85, 117]⟩ : ByteArray)] from (k96_mkM _ _ _ (⟨778, (⟨#[195, 133, 195, 165, 197, 174, 197, 175]⟩ : ByteArray), (⟨#[65, 97, 85, 117]⟩ : ByteArray)⟩ : S96) )) (Reps.c3 (show Kd.M k96 _ _ _ (⟨779, (⟨#[197, 144, 197, 145, 197, 176, 197, 177]⟩ : ByteArray), (⟨#[79, 111, 85, 117]⟩ : ByteArray)⟩ : S96) [.int .i32 779, .string (⟨#[197, 144, 197, 145, 197, 176, 197, 177]⟩ : ByteArray), .string (⟨#[79, 111, 85, 117]⟩ : ByteArray)] from (k96_mkM _ _ _ (⟨779, (⟨#[197, 144, 197, 145, 197, 176, 197, 177]⟩ : ByteArray), (⟨#[79, 111, 85, 117]⟩ : ByteArray)⟩ : S96) )) (Reps.c3 (show Kd.M k96 _ _ _ (⟨780, (⟨#[196, 140, 196, 141, 196, 142, 196, 143, 196, 154, 196, 155, 196, 189, 196, 190, 197, 135, 197, 136, 197, 152, 197, 153, 197, 160, 197, 161, 197, 164, 197, 165, 197, 189, 197, 190]⟩ : ByteArray), (⟨#[67, 99, 68, 100, 69, 101, 76, 108, 78, 110, 82, 114, 83, 115, 84, 116, 90, 122]⟩ : ByteArray)⟩ : S96) [.int .i32 780, .string (⟨#[196, 140, 196, 141, 196, 142, 196, 143, 196, 154, 196, 155, 196, 189, 196, 190, 197, 135, 197, 136, 197, 152, 197, 153, 197, 160, 197, 161, 197, 164, 197, 165, 197, 189, 197, 190]⟩ : ByteArray), .string (⟨#[67, 99, 68, 100, 69, 101, 76, 108, 78, 110, 82, 114, 83, 115, 84, 116, 90, 122]⟩ : ByteArray)] from (k96_mkM _ _ _ (⟨780, (⟨#[196, 140, 196, 141, 196, 142, 196, 143, 196, 154, 196, 155, 196, 189, 196, 190, 197, 135, 197, 136, 197, 152, 197, 153, 197, 160, 197, 161, 197, 164, 197, 165, 197, 189, 197, 190]⟩ : ByteArray), (⟨#[67, 99, 68, 100, 69, 101, 76, 108, 78, 110, 82, 114, 83, 115, 84, 116, 90, 122]⟩ : ByteArray)⟩ : S96) )) (Reps.c3 (show Kd.M k96 _ _ _ (⟨807, (⟨#[195, 135, 195, 167, 196, 162, 196, 163, 196, 182, 196, 183, 196, 187, 196, 188, 197, 133, 197, 134, 197, 150, 197, 151, 197, 158, 197, 159, 197, 162, 197, 163]⟩ : ByteArray), (⟨#[67, 99, 71, 103, 75, 107, 76, 108, 78, 110, 82, 114, 83, 115, 84, 116]⟩ : ByteArray)⟩ : S96) [.int .i32 807, .string (⟨#[195, 135, 195, 167, 196, 162, 196, 163, 196, 182, 196, 183, 196, 187, 196, 188, 197, 133, 197, 134, 197, 150, 197, 151, 197, 158, 197, 159, 197, 162, 197, 163]⟩ : ByteArray), .string (⟨#[67, 99, 71, 103, 75, 107, 76, 108, 78, 110, 82, 114, 83, 115, 84, 116]⟩ : ByteArray)] from (k96_mkM _ _ _ (⟨807, (⟨#[195, 135, 195, 167, 196, 162, 196, 163, 196, 182, 196, 183, 196, 187, 196, 188, 197, 133, 197, 134, 197, 150, 197, 151, 197, 158, 197, 159, 197, 162, 197, 163]⟩ : ByteArray), (⟨#[67, 99, 71, 103, 75, 107, 76, 108, 78, 110, 82, 114, 83, 115, 84, 116]⟩ : ByteArray)⟩ : S96) )) (Reps.c3 (show Kd.M k96 _ _ _ (⟨808, (⟨#[196, 132, 196, 133, 196, 152, 196, 153, 196, 174, 196, 175, 197, 178, 197, 179]⟩ : ByteArray), (⟨#[65, 97, 69, 101, 73, 105, 85, 117]⟩ : ByteArray)⟩ : S96) [.int .i32 808, .string (⟨#[196, 132, 196, 133, 196, 152, 196, 153, 196, 174, 196, 175, 197, 178, 197, 179]⟩ : ByteArray), .string (⟨#[65, 97, 69, 101, 73, 105, 85, 117]⟩ : ByteArray)] from (k96_mkM _ _ _ (⟨808, (⟨#[196, 132, 196, 133, 196, 152, 196, 153, 196, 174, 196, 175, 197, 178, 197, 179]⟩ : ByteArray), (⟨#[65, 97, 69, 101, 73, 105, 85, 117]⟩ : ByteArray)⟩ : S96) )) (Reps.c3 (show Kd.M k96 _ _ _ (⟨12441, (⟨#[227, 129, 140, 227, 129, 142, 227, 129, 144, 227, 129, 146, 227, 129, 148, 227, 129, 150, 227, 129, 152, 227, 129, 154, 227, 129, 156, 227, 129, 158, 227, 129, 160, 227, 129, 162, 227, 129, 165, 227, 129, 167, 227, 129, 169, 227, 129, 176, 227, 129, 179, 227, 129, 182, 227, 129, 185, 227, 129, 188, 227, 130, 148]⟩ : ByteArray), (⟨#[227, 129, 139, 227, 129, 141, 227, 129, 143, 227, 129, 145, 227, 129, 147, 227, 129, 149, 227, 129, 151, 227, 129, 153, 227, 129, 155, 227, 129, 157, 227, 129, 159, 227, 129, 161, 227, 129, 164, 227, 129, 166, 227, 129, 168, 227, 129, 175, 227, 129, 178, 227, 129, 181, 227, 129, 184, 227, 129, 187, 227, 129, 134]⟩ : ByteArray)⟩ : S96) [.int .i32 12441, .string (⟨#[227, 129, 140, 227, 129, 142, 227, 129, 144, 227, 129, 146, 227, 129, 148, 227, 129, 150, 227, 129, 152, 227, 129, 154, 227, 129, 156, 227, 129, 158, 227, 129, 160, 227, 129, 162, 227, 129, 165, 227, 129, 167, 227, 129, 169, 227, 129, 176, 227, 129, 179, 227, 129, 182, 227, 129, 185, 227, 129, 188, 227, 130, 148]⟩ : ByteArray), .string (⟨#[227, 129, 139, 227, 129, 141, 227, 129, 143, 227, 129, 145, 227, 129, 147, 227, 129, 149, 227, 129, 151, 227, 129, 153, 227, 129, 155, 227, 129, 157, 227, 129, 159, 227, 129, 161, 227, 129, 164, 227, 129, 166, 227, 129, 168, 227, 129, 175, 227, 129, 178, 227, 129, 181, 227, 129, 184, 227, 129, 187, 227, 129, 134]⟩ : ByteArray)] from (k96_mkM _ _ _ (⟨12441, (⟨#[227, 129, 140, 227, 129, 142, 227, 129, 144, 227, 129, 146, 227, 129, 148, 227, 129, 150, 227, 129, 152, 227, 129, 154, 227, 129, 156, 227, 129, 158, 227, 129, 160, 227, 129, 162, 227, 129, 165, 227, 129, 167, 227, 129, 169, 227, 129, 176, 227, 129, 179, 227, 129, 182, 227, 129, 185, 227, 129, 188, 227, 130, 148]⟩ : ByteArray), (⟨#[227, 129, 139, 227, 129, 141, 227, 129, 143, 227, 129, 145, 227, 129, 147, 227, 129, 149, 227, 129, 151, 227, 129, 153, 227, 129, 155, 227, 129, 157, 227, 129, 159, 227, 129, 161, 227, 129, 164, 227, 129, 166, 227, 129, 168, 227, 129, 175, 227, 129, 178, 227, 129, 181, 227, 129, 184, 227, 129, 187, 227, 129, 134]⟩ : ByteArray)⟩ : S96) )) (Reps.c3 (show Kd.M k96 _ _ _ (⟨12442, (⟨#[227, 129, 177, 227, 129, 180, 227, 129, 183, 227, 129, 186, 227, 129, 189]⟩ : ByteArray), (⟨#[227, 129, 175, 227, 129, 178, 227, 129, 181, 227, 129, 184, 227, 129, 187]⟩ : ByteArray)⟩ : S96) [.int .i32 12442, .string (⟨#[227, 129, 177, 227, 129, 180, 227, 129, 183, 227, 129, 186, 227, 129, 189]⟩ : ByteArray), .string (⟨#[227, 129, 175, 227, 129, 178, 227, 129, 181, 227, 129, 184, 227, 129, 187]⟩ : ByteArray)] from (k96_mkM _ _ _ (⟨12442, (⟨#[227, 129, 177, 227, 129, 180, 227, 129, 183, 227, 129, 186, 227, 129, 189]⟩ : ByteArray), (⟨#[227, 129, 175, 227, 129, 178, 227, 129, 181, 227, 129, 184, 227, 129, 187]⟩ : ByteArray)⟩ : S96) )) (Reps.none _ _))))))))))))))))); intro v103 w1 ho2 hb hg_ hnew_; clear hg_ hnew_; (first | rw [← Ny102.out] at ho2 | (simp only [Int.reduceToNat] at ho2; rw [← Ny102.out] at ho2)); have n_ := zI (aM (Kd.R_lower ho2 (below_size zB))) (aM (below_step zB hb)); clear HB; obtain ⟨HO104, HB⟩ := n_; clear hb ho2))
 go_ret
 exact ⟨_, zE, zR HO104, zB⟩

/-! ### letters_find: function 80, by hand (letters.find.tpl) -/
def letters_find.l0 : Nat → ByteArray → Int → Int → Nat → Option Int
  | 0, _, _, _, _ => none
  | k + 1, x0, x1, x5, pos => if pos < x0.size then (if ((Utf8.decode x0 pos).1 : Int) = x1 then some x5 else letters_find.l0 k x0 x1 (wrap64 (x5 + 1)) (pos + (Utf8.decode x0 pos).2)) else some (-1)
def letters_find.f (k : Nat) (a0 : ByteArray) (a1 : Int) : Option Int := letters_find.l0 k a0 a1 0 0
theorem letters_find.mono_l : ∀ k, (∀ y0 y1 y2 y3, LeO (letters_find.l0 k y0 y1 y2 y3) (letters_find.l0 (k + 1) y0 y1 y2 y3))
  | 0 => fun _ _ _ _ r h => by simp [letters_find.l0] at h
  | k + 1 => by
    have ih0 := letters_find.mono_l k
    intro y0 y1 y2 y3
    unfold letters_find.l0
    repeat' first
      | exact ih0 _ _ _ _
      | exact LeO.refl _
      | refine LeO.ite ?_ ?_
theorem letters_find.mono : ∀ a0 a1 k, LeO (letters_find.f k a0 a1) (letters_find.f (k + 1) a0 a1) := fun a0 a1 k => letters_find.mono_l k _ _ _ _
set_option maxHeartbeats 8000000 in
set_option maxRecDepth 100000 in
theorem letters_find.calls (k : Nat) (a0 : ByteArray) (a1 : Int) (r : Int) (w : World) (h : letters_find.f k a0 a1 = some r) :
    Calls Try.prog 80 #[.string a0, .int .i32 a1] w fun e w' => e = .returned (.int .i64 r) ∧ Below w.heap.size w w' := by
  have H' := Aside0.mk h
  clear h
  go_enter Try.func80, Try.ntmps80
  go_wp2
  go_loopg [5] k (fun kq v5 w' => ∃ (x5 : Int) (pos : Nat), v5 = .int .i64 x5 ∧ Aside0 (letters_find.l0 kq a0 a1 x5 pos = some r) ∧ Aside0 (kq ≤ k) ∧ w' = w.iter a0 pos)
  case atStart => exact ⟨_, 0, rfl, H', ⟨Nat.le_refl _⟩, rfl⟩
  case round =>
    clear H'
    obtain ⟨x5, pos, rfl, HA, HK, rfl⟩ := hrel
    cases gk with
    | zero => exact absurd HA.out (by simp [letters_find.l0])
    | succ k1 =>
      have H := HA.out
      clear HA
      simp only [letters_find.l0] at H
      by_cases d1 : pos < a0.size
      · rw [if_pos d1] at H
        have hnx : ∀ ty, (Instr.next (.pointer (some ⟨w.heap.size, 0, none⟩)) true ty).run Try.prog (w.iter a0 pos) = _ := fun ty => run_next_any w a0 pos ty d1
        by_cases d2 : ((Utf8.decode a0 pos).1 : Int) = a1
        · rw [if_pos d2] at H
          obtain rfl := Option.some.inj H
          clear H
          have b1 : (((Utf8.decode a0 pos).1 : Int) == a1) = true := beq_iff_eq.mpr d2
          clear d1 d2
          go_wp2
          go_ret
          exact ⟨rfl, below_alloc (Below.refl _ _) _⟩
        · rw [if_neg d2] at H
          have H' := Aside0.mk H
          clear H
          have b1 : (((Utf8.decode a0 pos).1 : Int) == a1) = false := beq_eq_false_iff_ne.mpr d2
          clear d1 d2
          go_wp2
          go_roundg k1
          case measure => have := HK.out; omega
          case rel => exact ⟨_, _, rfl, H', ⟨by have := HK.out; omega⟩, rfl⟩
      · rw [if_neg d1] at H
        obtain rfl := Option.some.inj H
        clear H
        have hnx : ∀ ty, (Instr.next (.pointer (some ⟨w.heap.size, 0, none⟩)) true ty).run Try.prog (w.iter a0 pos) = _ := fun ty => run_next_end w a0 pos ty d1
        clear d1
        go_wp2
        go_ret
        exact ⟨rfl, below_alloc (Below.refl _ _) _⟩

/-! ### letters_nth: function 81, by hand (letters.nth.tpl) -/
def letters_nth.l0 : Nat → ByteArray → Int → Nat → Option Int
  | 0, _, _, _ => none
  | k + 1, x0, x1, pos => if pos < x0.size then (if x1 = 0 then some ((Utf8.decode x0 pos).1 : Int) else letters_nth.l0 k x0 (wrap64 (x1 - 1)) (pos + (Utf8.decode x0 pos).2)) else some 0
def letters_nth.f (k : Nat) (a0 : ByteArray) (a1 : Int) : Option Int := letters_nth.l0 k a0 a1 0
theorem letters_nth.mono_l : ∀ k, (∀ y0 y1 y2, LeO (letters_nth.l0 k y0 y1 y2) (letters_nth.l0 (k + 1) y0 y1 y2))
  | 0 => fun _ _ _ r h => by simp [letters_nth.l0] at h
  | k + 1 => by
    have ih0 := letters_nth.mono_l k
    intro y0 y1 y2
    unfold letters_nth.l0
    repeat' first
      | exact ih0 _ _ _
      | exact LeO.refl _
      | refine LeO.ite ?_ ?_
theorem letters_nth.mono : ∀ a0 a1 k, LeO (letters_nth.f k a0 a1) (letters_nth.f (k + 1) a0 a1) := fun a0 a1 k => letters_nth.mono_l k _ _ _
set_option maxHeartbeats 8000000 in
set_option maxRecDepth 100000 in
theorem letters_nth.calls (k : Nat) (a0 : ByteArray) (a1 : Int) (r : Int) (w : World) (h : letters_nth.f k a0 a1 = some r) :
    Calls Try.prog 81 #[.string a0, .int .i64 a1] w fun e w' => e = .returned (.int .i32 r) ∧ Below w.heap.size w w' := by
  have H' := Aside0.mk h
  clear h
  go_enter Try.func81, Try.ntmps81
  go_wp2
  go_loopg [1] k (fun kq v5 w' => ∃ (x5 : Int) (pos : Nat), v5 = .int .i64 x5 ∧ Aside0 (letters_nth.l0 kq a0 x5 pos = some r) ∧ Aside0 (kq ≤ k) ∧ w' = w.iter a0 pos)
  case atStart => exact ⟨_, 0, rfl, H', ⟨Nat.le_refl _⟩, rfl⟩
  case round =>
    clear H'
    obtain ⟨x5, pos, rfl, HA, HK, rfl⟩ := hrel
    cases gk with
    | zero => exact absurd HA.out (by simp [letters_nth.l0])
    | succ k1 =>
      have H := HA.out
      clear HA
      simp only [letters_nth.l0] at H
      by_cases d1 : pos < a0.size
      · rw [if_pos d1] at H
        have hnx : ∀ ty, (Instr.next (.pointer (some ⟨w.heap.size, 0, none⟩)) true ty).run Try.prog (w.iter a0 pos) = _ := fun ty => run_next_any w a0 pos ty d1
        by_cases d2 : x5 = 0
        · rw [if_pos d2] at H
          obtain rfl := Option.some.inj H
          clear H
          have b1 : (x5 == 0) = true := beq_iff_eq.mpr d2
          clear d1 d2
          go_wp2
          go_ret
          exact ⟨rfl, below_alloc (Below.refl _ _) _⟩
        · rw [if_neg d2] at H
          have H' := Aside0.mk H
          clear H
          have b1 : (x5 == 0) = false := beq_eq_false_iff_ne.mpr d2
          clear d1 d2
          go_wp2
          go_roundg k1
          case measure => have := HK.out; omega
          case rel => exact ⟨_, _, rfl, H', ⟨by have := HK.out; omega⟩, rfl⟩
      · rw [if_neg d1] at H
        obtain rfl := Option.some.inj H
        clear H
        have hnx : ∀ ty, (Instr.next (.pointer (some ⟨w.heap.size, 0, none⟩)) true ty).run Try.prog (w.iter a0 pos) = _ := fun ty => run_next_end w a0 pos ty d1
        clear d1
        go_wp2
        go_ret
        exact ⟨rfl, below_alloc (Below.refl _ _) _⟩

/-! ### letters_Parts: function 67 -/
def letters_Parts.l0 : Nat → Int → List (S96) → Int → Int → Option (Int × Int)
 | 0, _, _, _, _ => none
 | k + 1, x0, x7, x8, x9 => if x9 < x8 then (if 0 ≤ x9 then (if x9 < (x7.length : Int) then ((letters_find.f k ((rd_T96 x7 x9).f1) x0).bind fun t110 => (if t110 ≥ 0 then ((letters_nth.f k ((rd_T96 x7 x9).f2) t110).bind fun t111 => (some (t111, (rd_T96 x7 x9).f0))) else (letters_Parts.l0 k x0 x7 x8 (wrap64 (x9 + 1))))) else (none)) else (none)) else (some (0, 0))
def letters_Parts.f (k : Nat) (a0 : Int) : Option (Int × Int) := (letters_Rows.f).bind fun t105 => (letters_Parts.l0 k a0 t105 (t105.length : Int) 0)
theorem letters_Parts.mono_l : ∀ k, (∀ y0 y1 y2 y3, LeO (letters_Parts.l0 k y0 y1 y2 y3) (letters_Parts.l0 (k + 1) y0 y1 y2 y3))
 | 0 => fun _ _ _ _ r h => by simp [letters_Parts.l0] at h
 | k + 1 => by
  have ih0 := letters_Parts.mono_l k
  ·intro y0 y1 y2 y3
   unfold letters_Parts.l0
   repeat' first
   | (with_reducible exact ih0 _ _ _ _)
   | (with_reducible exact letters_find.mono _ _ _)
   | (with_reducible exact letters_nth.mono _ _ _)
   | (with_reducible exact LeO.refl _)
   | exact ih0 _ _ _ _
   | exact letters_find.mono _ _ _
   | exact letters_nth.mono _ _ _
   | exact LeO.none _
   | refine LeO.ite ?_ ?_
   | refine LeO.bind ?_ (fun _ => ?_)
theorem letters_Parts.mono : ∀ a0 k, LeO (letters_Parts.f k a0) (letters_Parts.f (k + 1) a0) := by
 intro a0 k
 have ih0 := letters_Parts.mono_l k
 unfold letters_Parts.f
 repeat' first
   | (with_reducible exact ih0 _ _ _ _)
   | (with_reducible exact letters_find.mono _ _ _)
   | (with_reducible exact letters_nth.mono _ _ _)
   | (with_reducible exact LeO.refl _)
   | exact ih0 _ _ _ _
   | exact letters_find.mono _ _ _
   | exact letters_nth.mono _ _ _
   | exact LeO.none _
   | refine LeO.ite ?_ ?_
   | refine LeO.bind ?_ (fun _ => ?_)
def letters_Parts.T6 : Bool × List (List Nat × List Nat) := (true, [([], []), ([0], [0]), ([], []), ([1, 2], [1, 2]), ([], []), ([4], [4]), ([3, 3, 0, 1, 2, 3], [3]), ([5, 6, 0, 1, 2, 3, 4, 5, 6], [5])])
def letters_Parts.B6 : List Nat := [0, 1, 0, 7, 0, 16, 15, 127]
theorem letters_Parts.tab6 : rtab .any (opsOf Try.f67 6) = letters_Parts.T6 := zK
theorem letters_Parts.bits6 : waitsOk letters_Parts.T6.2 letters_Parts.B6 = true := zK
set_option maxHeartbeats 8000000 in
set_option maxRecDepth 100000 in
theorem letters_Parts.calls (k : Nat) (a0 : Int) (r1 : Int) (r2 : Int) (w : World) (h : letters_Parts.f k a0 = some (r1, r2)) :
  Calls Try.prog 67 #[.int .i32 a0] w fun e w' => e = .returned (.tuple #[.int .i32 r1, .int .i32 r2]) ∧ Below w.heap.size w w' := by
 have hu96 := Try.underlying96
 have HB := aM (Below.refl w.heap.size w)
 have H : ((letters_Rows.f).bind fun t105 => (letters_Parts.l0 k a0 t105 (t105.length : Int) 0)) = some (r1, r2) := h
 clear h
 obtain ⟨t105, A2, H⟩ := zO H
 have H' := aM H
 clear H
 go_enter Try.func67, Try.ntmps67
 go_wp2_with (first | ((with_reducible refine gate_callee (f := 79) rfl ?_); refine goesL_ (some 7) rfl rfl Try.func79 zK rfl #[] rfl zM ?_; (with_reducible refine (letters_Rows.calls  t105 _ A2.out).mono ?_); rintro e w3 ⟨v106, rfl, ho0, hb⟩; refine ⟨_, rfl, ?_⟩; have n_ := zI (aM (Kd.R_lower ho0 (below_size zB))) (aM (below_step zB hb)); clear HB; obtain ⟨HO107, HB⟩ := n_; (try clear hb); (try clear ho0); obtain ⟨Ao4, co4, rfl⟩ := Kd.R_slice HO107.out))
 go_loopg [9] k (fun kq v9 w' => ∃ (x9_1 : Int), v9 = .int .i64 x9_1 ∧ Aside0 (letters_Parts.l0 kq a0 t105 (t105.length : Int) x9_1 = some (r1, r2)) ∧ Aside0 (kq ≤ k) ∧ Aside0 (Kd.R k96 96 w' w.heap.size (fun _ => True) (.slice Ao4 t105.length co4) t105) ∧ Aside0 (Below w.heap.size w w'))
 case atStart => exact ⟨(0), zP, H', ⟨Nat.le_refl _⟩, ⟨zR HO107⟩, ⟨zB⟩⟩
 case round =>
  clear H'
  try clear p2
  obtain ⟨x9_1, rfl, HA, HK1, HO_7, HB⟩ := hrel
  cases gk with
  | zero => exact absurd HA.out (by simp [letters_Parts.l0])
  | succ k1 =>
   have H := HA.out
   clear HA
   simp only [letters_Parts.l0] at H
   by_cases c5 : x9_1 < (t105.length : Int)
   ·rw [if_pos c5] at H
    have c5b0 : decide (x9_1 < (t105.length : Int)) = true := decide_eq_true c5
    clear c5
    by_cases c6 : 0 ≤ x9_1
    ·rw [if_pos c6] at H
     have c6b0 : decide (0 ≤ x9_1) = true := decide_eq_true c6
     clear c6
     by_cases c7 : x9_1 < (t105.length : Int)
     ·rw [if_pos c7] at H
      have c7b0 : decide (x9_1 < (t105.length : Int)) = true := decide_eq_true c7
      clear c7
      obtain ⟨t110, A8, H⟩ := zO H
      by_cases c9 : t110 ≥ 0
      ·rw [if_pos c9] at H
       have c9b0 : decide (0 ≤ t110) = true := decide_eq_true c9
       clear c9
       obtain ⟨t111, A10, H⟩ := zO H
       simp only [Option.some.injEq, Prod.mk.injEq] at H
       obtain ⟨rfl, rfl⟩ := H
       have p108 : 0 ≤ (x9_1 : Int) := zoA
       have q108 : x9_1 < (t105.length : Int) := zoA
       obtain ⟨ad108, e108, hx108_0, hx108_1, hx108_2⟩ := at_T96 (Kd.R_reads' HO_7.out).2.2 x9_1 p108 q108
       cases e108
       replace p108 := eq_true p108
       replace q108 := eq_true q108
       try go_wp2_with (first | ((with_reducible refine gate_dst (N := 5) rfl ?_); refine box_event ?hg (N := 5) ?hd (cs := #[.int .i32 0, .string (⟨#[]⟩ : ByteArray), .string (⟨#[]⟩ : ByteArray)]) (t := 96) ?hr ?_; (case hd => rfl); (case hg => rfl); (case hr => first | (go_simp; done) | (go_simp; rfl)); intro gb109 hg w11 hbox hb; have n_ := zI (aM (Kd.R_below (Kd.R_elderB (zR HO_7) gb109 (Nat.le_of_eq hg.symm)) hb)) (zI (aM (below_step zB hb)) (zI (aM (hbox)) (zI (aM ((by rw [hg]; exact (below_size zB) : w.heap.size ≤ gb109))) (aM ((by rw [hg]; exact (below_size zB) : w.heap.size ≤ gb109)))))); clear HO_7 HB; obtain ⟨HO_7, HB, BK109, GW109, GE109⟩ := n_; clear hb hbox hg; have hcz12_0 : w11.cell? ⟨gb109, 0, none⟩ = some (.int .i32 0) := (blk_cell BK109.out 0).trans rfl; have hcz12_1 : w11.cell? ⟨gb109, 1, none⟩ = some (.string (⟨#[]⟩ : ByteArray)) := (blk_cell BK109.out 1).trans rfl; have hcz12_2 : w11.cell? ⟨gb109, 2, none⟩ = some (.string (⟨#[]⟩ : ByteArray)) := (blk_cell BK109.out 2).trans rfl; have hfz12_0 := blk_frozen BK109.out 0; have hfz12_1 := blk_frozen BK109.out 1; have hfz12_2 := blk_frozen BK109.out 2) | ((with_reducible refine gate_callee (f := 80) rfl ?_); refine goesL_ (some 16) rfl rfl Try.func80 zK rfl #[.string ((rd_T96 t105 x9_1).f1), .int .i32 a0] rfl zM ?_; (with_reducible refine (letters_find.calls k1 ((rd_T96 t105 x9_1).f1) a0 t110 _ A8.out).mono ?_); rintro e w13 ⟨rfl, hb⟩; refine ⟨_, rfl, ?_⟩; have n_ := zI (aM (Kd.R_below (by (with_reducible repeat (first | apply Kd.R_alloc | apply Kd.R_drewN | apply Kd.R_drew)); exact (Kd.R_mono (Kd.R_far (p := ⟨gb109, 2, none⟩) (Kd.R_far (p := ⟨gb109, 1, none⟩) (Kd.R_far (p := ⟨gb109, 0, none⟩) (Kd.R_mono HO_7.out (fun k_ hk => (⟨hk, hk.2⟩ : _ ∧ k_ ≠ gb109))) (fun _ hk => hk.2) (.int .i32 ((rd_T96 t105 x9_1).f0))) (fun _ hk => hk.2) (.string ((rd_T96 t105 x9_1).f1))) (fun _ hk => hk.2) (.string ((rd_T96 t105 x9_1).f2))) (fun _ h_ => h_.1))) hb)) (zI (aM (blk_below (g := gb109) (o := .cells #[.int .i32 ((rd_T96 t105 x9_1).f0), .string ((rd_T96 t105 x9_1).f1), .string ((rd_T96 t105 x9_1).f2)] 96 (0, 0)) (by (with_reducible repeat (first | refine blk_drewN ?_ _ | refine blk_drew ?_ | refine blk_alloc ?_ _)); refine blk_put (cs := #[.int .i32 ((rd_T96 t105 x9_1).f0), .string ((rd_T96 t105 x9_1).f1), .string (⟨#[]⟩ : ByteArray)]) ?_ 2 _ rfl; (with_reducible repeat (first | refine blk_drewN ?_ _ | refine blk_drew ?_ | refine blk_alloc ?_ _)); refine blk_put (cs := #[.int .i32 ((rd_T96 t105 x9_1).f0), .string (⟨#[]⟩ : ByteArray), .string (⟨#[]⟩ : ByteArray)]) ?_ 1 _ rfl; (with_reducible repeat (first | refine blk_drewN ?_ _ | refine blk_drew ?_ | refine blk_alloc ?_ _)); refine blk_put (cs := #[.int .i32 0, .string (⟨#[]⟩ : ByteArray), .string (⟨#[]⟩ : ByteArray)]) ?_ 0 _ rfl; (with_reducible repeat (first | refine blk_drewN ?_ _ | refine blk_drew ?_ | refine blk_alloc ?_ _)); exact BK109.out) hb)) (aM (below_step (by repeat (first | (with_reducible first | exact HB.out | apply bA | apply bN | apply bD | refine below_set ?_ GE109.out) | exact HB.out)) hb))); clear HO_7 BK109 HB; obtain ⟨HO_7, BK109, HB⟩ := n_; (try clear hb); (try clear hk)))
       have n0_ := aM (Kd.R_drew HO_7.out)
       have n1_ := aM (blk_drew BK109.out)
       have n2_ := aM (bD HB.out)
       clear HO_7
       clear BK109
       clear HB
       have HO_7 := n0_
       have BK109 := n1_
       have HB := n2_
       clear n0_ n1_ n2_
       refine start_ (n := 8) (S := fun w' => w'.cell? ⟨gb109, 0, none⟩ = some (.int .i32 ((rd_T96 t105 x9_1).f0)) ∧ w'.cell? ⟨gb109, 1, none⟩ = some (.string ((rd_T96 t105 x9_1).f1)) ∧ w'.cell? ⟨gb109, 2, none⟩ = some (.string ((rd_T96 t105 x9_1).f2))) (ds := []) #[false, false, false, false, false, false, false, false] zK rfl rfl ⟨(blk_cell BK109.out 0).trans rfl, (blk_cell BK109.out 1).trans rfl, (blk_cell BK109.out 2).trans rfl⟩ (fun hHeld => ?_); refine with_tabW letters_Parts.tab6 letters_Parts.bits6 (fun HT_ HW_ => ?_)
       generalize w13.drew = w14 at HO_7 BK109 HB hHeld ⊢
       refine pure_ (i := 0) (N := some 19) (v := ?_) (a' := ?_) #[true, false, false, false, false, false, false, false] rfl rfl (any_of HT_.out zK) (fun _ _ _ h => h) (Or.inl ⟨by rfl, ?_⟩) ?_ ?_
       rotate_left
       ·intro w'
        go_simp
        with_reducible rfl
       rotate_left
       ·simp only [Act.put, List.setIfInBounds_toArray, List.set_cons_zero, List.set_cons_succ, i64_w, i32_w]
        rfl
       refine pure_ (i := 2) (N := some 21) (v := ?_) (a' := ?_) #[true, false, true, false, false, false, false, false] rfl rfl (any_of HT_.out zK) (fun _ _ _ h => h) (Or.inl ⟨by rfl, ?_⟩) ?_ ?_
       rotate_left
       ·intro w'
        go_simp
        with_reducible rfl
       rotate_left
       ·simp only [Act.put, List.setIfInBounds_toArray, List.set_cons_zero, List.set_cons_succ, i64_w, i32_w]
        rfl
       refine pure_ (i := 4) (N := some 23) (v := ?_) (a' := ?_) #[true, false, true, false, true, false, false, false] rfl rfl (any_of HT_.out zK) (fun _ _ _ h => h) (Or.inl ⟨by rfl, ?_⟩) ?_ ?_
       rotate_left
       ·intro w'
        go_simp
        with_reducible rfl
       rotate_left
       ·simp only [Act.put, List.setIfInBounds_toArray, List.set_cons_zero, List.set_cons_succ, i64_w, i32_w]
        rfl
       refine take_ (i := 1) (N := some 20) (v := ?_) (a' := ?_) #[true, true, true, false, true, false, false, false] rfl rfl (take_ofW HT_.out HW_.out zK) (fun _ _ _ h => h) (Or.inl ⟨by rfl, ?_⟩) hHeld ?_ ?_
       rotate_left
       ·rintro w' ⟨s0, s1, s2⟩
        go_simp
        with_reducible rfl
       rotate_left
       ·simp only [Act.put, List.setIfInBounds_toArray, List.set_cons_zero, List.set_cons_succ, i64_w, i32_w]
        rfl
       refine take_ (i := 5) (N := some 24) (v := ?_) (a' := ?_) #[true, true, true, false, true, true, false, false] rfl rfl (take_ofW HT_.out HW_.out zK) (fun _ _ _ h => h) (Or.inl ⟨by rfl, ?_⟩) hHeld ?_ ?_
       rotate_left
       ·rintro w' ⟨s0, s1, s2⟩
        go_simp
        with_reducible rfl
       rotate_left
       ·simp only [Act.put, List.setIfInBounds_toArray, List.set_cons_zero, List.set_cons_succ, i64_w, i32_w]
        rfl
       refine one_ (i := 3) (N := some 22) #[true, true, true, true, true, true, false, false] rfl rfl (one_of HT_.out zK) (by decide) (fun K hK => ?_)
       refine goes_ Try.func81 zK rfl #[.string ((rd_T96 t105 x9_1).f2), .int .i64 t110] (by rfl) rfl rfl zM ?_
       with_reducible refine (letters_nth.calls k1 ((rd_T96 t105 x9_1).f2) t110 t111 _ A10.out).mono ?_
       rintro e w15 ⟨rfl, hb⟩
       refine ⟨_, rfl, ?_⟩
       have n0_ := aM (Kd.R_below (zR HO_7) hb)
       have n1_ := aM (blk_below (g := gb109) (o := .cells #[.int .i32 ((rd_T96 t105 x9_1).f0), .string ((rd_T96 t105 x9_1).f1), .string ((rd_T96 t105 x9_1).f2)] 96 (0, 0)) (by (with_reducible repeat (first | refine blk_drewN ?_ _ | refine blk_drew ?_ | refine blk_alloc ?_ _)); exact BK109.out) hb)
       have n2_ := aM (below_step (by repeat (first | (with_reducible first | exact HB.out | apply bA | apply bN | apply bD | refine below_set ?_ GE109.out) | exact HB.out)) hb)
       clear HO_7
       clear BK109
       clear HB
       have HO_7 := n0_
       have BK109 := n1_
       have HB := n2_
       clear n0_ n1_ n2_
       (try clear hb)
       (try clear hb2)
       (try clear hk)
       (try clear hi)
       refine hK.out _ _ ⟨(blk_cell BK109.out 0).trans rfl, (blk_cell BK109.out 1).trans rfl, (blk_cell BK109.out 2).trans rfl⟩ (fun hHeld => ?_)
       clear hK K
       refine norm_ (a' := ?_) ?_ ?_
       rotate_left
       ·show Act.put _ (some 22) _ = _
        simp only [Act.put, List.setIfInBounds_toArray, List.set_cons_zero, List.set_cons_succ, i64_w, i32_w]
        rfl
       refine pure_ (i := 6) (N := some 2) (v := ?_) (a' := ?_) #[true, true, true, true, true, true, true, false] rfl rfl (any_of HT_.out zK) (fun _ _ _ h => h) (Or.inl ⟨by rfl, ?_⟩) ?_ ?_
       rotate_left
       ·intro w'
        go_simp
        with_reducible rfl
       rotate_left
       ·simp only [Act.put, List.setIfInBounds_toArray, List.set_cons_zero, List.set_cons_succ, i64_w, i32_w]
        rfl
       refine pure_ (i := 7) (N := some 3) (v := ?_) (a' := ?_) #[true, true, true, true, true, true, true, true] rfl rfl (any_of HT_.out zK) (fun _ _ _ h => h) (Or.inl ⟨by rfl, ?_⟩) ?_ ?_
       rotate_left
       ·intro w'
        go_simp
        with_reducible rfl
       rotate_left
       ·simp only [Act.put, List.setIfInBounds_toArray, List.set_cons_zero, List.set_cons_succ, i64_w, i32_w]
        rfl
       refine done_ (done_of HT_.out zK) ?_
       try go_wp2
       go_ret2
       exact ⟨zE, by repeat (first | (with_reducible first | exact HB.out | apply bA | apply bN | apply bD | refine below_set ?_ GE109.out) | exact HB.out)⟩
      ·rw [if_neg c9] at H
       have c9b0 : decide (0 ≤ t110) = false := decide_eq_false c9
       clear c9
       have H' := aM H
       clear H
       have p108 : 0 ≤ (x9_1 : Int) := zoA
       have q108 : x9_1 < (t105.length : Int) := zoA
       obtain ⟨ad108, e108, hx108_0, hx108_1, hx108_2⟩ := at_T96 (Kd.R_reads' HO_7.out).2.2 x9_1 p108 q108
       cases e108
       replace p108 := eq_true p108
       replace q108 := eq_true q108
       go_wp2_with (first | ((with_reducible refine gate_dst (N := 5) rfl ?_); refine box_event ?hg (N := 5) ?hd (cs := #[.int .i32 0, .string (⟨#[]⟩ : ByteArray), .string (⟨#[]⟩ : ByteArray)]) (t := 96) ?hr ?_; (case hd => rfl); (case hg => rfl); (case hr => first | (go_simp; done) | (go_simp; rfl)); intro gb109 hg w16 hbox hb; have n_ := zI (aM (Kd.R_below (Kd.R_elderB (zR HO_7) gb109 (Nat.le_of_eq hg.symm)) hb)) (zI (aM (below_step zB hb)) (zI (aM (hbox)) (zI (aM ((by rw [hg]; exact (below_size zB) : w.heap.size ≤ gb109))) (aM ((by rw [hg]; exact (below_size zB) : w.heap.size ≤ gb109)))))); clear HO_7 HB; obtain ⟨HO_7, HB, BK109, GW109, GE109⟩ := n_; clear hb hbox hg; have hcz17_0 : w16.cell? ⟨gb109, 0, none⟩ = some (.int .i32 0) := (blk_cell BK109.out 0).trans rfl; have hcz17_1 : w16.cell? ⟨gb109, 1, none⟩ = some (.string (⟨#[]⟩ : ByteArray)) := (blk_cell BK109.out 1).trans rfl; have hcz17_2 : w16.cell? ⟨gb109, 2, none⟩ = some (.string (⟨#[]⟩ : ByteArray)) := (blk_cell BK109.out 2).trans rfl; have hfz17_0 := blk_frozen BK109.out 0; have hfz17_1 := blk_frozen BK109.out 1; have hfz17_2 := blk_frozen BK109.out 2) | ((with_reducible refine gate_callee (f := 80) rfl ?_); refine goesL_ (some 16) rfl rfl Try.func80 zK rfl #[.string ((rd_T96 t105 x9_1).f1), .int .i32 a0] rfl zM ?_; (with_reducible refine (letters_find.calls k1 ((rd_T96 t105 x9_1).f1) a0 t110 _ A8.out).mono ?_); rintro e w18 ⟨rfl, hb⟩; refine ⟨_, rfl, ?_⟩; have n_ := zI (aM (Kd.R_below (by (with_reducible repeat (first | apply Kd.R_alloc | apply Kd.R_drewN | apply Kd.R_drew)); exact (Kd.R_mono (Kd.R_far (p := ⟨gb109, 2, none⟩) (Kd.R_far (p := ⟨gb109, 1, none⟩) (Kd.R_far (p := ⟨gb109, 0, none⟩) (Kd.R_mono HO_7.out (fun k_ hk => (⟨hk, hk.2⟩ : _ ∧ k_ ≠ gb109))) (fun _ hk => hk.2) (.int .i32 ((rd_T96 t105 x9_1).f0))) (fun _ hk => hk.2) (.string ((rd_T96 t105 x9_1).f1))) (fun _ hk => hk.2) (.string ((rd_T96 t105 x9_1).f2))) (fun _ h_ => h_.1))) hb)) (zI (aM (blk_below (g := gb109) (o := .cells #[.int .i32 ((rd_T96 t105 x9_1).f0), .string ((rd_T96 t105 x9_1).f1), .string ((rd_T96 t105 x9_1).f2)] 96 (0, 0)) (by (with_reducible repeat (first | refine blk_drewN ?_ _ | refine blk_drew ?_ | refine blk_alloc ?_ _)); refine blk_put (cs := #[.int .i32 ((rd_T96 t105 x9_1).f0), .string ((rd_T96 t105 x9_1).f1), .string (⟨#[]⟩ : ByteArray)]) ?_ 2 _ rfl; (with_reducible repeat (first | refine blk_drewN ?_ _ | refine blk_drew ?_ | refine blk_alloc ?_ _)); refine blk_put (cs := #[.int .i32 ((rd_T96 t105 x9_1).f0), .string (⟨#[]⟩ : ByteArray), .string (⟨#[]⟩ : ByteArray)]) ?_ 1 _ rfl; (with_reducible repeat (first | refine blk_drewN ?_ _ | refine blk_drew ?_ | refine blk_alloc ?_ _)); refine blk_put (cs := #[.int .i32 0, .string (⟨#[]⟩ : ByteArray), .string (⟨#[]⟩ : ByteArray)]) ?_ 0 _ rfl; (with_reducible repeat (first | refine blk_drewN ?_ _ | refine blk_drew ?_ | refine blk_alloc ?_ _)); exact BK109.out) hb)) (aM (below_step (by repeat (first | (with_reducible first | exact HB.out | apply bA | apply bN | apply bD | refine below_set ?_ GE109.out) | exact HB.out)) hb))); clear HO_7 BK109 HB; obtain ⟨HO_7, BK109, HB⟩ := n_; (try clear hb); (try clear hk)))
       go_roundg k1
       case measure => have := HK1.out; omega
       case rel => exact ⟨(wrap64 (x9_1 + 1)), zP, H', ⟨by have := HK1.out; omega⟩, ⟨by (with_reducible repeat (first | apply Kd.R_alloc | apply Kd.R_drewN | apply Kd.R_drew)); exact Kd.R_mono HO_7.out (fun _ hk => trivial)⟩, ⟨by repeat (first | (with_reducible first | exact HB.out | apply bA | apply bN | apply bD | refine below_set ?_ GE109.out) | exact HB.out)⟩⟩
     ·rw [if_neg c7] at H
      exact absurd H (by simp)
    ·rw [if_neg c6] at H
     exact absurd H (by simp)
   ·rw [if_neg c5] at H
    have c5b0 : decide (x9_1 < (t105.length : Int)) = false := decide_eq_false c5
    clear c5
    simp only [Option.some.injEq, Prod.mk.injEq] at H
    obtain ⟨rfl, rfl⟩ := H
    go_wp2
    go_ret2
    exact ⟨zE, zB⟩

/-! ### decomp_Pair: function 51 -/
def decomp_Pair.f (k : Nat) (a0 : Int) : Option (Int × Int × Bool) := if a0 < 192 then (some (0, 0, false)) else ((letters_Parts.f k a0).bind fun bt112 => (some (bt112.1, bt112.2, (bt112.2 != 0))))
theorem decomp_Pair.mono : ∀ a0 k, LeO (decomp_Pair.f k a0) (decomp_Pair.f (k + 1) a0) := by
 intro a0 k
 unfold decomp_Pair.f
 repeat' first
   | (with_reducible exact letters_Parts.mono _ _)
   | (with_reducible exact LeO.refl _)
   | exact letters_Parts.mono _ _
   | exact LeO.none _
   | refine LeO.ite ?_ ?_
   | refine LeO.bind ?_ (fun _ => ?_)
set_option maxHeartbeats 8000000 in
set_option maxRecDepth 100000 in
theorem decomp_Pair.calls (k : Nat) (a0 : Int) (r1 : Int) (r2 : Int) (r3 : Bool) (w : World) (h : decomp_Pair.f k a0 = some (r1, r2, r3)) :
  Calls Try.prog 51 #[.int .i32 a0] w fun e w' => e = .returned (.tuple #[.int .i32 r1, .int .i32 r2, .bool r3]) ∧ Below w.heap.size w w' := by
 have HB := aM (Below.refl w.heap.size w)
 have H : (if a0 < 192 then (some (0, 0, false)) else ((letters_Parts.f k a0).bind fun bt112 => (some (bt112.1, bt112.2, (bt112.2 != 0))))) = some (r1, r2, r3) := h
 clear h
 by_cases c2 : a0 < 192
 ·rw [if_pos c2] at H
  have c2b0 : decide (a0 < 192) = true := decide_eq_true c2
  clear c2
  simp only [Option.some.injEq, Prod.mk.injEq] at H
  obtain ⟨rfl, rfl, rfl⟩ := H
  go_enter Try.func51, Try.ntmps51
  go_wp2
  go_ret3
  exact ⟨zE, zB⟩
 ·rw [if_neg c2] at H
  have c2b0 : decide (a0 < 192) = false := decide_eq_false c2
  clear c2
  obtain ⟨⟨t112, t113⟩, A3, H⟩ := zO H
  try dsimp only at H
  simp only [Option.some.injEq, Prod.mk.injEq] at H
  obtain ⟨rfl, rfl, rfl⟩ := H
  go_enter Try.func51, Try.ntmps51
  go_wp2_with (first | ((with_reducible refine gate_callee (f := 67) rfl ?_); refine goesL_ (some 11) rfl rfl Try.func67 zK rfl #[.int .i32 a0] rfl zM ?_; (with_reducible refine (letters_Parts.calls k a0 t112 t113 _ A3.out).mono ?_); rintro e w4 ⟨rfl, hb⟩; refine ⟨_, rfl, ?_⟩; replace HB := aM (below_step zB hb); (try clear hb)))
  go_ret3
  exact ⟨zE, zB⟩

end Go.Proofs.Ytpihglokjcbjkaa.P
