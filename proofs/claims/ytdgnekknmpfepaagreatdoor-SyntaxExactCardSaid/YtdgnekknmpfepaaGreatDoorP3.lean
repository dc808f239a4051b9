-- Printed by wip/mk.py (this session's driver over the kit's print) and from wip/manual.
import Derived.Test.YtdgnekknmpfepaaGreatDoorP0
namespace Go.Proofs.YtdgnekknmpfepaaGreatDoor.P
open Go.RowKit Go.Proofs.YtdgnekknmpfepaaGreatDoorW.PrintWords Go.Proofs.YtdgnekknmpfepaaGreatDoorW.PrintLast Go.Proofs.YtdgnekknmpfepaaGreatDoorW.PrintMore
attribute [local go_sem] run_store_float run_store_complex max2_int min2_int max_two min_two max_three min_three max_four min_four   -- for this text's walks alone
set_option linter.unusedVariables false
set_option linter.unusedSimpArgs false

/-! ### chars_mark: function 204 -/
def chars_mark.f (a0 : Int) : Option (Bool) := if a0 ≥ 768 then (if a0 ≤ 772 then (some true) else (if a0 ≥ 774 then (if a0 ≤ 776 then (some true) else (if a0 ≥ 778 then (if a0 ≤ 780 then (some true) else (if a0 = 803 then (some true) else (if a0 ≥ 807 then (if a0 ≤ 808 then (some true) else (if a0 ≥ 12441 then (some (decide (a0 ≤ 12442))) else (some false))) else (if a0 ≥ 12441 then (some (decide (a0 ≤ 12442))) else (some false))))) else (if a0 = 803 then (some true) else (if a0 ≥ 807 then (if a0 ≤ 808 then (some true) else (if a0 ≥ 12441 then (some (decide (a0 ≤ 12442))) else (some false))) else (if a0 ≥ 12441 then (some (decide (a0 ≤ 12442))) else (some false)))))) else (if a0 ≥ 778 then (if a0 ≤ 780 then (some true) else (if a0 = 803 then (some true) else (if a0 ≥ 807 then (if a0 ≤ 808 then (some true) else (if a0 ≥ 12441 then (some (decide (a0 ≤ 12442))) else (some false))) else (if a0 ≥ 12441 then (some (decide (a0 ≤ 12442))) else (some false))))) else (if a0 = 803 then (some true) else (if a0 ≥ 807 then (if a0 ≤ 808 then (some true) else (if a0 ≥ 12441 then (some (decide (a0 ≤ 12442))) else (some false))) else (if a0 ≥ 12441 then (some (decide (a0 ≤ 12442))) else (some false))))))) else (if a0 ≥ 774 then (if a0 ≤ 776 then (some true) else (if a0 ≥ 778 then (if a0 ≤ 780 then (some true) else (if a0 = 803 then (some true) else (if a0 ≥ 807 then (if a0 ≤ 808 then (some true) else (if a0 ≥ 12441 then (some (decide (a0 ≤ 12442))) else (some false))) else (if a0 ≥ 12441 then (some (decide (a0 ≤ 12442))) else (some false))))) else (if a0 = 803 then (some true) else (if a0 ≥ 807 then (if a0 ≤ 808 then (some true) else (if a0 ≥ 12441 then (some (decide (a0 ≤ 12442))) else (some false))) else (if a0 ≥ 12441 then (some (decide (a0 ≤ 12442))) else (some false)))))) else (if a0 ≥ 778 then (if a0 ≤ 780 then (some true) else (if a0 = 803 then (some true) else (if a0 ≥ 807 then (if a0 ≤ 808 then (some true) else (if a0 ≥ 12441 then (some (decide (a0 ≤ 12442))) else (some false))) else (if a0 ≥ 12441 then (some (decide (a0 ≤ 12442))) else (some false))))) else (if a0 = 803 then (some true) else (if a0 ≥ 807 then (if a0 ≤ 808 then (some true) else (if a0 ≥ 12441 then (some (decide (a0 ≤ 12442))) else (some false))) else (if a0 ≥ 12441 then (some (decide (a0 ≤ 12442))) else (some false))))))
set_option maxHeartbeats 8000000 in
set_option maxRecDepth 100000 in
theorem chars_mark.calls (a0 : Int) (r : Bool) (w : World) (h : chars_mark.f a0 = some r) :
  Calls Tryz.prog 204 #[.int .i32 a0] w fun e w' => e = .returned (.bool r) ∧ Drawn0 w w' := by
 have H := h
 clear h
 unfold chars_mark.f at H
 by_cases c2 : a0 ≥ 768
 ·rw [if_pos c2] at H
  have c2b0 : decide (768 ≤ a0) = true := decide_eq_true c2
  clear c2
  by_cases c3 : a0 ≤ 772
  ·rw [if_pos c3] at H
   have c3b0 : decide (a0 ≤ 772) = true := decide_eq_true c3
   clear c3
   obtain rfl := sI H
   go_enter Tryz.func204, Tryz.ntmps204
   go_wp2
   go_ret
   exact ⟨zP, zD⟩
  ·rw [if_neg c3] at H
   have c3b0 : decide (a0 ≤ 772) = false := decide_eq_false c3
   clear c3
   by_cases c4 : a0 ≥ 774
   ·rw [if_pos c4] at H
    have c4b0 : decide (774 ≤ a0) = true := decide_eq_true c4
    clear c4
    by_cases c5 : a0 ≤ 776
    ·rw [if_pos c5] at H
     have c5b0 : decide (a0 ≤ 776) = true := decide_eq_true c5
     clear c5
     obtain rfl := sI H
     go_enter Tryz.func204, Tryz.ntmps204
     go_wp2
     go_ret
     exact ⟨zP, zD⟩
    ·rw [if_neg c5] at H
     have c5b0 : decide (a0 ≤ 776) = false := decide_eq_false c5
     clear c5
     by_cases c6 : a0 ≥ 778
     ·rw [if_pos c6] at H
      have c6b0 : decide (778 ≤ a0) = true := decide_eq_true c6
      clear c6
      by_cases c7 : a0 ≤ 780
      ·rw [if_pos c7] at H
       have c7b0 : decide (a0 ≤ 780) = true := decide_eq_true c7
       clear c7
       obtain rfl := sI H
       go_enter Tryz.func204, Tryz.ntmps204
       go_wp2
       go_ret
       exact ⟨zP, zD⟩
      ·rw [if_neg c7] at H
       have c7b0 : decide (a0 ≤ 780) = false := decide_eq_false c7
       clear c7
       by_cases c8 : a0 = 803
       ·rw [if_pos c8] at H
        have c8b0 : (a0 == 803) = true := beq_iff_eq.mpr c8
        have c8b1 : (a0 != 803) = false := bne_eq_false_iff_eq.mpr c8
        clear c8
        obtain rfl := sI H
        go_enter Tryz.func204, Tryz.ntmps204
        go_wp2
        go_ret
        exact ⟨zP, zD⟩
       ·rw [if_neg c8] at H
        have c8b0 : (a0 == 803) = false := beq_eq_false_iff_ne.mpr c8
        have c8b1 : (a0 != 803) = true := bne_iff_ne.mpr c8
        by_cases c9 : a0 ≥ 807
        ·rw [if_pos c9] at H
         have c9b0 : decide (807 ≤ a0) = true := decide_eq_true c9
         clear c9
         by_cases c10 : a0 ≤ 808
         ·rw [if_pos c10] at H
          have c10b0 : decide (a0 ≤ 808) = true := decide_eq_true c10
          clear c10
          obtain rfl := sI H
          go_enter Tryz.func204, Tryz.ntmps204
          go_wp2
          go_ret
          exact ⟨zP, zD⟩
         ·rw [if_neg c10] at H
          have c10b0 : decide (a0 ≤ 808) = false := decide_eq_false c10
          clear c10
          by_cases c11 : a0 ≥ 12441
          ·rw [if_pos c11] at H
           have c11b0 : decide (12441 ≤ a0) = true := decide_eq_true c11
           clear c11
           obtain rfl := sI H
           go_enter Tryz.func204, Tryz.ntmps204
           go_wp2
           go_ret
           exact ⟨zP, zD⟩
          ·rw [if_neg c11] at H
           have c11b0 : decide (12441 ≤ a0) = false := decide_eq_false c11
           clear c11
           obtain rfl := sI H
           go_enter Tryz.func204, Tryz.ntmps204
           go_wp2
           go_ret
           exact ⟨zP, zD⟩
        ·rw [if_neg c9] at H
         have c9b0 : decide (807 ≤ a0) = false := decide_eq_false c9
         clear c9
         by_cases c12 : a0 ≥ 12441
         ·rw [if_pos c12] at H
          have c12b0 : decide (12441 ≤ a0) = true := decide_eq_true c12
          clear c12
          obtain rfl := sI H
          go_enter Tryz.func204, Tryz.ntmps204
          go_wp2
          go_ret
          exact ⟨zP, zD⟩
         ·rw [if_neg c12] at H
          have c12b0 : decide (12441 ≤ a0) = false := decide_eq_false c12
          clear c12
          obtain rfl := sI H
          go_enter Tryz.func204, Tryz.ntmps204
          go_wp2
          go_ret
          exact ⟨zP, zD⟩
     ·rw [if_neg c6] at H
      have c6b0 : decide (778 ≤ a0) = false := decide_eq_false c6
      clear c6
      by_cases c13 : a0 = 803
      ·rw [if_pos c13] at H
       have c13b0 : (a0 == 803) = true := beq_iff_eq.mpr c13
       have c13b1 : (a0 != 803) = false := bne_eq_false_iff_eq.mpr c13
       clear c13
       obtain rfl := sI H
       go_enter Tryz.func204, Tryz.ntmps204
       go_wp2
       go_ret
       exact ⟨zP, zD⟩
      ·rw [if_neg c13] at H
       have c13b0 : (a0 == 803) = false := beq_eq_false_iff_ne.mpr c13
       have c13b1 : (a0 != 803) = true := bne_iff_ne.mpr c13
       by_cases c14 : a0 ≥ 807
       ·rw [if_pos c14] at H
        have c14b0 : decide (807 ≤ a0) = true := decide_eq_true c14
        clear c14
        by_cases c15 : a0 ≤ 808
        ·rw [if_pos c15] at H
         have c15b0 : decide (a0 ≤ 808) = true := decide_eq_true c15
         clear c15
         obtain rfl := sI H
         go_enter Tryz.func204, Tryz.ntmps204
         go_wp2
         go_ret
         exact ⟨zP, zD⟩
        ·rw [if_neg c15] at H
         have c15b0 : decide (a0 ≤ 808) = false := decide_eq_false c15
         clear c15
         by_cases c16 : a0 ≥ 12441
         ·rw [if_pos c16] at H
          have c16b0 : decide (12441 ≤ a0) = true := decide_eq_true c16
          clear c16
          obtain rfl := sI H
          go_enter Tryz.func204, Tryz.ntmps204
          go_wp2
          go_ret
          exact ⟨zP, zD⟩
         ·rw [if_neg c16] at H
          have c16b0 : decide (12441 ≤ a0) = false := decide_eq_false c16
          clear c16
          obtain rfl := sI H
          go_enter Tryz.func204, Tryz.ntmps204
          go_wp2
          go_ret
          exact ⟨zP, zD⟩
       ·rw [if_neg c14] at H
        have c14b0 : decide (807 ≤ a0) = false := decide_eq_false c14
        clear c14
        by_cases c17 : a0 ≥ 12441
        ·rw [if_pos c17] at H
         have c17b0 : decide (12441 ≤ a0) = true := decide_eq_true c17
         clear c17
         obtain rfl := sI H
         go_enter Tryz.func204, Tryz.ntmps204
         go_wp2
         go_ret
         exact ⟨zP, zD⟩
        ·rw [if_neg c17] at H
         have c17b0 : decide (12441 ≤ a0) = false := decide_eq_false c17
         clear c17
         obtain rfl := sI H
         go_enter Tryz.func204, Tryz.ntmps204
         go_wp2
         go_ret
         exact ⟨zP, zD⟩
   ·rw [if_neg c4] at H
    have c4b0 : decide (774 ≤ a0) = false := decide_eq_false c4
    clear c4
    by_cases c18 : a0 ≥ 778
    ·rw [if_pos c18] at H
     have c18b0 : decide (778 ≤ a0) = true := decide_eq_true c18
     clear c18
     by_cases c19 : a0 ≤ 780
     ·rw [if_pos c19] at H
      have c19b0 : decide (a0 ≤ 780) = true := decide_eq_true c19
      clear c19
      obtain rfl := sI H
      go_enter Tryz.func204, Tryz.ntmps204
      go_wp2
      go_ret
      exact ⟨zP, zD⟩
     ·rw [if_neg c19] at H
      have c19b0 : decide (a0 ≤ 780) = false := decide_eq_false c19
      clear c19
      by_cases c20 : a0 = 803
      ·rw [if_pos c20] at H
       have c20b0 : (a0 == 803) = true := beq_iff_eq.mpr c20
       have c20b1 : (a0 != 803) = false := bne_eq_false_iff_eq.mpr c20
       clear c20
       obtain rfl := sI H
       go_enter Tryz.func204, Tryz.ntmps204
       go_wp2
       go_ret
       exact ⟨zP, zD⟩
      ·rw [if_neg c20] at H
       have c20b0 : (a0 == 803) = false := beq_eq_false_iff_ne.mpr c20
       have c20b1 : (a0 != 803) = true := bne_iff_ne.mpr c20
       by_cases c21 : a0 ≥ 807
       ·rw [if_pos c21] at H
        have c21b0 : decide (807 ≤ a0) = true := decide_eq_true c21
        clear c21
        by_cases c22 : a0 ≤ 808
        ·rw [if_pos c22] at H
         have c22b0 : decide (a0 ≤ 808) = true := decide_eq_true c22
         clear c22
         obtain rfl := sI H
         go_enter Tryz.func204, Tryz.ntmps204
         go_wp2
         go_ret
         exact ⟨zP, zD⟩
        ·rw [if_neg c22] at H
         have c22b0 : decide (a0 ≤ 808) = false := decide_eq_false c22
         clear c22
         by_cases c23 : a0 ≥ 12441
         ·rw [if_pos c23] at H
          have c23b0 : decide (12441 ≤ a0) = true := decide_eq_true c23
          clear c23
          obtain rfl := sI H
          go_enter Tryz.func204, Tryz.ntmps204
          go_wp2
          go_ret
          exact ⟨zP, zD⟩
         ·rw [if_neg c23] at H
          have c23b0 : decide (12441 ≤ a0) = false := decide_eq_false c23
          clear c23
          obtain rfl := sI H
          go_enter Tryz.func204, Tryz.ntmps204
          go_wp2
          go_ret
          exact ⟨zP, zD⟩
       ·rw [if_neg c21] at H
        have c21b0 : decide (807 ≤ a0) = false := decide_eq_false c21
        clear c21
        by_cases c24 : a0 ≥ 12441
        ·rw [if_pos c24] at H
         have c24b0 : decide (12441 ≤ a0) = true := decide_eq_true c24
         clear c24
         obtain rfl := sI H
         go_enter Tryz.func204, Tryz.ntmps204
         go_wp2
         go_ret
         exact ⟨zP, zD⟩
        ·rw [if_neg c24] at H
         have c24b0 : decide (12441 ≤ a0) = false := decide_eq_false c24
         clear c24
         obtain rfl := sI H
         go_enter Tryz.func204, Tryz.ntmps204
         go_wp2
         go_ret
         exact ⟨zP, zD⟩
    ·rw [if_neg c18] at H
     have c18b0 : decide (778 ≤ a0) = false := decide_eq_false c18
     clear c18
     by_cases c25 : a0 = 803
     ·rw [if_pos c25] at H
      have c25b0 : (a0 == 803) = true := beq_iff_eq.mpr c25
      have c25b1 : (a0 != 803) = false := bne_eq_false_iff_eq.mpr c25
      clear c25
      obtain rfl := sI H
      go_enter Tryz.func204, Tryz.ntmps204
      go_wp2
      go_ret
      exact ⟨zP, zD⟩
     ·rw [if_neg c25] at H
      have c25b0 : (a0 == 803) = false := beq_eq_false_iff_ne.mpr c25
      have c25b1 : (a0 != 803) = true := bne_iff_ne.mpr c25
      by_cases c26 : a0 ≥ 807
      ·rw [if_pos c26] at H
       have c26b0 : decide (807 ≤ a0) = true := decide_eq_true c26
       clear c26
       by_cases c27 : a0 ≤ 808
       ·rw [if_pos c27] at H
        have c27b0 : decide (a0 ≤ 808) = true := decide_eq_true c27
        clear c27
        obtain rfl := sI H
        go_enter Tryz.func204, Tryz.ntmps204
        go_wp2
        go_ret
        exact ⟨zP, zD⟩
       ·rw [if_neg c27] at H
        have c27b0 : decide (a0 ≤ 808) = false := decide_eq_false c27
        clear c27
        by_cases c28 : a0 ≥ 12441
        ·rw [if_pos c28] at H
         have c28b0 : decide (12441 ≤ a0) = true := decide_eq_true c28
         clear c28
         obtain rfl := sI H
         go_enter Tryz.func204, Tryz.ntmps204
         go_wp2
         go_ret
         exact ⟨zP, zD⟩
        ·rw [if_neg c28] at H
         have c28b0 : decide (12441 ≤ a0) = false := decide_eq_false c28
         clear c28
         obtain rfl := sI H
         go_enter Tryz.func204, Tryz.ntmps204
         go_wp2
         go_ret
         exact ⟨zP, zD⟩
      ·rw [if_neg c26] at H
       have c26b0 : decide (807 ≤ a0) = false := decide_eq_false c26
       clear c26
       by_cases c29 : a0 ≥ 12441
       ·rw [if_pos c29] at H
        have c29b0 : decide (12441 ≤ a0) = true := decide_eq_true c29
        clear c29
        obtain rfl := sI H
        go_enter Tryz.func204, Tryz.ntmps204
        go_wp2
        go_ret
        exact ⟨zP, zD⟩
       ·rw [if_neg c29] at H
        have c29b0 : decide (12441 ≤ a0) = false := decide_eq_false c29
        clear c29
        obtain rfl := sI H
        go_enter Tryz.func204, Tryz.ntmps204
        go_wp2
        go_ret
        exact ⟨zP, zD⟩
 ·rw [if_neg c2] at H
  have c2b0 : decide (768 ≤ a0) = false := decide_eq_false c2
  clear c2
  by_cases c30 : a0 ≥ 774
  ·rw [if_pos c30] at H
   have c30b0 : decide (774 ≤ a0) = true := decide_eq_true c30
   clear c30
   by_cases c31 : a0 ≤ 776
   ·rw [if_pos c31] at H
    have c31b0 : decide (a0 ≤ 776) = true := decide_eq_true c31
    clear c31
    obtain rfl := sI H
    go_enter Tryz.func204, Tryz.ntmps204
    go_wp2
    go_ret
    exact ⟨zP, zD⟩
   ·rw [if_neg c31] at H
    have c31b0 : decide (a0 ≤ 776) = false := decide_eq_false c31
    clear c31
    by_cases c32 : a0 ≥ 778
    ·rw [if_pos c32] at H
     have c32b0 : decide (778 ≤ a0) = true := decide_eq_true c32
     clear c32
     by_cases c33 : a0 ≤ 780
     ·rw [if_pos c33] at H
      have c33b0 : decide (a0 ≤ 780) = true := decide_eq_true c33
      clear c33
      obtain rfl := sI H
      go_enter Tryz.func204, Tryz.ntmps204
      go_wp2
      go_ret
      exact ⟨zP, zD⟩
     ·rw [if_neg c33] at H
      have c33b0 : decide (a0 ≤ 780) = false := decide_eq_false c33
      clear c33
      by_cases c34 : a0 = 803
      ·rw [if_pos c34] at H
       have c34b0 : (a0 == 803) = true := beq_iff_eq.mpr c34
       have c34b1 : (a0 != 803) = false := bne_eq_false_iff_eq.mpr c34
       clear c34
       obtain rfl := sI H
       go_enter Tryz.func204, Tryz.ntmps204
       go_wp2
       go_ret
       exact ⟨zP, zD⟩
      ·rw [if_neg c34] at H
       have c34b0 : (a0 == 803) = false := beq_eq_false_iff_ne.mpr c34
       have c34b1 : (a0 != 803) = true := bne_iff_ne.mpr c34
       by_cases c35 : a0 ≥ 807
       ·rw [if_pos c35] at H
        have c35b0 : decide (807 ≤ a0) = true := decide_eq_true c35
        clear c35
        by_cases c36 : a0 ≤ 808
        ·rw [if_pos c36] at H
         have c36b0 : decide (a0 ≤ 808) = true := decide_eq_true c36
         clear c36
         obtain rfl := sI H
         go_enter Tryz.func204, Tryz.ntmps204
         go_wp2
         go_ret
         exact ⟨zP, zD⟩
        ·rw [if_neg c36] at H
         have c36b0 : decide (a0 ≤ 808) = false := decide_eq_false c36
         clear c36
         by_cases c37 : a0 ≥ 12441
         ·rw [if_pos c37] at H
          have c37b0 : decide (12441 ≤ a0) = true := decide_eq_true c37
          clear c37
          obtain rfl := sI H
          go_enter Tryz.func204, Tryz.ntmps204
          go_wp2
          go_ret
          exact ⟨zP, zD⟩
         ·rw [if_neg c37] at H
          have c37b0 : decide (12441 ≤ a0) = false := decide_eq_false c37
          clear c37
          obtain rfl := sI H
          go_enter Tryz.func204, Tryz.ntmps204
          go_wp2
          go_ret
          exact ⟨zP, zD⟩
       ·rw [if_neg c35] at H
        have c35b0 : decide (807 ≤ a0) = false := decide_eq_false c35
        clear c35
        by_cases c38 : a0 ≥ 12441
        ·rw [if_pos c38] at H
         have c38b0 : decide (12441 ≤ a0) = true := decide_eq_true c38
         clear c38
         obtain rfl := sI H
         go_enter Tryz.func204, Tryz.ntmps204
         go_wp2
         go_ret
         exact ⟨zP, zD⟩
        ·rw [if_neg c38] at H
         have c38b0 : decide (12441 ≤ a0) = false := decide_eq_false c38
         clear c38
         obtain rfl := sI H
         go_enter Tryz.func204, Tryz.ntmps204
         go_wp2
         go_ret
         exact ⟨zP, zD⟩
    ·rw [if_neg c32] at H
     have c32b0 : decide (778 ≤ a0) = false := decide_eq_false c32
     clear c32
     by_cases c39 : a0 = 803
     ·rw [if_pos c39] at H
      have c39b0 : (a0 == 803) = true := beq_iff_eq.mpr c39
      have c39b1 : (a0 != 803) = false := bne_eq_false_iff_eq.mpr c39
      clear c39
      obtain rfl := sI H
      go_enter Tryz.func204, Tryz.ntmps204
      go_wp2
      go_ret
      exact ⟨zP, zD⟩
     ·rw [if_neg c39] at H
      have c39b0 : (a0 == 803) = false := beq_eq_false_iff_ne.mpr c39
      have c39b1 : (a0 != 803) = true := bne_iff_ne.mpr c39
      by_cases c40 : a0 ≥ 807
      ·rw [if_pos c40] at H
       have c40b0 : decide (807 ≤ a0) = true := decide_eq_true c40
       clear c40
       by_cases c41 : a0 ≤ 808
       ·rw [if_pos c41] at H
        have c41b0 : decide (a0 ≤ 808) = true := decide_eq_true c41
        clear c41
        obtain rfl := sI H
        go_enter Tryz.func204, Tryz.ntmps204
        go_wp2
        go_ret
        exact ⟨zP, zD⟩
       ·rw [if_neg c41] at H
        have c41b0 : decide (a0 ≤ 808) = false := decide_eq_false c41
        clear c41
        by_cases c42 : a0 ≥ 12441
        ·rw [if_pos c42] at H
         have c42b0 : decide (12441 ≤ a0) = true := decide_eq_true c42
         clear c42
         obtain rfl := sI H
         go_enter Tryz.func204, Tryz.ntmps204
         go_wp2
         go_ret
         exact ⟨zP, zD⟩
        ·rw [if_neg c42] at H
         have c42b0 : decide (12441 ≤ a0) = false := decide_eq_false c42
         clear c42
         obtain rfl := sI H
         go_enter Tryz.func204, Tryz.ntmps204
         go_wp2
         go_ret
         exact ⟨zP, zD⟩
      ·rw [if_neg c40] at H
       have c40b0 : decide (807 ≤ a0) = false := decide_eq_false c40
       clear c40
       by_cases c43 : a0 ≥ 12441
       ·rw [if_pos c43] at H
        have c43b0 : decide (12441 ≤ a0) = true := decide_eq_true c43
        clear c43
        obtain rfl := sI H
        go_enter Tryz.func204, Tryz.ntmps204
        go_wp2
        go_ret
        exact ⟨zP, zD⟩
       ·rw [if_neg c43] at H
        have c43b0 : decide (12441 ≤ a0) = false := decide_eq_false c43
        clear c43
        obtain rfl := sI H
        go_enter Tryz.func204, Tryz.ntmps204
        go_wp2
        go_ret
        exact ⟨zP, zD⟩
  ·rw [if_neg c30] at H
   have c30b0 : decide (774 ≤ a0) = false := decide_eq_false c30
   clear c30
   by_cases c44 : a0 ≥ 778
   ·rw [if_pos c44] at H
    have c44b0 : decide (778 ≤ a0) = true := decide_eq_true c44
    clear c44
    by_cases c45 : a0 ≤ 780
    ·rw [if_pos c45] at H
     have c45b0 : decide (a0 ≤ 780) = true := decide_eq_true c45
     clear c45
     obtain rfl := sI H
     go_enter Tryz.func204, Tryz.ntmps204
     go_wp2
     go_ret
     exact ⟨zP, zD⟩
    ·rw [if_neg c45] at H
     have c45b0 : decide (a0 ≤ 780) = false := decide_eq_false c45
     clear c45
     by_cases c46 : a0 = 803
     ·rw [if_pos c46] at H
      have c46b0 : (a0 == 803) = true := beq_iff_eq.mpr c46
      have c46b1 : (a0 != 803) = false := bne_eq_false_iff_eq.mpr c46
      clear c46
      obtain rfl := sI H
      go_enter Tryz.func204, Tryz.ntmps204
      go_wp2
      go_ret
      exact ⟨zP, zD⟩
     ·rw [if_neg c46] at H
      have c46b0 : (a0 == 803) = false := beq_eq_false_iff_ne.mpr c46
      have c46b1 : (a0 != 803) = true := bne_iff_ne.mpr c46
      by_cases c47 : a0 ≥ 807
      ·rw [if_pos c47] at H
       have c47b0 : decide (807 ≤ a0) = true := decide_eq_true c47
       clear c47
       by_cases c48 : a0 ≤ 808
       ·rw [if_pos c48] at H
        have c48b0 : decide (a0 ≤ 808) = true := decide_eq_true c48
        clear c48
        obtain rfl := sI H
        go_enter Tryz.func204, Tryz.ntmps204
        go_wp2
        go_ret
        exact ⟨zP, zD⟩
       ·rw [if_neg c48] at H
        have c48b0 : decide (a0 ≤ 808) = false := decide_eq_false c48
        clear c48
        by_cases c49 : a0 ≥ 12441
        ·rw [if_pos c49] at H
         have c49b0 : decide (12441 ≤ a0) = true := decide_eq_true c49
         clear c49
         obtain rfl := sI H
         go_enter Tryz.func204, Tryz.ntmps204
         go_wp2
         go_ret
         exact ⟨zP, zD⟩
        ·rw [if_neg c49] at H
         have c49b0 : decide (12441 ≤ a0) = false := decide_eq_false c49
         clear c49
         obtain rfl := sI H
         go_enter Tryz.func204, Tryz.ntmps204
         go_wp2
         go_ret
         exact ⟨zP, zD⟩
      ·rw [if_neg c47] at H
       have c47b0 : decide (807 ≤ a0) = false := decide_eq_false c47
       clear c47
       by_cases c50 : a0 ≥ 12441
       ·rw [if_pos c50] at H
        have c50b0 : decide (12441 ≤ a0) = true := decide_eq_true c50
        clear c50
        obtain rfl := sI H
        go_enter Tryz.func204, Tryz.ntmps204
        go_wp2
        go_ret
        exact ⟨zP, zD⟩
       ·rw [if_neg c50] at H
        have c50b0 : decide (12441 ≤ a0) = false := decide_eq_false c50
        clear c50
        obtain rfl := sI H
        go_enter Tryz.func204, Tryz.ntmps204
        go_wp2
        go_ret
        exact ⟨zP, zD⟩
   ·rw [if_neg c44] at H
    have c44b0 : decide (778 ≤ a0) = false := decide_eq_false c44
    clear c44
    by_cases c51 : a0 = 803
    ·rw [if_pos c51] at H
     have c51b0 : (a0 == 803) = true := beq_iff_eq.mpr c51
     have c51b1 : (a0 != 803) = false := bne_eq_false_iff_eq.mpr c51
     clear c51
     obtain rfl := sI H
     go_enter Tryz.func204, Tryz.ntmps204
     go_wp2
     go_ret
     exact ⟨zP, zD⟩
    ·rw [if_neg c51] at H
     have c51b0 : (a0 == 803) = false := beq_eq_false_iff_ne.mpr c51
     have c51b1 : (a0 != 803) = true := bne_iff_ne.mpr c51
     by_cases c52 : a0 ≥ 807
     ·rw [if_pos c52] at H
      have c52b0 : decide (807 ≤ a0) = true := decide_eq_true c52
      clear c52
      by_cases c53 : a0 ≤ 808
      ·rw [if_pos c53] at H
       have c53b0 : decide (a0 ≤ 808) = true := decide_eq_true c53
       clear c53
       obtain rfl := sI H
       go_enter Tryz.func204, Tryz.ntmps204
       go_wp2
       go_ret
       exact ⟨zP, zD⟩
      ·rw [if_neg c53] at H
       have c53b0 : decide (a0 ≤ 808) = false := decide_eq_false c53
       clear c53
       by_cases c54 : a0 ≥ 12441
       ·rw [if_pos c54] at H
        have c54b0 : decide (12441 ≤ a0) = true := decide_eq_true c54
        clear c54
        obtain rfl := sI H
        go_enter Tryz.func204, Tryz.ntmps204
        go_wp2
        go_ret
        exact ⟨zP, zD⟩
       ·rw [if_neg c54] at H
        have c54b0 : decide (12441 ≤ a0) = false := decide_eq_false c54
        clear c54
        obtain rfl := sI H
        go_enter Tryz.func204, Tryz.ntmps204
        go_wp2
        go_ret
        exact ⟨zP, zD⟩
     ·rw [if_neg c52] at H
      have c52b0 : decide (807 ≤ a0) = false := decide_eq_false c52
      clear c52
      by_cases c55 : a0 ≥ 12441
      ·rw [if_pos c55] at H
       have c55b0 : decide (12441 ≤ a0) = true := decide_eq_true c55
       clear c55
       obtain rfl := sI H
       go_enter Tryz.func204, Tryz.ntmps204
       go_wp2
       go_ret
       exact ⟨zP, zD⟩
      ·rw [if_neg c55] at H
       have c55b0 : decide (12441 ≤ a0) = false := decide_eq_false c55
       clear c55
       obtain rfl := sI H
       go_enter Tryz.func204, Tryz.ntmps204
       go_wp2
       go_ret
       exact ⟨zP, zD⟩

/-! ### chars_sign: function 205, by hand (chars.sign.tpl) -/
def chars_sign.f (a0 : Int) : Option (Bool) := some (((((((((((((((((((decide (33 ≤ a0) && decide (a0 ≤ 47)) || (decide (58 ≤ a0) && decide (a0 ≤ 64))) || (decide (91 ≤ a0) && decide (a0 ≤ 96))) || (decide (123 ≤ a0) && decide (a0 ≤ 126))) || (decide (161 ≤ a0) && decide (a0 ≤ 169))) || (decide (171 ≤ a0) && decide (a0 ≤ 172))) || (decide (174 ≤ a0) && decide (a0 ≤ 177))) || (a0 == 180)) || (decide (182 ≤ a0) && decide (a0 ≤ 184))) || (decide (187 ≤ a0) && decide (a0 ≤ 191))) || (a0 == 215)) || (a0 == 247)) || (decide (8208 ≤ a0) && decide (a0 ≤ 8209))) || (a0 == 8260)) || (a0 == 8722)) || (decide (65281 ≤ a0) && decide (a0 ≤ 65295))) || (decide (65306 ≤ a0) && decide (a0 ≤ 65312))) || (decide (65339 ≤ a0) && decide (a0 ≤ 65344))) || (decide (65371 ≤ a0) && decide (a0 ≤ 65374)))
set_option maxHeartbeats 8000000 in
set_option maxRecDepth 100000 in
theorem chars_sign.calls (a0 : Int) (r : Bool) (w : World) (h : chars_sign.f a0 = some r) :
    Calls Tryz.prog 205 #[.int .i32 a0] w fun e w' => e = .returned (.bool r) ∧ Drawn0 w w' := by
  obtain rfl := Option.some.inj h
  clear h
  go_enter Tryz.func205, Tryz.ntmps205
  refine wp_seq ?_
  refine wp_region_lit ?_
  refine wpList_step fun K0 hK0 => ?_
  refine hK0 _ _ ?_
  refine wpList_nil ?_
  show Code.wp _ _ _ _ _
  refine wp_seq ?_
  refine wp_region_lit ?_
  refine cl_first (N := 133) (j := 2) (r := a0) rfl rfl rfl (by decide) (by decide) ?_
  intro tm hc
  refine cl_range hc (i := 6) (j := 9) rfl rfl (by decide) (by decide) (by decide) ?_
  clear hc tm
  intro tm hc
  refine cl_range hc (i := 14) (j := 17) rfl rfl (by decide) (by decide) (by decide) ?_
  clear hc tm
  intro tm hc
  refine cl_range hc (i := 22) (j := 25) rfl rfl (by decide) (by decide) (by decide) ?_
  clear hc tm
  intro tm hc
  refine cl_range hc (i := 30) (j := 33) rfl rfl (by decide) (by decide) (by decide) ?_
  clear hc tm
  intro tm hc
  refine cl_range hc (i := 38) (j := 41) rfl rfl (by decide) (by decide) (by decide) ?_
  clear hc tm
  intro tm hc
  refine cl_range hc (i := 46) (j := 49) rfl rfl (by decide) (by decide) (by decide) ?_
  clear hc tm
  intro tm hc
  refine cl_one Tryz.underlying21 hc (i := 54) rfl (by decide) (by decide) (by decide) ?_
  clear hc tm
  intro tm hc
  refine cl_range hc (i := 58) (j := 61) rfl rfl (by decide) (by decide) (by decide) ?_
  clear hc tm
  intro tm hc
  refine cl_range hc (i := 66) (j := 69) rfl rfl (by decide) (by decide) (by decide) ?_
  clear hc tm
  intro tm hc
  refine cl_one Tryz.underlying21 hc (i := 74) rfl (by decide) (by decide) (by decide) ?_
  clear hc tm
  intro tm hc
  refine cl_one Tryz.underlying21 hc (i := 78) rfl (by decide) (by decide) (by decide) ?_
  clear hc tm
  intro tm hc
  refine cl_range hc (i := 82) (j := 85) rfl rfl (by decide) (by decide) (by decide) ?_
  clear hc tm
  intro tm hc
  refine cl_one Tryz.underlying21 hc (i := 90) rfl (by decide) (by decide) (by decide) ?_
  clear hc tm
  intro tm hc
  refine cl_one Tryz.underlying21 hc (i := 94) rfl (by decide) (by decide) (by decide) ?_
  clear hc tm
  intro tm hc
  refine cl_range hc (i := 98) (j := 101) rfl rfl (by decide) (by decide) (by decide) ?_
  clear hc tm
  intro tm hc
  refine cl_range hc (i := 106) (j := 109) rfl rfl (by decide) (by decide) (by decide) ?_
  clear hc tm
  intro tm hc
  refine cl_range hc (i := 114) (j := 117) rfl rfl (by decide) (by decide) (by decide) ?_
  clear hc tm
  intro tm hc
  refine cl_range hc (i := 122) (j := 125) rfl rfl (by decide) (by decide) (by decide) ?_
  clear hc tm
  intro tm hc
  refine st_assign ?_
  rw [hc.acc]
  refine wpList_nil ?_
  show Code.wp _ _ _ _ _
  refine wp_ret ?_
  refine bodyPost_ret (results_tmp rfl _ _ _) rfl ?_
  refine ⟨?_, Drawn0.refl _⟩
  show Ending.returned ((tm.setIfInBounds 2 _).getD 2 undef) = _
  rw [getD_set_same _ _ _ (by rw [hc.size]; decide)]

/-! ### chars_space: function 206 -/
def chars_space.f (a0 : Int) : Option (Bool) := if a0 ≥ 9 then (if a0 ≤ 13 then (some true) else (if a0 = 32 then (some true) else (if a0 = 133 then (some true) else (if a0 = 160 then (some true) else (if a0 ≥ 8192 then (if a0 ≤ 8202 then (some true) else (if a0 ≥ 8232 then (if a0 ≤ 8233 then (some true) else (if a0 = 8239 then (some true) else (if a0 = 8287 then (some true) else (some (a0 == 12288))))) else (if a0 = 8239 then (some true) else (if a0 = 8287 then (some true) else (some (a0 == 12288)))))) else (if a0 ≥ 8232 then (if a0 ≤ 8233 then (some true) else (if a0 = 8239 then (some true) else (if a0 = 8287 then (some true) else (some (a0 == 12288))))) else (if a0 = 8239 then (some true) else (if a0 = 8287 then (some true) else (some (a0 == 12288)))))))))) else (if a0 = 32 then (some true) else (if a0 = 133 then (some true) else (if a0 = 160 then (some true) else (if a0 ≥ 8192 then (if a0 ≤ 8202 then (some true) else (if a0 ≥ 8232 then (if a0 ≤ 8233 then (some true) else (if a0 = 8239 then (some true) else (if a0 = 8287 then (some true) else (some (a0 == 12288))))) else (if a0 = 8239 then (some true) else (if a0 = 8287 then (some true) else (some (a0 == 12288)))))) else (if a0 ≥ 8232 then (if a0 ≤ 8233 then (some true) else (if a0 = 8239 then (some true) else (if a0 = 8287 then (some true) else (some (a0 == 12288))))) else (if a0 = 8239 then (some true) else (if a0 = 8287 then (some true) else (some (a0 == 12288)))))))))
set_option maxHeartbeats 8000000 in
set_option maxRecDepth 100000 in
theorem chars_space.calls (a0 : Int) (r : Bool) (w : World) (h : chars_space.f a0 = some r) :
  Calls Tryz.prog 206 #[.int .i32 a0] w fun e w' => e = .returned (.bool r) ∧ Drawn0 w w' := by
 have H := h
 clear h
 unfold chars_space.f at H
 by_cases c2 : a0 ≥ 9
 ·rw [if_pos c2] at H
  have c2b0 : decide (9 ≤ a0) = true := decide_eq_true c2
  clear c2
  by_cases c3 : a0 ≤ 13
  ·rw [if_pos c3] at H
   have c3b0 : decide (a0 ≤ 13) = true := decide_eq_true c3
   clear c3
   obtain rfl := sI H
   go_enter Tryz.func206, Tryz.ntmps206
   go_wp2
   go_ret
   exact ⟨zP, zD⟩
  ·rw [if_neg c3] at H
   have c3b0 : decide (a0 ≤ 13) = false := decide_eq_false c3
   clear c3
   by_cases c4 : a0 = 32
   ·rw [if_pos c4] at H
    have c4b0 : (a0 == 32) = true := beq_iff_eq.mpr c4
    have c4b1 : (a0 != 32) = false := bne_eq_false_iff_eq.mpr c4
    clear c4
    obtain rfl := sI H
    go_enter Tryz.func206, Tryz.ntmps206
    go_wp2
    go_ret
    exact ⟨zP, zD⟩
   ·rw [if_neg c4] at H
    have c4b0 : (a0 == 32) = false := beq_eq_false_iff_ne.mpr c4
    have c4b1 : (a0 != 32) = true := bne_iff_ne.mpr c4
    by_cases c5 : a0 = 133
    ·rw [if_pos c5] at H
     have c5b0 : (a0 == 133) = true := beq_iff_eq.mpr c5
     have c5b1 : (a0 != 133) = false := bne_eq_false_iff_eq.mpr c5
     clear c5
     obtain rfl := sI H
     go_enter Tryz.func206, Tryz.ntmps206
     go_wp2
     go_ret
     exact ⟨zP, zD⟩
    ·rw [if_neg c5] at H
     have c5b0 : (a0 == 133) = false := beq_eq_false_iff_ne.mpr c5
     have c5b1 : (a0 != 133) = true := bne_iff_ne.mpr c5
     by_cases c6 : a0 = 160
     ·rw [if_pos c6] at H
      have c6b0 : (a0 == 160) = true := beq_iff_eq.mpr c6
      have c6b1 : (a0 != 160) = false := bne_eq_false_iff_eq.mpr c6
      clear c6
      obtain rfl := sI H
      go_enter Tryz.func206, Tryz.ntmps206
      go_wp2
      go_ret
      exact ⟨zP, zD⟩
     ·rw [if_neg c6] at H
      have c6b0 : (a0 == 160) = false := beq_eq_false_iff_ne.mpr c6
      have c6b1 : (a0 != 160) = true := bne_iff_ne.mpr c6
      by_cases c7 : a0 ≥ 8192
      ·rw [if_pos c7] at H
       have c7b0 : decide (8192 ≤ a0) = true := decide_eq_true c7
       clear c7
       by_cases c8 : a0 ≤ 8202
       ·rw [if_pos c8] at H
        have c8b0 : decide (a0 ≤ 8202) = true := decide_eq_true c8
        clear c8
        obtain rfl := sI H
        go_enter Tryz.func206, Tryz.ntmps206
        go_wp2
        go_ret
        exact ⟨zP, zD⟩
       ·rw [if_neg c8] at H
        have c8b0 : decide (a0 ≤ 8202) = false := decide_eq_false c8
        clear c8
        by_cases c9 : a0 ≥ 8232
        ·rw [if_pos c9] at H
         have c9b0 : decide (8232 ≤ a0) = true := decide_eq_true c9
         clear c9
         by_cases c10 : a0 ≤ 8233
         ·rw [if_pos c10] at H
          have c10b0 : decide (a0 ≤ 8233) = true := decide_eq_true c10
          clear c10
          obtain rfl := sI H
          go_enter Tryz.func206, Tryz.ntmps206
          go_wp2
          go_ret
          exact ⟨zP, zD⟩
         ·rw [if_neg c10] at H
          have c10b0 : decide (a0 ≤ 8233) = false := decide_eq_false c10
          clear c10
          by_cases c11 : a0 = 8239
          ·rw [if_pos c11] at H
           have c11b0 : (a0 == 8239) = true := beq_iff_eq.mpr c11
           have c11b1 : (a0 != 8239) = false := bne_eq_false_iff_eq.mpr c11
           clear c11
           obtain rfl := sI H
           go_enter Tryz.func206, Tryz.ntmps206
           go_wp2
           go_ret
           exact ⟨zP, zD⟩
          ·rw [if_neg c11] at H
           have c11b0 : (a0 == 8239) = false := beq_eq_false_iff_ne.mpr c11
           have c11b1 : (a0 != 8239) = true := bne_iff_ne.mpr c11
           by_cases c12 : a0 = 8287
           ·rw [if_pos c12] at H
            have c12b0 : (a0 == 8287) = true := beq_iff_eq.mpr c12
            have c12b1 : (a0 != 8287) = false := bne_eq_false_iff_eq.mpr c12
            clear c12
            obtain rfl := sI H
            go_enter Tryz.func206, Tryz.ntmps206
            go_wp2
            go_ret
            exact ⟨zP, zD⟩
           ·rw [if_neg c12] at H
            have c12b0 : (a0 == 8287) = false := beq_eq_false_iff_ne.mpr c12
            have c12b1 : (a0 != 8287) = true := bne_iff_ne.mpr c12
            obtain rfl := sI H
            go_enter Tryz.func206, Tryz.ntmps206
            go_wp2
            go_ret
            exact ⟨zP, zD⟩
        ·rw [if_neg c9] at H
         have c9b0 : decide (8232 ≤ a0) = false := decide_eq_false c9
         clear c9
         by_cases c13 : a0 = 8239
         ·rw [if_pos c13] at H
          have c13b0 : (a0 == 8239) = true := beq_iff_eq.mpr c13
          have c13b1 : (a0 != 8239) = false := bne_eq_false_iff_eq.mpr c13
          clear c13
          obtain rfl := sI H
          go_enter Tryz.func206, Tryz.ntmps206
          go_wp2
          go_ret
          exact ⟨zP, zD⟩
         ·rw [if_neg c13] at H
          have c13b0 : (a0 == 8239) = false := beq_eq_false_iff_ne.mpr c13
          have c13b1 : (a0 != 8239) = true := bne_iff_ne.mpr c13
          by_cases c14 : a0 = 8287
          ·rw [if_pos c14] at H
           have c14b0 : (a0 == 8287) = true := beq_iff_eq.mpr c14
           have c14b1 : (a0 != 8287) = false := bne_eq_false_iff_eq.mpr c14
           clear c14
           obtain rfl := sI H
           go_enter Tryz.func206, Tryz.ntmps206
           go_wp2
           go_ret
           exact ⟨zP, zD⟩
          ·rw [if_neg c14] at H
           have c14b0 : (a0 == 8287) = false := beq_eq_false_iff_ne.mpr c14
           have c14b1 : (a0 != 8287) = true := bne_iff_ne.mpr c14
           obtain rfl := sI H
           go_enter Tryz.func206, Tryz.ntmps206
           go_wp2
           go_ret
           exact ⟨zP, zD⟩
      ·rw [if_neg c7] at H
       have c7b0 : decide (8192 ≤ a0) = false := decide_eq_false c7
       clear c7
       by_cases c15 : a0 ≥ 8232
       ·rw [if_pos c15] at H
        have c15b0 : decide (8232 ≤ a0) = true := decide_eq_true c15
        clear c15
        by_cases c16 : a0 ≤ 8233
        ·rw [if_pos c16] at H
         have c16b0 : decide (a0 ≤ 8233) = true := decide_eq_true c16
         clear c16
         obtain rfl := sI H
         go_enter Tryz.func206, Tryz.ntmps206
         go_wp2
         go_ret
         exact ⟨zP, zD⟩
        ·rw [if_neg c16] at H
         have c16b0 : decide (a0 ≤ 8233) = false := decide_eq_false c16
         clear c16
         by_cases c17 : a0 = 8239
         ·rw [if_pos c17] at H
          have c17b0 : (a0 == 8239) = true := beq_iff_eq.mpr c17
          have c17b1 : (a0 != 8239) = false := bne_eq_false_iff_eq.mpr c17
          clear c17
          obtain rfl := sI H
          go_enter Tryz.func206, Tryz.ntmps206
          go_wp2
          go_ret
          exact ⟨zP, zD⟩
         ·rw [if_neg c17] at H
          have c17b0 : (a0 == 8239) = false := beq_eq_false_iff_ne.mpr c17
          have c17b1 : (a0 != 8239) = true := bne_iff_ne.mpr c17
          by_cases c18 : a0 = 8287
          ·rw [if_pos c18] at H
           have c18b0 : (a0 == 8287) = true := beq_iff_eq.mpr c18
           have c18b1 : (a0 != 8287) = false := bne_eq_false_iff_eq.mpr c18
           clear c18
           obtain rfl := sI H
           go_enter Tryz.func206, Tryz.ntmps206
           go_wp2
           go_ret
           exact ⟨zP, zD⟩
          ·rw [if_neg c18] at H
           have c18b0 : (a0 == 8287) = false := beq_eq_false_iff_ne.mpr c18
           have c18b1 : (a0 != 8287) = true := bne_iff_ne.mpr c18
           obtain rfl := sI H
           go_enter Tryz.func206, Tryz.ntmps206
           go_wp2
           go_ret
           exact ⟨zP, zD⟩
       ·rw [if_neg c15] at H
        have c15b0 : decide (8232 ≤ a0) = false := decide_eq_false c15
        clear c15
        by_cases c19 : a0 = 8239
        ·rw [if_pos c19] at H
         have c19b0 : (a0 == 8239) = true := beq_iff_eq.mpr c19
         have c19b1 : (a0 != 8239) = false := bne_eq_false_iff_eq.mpr c19
         clear c19
         obtain rfl := sI H
         go_enter Tryz.func206, Tryz.ntmps206
         go_wp2
         go_ret
         exact ⟨zP, zD⟩
        ·rw [if_neg c19] at H
         have c19b0 : (a0 == 8239) = false := beq_eq_false_iff_ne.mpr c19
         have c19b1 : (a0 != 8239) = true := bne_iff_ne.mpr c19
         by_cases c20 : a0 = 8287
         ·rw [if_pos c20] at H
          have c20b0 : (a0 == 8287) = true := beq_iff_eq.mpr c20
          have c20b1 : (a0 != 8287) = false := bne_eq_false_iff_eq.mpr c20
          clear c20
          obtain rfl := sI H
          go_enter Tryz.func206, Tryz.ntmps206
          go_wp2
          go_ret
          exact ⟨zP, zD⟩
         ·rw [if_neg c20] at H
          have c20b0 : (a0 == 8287) = false := beq_eq_false_iff_ne.mpr c20
          have c20b1 : (a0 != 8287) = true := bne_iff_ne.mpr c20
          obtain rfl := sI H
          go_enter Tryz.func206, Tryz.ntmps206
          go_wp2
          go_ret
          exact ⟨zP, zD⟩
 ·rw [if_neg c2] at H
  have c2b0 : decide (9 ≤ a0) = false := decide_eq_false c2
  clear c2
  by_cases c21 : a0 = 32
  ·rw [if_pos c21] at H
   have c21b0 : (a0 == 32) = true := beq_iff_eq.mpr c21
   have c21b1 : (a0 != 32) = false := bne_eq_false_iff_eq.mpr c21
   clear c21
   obtain rfl := sI H
   go_enter Tryz.func206, Tryz.ntmps206
   go_wp2
   go_ret
   exact ⟨zP, zD⟩
  ·rw [if_neg c21] at H
   have c21b0 : (a0 == 32) = false := beq_eq_false_iff_ne.mpr c21
   have c21b1 : (a0 != 32) = true := bne_iff_ne.mpr c21
   by_cases c22 : a0 = 133
   ·rw [if_pos c22] at H
    have c22b0 : (a0 == 133) = true := beq_iff_eq.mpr c22
    have c22b1 : (a0 != 133) = false := bne_eq_false_iff_eq.mpr c22
    clear c22
    obtain rfl := sI H
    go_enter Tryz.func206, Tryz.ntmps206
    go_wp2
    go_ret
    exact ⟨zP, zD⟩
   ·rw [if_neg c22] at H
    have c22b0 : (a0 == 133) = false := beq_eq_false_iff_ne.mpr c22
    have c22b1 : (a0 != 133) = true := bne_iff_ne.mpr c22
    by_cases c23 : a0 = 160
    ·rw [if_pos c23] at H
     have c23b0 : (a0 == 160) = true := beq_iff_eq.mpr c23
     have c23b1 : (a0 != 160) = false := bne_eq_false_iff_eq.mpr c23
     clear c23
     obtain rfl := sI H
     go_enter Tryz.func206, Tryz.ntmps206
     go_wp2
     go_ret
     exact ⟨zP, zD⟩
    ·rw [if_neg c23] at H
     have c23b0 : (a0 == 160) = false := beq_eq_false_iff_ne.mpr c23
     have c23b1 : (a0 != 160) = true := bne_iff_ne.mpr c23
     by_cases c24 : a0 ≥ 8192
     ·rw [if_pos c24] at H
      have c24b0 : decide (8192 ≤ a0) = true := decide_eq_true c24
      clear c24
      by_cases c25 : a0 ≤ 8202
      ·rw [if_pos c25] at H
       have c25b0 : decide (a0 ≤ 8202) = true := decide_eq_true c25
       clear c25
       obtain rfl := sI H
       go_enter Tryz.func206, Tryz.ntmps206
       go_wp2
       go_ret
       exact ⟨zP, zD⟩
      ·rw [if_neg c25] at H
       have c25b0 : decide (a0 ≤ 8202) = false := decide_eq_false c25
       clear c25
       by_cases c26 : a0 ≥ 8232
       ·rw [if_pos c26] at H
        have c26b0 : decide (8232 ≤ a0) = true := decide_eq_true c26
        clear c26
        by_cases c27 : a0 ≤ 8233
        ·rw [if_pos c27] at H
         have c27b0 : decide (a0 ≤ 8233) = true := decide_eq_true c27
         clear c27
         obtain rfl := sI H
         go_enter Tryz.func206, Tryz.ntmps206
         go_wp2
         go_ret
         exact ⟨zP, zD⟩
        ·rw [if_neg c27] at H
         have c27b0 : decide (a0 ≤ 8233) = false := decide_eq_false c27
         clear c27
         by_cases c28 : a0 = 8239
         ·rw [if_pos c28] at H
          have c28b0 : (a0 == 8239) = true := beq_iff_eq.mpr c28
          have c28b1 : (a0 != 8239) = false := bne_eq_false_iff_eq.mpr c28
          clear c28
          obtain rfl := sI H
          go_enter Tryz.func206, Tryz.ntmps206
          go_wp2
          go_ret
          exact ⟨zP, zD⟩
         ·rw [if_neg c28] at H
          have c28b0 : (a0 == 8239) = false := beq_eq_false_iff_ne.mpr c28
          have c28b1 : (a0 != 8239) = true := bne_iff_ne.mpr c28
          by_cases c29 : a0 = 8287
          ·rw [if_pos c29] at H
           have c29b0 : (a0 == 8287) = true := beq_iff_eq.mpr c29
           have c29b1 : (a0 != 8287) = false := bne_eq_false_iff_eq.mpr c29
           clear c29
           obtain rfl := sI H
           go_enter Tryz.func206, Tryz.ntmps206
           go_wp2
           go_ret
           exact ⟨zP, zD⟩
          ·rw [if_neg c29] at H
           have c29b0 : (a0 == 8287) = false := beq_eq_false_iff_ne.mpr c29
           have c29b1 : (a0 != 8287) = true := bne_iff_ne.mpr c29
           obtain rfl := sI H
           go_enter Tryz.func206, Tryz.ntmps206
           go_wp2
           go_ret
           exact ⟨zP, zD⟩
       ·rw [if_neg c26] at H
        have c26b0 : decide (8232 ≤ a0) = false := decide_eq_false c26
        clear c26
        by_cases c30 : a0 = 8239
        ·rw [if_pos c30] at H
         have c30b0 : (a0 == 8239) = true := beq_iff_eq.mpr c30
         have c30b1 : (a0 != 8239) = false := bne_eq_false_iff_eq.mpr c30
         clear c30
         obtain rfl := sI H
         go_enter Tryz.func206, Tryz.ntmps206
         go_wp2
         go_ret
         exact ⟨zP, zD⟩
        ·rw [if_neg c30] at H
         have c30b0 : (a0 == 8239) = false := beq_eq_false_iff_ne.mpr c30
         have c30b1 : (a0 != 8239) = true := bne_iff_ne.mpr c30
         by_cases c31 : a0 = 8287
         ·rw [if_pos c31] at H
          have c31b0 : (a0 == 8287) = true := beq_iff_eq.mpr c31
          have c31b1 : (a0 != 8287) = false := bne_eq_false_iff_eq.mpr c31
          clear c31
          obtain rfl := sI H
          go_enter Tryz.func206, Tryz.ntmps206
          go_wp2
          go_ret
          exact ⟨zP, zD⟩
         ·rw [if_neg c31] at H
          have c31b0 : (a0 == 8287) = false := beq_eq_false_iff_ne.mpr c31
          have c31b1 : (a0 != 8287) = true := bne_iff_ne.mpr c31
          obtain rfl := sI H
          go_enter Tryz.func206, Tryz.ntmps206
          go_wp2
          go_ret
          exact ⟨zP, zD⟩
     ·rw [if_neg c24] at H
      have c24b0 : decide (8192 ≤ a0) = false := decide_eq_false c24
      clear c24
      by_cases c32 : a0 ≥ 8232
      ·rw [if_pos c32] at H
       have c32b0 : decide (8232 ≤ a0) = true := decide_eq_true c32
       clear c32
       by_cases c33 : a0 ≤ 8233
       ·rw [if_pos c33] at H
        have c33b0 : decide (a0 ≤ 8233) = true := decide_eq_true c33
        clear c33
        obtain rfl := sI H
        go_enter Tryz.func206, Tryz.ntmps206
        go_wp2
        go_ret
        exact ⟨zP, zD⟩
       ·rw [if_neg c33] at H
        have c33b0 : decide (a0 ≤ 8233) = false := decide_eq_false c33
        clear c33
        by_cases c34 : a0 = 8239
        ·rw [if_pos c34] at H
         have c34b0 : (a0 == 8239) = true := beq_iff_eq.mpr c34
         have c34b1 : (a0 != 8239) = false := bne_eq_false_iff_eq.mpr c34
         clear c34
         obtain rfl := sI H
         go_enter Tryz.func206, Tryz.ntmps206
         go_wp2
         go_ret
         exact ⟨zP, zD⟩
        ·rw [if_neg c34] at H
         have c34b0 : (a0 == 8239) = false := beq_eq_false_iff_ne.mpr c34
         have c34b1 : (a0 != 8239) = true := bne_iff_ne.mpr c34
         by_cases c35 : a0 = 8287
         ·rw [if_pos c35] at H
          have c35b0 : (a0 == 8287) = true := beq_iff_eq.mpr c35
          have c35b1 : (a0 != 8287) = false := bne_eq_false_iff_eq.mpr c35
          clear c35
          obtain rfl := sI H
          go_enter Tryz.func206, Tryz.ntmps206
          go_wp2
          go_ret
          exact ⟨zP, zD⟩
         ·rw [if_neg c35] at H
          have c35b0 : (a0 == 8287) = false := beq_eq_false_iff_ne.mpr c35
          have c35b1 : (a0 != 8287) = true := bne_iff_ne.mpr c35
          obtain rfl := sI H
          go_enter Tryz.func206, Tryz.ntmps206
          go_wp2
          go_ret
          exact ⟨zP, zD⟩
      ·rw [if_neg c32] at H
       have c32b0 : decide (8232 ≤ a0) = false := decide_eq_false c32
       clear c32
       by_cases c36 : a0 = 8239
       ·rw [if_pos c36] at H
        have c36b0 : (a0 == 8239) = true := beq_iff_eq.mpr c36
        have c36b1 : (a0 != 8239) = false := bne_eq_false_iff_eq.mpr c36
        clear c36
        obtain rfl := sI H
        go_enter Tryz.func206, Tryz.ntmps206
        go_wp2
        go_ret
        exact ⟨zP, zD⟩
       ·rw [if_neg c36] at H
        have c36b0 : (a0 == 8239) = false := beq_eq_false_iff_ne.mpr c36
        have c36b1 : (a0 != 8239) = true := bne_iff_ne.mpr c36
        by_cases c37 : a0 = 8287
        ·rw [if_pos c37] at H
         have c37b0 : (a0 == 8287) = true := beq_iff_eq.mpr c37
         have c37b1 : (a0 != 8287) = false := bne_eq_false_iff_eq.mpr c37
         clear c37
         obtain rfl := sI H
         go_enter Tryz.func206, Tryz.ntmps206
         go_wp2
         go_ret
         exact ⟨zP, zD⟩
        ·rw [if_neg c37] at H
         have c37b0 : (a0 == 8287) = false := beq_eq_false_iff_ne.mpr c37
         have c37b1 : (a0 != 8287) = true := bne_iff_ne.mpr c37
         obtain rfl := sI H
         go_enter Tryz.func206, Tryz.ntmps206
         go_wp2
         go_ret
         exact ⟨zP, zD⟩

/-! ### chars_gone: function 207, by hand (chars.gone.tpl) -/
def chars_gone.f (a0 : Int) : Option (Bool) := some (((((((((((((decide (0 ≤ a0) && decide (a0 ≤ 8)) || (decide (14 ≤ a0) && decide (a0 ≤ 31))) || (decide (127 ≤ a0) && decide (a0 ≤ 132))) || (decide (134 ≤ a0) && decide (a0 ≤ 159))) || (a0 == 173)) || (a0 == 847)) || (decide (8203 ≤ a0) && decide (a0 ≤ 8207))) || (decide (8234 ≤ a0) && decide (a0 ≤ 8238))) || (decide (8288 ≤ a0) && decide (a0 ≤ 8291))) || (decide (8298 ≤ a0) && decide (a0 ≤ 8303))) || (decide (65024 ≤ a0) && decide (a0 ≤ 65039))) || (a0 == 65279)) || (decide (65529 ≤ a0) && decide (a0 ≤ 65532)))
set_option maxHeartbeats 8000000 in
set_option maxRecDepth 100000 in
theorem chars_gone.calls (a0 : Int) (r : Bool) (w : World) (h : chars_gone.f a0 = some r) :
    Calls Tryz.prog 207 #[.int .i32 a0] w fun e w' => e = .returned (.bool r) ∧ Drawn0 w w' := by
  obtain rfl := Option.some.inj h
  clear h
  go_enter Tryz.func207, Tryz.ntmps207
  refine wp_seq ?_
  refine wp_region_lit ?_
  refine wpList_step fun K0 hK0 => ?_
  refine hK0 _ _ ?_
  refine wpList_nil ?_
  show Code.wp _ _ _ _ _
  refine wp_seq ?_
  refine wp_region_lit ?_
  refine cl_first (N := 93) (j := 2) (r := a0) rfl rfl rfl (by decide) (by decide) ?_
  intro tm hc
  refine cl_range hc (i := 6) (j := 9) rfl rfl (by decide) (by decide) (by decide) ?_
  clear hc tm
  intro tm hc
  refine cl_range hc (i := 14) (j := 17) rfl rfl (by decide) (by decide) (by decide) ?_
  clear hc tm
  intro tm hc
  refine cl_range hc (i := 22) (j := 25) rfl rfl (by decide) (by decide) (by decide) ?_
  clear hc tm
  intro tm hc
  refine cl_one Tryz.underlying21 hc (i := 30) rfl (by decide) (by decide) (by decide) ?_
  clear hc tm
  intro tm hc
  refine cl_one Tryz.underlying21 hc (i := 34) rfl (by decide) (by decide) (by decide) ?_
  clear hc tm
  intro tm hc
  refine cl_range hc (i := 38) (j := 41) rfl rfl (by decide) (by decide) (by decide) ?_
  clear hc tm
  intro tm hc
  refine cl_range hc (i := 46) (j := 49) rfl rfl (by decide) (by decide) (by decide) ?_
  clear hc tm
  intro tm hc
  refine cl_range hc (i := 54) (j := 57) rfl rfl (by decide) (by decide) (by decide) ?_
  clear hc tm
  intro tm hc
  refine cl_range hc (i := 62) (j := 65) rfl rfl (by decide) (by decide) (by decide) ?_
  clear hc tm
  intro tm hc
  refine cl_range hc (i := 70) (j := 73) rfl rfl (by decide) (by decide) (by decide) ?_
  clear hc tm
  intro tm hc
  refine cl_one Tryz.underlying21 hc (i := 78) rfl (by decide) (by decide) (by decide) ?_
  clear hc tm
  intro tm hc
  refine cl_range hc (i := 82) (j := 85) rfl rfl (by decide) (by decide) (by decide) ?_
  clear hc tm
  intro tm hc
  refine st_assign ?_
  rw [hc.acc]
  refine wpList_nil ?_
  show Code.wp _ _ _ _ _
  refine wp_ret ?_
  refine bodyPost_ret (results_tmp rfl _ _ _) rfl ?_
  refine ⟨?_, Drawn0.refl _⟩
  show Ending.returned ((tm.setIfInBounds 2 _).getD 2 undef) = _
  rw [getD_set_same _ _ _ (by rw [hc.size]; decide)]

end Go.Proofs.YtdgnekknmpfepaaGreatDoor.P
