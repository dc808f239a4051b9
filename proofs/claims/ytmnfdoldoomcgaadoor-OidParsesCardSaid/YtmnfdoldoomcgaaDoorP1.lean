-- Printed by wip/mk.py (this session's driver over the kit's print) and from wip/manual.
import Derived.Test.YtmnfdoldoomcgaaDoorP0
namespace Go.Proofs.YtmnfdoldoomcgaaDoor.P
open Go.RowKit Go.Proofs.YtmnfdoldoomcgaaDoorW.PrintWords Go.Proofs.YtmnfdoldoomcgaaDoorW.PrintLast Go.Proofs.YtmnfdoldoomcgaaDoorW.PrintMore
attribute [local go_sem] max2_int min2_int max_two min_two max_three min_three max_four min_four   -- for this text's walks alone
set_option linter.unusedVariables false
set_option linter.unusedSimpArgs false

/-! ### oid_Check_1: function 27 -/
def oid_Check_1.f (a0 : Int) : Option (Bool) := if a0 < 0 then (some true) else (some (decide (a0 > 99999)))
set_option maxHeartbeats 8000000 in
set_option maxRecDepth 100000 in
theorem oid_Check_1.calls (a0 : Int) (r : Bool) (w : World) (h : oid_Check_1.f a0 = some r) :
  Calls Tryd.prog 27 #[.int .i64 a0] w fun e w' => e = .returned (.bool r) ∧ Drawn0 w w' := by
 have H := h
 clear h
 unfold oid_Check_1.f at H
 by_cases c2 : a0 < 0
 ·rw [if_pos c2] at H
  have c2b0 : decide (a0 < 0) = true := decide_eq_true c2
  clear c2
  obtain rfl := sI H
  go_enter Tryd.func27, Tryd.ntmps27
  go_wp2
  go_ret
  exact ⟨zP, zD⟩
 ·rw [if_neg c2] at H
  have c2b0 : decide (a0 < 0) = false := decide_eq_false c2
  clear c2
  obtain rfl := sI H
  go_enter Tryd.func27, Tryd.ntmps27
  go_wp2
  go_ret
  exact ⟨zP, zD⟩

/-! ### slices_IndexFunc_int_int_oid_Check_1: function 115 -/
def slices_IndexFunc_int_int_oid_Check_1.l0 : Nat → List Int → Int → Int → Option (Int)
 | 0, _, _, _ => none
 | k + 1, x0, x7, x8 => if x8 < x7 then (if 0 ≤ x8 then (if x8 < (x0.length : Int) then ((oid_Check_1.f (rd x0 x8)).bind fun t102 => (if t102 = true then (some x8) else (slices_IndexFunc_int_int_oid_Check_1.l0 k x0 x7 (wrap64 (x8 + 1))))) else (none)) else (none)) else (some (-1))
def slices_IndexFunc_int_int_oid_Check_1.f (k : Nat) (l0 : List Int) (a1 : Int) : Option (Int) := slices_IndexFunc_int_int_oid_Check_1.l0 k l0 (l0.length : Int) 0
theorem slices_IndexFunc_int_int_oid_Check_1.mono_l : ∀ k, (∀ y0 y1 y2, LeO (slices_IndexFunc_int_int_oid_Check_1.l0 k y0 y1 y2) (slices_IndexFunc_int_int_oid_Check_1.l0 (k + 1) y0 y1 y2))
 | 0 => fun _ _ _ r h => by simp [slices_IndexFunc_int_int_oid_Check_1.l0] at h
 | k + 1 => by
  have ih0 := slices_IndexFunc_int_int_oid_Check_1.mono_l k
  ·intro y0 y1 y2
   unfold slices_IndexFunc_int_int_oid_Check_1.l0
   repeat' first
   | (with_reducible exact ih0 _ _ _)
   | (with_reducible exact LeO.refl _)
   | exact ih0 _ _ _
   | exact LeO.none _
   | refine LeO.ite ?_ ?_
   | refine LeO.bind ?_ (fun _ => ?_)
theorem slices_IndexFunc_int_int_oid_Check_1.mono : ∀ a0 a1 k, LeO (slices_IndexFunc_int_int_oid_Check_1.f k a0 a1) (slices_IndexFunc_int_int_oid_Check_1.f (k + 1) a0 a1) := by
 intro a0 a1 k
 have ih0 := slices_IndexFunc_int_int_oid_Check_1.mono_l k
 unfold slices_IndexFunc_int_int_oid_Check_1.f
 repeat' first
   | (with_reducible exact ih0 _ _ _)
   | (with_reducible exact LeO.refl _)
   | exact ih0 _ _ _
   | exact LeO.none _
   | refine LeO.ite ?_ ?_
   | refine LeO.bind ?_ (fun _ => ?_)
set_option maxHeartbeats 8000000 in
set_option maxRecDepth 100000 in
theorem slices_IndexFunc_int_int_oid_Check_1.calls (k : Nat) (A0 : Option Addr) (c0 : Nat) (l0 : List Int) (a1 : Int) (r : Int) (w : World) (hr0 : Kd.C (Kd.int .i64) w A0 l0.length l0) (hc0 : l0.length ≤ c0) (h : slices_IndexFunc_int_int_oid_Check_1.f k l0 a1 = some r) :
  Calls Tryd.prog 37 #[.slice A0 l0.length c0, .func (.func 27) #[] #[]] w fun e w' => e = .returned (.int .i64 r) ∧ Drawn0 w w' := by
 have HR0 := aM hr0
 have HC0 := aM hc0
 clear hr0 hc0
 have H := h
 clear h
 unfold slices_IndexFunc_int_int_oid_Check_1.f at H
 have H' := aM H
 clear H
 go_enter Tryd.func37, Tryd.ntmps37
 go_wp2
 go_loopg [8] k (fun kq v8 w' => ∃ (x8_1 : Int), v8 = .int .i64 x8_1 ∧ Aside0 (slices_IndexFunc_int_int_oid_Check_1.l0 kq l0 (l0.length : Int) x8_1 = some r) ∧ Aside0 (kq ≤ k) ∧ Drawn0 w w')
 case atStart => exact ⟨(0), zP, H', ⟨Nat.le_refl _⟩, zD⟩
 case round =>
  clear H'
  try clear c1
  try clear p2
  obtain ⟨x8_1, rfl, HA, HK1, ⟨m1, rfl⟩⟩ := hrel
  cases gk with
  | zero => exact absurd HA.out (by simp [slices_IndexFunc_int_int_oid_Check_1.l0])
  | succ k1 =>
   have H := HA.out
   clear HA
   simp only [slices_IndexFunc_int_int_oid_Check_1.l0] at H
   by_cases c3 : x8_1 < (l0.length : Int)
   ·rw [if_pos c3] at H
    have c3b0 : decide (x8_1 < (l0.length : Int)) = true := decide_eq_true c3
    clear c3
    by_cases c4 : 0 ≤ x8_1
    ·rw [if_pos c4] at H
     have c4b0 : decide (0 ≤ x8_1) = true := decide_eq_true c4
     clear c4
     by_cases c5 : x8_1 < (l0.length : Int)
     ·rw [if_pos c5] at H
      have c5b0 : decide (x8_1 < (l0.length : Int)) = true := decide_eq_true c5
      clear c5
      obtain ⟨t102, A6, H⟩ := zO H
      by_cases c7 : t102 = true
      ·subst c7
       rw [if_pos rfl] at H
       obtain rfl := sI H
       have p101 : 0 ≤ (x8_1 : Int) := zoA
       have q101 : x8_1 < (l0.length : Int) := zoA
       obtain ⟨ad101, e101, hx101_0⟩ := Kd.at_int HR0.out x8_1 p101 q101
       cases e101
       replace p101 := eq_true p101
       replace q101 := eq_true q101
       go_wp2_with (first | ((with_reducible refine gate_tmp (x := 11) rfl ?_); refine goesLT_ (some 16) (x := 11) rfl rfl rfl Tryd.func27 zK rfl #[.int .i64 (rd l0 x8_1)] rfl zM ?_; (with_reducible refine (oid_Check_1.calls (rd l0 x8_1) true _ A6.out).mono ?_); rintro e w' ⟨rfl, ⟨nd, rfl⟩⟩; refine ⟨_, rfl, ?_⟩))
       go_ret
       exact ⟨zP, zD⟩
      ·replace c7 := Bool.eq_false_iff.mpr c7
       subst c7
       rw [if_neg (show ¬ (false = true) by decide)] at H
       have H' := aM H
       clear H
       have p101 : 0 ≤ (x8_1 : Int) := zoA
       have q101 : x8_1 < (l0.length : Int) := zoA
       obtain ⟨ad101, e101, hx101_0⟩ := Kd.at_int HR0.out x8_1 p101 q101
       cases e101
       replace p101 := eq_true p101
       replace q101 := eq_true q101
       go_wp2_with (first | ((with_reducible refine gate_tmp (x := 11) rfl ?_); refine goesLT_ (some 16) (x := 11) rfl rfl rfl Tryd.func27 zK rfl #[.int .i64 (rd l0 x8_1)] rfl zM ?_; (with_reducible refine (oid_Check_1.calls (rd l0 x8_1) false _ A6.out).mono ?_); rintro e w' ⟨rfl, ⟨nd, rfl⟩⟩; refine ⟨_, rfl, ?_⟩))
       go_roundg k1
       case measure => have := HK1.out; omega
       case rel => exact ⟨(wrap64 (x8_1 + 1)), zP, H', ⟨by have := HK1.out; omega⟩, zD⟩
     ·rw [if_neg c5] at H
      exact absurd H (by simp)
    ·rw [if_neg c4] at H
     exact absurd H (by simp)
   ·rw [if_neg c3] at H
    have c3b0 : decide (x8_1 < (l0.length : Int)) = false := decide_eq_false c3
    clear c3
    obtain rfl := sI H
    go_wp2
    go_ret
    exact ⟨zP, zD⟩

/-! ### slices_ContainsFunc_int_int_oid_Check_1: function 114 -/
def slices_ContainsFunc_int_int_oid_Check_1.f (k : Nat) (l0 : List Int) (a1 : Int) : Option (Bool) := (slices_IndexFunc_int_int_oid_Check_1.f k l0 7770027).bind fun t103 => (some (decide (t103 ≥ 0)))
theorem slices_ContainsFunc_int_int_oid_Check_1.mono : ∀ a0 a1 k, LeO (slices_ContainsFunc_int_int_oid_Check_1.f k a0 a1) (slices_ContainsFunc_int_int_oid_Check_1.f (k + 1) a0 a1) := by
 intro a0 a1 k
 unfold slices_ContainsFunc_int_int_oid_Check_1.f
 repeat' first
   | (with_reducible exact slices_IndexFunc_int_int_oid_Check_1.mono _ _ _)
   | (with_reducible exact LeO.refl _)
   | exact slices_IndexFunc_int_int_oid_Check_1.mono _ _ _
   | exact LeO.none _
   | refine LeO.ite ?_ ?_
   | refine LeO.bind ?_ (fun _ => ?_)
set_option maxHeartbeats 8000000 in
set_option maxRecDepth 100000 in
theorem slices_ContainsFunc_int_int_oid_Check_1.calls (k : Nat) (A0 : Option Addr) (c0 : Nat) (l0 : List Int) (a1 : Int) (r : Bool) (w : World) (hr0 : Kd.C (Kd.int .i64) w A0 l0.length l0) (hc0 : l0.length ≤ c0) (h : slices_ContainsFunc_int_int_oid_Check_1.f k l0 a1 = some r) :
  Calls Tryd.prog 26 #[.slice A0 l0.length c0, .func (.func 27) #[] #[]] w fun e w' => e = .returned (.bool r) ∧ Drawn0 w w' := by
 have HR0 := aM hr0
 have HC0 := aM hc0
 clear hr0 hc0
 have H := h
 clear h
 unfold slices_ContainsFunc_int_int_oid_Check_1.f at H
 obtain ⟨t103, A3, H⟩ := zO H
 obtain rfl := sI H
 go_enter Tryd.func26, Tryd.ntmps26
 go_wp2_with (first | ((with_reducible refine gate_callee (f := 37) rfl ?_); refine goesL_ (some 7) rfl rfl Tryd.func37 zK rfl #[.slice A0 l0.length c0, .func (.func 27) #[] #[]] rfl zM ?_; (with_reducible refine (slices_IndexFunc_int_int_oid_Check_1.calls k _ _ l0 7770027 t103 _ ?side1 ?side2 A3.out).mono ?_); (case side1 => exact zC HR0.out); (case side2 => exact HC0.out); rintro e w' ⟨rfl, ⟨nd, rfl⟩⟩; refine ⟨_, rfl, ?_⟩))
 go_ret
 exact ⟨zP, zD⟩

/-! ### oid_Check: function 12 -/
def oid_Check.f (k : Nat) (l0 : List Int) : Option (Int) := (slices_ContainsFunc_int_int_oid_Check_1.f k l0 7770027).bind fun t104 => (if t104 = true then (some 170) else (if (l0.length : Int) < 2 then (some 170) else (if (l0.length : Int) > 12 then (some 170) else (if 0 < (l0.length : Int) then (if (rd l0 0) > 2 then (some 170) else (if (rd l0 0) < 2 then (if 1 < (l0.length : Int) then (if (rd l0 1) > 39 then (some 170) else (some 0)) else (none)) else (some 0))) else (none)))))
theorem oid_Check.mono : ∀ a0 k, LeO (oid_Check.f k a0) (oid_Check.f (k + 1) a0) := by
 intro a0 k
 unfold oid_Check.f
 repeat' first
   | (with_reducible exact slices_ContainsFunc_int_int_oid_Check_1.mono _ _ _)
   | (with_reducible exact LeO.refl _)
   | exact slices_ContainsFunc_int_int_oid_Check_1.mono _ _ _
   | exact LeO.none _
   | refine LeO.ite ?_ ?_
   | refine LeO.bind ?_ (fun _ => ?_)
set_option maxHeartbeats 8000000 in
set_option maxRecDepth 100000 in
theorem oid_Check.calls (k : Nat) (A0 : Option Addr) (c0 : Nat) (l0 : List Int) (r : Int) (w : World) (hr0 : Kd.C (Kd.int .i64) w A0 l0.length l0) (hc0 : l0.length ≤ c0) (h : oid_Check.f k l0 = some r) :
  Calls Tryd.prog 12 #[.slice A0 l0.length c0] w fun e w' => e = .returned (.int .i64 r) ∧ Drawn0 w w' := by
 have HR0 := aM hr0
 have HC0 := aM hc0
 clear hr0 hc0
 have H := h
 clear h
 unfold oid_Check.f at H
 obtain ⟨t104, A2, H⟩ := zO H
 by_cases c3 : t104 = true
 ·subst c3
  rw [if_pos rfl] at H
  obtain rfl := sI H
  go_enter Tryd.func12, Tryd.ntmps12
  go_wp2_with (first | ((with_reducible refine gate_callee (f := 26) rfl ?_); refine goesL_ (some 5) rfl rfl Tryd.func26 zK rfl #[.slice A0 l0.length c0, .func (.func 27) #[] #[]] rfl zM ?_; (with_reducible refine (slices_ContainsFunc_int_int_oid_Check_1.calls k _ _ l0 7770027 true _ ?side1 ?side2 A2.out).mono ?_); (case side1 => exact zC HR0.out); (case side2 => exact HC0.out); rintro e w' ⟨rfl, ⟨nd, rfl⟩⟩; refine ⟨_, rfl, ?_⟩))
  go_ret
  exact ⟨zP, zD⟩
 ·replace c3 := Bool.eq_false_iff.mpr c3
  subst c3
  rw [if_neg (show ¬ (false = true) by decide)] at H
  by_cases c4 : (l0.length : Int) < 2
  ·rw [if_pos c4] at H
   have c4b0 : decide ((l0.length : Int) < 2) = true := decide_eq_true c4
   have c4b1 : decide (l0.length < 2) = true := decide_eq_true (by omega)
   clear c4
   obtain rfl := sI H
   go_enter Tryd.func12, Tryd.ntmps12
   go_wp2_with (first | ((with_reducible refine gate_callee (f := 26) rfl ?_); refine goesL_ (some 5) rfl rfl Tryd.func26 zK rfl #[.slice A0 l0.length c0, .func (.func 27) #[] #[]] rfl zM ?_; (with_reducible refine (slices_ContainsFunc_int_int_oid_Check_1.calls k _ _ l0 7770027 false _ ?side1 ?side2 A2.out).mono ?_); (case side1 => exact zC HR0.out); (case side2 => exact HC0.out); rintro e w' ⟨rfl, ⟨nd, rfl⟩⟩; refine ⟨_, rfl, ?_⟩))
   go_ret
   exact ⟨zP, zD⟩
  ·rw [if_neg c4] at H
   have c4b0 : decide ((l0.length : Int) < 2) = false := decide_eq_false c4
   have c4b1 : decide (l0.length < 2) = false := decide_eq_false (by omega)
   clear c4
   by_cases c5 : (l0.length : Int) > 12
   ·rw [if_pos c5] at H
    have c5b0 : decide (12 < (l0.length : Int)) = true := decide_eq_true c5
    have c5b1 : decide (12 < l0.length) = true := decide_eq_true (by omega)
    clear c5
    obtain rfl := sI H
    go_enter Tryd.func12, Tryd.ntmps12
    go_wp2_with (first | ((with_reducible refine gate_callee (f := 26) rfl ?_); refine goesL_ (some 5) rfl rfl Tryd.func26 zK rfl #[.slice A0 l0.length c0, .func (.func 27) #[] #[]] rfl zM ?_; (with_reducible refine (slices_ContainsFunc_int_int_oid_Check_1.calls k _ _ l0 7770027 false _ ?side1 ?side2 A2.out).mono ?_); (case side1 => exact zC HR0.out); (case side2 => exact HC0.out); rintro e w' ⟨rfl, ⟨nd, rfl⟩⟩; refine ⟨_, rfl, ?_⟩))
    go_ret
    exact ⟨zP, zD⟩
   ·rw [if_neg c5] at H
    have c5b0 : decide (12 < (l0.length : Int)) = false := decide_eq_false c5
    have c5b1 : decide (12 < l0.length) = false := decide_eq_false (by omega)
    clear c5
    by_cases c6 : 0 < (l0.length : Int)
    ·rw [if_pos c6] at H
     have c6b0 : decide (0 < (l0.length : Int)) = true := decide_eq_true c6
     have c6b1 : decide (0 < l0.length) = true := decide_eq_true (by omega)
     clear c6
     by_cases c7 : (rd l0 0) > 2
     ·rw [if_pos c7] at H
      have c7b0 : decide (2 < (rd l0 0)) = true := decide_eq_true c7
      clear c7
      obtain rfl := sI H
      go_enter Tryd.func12, Tryd.ntmps12
      go_wp2_with (first | ((with_reducible refine gate_callee (f := 26) rfl ?_); refine goesL_ (some 5) rfl rfl Tryd.func26 zK rfl #[.slice A0 l0.length c0, .func (.func 27) #[] #[]] rfl zM ?_; (with_reducible refine (slices_ContainsFunc_int_int_oid_Check_1.calls k _ _ l0 7770027 false _ ?side1 ?side2 A2.out).mono ?_); (case side1 => exact zC HR0.out); (case side2 => exact HC0.out); rintro e w' ⟨rfl, ⟨nd, rfl⟩⟩; refine ⟨_, rfl, ?_⟩; have p105 : 0 ≤ (0 : Int) := (by omega); have q105 : 0 < (l0.length : Int) := zoA; obtain ⟨ad105, e105, hx105_0⟩ := Kd.at_int HR0.out 0 p105 q105; cases e105; have qi105 : (0 < l0.length) = True := eq_true (by omega); (try rw [show ((0 : Int)).toNat = 0 from rfl] at hx105_0); (try rw [Addr.add_zero'] at hx105_0); replace p105 := eq_true p105; replace q105 := eq_true q105))
      go_ret
      exact ⟨zP, zD⟩
     ·rw [if_neg c7] at H
      have c7b0 : decide (2 < (rd l0 0)) = false := decide_eq_false c7
      clear c7
      by_cases c8 : (rd l0 0) < 2
      ·rw [if_pos c8] at H
       have c8b0 : decide ((rd l0 0) < 2) = true := decide_eq_true c8
       clear c8
       by_cases c9 : 1 < (l0.length : Int)
       ·rw [if_pos c9] at H
        have c9b0 : decide (1 < (l0.length : Int)) = true := decide_eq_true c9
        have c9b1 : decide (1 < l0.length) = true := decide_eq_true (by omega)
        clear c9
        by_cases c10 : (rd l0 1) > 39
        ·rw [if_pos c10] at H
         have c10b0 : decide (39 < (rd l0 1)) = true := decide_eq_true c10
         clear c10
         obtain rfl := sI H
         go_enter Tryd.func12, Tryd.ntmps12
         go_wp2_with (first | ((with_reducible refine gate_callee (f := 26) rfl ?_); refine goesL_ (some 5) rfl rfl Tryd.func26 zK rfl #[.slice A0 l0.length c0, .func (.func 27) #[] #[]] rfl zM ?_; (with_reducible refine (slices_ContainsFunc_int_int_oid_Check_1.calls k _ _ l0 7770027 false _ ?side1 ?side2 A2.out).mono ?_); (case side1 => exact zC HR0.out); (case side2 => exact HC0.out); rintro e w' ⟨rfl, ⟨nd, rfl⟩⟩; refine ⟨_, rfl, ?_⟩; have p105 : 0 ≤ (0 : Int) := (by omega); have q105 : 0 < (l0.length : Int) := zoA; obtain ⟨ad105, e105, hx105_0⟩ := Kd.at_int HR0.out 0 p105 q105; cases e105; have qi105 : (0 < l0.length) = True := eq_true (by omega); (try rw [show ((0 : Int)).toNat = 0 from rfl] at hx105_0); (try rw [Addr.add_zero'] at hx105_0); replace p105 := eq_true p105; replace q105 := eq_true q105; have p106 : 0 ≤ (0 : Int) := (by omega); have q106 : 0 < (l0.length : Int) := zoA; obtain ⟨ad106, e106, hx106_0⟩ := Kd.at_int HR0.out 0 p106 q106; obtain rfl : ad105 = ad106 := (by injection e106); have qi106 : (0 < l0.length) = True := eq_true (by omega); (try rw [show ((0 : Int)).toNat = 0 from rfl] at hx106_0); (try rw [Addr.add_zero'] at hx106_0); replace p106 := eq_true p106; replace q106 := eq_true q106; have p107 : 0 ≤ (1 : Int) := (by omega); have q107 : 1 < (l0.length : Int) := zoA; obtain ⟨ad107, e107, hx107_0⟩ := Kd.at_int HR0.out 1 p107 q107; obtain rfl : ad105 = ad107 := (by injection e107); (try simp only [show (1 : Int).toNat = 1 from rfl, Nat.reduceMul, Nat.reduceEqDiff, Go.Addr.add, ↓reduceIte] at hx107_0); have qi107 : (1 < l0.length) = True := eq_true (by omega); (try rw [show ((1 : Int)).toNat = 1 from rfl] at hx107_0); replace p107 := eq_true p107; replace q107 := eq_true q107))
         go_ret
         exact ⟨zP, zD⟩
        ·rw [if_neg c10] at H
         have c10b0 : decide (39 < (rd l0 1)) = false := decide_eq_false c10
         clear c10
         obtain rfl := sI H
         go_enter Tryd.func12, Tryd.ntmps12
         go_wp2_with (first | ((with_reducible refine gate_callee (f := 26) rfl ?_); refine goesL_ (some 5) rfl rfl Tryd.func26 zK rfl #[.slice A0 l0.length c0, .func (.func 27) #[] #[]] rfl zM ?_; (with_reducible refine (slices_ContainsFunc_int_int_oid_Check_1.calls k _ _ l0 7770027 false _ ?side1 ?side2 A2.out).mono ?_); (case side1 => exact zC HR0.out); (case side2 => exact HC0.out); rintro e w' ⟨rfl, ⟨nd, rfl⟩⟩; refine ⟨_, rfl, ?_⟩; have p105 : 0 ≤ (0 : Int) := (by omega); have q105 : 0 < (l0.length : Int) := zoA; obtain ⟨ad105, e105, hx105_0⟩ := Kd.at_int HR0.out 0 p105 q105; cases e105; have qi105 : (0 < l0.length) = True := eq_true (by omega); (try rw [show ((0 : Int)).toNat = 0 from rfl] at hx105_0); (try rw [Addr.add_zero'] at hx105_0); replace p105 := eq_true p105; replace q105 := eq_true q105; have p106 : 0 ≤ (0 : Int) := (by omega); have q106 : 0 < (l0.length : Int) := zoA; obtain ⟨ad106, e106, hx106_0⟩ := Kd.at_int HR0.out 0 p106 q106; obtain rfl : ad105 = ad106 := (by injection e106); have qi106 : (0 < l0.length) = True := eq_true (by omega); (try rw [show ((0 : Int)).toNat = 0 from rfl] at hx106_0); (try rw [Addr.add_zero'] at hx106_0); replace p106 := eq_true p106; replace q106 := eq_true q106; have p107 : 0 ≤ (1 : Int) := (by omega); have q107 : 1 < (l0.length : Int) := zoA; obtain ⟨ad107, e107, hx107_0⟩ := Kd.at_int HR0.out 1 p107 q107; obtain rfl : ad105 = ad107 := (by injection e107); (try simp only [show (1 : Int).toNat = 1 from rfl, Nat.reduceMul, Nat.reduceEqDiff, Go.Addr.add, ↓reduceIte] at hx107_0); have qi107 : (1 < l0.length) = True := eq_true (by omega); (try rw [show ((1 : Int)).toNat = 1 from rfl] at hx107_0); replace p107 := eq_true p107; replace q107 := eq_true q107))
         go_ret
         exact ⟨zP, zD⟩
       ·rw [if_neg c9] at H
        exact absurd H (by simp)
      ·rw [if_neg c8] at H
       have c8b0 : decide ((rd l0 0) < 2) = false := decide_eq_false c8
       clear c8
       obtain rfl := sI H
       go_enter Tryd.func12, Tryd.ntmps12
       go_wp2_with (first | ((with_reducible refine gate_callee (f := 26) rfl ?_); refine goesL_ (some 5) rfl rfl Tryd.func26 zK rfl #[.slice A0 l0.length c0, .func (.func 27) #[] #[]] rfl zM ?_; (with_reducible refine (slices_ContainsFunc_int_int_oid_Check_1.calls k _ _ l0 7770027 false _ ?side1 ?side2 A2.out).mono ?_); (case side1 => exact zC HR0.out); (case side2 => exact HC0.out); rintro e w' ⟨rfl, ⟨nd, rfl⟩⟩; refine ⟨_, rfl, ?_⟩; have p105 : 0 ≤ (0 : Int) := (by omega); have q105 : 0 < (l0.length : Int) := zoA; obtain ⟨ad105, e105, hx105_0⟩ := Kd.at_int HR0.out 0 p105 q105; cases e105; have qi105 : (0 < l0.length) = True := eq_true (by omega); (try rw [show ((0 : Int)).toNat = 0 from rfl] at hx105_0); (try rw [Addr.add_zero'] at hx105_0); replace p105 := eq_true p105; replace q105 := eq_true q105; have p106 : 0 ≤ (0 : Int) := (by omega); have q106 : 0 < (l0.length : Int) := zoA; obtain ⟨ad106, e106, hx106_0⟩ := Kd.at_int HR0.out 0 p106 q106; obtain rfl : ad105 = ad106 := (by injection e106); have qi106 : (0 < l0.length) = True := eq_true (by omega); (try rw [show ((0 : Int)).toNat = 0 from rfl] at hx106_0); (try rw [Addr.add_zero'] at hx106_0); replace p106 := eq_true p106; replace q106 := eq_true q106))
       go_ret
       exact ⟨zP, zD⟩
    ·rw [if_neg c6] at H
     exact absurd H (by simp)

/-! ### strconv_Itoa_23: function 23, by hand (strconv.Itoa.tpl) -/
/-- What the library's package-level variables hold: the table of powers of ten, two errors, the bound of its search. -/
def Env (w : World) : Prop := (∃ t b, w.heap[(2 : Nat)]? = some (.cells (Lib.pow10Tab.map fun z => Value.int .u64 z).toArray t b)) ∧ (∃ tp p t b, w.heap[(0 : Nat)]? = some (.cells #[.iface tp p] t b)) ∧ (∃ tp p t b, w.heap[(1 : Nat)]? = some (.cells #[.iface tp p] t b)) ∧ (∃ m, w.cell? ⟨3, 0, none⟩ = some (.int .i64 m))
theorem keeps_block {w w' : World} (hb : Below w.heap.size w w') {g : Nat} {o : Obj} (h : w.heap[g]? = some o) : w'.heap[g]? = some o := (hb.block g (Array.getElem?_eq_some_iff.1 h).1).trans h
theorem Env.below {w w' : World} (h : Env w) (hb : Below w.heap.size w w') : Env w' := by
  obtain ⟨⟨t, b, h1⟩, ⟨tp, p, t2, b2, h2⟩, ⟨tq, q, t3, b3, h3⟩, ⟨m, h4⟩⟩ := h
  exact ⟨⟨t, b, keeps_block hb h1⟩, ⟨tp, p, t2, b2, keeps_block hb h2⟩, ⟨tq, q, t3, b3, keeps_block hb h3⟩, ⟨m, (hb.cell (p := ⟨3, 0, none⟩) (World.block_lt_of_cell? w _ h4)).trans h4⟩⟩
theorem zEnv {w W : World} (HE : Aside0 (Env w)) (h : Below w.heap.size w W := by repeat (first | (with_reducible first | exact HB.out | apply bA | apply bN | apply bD) | exact HB.out)) : Env W := HE.out.below h
def strconv_Itoa_23.f (a0 : Int) : Option ByteArray := if -9223372036854775808 ≤ a0 ∧ a0 ≤ 9223372036854775807 then some ⟨(Lib.itoa a0).toArray⟩ else none
theorem strconv_Itoa_23.calls (a0 : Int) (r : ByteArray) (w : World) (hE : Env w) (h : strconv_Itoa_23.f a0 = some r) :
    Calls Tryd.prog 23 #[.int .i64 a0] w fun e w' => e = .returned (.string r) ∧ Below w.heap.size w w' := by
  unfold strconv_Itoa_23.f at h
  by_cases c : -9223372036854775808 ≤ a0 ∧ a0 ≤ 9223372036854775807
  · rw [if_pos c] at h
    obtain rfl := Option.some.inj h
    refine (Any.strconv_Itoa Tryd.laysM171 a0 c.1 c.2 w ?_).mono ?_
    · obtain ⟨t, b, h1⟩ := hE.1
      unfold Lib.TabIs World.var?
      rw [show Program.globalNamed Tryd.prog _ = some 2 from by kernel_rfl]
      simp only [Option.bind_some, h1]
    · rintro e w' ⟨rfl, k, os, rfl⟩
      refine ⟨rfl, ⟨rfl, rfl, rfl, ?_, fun i hi => ?_⟩⟩
      · show w.heap.size ≤ (w.heap ++ os).size
        simp
      · show (w.heap ++ os)[i]? = w.heap[i]?
        exact Array.getElem?_append_left hi
  · rw [if_neg c] at h
    exact absurd h (by simp)

/-! ### strings_Join: function 24, by hand (strings.Join.tpl) -/
theorem spot_none {w : World} {ad : Addr} {v : Value} (h : w.cell? ad = some v) : ad.spot = none := by
  unfold World.cell? at h
  split at h
  · by_cases c : ad.spot.isSome
    · rw [if_pos c] at h
      cases h
    · simpa using c
  · cases h
def strings_Join.f (l0 : List ByteArray) (a1 : ByteArray) : Option ByteArray := if l0.length ≤ 140737488355328 ∧ (Lib.join (l0.map (·.data.toList)) a1.data.toList).length ≤ 140737488355328 then some ⟨(Lib.join (l0.map (·.data.toList)) a1.data.toList).toArray⟩ else none
theorem strings_Join.calls (A0 : Option Addr) (c0 : Nat) (l0 : List ByteArray) (a1 : ByteArray) (r : ByteArray) (w : World) (hr0 : Kd.C Kd.string w A0 l0.length l0) (hc0 : l0.length ≤ c0) (h : strings_Join.f l0 a1 = some r) :
    Calls Tryd.prog 24 #[.slice A0 l0.length c0, .string a1] w fun e w' => e = .returned (.string r) ∧ Below w.heap.size w w' := by
  unfold strings_Join.f at h
  by_cases c : l0.length ≤ 140737488355328 ∧ (Lib.join (l0.map (·.data.toList)) a1.data.toList).length ≤ 140737488355328
  · rw [if_pos c] at h
    obtain rfl := Option.some.inj h
    cases l0 with
    | nil =>
      refine (Any.strings_Join_none Tryd.lays156 Tryd.Builder_Extra_156 A0 c0 a1 w).mono ?_
      rintro e w' ⟨rfl, rfl⟩
      exact ⟨rfl, Below.refl _ _⟩
    | cons x l =>
      obtain ⟨ad, rfl, hc⟩ := Kd.at_string hr0 0 (by omega) (by simp only [List.length_cons]; omega)
      have hs := spot_none hc
      have ead : ad = ⟨ad.block, ad.off, none⟩ := by
        rcases ad with ⟨b_, o_, s_⟩
        have hs' : s_ = none := by simpa [Addr.add] using hs
        subst hs'
        rfl
      have hcells : ∀ (j : Nat) y, (x :: l)[j]? = some y → w.cell? ⟨ad.block, ad.off + j, none⟩ = some (.string y) := by
        intro j y hy
        obtain ⟨hj, hy2⟩ := List.getElem?_eq_some_iff.1 hy
        obtain ⟨ad2, e2, hc2⟩ := Kd.at_string hr0 j (by omega) (by omega)
        obtain rfl := Option.some.inj e2
        have e3 : ad.add ((j : Int)).toNat = ⟨ad.block, ad.off + j, none⟩ := by
          rw [Int.toNat_natCast]
          unfold Addr.add
          by_cases h0 : j = 0
          · subst h0
            rw [if_pos rfl, ead]
            rfl
          · rw [if_neg h0]
        rw [e3] at hc2
        rw [hc2]
        simp only [rdOf, Int.toNat_natCast, List.getD_eq_getElem?_getD, hy, Option.getD_some]
      have hbk : ad.block < w.heap.size := by
        have := World.block_lt_of_cell? w _ (hcells 0 x rfl)
        exact this
      refine (Calls.mono (P := Tryd.prog) (by
        have hh := Any.strings_Join Tryd.lays156 Tryd.Builder_Extra_156 ad.block ad.off c0 (x :: l) a1 w hcells hbk c.1 hc0 c.2
        rw [← ead] at hh
        exact hh) ?_)
      rintro e w' ⟨rfl, hb⟩
      exact ⟨rfl, hb⟩
  · rw [if_neg c] at h
    exact absurd h (by simp)

/-! ### oid_Show: function 10 -/
def oid_Show.l0 : Nat → List ByteArray → List Int → Int → Int → Option (ByteArray × Int)
 | 0, _, _, _, _ => none
 | k + 1, x5, x13, x14, x15 => if x15 < x14 then (if 0 ≤ x15 then (if x15 < (x13.length : Int) then ((strconv_Itoa_23.f (rd x13 x15)).bind fun t110 => (if x5.length < 8796093022208 then (oid_Show.l0 k (x5 ++ [t110]) x13 x14 (wrap64 (x15 + 1))) else (none))) else (none)) else (none)) else ((strings_Join.f x5 (⟨#[46]⟩ : ByteArray)).bind fun t114 => (some (t114, 0)))
def oid_Show.f (k : Nat) (l0 : List Int) : Option (ByteArray × Int) := (oid_Check.f k l0).bind fun t108 => (if t108 = 0 then (oid_Show.l0 k ([] : List ByteArray) l0 (l0.length : Int) 0) else (some ((⟨#[]⟩ : ByteArray), t108)))
theorem oid_Show.mono_l : ∀ k, (∀ y0 y1 y2 y3, LeO (oid_Show.l0 k y0 y1 y2 y3) (oid_Show.l0 (k + 1) y0 y1 y2 y3))
 | 0 => fun _ _ _ _ r h => by simp [oid_Show.l0] at h
 | k + 1 => by
  have ih0 := oid_Show.mono_l k
  ·intro y0 y1 y2 y3
   unfold oid_Show.l0
   repeat' first
   | (with_reducible exact ih0 _ _ _ _)
   | (with_reducible exact oid_Check.mono _ _)
   | (with_reducible exact LeO.refl _)
   | exact ih0 _ _ _ _
   | exact oid_Check.mono _ _
   | exact LeO.none _
   | refine LeO.ite ?_ ?_
   | refine LeO.bind ?_ (fun _ => ?_)
theorem oid_Show.mono : ∀ a0 k, LeO (oid_Show.f k a0) (oid_Show.f (k + 1) a0) := by
 intro a0 k
 have ih0 := oid_Show.mono_l k
 unfold oid_Show.f
 repeat' first
   | (with_reducible exact ih0 _ _ _ _)
   | (with_reducible exact oid_Check.mono _ _)
   | (with_reducible exact LeO.refl _)
   | exact ih0 _ _ _ _
   | exact oid_Check.mono _ _
   | exact LeO.none _
   | refine LeO.ite ?_ ?_
   | refine LeO.bind ?_ (fun _ => ?_)
set_option maxHeartbeats 8000000 in
set_option maxRecDepth 100000 in
theorem oid_Show.calls (k : Nat) (A0 : Option Addr) (c0 : Nat) (l0 : List Int) (r1 : ByteArray) (r2 : Int) (w : World) (hE : Env w) (hr0 : Kd.C (Kd.int .i64) w A0 l0.length l0) (hc0 : l0.length ≤ c0) (h : oid_Show.f k l0 = some (r1, r2)) :
  Calls Tryd.prog 10 #[.slice A0 l0.length c0] w fun e w' => e = .returned (.tuple #[.string r1, .int .i64 r2]) ∧ Below w.heap.size w w' := by
 have HE := aM hE
 clear hE
 have HR0 := aM hr0
 have HC0 := aM hc0
 clear hr0 hc0
 have HB := aM (Below.refl w.heap.size w)
 have H := h
 clear h
 unfold oid_Show.f at H
 obtain ⟨t108, A2, H⟩ := zO H
 by_cases c3 : t108 = 0
 ·rw [if_pos c3] at H
  have c3b0 : (t108 == 0) = true := beq_iff_eq.mpr c3
  have c3b1 : (t108 != 0) = false := bne_eq_false_iff_eq.mpr c3
  clear c3
  have H' := aM H
  clear H
  go_enter Tryd.func10, Tryd.ntmps10
  go_wp2_with (first | ((with_reducible refine gate_callee (f := 12) rfl ?_); refine goesL_ (some 9) rfl rfl Tryd.func12 zK rfl #[.slice A0 l0.length c0] rfl zM ?_; (with_reducible refine (oid_Check.calls k _ _ l0 t108 _ ?side1 ?side2 A2.out).mono ?_); (case side1 => exact zC HR0.out); (case side2 => exact HC0.out); rintro e w' ⟨rfl, ⟨nd, rfl⟩⟩; refine ⟨_, rfl, ?_⟩))
  go_loopg [5, 15] k (fun kq v5 v15 w' => ∃ (x5_1 : List ByteArray) (x15_1 : Int), v15 = .int .i64 x15_1 ∧ Aside0 (oid_Show.l0 kq x5_1 l0 (l0.length : Int) x15_1 = some (r1, r2)) ∧ Aside0 (kq ≤ k) ∧ Aside0 (Kd.R Kd.string 9 w' w.heap.size (fun _ => True) v5 x5_1) ∧ Aside0 (Below w.heap.size w w'))
  case atStart => exact ⟨(([] : List ByteArray)), (0), zP, H', ⟨Nat.le_refl _⟩, ⟨zL⟩, ⟨zB⟩⟩
  case round =>
   clear H'
   try clear c1
   try clear p2
   try clear c3
   try clear c3b0
   try clear c3b1
   obtain ⟨x5_1, x15_1, rfl, HA, HK1, HO_5, HB⟩ := hrel
   cases gk with
   | zero => exact absurd HA.out (by simp [oid_Show.l0])
   | succ k1 =>
    have H := HA.out
    clear HA
    simp only [oid_Show.l0] at H
    by_cases c4 : x15_1 < (l0.length : Int)
    ·rw [if_pos c4] at H
     have c4b0 : decide (x15_1 < (l0.length : Int)) = true := decide_eq_true c4
     clear c4
     by_cases c5 : 0 ≤ x15_1
     ·rw [if_pos c5] at H
      have c5b0 : decide (0 ≤ x15_1) = true := decide_eq_true c5
      clear c5
      by_cases c6 : x15_1 < (l0.length : Int)
      ·rw [if_pos c6] at H
       have c6b0 : decide (x15_1 < (l0.length : Int)) = true := decide_eq_true c6
       clear c6
       obtain ⟨t110, A7, H⟩ := zO H
       by_cases c8 : x5_1.length < 8796093022208
       ·rw [if_pos c8] at H
        have LMc8 := aM c8
        clear c8
        obtain ⟨y111, hy111⟩ : ∃ y_ : List ByteArray, y_ = (x5_1 ++ [t110]) := ⟨_, rfl⟩
        replace H : (oid_Show.l0 k1 y111 l0 (l0.length : Int) (wrap64 (x15_1 + 1))) = some (r1, r2) := zY hy111 H
        have Ny111 := aM hy111
        clear hy111
        have H' := aM H
        clear H
        have p109 : 0 ≤ (x15_1 : Int) := zoA
        have q109 : x15_1 < (l0.length : Int) := zoA
        obtain ⟨ad109, e109, hx109_0⟩ := Kd.at_int HR0.out x15_1 p109 q109
        cases e109
        replace hx109_0 := (HB.out.cell (World.block_lt_of_cell? w _ hx109_0)).trans hx109_0
        replace p109 := eq_true p109
        replace q109 := eq_true q109
        go_wp2_with (first | ((with_reducible refine gate_callee (f := 23) rfl ?_); refine goesL_ (some 21) rfl rfl Tryd.func23 zK rfl #[.int .i64 (rd l0 x15_1)] rfl zM ?_; (with_reducible refine (strconv_Itoa_23.calls (rd l0 x15_1) t110 _ (zEnv HE) A7.out).mono ?_); rintro e w9 ⟨rfl, hb⟩; refine ⟨_, rfl, ?_⟩; have n_ := zI (aM (Kd.R_below (zR HO_5) hb)) (aM (below_step zB hb)); clear HO_5 HB; obtain ⟨HO_5, HB⟩ := n_; (try clear hb); (try clear hk)) | ((with_reducible refine gate_builtin (b := .append) (xs := #[.tmp 19, .tmp 22]) rfl ?_); at_builtin; refine Kd.R_append Kd.string (w0 := w) w.heap.size rfl (.tmp 19) (.tmp 22) 43 9 (.string ⟨#[]⟩) 16 rfl Tryd.underlying43 info9 rfl (by decide) (by omega) u5 x5_1 t110 [.string t110] (fun _ => True) (fun _ => False) rfl rfl ?aP (fun _ hk => hk.elim) ?aF ?aO ?aB ?aS ?aL ?_; (case aP => exact rfl); (case aB => exact zB); (case aF => exact (fun _ _ => trivial)); (case aO => exact (zR HO_5)); (case aS => exact (below_size zB)); (case aL => have := LMc8.out; omega); intro v112 w10 ho hb hg hat; rw [← Ny111.out] at ho; have n_ := zI (aM (hb)) (aM (ho)); clear HB HO_5; obtain ⟨HB, HO113⟩ := n_; clear ho hb hg hat))
        go_roundg k1
        case measure => have := HK1.out; omega
        case rel => exact ⟨(y111), (wrap64 (x15_1 + 1)), zP, H', ⟨by have := HK1.out; omega⟩, ⟨zR HO113⟩, ⟨zB⟩⟩
       ·rw [if_neg c8] at H
        exact absurd H (by simp)
      ·rw [if_neg c6] at H
       exact absurd H (by simp)
     ·rw [if_neg c5] at H
      exact absurd H (by simp)
    ·rw [if_neg c4] at H
     have c4b0 : decide (x15_1 < (l0.length : Int)) = false := decide_eq_false c4
     clear c4
     obtain ⟨t114, A11, H⟩ := zO H
     simp only [Option.some.injEq, Prod.mk.injEq] at H
     obtain ⟨rfl, rfl⟩ := H
     obtain ⟨Ao12, co12, eo12⟩ := Kd.R_slice HO_5.out
     subst eo12
     go_wp2_with (first | ((with_reducible refine gate_callee (f := 24) rfl ?_); refine goesL_ (some 26) rfl rfl Tryd.func24 zK rfl #[.slice Ao12 x5_1.length co12, .string (⟨#[46]⟩ : ByteArray)] rfl zM ?_; (with_reducible refine (strings_Join.calls _ _ x5_1 (⟨#[46]⟩ : ByteArray) t114 _ ?side1 ?side2 A11.out).mono ?_); (case side1 => exact zC (Kd.R_reads' HO_5.out).2.2); (case side2 => exact (Kd.R_reads' HO_5.out).2.1); rintro e w13 ⟨rfl, hb⟩; refine ⟨_, rfl, ?_⟩; have n_ := zI (aM (Kd.R_below (zR HO_5) hb)) (aM (below_step zB hb)); clear HO_5 HB; obtain ⟨HO_5, HB⟩ := n_; (try clear hb)))
     go_ret2
     exact ⟨zE, zB⟩
 ·rw [if_neg c3] at H
  have c3b0 : (t108 == 0) = false := beq_eq_false_iff_ne.mpr c3
  have c3b1 : (t108 != 0) = true := bne_iff_ne.mpr c3
  simp only [Option.some.injEq, Prod.mk.injEq] at H
  obtain ⟨rfl, rfl⟩ := H
  go_enter Tryd.func10, Tryd.ntmps10
  go_wp2_with (first | ((with_reducible refine gate_callee (f := 12) rfl ?_); refine goesL_ (some 9) rfl rfl Tryd.func12 zK rfl #[.slice A0 l0.length c0] rfl zM ?_; (with_reducible refine (oid_Check.calls k _ _ l0 t108 _ ?side1 ?side2 A2.out).mono ?_); (case side1 => exact zC HR0.out); (case side2 => exact HC0.out); rintro e w' ⟨rfl, ⟨nd, rfl⟩⟩; refine ⟨_, rfl, ?_⟩))
  go_ret2
  exact ⟨zE, zB⟩

/-! ### slices_Clone_int_int: function 28, by hand (slices.Clone.int.tpl) -/
theorem info3c : (Tryd.prog.info? 3).map (fun i => (i.zero, i.size, i.bytes)) = some (some (.int .i64 0), 1, 8) := by kernel_rfl
def slices_Clone_int_int.f (l0 : List Int) : Option (List Int) := if l0.length < 17592186044416 then some l0 else none
set_option maxHeartbeats 8000000 in
set_option maxRecDepth 100000 in
theorem slices_Clone_int_int.calls (A0 : Option Addr) (c0 : Nat) (l0 : List Int) (r : List Int) (w : World) (hr0 : Kd.C (Kd.int .i64) w A0 l0.length l0) (hc0 : l0.length ≤ c0) (h : slices_Clone_int_int.f l0 = some r) :
    Calls Tryd.prog 28 #[.slice A0 l0.length c0] w fun e w' => ∃ v0_ : Value, e = .returned (v0_) ∧ Kd.R (Kd.int .i64) 3 w' w.heap.size (fun _ => True) (v0_) (r) ∧ Below w.heap.size w w' := by
  have H := h
  clear h
  unfold slices_Clone_int_int.f at H
  by_cases c1 : l0.length < 17592186044416
  · rw [if_pos c1] at H
    obtain rfl := Option.some.inj H
    clear H
    have LM := Aside0.mk c1
    clear c1
    have hnl := fun (w : World) => Lib.run_eql_slice_nil (P := Tryd.prog) w 22 3 A0 l0.length c0 0 0 Tryd.underlying22
    cases A0 with
    | none =>
      have hl : l0 = [] := by
        by_cases h0 : 0 < l0.length
        · obtain ⟨ad, e, _⟩ := hr0.2.2 h0
          cases e
        · exact List.length_eq_zero_iff.1 (by omega)
      subst hl
      clear hr0 LM
      simp only [Option.isNone_none, List.length_nil] at hnl ⊢
      go_enter Tryd.func28, Tryd.ntmps28
      go_wp2
      go_ret
      exact ⟨_, rfl, Kd.R_nil _ _ _ _ _, Below.refl _ _⟩
    | some ad =>
      simp only [Option.isNone_some] at hnl
      have HR := Aside0.mk hr0
      have HC := Aside0.mk hc0
      have HB := Aside0.mk (Below.refl w.heap.size w)
      clear hr0 hc0
      go_enter Tryd.func28, Tryd.ntmps28
      go_wp2_with (first | ((with_reducible refine gate_dst (N := 5) rfl ?_); refine Kd.R_lit (Kd.int .i64) _ 3 ?hg (N := 5) ?hd (xs := ([] : List Int)) (inner := []) (ok := fun _ => True) (okp := fun _ => True) ?hr ?hp (fun _ hk => hk) trivial (Below.refl _ _) (Nat.le_refl _) (by simp) ?_; (case hd => rfl); (case hg => rfl); (case hr => first | (go_simp; done) | (go_simp; rfl)); (case hp => exact (Reps.none _ _)); intro v5 w5 ho5 hb hg_ hnew_; clear hg_ hnew_ HB; have HO := Aside0.mk ho5; have HB := Aside0.mk hb; clear ho5 hb) | ((with_reducible refine gate_builtin (b := .append) (xs := #[.tmp 5, .tmp 6]) rfl ?_); at_builtin; refine Kd.R_append_rows (Kd.int .i64) (w0 := w) w.heap.size rfl (.tmp 5) (.tmp 6) 22 3 (.int .i64 0) 8 rfl Tryd.underlying22 info3c rfl (by decide) (by omega) v5 [] l0 _ _ _ (fun _ => True) (fun _ => False) rfl rfl ?aO ?aR (fun _ _ h => h) (fun _ h => h.elim) ?aF ?aB ?aS ?aL ?_; (case aR => exact Kd.C_below HR.out HB.out); (case aB => exact HB.out); (case aF => exact (fun _ _ => trivial)); (case aO => exact HO.out); (case aS => exact HB.out.size); (case aL => have := LM.out; simp only [List.length_nil]; omega); intro v7 w7 ho hb hg hat; simp only [List.nil_append] at ho; have HO7 := Aside0.mk ho; have HB7 := Aside0.mk hb; clear ho hb hg hat))
      go_ret
      exact ⟨_, rfl, HO7.out, HB7.out⟩
  · rw [if_neg c1] at H
    exact absurd H (by simp)

/-! ### oid_Above: function 15, by hand (oid.Above.tpl) -/
def oid_Above.f (k : Nat) (l0 : List Int) : Option (List Int) := (oid_Check.f k l0).bind fun e => if e = 0 then (if 3 ≤ l0.length then (slices_Clone_int_int.f l0).bind fun m => some (m.take (m.length - 1)) else some []) else some []
theorem oid_Above.mono : ∀ a0 k, LeO (oid_Above.f k a0) (oid_Above.f (k + 1) a0) := by
  intro a0 k
  unfold oid_Above.f
  exact LeO.bind (oid_Check.mono _ _) (fun _ => LeO.refl _)
set_option maxHeartbeats 8000000 in
set_option maxRecDepth 100000 in
theorem oid_Above.calls (k : Nat) (A0 : Option Addr) (c0 : Nat) (l0 : List Int) (r : List Int) (w : World) (hr0 : Kd.C (Kd.int .i64) w A0 l0.length l0) (hc0 : l0.length ≤ c0) (h : oid_Above.f k l0 = some r) :
    Calls Tryd.prog 15 #[.slice A0 l0.length c0] w fun e w' => ∃ v0_ : Value, e = .returned (v0_) ∧ Kd.V (Kd.int .i64) 3 w' w.heap.size (fun k_ => (w.heap.size ≤ k_)) (v0_) (r) ∧ Below w.heap.size w w' := by
  have hm : l0.length ≤ 9223372036854775807 := hr0.2.1
  have HR0 := Aside0.mk hr0
  have HC0 := Aside0.mk hc0
  clear hr0 hc0
  unfold oid_Above.f at h
  obtain ⟨e1, A1, H⟩ := zO h
  clear h
  by_cases c1 : e1 = 0
  · rw [if_pos c1] at H
    subst c1
    by_cases c2 : 3 ≤ l0.length
    · rw [if_pos c2] at H
      obtain ⟨m, A2, H⟩ := zO H
      obtain rfl := Option.some.inj H
      have e2 : m = l0 := by
        have := A2.out
        unfold slices_Clone_int_int.f at this
        by_cases c : l0.length < 17592186044416
        · rw [if_pos c] at this
          exact (Option.some.inj this).symm
        · rw [if_neg c] at this
          exact absurd this (by simp)
      subst e2
      have b1 : decide ((m.length : Int) - 1 < 2) = false := decide_eq_false (by omega)
      have b2 : decide ((m.length : Int) < 3) = false := decide_eq_false (by omega)
      have hi : 0 ≤ (m.length : Int) - 1 := by omega
      have hj : ((m.length : Int) - 1).toNat = m.length - 1 := by omega
      have h1_ : 1 ≤ (m.length : Int) := by omega
      go_enter Tryd.func15, Tryd.ntmps15
      go_wp2_with (first | ((with_reducible refine gate_callee (f := 12) rfl ?_); refine goesL_ (some 9) rfl rfl Tryd.func12 zK rfl #[.slice A0 m.length c0] rfl zM ?_; (with_reducible refine (oid_Check.calls k _ _ m 0 _ ?side1 ?side2 A1.out).mono ?_); (case side1 => exact zC HR0.out); (case side2 => exact HC0.out); rintro e w' ⟨rfl, ⟨nd, rfl⟩⟩; refine ⟨_, rfl, ?_⟩) | (go_at_call 28; (with_reducible refine (slices_Clone_int_int.calls _ _ m m _ ?side1 ?side2 A2.out).mono ?_); (case side1 => exact zC HR0.out); (case side2 => exact HC0.out); rintro e w1 ⟨v1, rfl, ho, hb⟩; have HO := Aside0.mk ho; have HB := Aside0.mk hb; clear ho hb; obtain ⟨A1_, c1_, rfl⟩ := Kd.R_slice HO.out; have h2_ : (m.length : Int) - 1 ≤ (c1_ : Int) := Int.le_trans (Int.sub_le_self _ (by decide)) (Int.ofNat_le.2 (Kd.R_reads' HO.out).2.1)))
      go_ret
      have hr := Kd.R_mono (Kd.R_bound HO.out) (ok' := fun k_ => w.heap.size ≤ k_) (fun k_ hk => hk.2.1)
      have hv : Kd.V (Kd.int .i64) 3 w1 w.heap.size (fun k_ => w.heap.size ≤ k_) (.slice A1_ (m.take (m.length - 1)).length (m.length - 1)) (m.take (m.length - 1)) := Kd.V_mk (by simp) (Kd.F_take (Kd.R_F hr) (Nat.sub_le _ _))
      have hl : (m.take (m.length - 1)).length = m.length - 1 := by simp
      rw [hl] at hv
      exact ⟨_, rfl, hv, Below.trans (pw_below_drewN (Below.refl _ _) nd) HB.out⟩
    · rw [if_neg c2] at H
      obtain rfl := Option.some.inj H
      have b1 : decide ((l0.length : Int) - 1 < 2) = true := decide_eq_true (by omega)
      have b2 : decide ((l0.length : Int) < 3) = true := decide_eq_true (by omega)
      go_enter Tryd.func15, Tryd.ntmps15
      go_wp2_with (first | ((with_reducible refine gate_callee (f := 12) rfl ?_); refine goesL_ (some 9) rfl rfl Tryd.func12 zK rfl #[.slice A0 l0.length c0] rfl zM ?_; (with_reducible refine (oid_Check.calls k _ _ l0 0 _ ?side1 ?side2 A1.out).mono ?_); (case side1 => exact zC HR0.out); (case side2 => exact HC0.out); rintro e w' ⟨rfl, ⟨nd, rfl⟩⟩; refine ⟨_, rfl, ?_⟩))
      go_ret
      exact ⟨_, rfl, Kd.V_nil _ _ _ _ _, pw_below_drewN (Below.refl _ _) _⟩
  · rw [if_neg c1] at H
    obtain rfl := Option.some.inj H
    have b1 : (e1 == 0) = false := beq_eq_false_iff_ne.mpr c1
    have b2 : (e1 != 0) = true := bne_iff_ne.mpr c1
    go_enter Tryd.func15, Tryd.ntmps15
    go_wp2_with (first | ((with_reducible refine gate_callee (f := 12) rfl ?_); refine goesL_ (some 9) rfl rfl Tryd.func12 zK rfl #[.slice A0 l0.length c0] rfl zM ?_; (with_reducible refine (oid_Check.calls k _ _ l0 e1 _ ?side1 ?side2 A1.out).mono ?_); (case side1 => exact zC HR0.out); (case side2 => exact HC0.out); rintro e w' ⟨rfl, ⟨nd, rfl⟩⟩; refine ⟨_, rfl, ?_⟩))
    go_ret
    exact ⟨_, rfl, Kd.V_nil _ _ _ _ _, pw_below_drewN (Below.refl _ _) _⟩

/-! ### oid_Parse: function 17, by hand (oid.Parse.tpl) -/
def oid_parts : List ByteArray → List Int → Option (List Int)
  | [], out => some out
  | p :: ps, out => match Lib.atoiAll p.data.toList with
    | .ok v => if p.size > 5 then none else oid_parts ps (out ++ [v])
    | _ => none
def oid_cut (a0 : ByteArray) : List ByteArray := Lib.splitB ⟨#[46]⟩ 0 (Lib.countB a0 ⟨#[46]⟩) a0
def oid_Parse.f (k : Nat) (a0 : ByteArray) : Option (List Int × Int) :=
  if a0.size > 80 then some ([], 170) else match oid_parts (oid_cut a0) [] with
    | none => some ([], 170)
    | some l => (oid_Show.f k l).bind fun bt => if bt.2 = 0 then (if bt.1.toList = a0.toList then some (l, 0) else some ([], 170)) else some ([], 170)
theorem oid_Parse.mono : ∀ a0 k, LeO (oid_Parse.f k a0) (oid_Parse.f (k + 1) a0) := by
  intro a0 k
  unfold oid_Parse.f
  refine LeO.ite (LeO.refl _) ?_
  cases oid_parts (oid_cut a0) [] with
  | none => exact LeO.refl _
  | some l => exact LeO.bind (oid_Show.mono _ _) (fun _ => LeO.refl _)
theorem cut_length (a0 : ByteArray) : (oid_cut a0).length = Lib.countB a0 ⟨#[46]⟩ + 1 := Lib.splitB_all ⟨#[46]⟩ (by decide) 0 _ a0 rfl
theorem split_calls (a0 : ByteArray) (w : World) (hE : Env w) (hs : a0.size ≤ 80) :
    Calls Tryd.prog 29 #[.string a0, .string ⟨#[46]⟩] w fun e w' => ∃ A : Addr, e = .returned (.slice (some A) (oid_cut a0).length (oid_cut a0).length) ∧ Kd.C Kd.string w' (some A) (oid_cut a0).length (oid_cut a0) ∧ Below w.heap.size w w' := by
  obtain ⟨m, hm⟩ := hE.2.2.2
  refine (Any.strings_Split Tryd.lays146 (by kernel_rfl) a0 ⟨#[46]⟩ m w (by omega) hm (Nat.le_refl 1)).mono ?_
  rintro e w' ⟨rfl, rfl⟩
  refine ⟨⟨w.heap.size, 0, none⟩, by rw [cut_length], ?_, below_alloc (Below.refl _ _) _⟩
  refine Kd.C_of_reads (d := ByteArray.empty) (h1 := fun _ => rfl) ⟨rfl, ?_, fun hn => ⟨_, rfl, fun j hj => ?_⟩⟩
  · have := Lib.countB_le ⟨#[46]⟩ (Nat.le_refl 1) a0.size a0 (Nat.le_refl _)
    rw [cut_length]
    omega
  · rw [add_plain, cell_of_row _ w.heap.size j _ _ _ (heap_alloc_new w _)]
    have hc : (oid_cut a0)[j]? = some ((oid_cut a0).getD j ByteArray.empty) := by simp [List.getD_eq_getElem?_getD, List.getElem?_eq_getElem hj]
    show ((oid_cut a0).map Value.string).toArray[j]? = _
    simp only [List.getElem?_toArray, List.getElem?_map, hc, Option.map_some]
theorem atoi_ok (s : ByteArray) (hs : s.size ≤ 80) (v : Int) (h : Lib.atoiAll s.data.toList = .ok v) (w : World) :
    Calls Tryd.prog 30 #[.string s] w fun e w' => e = .returned (.tuple #[.int .i64 v, .nilIface]) ∧ Below w.heap.size w w' := by
  refine (Any.strconv_Atoi_ok Tryd.laysC172 s (by omega) v h w).mono ?_
  rintro e w' ⟨rfl, rfl | ⟨t, rfl⟩⟩
  · exact ⟨rfl, Below.refl _ _⟩
  · exact ⟨rfl, Lib.bytesWorld_below _ _ _⟩
theorem atoi_no (s : ByteArray) (hs : s.size ≤ 80) (h : ∀ v, Lib.atoiAll s.data.toList ≠ .ok v) (w : World) (hE : Env w) :
    Calls Tryd.prog 30 #[.string s] w fun e w' => ∃ (n : Int) (N : Nat), e = .returned (.tuple #[.int .i64 n, .iface 70 (.pointer (some ⟨N, 0, none⟩))]) ∧ Below w.heap.size w w' := by
  obtain ⟨_, ⟨tp, p, t2, b2, h2⟩, ⟨tq, q, t3, b3, h3⟩, _⟩ := hE
  cases hh : Lib.atoiAll s.data.toList with
  | ok v => exact absurd hh (h v)
  | «syntax» =>
    refine (Any.strconv_Atoi_syntax_var Tryd.laysC172 s (by omega) hh tp p w ?_).mono ?_
    · unfold World.var?
      rw [show Program.globalNamed Tryd.prog _ = some 0 from by kernel_rfl]
      simp only [Option.bind_some, h2]
    · rintro e w' ⟨N, rfl, _, _, hb⟩
      exact ⟨_, N, rfl, hb⟩
  | range =>
    refine (Any.strconv_Atoi_range_var Tryd.laysC172 s (by omega) hh tq q w ?_).mono ?_
    · unfold World.var?
      rw [show Program.globalNamed Tryd.prog _ = some 1 from by kernel_rfl]
      simp only [Option.bind_some, h3]
    · rintro e w' ⟨N, rfl, _, _, hb⟩
      exact ⟨_, N, rfl, hb⟩
theorem splitB_size (sep : ByteArray) : ∀ (k : Nat) (s p : ByteArray), p ∈ Lib.splitB sep 0 k s → p.size ≤ s.size
  | 0, s, p, h => by
    rw [Lib.splitB, List.mem_singleton] at h
    rw [h]
    exact Nat.le_refl _
  | k + 1, s, p, h => by
    rw [Lib.splitB] at h
    split at h
    · rw [List.mem_singleton] at h
      rw [h]
      exact Nat.le_refl _
    · rcases List.mem_cons.1 h with rfl | h
      · simp only [ByteArray.size_extract]
        omega
      · have := splitB_size sep k _ p h
        simp only [ByteArray.size_extract] at this
        omega
theorem part_size (a0 : ByteArray) (hs : a0.size ≤ 80) : ∀ p ∈ oid_cut a0, p.size ≤ 80 := fun p hp => Nat.le_trans (splitB_size _ _ a0 p hp) hs
set_option maxHeartbeats 8000000 in
set_option maxRecDepth 100000 in
theorem oid_Parse.calls (k : Nat) (a0 : ByteArray) (r1 : List Int) (r2 : Int) (w : World) (hE : Env w) (h : oid_Parse.f k a0 = some (r1, r2)) :
    Calls Tryd.prog 17 #[.string a0] w fun e w' => ∃ v0_ : Value, e = .returned (.tuple #[v0_, .int .i64 r2]) ∧ Kd.R (Kd.int .i64) 3 w' w.heap.size (fun _ => True) v0_ r1 ∧ Below w.heap.size w w' := by
  unfold oid_Parse.f at h
  by_cases c1 : a0.size > 80
  · rw [if_pos c1] at h
    simp only [Option.some.injEq, Prod.mk.injEq] at h
    obtain ⟨rfl, rfl⟩ := h
    have b1 : decide (80 < a0.size) = true := decide_eq_true c1
    have b2 : decide ((80 : Int) < (a0.size : Int)) = true := decide_eq_true (by omega)
    go_enter Tryd.func17, Tryd.ntmps17
    go_wp2
    go_ret2
    exact ⟨_, rfl, Kd.R_nil _ _ _ _ _, Below.refl _ _⟩
  · rw [if_neg c1] at h
    generalize hR : oid_parts (oid_cut a0) [] = R at h
    have H := Aside0.mk h
    have HR := Aside0.mk hR
    have HE0 := Aside0.mk hE
    have hs : a0.size ≤ 80 := by omega
    have HS := Aside0.mk (part_size a0 hs)
    have hL : (oid_cut a0).length ≤ 81 := by
      have := Lib.countB_le ⟨#[46]⟩ (Nat.le_refl 1) a0.size a0 (Nat.le_refl _)
      rw [cut_length]
      omega
    have HL := Aside0.mk hL
    clear h hR hE hL
    have b1 : decide (80 < a0.size) = false := decide_eq_false (by omega)
    have b2 : decide ((80 : Int) < (a0.size : Int)) = false := decide_eq_false (by omega)
    have HSZ := Aside0.mk hs
    clear hs c1
    go_enter Tryd.func17, Tryd.ntmps17
    go_wp2_with (go_at_call 29; (with_reducible refine (split_calls a0 _ HE0.out HSZ.out).mono ?_); rintro e W0 ⟨A, rfl, hc, hb⟩; have HC := Aside0.mk hc; have HB0 := Aside0.mk hb; have HE := Aside0.mk (HE0.out.below hb); clear hc hb)
    go_loopg [4, 17] ((oid_cut a0).length + 1) (fun kq v4 v17 w' => ∃ (x4_1 : List Int) (x17_1 : Int), v17 = .int .i64 x17_1 ∧ Aside0 (0 ≤ x17_1 ∧ x17_1 ≤ (oid_cut a0).length ∧ x4_1.length ≤ x17_1.toNat ∧ kq + x17_1.toNat = (oid_cut a0).length + 1) ∧ Aside0 (oid_parts ((oid_cut a0).drop x17_1.toNat) x4_1 = R) ∧ Aside0 (Kd.R (Kd.int .i64) 3 w' W0.heap.size (fun _ => True) v4 x4_1) ∧ Aside0 (Below W0.heap.size W0 w'))
    case atStart => exact ⟨[], 0, rfl, ⟨by simp⟩, ⟨by simpa using HR.out⟩, ⟨zL⟩, ⟨Below.refl _ _⟩⟩
    case round =>
      obtain ⟨x4_1, x17_1, rfl, HX, HA, HO_4, HB⟩ := hrel
      have hx := HX.out
      obtain ⟨p0, p1, p2, p3⟩ := hx
      have h81 := HL.out
      cases gk with
      | zero => omega
      | succ k1 =>
        clear HX HR
        by_cases c : x17_1 < ((oid_cut a0).length : Int)
        · have cb : decide (x17_1 < ((oid_cut a0).length : Int)) = true := decide_eq_true c
          obtain ⟨ad, e_, hx0⟩ := Kd.at_string HC.out x17_1 p0 c
          cases e_
          replace hx0 := (HB.out.cell (World.block_lt_of_cell? W0 _ hx0)).trans hx0
          have hi : x17_1.toNat < (oid_cut a0).length := by omega
          have hq0 : rdOf ByteArray.empty (oid_cut a0) x17_1 = (oid_cut a0)[x17_1.toNat] := by
            unfold rdOf
            rw [List.getD_eq_getElem?_getD, List.getElem?_eq_getElem hi]
            rfl
          have hsz := HS.out _ (List.getElem_mem hi)
          have hdr : (oid_cut a0).drop x17_1.toNat = (oid_cut a0)[x17_1.toNat] :: (oid_cut a0).drop (x17_1 + 1).toNat := by
            rw [show (x17_1 + 1).toNat = x17_1.toNat + 1 by omega]
            exact List.drop_eq_getElem_cons hi
          have hA := HA.out
          clear HA
          rw [hdr, oid_parts] at hA
          rw [hq0] at hx0
          revert hA hsz hx0
          generalize (oid_cut a0)[x17_1.toNat] = q
          intro hx0 hsz hA
          have HQ := Aside0.mk hsz
          clear hsz hq0 hdr hi
          cases hv : Lib.atoiAll q.data.toList with
          | ok v =>
            rw [hv] at hA
            simp only at hA
            have HV := Aside0.mk hv
            clear hv
            by_cases c5 : q.size > 5
            · rw [if_pos c5] at hA
              subst hA
              have H2 := H.out
              simp only [Option.some.injEq, Prod.mk.injEq] at H2
              obtain ⟨rfl, rfl⟩ := H2
              have b5 : decide (5 < q.size) = true := decide_eq_true c5
              have b6 : decide ((5 : Int) < (q.size : Int)) = true := decide_eq_true (by omega)
              go_wp2_with (go_at_call 30; (with_reducible refine (atoi_ok q HQ.out v HV.out _).mono ?_); rintro e w1 ⟨rfl, hb⟩; have HB1 := Aside0.mk hb; clear hb)
              go_ret2
              exact ⟨_, rfl, Kd.R_nil _ _ _ _ _, below_step (below_step HB0.out HB.out) HB1.out⟩
            · rw [if_neg c5] at hA
              have HA := Aside0.mk hA
              have b5 : decide (5 < q.size) = false := decide_eq_false c5
              have b6 : decide ((5 : Int) < (q.size : Int)) = false := decide_eq_false (by omega)
              have hlm : x4_1.length ≤ 81 := by omega
              have LM := Aside0.mk hlm
              obtain ⟨y4, hy4⟩ : ∃ y_ : List Int, y_ = x4_1 ++ [v] := ⟨_, rfl⟩
              have Ny := Aside0.mk hy4
              have hyl : y4.length ≤ (x17_1 + 1).toNat := by rw [hy4, List.length_append, List.length_singleton]; omega
              have HYL := Aside0.mk hyl
              have hA2 := HA.out
              rw [← hy4] at hA2
              have HA2 := Aside0.mk hA2
              have p17 : 0 ≤ x17_1 + 1 := by omega
              have q17 : x17_1 + 1 ≤ ((oid_cut a0).length : Int) := by omega
              have r17 : x17_1 ≤ 80 := by omega
              have s17 : k1 + (x17_1 + 1).toNat = (oid_cut a0).length + 1 := by omega
              have HP := Aside0.mk (And.intro p17 (And.intro q17 (And.intro hyl s17)))
              clear hA hlm hy4 hyl hA2 HA s17 p17 q17
              go_wp2_with (first | (go_at_call 30; (with_reducible refine (atoi_ok q HQ.out v HV.out _).mono ?_); rintro e w1 ⟨rfl, hb⟩; have n_ := zI (aM (Kd.R_below (zR HO_4) hb)) (aM (below_step HB.out hb)); clear HO_4 HB; obtain ⟨HO_4, HB⟩ := n_; clear hb) | ((with_reducible refine gate_builtin (b := .append) (xs := #[.tmp 33, .tmp 35]) rfl ?_); at_builtin; refine Kd.R_append (Kd.int .i64) (w0 := W0) W0.heap.size rfl (.tmp 33) (.tmp 35) 22 3 (.int .i64 0) 8 rfl Tryd.underlying22 info3 rfl (by decide) (by omega) u4 x4_1 v [.int .i64 v] (fun _ => True) (fun _ => False) rfl rfl ?aP (fun _ hk => hk.elim) ?aF ?aO ?aB ?aS ?aL ?_; (case aP => exact rfl); (case aB => exact HB.out); (case aF => exact (fun _ _ => trivial)); (case aO => exact (zR HO_4)); (case aS => exact HB.out.size); (case aL => have := LM.out; omega); intro v5 w5 ho hb hg hat; rw [← Ny.out] at ho; have n_ := zI (aM ho) (aM hb); clear HB HO_4 hg hat ho hb; obtain ⟨HO_5, HB⟩ := n_))
              go_roundg k1
              case measure => have := HP.out; omega
              case rel => exact ⟨y4, x17_1 + 1, zP, ⟨HP.out⟩, HA2, ⟨zR HO_5⟩, HB⟩
          | «syntax» =>
            rw [hv] at hA
            simp only at hA
            subst hA
            have H2 := H.out
            simp only [Option.some.injEq, Prod.mk.injEq] at H2
            obtain ⟨rfl, rfl⟩ := H2
            have hno : ∀ v, Lib.atoiAll q.data.toList ≠ .ok v := fun v e => by
              rw [hv] at e
              cases e
            have HV := Aside0.mk hno
            clear hv hno
            go_wp2_with (go_at_call 30; (with_reducible refine (atoi_no q HQ.out HV.out _ (HE.out.below HB.out)).mono ?_); rintro e w1 ⟨n1, N1, rfl, hb⟩; have HB1 := Aside0.mk hb; clear hb)
            go_ret2
            exact ⟨_, rfl, Kd.R_nil _ _ _ _ _, below_step (below_step HB0.out HB.out) HB1.out⟩
          | range =>
            rw [hv] at hA
            simp only at hA
            subst hA
            have H2 := H.out
            simp only [Option.some.injEq, Prod.mk.injEq] at H2
            obtain ⟨rfl, rfl⟩ := H2
            have hno : ∀ v, Lib.atoiAll q.data.toList ≠ .ok v := fun v e => by
              rw [hv] at e
              cases e
            have HV := Aside0.mk hno
            clear hv hno
            go_wp2_with (go_at_call 30; (with_reducible refine (atoi_no q HQ.out HV.out _ (HE.out.below HB.out)).mono ?_); rintro e w1 ⟨n1, N1, rfl, hb⟩; have HB1 := Aside0.mk hb; clear hb)
            go_ret2
            exact ⟨_, rfl, Kd.R_nil _ _ _ _ _, below_step (below_step HB0.out HB.out) HB1.out⟩
        · have cb : decide (x17_1 < ((oid_cut a0).length : Int)) = false := decide_eq_false c
          have hA := HA.out
          rw [List.drop_eq_nil_of_le (by omega), oid_parts] at hA
          subst hA
          have H2 := H.out
          simp only at H2
          obtain ⟨⟨t1, e1⟩, A2, H3⟩ := zO H2
          dsimp only at H3
          obtain ⟨Ao, co, rfl⟩ := Kd.R_slice HO_4.out
          clear H H2 HA HS
          by_cases ce : e1 = 0
          · rw [if_pos ce] at H3
            subst ce
            by_cases ct : t1.toList = a0.toList
            · rw [if_pos ct] at H3
              simp only [Option.some.injEq, Prod.mk.injEq] at H3
              obtain ⟨rfl, rfl⟩ := H3
              have d1 : (t1.toList == a0.toList) = true := beq_iff_eq.mpr ct
              have d2 : (t1.toList != a0.toList) = false := bne_eq_false_iff_eq.mpr ct
              clear ct
              go_wp2_with (go_at_call 10; (with_reducible refine (oid_Show.calls k _ _ x4_1 t1 0 _ (HE.out.below HB.out) ?side1 ?side2 A2.out).mono ?_); (case side1 => exact zC (Kd.R_reads' HO_4.out).2.2); (case side2 => exact (Kd.R_reads' HO_4.out).2.1); rintro e w1 ⟨rfl, hb⟩; have n_ := zI (aM (Kd.R_below (zR HO_4) hb)) (aM (below_step HB.out hb)); clear HO_4 HB; obtain ⟨HO_4, HB⟩ := n_; clear hb)
              go_ret2
              exact ⟨_, rfl, Kd.R_lower HO_4.out HB0.out.size, below_step HB0.out HB.out⟩
            · rw [if_neg ct] at H3
              simp only [Option.some.injEq, Prod.mk.injEq] at H3
              obtain ⟨rfl, rfl⟩ := H3
              have d1 : (t1.toList == a0.toList) = false := beq_eq_false_iff_ne.mpr ct
              have d2 : (t1.toList != a0.toList) = true := bne_iff_ne.mpr ct
              clear ct
              go_wp2_with (go_at_call 10; (with_reducible refine (oid_Show.calls k _ _ x4_1 t1 0 _ (HE.out.below HB.out) ?side1 ?side2 A2.out).mono ?_); (case side1 => exact zC (Kd.R_reads' HO_4.out).2.2); (case side2 => exact (Kd.R_reads' HO_4.out).2.1); rintro e w1 ⟨rfl, hb⟩; have HB1 := aM (below_step HB.out hb); clear hb)
              go_ret2
              exact ⟨_, rfl, Kd.R_nil _ _ _ _ _, below_step HB0.out HB1.out⟩
          · rw [if_neg ce] at H3
            simp only [Option.some.injEq, Prod.mk.injEq] at H3
            obtain ⟨rfl, rfl⟩ := H3
            have d1 : (e1 == 0) = false := beq_eq_false_iff_ne.mpr ce
            have d2 : (e1 != 0) = true := bne_iff_ne.mpr ce
            clear ce
            go_wp2_with (go_at_call 10; (with_reducible refine (oid_Show.calls k _ _ x4_1 t1 e1 _ (HE.out.below HB.out) ?side1 ?side2 A2.out).mono ?_); (case side1 => exact zC (Kd.R_reads' HO_4.out).2.2); (case side2 => exact (Kd.R_reads' HO_4.out).2.1); rintro e w1 ⟨rfl, hb⟩; have HB1 := aM (below_step HB.out hb); clear hb)
            go_ret2
            exact ⟨_, rfl, Kd.R_nil _ _ _ _ _, below_step HB0.out HB1.out⟩

/-! ### cmp_isNaN_int: function 53 -/
def cmp_isNaN_int.f (a0 : Int) : Option (Bool) := some (a0 != a0)
set_option maxHeartbeats 8000000 in
set_option maxRecDepth 100000 in
theorem cmp_isNaN_int.calls (a0 : Int) (r : Bool) (w : World) (h : cmp_isNaN_int.f a0 = some r) :
  Calls Tryd.prog 53 #[.int .i64 a0] w fun e w' => e = .returned (.bool r) ∧ Drawn0 w w' := by
 have H := h
 clear h
 unfold cmp_isNaN_int.f at H
 obtain rfl := sI H
 go_enter Tryd.func53, Tryd.ntmps53
 go_wp2
 go_ret
 exact ⟨zP, zD⟩

/-! ### cmp_Compare_int: function 41 -/
def cmp_Compare_int.f (a0 : Int) (a1 : Int) : Option (Int) := (cmp_isNaN_int.f a0).bind fun t115 => ((cmp_isNaN_int.f a1).bind fun t116 => (if t115 = true then (if t116 = true then (some 0) else (some (-1))) else (if t116 = true then (some 1) else (if a0 < a1 then (some (-1)) else (if a0 > a1 then (some 1) else (some 0))))))
set_option maxHeartbeats 8000000 in
set_option maxRecDepth 100000 in
theorem cmp_Compare_int.calls (a0 : Int) (a1 : Int) (r : Int) (w : World) (h : cmp_Compare_int.f a0 a1 = some r) :
  Calls Tryd.prog 41 #[.int .i64 a0, .int .i64 a1] w fun e w' => e = .returned (.int .i64 r) ∧ Drawn0 w w' := by
 have H := h
 clear h
 unfold cmp_Compare_int.f at H
 obtain ⟨t115, A3, H⟩ := zO H
 obtain ⟨t116, A4, H⟩ := zO H
 by_cases c5 : t115 = true
 ·subst c5
  rw [if_pos rfl] at H
  by_cases c6 : t116 = true
  ·subst c6
   rw [if_pos rfl] at H
   obtain rfl := sI H
   go_enter Tryd.func41, Tryd.ntmps41
   go_wp2_with (first | ((with_reducible refine gate_callee (f := 53) rfl ?_); refine goesL_ (some 8) rfl rfl Tryd.func53 zK rfl #[.int .i64 a0] rfl zM ?_; (with_reducible refine (cmp_isNaN_int.calls a0 true _ A3.out).mono ?_); rintro e w' ⟨rfl, ⟨nd, rfl⟩⟩; (try clear A3); refine ⟨_, rfl, ?_⟩) | ((with_reducible refine gate_callee (f := 53) rfl ?_); refine goesL_ (some 10) rfl rfl Tryd.func53 zK rfl #[.int .i64 a1] rfl zM ?_; (with_reducible refine (cmp_isNaN_int.calls a1 true _ A4.out).mono ?_); rintro e w' ⟨rfl, ⟨nd, rfl⟩⟩; (try clear A4); refine ⟨_, rfl, ?_⟩))
   go_ret
   exact ⟨zP, zD⟩
  ·replace c6 := Bool.eq_false_iff.mpr c6
   subst c6
   rw [if_neg (show ¬ (false = true) by decide)] at H
   obtain rfl := sI H
   go_enter Tryd.func41, Tryd.ntmps41
   go_wp2_with (first | ((with_reducible refine gate_callee (f := 53) rfl ?_); refine goesL_ (some 8) rfl rfl Tryd.func53 zK rfl #[.int .i64 a0] rfl zM ?_; (with_reducible refine (cmp_isNaN_int.calls a0 true _ A3.out).mono ?_); rintro e w' ⟨rfl, ⟨nd, rfl⟩⟩; (try clear A3); refine ⟨_, rfl, ?_⟩) | ((with_reducible refine gate_callee (f := 53) rfl ?_); refine goesL_ (some 10) rfl rfl Tryd.func53 zK rfl #[.int .i64 a1] rfl zM ?_; (with_reducible refine (cmp_isNaN_int.calls a1 false _ A4.out).mono ?_); rintro e w' ⟨rfl, ⟨nd, rfl⟩⟩; (try clear A4); refine ⟨_, rfl, ?_⟩))
   go_ret
   exact ⟨zP, zD⟩
 ·replace c5 := Bool.eq_false_iff.mpr c5
  subst c5
  rw [if_neg (show ¬ (false = true) by decide)] at H
  by_cases c7 : t116 = true
  ·subst c7
   rw [if_pos rfl] at H
   obtain rfl := sI H
   go_enter Tryd.func41, Tryd.ntmps41
   go_wp2_with (first | ((with_reducible refine gate_callee (f := 53) rfl ?_); refine goesL_ (some 8) rfl rfl Tryd.func53 zK rfl #[.int .i64 a0] rfl zM ?_; (with_reducible refine (cmp_isNaN_int.calls a0 false _ A3.out).mono ?_); rintro e w' ⟨rfl, ⟨nd, rfl⟩⟩; (try clear A3); refine ⟨_, rfl, ?_⟩) | ((with_reducible refine gate_callee (f := 53) rfl ?_); refine goesL_ (some 10) rfl rfl Tryd.func53 zK rfl #[.int .i64 a1] rfl zM ?_; (with_reducible refine (cmp_isNaN_int.calls a1 true _ A4.out).mono ?_); rintro e w' ⟨rfl, ⟨nd, rfl⟩⟩; (try clear A4); refine ⟨_, rfl, ?_⟩))
   go_ret
   exact ⟨zP, zD⟩
  ·replace c7 := Bool.eq_false_iff.mpr c7
   subst c7
   rw [if_neg (show ¬ (false = true) by decide)] at H
   by_cases c8 : a0 < a1
   ·rw [if_pos c8] at H
    have c8b0 : decide (a0 < a1) = true := decide_eq_true c8
    clear c8
    obtain rfl := sI H
    go_enter Tryd.func41, Tryd.ntmps41
    go_wp2_with (first | ((with_reducible refine gate_callee (f := 53) rfl ?_); refine goesL_ (some 8) rfl rfl Tryd.func53 zK rfl #[.int .i64 a0] rfl zM ?_; (with_reducible refine (cmp_isNaN_int.calls a0 false _ A3.out).mono ?_); rintro e w' ⟨rfl, ⟨nd, rfl⟩⟩; (try clear A3); refine ⟨_, rfl, ?_⟩) | ((with_reducible refine gate_callee (f := 53) rfl ?_); refine goesL_ (some 10) rfl rfl Tryd.func53 zK rfl #[.int .i64 a1] rfl zM ?_; (with_reducible refine (cmp_isNaN_int.calls a1 false _ A4.out).mono ?_); rintro e w' ⟨rfl, ⟨nd, rfl⟩⟩; (try clear A4); refine ⟨_, rfl, ?_⟩))
    go_ret
    exact ⟨zP, zD⟩
   ·rw [if_neg c8] at H
    have c8b0 : decide (a0 < a1) = false := decide_eq_false c8
    clear c8
    by_cases c9 : a0 > a1
    ·rw [if_pos c9] at H
     have c9b0 : decide (a1 < a0) = true := decide_eq_true c9
     clear c9
     obtain rfl := sI H
     go_enter Tryd.func41, Tryd.ntmps41
     go_wp2_with (first | ((with_reducible refine gate_callee (f := 53) rfl ?_); refine goesL_ (some 8) rfl rfl Tryd.func53 zK rfl #[.int .i64 a0] rfl zM ?_; (with_reducible refine (cmp_isNaN_int.calls a0 false _ A3.out).mono ?_); rintro e w' ⟨rfl, ⟨nd, rfl⟩⟩; (try clear A3); refine ⟨_, rfl, ?_⟩) | ((with_reducible refine gate_callee (f := 53) rfl ?_); refine goesL_ (some 10) rfl rfl Tryd.func53 zK rfl #[.int .i64 a1] rfl zM ?_; (with_reducible refine (cmp_isNaN_int.calls a1 false _ A4.out).mono ?_); rintro e w' ⟨rfl, ⟨nd, rfl⟩⟩; (try clear A4); refine ⟨_, rfl, ?_⟩))
     go_ret
     exact ⟨zP, zD⟩
    ·rw [if_neg c9] at H
     have c9b0 : decide (a1 < a0) = false := decide_eq_false c9
     clear c9
     obtain rfl := sI H
     go_enter Tryd.func41, Tryd.ntmps41
     go_wp2_with (first | ((with_reducible refine gate_callee (f := 53) rfl ?_); refine goesL_ (some 8) rfl rfl Tryd.func53 zK rfl #[.int .i64 a0] rfl zM ?_; (with_reducible refine (cmp_isNaN_int.calls a0 false _ A3.out).mono ?_); rintro e w' ⟨rfl, ⟨nd, rfl⟩⟩; (try clear A3); refine ⟨_, rfl, ?_⟩) | ((with_reducible refine gate_callee (f := 53) rfl ?_); refine goesL_ (some 10) rfl rfl Tryd.func53 zK rfl #[.int .i64 a1] rfl zM ?_; (with_reducible refine (cmp_isNaN_int.calls a1 false _ A4.out).mono ?_); rintro e w' ⟨rfl, ⟨nd, rfl⟩⟩; (try clear A4); refine ⟨_, rfl, ?_⟩))
     go_ret
     exact ⟨zP, zD⟩

/-! ### slices_Compare_int_int: function 31 -/
def slices_Compare_int_int.l0 : Nat → List Int → List Int → List Int → Int → Int → Option (Int)
 | 0, _, _, _, _, _ => none
 | k + 1, x0, x1, x9, x10, x11 => if x11 < x10 then (if 0 ≤ x11 then (if x11 < (x9.length : Int) then (if x11 ≥ (x1.length : Int) then (some 1) else (if x11 < (x1.length : Int) then ((cmp_Compare_int.f (rd x9 x11) (rd x1 x11)).bind fun t119 => (if t119 = 0 then (slices_Compare_int_int.l0 k x0 x1 x9 x10 (wrap64 (x11 + 1))) else (some t119))) else (none))) else (none)) else (none)) else (if (x0.length : Int) < (x1.length : Int) then (some (-1)) else (some 0))
def slices_Compare_int_int.f (k : Nat) (l0 : List Int) (l1 : List Int) : Option (Int) := slices_Compare_int_int.l0 k l0 l1 l0 (l0.length : Int) 0
theorem slices_Compare_int_int.mono_l : ∀ k, (∀ y0 y1 y2 y3 y4, LeO (slices_Compare_int_int.l0 k y0 y1 y2 y3 y4) (slices_Compare_int_int.l0 (k + 1) y0 y1 y2 y3 y4))
 | 0 => fun _ _ _ _ _ r h => by simp [slices_Compare_int_int.l0] at h
 | k + 1 => by
  have ih0 := slices_Compare_int_int.mono_l k
  ·intro y0 y1 y2 y3 y4
   unfold slices_Compare_int_int.l0
   repeat' first
   | (with_reducible exact ih0 _ _ _ _ _)
   | (with_reducible exact LeO.refl _)
   | exact ih0 _ _ _ _ _
   | exact LeO.none _
   | refine LeO.ite ?_ ?_
   | refine LeO.bind ?_ (fun _ => ?_)
theorem slices_Compare_int_int.mono : ∀ a0 a1 k, LeO (slices_Compare_int_int.f k a0 a1) (slices_Compare_int_int.f (k + 1) a0 a1) := by
 intro a0 a1 k
 have ih0 := slices_Compare_int_int.mono_l k
 unfold slices_Compare_int_int.f
 repeat' first
   | (with_reducible exact ih0 _ _ _ _ _)
   | (with_reducible exact LeO.refl _)
   | exact ih0 _ _ _ _ _
   | exact LeO.none _
   | refine LeO.ite ?_ ?_
   | refine LeO.bind ?_ (fun _ => ?_)
set_option maxHeartbeats 8000000 in
set_option maxRecDepth 100000 in
theorem slices_Compare_int_int.calls (k : Nat) (A0 : Option Addr) (c0 : Nat) (l0 : List Int) (A1 : Option Addr) (c1 : Nat) (l1 : List Int) (r : Int) (w : World) (hr0 : Kd.C (Kd.int .i64) w A0 l0.length l0) (hc0 : l0.length ≤ c0) (hr1 : Kd.C (Kd.int .i64) w A1 l1.length l1) (hc1 : l1.length ≤ c1) (h : slices_Compare_int_int.f k l0 l1 = some r) :
  Calls Tryd.prog 31 #[.slice A0 l0.length c0, .slice A1 l1.length c1] w fun e w' => e = .returned (.int .i64 r) ∧ Drawn0 w w' := by
 have HR0 := aM hr0
 have HC0 := aM hc0
 clear hr0 hc0
 have HR1 := aM hr1
 have HC1 := aM hc1
 clear hr1 hc1
 have H := h
 clear h
 unfold slices_Compare_int_int.f at H
 have H' := aM H
 clear H
 go_enter Tryd.func31, Tryd.ntmps31
 go_wp2
 go_loopg [11] k (fun kq v11 w' => ∃ (x11_1 : Int), v11 = .int .i64 x11_1 ∧ Aside0 (slices_Compare_int_int.l0 kq l0 l1 l0 (l0.length : Int) x11_1 = some r) ∧ Aside0 (kq ≤ k) ∧ Drawn0 w w')
 case atStart => exact ⟨(0), zP, H', ⟨Nat.le_refl _⟩, zD⟩
 case round =>
  clear H'
  try clear c1
  try clear p2
  obtain ⟨x11_1, rfl, HA, HK1, ⟨m1, rfl⟩⟩ := hrel
  cases gk with
  | zero => exact absurd HA.out (by simp [slices_Compare_int_int.l0])
  | succ k1 =>
   have H := HA.out
   clear HA
   simp only [slices_Compare_int_int.l0] at H
   by_cases c3 : x11_1 < (l0.length : Int)
   ·rw [if_pos c3] at H
    have c3b0 : decide (x11_1 < (l0.length : Int)) = true := decide_eq_true c3
    clear c3
    by_cases c4 : 0 ≤ x11_1
    ·rw [if_pos c4] at H
     have c4b0 : decide (0 ≤ x11_1) = true := decide_eq_true c4
     clear c4
     by_cases c5 : x11_1 < (l0.length : Int)
     ·rw [if_pos c5] at H
      have c5b0 : decide (x11_1 < (l0.length : Int)) = true := decide_eq_true c5
      clear c5
      by_cases c6 : x11_1 ≥ (l1.length : Int)
      ·rw [if_pos c6] at H
       have c6b0 : decide ((l1.length : Int) ≤ x11_1) = true := decide_eq_true c6
       clear c6
       obtain rfl := sI H
       have p117 : 0 ≤ (x11_1 : Int) := zoA
       have q117 : x11_1 < (l0.length : Int) := zoA
       obtain ⟨ad117, e117, hx117_0⟩ := Kd.at_int HR0.out x11_1 p117 q117
       cases e117
       replace p117 := eq_true p117
       replace q117 := eq_true q117
       go_wp2
       go_ret
       exact ⟨zP, zD⟩
      ·rw [if_neg c6] at H
       have c6b0 : decide ((l1.length : Int) ≤ x11_1) = false := decide_eq_false c6
       clear c6
       by_cases c7 : x11_1 < (l1.length : Int)
       ·rw [if_pos c7] at H
        have c7b0 : decide (x11_1 < (l1.length : Int)) = true := decide_eq_true c7
        clear c7
        obtain ⟨t119, A8, H⟩ := zO H
        by_cases c9 : t119 = 0
        ·rw [if_pos c9] at H
         have c9b0 : (t119 == 0) = true := beq_iff_eq.mpr c9
         have c9b1 : (t119 != 0) = false := bne_eq_false_iff_eq.mpr c9
         clear c9
         have H' := aM H
         clear H
         have p117 : 0 ≤ (x11_1 : Int) := zoA
         have q117 : x11_1 < (l0.length : Int) := zoA
         obtain ⟨ad117, e117, hx117_0⟩ := Kd.at_int HR0.out x11_1 p117 q117
         cases e117
         replace p117 := eq_true p117
         replace q117 := eq_true q117
         have p118 : 0 ≤ (x11_1 : Int) := zoA
         have q118 : x11_1 < (l1.length : Int) := zoA
         obtain ⟨ad118, e118, hx118_0⟩ := Kd.at_int HR1.out x11_1 p118 q118
         cases e118
         replace p118 := eq_true p118
         replace q118 := eq_true q118
         go_wp2_with (first | ((with_reducible refine gate_callee (f := 41) rfl ?_); refine goesL_ (some 26) rfl rfl Tryd.func41 zK rfl #[.int .i64 (rd l0 x11_1), .int .i64 (rd l1 x11_1)] rfl zM ?_; (with_reducible refine (cmp_Compare_int.calls (rd l0 x11_1) (rd l1 x11_1) t119 _ A8.out).mono ?_); rintro e w' ⟨rfl, ⟨nd, rfl⟩⟩; refine ⟨_, rfl, ?_⟩))
         go_roundg k1
         case measure => have := HK1.out; omega
         case rel => exact ⟨(wrap64 (x11_1 + 1)), zP, H', ⟨by have := HK1.out; omega⟩, zD⟩
        ·rw [if_neg c9] at H
         have c9b0 : (t119 == 0) = false := beq_eq_false_iff_ne.mpr c9
         have c9b1 : (t119 != 0) = true := bne_iff_ne.mpr c9
         obtain rfl := sI H
         have p117 : 0 ≤ (x11_1 : Int) := zoA
         have q117 : x11_1 < (l0.length : Int) := zoA
         obtain ⟨ad117, e117, hx117_0⟩ := Kd.at_int HR0.out x11_1 p117 q117
         cases e117
         replace p117 := eq_true p117
         replace q117 := eq_true q117
         have p118 : 0 ≤ (x11_1 : Int) := zoA
         have q118 : x11_1 < (l1.length : Int) := zoA
         obtain ⟨ad118, e118, hx118_0⟩ := Kd.at_int HR1.out x11_1 p118 q118
         cases e118
         replace p118 := eq_true p118
         replace q118 := eq_true q118
         go_wp2_with (first | ((with_reducible refine gate_callee (f := 41) rfl ?_); refine goesL_ (some 26) rfl rfl Tryd.func41 zK rfl #[.int .i64 (rd l0 x11_1), .int .i64 (rd l1 x11_1)] rfl zM ?_; (with_reducible refine (cmp_Compare_int.calls (rd l0 x11_1) (rd l1 x11_1) t119 _ A8.out).mono ?_); rintro e w' ⟨rfl, ⟨nd, rfl⟩⟩; refine ⟨_, rfl, ?_⟩))
         go_ret
         exact ⟨zP, zD⟩
       ·rw [if_neg c7] at H
        exact absurd H (by simp)
     ·rw [if_neg c5] at H
      exact absurd H (by simp)
    ·rw [if_neg c4] at H
     exact absurd H (by simp)
   ·rw [if_neg c3] at H
    have c3b0 : decide (x11_1 < (l0.length : Int)) = false := decide_eq_false c3
    clear c3
    by_cases c10 : (l0.length : Int) < (l1.length : Int)
    ·rw [if_pos c10] at H
     have c10b0 : decide ((l0.length : Int) < (l1.length : Int)) = true := decide_eq_true c10
     have c10b1 : decide (l0.length < l1.length) = true := decide_eq_true (Int.ofNat_lt.mp c10)
     clear c10
     obtain rfl := sI H
     go_wp2
     go_ret
     exact ⟨zP, zD⟩
    ·rw [if_neg c10] at H
     have c10b0 : decide ((l0.length : Int) < (l1.length : Int)) = false := decide_eq_false c10
     have c10b1 : decide (l0.length < l1.length) = false := decide_eq_false (fun h => c10 (Int.ofNat_lt.mpr h))
     clear c10
     obtain rfl := sI H
     go_wp2
     go_ret
     exact ⟨zP, zD⟩

/-! ### oid_Cmp: function 19 -/
def oid_Cmp.f (k : Nat) (l0 : List Int) (l1 : List Int) : Option (Int) := (slices_Compare_int_int.f k l0 l1).bind fun t120 => (some t120)
theorem oid_Cmp.mono : ∀ a0 a1 k, LeO (oid_Cmp.f k a0 a1) (oid_Cmp.f (k + 1) a0 a1) := by
 intro a0 a1 k
 unfold oid_Cmp.f
 repeat' first
   | (with_reducible exact slices_Compare_int_int.mono _ _ _)
   | (with_reducible exact LeO.refl _)
   | exact slices_Compare_int_int.mono _ _ _
   | exact LeO.none _
   | refine LeO.ite ?_ ?_
   | refine LeO.bind ?_ (fun _ => ?_)
set_option maxHeartbeats 8000000 in
set_option maxRecDepth 100000 in
theorem oid_Cmp.calls (k : Nat) (A0 : Option Addr) (c0 : Nat) (l0 : List Int) (A1 : Option Addr) (c1 : Nat) (l1 : List Int) (r : Int) (w : World) (hr0 : Kd.C (Kd.int .i64) w A0 l0.length l0) (hc0 : l0.length ≤ c0) (hr1 : Kd.C (Kd.int .i64) w A1 l1.length l1) (hc1 : l1.length ≤ c1) (h : oid_Cmp.f k l0 l1 = some r) :
  Calls Tryd.prog 19 #[.slice A0 l0.length c0, .slice A1 l1.length c1] w fun e w' => e = .returned (.int .i64 r) ∧ Drawn0 w w' := by
 have HR0 := aM hr0
 have HC0 := aM hc0
 clear hr0 hc0
 have HR1 := aM hr1
 have HC1 := aM hc1
 clear hr1 hc1
 have H := h
 clear h
 unfold oid_Cmp.f at H
 obtain ⟨t120, A3, H⟩ := zO H
 obtain rfl := sI H
 go_enter Tryd.func19, Tryd.ntmps19
 go_wp2_with (first | ((with_reducible refine gate_callee (f := 31) rfl ?_); refine goesL_ (some 7) rfl rfl Tryd.func31 zK rfl #[.slice A0 l0.length c0, .slice A1 l1.length c1] rfl zM ?_; (with_reducible refine (slices_Compare_int_int.calls k _ _ l0 _ _ l1 t120 _ ?side1 ?side2 ?side3 ?side4 A3.out).mono ?_); (case side1 => exact zC HR0.out); (case side2 => exact HC0.out); (case side3 => exact zC HR1.out); (case side4 => exact HC1.out); rintro e w' ⟨rfl, ⟨nd, rfl⟩⟩; refine ⟨_, rfl, ?_⟩))
 go_ret
 exact ⟨zP, zD⟩

/-! ### slices_Equal_int_int: function 32 -/
def slices_Equal_int_int.l0 : Nat → List Int → List Int → Int → Int → Option (Bool)
 | 0, _, _, _, _ => none
 | k + 1, x0, x1, x12, x13 => if x13 < x12 then (if 0 ≤ x13 then (if x13 < (x0.length : Int) then (if x13 < (x1.length : Int) then (if (rd x0 x13) = (rd x1 x13) then (slices_Equal_int_int.l0 k x0 x1 x12 (wrap64 (x13 + 1))) else (some false)) else (none)) else (none)) else (none)) else (some true)
def slices_Equal_int_int.f (k : Nat) (l0 : List Int) (l1 : List Int) : Option (Bool) := if (l0.length : Int) = (l1.length : Int) then (slices_Equal_int_int.l0 k l0 l1 (l0.length : Int) 0) else (some false)
theorem slices_Equal_int_int.mono_l : ∀ k, (∀ y0 y1 y2 y3, LeO (slices_Equal_int_int.l0 k y0 y1 y2 y3) (slices_Equal_int_int.l0 (k + 1) y0 y1 y2 y3))
 | 0 => fun _ _ _ _ r h => by simp [slices_Equal_int_int.l0] at h
 | k + 1 => by
  have ih0 := slices_Equal_int_int.mono_l k
  ·intro y0 y1 y2 y3
   unfold slices_Equal_int_int.l0
   repeat' first
   | (with_reducible exact ih0 _ _ _ _)
   | (with_reducible exact LeO.refl _)
   | exact ih0 _ _ _ _
   | exact LeO.none _
   | refine LeO.ite ?_ ?_
   | refine LeO.bind ?_ (fun _ => ?_)
theorem slices_Equal_int_int.mono : ∀ a0 a1 k, LeO (slices_Equal_int_int.f k a0 a1) (slices_Equal_int_int.f (k + 1) a0 a1) := by
 intro a0 a1 k
 have ih0 := slices_Equal_int_int.mono_l k
 unfold slices_Equal_int_int.f
 repeat' first
   | (with_reducible exact ih0 _ _ _ _)
   | (with_reducible exact LeO.refl _)
   | exact ih0 _ _ _ _
   | exact LeO.none _
   | refine LeO.ite ?_ ?_
   | refine LeO.bind ?_ (fun _ => ?_)
set_option maxHeartbeats 8000000 in
set_option maxRecDepth 100000 in
theorem slices_Equal_int_int.calls (k : Nat) (A0 : Option Addr) (c0 : Nat) (l0 : List Int) (A1 : Option Addr) (c1 : Nat) (l1 : List Int) (r : Bool) (w : World) (hr0 : Kd.C (Kd.int .i64) w A0 l0.length l0) (hc0 : l0.length ≤ c0) (hr1 : Kd.C (Kd.int .i64) w A1 l1.length l1) (hc1 : l1.length ≤ c1) (h : slices_Equal_int_int.f k l0 l1 = some r) :
  Calls Tryd.prog 32 #[.slice A0 l0.length c0, .slice A1 l1.length c1] w fun e w' => e = .returned (.bool r) ∧ Drawn0 w w' := by
 have HR0 := aM hr0
 have HC0 := aM hc0
 clear hr0 hc0
 have HR1 := aM hr1
 have HC1 := aM hc1
 clear hr1 hc1
 have H := h
 clear h
 unfold slices_Equal_int_int.f at H
 by_cases c3 : (l0.length : Int) = (l1.length : Int)
 ·rw [if_pos c3] at H
  have c3b0 : ((l0.length : Int) == (l1.length : Int)) = true := beq_iff_eq.mpr c3
  have c3b1 : ((l0.length : Int) != (l1.length : Int)) = false := bne_eq_false_iff_eq.mpr c3
  have c3b2 : (l0.length == l1.length) = true := by first | simpa using c3 | (simp at c3 ⊢; omega)
  clear c3
  have H' := aM H
  clear H
  go_enter Tryd.func32, Tryd.ntmps32
  go_wp2
  repeat (go_quiet (fail); try go_wp2)
  go_loopg [13] k (fun kq v13 w' => ∃ (x13_1 : Int), v13 = .int .i64 x13_1 ∧ Aside0 (slices_Equal_int_int.l0 kq l0 l1 (l0.length : Int) x13_1 = some r) ∧ Aside0 (kq ≤ k) ∧ Drawn0 w w')
  case atStart => exact ⟨(0), zP, H', ⟨Nat.le_refl _⟩, zD⟩
  case round =>
   clear H'
   try clear c1
   try clear p2
   try clear c3
   try clear c3b0
   try clear c3b1
   try clear c3b2
   obtain ⟨x13_1, rfl, HA, HK1, ⟨m1, rfl⟩⟩ := hrel
   cases gk with
   | zero => exact absurd HA.out (by simp [slices_Equal_int_int.l0])
   | succ k1 =>
    have H := HA.out
    clear HA
    simp only [slices_Equal_int_int.l0] at H
    by_cases c4 : x13_1 < (l0.length : Int)
    ·rw [if_pos c4] at H
     have c4b0 : decide (x13_1 < (l0.length : Int)) = true := decide_eq_true c4
     clear c4
     by_cases c5 : 0 ≤ x13_1
     ·rw [if_pos c5] at H
      have c5b0 : decide (0 ≤ x13_1) = true := decide_eq_true c5
      clear c5
      by_cases c6 : x13_1 < (l0.length : Int)
      ·rw [if_pos c6] at H
       have c6b0 : decide (x13_1 < (l0.length : Int)) = true := decide_eq_true c6
       clear c6
       by_cases c7 : x13_1 < (l1.length : Int)
       ·rw [if_pos c7] at H
        have c7b0 : decide (x13_1 < (l1.length : Int)) = true := decide_eq_true c7
        clear c7
        by_cases c8 : (rd l0 x13_1) = (rd l1 x13_1)
        ·rw [if_pos c8] at H
         have c8b0 : ((rd l0 x13_1) == (rd l1 x13_1)) = true := beq_iff_eq.mpr c8
         have c8b1 : ((rd l0 x13_1) != (rd l1 x13_1)) = false := bne_eq_false_iff_eq.mpr c8
         clear c8
         have H' := aM H
         clear H
         have p121 : 0 ≤ (x13_1 : Int) := zoA
         have q121 : x13_1 < (l0.length : Int) := zoA
         obtain ⟨ad121, e121, hx121_0⟩ := Kd.at_int HR0.out x13_1 p121 q121
         cases e121
         replace p121 := eq_true p121
         replace q121 := eq_true q121
         have p122 : 0 ≤ (x13_1 : Int) := zoA
         have q122 : x13_1 < (l1.length : Int) := zoA
         obtain ⟨ad122, e122, hx122_0⟩ := Kd.at_int HR1.out x13_1 p122 q122
         cases e122
         replace p122 := eq_true p122
         replace q122 := eq_true q122
         go_wp2
         repeat (go_quiet (fail); try go_wp2)
         go_roundg k1
         case measure => have := HK1.out; omega
         case rel => exact ⟨(wrap64 (x13_1 + 1)), zP, H', ⟨by have := HK1.out; omega⟩, zD⟩
        ·rw [if_neg c8] at H
         have c8b0 : ((rd l0 x13_1) == (rd l1 x13_1)) = false := beq_eq_false_iff_ne.mpr c8
         have c8b1 : ((rd l0 x13_1) != (rd l1 x13_1)) = true := bne_iff_ne.mpr c8
         obtain rfl := sI H
         have p121 : 0 ≤ (x13_1 : Int) := zoA
         have q121 : x13_1 < (l0.length : Int) := zoA
         obtain ⟨ad121, e121, hx121_0⟩ := Kd.at_int HR0.out x13_1 p121 q121
         cases e121
         replace p121 := eq_true p121
         replace q121 := eq_true q121
         have p122 : 0 ≤ (x13_1 : Int) := zoA
         have q122 : x13_1 < (l1.length : Int) := zoA
         obtain ⟨ad122, e122, hx122_0⟩ := Kd.at_int HR1.out x13_1 p122 q122
         cases e122
         replace p122 := eq_true p122
         replace q122 := eq_true q122
         go_wp2
         repeat (go_quiet (fail); try go_wp2)
         go_ret
         exact ⟨zP, zD⟩
       ·rw [if_neg c7] at H
        exact absurd H (by simp)
      ·rw [if_neg c6] at H
       exact absurd H (by simp)
     ·rw [if_neg c5] at H
      exact absurd H (by simp)
    ·rw [if_neg c4] at H
     have c4b0 : decide (x13_1 < (l0.length : Int)) = false := decide_eq_false c4
     clear c4
     obtain rfl := sI H
     go_wp2
     repeat (go_quiet (fail); try go_wp2)
     go_ret
     exact ⟨zP, zD⟩
 ·rw [if_neg c3] at H
  have c3b0 : ((l0.length : Int) == (l1.length : Int)) = false := beq_eq_false_iff_ne.mpr c3
  have c3b1 : ((l0.length : Int) != (l1.length : Int)) = true := bne_iff_ne.mpr c3
  have c3b2 : (l0.length == l1.length) = false := by first | simpa using c3 | (simp at c3 ⊢; omega)
  obtain rfl := sI H
  go_enter Tryd.func32, Tryd.ntmps32
  go_wp2
  repeat (go_quiet (fail); try go_wp2)
  go_ret
  exact ⟨zP, zD⟩

end Go.Proofs.YtmnfdoldoomcgaaDoor.P
