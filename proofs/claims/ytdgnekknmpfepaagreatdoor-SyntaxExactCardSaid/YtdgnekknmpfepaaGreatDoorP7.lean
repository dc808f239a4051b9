-- Printed by wip/mk.py (this session's driver over the kit's print) and from wip/manual.
import Derived.Test.YtdgnekknmpfepaaGreatDoorP0
import Derived.Test.YtdgnekknmpfepaaGreatDoorP1
namespace Go.Proofs.YtdgnekknmpfepaaGreatDoor.P
open Go.RowKit Go.Proofs.YtdgnekknmpfepaaGreatDoorW.PrintWords Go.Proofs.YtdgnekknmpfepaaGreatDoorW.PrintLast Go.Proofs.YtdgnekknmpfepaaGreatDoorW.PrintMore
attribute [local go_sem] run_store_float run_store_complex max2_int min2_int max_two min_two max_three min_three max_four min_four   -- for this text's walks alone
set_option linter.unusedVariables false
set_option linter.unusedSimpArgs false

/-! ### syntax_numeric: function 28 -/
def syntax_numeric.l0 : Nat → ByteArray → Int → Option (Bool)
 | 0, _, _ => none
 | k + 1, x0, x3 => if x3 < (x0.size : Int) then (if 0 ≤ x3 then (if (bt x0 x3) = 32 then (syntax_numeric.l0 k x0 (wrap64 (x3 + 1))) else (if (bt x0 x3) < 48 then (some false) else (if (bt x0 x3) > 57 then (some false) else (syntax_numeric.l0 k x0 (wrap64 (x3 + 1)))))) else (none)) else (some true)
def syntax_numeric.f (k : Nat) (a0 : ByteArray) : Option (Bool) := syntax_numeric.l0 k a0 0
theorem syntax_numeric.mono_l : ∀ k, (∀ y0 y1, LeO (syntax_numeric.l0 k y0 y1) (syntax_numeric.l0 (k + 1) y0 y1))
 | 0 => fun _ _ r h => by simp [syntax_numeric.l0] at h
 | k + 1 => by
  have ih0 := syntax_numeric.mono_l k
  ·intro y0 y1
   unfold syntax_numeric.l0
   repeat' first
   | (with_reducible exact ih0 _ _)
   | (with_reducible exact LeO.refl _)
   | exact ih0 _ _
   | exact LeO.none _
   | refine LeO.ite ?_ ?_
   | refine LeO.bind ?_ (fun _ => ?_)
theorem syntax_numeric.mono : ∀ a0 k, LeO (syntax_numeric.f k a0) (syntax_numeric.f (k + 1) a0) := by
 intro a0 k
 have ih0 := syntax_numeric.mono_l k
 unfold syntax_numeric.f
 repeat' first
   | (with_reducible exact ih0 _ _)
   | (with_reducible exact LeO.refl _)
   | exact ih0 _ _
   | exact LeO.none _
   | refine LeO.ite ?_ ?_
   | refine LeO.bind ?_ (fun _ => ?_)
set_option maxHeartbeats 8000000 in
set_option maxRecDepth 100000 in
theorem syntax_numeric.calls (k : Nat) (a0 : ByteArray) (r : Bool) (w : World) (h : syntax_numeric.f k a0 = some r) :
  Calls Tryz.prog 28 #[.string a0] w fun e w' => e = .returned (.bool r) ∧ Drawn0 w w' := by
 have H := h
 clear h
 unfold syntax_numeric.f at H
 have H' := aM H
 clear H
 go_enter Tryz.func28, Tryz.ntmps28
 go_wp2
 go_loopg [3] k (fun kq v3 w' => ∃ (x3_1 : Int), v3 = .int .i64 x3_1 ∧ Aside0 (syntax_numeric.l0 kq a0 x3_1 = some r) ∧ Aside0 (kq ≤ k) ∧ Drawn0 w w')
 case atStart => exact ⟨(0), zP, H', ⟨Nat.le_refl _⟩, zD⟩
 case round =>
  clear H'
  obtain ⟨x3_1, rfl, HA, HK1, ⟨m1, rfl⟩⟩ := hrel
  cases gk with
  | zero => exact absurd HA.out (by simp [syntax_numeric.l0])
  | succ k1 =>
   have H := HA.out
   clear HA
   simp only [syntax_numeric.l0] at H
   by_cases c2 : x3_1 < (a0.size : Int)
   ·rw [if_pos c2] at H
    have c2b0 : decide (x3_1 < (a0.size : Int)) = true := decide_eq_true c2
    clear c2
    by_cases c3 : 0 ≤ x3_1
    ·rw [if_pos c3] at H
     have c3b0 : decide (0 ≤ x3_1) = true := decide_eq_true c3
     clear c3
     by_cases c5 : (bt a0 x3_1) = 32
     ·rw [if_pos c5] at H
      have c5b0 : ((bt a0 x3_1) == 32) = true := beq_iff_eq.mpr c5
      have c5b1 : ((bt a0 x3_1) != 32) = false := bne_eq_false_iff_eq.mpr c5
      clear c5
      have H' := aM H
      clear H
      have p4 : 0 ≤ (x3_1 : Int) := zoA
      have q4 : x3_1 < (a0.size : Int) := zoA
      have hx4 := bt_at a0 x3_1
      replace p4 := eq_true p4
      replace q4 := eq_true q4
      go_wp2
      go_roundg k1
      case measure => have := HK1.out; omega
      case rel => exact ⟨(wrap64 (x3_1 + 1)), zP, H', ⟨by have := HK1.out; omega⟩, zD⟩
     ·rw [if_neg c5] at H
      have c5b0 : ((bt a0 x3_1) == 32) = false := beq_eq_false_iff_ne.mpr c5
      have c5b1 : ((bt a0 x3_1) != 32) = true := bne_iff_ne.mpr c5
      by_cases c6 : (bt a0 x3_1) < 48
      ·rw [if_pos c6] at H
       have c6b0 : decide ((bt a0 x3_1) < 48) = true := decide_eq_true c6
       clear c6
       obtain rfl := sI H
       have p4 : 0 ≤ (x3_1 : Int) := zoA
       have q4 : x3_1 < (a0.size : Int) := zoA
       have hx4 := bt_at a0 x3_1
       replace p4 := eq_true p4
       replace q4 := eq_true q4
       go_wp2
       go_ret
       exact ⟨zP, zD⟩
      ·rw [if_neg c6] at H
       have c6b0 : decide ((bt a0 x3_1) < 48) = false := decide_eq_false c6
       clear c6
       by_cases c7 : (bt a0 x3_1) > 57
       ·rw [if_pos c7] at H
        have c7b0 : decide (57 < (bt a0 x3_1)) = true := decide_eq_true c7
        clear c7
        obtain rfl := sI H
        have p4 : 0 ≤ (x3_1 : Int) := zoA
        have q4 : x3_1 < (a0.size : Int) := zoA
        have hx4 := bt_at a0 x3_1
        replace p4 := eq_true p4
        replace q4 := eq_true q4
        go_wp2
        go_ret
        exact ⟨zP, zD⟩
       ·rw [if_neg c7] at H
        have c7b0 : decide (57 < (bt a0 x3_1)) = false := decide_eq_false c7
        clear c7
        have H' := aM H
        clear H
        have p4 : 0 ≤ (x3_1 : Int) := zoA
        have q4 : x3_1 < (a0.size : Int) := zoA
        have hx4 := bt_at a0 x3_1
        replace p4 := eq_true p4
        replace q4 := eq_true q4
        go_wp2
        go_roundg k1
        case measure => have := HK1.out; omega
        case rel => exact ⟨(wrap64 (x3_1 + 1)), zP, H', ⟨by have := HK1.out; omega⟩, zD⟩
    ·rw [if_neg c3] at H
     exact absurd H (by simp)
   ·rw [if_neg c2] at H
    have c2b0 : decide (x3_1 < (a0.size : Int)) = false := decide_eq_false c2
    clear c2
    obtain rfl := sI H
    go_wp2
    go_ret
    exact ⟨zP, zD⟩

/-! ### oid_Check_1: function 152 -/
def oid_Check_1.f (a0 : Int) : Option (Bool) := if a0 < 0 then (some true) else (some (decide (a0 > 99999)))
set_option maxHeartbeats 8000000 in
set_option maxRecDepth 100000 in
theorem oid_Check_1.calls (a0 : Int) (r : Bool) (w : World) (h : oid_Check_1.f a0 = some r) :
  Calls Tryz.prog 152 #[.int .i64 a0] w fun e w' => e = .returned (.bool r) ∧ Drawn0 w w' := by
 have H := h
 clear h
 unfold oid_Check_1.f at H
 by_cases c2 : a0 < 0
 ·rw [if_pos c2] at H
  have c2b0 : decide (a0 < 0) = true := decide_eq_true c2
  clear c2
  obtain rfl := sI H
  go_enter Tryz.func152, Tryz.ntmps152
  go_wp2
  go_ret
  exact ⟨zP, zD⟩
 ·rw [if_neg c2] at H
  have c2b0 : decide (a0 < 0) = false := decide_eq_false c2
  clear c2
  obtain rfl := sI H
  go_enter Tryz.func152, Tryz.ntmps152
  go_wp2
  go_ret
  exact ⟨zP, zD⟩

/-! ### slices_IndexFunc_int_int_oid_Check_1: function 278 -/
def slices_IndexFunc_int_int_oid_Check_1.l0 : Nat → List Int → Int → Int → Option (Int)
 | 0, _, _, _ => none
 | k + 1, x0, x7, x8 => if x8 < x7 then (if 0 ≤ x8 then (if x8 < (x0.length : Int) then ((oid_Check_1.f (rd x0 x8)).bind fun t287 => (if t287 = true then (some x8) else (slices_IndexFunc_int_int_oid_Check_1.l0 k x0 x7 (wrap64 (x8 + 1))))) else (none)) else (none)) else (some (-1))
def slices_IndexFunc_int_int_oid_Check_1.f (k : Nat) (l0 : List Int) (a1 : Int) : Option (Int) := slices_IndexFunc_int_int_oid_Check_1.l0 k l0 (l0.length : Int) 0
theorem slices_IndexFunc_int_int_oid_Check_1.mono_l : ∀ k, (∀ y0 y1 y2, LeO (slices_IndexFunc_int_int_oid_Check_1.l0 k y0 y1 y2) (slices_IndexFunc_int_int_oid_Check_1.l0 (k + 1) y0 y1 y2))
 | 0 => fun _ _ _ r h => by simp [slices_IndexFunc_int_int_oid_Check_1.l0] at h
 | k + 1 => by
  have ih0 := slices_IndexFunc_int_int_oid_Check_1.mono_l k
  ·intro y0 y1 y2
   unfold slices_IndexFunc_int_int_oid_Check_1.l0
   repeat' first
   | (with_reducible exact ih0 _ _ _)
   | (with_reducible exact LeO.refl _)
   | exact ih0 _ _ _
   | exact LeO.none _
   | refine LeO.ite ?_ ?_
   | refine LeO.bind ?_ (fun _ => ?_)
theorem slices_IndexFunc_int_int_oid_Check_1.mono : ∀ a0 a1 k, LeO (slices_IndexFunc_int_int_oid_Check_1.f k a0 a1) (slices_IndexFunc_int_int_oid_Check_1.f (k + 1) a0 a1) := by
 intro a0 a1 k
 have ih0 := slices_IndexFunc_int_int_oid_Check_1.mono_l k
 unfold slices_IndexFunc_int_int_oid_Check_1.f
 repeat' first
   | (with_reducible exact ih0 _ _ _)
   | (with_reducible exact LeO.refl _)
   | exact ih0 _ _ _
   | exact LeO.none _
   | refine LeO.ite ?_ ?_
   | refine LeO.bind ?_ (fun _ => ?_)
set_option maxHeartbeats 8000000 in
set_option maxRecDepth 100000 in
theorem slices_IndexFunc_int_int_oid_Check_1.calls (k : Nat) (A0 : Option Addr) (c0 : Nat) (l0 : List Int) (a1 : Int) (r : Int) (w : World) (hr0 : Kd.C (Kd.int .i64) w A0 l0.length l0) (hc0 : l0.length ≤ c0) (h : slices_IndexFunc_int_int_oid_Check_1.f k l0 a1 = some r) :
  Calls Tryz.prog 188 #[.slice A0 l0.length c0, .func (.func 152) #[] #[]] w fun e w' => e = .returned (.int .i64 r) ∧ Drawn0 w w' := by
 have HR0 := aM hr0
 have HC0 := aM hc0
 clear hr0 hc0
 have H := h
 clear h
 unfold slices_IndexFunc_int_int_oid_Check_1.f at H
 have H' := aM H
 clear H
 go_enter Tryz.func188, Tryz.ntmps188
 go_wp2
 go_loopg [8] k (fun kq v8 w' => ∃ (x8_1 : Int), v8 = .int .i64 x8_1 ∧ Aside0 (slices_IndexFunc_int_int_oid_Check_1.l0 kq l0 (l0.length : Int) x8_1 = some r) ∧ Aside0 (kq ≤ k) ∧ Drawn0 w w')
 case atStart => exact ⟨(0), zP, H', ⟨Nat.le_refl _⟩, zD⟩
 case round =>
  clear H'
  try clear c2
  try clear p2
  obtain ⟨x8_1, rfl, HA, HK1, ⟨m1, rfl⟩⟩ := hrel
  cases gk with
  | zero => exact absurd HA.out (by simp [slices_IndexFunc_int_int_oid_Check_1.l0])
  | succ k1 =>
   have H := HA.out
   clear HA
   simp only [slices_IndexFunc_int_int_oid_Check_1.l0] at H
   by_cases c3 : x8_1 < (l0.length : Int)
   ·rw [if_pos c3] at H
    have c3b0 : decide (x8_1 < (l0.length : Int)) = true := decide_eq_true c3
    clear c3
    by_cases c4 : 0 ≤ x8_1
    ·rw [if_pos c4] at H
     have c4b0 : decide (0 ≤ x8_1) = true := decide_eq_true c4
     clear c4
     by_cases c5 : x8_1 < (l0.length : Int)
     ·rw [if_pos c5] at H
      have c5b0 : decide (x8_1 < (l0.length : Int)) = true := decide_eq_true c5
      clear c5
      obtain ⟨t287, A6, H⟩ := zO H
      by_cases c7 : t287 = true
      ·subst c7
       rw [if_pos rfl] at H
       obtain rfl := sI H
       have p286 : 0 ≤ (x8_1 : Int) := zoA
       have q286 : x8_1 < (l0.length : Int) := zoA
       obtain ⟨ad286, e286, hx286_0⟩ := Kd.at_int HR0.out x8_1 p286 q286
       cases e286
       replace p286 := eq_true p286
       replace q286 := eq_true q286
       go_wp2_with (first | ((with_reducible refine gate_tmp (x := 11) rfl ?_); refine goesLT_ (some 16) (x := 11) rfl rfl rfl Tryz.func152 zK rfl #[.int .i64 (rd l0 x8_1)] rfl zM ?_; (with_reducible refine (oid_Check_1.calls (rd l0 x8_1) true _ A6.out).mono ?_); rintro e w' ⟨rfl, ⟨nd, rfl⟩⟩; refine ⟨_, rfl, ?_⟩))
       go_ret
       exact ⟨zP, zD⟩
      ·replace c7 := Bool.eq_false_iff.mpr c7
       subst c7
       rw [if_neg (show ¬ (false = true) by decide)] at H
       have H' := aM H
       clear H
       have p286 : 0 ≤ (x8_1 : Int) := zoA
       have q286 : x8_1 < (l0.length : Int) := zoA
       obtain ⟨ad286, e286, hx286_0⟩ := Kd.at_int HR0.out x8_1 p286 q286
       cases e286
       replace p286 := eq_true p286
       replace q286 := eq_true q286
       go_wp2_with (first | ((with_reducible refine gate_tmp (x := 11) rfl ?_); refine goesLT_ (some 16) (x := 11) rfl rfl rfl Tryz.func152 zK rfl #[.int .i64 (rd l0 x8_1)] rfl zM ?_; (with_reducible refine (oid_Check_1.calls (rd l0 x8_1) false _ A6.out).mono ?_); rintro e w' ⟨rfl, ⟨nd, rfl⟩⟩; refine ⟨_, rfl, ?_⟩))
       go_roundg k1
       case measure => have := HK1.out; omega
       case rel => exact ⟨(wrap64 (x8_1 + 1)), zP, H', ⟨by have := HK1.out; omega⟩, zD⟩
     ·rw [if_neg c5] at H
      exact absurd H (by simp)
    ·rw [if_neg c4] at H
     exact absurd H (by simp)
   ·rw [if_neg c3] at H
    have c3b0 : decide (x8_1 < (l0.length : Int)) = false := decide_eq_false c3
    clear c3
    obtain rfl := sI H
    go_wp2
    go_ret
    exact ⟨zP, zD⟩

/-! ### slices_ContainsFunc_int_int_oid_Check_1: function 277 -/
def slices_ContainsFunc_int_int_oid_Check_1.f (k : Nat) (l0 : List Int) (a1 : Int) : Option (Bool) := (slices_IndexFunc_int_int_oid_Check_1.f k l0 7770152).bind fun t288 => (some (decide (t288 ≥ 0)))
theorem slices_ContainsFunc_int_int_oid_Check_1.mono : ∀ a0 a1 k, LeO (slices_ContainsFunc_int_int_oid_Check_1.f k a0 a1) (slices_ContainsFunc_int_int_oid_Check_1.f (k + 1) a0 a1) := by
 intro a0 a1 k
 unfold slices_ContainsFunc_int_int_oid_Check_1.f
 repeat' first
   | (with_reducible exact slices_IndexFunc_int_int_oid_Check_1.mono _ _ _)
   | (with_reducible exact LeO.refl _)
   | exact slices_IndexFunc_int_int_oid_Check_1.mono _ _ _
   | exact LeO.none _
   | refine LeO.ite ?_ ?_
   | refine LeO.bind ?_ (fun _ => ?_)
set_option maxHeartbeats 8000000 in
set_option maxRecDepth 100000 in
theorem slices_ContainsFunc_int_int_oid_Check_1.calls (k : Nat) (A0 : Option Addr) (c0 : Nat) (l0 : List Int) (a1 : Int) (r : Bool) (w : World) (hr0 : Kd.C (Kd.int .i64) w A0 l0.length l0) (hc0 : l0.length ≤ c0) (h : slices_ContainsFunc_int_int_oid_Check_1.f k l0 a1 = some r) :
  Calls Tryz.prog 151 #[.slice A0 l0.length c0, .func (.func 152) #[] #[]] w fun e w' => e = .returned (.bool r) ∧ Drawn0 w w' := by
 have HR0 := aM hr0
 have HC0 := aM hc0
 clear hr0 hc0
 have H := h
 clear h
 unfold slices_ContainsFunc_int_int_oid_Check_1.f at H
 obtain ⟨t288, A3, H⟩ := zO H
 obtain rfl := sI H
 go_enter Tryz.func151, Tryz.ntmps151
 go_wp2_with (first | ((with_reducible refine gate_callee (f := 188) rfl ?_); refine goesL_ (some 7) rfl rfl Tryz.func188 zK rfl #[.slice A0 l0.length c0, .func (.func 152) #[] #[]] rfl zM ?_; (with_reducible refine (slices_IndexFunc_int_int_oid_Check_1.calls k _ _ l0 7770152 t288 _ ?side1 ?side2 A3.out).mono ?_); (case side1 => exact zC HR0.out); (case side2 => exact HC0.out); rintro e w' ⟨rfl, ⟨nd, rfl⟩⟩; refine ⟨_, rfl, ?_⟩))
 go_ret
 exact ⟨zP, zD⟩

/-! ### oid_Check: function 96 -/
def oid_Check.f (k : Nat) (l0 : List Int) : Option (Int) := (slices_ContainsFunc_int_int_oid_Check_1.f k l0 7770152).bind fun t289 => (if t289 = true then (some 170) else (if (l0.length : Int) < 2 then (some 170) else (if (l0.length : Int) > 12 then (some 170) else (if 0 < (l0.length : Int) then (if (rd l0 0) > 2 then (some 170) else (if (rd l0 0) < 2 then (if 1 < (l0.length : Int) then (if (rd l0 1) > 39 then (some 170) else (some 0)) else (none)) else (some 0))) else (none)))))
theorem oid_Check.mono : ∀ a0 k, LeO (oid_Check.f k a0) (oid_Check.f (k + 1) a0) := by
 intro a0 k
 unfold oid_Check.f
 repeat' first
   | (with_reducible exact slices_ContainsFunc_int_int_oid_Check_1.mono _ _ _)
   | (with_reducible exact LeO.refl _)
   | exact slices_ContainsFunc_int_int_oid_Check_1.mono _ _ _
   | exact LeO.none _
   | refine LeO.ite ?_ ?_
   | refine LeO.bind ?_ (fun _ => ?_)
set_option maxHeartbeats 8000000 in
set_option maxRecDepth 100000 in
theorem oid_Check.calls (k : Nat) (A0 : Option Addr) (c0 : Nat) (l0 : List Int) (r : Int) (w : World) (hr0 : Kd.C (Kd.int .i64) w A0 l0.length l0) (hc0 : l0.length ≤ c0) (h : oid_Check.f k l0 = some r) :
  Calls Tryz.prog 96 #[.slice A0 l0.length c0] w fun e w' => e = .returned (.int .i64 r) ∧ Drawn0 w w' := by
 have HR0 := aM hr0
 have HC0 := aM hc0
 clear hr0 hc0
 have H := h
 clear h
 unfold oid_Check.f at H
 obtain ⟨t289, A2, H⟩ := zO H
 by_cases c3 : t289 = true
 ·subst c3
  rw [if_pos rfl] at H
  obtain rfl := sI H
  go_enter Tryz.func96, Tryz.ntmps96
  go_wp2_with (first | ((with_reducible refine gate_callee (f := 151) rfl ?_); refine goesL_ (some 5) rfl rfl Tryz.func151 zK rfl #[.slice A0 l0.length c0, .func (.func 152) #[] #[]] rfl zM ?_; (with_reducible refine (slices_ContainsFunc_int_int_oid_Check_1.calls k _ _ l0 7770152 true _ ?side1 ?side2 A2.out).mono ?_); (case side1 => exact zC HR0.out); (case side2 => exact HC0.out); rintro e w' ⟨rfl, ⟨nd, rfl⟩⟩; refine ⟨_, rfl, ?_⟩))
  go_ret
  exact ⟨zP, zD⟩
 ·replace c3 := Bool.eq_false_iff.mpr c3
  subst c3
  rw [if_neg (show ¬ (false = true) by decide)] at H
  by_cases c4 : (l0.length : Int) < 2
  ·rw [if_pos c4] at H
   have c4b0 : decide ((l0.length : Int) < 2) = true := decide_eq_true c4
   have c4b1 : decide (l0.length < 2) = true := decide_eq_true (by omega)
   clear c4
   obtain rfl := sI H
   go_enter Tryz.func96, Tryz.ntmps96
   go_wp2_with (first | ((with_reducible refine gate_callee (f := 151) rfl ?_); refine goesL_ (some 5) rfl rfl Tryz.func151 zK rfl #[.slice A0 l0.length c0, .func (.func 152) #[] #[]] rfl zM ?_; (with_reducible refine (slices_ContainsFunc_int_int_oid_Check_1.calls k _ _ l0 7770152 false _ ?side1 ?side2 A2.out).mono ?_); (case side1 => exact zC HR0.out); (case side2 => exact HC0.out); rintro e w' ⟨rfl, ⟨nd, rfl⟩⟩; refine ⟨_, rfl, ?_⟩))
   go_ret
   exact ⟨zP, zD⟩
  ·rw [if_neg c4] at H
   have c4b0 : decide ((l0.length : Int) < 2) = false := decide_eq_false c4
   have c4b1 : decide (l0.length < 2) = false := decide_eq_false (by omega)
   clear c4
   by_cases c5 : (l0.length : Int) > 12
   ·rw [if_pos c5] at H
    have c5b0 : decide (12 < (l0.length : Int)) = true := decide_eq_true c5
    have c5b1 : decide (12 < l0.length) = true := decide_eq_true (by omega)
    clear c5
    obtain rfl := sI H
    go_enter Tryz.func96, Tryz.ntmps96
    go_wp2_with (first | ((with_reducible refine gate_callee (f := 151) rfl ?_); refine goesL_ (some 5) rfl rfl Tryz.func151 zK rfl #[.slice A0 l0.length c0, .func (.func 152) #[] #[]] rfl zM ?_; (with_reducible refine (slices_ContainsFunc_int_int_oid_Check_1.calls k _ _ l0 7770152 false _ ?side1 ?side2 A2.out).mono ?_); (case side1 => exact zC HR0.out); (case side2 => exact HC0.out); rintro e w' ⟨rfl, ⟨nd, rfl⟩⟩; refine ⟨_, rfl, ?_⟩))
    go_ret
    exact ⟨zP, zD⟩
   ·rw [if_neg c5] at H
    have c5b0 : decide (12 < (l0.length : Int)) = false := decide_eq_false c5
    have c5b1 : decide (12 < l0.length) = false := decide_eq_false (by omega)
    clear c5
    by_cases c6 : 0 < (l0.length : Int)
    ·rw [if_pos c6] at H
     have c6b0 : decide (0 < (l0.length : Int)) = true := decide_eq_true c6
     have c6b1 : decide (0 < l0.length) = true := decide_eq_true (by omega)
     clear c6
     by_cases c7 : (rd l0 0) > 2
     ·rw [if_pos c7] at H
      have c7b0 : decide (2 < (rd l0 0)) = true := decide_eq_true c7
      clear c7
      obtain rfl := sI H
      go_enter Tryz.func96, Tryz.ntmps96
      go_wp2_with (first | ((with_reducible refine gate_callee (f := 151) rfl ?_); refine goesL_ (some 5) rfl rfl Tryz.func151 zK rfl #[.slice A0 l0.length c0, .func (.func 152) #[] #[]] rfl zM ?_; (with_reducible refine (slices_ContainsFunc_int_int_oid_Check_1.calls k _ _ l0 7770152 false _ ?side1 ?side2 A2.out).mono ?_); (case side1 => exact zC HR0.out); (case side2 => exact HC0.out); rintro e w' ⟨rfl, ⟨nd, rfl⟩⟩; refine ⟨_, rfl, ?_⟩; have p290 : 0 ≤ (0 : Int) := (by omega); have q290 : 0 < (l0.length : Int) := zoA; obtain ⟨ad290, e290, hx290_0⟩ := Kd.at_int HR0.out 0 p290 q290; cases e290; have qi290 : (0 < l0.length) = True := eq_true (by omega); (try rw [show ((0 : Int)).toNat = 0 from rfl] at hx290_0); (try rw [Addr.add_zero'] at hx290_0); replace p290 := eq_true p290; replace q290 := eq_true q290))
      go_ret
      exact ⟨zP, zD⟩
     ·rw [if_neg c7] at H
      have c7b0 : decide (2 < (rd l0 0)) = false := decide_eq_false c7
      clear c7
      by_cases c8 : (rd l0 0) < 2
      ·rw [if_pos c8] at H
       have c8b0 : decide ((rd l0 0) < 2) = true := decide_eq_true c8
       clear c8
       by_cases c9 : 1 < (l0.length : Int)
       ·rw [if_pos c9] at H
        have c9b0 : decide (1 < (l0.length : Int)) = true := decide_eq_true c9
        have c9b1 : decide (1 < l0.length) = true := decide_eq_true (by omega)
        clear c9
        by_cases c10 : (rd l0 1) > 39
        ·rw [if_pos c10] at H
         have c10b0 : decide (39 < (rd l0 1)) = true := decide_eq_true c10
         clear c10
         obtain rfl := sI H
         go_enter Tryz.func96, Tryz.ntmps96
         go_wp2_with (first | ((with_reducible refine gate_callee (f := 151) rfl ?_); refine goesL_ (some 5) rfl rfl Tryz.func151 zK rfl #[.slice A0 l0.length c0, .func (.func 152) #[] #[]] rfl zM ?_; (with_reducible refine (slices_ContainsFunc_int_int_oid_Check_1.calls k _ _ l0 7770152 false _ ?side1 ?side2 A2.out).mono ?_); (case side1 => exact zC HR0.out); (case side2 => exact HC0.out); rintro e w' ⟨rfl, ⟨nd, rfl⟩⟩; refine ⟨_, rfl, ?_⟩; have p290 : 0 ≤ (0 : Int) := (by omega); have q290 : 0 < (l0.length : Int) := zoA; obtain ⟨ad290, e290, hx290_0⟩ := Kd.at_int HR0.out 0 p290 q290; cases e290; have qi290 : (0 < l0.length) = True := eq_true (by omega); (try rw [show ((0 : Int)).toNat = 0 from rfl] at hx290_0); (try rw [Addr.add_zero'] at hx290_0); replace p290 := eq_true p290; replace q290 := eq_true q290; have p291 : 0 ≤ (0 : Int) := (by omega); have q291 : 0 < (l0.length : Int) := zoA; obtain ⟨ad291, e291, hx291_0⟩ := Kd.at_int HR0.out 0 p291 q291; obtain rfl : ad290 = ad291 := (by injection e291); have qi291 : (0 < l0.length) = True := eq_true (by omega); (try rw [show ((0 : Int)).toNat = 0 from rfl] at hx291_0); (try rw [Addr.add_zero'] at hx291_0); replace p291 := eq_true p291; replace q291 := eq_true q291; have p292 : 0 ≤ (1 : Int) := (by omega); have q292 : 1 < (l0.length : Int) := zoA; obtain ⟨ad292, e292, hx292_0⟩ := Kd.at_int HR0.out 1 p292 q292; obtain rfl : ad290 = ad292 := (by injection e292); (try simp only [show (1 : Int).toNat = 1 from rfl, Nat.reduceMul, Nat.reduceEqDiff, Go.Addr.add, ↓reduceIte] at hx292_0); have qi292 : (1 < l0.length) = True := eq_true (by omega); (try rw [show ((1 : Int)).toNat = 1 from rfl] at hx292_0); replace p292 := eq_true p292; replace q292 := eq_true q292))
         go_ret
         exact ⟨zP, zD⟩
        ·rw [if_neg c10] at H
         have c10b0 : decide (39 < (rd l0 1)) = false := decide_eq_false c10
         clear c10
         obtain rfl := sI H
         go_enter Tryz.func96, Tryz.ntmps96
         go_wp2_with (first | ((with_reducible refine gate_callee (f := 151) rfl ?_); refine goesL_ (some 5) rfl rfl Tryz.func151 zK rfl #[.slice A0 l0.length c0, .func (.func 152) #[] #[]] rfl zM ?_; (with_reducible refine (slices_ContainsFunc_int_int_oid_Check_1.calls k _ _ l0 7770152 false _ ?side1 ?side2 A2.out).mono ?_); (case side1 => exact zC HR0.out); (case side2 => exact HC0.out); rintro e w' ⟨rfl, ⟨nd, rfl⟩⟩; refine ⟨_, rfl, ?_⟩; have p290 : 0 ≤ (0 : Int) := (by omega); have q290 : 0 < (l0.length : Int) := zoA; obtain ⟨ad290, e290, hx290_0⟩ := Kd.at_int HR0.out 0 p290 q290; cases e290; have qi290 : (0 < l0.length) = True := eq_true (by omega); (try rw [show ((0 : Int)).toNat = 0 from rfl] at hx290_0); (try rw [Addr.add_zero'] at hx290_0); replace p290 := eq_true p290; replace q290 := eq_true q290; have p291 : 0 ≤ (0 : Int) := (by omega); have q291 : 0 < (l0.length : Int) := zoA; obtain ⟨ad291, e291, hx291_0⟩ := Kd.at_int HR0.out 0 p291 q291; obtain rfl : ad290 = ad291 := (by injection e291); have qi291 : (0 < l0.length) = True := eq_true (by omega); (try rw [show ((0 : Int)).toNat = 0 from rfl] at hx291_0); (try rw [Addr.add_zero'] at hx291_0); replace p291 := eq_true p291; replace q291 := eq_true q291; have p292 : 0 ≤ (1 : Int) := (by omega); have q292 : 1 < (l0.length : Int) := zoA; obtain ⟨ad292, e292, hx292_0⟩ := Kd.at_int HR0.out 1 p292 q292; obtain rfl : ad290 = ad292 := (by injection e292); (try simp only [show (1 : Int).toNat = 1 from rfl, Nat.reduceMul, Nat.reduceEqDiff, Go.Addr.add, ↓reduceIte] at hx292_0); have qi292 : (1 < l0.length) = True := eq_true (by omega); (try rw [show ((1 : Int)).toNat = 1 from rfl] at hx292_0); replace p292 := eq_true p292; replace q292 := eq_true q292))
         go_ret
         exact ⟨zP, zD⟩
       ·rw [if_neg c9] at H
        exact absurd H (by simp)
      ·rw [if_neg c8] at H
       have c8b0 : decide ((rd l0 0) < 2) = false := decide_eq_false c8
       clear c8
       obtain rfl := sI H
       go_enter Tryz.func96, Tryz.ntmps96
       go_wp2_with (first | ((with_reducible refine gate_callee (f := 151) rfl ?_); refine goesL_ (some 5) rfl rfl Tryz.func151 zK rfl #[.slice A0 l0.length c0, .func (.func 152) #[] #[]] rfl zM ?_; (with_reducible refine (slices_ContainsFunc_int_int_oid_Check_1.calls k _ _ l0 7770152 false _ ?side1 ?side2 A2.out).mono ?_); (case side1 => exact zC HR0.out); (case side2 => exact HC0.out); rintro e w' ⟨rfl, ⟨nd, rfl⟩⟩; refine ⟨_, rfl, ?_⟩; have p290 : 0 ≤ (0 : Int) := (by omega); have q290 : 0 < (l0.length : Int) := zoA; obtain ⟨ad290, e290, hx290_0⟩ := Kd.at_int HR0.out 0 p290 q290; cases e290; have qi290 : (0 < l0.length) = True := eq_true (by omega); (try rw [show ((0 : Int)).toNat = 0 from rfl] at hx290_0); (try rw [Addr.add_zero'] at hx290_0); replace p290 := eq_true p290; replace q290 := eq_true q290; have p291 : 0 ≤ (0 : Int) := (by omega); have q291 : 0 < (l0.length : Int) := zoA; obtain ⟨ad291, e291, hx291_0⟩ := Kd.at_int HR0.out 0 p291 q291; obtain rfl : ad290 = ad291 := (by injection e291); have qi291 : (0 < l0.length) = True := eq_true (by omega); (try rw [show ((0 : Int)).toNat = 0 from rfl] at hx291_0); (try rw [Addr.add_zero'] at hx291_0); replace p291 := eq_true p291; replace q291 := eq_true q291))
       go_ret
       exact ⟨zP, zD⟩
    ·rw [if_neg c6] at H
     exact absurd H (by simp)

/-! ### strings_Join: function 98, by hand (strings.Join.tpl) -/
theorem spot_none {w : World} {ad : Addr} {v : Value} (h : w.cell? ad = some v) : ad.spot = none := by
  unfold World.cell? at h
  split at h
  · by_cases c : ad.spot.isSome
    · rw [if_pos c] at h
      cases h
    · simpa using c
  · cases h
def strings_Join.f (l0 : List ByteArray) (a1 : ByteArray) : Option ByteArray := if l0.length ≤ 140737488355328 ∧ (Lib.join (l0.map (·.data.toList)) a1.data.toList).length ≤ 140737488355328 then some ⟨(Lib.join (l0.map (·.data.toList)) a1.data.toList).toArray⟩ else none
theorem strings_Join.calls (A0 : Option Addr) (c0 : Nat) (l0 : List ByteArray) (a1 : ByteArray) (r : ByteArray) (w : World) (hr0 : Kd.C Kd.string w A0 l0.length l0) (hc0 : l0.length ≤ c0) (h : strings_Join.f l0 a1 = some r) :
    Calls Tryz.prog 98 #[.slice A0 l0.length c0, .string a1] w fun e w' => e = .returned (.string r) ∧ Below w.heap.size w w' := by
  unfold strings_Join.f at h
  by_cases c : l0.length ≤ 140737488355328 ∧ (Lib.join (l0.map (·.data.toList)) a1.data.toList).length ≤ 140737488355328
  · rw [if_pos c] at h
    obtain rfl := Option.some.inj h
    cases l0 with
    | nil =>
      refine (Any.strings_Join_none Tryz.lays156 Tryz.Builder_Extra_156 A0 c0 a1 w).mono ?_
      rintro e w' ⟨rfl, rfl⟩
      exact ⟨rfl, Below.refl _ _⟩
    | cons x l =>
      obtain ⟨ad, rfl, hc⟩ := Kd.at_string hr0 0 (by omega) (by simp only [List.length_cons]; omega)
      have hs := spot_none hc
      have ead : ad = ⟨ad.block, ad.off, none⟩ := by
        rcases ad with ⟨b_, o_, s_⟩
        have hs' : s_ = none := by simpa [Addr.add] using hs
        subst hs'
        rfl
      have hcells : ∀ (j : Nat) y, (x :: l)[j]? = some y → w.cell? ⟨ad.block, ad.off + j, none⟩ = some (.string y) := by
        intro j y hy
        obtain ⟨hj, hy2⟩ := List.getElem?_eq_some_iff.1 hy
        obtain ⟨ad2, e2, hc2⟩ := Kd.at_string hr0 j (by omega) (by omega)
        obtain rfl := Option.some.inj e2
        have e3 : ad.add ((j : Int)).toNat = ⟨ad.block, ad.off + j, none⟩ := by
          rw [Int.toNat_natCast]
          unfold Addr.add
          by_cases h0 : j = 0
          · subst h0
            rw [if_pos rfl, ead]
            rfl
          · rw [if_neg h0]
        rw [e3] at hc2
        rw [hc2]
        simp only [rdOf, Int.toNat_natCast, List.getD_eq_getElem?_getD, hy, Option.getD_some]
      have hbk : ad.block < w.heap.size := by
        have := World.block_lt_of_cell? w _ (hcells 0 x rfl)
        exact this
      refine (Calls.mono (P := Tryz.prog) (by
        have hh := Any.strings_Join Tryz.lays156 Tryz.Builder_Extra_156 ad.block ad.off c0 (x :: l) a1 w hcells hbk c.1 hc0 c.2
        rw [← ead] at hh
        exact hh) ?_)
      rintro e w' ⟨rfl, hb⟩
      exact ⟨rfl, hb⟩
  · rw [if_neg c] at h
    exact absurd h (by simp)

/-! ### oid_Show: function 54 -/
def oid_Show.l0 : Nat → List ByteArray → List Int → Int → Int → Option (ByteArray × Int)
 | 0, _, _, _, _ => none
 | k + 1, x5, x13, x14, x15 => if x15 < x14 then (if 0 ≤ x15 then (if x15 < (x13.length : Int) then ((strconv_Itoa_97.f (rd x13 x15)).bind fun t295 => (if x5.length < 8796093022208 then (oid_Show.l0 k (x5 ++ [t295]) x13 x14 (wrap64 (x15 + 1))) else (none))) else (none)) else (none)) else ((strings_Join.f x5 (⟨#[46]⟩ : ByteArray)).bind fun t299 => (some (t299, 0)))
def oid_Show.f (k : Nat) (l0 : List Int) : Option (ByteArray × Int) := (oid_Check.f k l0).bind fun t293 => (if t293 = 0 then (oid_Show.l0 k ([] : List ByteArray) l0 (l0.length : Int) 0) else (some ((⟨#[]⟩ : ByteArray), t293)))
theorem oid_Show.mono_l : ∀ k, (∀ y0 y1 y2 y3, LeO (oid_Show.l0 k y0 y1 y2 y3) (oid_Show.l0 (k + 1) y0 y1 y2 y3))
 | 0 => fun _ _ _ _ r h => by simp [oid_Show.l0] at h
 | k + 1 => by
  have ih0 := oid_Show.mono_l k
  ·intro y0 y1 y2 y3
   unfold oid_Show.l0
   repeat' first
   | (with_reducible exact ih0 _ _ _ _)
   | (with_reducible exact oid_Check.mono _ _)
   | (with_reducible exact LeO.refl _)
   | exact ih0 _ _ _ _
   | exact oid_Check.mono _ _
   | exact LeO.none _
   | refine LeO.ite ?_ ?_
   | refine LeO.bind ?_ (fun _ => ?_)
theorem oid_Show.mono : ∀ a0 k, LeO (oid_Show.f k a0) (oid_Show.f (k + 1) a0) := by
 intro a0 k
 have ih0 := oid_Show.mono_l k
 unfold oid_Show.f
 repeat' first
   | (with_reducible exact ih0 _ _ _ _)
   | (with_reducible exact oid_Check.mono _ _)
   | (with_reducible exact LeO.refl _)
   | exact ih0 _ _ _ _
   | exact oid_Check.mono _ _
   | exact LeO.none _
   | refine LeO.ite ?_ ?_
   | refine LeO.bind ?_ (fun _ => ?_)
set_option maxHeartbeats 8000000 in
set_option maxRecDepth 100000 in
theorem oid_Show.calls (k : Nat) (A0 : Option Addr) (c0 : Nat) (l0 : List Int) (r1 : ByteArray) (r2 : Int) (w : World) (hE : Env w) (hr0 : Kd.C (Kd.int .i64) w A0 l0.length l0) (hc0 : l0.length ≤ c0) (h : oid_Show.f k l0 = some (r1, r2)) :
  Calls Tryz.prog 54 #[.slice A0 l0.length c0] w fun e w' => e = .returned (.tuple #[.string r1, .int .i64 r2]) ∧ Below w.heap.size w w' := by
 have HE := aM hE
 clear hE
 have HR0 := aM hr0
 have HC0 := aM hc0
 clear hr0 hc0
 have HB := aM (Below.refl w.heap.size w)
 have H := h
 clear h
 unfold oid_Show.f at H
 obtain ⟨t293, A2, H⟩ := zO H
 by_cases c3 : t293 = 0
 ·rw [if_pos c3] at H
  have c3b0 : (t293 == 0) = true := beq_iff_eq.mpr c3
  have c3b1 : (t293 != 0) = false := bne_eq_false_iff_eq.mpr c3
  clear c3
  have H' := aM H
  clear H
  go_enter Tryz.func54, Tryz.ntmps54
  go_wp2_with (first | ((with_reducible refine gate_callee (f := 96) rfl ?_); refine goesL_ (some 9) rfl rfl Tryz.func96 zK rfl #[.slice A0 l0.length c0] rfl zM ?_; (with_reducible refine (oid_Check.calls k _ _ l0 t293 _ ?side1 ?side2 A2.out).mono ?_); (case side1 => exact zC HR0.out); (case side2 => exact HC0.out); rintro e w' ⟨rfl, ⟨nd, rfl⟩⟩; refine ⟨_, rfl, ?_⟩))
  go_loopg [5, 15] k (fun kq v5 v15 w' => ∃ (x5_1 : List ByteArray) (x15_1 : Int), v15 = .int .i64 x15_1 ∧ Aside0 (oid_Show.l0 kq x5_1 l0 (l0.length : Int) x15_1 = some (r1, r2)) ∧ Aside0 (kq ≤ k) ∧ Aside0 (Kd.R Kd.string 9 w' w.heap.size (fun _ => True) v5 x5_1) ∧ Aside0 (Below w.heap.size w w'))
  case atStart => exact ⟨(([] : List ByteArray)), (0), zP, H', ⟨Nat.le_refl _⟩, ⟨zL⟩, ⟨zB⟩⟩
  case round =>
   clear H'
   try clear p2
   try clear c3
   try clear c3b0
   try clear c3b1
   obtain ⟨x5_1, x15_1, rfl, HA, HK1, HO_5, HB⟩ := hrel
   cases gk with
   | zero => exact absurd HA.out (by simp [oid_Show.l0])
   | succ k1 =>
    have H := HA.out
    clear HA
    simp only [oid_Show.l0] at H
    by_cases c4 : x15_1 < (l0.length : Int)
    ·rw [if_pos c4] at H
     have c4b0 : decide (x15_1 < (l0.length : Int)) = true := decide_eq_true c4
     clear c4
     by_cases c5 : 0 ≤ x15_1
     ·rw [if_pos c5] at H
      have c5b0 : decide (0 ≤ x15_1) = true := decide_eq_true c5
      clear c5
      by_cases c6 : x15_1 < (l0.length : Int)
      ·rw [if_pos c6] at H
       have c6b0 : decide (x15_1 < (l0.length : Int)) = true := decide_eq_true c6
       clear c6
       obtain ⟨t295, A7, H⟩ := zO H
       by_cases c8 : x5_1.length < 8796093022208
       ·rw [if_pos c8] at H
        have LMc8 := aM c8
        clear c8
        obtain ⟨y296, hy296⟩ : ∃ y_ : List ByteArray, y_ = (x5_1 ++ [t295]) := ⟨_, rfl⟩
        replace H : (oid_Show.l0 k1 y296 l0 (l0.length : Int) (wrap64 (x15_1 + 1))) = some (r1, r2) := zY hy296 H
        have Ny296 := aM hy296
        clear hy296
        have H' := aM H
        clear H
        have p294 : 0 ≤ (x15_1 : Int) := zoA
        have q294 : x15_1 < (l0.length : Int) := zoA
        obtain ⟨ad294, e294, hx294_0⟩ := Kd.at_int HR0.out x15_1 p294 q294
        cases e294
        replace hx294_0 := (HB.out.cell (World.block_lt_of_cell? w _ hx294_0)).trans hx294_0
        replace p294 := eq_true p294
        replace q294 := eq_true q294
        go_wp2_with (first | ((with_reducible refine gate_callee (f := 97) rfl ?_); refine goesL_ (some 21) rfl rfl Tryz.func97 zK rfl #[.int .i64 (rd l0 x15_1)] rfl zM ?_; (with_reducible refine (strconv_Itoa_97.calls (rd l0 x15_1) t295 _ (zEnv HE) A7.out).mono ?_); rintro e w9 ⟨rfl, hb⟩; refine ⟨_, rfl, ?_⟩; have n_ := zI (aM (Kd.R_below (zR HO_5) hb)) (aM (below_step zB hb)); clear HO_5 HB; obtain ⟨HO_5, HB⟩ := n_; (try clear hb); (try clear hk)) | ((with_reducible refine gate_builtin (b := .append) (xs := #[.tmp 19, .tmp 22]) rfl ?_); at_builtin; refine Kd.R_append Kd.string (w0 := w) w.heap.size rfl (.tmp 19) (.tmp 22) 71 9 (.string ⟨#[]⟩) 16 rfl Tryz.underlying71 info9 rfl (by decide) (by omega) u5 x5_1 t295 [.string t295] (fun _ => True) (fun _ => False) rfl rfl ?aP (fun _ hk => hk.elim) ?aF ?aO ?aB ?aS ?aL ?_; (case aP => exact rfl); (case aB => exact zB); (case aF => exact (fun _ _ => trivial)); (case aO => exact (zR HO_5)); (case aS => exact (below_size zB)); (case aL => have := LMc8.out; omega); intro v297 w10 ho hb hg hat; rw [← Ny296.out] at ho; have n_ := zI (aM (hb)) (aM (ho)); clear HB HO_5; obtain ⟨HB, HO298⟩ := n_; clear ho hb hg hat))
        go_roundg k1
        case measure => have := HK1.out; omega
        case rel => exact ⟨(y296), (wrap64 (x15_1 + 1)), zP, H', ⟨by have := HK1.out; omega⟩, ⟨zR HO298⟩, ⟨zB⟩⟩
       ·rw [if_neg c8] at H
        exact absurd H (by simp)
      ·rw [if_neg c6] at H
       exact absurd H (by simp)
     ·rw [if_neg c5] at H
      exact absurd H (by simp)
    ·rw [if_neg c4] at H
     have c4b0 : decide (x15_1 < (l0.length : Int)) = false := decide_eq_false c4
     clear c4
     obtain ⟨t299, A11, H⟩ := zO H
     simp only [Option.some.injEq, Prod.mk.injEq] at H
     obtain ⟨rfl, rfl⟩ := H
     obtain ⟨Ao12, co12, eo12⟩ := Kd.R_slice HO_5.out
     subst eo12
     go_wp2_with (first | ((with_reducible refine gate_callee (f := 98) rfl ?_); refine goesL_ (some 26) rfl rfl Tryz.func98 zK rfl #[.slice Ao12 x5_1.length co12, .string (⟨#[46]⟩ : ByteArray)] rfl zM ?_; (with_reducible refine (strings_Join.calls _ _ x5_1 (⟨#[46]⟩ : ByteArray) t299 _ ?side1 ?side2 A11.out).mono ?_); (case side1 => exact zC (Kd.R_reads' HO_5.out).2.2); (case side2 => exact (Kd.R_reads' HO_5.out).2.1); rintro e w13 ⟨rfl, hb⟩; refine ⟨_, rfl, ?_⟩; have n_ := zI (aM (Kd.R_below (zR HO_5) hb)) (aM (below_step zB hb)); clear HO_5 HB; obtain ⟨HO_5, HB⟩ := n_; (try clear hb)))
     go_ret2
     exact ⟨zE, zB⟩
 ·rw [if_neg c3] at H
  have c3b0 : (t293 == 0) = false := beq_eq_false_iff_ne.mpr c3
  have c3b1 : (t293 != 0) = true := bne_iff_ne.mpr c3
  simp only [Option.some.injEq, Prod.mk.injEq] at H
  obtain ⟨rfl, rfl⟩ := H
  go_enter Tryz.func54, Tryz.ntmps54
  go_wp2_with (first | ((with_reducible refine gate_callee (f := 96) rfl ?_); refine goesL_ (some 9) rfl rfl Tryz.func96 zK rfl #[.slice A0 l0.length c0] rfl zM ?_; (with_reducible refine (oid_Check.calls k _ _ l0 t293 _ ?side1 ?side2 A2.out).mono ?_); (case side1 => exact zC HR0.out); (case side2 => exact HC0.out); rintro e w' ⟨rfl, ⟨nd, rfl⟩⟩; refine ⟨_, rfl, ?_⟩))
  go_ret2
  exact ⟨zE, zB⟩

/-! ### oid_Parse: function 30, by hand (oid.Parse.tpl) -/
def oid_parts : List ByteArray → List Int → Option (List Int)
  | [], out => some out
  | p :: ps, out => match Lib.atoiAll p.data.toList with
    | .ok v => if p.size > 5 then none else oid_parts ps (out ++ [v])
    | _ => none
def oid_cut (a0 : ByteArray) : List ByteArray := Lib.splitB ⟨#[46]⟩ 0 (Lib.countB a0 ⟨#[46]⟩) a0
def oid_Parse.f (k : Nat) (a0 : ByteArray) : Option (List Int × Int) :=
  if a0.size > 80 then some ([], 170) else match oid_parts (oid_cut a0) [] with
    | none => some ([], 170)
    | some l => (oid_Show.f k l).bind fun bt => if bt.2 = 0 then (if bt.1.toList = a0.toList then some (l, 0) else some ([], 170)) else some ([], 170)
theorem oid_Parse.mono : ∀ a0 k, LeO (oid_Parse.f k a0) (oid_Parse.f (k + 1) a0) := by
  intro a0 k
  unfold oid_Parse.f
  refine LeO.ite (LeO.refl _) ?_
  cases oid_parts (oid_cut a0) [] with
  | none => exact LeO.refl _
  | some l => exact LeO.bind (oid_Show.mono _ _) (fun _ => LeO.refl _)
theorem cut_length (a0 : ByteArray) : (oid_cut a0).length = Lib.countB a0 ⟨#[46]⟩ + 1 := Lib.splitB_all ⟨#[46]⟩ (by decide) 0 _ a0 rfl
theorem split_calls (a0 : ByteArray) (w : World) (hE : Env w) (hs : a0.size ≤ 80) :
    Calls Tryz.prog 52 #[.string a0, .string ⟨#[46]⟩] w fun e w' => ∃ A : Addr, e = .returned (.slice (some A) (oid_cut a0).length (oid_cut a0).length) ∧ Kd.C Kd.string w' (some A) (oid_cut a0).length (oid_cut a0) ∧ Below w.heap.size w w' := by
  obtain ⟨m, hm⟩ := hE.2.2.2
  refine (Any.strings_Split Tryz.lays146 (by kernel_rfl) a0 ⟨#[46]⟩ m w (by omega) hm (Nat.le_refl 1)).mono ?_
  rintro e w' ⟨rfl, rfl⟩
  refine ⟨⟨w.heap.size, 0, none⟩, by rw [cut_length], ?_, below_alloc (Below.refl _ _) _⟩
  refine Kd.C_of_reads (d := ByteArray.empty) (h1 := fun _ => rfl) ⟨rfl, ?_, fun hn => ⟨_, rfl, fun j hj => ?_⟩⟩
  · have := Lib.countB_le ⟨#[46]⟩ (Nat.le_refl 1) a0.size a0 (Nat.le_refl _)
    rw [cut_length]
    omega
  · rw [add_plain, cell_of_row _ w.heap.size j _ _ _ (heap_alloc_new w _)]
    have hc : (oid_cut a0)[j]? = some ((oid_cut a0).getD j ByteArray.empty) := by simp [List.getD_eq_getElem?_getD, List.getElem?_eq_getElem hj]
    show ((oid_cut a0).map Value.string).toArray[j]? = _
    simp only [List.getElem?_toArray, List.getElem?_map, hc, Option.map_some]
theorem atoi_ok (s : ByteArray) (hs : s.size ≤ 80) (v : Int) (h : Lib.atoiAll s.data.toList = .ok v) (w : World) :
    Calls Tryz.prog 53 #[.string s] w fun e w' => e = .returned (.tuple #[.int .i64 v, .nilIface]) ∧ Below w.heap.size w w' := by
  refine (Any.strconv_Atoi_ok Tryz.laysC172 s (by omega) v h w).mono ?_
  rintro e w' ⟨rfl, rfl | ⟨t, rfl⟩⟩
  · exact ⟨rfl, Below.refl _ _⟩
  · exact ⟨rfl, Lib.bytesWorld_below _ _ _⟩
theorem atoi_no (s : ByteArray) (hs : s.size ≤ 80) (h : ∀ v, Lib.atoiAll s.data.toList ≠ .ok v) (w : World) (hE : Env w) :
    Calls Tryz.prog 53 #[.string s] w fun e w' => ∃ (n : Int) (N : Nat), e = .returned (.tuple #[.int .i64 n, .iface 112 (.pointer (some ⟨N, 0, none⟩))]) ∧ Below w.heap.size w w' := by
  obtain ⟨_, ⟨tp, p, t2, b2, h2⟩, ⟨tq, q, t3, b3, h3⟩, _⟩ := hE
  cases hh : Lib.atoiAll s.data.toList with
  | ok v => exact absurd hh (h v)
  | «syntax» =>
    refine (Any.strconv_Atoi_syntax_var Tryz.laysC172 s (by omega) hh tp p w ?_).mono ?_
    · unfold World.var?
      rw [show Program.globalNamed Tryz.prog _ = some 0 from by kernel_rfl]
      simp only [Option.bind_some, h2]
    · rintro e w' ⟨N, rfl, _, _, hb⟩
      exact ⟨_, N, rfl, hb⟩
  | range =>
    refine (Any.strconv_Atoi_range_var Tryz.laysC172 s (by omega) hh tq q w ?_).mono ?_
    · unfold World.var?
      rw [show Program.globalNamed Tryz.prog _ = some 1 from by kernel_rfl]
      simp only [Option.bind_some, h3]
    · rintro e w' ⟨N, rfl, _, _, hb⟩
      exact ⟨_, N, rfl, hb⟩
theorem splitB_size (sep : ByteArray) : ∀ (k : Nat) (s p : ByteArray), p ∈ Lib.splitB sep 0 k s → p.size ≤ s.size
  | 0, s, p, h => by
    rw [Lib.splitB, List.mem_singleton] at h
    rw [h]
    exact Nat.le_refl _
  | k + 1, s, p, h => by
    rw [Lib.splitB] at h
    split at h
    · rw [List.mem_singleton] at h
      rw [h]
      exact Nat.le_refl _
    · rcases List.mem_cons.1 h with rfl | h
      · simp only [ByteArray.size_extract]
        omega
      · have := splitB_size sep k _ p h
        simp only [ByteArray.size_extract] at this
        omega
theorem part_size (a0 : ByteArray) (hs : a0.size ≤ 80) : ∀ p ∈ oid_cut a0, p.size ≤ 80 := fun p hp => Nat.le_trans (splitB_size _ _ a0 p hp) hs
set_option maxHeartbeats 8000000 in
set_option maxRecDepth 100000 in
theorem oid_Parse.calls (k : Nat) (a0 : ByteArray) (r1 : List Int) (r2 : Int) (w : World) (hE : Env w) (h : oid_Parse.f k a0 = some (r1, r2)) :
    Calls Tryz.prog 30 #[.string a0] w fun e w' => ∃ v0_ : Value, e = .returned (.tuple #[v0_, .int .i64 r2]) ∧ Kd.R (Kd.int .i64) 3 w' w.heap.size (fun _ => True) v0_ r1 ∧ Below w.heap.size w w' := by
  unfold oid_Parse.f at h
  by_cases c1 : a0.size > 80
  · rw [if_pos c1] at h
    simp only [Option.some.injEq, Prod.mk.injEq] at h
    obtain ⟨rfl, rfl⟩ := h
    have b1 : decide (80 < a0.size) = true := decide_eq_true c1
    have b2 : decide ((80 : Int) < (a0.size : Int)) = true := decide_eq_true (by omega)
    go_enter Tryz.func30, Tryz.ntmps30
    go_wp2
    go_ret2
    exact ⟨_, rfl, Kd.R_nil _ _ _ _ _, Below.refl _ _⟩
  · rw [if_neg c1] at h
    generalize hR : oid_parts (oid_cut a0) [] = R at h
    have H := Aside0.mk h
    have HR := Aside0.mk hR
    have HE0 := Aside0.mk hE
    have hs : a0.size ≤ 80 := by omega
    have HS := Aside0.mk (part_size a0 hs)
    have hL : (oid_cut a0).length ≤ 81 := by
      have := Lib.countB_le ⟨#[46]⟩ (Nat.le_refl 1) a0.size a0 (Nat.le_refl _)
      rw [cut_length]
      omega
    have HL := Aside0.mk hL
    clear h hR hE hL
    have b1 : decide (80 < a0.size) = false := decide_eq_false (by omega)
    have b2 : decide ((80 : Int) < (a0.size : Int)) = false := decide_eq_false (by omega)
    have HSZ := Aside0.mk hs
    clear hs c1
    go_enter Tryz.func30, Tryz.ntmps30
    go_wp2_with (go_at_call 52; (with_reducible refine (split_calls a0 _ HE0.out HSZ.out).mono ?_); rintro e W0 ⟨A, rfl, hc, hb⟩; have HC := Aside0.mk hc; have HB0 := Aside0.mk hb; have HE := Aside0.mk (HE0.out.below hb); clear hc hb)
    go_loopg [4, 17] ((oid_cut a0).length + 1) (fun kq v4 v17 w' => ∃ (x4_1 : List Int) (x17_1 : Int), v17 = .int .i64 x17_1 ∧ Aside0 (0 ≤ x17_1 ∧ x17_1 ≤ (oid_cut a0).length ∧ x4_1.length ≤ x17_1.toNat ∧ kq + x17_1.toNat = (oid_cut a0).length + 1) ∧ Aside0 (oid_parts ((oid_cut a0).drop x17_1.toNat) x4_1 = R) ∧ Aside0 (Kd.R (Kd.int .i64) 3 w' W0.heap.size (fun _ => True) v4 x4_1) ∧ Aside0 (Below W0.heap.size W0 w'))
    case atStart => exact ⟨[], 0, rfl, ⟨by simp⟩, ⟨by simpa using HR.out⟩, ⟨zL⟩, ⟨Below.refl _ _⟩⟩
    case round =>
      obtain ⟨x4_1, x17_1, rfl, HX, HA, HO_4, HB⟩ := hrel
      have hx := HX.out
      obtain ⟨p0, p1, p2, p3⟩ := hx
      have h81 := HL.out
      cases gk with
      | zero => omega
      | succ k1 =>
        clear HX HR
        by_cases c : x17_1 < ((oid_cut a0).length : Int)
        · have cb : decide (x17_1 < ((oid_cut a0).length : Int)) = true := decide_eq_true c
          obtain ⟨ad, e_, hx0⟩ := Kd.at_string HC.out x17_1 p0 c
          cases e_
          replace hx0 := (HB.out.cell (World.block_lt_of_cell? W0 _ hx0)).trans hx0
          have hi : x17_1.toNat < (oid_cut a0).length := by omega
          have hq0 : rdOf ByteArray.empty (oid_cut a0) x17_1 = (oid_cut a0)[x17_1.toNat] := by
            unfold rdOf
            rw [List.getD_eq_getElem?_getD, List.getElem?_eq_getElem hi]
            rfl
          have hsz := HS.out _ (List.getElem_mem hi)
          have hdr : (oid_cut a0).drop x17_1.toNat = (oid_cut a0)[x17_1.toNat] :: (oid_cut a0).drop (x17_1 + 1).toNat := by
            rw [show (x17_1 + 1).toNat = x17_1.toNat + 1 by omega]
            exact List.drop_eq_getElem_cons hi
          have hA := HA.out
          clear HA
          rw [hdr, oid_parts] at hA
          rw [hq0] at hx0
          revert hA hsz hx0
          generalize (oid_cut a0)[x17_1.toNat] = q
          intro hx0 hsz hA
          have HQ := Aside0.mk hsz
          clear hsz hq0 hdr hi
          cases hv : Lib.atoiAll q.data.toList with
          | ok v =>
            rw [hv] at hA
            simp only at hA
            have HV := Aside0.mk hv
            clear hv
            by_cases c5 : q.size > 5
            · rw [if_pos c5] at hA
              subst hA
              have H2 := H.out
              simp only [Option.some.injEq, Prod.mk.injEq] at H2
              obtain ⟨rfl, rfl⟩ := H2
              have b5 : decide (5 < q.size) = true := decide_eq_true c5
              have b6 : decide ((5 : Int) < (q.size : Int)) = true := decide_eq_true (by omega)
              go_wp2_with (go_at_call 53; (with_reducible refine (atoi_ok q HQ.out v HV.out _).mono ?_); rintro e w1 ⟨rfl, hb⟩; have HB1 := Aside0.mk hb; clear hb)
              go_ret2
              exact ⟨_, rfl, Kd.R_nil _ _ _ _ _, below_step (below_step HB0.out HB.out) HB1.out⟩
            · rw [if_neg c5] at hA
              have HA := Aside0.mk hA
              have b5 : decide (5 < q.size) = false := decide_eq_false c5
              have b6 : decide ((5 : Int) < (q.size : Int)) = false := decide_eq_false (by omega)
              have hlm : x4_1.length ≤ 81 := by omega
              have LM := Aside0.mk hlm
              obtain ⟨y4, hy4⟩ : ∃ y_ : List Int, y_ = x4_1 ++ [v] := ⟨_, rfl⟩
              have Ny := Aside0.mk hy4
              have hyl : y4.length ≤ (x17_1 + 1).toNat := by rw [hy4, List.length_append, List.length_singleton]; omega
              have HYL := Aside0.mk hyl
              have hA2 := HA.out
              rw [← hy4] at hA2
              have HA2 := Aside0.mk hA2
              have p17 : 0 ≤ x17_1 + 1 := by omega
              have q17 : x17_1 + 1 ≤ ((oid_cut a0).length : Int) := by omega
              have r17 : x17_1 ≤ 80 := by omega
              have s17 : k1 + (x17_1 + 1).toNat = (oid_cut a0).length + 1 := by omega
              have HP := Aside0.mk (And.intro p17 (And.intro q17 (And.intro hyl s17)))
              clear hA hlm hy4 hyl hA2 HA s17 p17 q17
              go_wp2_with (first | (go_at_call 53; (with_reducible refine (atoi_ok q HQ.out v HV.out _).mono ?_); rintro e w1 ⟨rfl, hb⟩; have n_ := zI (aM (Kd.R_below (zR HO_4) hb)) (aM (below_step HB.out hb)); clear HO_4 HB; obtain ⟨HO_4, HB⟩ := n_; clear hb) | ((with_reducible refine gate_builtin (b := .append) (xs := #[.tmp 33, .tmp 35]) rfl ?_); at_builtin; refine Kd.R_append (Kd.int .i64) (w0 := W0) W0.heap.size rfl (.tmp 33) (.tmp 35) 22 3 (.int .i64 0) 8 rfl Tryz.underlying22 info3 rfl (by decide) (by omega) u4 x4_1 v [.int .i64 v] (fun _ => True) (fun _ => False) rfl rfl ?aP (fun _ hk => hk.elim) ?aF ?aO ?aB ?aS ?aL ?_; (case aP => exact rfl); (case aB => exact HB.out); (case aF => exact (fun _ _ => trivial)); (case aO => exact (zR HO_4)); (case aS => exact HB.out.size); (case aL => have := LM.out; omega); intro v5 w5 ho hb hg hat; rw [← Ny.out] at ho; have n_ := zI (aM ho) (aM hb); clear HB HO_4 hg hat ho hb; obtain ⟨HO_5, HB⟩ := n_))
              go_roundg k1
              case measure => have := HP.out; omega
              case rel => exact ⟨y4, x17_1 + 1, zP, ⟨HP.out⟩, HA2, ⟨zR HO_5⟩, HB⟩
          | «syntax» =>
            rw [hv] at hA
            simp only at hA
            subst hA
            have H2 := H.out
            simp only [Option.some.injEq, Prod.mk.injEq] at H2
            obtain ⟨rfl, rfl⟩ := H2
            have hno : ∀ v, Lib.atoiAll q.data.toList ≠ .ok v := fun v e => by
              rw [hv] at e
              cases e
            have HV := Aside0.mk hno
            clear hv hno
            go_wp2_with (go_at_call 53; (with_reducible refine (atoi_no q HQ.out HV.out _ (HE.out.below HB.out)).mono ?_); rintro e w1 ⟨n1, N1, rfl, hb⟩; have HB1 := Aside0.mk hb; clear hb)
            go_ret2
            exact ⟨_, rfl, Kd.R_nil _ _ _ _ _, below_step (below_step HB0.out HB.out) HB1.out⟩
          | range =>
            rw [hv] at hA
            simp only at hA
            subst hA
            have H2 := H.out
            simp only [Option.some.injEq, Prod.mk.injEq] at H2
            obtain ⟨rfl, rfl⟩ := H2
            have hno : ∀ v, Lib.atoiAll q.data.toList ≠ .ok v := fun v e => by
              rw [hv] at e
              cases e
            have HV := Aside0.mk hno
            clear hv hno
            go_wp2_with (go_at_call 53; (with_reducible refine (atoi_no q HQ.out HV.out _ (HE.out.below HB.out)).mono ?_); rintro e w1 ⟨n1, N1, rfl, hb⟩; have HB1 := Aside0.mk hb; clear hb)
            go_ret2
            exact ⟨_, rfl, Kd.R_nil _ _ _ _ _, below_step (below_step HB0.out HB.out) HB1.out⟩
        · have cb : decide (x17_1 < ((oid_cut a0).length : Int)) = false := decide_eq_false c
          have hA := HA.out
          rw [List.drop_eq_nil_of_le (by omega), oid_parts] at hA
          subst hA
          have H2 := H.out
          simp only at H2
          obtain ⟨⟨t1, e1⟩, A2, H3⟩ := zO H2
          dsimp only at H3
          obtain ⟨Ao, co, rfl⟩ := Kd.R_slice HO_4.out
          clear H H2 HA HS
          by_cases ce : e1 = 0
          · rw [if_pos ce] at H3
            subst ce
            by_cases ct : t1.toList = a0.toList
            · rw [if_pos ct] at H3
              simp only [Option.some.injEq, Prod.mk.injEq] at H3
              obtain ⟨rfl, rfl⟩ := H3
              have d1 : (t1.toList == a0.toList) = true := beq_iff_eq.mpr ct
              have d2 : (t1.toList != a0.toList) = false := bne_eq_false_iff_eq.mpr ct
              clear ct
              go_wp2_with (go_at_call 54; (with_reducible refine (oid_Show.calls k _ _ x4_1 t1 0 _ (HE.out.below HB.out) ?side1 ?side2 A2.out).mono ?_); (case side1 => exact zC (Kd.R_reads' HO_4.out).2.2); (case side2 => exact (Kd.R_reads' HO_4.out).2.1); rintro e w1 ⟨rfl, hb⟩; have n_ := zI (aM (Kd.R_below (zR HO_4) hb)) (aM (below_step HB.out hb)); clear HO_4 HB; obtain ⟨HO_4, HB⟩ := n_; clear hb)
              go_ret2
              exact ⟨_, rfl, Kd.R_lower HO_4.out HB0.out.size, below_step HB0.out HB.out⟩
            · rw [if_neg ct] at H3
              simp only [Option.some.injEq, Prod.mk.injEq] at H3
              obtain ⟨rfl, rfl⟩ := H3
              have d1 : (t1.toList == a0.toList) = false := beq_eq_false_iff_ne.mpr ct
              have d2 : (t1.toList != a0.toList) = true := bne_iff_ne.mpr ct
              clear ct
              go_wp2_with (go_at_call 54; (with_reducible refine (oid_Show.calls k _ _ x4_1 t1 0 _ (HE.out.below HB.out) ?side1 ?side2 A2.out).mono ?_); (case side1 => exact zC (Kd.R_reads' HO_4.out).2.2); (case side2 => exact (Kd.R_reads' HO_4.out).2.1); rintro e w1 ⟨rfl, hb⟩; have HB1 := aM (below_step HB.out hb); clear hb)
              go_ret2
              exact ⟨_, rfl, Kd.R_nil _ _ _ _ _, below_step HB0.out HB1.out⟩
          · rw [if_neg ce] at H3
            simp only [Option.some.injEq, Prod.mk.injEq] at H3
            obtain ⟨rfl, rfl⟩ := H3
            have d1 : (e1 == 0) = false := beq_eq_false_iff_ne.mpr ce
            have d2 : (e1 != 0) = true := bne_iff_ne.mpr ce
            clear ce
            go_wp2_with (go_at_call 54; (with_reducible refine (oid_Show.calls k _ _ x4_1 t1 e1 _ (HE.out.below HB.out) ?side1 ?side2 A2.out).mono ?_); (case side1 => exact zC (Kd.R_reads' HO_4.out).2.2); (case side2 => exact (Kd.R_reads' HO_4.out).2.1); rintro e w1 ⟨rfl, hb⟩; have HB1 := aM (below_step HB.out hb); clear hb)
            go_ret2
            exact ⟨_, rfl, Kd.R_nil _ _ _ _ _, below_step HB0.out HB1.out⟩

/-! ### stringslite_HasSuffix: function 155 -/
def stringslite_HasSuffix.f (a0 : ByteArray) (a1 : ByteArray) : Option (Bool) := if (a0.size : Int) ≥ (a1.size : Int) then (if 0 ≤ (wrap64 ((a0.size : Int) - (a1.size : Int))) then (if (wrap64 ((a0.size : Int) - (a1.size : Int))) ≤ (a0.size : Int) then (some ((a0.extract ((wrap64 ((a0.size : Int) - (a1.size : Int))) : Int).toNat a0.size).toList == a1.toList)) else (none)) else (none)) else (some false)
set_option maxHeartbeats 8000000 in
set_option maxRecDepth 100000 in
theorem stringslite_HasSuffix.calls (a0 : ByteArray) (a1 : ByteArray) (r : Bool) (w : World) (h : stringslite_HasSuffix.f a0 a1 = some r) :
  Calls Tryz.prog 155 #[.string a0, .string a1] w fun e w' => e = .returned (.bool r) ∧ Drawn0 w w' := by
 have H := h
 clear h
 unfold stringslite_HasSuffix.f at H
 by_cases c3 : (a0.size : Int) ≥ (a1.size : Int)
 ·rw [if_pos c3] at H
  have c3b0 : decide ((a1.size : Int) ≤ (a0.size : Int)) = true := decide_eq_true c3
  have c3b1 : decide (a1.size ≤ a0.size) = true := decide_eq_true (Int.ofNat_le.mp c3)
  clear c3
  obtain ⟨ji4, hji4⟩ : ∃ j_ : Int, (wrap64 ((a0.size : Int) - (a1.size : Int))) = j_ := ⟨_, rfl⟩
  replace H : (if 0 ≤ (ji4) then (if (ji4) ≤ (a0.size : Int) then (some ((a0.extract ((ji4) : Int).toNat a0.size).toList == a1.toList)) else (none)) else (none)) = some r := by first | (rw [hji4] at H; exact H) | (simp only [hji4] at H ⊢; exact H)
  have hji4w : (IntKind.i64.wrap ((a0.size : Int) - (a1.size : Int))) = ji4 := (i64_w _).trans hji4
  by_cases c5 : 0 ≤ (ji4)
  ·rw [if_pos c5] at H
   have c5b0 := eq_true c5
   have c5b1 : decide (0 ≤ (ji4)) = true := decide_eq_true c5
   clear c5
   by_cases c6 : (ji4) ≤ (a0.size : Int)
   ·rw [if_pos c6] at H
    have c6b0 := eq_true c6
    have c6b1 : decide ((ji4) ≤ (a0.size : Int)) = true := decide_eq_true c6
    clear c6
    obtain rfl := sI H
    go_enter Tryz.func155, Tryz.ntmps155
    go_wp2
    go_ret
    exact ⟨by first | rfl | (simp; done) | (simp only [← hji4] <;> (first | rfl | simp)) | (simp [*]; done), zD⟩
   ·rw [if_neg c6] at H
    exact absurd H (by simp)
  ·rw [if_neg c5] at H
   exact absurd H (by simp)
 ·rw [if_neg c3] at H
  have c3b0 : decide ((a1.size : Int) ≤ (a0.size : Int)) = false := decide_eq_false c3
  have c3b1 : decide (a1.size ≤ a0.size) = false := decide_eq_false (fun h => c3 (Int.ofNat_le.mpr h))
  clear c3
  obtain rfl := sI H
  go_enter Tryz.func155, Tryz.ntmps155
  go_wp2
  go_ret
  exact ⟨zP, zD⟩

/-! ### stringslite_CutSuffix: function 99 -/
def stringslite_CutSuffix.f (a0 : ByteArray) (a1 : ByteArray) : Option (ByteArray × Bool) := (stringslite_HasSuffix.f a0 a1).bind fun t300 => (if t300 = true then (if 0 ≤ (wrap64 ((a0.size : Int) - (a1.size : Int))) then (if (wrap64 ((a0.size : Int) - (a1.size : Int))) ≤ (a0.size : Int) then (some (a0.extract 0 ((wrap64 ((a0.size : Int) - (a1.size : Int))) : Int).toNat, true)) else (none)) else (none)) else (some (a0, false)))
set_option maxHeartbeats 8000000 in
set_option maxRecDepth 100000 in
theorem stringslite_CutSuffix.calls (a0 : ByteArray) (a1 : ByteArray) (r1 : ByteArray) (r2 : Bool) (w : World) (h : stringslite_CutSuffix.f a0 a1 = some (r1, r2)) :
  Calls Tryz.prog 99 #[.string a0, .string a1] w fun e w' => e = .returned (.tuple #[.string r1, .bool r2]) ∧ Drawn0 w w' := by
 have H := h
 clear h
 unfold stringslite_CutSuffix.f at H
 obtain ⟨t300, A3, H⟩ := zO H
 by_cases c4 : t300 = true
 ·subst c4
  rw [if_pos rfl] at H
  obtain ⟨ji5, hji5⟩ : ∃ j_ : Int, (wrap64 ((a0.size : Int) - (a1.size : Int))) = j_ := ⟨_, rfl⟩
  replace H : (if 0 ≤ (ji5) then (if (ji5) ≤ (a0.size : Int) then (some (a0.extract 0 ((ji5) : Int).toNat, true)) else (none)) else (none)) = some (r1, r2) := by first | (rw [hji5] at H; exact H) | (simp only [hji5] at H ⊢; exact H)
  (try rw [hji5] at A3)
  have hji5w : (IntKind.i64.wrap ((a0.size : Int) - (a1.size : Int))) = ji5 := (i64_w _).trans hji5
  by_cases c6 : 0 ≤ (ji5)
  ·rw [if_pos c6] at H
   have c6b0 := eq_true c6
   have c6b1 : decide (0 ≤ (ji5)) = true := decide_eq_true c6
   clear c6
   by_cases c7 : (ji5) ≤ (a0.size : Int)
   ·rw [if_pos c7] at H
    have c7b0 := eq_true c7
    have c7b1 : decide ((ji5) ≤ (a0.size : Int)) = true := decide_eq_true c7
    clear c7
    simp only [Option.some.injEq, Prod.mk.injEq] at H
    obtain ⟨rfl, rfl⟩ := H
    go_enter Tryz.func99, Tryz.ntmps99
    go_wp2_with (first | ((with_reducible refine gate_callee (f := 155) rfl ?_); refine goesL_ (some 8) rfl rfl Tryz.func155 zK rfl #[.string a0, .string a1] rfl zM ?_; (with_reducible refine (stringslite_HasSuffix.calls a0 a1 true _ A3.out).mono ?_); rintro e w' ⟨rfl, ⟨nd, rfl⟩⟩; refine ⟨_, rfl, ?_⟩))
    go_ret2
    exact ⟨by first | rfl | (simp; done) | (simp only [← hji5] <;> (first | rfl | simp)) | (simp [*]; done), zD⟩
   ·rw [if_neg c7] at H
    exact absurd H (by simp)
  ·rw [if_neg c6] at H
   exact absurd H (by simp)
 ·replace c4 := Bool.eq_false_iff.mpr c4
  subst c4
  rw [if_neg (show ¬ (false = true) by decide)] at H
  simp only [Option.some.injEq, Prod.mk.injEq] at H
  obtain ⟨rfl, rfl⟩ := H
  go_enter Tryz.func99, Tryz.ntmps99
  go_wp2_with (first | ((with_reducible refine gate_callee (f := 155) rfl ?_); refine goesL_ (some 8) rfl rfl Tryz.func155 zK rfl #[.string a0, .string a1] rfl zM ?_; (with_reducible refine (stringslite_HasSuffix.calls a0 a1 false _ A3.out).mono ?_); rintro e w' ⟨rfl, ⟨nd, rfl⟩⟩; refine ⟨_, rfl, ?_⟩))
  go_ret2
  exact ⟨zP, zD⟩

/-! ### strings_CutSuffix: function 55 -/
def strings_CutSuffix.f (a0 : ByteArray) (a1 : ByteArray) : Option (ByteArray × Bool) := (stringslite_CutSuffix.f a0 a1).bind fun bt301 => (some (bt301.1, bt301.2))
set_option maxHeartbeats 8000000 in
set_option maxRecDepth 100000 in
theorem strings_CutSuffix.calls (a0 : ByteArray) (a1 : ByteArray) (r1 : ByteArray) (r2 : Bool) (w : World) (h : strings_CutSuffix.f a0 a1 = some (r1, r2)) :
  Calls Tryz.prog 55 #[.string a0, .string a1] w fun e w' => e = .returned (.tuple #[.string r1, .bool r2]) ∧ Drawn0 w w' := by
 have H := h
 clear h
 unfold strings_CutSuffix.f at H
 obtain ⟨⟨t301, t302⟩, A3, H⟩ := zO H
 try dsimp only at H
 simp only [Option.some.injEq, Prod.mk.injEq] at H
 obtain ⟨rfl, rfl⟩ := H
 go_enter Tryz.func55, Tryz.ntmps55
 go_wp2_with (first | ((with_reducible refine gate_callee (f := 99) rfl ?_); refine goesL_ (some 8) rfl rfl Tryz.func99 zK rfl #[.string a0, .string a1] rfl zM ?_; (with_reducible refine (stringslite_CutSuffix.calls a0 a1 t301 t302 _ A3.out).mono ?_); rintro e w' ⟨rfl, ⟨nd, rfl⟩⟩; refine ⟨_, rfl, ?_⟩))
 go_ret2
 exact ⟨zP, zD⟩

/-! ### strings_LastIndex: function 56, by hand (strings.LastIndex.tpl) -/
def strings_LastIndex.f (a0 : ByteArray) (a1 : ByteArray) : Option Int := if h : a1.size = 1 ∧ a0.size < 4611686018427387904 then some (Lib.lastIndexByte a0 ((a1[0]'(by omega)).toNat : Int)) else none
theorem strings_LastIndex.calls (a0 : ByteArray) (a1 : ByteArray) (r : Int) (w : World) (h : strings_LastIndex.f a0 a1 = some r) :
    Calls Tryz.prog 56 #[.string a0, .string a1] w fun e w' => e = .returned (.int .i64 r) ∧ Drawn0 w w' := by
  unfold strings_LastIndex.f at h
  by_cases c : a1.size = 1 ∧ a0.size < 4611686018427387904
  · rw [dif_pos c] at h
    obtain rfl := Option.some.inj h
    refine (Any.strings_LastIndex_one Tryz.lays148 a0 a1 c.1 c.2 w).mono ?_
    rintro e w' ⟨rfl, rfl⟩
    exact ⟨rfl, Drawn0.refl _⟩
  · rw [dif_neg c] at h
    exact absurd h (by simp)

/-! ### stringslite_HasPrefix: function 157 -/
def stringslite_HasPrefix.f (a0 : ByteArray) (a1 : ByteArray) : Option (Bool) := if (a0.size : Int) ≥ (a1.size : Int) then (if 0 ≤ (a1.size : Int) then (if (a1.size : Int) ≤ (a0.size : Int) then (some ((a0.extract 0 ((a1.size : Int) : Int).toNat).toList == a1.toList)) else (none)) else (none)) else (some false)
set_option maxHeartbeats 8000000 in
set_option maxRecDepth 100000 in
theorem stringslite_HasPrefix.calls (a0 : ByteArray) (a1 : ByteArray) (r : Bool) (w : World) (h : stringslite_HasPrefix.f a0 a1 = some r) :
  Calls Tryz.prog 157 #[.string a0, .string a1] w fun e w' => e = .returned (.bool r) ∧ Drawn0 w w' := by
 have H := h
 clear h
 unfold stringslite_HasPrefix.f at H
 by_cases c3 : (a0.size : Int) ≥ (a1.size : Int)
 ·rw [if_pos c3] at H
  have c3b0 : decide ((a1.size : Int) ≤ (a0.size : Int)) = true := decide_eq_true c3
  have c3b1 : decide (a1.size ≤ a0.size) = true := decide_eq_true (Int.ofNat_le.mp c3)
  clear c3
  by_cases c4 : 0 ≤ (a1.size : Int)
  ·rw [if_pos c4] at H
   have c4b0 := eq_true c4
   have c4b1 : decide (0 ≤ (a1.size : Int)) = true := decide_eq_true c4
   clear c4
   by_cases c5 : (a1.size : Int) ≤ (a0.size : Int)
   ·rw [if_pos c5] at H
    have c5b0 := eq_true c5
    have c5b1 : decide ((a1.size : Int) ≤ (a0.size : Int)) = true := decide_eq_true c5
    clear c5
    obtain rfl := sI H
    go_enter Tryz.func157, Tryz.ntmps157
    go_wp2
    go_ret
    exact ⟨zP, zD⟩
   ·rw [if_neg c5] at H
    exact absurd H (by simp)
  ·rw [if_neg c4] at H
   exact absurd H (by simp)
 ·rw [if_neg c3] at H
  have c3b0 : decide ((a1.size : Int) ≤ (a0.size : Int)) = false := decide_eq_false c3
  have c3b1 : decide (a1.size ≤ a0.size) = false := decide_eq_false (fun h => c3 (Int.ofNat_le.mpr h))
  clear c3
  obtain rfl := sI H
  go_enter Tryz.func157, Tryz.ntmps157
  go_wp2
  go_ret
  exact ⟨zP, zD⟩

/-! ### stringslite_TrimPrefix: function 102 -/
def stringslite_TrimPrefix.f (a0 : ByteArray) (a1 : ByteArray) : Option (ByteArray) := (stringslite_HasPrefix.f a0 a1).bind fun t303 => (if t303 = true then (if 0 ≤ (a1.size : Int) then (if (a1.size : Int) ≤ (a0.size : Int) then (some (a0.extract ((a1.size : Int) : Int).toNat a0.size)) else (none)) else (none)) else (some a0))
set_option maxHeartbeats 8000000 in
set_option maxRecDepth 100000 in
theorem stringslite_TrimPrefix.calls (a0 : ByteArray) (a1 : ByteArray) (r : ByteArray) (w : World) (h : stringslite_TrimPrefix.f a0 a1 = some r) :
  Calls Tryz.prog 102 #[.string a0, .string a1] w fun e w' => e = .returned (.string r) ∧ Drawn0 w w' := by
 have H := h
 clear h
 unfold stringslite_TrimPrefix.f at H
 obtain ⟨t303, A3, H⟩ := zO H
 by_cases c4 : t303 = true
 ·subst c4
  rw [if_pos rfl] at H
  by_cases c5 : 0 ≤ (a1.size : Int)
  ·rw [if_pos c5] at H
   have c5b0 := eq_true c5
   have c5b1 : decide (0 ≤ (a1.size : Int)) = true := decide_eq_true c5
   clear c5
   by_cases c6 : (a1.size : Int) ≤ (a0.size : Int)
   ·rw [if_pos c6] at H
    have c6b0 := eq_true c6
    have c6b1 : decide ((a1.size : Int) ≤ (a0.size : Int)) = true := decide_eq_true c6
    clear c6
    obtain rfl := sI H
    go_enter Tryz.func102, Tryz.ntmps102
    go_wp2_with (first | ((with_reducible refine gate_callee (f := 157) rfl ?_); refine goesL_ (some 7) rfl rfl Tryz.func157 zK rfl #[.string a0, .string a1] rfl zM ?_; (with_reducible refine (stringslite_HasPrefix.calls a0 a1 true _ A3.out).mono ?_); rintro e w' ⟨rfl, ⟨nd, rfl⟩⟩; refine ⟨_, rfl, ?_⟩))
    go_ret
    exact ⟨zP, zD⟩
   ·rw [if_neg c6] at H
    exact absurd H (by simp)
  ·rw [if_neg c5] at H
   exact absurd H (by simp)
 ·replace c4 := Bool.eq_false_iff.mpr c4
  subst c4
  rw [if_neg (show ¬ (false = true) by decide)] at H
  obtain rfl := sI H
  go_enter Tryz.func102, Tryz.ntmps102
  go_wp2_with (first | ((with_reducible refine gate_callee (f := 157) rfl ?_); refine goesL_ (some 7) rfl rfl Tryz.func157 zK rfl #[.string a0, .string a1] rfl zM ?_; (with_reducible refine (stringslite_HasPrefix.calls a0 a1 false _ A3.out).mono ?_); rintro e w' ⟨rfl, ⟨nd, rfl⟩⟩; refine ⟨_, rfl, ?_⟩))
  go_ret
  exact ⟨zP, zD⟩

/-! ### strings_TrimPrefix: function 57 -/
def strings_TrimPrefix.f (a0 : ByteArray) (a1 : ByteArray) : Option (ByteArray) := (stringslite_TrimPrefix.f a0 a1).bind fun t304 => (some t304)
set_option maxHeartbeats 8000000 in
set_option maxRecDepth 100000 in
theorem strings_TrimPrefix.calls (a0 : ByteArray) (a1 : ByteArray) (r : ByteArray) (w : World) (h : strings_TrimPrefix.f a0 a1 = some r) :
  Calls Tryz.prog 57 #[.string a0, .string a1] w fun e w' => e = .returned (.string r) ∧ Drawn0 w w' := by
 have H := h
 clear h
 unfold strings_TrimPrefix.f at H
 obtain ⟨t304, A3, H⟩ := zO H
 obtain rfl := sI H
 go_enter Tryz.func57, Tryz.ntmps57
 go_wp2_with (first | ((with_reducible refine gate_callee (f := 102) rfl ?_); refine goesL_ (some 7) rfl rfl Tryz.func102 zK rfl #[.string a0, .string a1] rfl zM ?_; (with_reducible refine (stringslite_TrimPrefix.calls a0 a1 t304 _ A3.out).mono ?_); rintro e w' ⟨rfl, ⟨nd, rfl⟩⟩; refine ⟨_, rfl, ?_⟩))
 go_ret
 exact ⟨zP, zD⟩

/-! ### gauss_number: function 58, by hand (gauss.number.tpl) -/
theorem gatoi_ok (s : ByteArray) (hs : s.size ≤ 18) (v : Int) (h : Lib.atoi s.data.toList = some v) (w : World) :
    Calls Tryz.prog 53 #[.string s] w fun e w' => e = .returned (.tuple #[.int .i64 v, .nilIface]) ∧ Below w.heap.size w w' := by
  refine (Any.strconv_Atoi Tryz.lays172 s v hs h w).mono ?_
  rintro e w' ⟨rfl, t, rfl⟩
  exact ⟨rfl, Lib.bytesWorld_below _ _ _⟩
theorem gatoi_no (s : ByteArray) (hs : s.size ≤ 18) (h : Lib.atoi s.data.toList = none) (w : World) (hE : Env w) :
    Calls Tryz.prog 53 #[.string s] w fun e w' => ∃ (N : Nat), e = .returned (.tuple #[.int .i64 0, .iface 112 (.pointer (some ⟨N, 0, none⟩))]) ∧ Below w.heap.size w w' := by
  obtain ⟨_, ⟨tp, p, t2, b2, h2⟩, _, _⟩ := hE
  refine (Any.strconv_Atoi_err_var Tryz.laysC172 s hs h tp p w ?_).mono ?_
  · unfold World.var?
    rw [show Program.globalNamed Tryz.prog _ = some 0 from by kernel_rfl]
    simp only [Option.bind_some, h2]
  · rintro e w' ⟨N, rfl, _, _, hb⟩
    exact ⟨N, rfl, hb⟩
def gauss_number.f (a0 : ByteArray) : Option (Int × Bool) := if a0.size ≤ 18 then (match Lib.atoi a0.data.toList with | some n => some (n, decide (a0.size ≤ 7)) | none => some (0, false)) else none
set_option maxHeartbeats 8000000 in
set_option maxRecDepth 100000 in
theorem gauss_number.calls (a0 : ByteArray) (r1 : Int) (r2 : Bool) (w : World) (hE : Env w) (h : gauss_number.f a0 = some (r1, r2)) :
    Calls Tryz.prog 58 #[.string a0] w fun e w' => e = .returned (.tuple #[.int .i64 r1, .bool r2]) ∧ Below w.heap.size w w' := by
  unfold gauss_number.f at h
  by_cases c : a0.size ≤ 18
  rotate_left
  · rw [if_neg c] at h; exact absurd h (by simp)
  rw [if_pos c] at h
  have hC := Aside0.mk c
  have HE := Aside0.mk hE
  clear c hE
  cases hh : Lib.atoi a0.data.toList with
  | some n =>
    have HH := Aside0.mk hh
    rw [hh] at h
    clear hh
    simp only [Option.some.injEq, Prod.mk.injEq] at h
    obtain ⟨rfl, rfl⟩ := h
    by_cases c7 : a0.size ≤ 7
    all_goals
      (first | have b1 : decide (a0.size ≤ 7) = true := decide_eq_true c7 | have b1 : decide (a0.size ≤ 7) = false := decide_eq_false c7)
      (first | have b2 : decide ((a0.size : Int) ≤ 7) = true := decide_eq_true (by omega) | have b2 : decide ((a0.size : Int) ≤ 7) = false := decide_eq_false (by omega))
      clear c7
      go_enter Tryz.func58, Tryz.ntmps58
      go_wp2_with (go_at_call 53; (with_reducible refine (gatoi_ok a0 hC.out _ HH.out _).mono ?_); rintro e w1 ⟨rfl, hb⟩; have HB := Aside0.mk hb; clear hb)
      go_ret2
      exact ⟨by first | rfl | simp [b1], by first | exact HB.out | exact Below.trans (pw_below_drewN (Below.refl _ _) _) HB.out⟩
  | none =>
    have HH := Aside0.mk hh
    rw [hh] at h
    clear hh
    simp only [Option.some.injEq, Prod.mk.injEq] at h
    obtain ⟨rfl, rfl⟩ := h
    go_enter Tryz.func58, Tryz.ntmps58
    go_wp2_with (go_at_call 53; (with_reducible refine (gatoi_no a0 hC.out HH.out _ HE.out).mono ?_); rintro e w1 ⟨N, rfl, hb⟩; have HB := Aside0.mk hb; clear hb)
    go_ret2
    exact ⟨rfl, by first | exact HB.out | exact Below.trans (pw_below_drewN (Below.refl _ _) _) HB.out⟩

/-! ### gauss_whole: function 59 -/
def gauss_whole.f (a0 : Int) (a1 : Int) : Option ((Nat × Nat)) := some (Go.floatOfInt .f64 a0, Go.floatOfInt .f64 a1)
set_option maxHeartbeats 8000000 in
set_option maxRecDepth 100000 in
theorem gauss_whole.calls (a0 : Int) (a1 : Int) (r : (Nat × Nat)) (w : World) (h : gauss_whole.f a0 a1 = some r) :
  Calls Tryz.prog 59 #[.int .i64 a0, .int .i64 a1] w fun e w' => e = .returned (.complex .f64 r.1 r.2) ∧ Below w.heap.size w w' := by
 have HB := aM (Below.refl w.heap.size w)
 have H := h
 clear h
 unfold gauss_whole.f at H
 obtain rfl := sI H
 go_enter Tryz.func59, Tryz.ntmps59
 go_wp2
 go_ret
 exact ⟨zE, zB⟩

/-! ### gauss_part: function 158 -/
def gauss_part.f (a0 : Nat) : Option (Int × Bool) := if (Go.FloatKind.f64.format.order a0 13920209174949527552 == some .gt || Go.FloatKind.f64.format.order a0 13920209174949527552 == some .eq) = true then (if ((Go.FloatKind.f64.format.order a0 4696837138094751744 == some .lt || Go.FloatKind.f64.format.order a0 4696837138094751744 == some .eq) = true) then (if Go.floatToIntVal .f64 a0 .i64 = some (fTi a0) then (some ((fTi a0), (Go.FloatKind.f64.format.order (Go.floatOfInt .f64 (fTi a0)) a0 == some .eq))) else (none)) else (some (0, false))) else (some (0, false))
set_option maxHeartbeats 8000000 in
set_option maxRecDepth 100000 in
theorem gauss_part.calls (a0 : Nat) (r1 : Int) (r2 : Bool) (w : World) (h : gauss_part.f a0 = some (r1, r2)) :
  Calls Tryz.prog 158 #[.float .f64 a0] w fun e w' => e = .returned (.tuple #[.int .i64 r1, .bool r2]) ∧ Drawn0 w w' := by
 have H := h
 clear h
 unfold gauss_part.f at H
 by_cases c2 : (Go.FloatKind.f64.format.order a0 13920209174949527552 == some .gt || Go.FloatKind.f64.format.order a0 13920209174949527552 == some .eq) = true
 ·rw [if_pos c2] at H
  have c2b0 : (Go.FloatKind.f64.format.order a0 13920209174949527552 == some .gt || Go.FloatKind.f64.format.order a0 13920209174949527552 == some .eq) = true := c2
  (try (have c2b1 : decide (Go.FloatKind.f64.format.order a0 13920209174949527552 = some .gt || Go.FloatKind.f64.format.order a0 13920209174949527552 == some .eq) = true := by simpa using c2))
  (try (have c2b2 : (Go.FloatKind.f64.format.order a0 13920209174949527552 == some .gt || Go.FloatKind.f64.format.order a0 13920209174949527552 == some .eq) = true := by simpa using c2))
  clear c2
  by_cases c3 : ((Go.FloatKind.f64.format.order a0 4696837138094751744 == some .lt || Go.FloatKind.f64.format.order a0 4696837138094751744 == some .eq) = true)
  ·rw [if_pos c3] at H
   have c3b0 : (Go.FloatKind.f64.format.order a0 4696837138094751744 == some .lt || Go.FloatKind.f64.format.order a0 4696837138094751744 == some .eq) = true := c3
   (try (have c3b1 : decide (Go.FloatKind.f64.format.order a0 4696837138094751744 = some .lt || Go.FloatKind.f64.format.order a0 4696837138094751744 == some .eq) = true := by simpa using c3))
   (try (have c3b2 : (Go.FloatKind.f64.format.order a0 4696837138094751744 == some .lt || Go.FloatKind.f64.format.order a0 4696837138094751744 == some .eq) = true := by simpa using c3))
   clear c3
   by_cases c4 : Go.floatToIntVal .f64 a0 .i64 = some (fTi a0)
   ·rw [if_pos c4] at H
    have c4f := (show ∀ (w_ : World), (Go.convert 144 3 (.float .f64 a0)).run Tryz.prog w_ = .ok (.int .i64 (fTi a0)) w_ from fun w_ => run_convert_float_int w_ 144 3 .f64 .i64 _ _ (by rw [Tryz.underlying144]; rfl) Tryz.underlying3 c4)
    have c4b0 := eq_true c4
    have c4b1 : decide (Go.floatToIntVal .f64 a0 .i64 = some (fTi a0)) = true := decide_eq_true c4
    clear c4
    simp only [Option.some.injEq, Prod.mk.injEq] at H
    obtain ⟨rfl, rfl⟩ := H
    go_enter Tryz.func158, Tryz.ntmps158
    go_wp2
    go_ret2
    exact ⟨zP, zD⟩
   ·rw [if_neg c4] at H
    exact absurd H (by simp)
  ·rw [if_neg c3] at H
   have c3b0 : (Go.FloatKind.f64.format.order a0 4696837138094751744 == some .lt || Go.FloatKind.f64.format.order a0 4696837138094751744 == some .eq) = false := by simpa using c3
   (try (have c3b1 : decide (Go.FloatKind.f64.format.order a0 4696837138094751744 = some .lt || Go.FloatKind.f64.format.order a0 4696837138094751744 == some .eq) = false := by simpa using c3))
   (try (have c3b2 : (Go.FloatKind.f64.format.order a0 4696837138094751744 == some .lt || Go.FloatKind.f64.format.order a0 4696837138094751744 == some .eq) = false := by simpa using c3))
   (try (have c3b3 : ¬ (Go.FloatKind.f64.format.order a0 4696837138094751744 = some .lt || Go.FloatKind.f64.format.order a0 4696837138094751744 == some .eq) := by simpa using c3))
   clear c3
   simp only [Option.some.injEq, Prod.mk.injEq] at H
   obtain ⟨rfl, rfl⟩ := H
   go_enter Tryz.func158, Tryz.ntmps158
   go_wp2
   go_ret2
   exact ⟨zP, zD⟩
 ·rw [if_neg c2] at H
  have c2b0 : (Go.FloatKind.f64.format.order a0 13920209174949527552 == some .gt || Go.FloatKind.f64.format.order a0 13920209174949527552 == some .eq) = false := by simpa using c2
  (try (have c2b1 : decide (Go.FloatKind.f64.format.order a0 13920209174949527552 = some .gt || Go.FloatKind.f64.format.order a0 13920209174949527552 == some .eq) = false := by simpa using c2))
  (try (have c2b2 : (Go.FloatKind.f64.format.order a0 13920209174949527552 == some .gt || Go.FloatKind.f64.format.order a0 13920209174949527552 == some .eq) = false := by simpa using c2))
  (try (have c2b3 : ¬ (Go.FloatKind.f64.format.order a0 13920209174949527552 = some .gt || Go.FloatKind.f64.format.order a0 13920209174949527552 == some .eq) := by simpa using c2))
  clear c2
  simp only [Option.some.injEq, Prod.mk.injEq] at H
  obtain ⟨rfl, rfl⟩ := H
  go_enter Tryz.func158, Tryz.ntmps158
  go_wp2
  go_ret2
  exact ⟨zP, zD⟩

/-! ### gauss_parts: function 103 -/
def gauss_parts.f (a0 : (Nat × Nat)) : Option (Int × Int × Bool) := (gauss_part.f a0.1).bind fun bt305 => ((gauss_part.f a0.2).bind fun bt307 => (if bt305.2 = true then (some (bt305.1, bt307.1, bt307.2)) else (some (bt305.1, bt307.1, false))))
set_option maxHeartbeats 8000000 in
set_option maxRecDepth 100000 in
theorem gauss_parts.calls (a0 : (Nat × Nat)) (r1 : Int) (r2 : Int) (r3 : Bool) (w : World) (h : gauss_parts.f a0 = some (r1, r2, r3)) :
  Calls Tryz.prog 103 #[.complex .f64 a0.1 a0.2] w fun e w' => e = .returned (.tuple #[.int .i64 r1, .int .i64 r2, .bool r3]) ∧ Below w.heap.size w w' := by
 have HB := aM (Below.refl w.heap.size w)
 have H := h
 clear h
 unfold gauss_parts.f at H
 obtain ⟨⟨t305, t306⟩, A2, H⟩ := zO H
 try dsimp only at H
 obtain ⟨⟨t307, t308⟩, A3, H⟩ := zO H
 try dsimp only at H
 by_cases c4 : t306 = true
 ·subst c4
  rw [if_pos rfl] at H
  simp only [Option.some.injEq, Prod.mk.injEq] at H
  obtain ⟨rfl, rfl, rfl⟩ := H
  go_enter Tryz.func103, Tryz.ntmps103
  go_wp2_with (first | ((with_reducible refine gate_callee (f := 158) rfl ?_); refine goesL_ (some 12) rfl rfl Tryz.func158 zK rfl #[.float .f64 a0.1] rfl zM ?_; (with_reducible refine (gauss_part.calls a0.1 t305 true _ A2.out).mono ?_); rintro e w' ⟨rfl, ⟨nd, rfl⟩⟩; (try clear A2); refine ⟨_, rfl, ?_⟩) | ((with_reducible refine gate_callee (f := 158) rfl ?_); refine goesL_ (some 18) rfl rfl Tryz.func158 zK rfl #[.float .f64 a0.2] rfl zM ?_; (with_reducible refine (gauss_part.calls a0.2 t307 t308 _ A3.out).mono ?_); rintro e w' ⟨rfl, ⟨nd, rfl⟩⟩; (try clear A3); refine ⟨_, rfl, ?_⟩))
  go_ret3
  exact ⟨zE, zB⟩
 ·replace c4 := Bool.eq_false_iff.mpr c4
  subst c4
  rw [if_neg (show ¬ (false = true) by decide)] at H
  simp only [Option.some.injEq, Prod.mk.injEq] at H
  obtain ⟨rfl, rfl, rfl⟩ := H
  go_enter Tryz.func103, Tryz.ntmps103
  go_wp2_with (first | ((with_reducible refine gate_callee (f := 158) rfl ?_); refine goesL_ (some 12) rfl rfl Tryz.func158 zK rfl #[.float .f64 a0.1] rfl zM ?_; (with_reducible refine (gauss_part.calls a0.1 t305 false _ A2.out).mono ?_); rintro e w' ⟨rfl, ⟨nd, rfl⟩⟩; (try clear A2); refine ⟨_, rfl, ?_⟩) | ((with_reducible refine gate_callee (f := 158) rfl ?_); refine goesL_ (some 18) rfl rfl Tryz.func158 zK rfl #[.float .f64 a0.2] rfl zM ?_; (with_reducible refine (gauss_part.calls a0.2 t307 t308 _ A3.out).mono ?_); rintro e w' ⟨rfl, ⟨nd, rfl⟩⟩; (try clear A3); refine ⟨_, rfl, ?_⟩))
  go_ret3
  exact ⟨zE, zB⟩

end Go.Proofs.YtdgnekknmpfepaaGreatDoor.P
