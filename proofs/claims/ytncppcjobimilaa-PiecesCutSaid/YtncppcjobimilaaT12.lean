-- Printed by wip/mk.py (this session's driver over the kit's print) and from wip/manual.
import Derived.Test.YtncppcjobimilaaT0
import Derived.Test.YtncppcjobimilaaT10
import Derived.Test.YtncppcjobimilaaT11
namespace Go.Proofs.Ytncppcjobimilaa.P
open Go.RowKit Go.Proofs.YtncppcjobimilaaW.PrintWords Go.Proofs.YtncppcjobimilaaW.PrintLast Go.Proofs.YtncppcjobimilaaW.PrintMore
attribute [local go_sem] max2_int min2_int max_two min_two max_three min_three max_four min_four   -- for this text's walks alone
set_option linter.unusedVariables false
set_option linter.unusedSimpArgs false

/-! ### blanks_Hyphen: function 53 -/
def blanks_Hyphen.f (k : Nat) (l0 : List Int) (a1 : Int) : Option (Bool) := if a1 ≥ 0 then (if a1 < (l0.length : Int) then (if 0 ≤ a1 then (if (rd l0 a1) = 45 then ((blanks_bare.f k l0 a1).bind fun t342 => (some t342)) else (if (rd l0 a1) = 8208 then ((blanks_bare.f k l0 a1).bind fun t344 => (some t344)) else (if (rd l0 a1) = 8722 then ((blanks_bare.f k l0 a1).bind fun t346 => (some t346)) else (some false)))) else (none)) else (some false)) else (some false)
theorem blanks_Hyphen.mono : ∀ a0 a1 k, LeO (blanks_Hyphen.f k a0 a1) (blanks_Hyphen.f (k + 1) a0 a1) := by
 intro a0 a1 k
 unfold blanks_Hyphen.f
 repeat' first
   | (with_reducible exact blanks_bare.mono _ _ _)
   | (with_reducible exact LeO.refl _)
   | exact blanks_bare.mono _ _ _
   | exact LeO.none _
   | refine LeO.ite ?_ ?_
   | refine LeO.bind ?_ (fun _ => ?_)
set_option maxHeartbeats 8000000 in
set_option maxRecDepth 100000 in
theorem blanks_Hyphen.calls (k : Nat) (A0 : Option Addr) (c0 : Nat) (l0 : List Int) (a1 : Int) (r : Bool) (w : World) (hr0 : Kd.C (Kd.int .i32) w A0 l0.length l0) (hc0 : l0.length ≤ c0) (h : blanks_Hyphen.f k l0 a1 = some r) :
  Calls Try.prog 53 #[.slice A0 l0.length c0, .int .i64 a1] w fun e w' => e = .returned (.bool r) ∧ Below w.heap.size w w' := by
 have HR0 := aM hr0
 have HC0 := aM hc0
 clear hr0 hc0
 have HB := aM (Below.refl w.heap.size w)
 have H := h
 clear h
 unfold blanks_Hyphen.f at H
 by_cases c3 : a1 ≥ 0
 ·rw [if_pos c3] at H
  have c3b0 : decide (0 ≤ a1) = true := decide_eq_true c3
  clear c3
  by_cases c4 : a1 < (l0.length : Int)
  ·rw [if_pos c4] at H
   have c4b0 : decide (a1 < (l0.length : Int)) = true := decide_eq_true c4
   clear c4
   by_cases c5 : 0 ≤ a1
   ·rw [if_pos c5] at H
    have c5b0 : decide (0 ≤ a1) = true := decide_eq_true c5
    clear c5
    by_cases c6 : (rd l0 a1) = 45
    ·rw [if_pos c6] at H
     have c6b0 : ((rd l0 a1) == 45) = true := beq_iff_eq.mpr c6
     have c6b1 : ((rd l0 a1) != 45) = false := bne_eq_false_iff_eq.mpr c6
     clear c6
     obtain ⟨t342, A7, H⟩ := zO H
     obtain rfl := sI H
     have p341 : 0 ≤ (a1 : Int) := zoA
     have q341 : a1 < (l0.length : Int) := zoA
     obtain ⟨ad341, e341, hx341_0⟩ := Kd.at_int HR0.out a1 p341 q341
     cases e341
     replace p341 := eq_true p341
     replace q341 := eq_true q341
     go_enter Try.func53, Try.ntmps53
     go_wp2_with (first | (go_at_call 73; (with_reducible refine (blanks_bare.calls k _ _ l0 a1 t342 _ ?side1 ?side2 A7.out).mono ?_); (case side1 => exact zC HR0.out); (case side2 => exact HC0.out); rintro e w8 ⟨rfl, hb⟩; (try clear A7); replace HB := aM (below_step zB hb); (try clear hb)))
     go_ret
     exact ⟨zE, zB⟩
    ·rw [if_neg c6] at H
     have c6b0 : ((rd l0 a1) == 45) = false := beq_eq_false_iff_ne.mpr c6
     have c6b1 : ((rd l0 a1) != 45) = true := bne_iff_ne.mpr c6
     by_cases c9 : (rd l0 a1) = 8208
     ·rw [if_pos c9] at H
      have c9b0 : ((rd l0 a1) == 8208) = true := beq_iff_eq.mpr c9
      have c9b1 : ((rd l0 a1) != 8208) = false := bne_eq_false_iff_eq.mpr c9
      clear c9
      obtain ⟨t344, A10, H⟩ := zO H
      obtain rfl := sI H
      have p341 : 0 ≤ (a1 : Int) := zoA
      have q341 : a1 < (l0.length : Int) := zoA
      obtain ⟨ad341, e341, hx341_0⟩ := Kd.at_int HR0.out a1 p341 q341
      cases e341
      replace p341 := eq_true p341
      replace q341 := eq_true q341
      have p343 : 0 ≤ (a1 : Int) := zoA
      have q343 : a1 < (l0.length : Int) := zoA
      obtain ⟨ad343, e343, hx343_0⟩ := Kd.at_int HR0.out a1 p343 q343
      obtain rfl : ad341 = ad343 := (by injection e343)
      replace p343 := eq_true p343
      replace q343 := eq_true q343
      go_enter Try.func53, Try.ntmps53
      go_wp2_with (first | (go_at_call 73; (with_reducible refine (blanks_bare.calls k _ _ l0 a1 t344 _ ?side1 ?side2 A10.out).mono ?_); (case side1 => exact zC HR0.out); (case side2 => exact HC0.out); rintro e w11 ⟨rfl, hb⟩; (try clear A10); replace HB := aM (below_step zB hb); (try clear hb)))
      go_ret
      exact ⟨zE, zB⟩
     ·rw [if_neg c9] at H
      have c9b0 : ((rd l0 a1) == 8208) = false := beq_eq_false_iff_ne.mpr c9
      have c9b1 : ((rd l0 a1) != 8208) = true := bne_iff_ne.mpr c9
      by_cases c12 : (rd l0 a1) = 8722
      ·rw [if_pos c12] at H
       have c12b0 : ((rd l0 a1) == 8722) = true := beq_iff_eq.mpr c12
       have c12b1 : ((rd l0 a1) != 8722) = false := bne_eq_false_iff_eq.mpr c12
       clear c12
       obtain ⟨t346, A13, H⟩ := zO H
       obtain rfl := sI H
       have p341 : 0 ≤ (a1 : Int) := zoA
       have q341 : a1 < (l0.length : Int) := zoA
       obtain ⟨ad341, e341, hx341_0⟩ := Kd.at_int HR0.out a1 p341 q341
       cases e341
       replace p341 := eq_true p341
       replace q341 := eq_true q341
       have p343 : 0 ≤ (a1 : Int) := zoA
       have q343 : a1 < (l0.length : Int) := zoA
       obtain ⟨ad343, e343, hx343_0⟩ := Kd.at_int HR0.out a1 p343 q343
       obtain rfl : ad341 = ad343 := (by injection e343)
       replace p343 := eq_true p343
       replace q343 := eq_true q343
       have p345 : 0 ≤ (a1 : Int) := zoA
       have q345 : a1 < (l0.length : Int) := zoA
       obtain ⟨ad345, e345, hx345_0⟩ := Kd.at_int HR0.out a1 p345 q345
       obtain rfl : ad341 = ad345 := (by injection e345)
       replace p345 := eq_true p345
       replace q345 := eq_true q345
       go_enter Try.func53, Try.ntmps53
       go_wp2_with (first | (go_at_call 73; (with_reducible refine (blanks_bare.calls k _ _ l0 a1 t346 _ ?side1 ?side2 A13.out).mono ?_); (case side1 => exact zC HR0.out); (case side2 => exact HC0.out); rintro e w14 ⟨rfl, hb⟩; (try clear A13); replace HB := aM (below_step zB hb); (try clear hb)))
       go_ret
       exact ⟨zE, zB⟩
      ·rw [if_neg c12] at H
       have c12b0 : ((rd l0 a1) == 8722) = false := beq_eq_false_iff_ne.mpr c12
       have c12b1 : ((rd l0 a1) != 8722) = true := bne_iff_ne.mpr c12
       obtain rfl := sI H
       have p341 : 0 ≤ (a1 : Int) := zoA
       have q341 : a1 < (l0.length : Int) := zoA
       obtain ⟨ad341, e341, hx341_0⟩ := Kd.at_int HR0.out a1 p341 q341
       cases e341
       replace p341 := eq_true p341
       replace q341 := eq_true q341
       have p343 : 0 ≤ (a1 : Int) := zoA
       have q343 : a1 < (l0.length : Int) := zoA
       obtain ⟨ad343, e343, hx343_0⟩ := Kd.at_int HR0.out a1 p343 q343
       obtain rfl : ad341 = ad343 := (by injection e343)
       replace p343 := eq_true p343
       replace q343 := eq_true q343
       have p345 : 0 ≤ (a1 : Int) := zoA
       have q345 : a1 < (l0.length : Int) := zoA
       obtain ⟨ad345, e345, hx345_0⟩ := Kd.at_int HR0.out a1 p345 q345
       obtain rfl : ad341 = ad345 := (by injection e345)
       replace p345 := eq_true p345
       replace q345 := eq_true q345
       go_enter Try.func53, Try.ntmps53
       go_wp2
       go_ret
       exact ⟨zE, zB⟩
   ·rw [if_neg c5] at H
    exact absurd H (by simp)
  ·rw [if_neg c4] at H
   have c4b0 : decide (a1 < (l0.length : Int)) = false := decide_eq_false c4
   clear c4
   obtain rfl := sI H
   go_enter Try.func53, Try.ntmps53
   go_wp2
   go_ret
   exact ⟨zE, zB⟩
 ·rw [if_neg c3] at H
  have c3b0 : decide (0 ≤ a1) = false := decide_eq_false c3
  clear c3
  obtain rfl := sI H
  go_enter Try.func53, Try.ntmps53
  go_wp2
  go_ret
  exact ⟨zE, zB⟩

/-! ### blanks_Phone_1: function 52 -/
def blanks_Phone_1.f (k : Nat) (l0 : List Int) (a1 : Int) : Option (Bool) := (blanks_Space.f k l0 a1).bind fun t347 => (if t347 = true then (some true) else ((blanks_Hyphen.f k l0 a1).bind fun t348 => (some t348)))
theorem blanks_Phone_1.mono : ∀ a0 a1 k, LeO (blanks_Phone_1.f k a0 a1) (blanks_Phone_1.f (k + 1) a0 a1) := by
 intro a0 a1 k
 unfold blanks_Phone_1.f
 repeat' first
   | (with_reducible exact blanks_Hyphen.mono _ _ _)
   | (with_reducible exact blanks_Space.mono _ _ _)
   | (with_reducible exact LeO.refl _)
   | exact blanks_Hyphen.mono _ _ _
   | exact blanks_Space.mono _ _ _
   | exact LeO.none _
   | refine LeO.ite ?_ ?_
   | refine LeO.bind ?_ (fun _ => ?_)
set_option maxHeartbeats 8000000 in
set_option maxRecDepth 100000 in
theorem blanks_Phone_1.calls (k : Nat) (A0 : Option Addr) (c0 : Nat) (l0 : List Int) (a1 : Int) (r : Bool) (w : World) (hr0 : Kd.C (Kd.int .i32) w A0 l0.length l0) (hc0 : l0.length ≤ c0) (h : blanks_Phone_1.f k l0 a1 = some r) :
  Calls Try.prog 52 #[.slice A0 l0.length c0, .int .i64 a1] w fun e w' => e = .returned (.bool r) ∧ Below w.heap.size w w' := by
 have HR0 := aM hr0
 have HC0 := aM hc0
 clear hr0 hc0
 have HB := aM (Below.refl w.heap.size w)
 have H := h
 clear h
 unfold blanks_Phone_1.f at H
 obtain ⟨t347, A3, H⟩ := zO H
 by_cases c4 : t347 = true
 ·subst c4
  rw [if_pos rfl] at H
  obtain rfl := sI H
  go_enter Try.func52, Try.ntmps52
  go_wp2_with (first | ((with_reducible refine gate_callee (f := 51) rfl ?_); refine goesL_ (some 7) rfl rfl Try.func51 zK rfl #[.slice A0 l0.length c0, .int .i64 a1] rfl zM ?_; (with_reducible refine (blanks_Space.calls k _ _ l0 a1 true _ ?side1 ?side2 A3.out).mono ?_); (case side1 => exact zC HR0.out); (case side2 => exact HC0.out); rintro e w5 ⟨rfl, hb⟩; refine ⟨_, rfl, ?_⟩; replace HB := aM (below_step zB hb); (try clear hb)))
  go_ret
  exact ⟨zE, zB⟩
 ·replace c4 := Bool.eq_false_iff.mpr c4
  subst c4
  rw [if_neg (show ¬ (false = true) by decide)] at H
  obtain ⟨t348, A6, H⟩ := zO H
  obtain rfl := sI H
  go_enter Try.func52, Try.ntmps52
  go_wp2_with (first | ((with_reducible refine gate_callee (f := 51) rfl ?_); refine goesL_ (some 7) rfl rfl Try.func51 zK rfl #[.slice A0 l0.length c0, .int .i64 a1] rfl zM ?_; (with_reducible refine (blanks_Space.calls k _ _ l0 a1 false _ ?side1 ?side2 A3.out).mono ?_); (case side1 => exact zC HR0.out); (case side2 => exact HC0.out); rintro e w7 ⟨rfl, hb⟩; refine ⟨_, rfl, ?_⟩; replace HB := aM (below_step zB hb); (try clear hb)) | (go_at_call 53; (with_reducible refine (blanks_Hyphen.calls k _ _ l0 a1 t348 _ ?side1 ?side2 A6.out).mono ?_); (case side1 => exact zCB HR0); (case side2 => exact HC0.out); rintro e w8 ⟨rfl, hb⟩; replace HB := aM (below_step zB hb); (try clear hb)))
  go_ret
  exact ⟨zE, zB⟩

/-! ### blanks_without_blanks_Phone_1: function 124 -/
def blanks_without_blanks_Phone_1.l0 : Nat → List Int → List Int → List Int → Int → Int → Option (List Int)
 | 0, _, _, _, _, _ => none
 | k + 1, x0, x5, x8, x9, x10 => if x10 < x9 then (if 0 ≤ x10 then (if x10 < (x8.length : Int) then ((blanks_Phone_1.f k x0 x10).bind fun t350 => (if t350 = true then (blanks_without_blanks_Phone_1.l0 k x0 x5 x8 x9 (wrap64 (x10 + 1))) else (if x5.length < 35184372088832 then (blanks_without_blanks_Phone_1.l0 k x0 (x5 ++ [rd x8 x10]) x8 x9 (wrap64 (x10 + 1))) else (none)))) else (none)) else (none)) else (some x5)
def blanks_without_blanks_Phone_1.f (k : Nat) (l0 : List Int) (a1 : Int) : Option (List Int) := blanks_without_blanks_Phone_1.l0 k l0 ([] : List Int) l0 (l0.length : Int) 0
theorem blanks_without_blanks_Phone_1.mono_l : ∀ k, (∀ y0 y1 y2 y3 y4, LeO (blanks_without_blanks_Phone_1.l0 k y0 y1 y2 y3 y4) (blanks_without_blanks_Phone_1.l0 (k + 1) y0 y1 y2 y3 y4))
 | 0 => fun _ _ _ _ _ r h => by simp [blanks_without_blanks_Phone_1.l0] at h
 | k + 1 => by
  have ih0 := blanks_without_blanks_Phone_1.mono_l k
  ·intro y0 y1 y2 y3 y4
   unfold blanks_without_blanks_Phone_1.l0
   repeat' first
   | (with_reducible exact ih0 _ _ _ _ _)
   | (with_reducible exact blanks_Phone_1.mono _ _ _)
   | (with_reducible exact LeO.refl _)
   | exact ih0 _ _ _ _ _
   | exact blanks_Phone_1.mono _ _ _
   | exact LeO.none _
   | refine LeO.ite ?_ ?_
   | refine LeO.bind ?_ (fun _ => ?_)
theorem blanks_without_blanks_Phone_1.mono : ∀ a0 a1 k, LeO (blanks_without_blanks_Phone_1.f k a0 a1) (blanks_without_blanks_Phone_1.f (k + 1) a0 a1) := by
 intro a0 a1 k
 have ih0 := blanks_without_blanks_Phone_1.mono_l k
 unfold blanks_without_blanks_Phone_1.f
 repeat' first
   | (with_reducible exact ih0 _ _ _ _ _)
   | (with_reducible exact blanks_Phone_1.mono _ _ _)
   | (with_reducible exact LeO.refl _)
   | exact ih0 _ _ _ _ _
   | exact blanks_Phone_1.mono _ _ _
   | exact LeO.none _
   | refine LeO.ite ?_ ?_
   | refine LeO.bind ?_ (fun _ => ?_)
set_option maxHeartbeats 8000000 in
set_option maxRecDepth 100000 in
theorem blanks_without_blanks_Phone_1.calls (k : Nat) (A0 : Option Addr) (c0 : Nat) (l0 : List Int) (a1 : Int) (r : List Int) (w : World) (hr0 : Kd.C (Kd.int .i32) w A0 l0.length l0) (hc0 : l0.length ≤ c0) (h : blanks_without_blanks_Phone_1.f k l0 a1 = some r) :
  Calls Try.prog 50 #[.slice A0 l0.length c0, .func (.func 52) #[] #[]] w fun e w' => ∃ v0_ : Value, e = .returned (v0_) ∧ Kd.R (Kd.int .i32) 21 w' w.heap.size (fun _ => True) v0_ r ∧ Below w.heap.size w w' := by
 have HR0 := aM hr0
 have HC0 := aM hc0
 clear hr0 hc0
 have HB := aM (Below.refl w.heap.size w)
 have H := h
 clear h
 unfold blanks_without_blanks_Phone_1.f at H
 have H' := aM H
 clear H
 go_enter Try.func50, Try.ntmps50
 go_wp2
 go_loopg [5, 10] k (fun kq v5 v10 w' => ∃ (x5_1 : List Int) (x10_1 : Int), v10 = .int .i64 x10_1 ∧ Aside0 (blanks_without_blanks_Phone_1.l0 kq l0 x5_1 l0 (l0.length : Int) x10_1 = some r) ∧ Aside0 (kq ≤ k) ∧ Aside0 (Kd.R (Kd.int .i32) 21 w' w.heap.size (fun _ => True) v5 x5_1) ∧ Aside0 (Below w.heap.size w w'))
 case atStart => exact ⟨(([] : List Int)), (0), zP, H', ⟨Nat.le_refl _⟩, ⟨zL⟩, ⟨zB⟩⟩
 case round =>
  clear H'
  try clear c1
  try clear p2
  obtain ⟨x5_1, x10_1, rfl, HA, HK1, HO_5, HB⟩ := hrel
  cases gk with
  | zero => exact absurd HA.out (by simp [blanks_without_blanks_Phone_1.l0])
  | succ k1 =>
   have H := HA.out
   clear HA
   simp only [blanks_without_blanks_Phone_1.l0] at H
   by_cases c3 : x10_1 < (l0.length : Int)
   ·rw [if_pos c3] at H
    have c3b0 : decide (x10_1 < (l0.length : Int)) = true := decide_eq_true c3
    clear c3
    by_cases c4 : 0 ≤ x10_1
    ·rw [if_pos c4] at H
     have c4b0 : decide (0 ≤ x10_1) = true := decide_eq_true c4
     clear c4
     by_cases c5 : x10_1 < (l0.length : Int)
     ·rw [if_pos c5] at H
      have c5b0 : decide (x10_1 < (l0.length : Int)) = true := decide_eq_true c5
      clear c5
      obtain ⟨t350, A6, H⟩ := zO H
      by_cases c7 : t350 = true
      ·subst c7
       rw [if_pos rfl] at H
       have H' := aM H
       clear H
       have p349 : 0 ≤ (x10_1 : Int) := zoA
       have q349 : x10_1 < (l0.length : Int) := zoA
       obtain ⟨ad349, e349, hx349_0⟩ := Kd.at_int HR0.out x10_1 p349 q349
       cases e349
       replace hx349_0 := (HB.out.cell (World.block_lt_of_cell? w _ hx349_0)).trans hx349_0
       replace p349 := eq_true p349
       replace q349 := eq_true q349
       go_wp2_with (first | ((with_reducible refine gate_tmp (x := 15) rfl ?_); refine goesLT_ (some 18) (x := 15) rfl rfl rfl Try.func52 zK rfl #[.slice (some ad349) l0.length c0, .int .i64 x10_1] rfl zM ?_; (with_reducible refine (blanks_Phone_1.calls k1 _ _ l0 x10_1 true _ ?side1 ?side2 A6.out).mono ?_); (case side1 => exact zCB HR0); (case side2 => exact HC0.out); rintro e w8 ⟨rfl, hb⟩; refine ⟨_, rfl, ?_⟩; have n_ := zI (aM (Kd.R_below (zR HO_5) hb)) (aM (below_step zB hb)); clear HO_5 HB; obtain ⟨HO_5, HB⟩ := n_; (try clear hb)))
       go_roundg k1
       case measure => have := HK1.out; omega
       case rel => exact ⟨(x5_1), (wrap64 (x10_1 + 1)), zP, H', ⟨by have := HK1.out; omega⟩, ⟨zR HO_5⟩, ⟨zB⟩⟩
      ·replace c7 := Bool.eq_false_iff.mpr c7
       subst c7
       rw [if_neg (show ¬ (false = true) by decide)] at H
       by_cases c9 : x5_1.length < 35184372088832
       ·rw [if_pos c9] at H
        have LMc9 := aM c9
        clear c9
        obtain ⟨y351, hy351⟩ : ∃ y_ : List Int, y_ = (x5_1 ++ [rd l0 x10_1]) := ⟨_, rfl⟩
        replace H : (blanks_without_blanks_Phone_1.l0 k1 l0 y351 l0 (l0.length : Int) (wrap64 (x10_1 + 1))) = some r := zY hy351 H
        have Ny351 := aM hy351
        clear hy351
        have H' := aM H
        clear H
        have p349 : 0 ≤ (x10_1 : Int) := zoA
        have q349 : x10_1 < (l0.length : Int) := zoA
        obtain ⟨ad349, e349, hx349_0⟩ := Kd.at_int HR0.out x10_1 p349 q349
        cases e349
        replace hx349_0 := (HB.out.cell (World.block_lt_of_cell? w _ hx349_0)).trans hx349_0
        replace p349 := eq_true p349
        replace q349 := eq_true q349
        go_wp2_with (first | ((with_reducible refine gate_tmp (x := 15) rfl ?_); refine goesLT_ (some 18) (x := 15) rfl rfl rfl Try.func52 zK rfl #[.slice (some ad349) l0.length c0, .int .i64 x10_1] rfl zM ?_; (with_reducible refine (blanks_Phone_1.calls k1 _ _ l0 x10_1 false _ ?side1 ?side2 A6.out).mono ?_); (case side1 => exact zCB HR0); (case side2 => exact HC0.out); rintro e w10 ⟨rfl, hb⟩; refine ⟨_, rfl, ?_⟩; have n_ := zI (aM (Kd.R_below (zR HO_5) hb)) (aM (below_step zB hb)); clear HO_5 HB; obtain ⟨HO_5, HB⟩ := n_; (try clear hb); (try clear hk)) | ((with_reducible refine gate_builtin (b := .append) (xs := #[.tmp 20, .tmp 22]) rfl ?_); at_builtin; refine Kd.R_append (Kd.int .i32) (w0 := w) w.heap.size rfl (.tmp 20) (.tmp 22) 54 21 (.int .i32 0) 4 rfl Try.underlying54 info21 rfl (by decide) (by omega) u5 x5_1 (rd l0 x10_1) [.int .i32 (rd l0 x10_1)] (fun _ => True) (fun _ => False) rfl rfl ?aP (fun _ hk => hk.elim) ?aF ?aO ?aB ?aS ?aL ?_; (case aP => exact rfl); (case aB => exact zB); (case aF => exact (fun _ _ => trivial)); (case aO => exact (zR HO_5)); (case aS => exact (below_size zB)); (case aL => have := LMc9.out; omega); intro v352 w11 ho hb hg hat; rw [← Ny351.out] at ho; have n_ := zI (aM (hb)) (aM (ho)); clear HB HO_5; obtain ⟨HB, HO353⟩ := n_; clear ho hb hg hat))
        go_roundg k1
        case measure => have := HK1.out; omega
        case rel => exact ⟨(y351), (wrap64 (x10_1 + 1)), zP, H', ⟨by have := HK1.out; omega⟩, ⟨zR HO353⟩, ⟨zB⟩⟩
       ·rw [if_neg c9] at H
        exact absurd H (by simp)
     ·rw [if_neg c5] at H
      exact absurd H (by simp)
    ·rw [if_neg c4] at H
     exact absurd H (by simp)
   ·rw [if_neg c3] at H
    have c3b0 : decide (x10_1 < (l0.length : Int)) = false := decide_eq_false c3
    clear c3
    obtain rfl := sI H
    go_wp2
    go_ret
    exact ⟨_, zE, zR HO_5, zB⟩

/-! ### blanks_Phone: function 33 -/
def blanks_Phone.f (k : Nat) (l0 : List Int) : Option (List Int) := (blanks_without_blanks_Phone_1.f k l0 7770052).bind fun t354 => (some t354)
theorem blanks_Phone.mono : ∀ a0 k, LeO (blanks_Phone.f k a0) (blanks_Phone.f (k + 1) a0) := by
 intro a0 k
 unfold blanks_Phone.f
 repeat' first
   | (with_reducible exact blanks_without_blanks_Phone_1.mono _ _ _)
   | (with_reducible exact LeO.refl _)
   | exact blanks_without_blanks_Phone_1.mono _ _ _
   | exact LeO.none _
   | refine LeO.ite ?_ ?_
   | refine LeO.bind ?_ (fun _ => ?_)
set_option maxHeartbeats 8000000 in
set_option maxRecDepth 100000 in
theorem blanks_Phone.calls (k : Nat) (A0 : Option Addr) (c0 : Nat) (l0 : List Int) (r : List Int) (w : World) (hr0 : Kd.C (Kd.int .i32) w A0 l0.length l0) (hc0 : l0.length ≤ c0) (h : blanks_Phone.f k l0 = some r) :
  Calls Try.prog 33 #[.slice A0 l0.length c0] w fun e w' => ∃ v0_ : Value, e = .returned (v0_) ∧ Kd.R (Kd.int .i32) 21 w' w.heap.size (fun _ => True) v0_ r ∧ Below w.heap.size w w' := by
 have HR0 := aM hr0
 have HC0 := aM hc0
 clear hr0 hc0
 have HB := aM (Below.refl w.heap.size w)
 have H := h
 clear h
 unfold blanks_Phone.f at H
 obtain ⟨t354, A2, H⟩ := zO H
 obtain rfl := sI H
 go_enter Try.func33, Try.ntmps33
 go_wp2_with (first | ((with_reducible refine gate_callee (f := 50) rfl ?_); refine goesL_ (some 4) rfl rfl Try.func50 zK rfl #[.slice A0 l0.length c0, .func (.func 52) #[] #[]] rfl zM ?_; (with_reducible refine (blanks_without_blanks_Phone_1.calls k _ _ l0 7770052 t354 _ ?side1 ?side2 A2.out).mono ?_); (case side1 => exact zC HR0.out); (case side2 => exact HC0.out); rintro e w3 ⟨v355, rfl, ho0, hb⟩; refine ⟨_, rfl, ?_⟩; have n_ := zI (aM (Kd.R_lower ho0 (below_size zB))) (aM (below_step zB hb)); clear HB; obtain ⟨HO356, HB⟩ := n_; (try clear hb); (try clear ho0)))
 go_ret
 exact ⟨_, zE, zR HO356, zB⟩

/-! ### blanks_edged: function 56 -/
def blanks_edged.f (l0 : List Int) (a1 : Bool) (a2 : Bool) : Option (List Int) := if a1 = true then (if ([] : List Int).length < 35184372088832 then ((some (([] : List Int) ++ [32] : List Int)).bind fun y357 => (if y357.length + l0.length < 35184372088832 then ((some (y357 ++ l0 : List Int)).bind fun y360 => (if a2 = true then (if y360.length < 35184372088832 then (some (y360 ++ [32])) else (none)) else (some y360))) else (none))) else (none)) else (if ([] : List Int).length + l0.length < 35184372088832 then ((some (([] : List Int) ++ l0 : List Int)).bind fun y366 => (if a2 = true then (if y366.length < 35184372088832 then (some (y366 ++ [32])) else (none)) else (some y366))) else (none))
set_option maxHeartbeats 8000000 in
set_option maxRecDepth 100000 in
theorem blanks_edged.calls (A0 : Option Addr) (c0 : Nat) (l0 : List Int) (a1 : Bool) (a2 : Bool) (r : List Int) (w : World) (hr0 : Kd.C (Kd.int .i32) w A0 l0.length l0) (hc0 : l0.length ≤ c0) (h : blanks_edged.f l0 a1 a2 = some r) :
  Calls Try.prog 56 #[.slice A0 l0.length c0, .bool a1, .bool a2] w fun e w' => ∃ v0_ : Value, e = .returned (v0_) ∧ Kd.R (Kd.int .i32) 21 w' w.heap.size (fun _ => True) v0_ r ∧ Below w.heap.size w w' := by
 have HR0 := aM hr0
 have HC0 := aM hc0
 clear hr0 hc0
 have HB := aM (Below.refl w.heap.size w)
 have H := h
 clear h
 unfold blanks_edged.f at H
 by_cases c4 : a1 = true
 ·subst c4
  rw [if_pos rfl] at H
  by_cases c5 : ([] : List Int).length < 35184372088832
  ·rw [if_pos c5] at H
   have LMc5 := aM c5
   clear c5
   obtain ⟨y357, hy357⟩ : ∃ y_ : List Int, y_ = (([] : List Int) ++ [32]) := ⟨_, rfl⟩
   replace H : (if y357.length + l0.length < 35184372088832 then ((some (y357 ++ l0 : List Int)).bind fun y360 => (if a2 = true then (if y360.length < 35184372088832 then (some (y360 ++ [32])) else (none)) else (some y360))) else (none)) = some r := zY hy357 H
   have Ny357 := aM hy357
   clear hy357
   by_cases c6 : y357.length + l0.length < 35184372088832
   ·rw [if_pos c6] at H
    have LMc6 := aM c6
    clear c6
    obtain ⟨y360, hy360⟩ : ∃ y_ : List Int, y_ = (y357 ++ l0) := ⟨_, rfl⟩
    replace H : (if a2 = true then (if y360.length < 35184372088832 then (some (y360 ++ [32])) else (none)) else (some y360)) = some r := zY hy360 H
    have Ny360 := aM hy360
    clear hy360
    by_cases c7 : a2 = true
    ·subst c7
     rw [if_pos rfl] at H
     by_cases c8 : y360.length < 35184372088832
     ·rw [if_pos c8] at H
      have LMc8 := aM c8
      clear c8
      obtain ⟨y363, hy363⟩ : ∃ y_ : List Int, y_ = (y360 ++ [32]) := ⟨_, rfl⟩
      replace H : (some y363) = some r := zY hy363 H
      have Ny363 := aM hy363
      clear hy363
      obtain rfl := sI H
      go_enter Try.func56, Try.ntmps56
      go_wp2_with (first | ((with_reducible refine gate_builtin (b := .append) (xs := #[.tmp 9, .tmp 10]) rfl ?_); at_builtin; refine Kd.R_append (Kd.int .i32) (w0 := w) w.heap.size rfl (.tmp 9) (.tmp 10) 54 21 (.int .i32 0) 4 rfl Try.underlying54 info21 rfl (by decide) (by omega) (.slice none 0 0) ([] : List Int) 32 [.int .i32 32] (fun _ => True) (fun _ => False) rfl rfl ?aP (fun _ hk => hk.elim) ?aF ?aO ?aB ?aS ?aL ?_; (case aP => exact rfl); (case aB => exact zB); (case aF => exact (fun _ _ => trivial)); (case aO => exact ((Kd.R_nil _ _ _ _ (fun _ => True)))); (case aS => exact (below_size zB)); (case aL => have := LMc5.out; omega); intro v358 w9 ho hb hg hat; rw [← Ny357.out] at ho; have n_ := zI (aM (hb)) (aM (ho)); clear HB; obtain ⟨HB, HO359⟩ := n_; clear ho hb hg hat) | ((with_reducible refine gate_builtin (b := .append) (xs := #[.tmp 12, .tmp 13]) rfl ?_); at_builtin; refine Kd.R_append_rows (Kd.int .i32) (w0 := w) w.heap.size rfl (.tmp 12) (.tmp 13) 54 21 (.int .i32 0) 4 rfl Try.underlying54 info21 rfl (by decide) (by omega) v358 y357 l0 _ _ _ (fun _ => True) (fun _ => False) rfl rfl ?aO ?aR (fun _ _ h => h) (fun _ h => h.elim) ?aF ?aB ?aS ?aL ?_; (case aR => repeat (first | exact (Kd.C_below HR0.out HB.out) | (with_reducible refine Kd.C_alloc ?_ _) | (with_reducible refine Kd.C_drewN ?_ _) | (with_reducible refine Kd.C_drew ?_))); (case aB => exact zB); (case aF => exact (fun _ _ => trivial)); (case aO => exact (zR HO359)); (case aS => exact (below_size zB)); (case aL => have := LMc6.out; omega); intro v361 w10 ho hb hg hat; rw [← Ny360.out] at ho; have n_ := zI (aM (hb)) (aM (ho)); clear HB HO359; obtain ⟨HB, HO362⟩ := n_; clear ho hb hg hat) | ((with_reducible refine gate_builtin (b := .append) (xs := #[.tmp 16, .tmp 17]) rfl ?_); at_builtin; refine Kd.R_append (Kd.int .i32) (w0 := w) w.heap.size rfl (.tmp 16) (.tmp 17) 54 21 (.int .i32 0) 4 rfl Try.underlying54 info21 rfl (by decide) (by omega) v361 y360 32 [.int .i32 32] (fun _ => True) (fun _ => False) rfl rfl ?aP (fun _ hk => hk.elim) ?aF ?aO ?aB ?aS ?aL ?_; (case aP => exact rfl); (case aB => exact zB); (case aF => exact (fun _ _ => trivial)); (case aO => exact (zR HO362)); (case aS => exact (below_size zB)); (case aL => have := LMc8.out; omega); intro v364 w11 ho hb hg hat; rw [← Ny363.out] at ho; have n_ := zI (aM (hb)) (aM (ho)); clear HB HO362; obtain ⟨HB, HO365⟩ := n_; clear ho hb hg hat))
      go_ret
      exact ⟨_, zE, zR HO365, zB⟩
     ·rw [if_neg c8] at H
      exact absurd H (by simp)
    ·replace c7 := Bool.eq_false_iff.mpr c7
     subst c7
     rw [if_neg (show ¬ (false = true) by decide)] at H
     obtain rfl := sI H
     go_enter Try.func56, Try.ntmps56
     go_wp2_with (first | ((with_reducible refine gate_builtin (b := .append) (xs := #[.tmp 9, .tmp 10]) rfl ?_); at_builtin; refine Kd.R_append (Kd.int .i32) (w0 := w) w.heap.size rfl (.tmp 9) (.tmp 10) 54 21 (.int .i32 0) 4 rfl Try.underlying54 info21 rfl (by decide) (by omega) (.slice none 0 0) ([] : List Int) 32 [.int .i32 32] (fun _ => True) (fun _ => False) rfl rfl ?aP (fun _ hk => hk.elim) ?aF ?aO ?aB ?aS ?aL ?_; (case aP => exact rfl); (case aB => exact zB); (case aF => exact (fun _ _ => trivial)); (case aO => exact ((Kd.R_nil _ _ _ _ (fun _ => True)))); (case aS => exact (below_size zB)); (case aL => have := LMc5.out; omega); intro v358 w12 ho hb hg hat; rw [← Ny357.out] at ho; have n_ := zI (aM (hb)) (aM (ho)); clear HB; obtain ⟨HB, HO359⟩ := n_; clear ho hb hg hat) | ((with_reducible refine gate_builtin (b := .append) (xs := #[.tmp 12, .tmp 13]) rfl ?_); at_builtin; refine Kd.R_append_rows (Kd.int .i32) (w0 := w) w.heap.size rfl (.tmp 12) (.tmp 13) 54 21 (.int .i32 0) 4 rfl Try.underlying54 info21 rfl (by decide) (by omega) v358 y357 l0 _ _ _ (fun _ => True) (fun _ => False) rfl rfl ?aO ?aR (fun _ _ h => h) (fun _ h => h.elim) ?aF ?aB ?aS ?aL ?_; (case aR => repeat (first | exact (Kd.C_below HR0.out HB.out) | (with_reducible refine Kd.C_alloc ?_ _) | (with_reducible refine Kd.C_drewN ?_ _) | (with_reducible refine Kd.C_drew ?_))); (case aB => exact zB); (case aF => exact (fun _ _ => trivial)); (case aO => exact (zR HO359)); (case aS => exact (below_size zB)); (case aL => have := LMc6.out; omega); intro v361 w13 ho hb hg hat; rw [← Ny360.out] at ho; have n_ := zI (aM (hb)) (aM (ho)); clear HB HO359; obtain ⟨HB, HO362⟩ := n_; clear ho hb hg hat))
     go_ret
     exact ⟨_, zE, zR HO362, zB⟩
   ·rw [if_neg c6] at H
    exact absurd H (by simp)
  ·rw [if_neg c5] at H
   exact absurd H (by simp)
 ·replace c4 := Bool.eq_false_iff.mpr c4
  subst c4
  rw [if_neg (show ¬ (false = true) by decide)] at H
  by_cases c14 : ([] : List Int).length + l0.length < 35184372088832
  ·rw [if_pos c14] at H
   have LMc14 := aM c14
   clear c14
   obtain ⟨y366, hy366⟩ : ∃ y_ : List Int, y_ = (([] : List Int) ++ l0) := ⟨_, rfl⟩
   replace H : (if a2 = true then (if y366.length < 35184372088832 then (some (y366 ++ [32])) else (none)) else (some y366)) = some r := zY hy366 H
   have Ny366 := aM hy366
   clear hy366
   by_cases c15 : a2 = true
   ·subst c15
    rw [if_pos rfl] at H
    by_cases c16 : y366.length < 35184372088832
    ·rw [if_pos c16] at H
     have LMc16 := aM c16
     clear c16
     obtain ⟨y369, hy369⟩ : ∃ y_ : List Int, y_ = (y366 ++ [32]) := ⟨_, rfl⟩
     replace H : (some y369) = some r := zY hy369 H
     have Ny369 := aM hy369
     clear hy369
     obtain rfl := sI H
     go_enter Try.func56, Try.ntmps56
     go_wp2_with (first | ((with_reducible refine gate_builtin (b := .append) (xs := #[.tmp 12, .tmp 13]) rfl ?_); at_builtin; refine Kd.R_append_rows (Kd.int .i32) (w0 := w) w.heap.size rfl (.tmp 12) (.tmp 13) 54 21 (.int .i32 0) 4 rfl Try.underlying54 info21 rfl (by decide) (by omega) (.slice none 0 0) ([] : List Int) l0 _ _ _ (fun _ => True) (fun _ => False) rfl rfl ?aO ?aR (fun _ _ h => h) (fun _ h => h.elim) ?aF ?aB ?aS ?aL ?_; (case aR => repeat (first | exact HR0.out | (with_reducible refine Kd.C_alloc ?_ _) | (with_reducible refine Kd.C_drewN ?_ _) | (with_reducible refine Kd.C_drew ?_))); (case aB => exact zB); (case aF => exact (fun _ _ => trivial)); (case aO => exact ((Kd.R_nil _ _ _ _ (fun _ => True)))); (case aS => exact (below_size zB)); (case aL => have := LMc14.out; omega); intro v367 w17 ho hb hg hat; rw [← Ny366.out] at ho; have n_ := zI (aM (hb)) (aM (ho)); clear HB; obtain ⟨HB, HO368⟩ := n_; clear ho hb hg hat) | ((with_reducible refine gate_builtin (b := .append) (xs := #[.tmp 16, .tmp 17]) rfl ?_); at_builtin; refine Kd.R_append (Kd.int .i32) (w0 := w) w.heap.size rfl (.tmp 16) (.tmp 17) 54 21 (.int .i32 0) 4 rfl Try.underlying54 info21 rfl (by decide) (by omega) v367 y366 32 [.int .i32 32] (fun _ => True) (fun _ => False) rfl rfl ?aP (fun _ hk => hk.elim) ?aF ?aO ?aB ?aS ?aL ?_; (case aP => exact rfl); (case aB => exact zB); (case aF => exact (fun _ _ => trivial)); (case aO => exact (zR HO368)); (case aS => exact (below_size zB)); (case aL => have := LMc16.out; omega); intro v370 w18 ho hb hg hat; rw [← Ny369.out] at ho; have n_ := zI (aM (hb)) (aM (ho)); clear HB HO368; obtain ⟨HB, HO371⟩ := n_; clear ho hb hg hat))
     go_ret
     exact ⟨_, zE, zR HO371, zB⟩
    ·rw [if_neg c16] at H
     exact absurd H (by simp)
   ·replace c15 := Bool.eq_false_iff.mpr c15
    subst c15
    rw [if_neg (show ¬ (false = true) by decide)] at H
    obtain rfl := sI H
    go_enter Try.func56, Try.ntmps56
    go_wp2_with (first | ((with_reducible refine gate_builtin (b := .append) (xs := #[.tmp 12, .tmp 13]) rfl ?_); at_builtin; refine Kd.R_append_rows (Kd.int .i32) (w0 := w) w.heap.size rfl (.tmp 12) (.tmp 13) 54 21 (.int .i32 0) 4 rfl Try.underlying54 info21 rfl (by decide) (by omega) (.slice none 0 0) ([] : List Int) l0 _ _ _ (fun _ => True) (fun _ => False) rfl rfl ?aO ?aR (fun _ _ h => h) (fun _ h => h.elim) ?aF ?aB ?aS ?aL ?_; (case aR => repeat (first | exact HR0.out | (with_reducible refine Kd.C_alloc ?_ _) | (with_reducible refine Kd.C_drewN ?_ _) | (with_reducible refine Kd.C_drew ?_))); (case aB => exact zB); (case aF => exact (fun _ _ => trivial)); (case aO => exact ((Kd.R_nil _ _ _ _ (fun _ => True)))); (case aS => exact (below_size zB)); (case aL => have := LMc14.out; omega); intro v367 w19 ho hb hg hat; rw [← Ny366.out] at ho; have n_ := zI (aM (hb)) (aM (ho)); clear HB; obtain ⟨HB, HO368⟩ := n_; clear ho hb hg hat))
    go_ret
    exact ⟨_, zE, zR HO368, zB⟩
  ·rw [if_neg c14] at H
   exact absurd H (by simp)

/-! ### blanks_firm: function 54 -/
def blanks_firm.f (k : Nat) (l0 : List Int) : Option (List Int) := if (l0.length : Int) > 0 then (if 0 < (l0.length : Int) then ((chars_Is.f k (rd l0 0) (([3] : List Int))).bind fun t376 => (if t376 = true then ((blanks_edged.f l0 true false).bind fun t377 => (some t377)) else (some l0))) else (none)) else (some l0)
theorem blanks_firm.mono : ∀ a0 k, LeO (blanks_firm.f k a0) (blanks_firm.f (k + 1) a0) := by
 intro a0 k
 unfold blanks_firm.f
 repeat' first
   | (with_reducible exact chars_Is.mono _ _ _)
   | (with_reducible exact LeO.refl _)
   | exact chars_Is.mono _ _ _
   | exact LeO.none _
   | refine LeO.ite ?_ ?_
   | refine LeO.bind ?_ (fun _ => ?_)
set_option maxHeartbeats 8000000 in
set_option maxRecDepth 100000 in
theorem blanks_firm.calls (k : Nat) (P0_ : Nat → Prop) (A0 : Option Addr) (c0 : Nat) (l0 : List Int) (r : List Int) (w : World) (hs0 : Kd.V (Kd.int .i32) 21 w w.heap.size (fun k_ => P0_ k_) (.slice A0 l0.length c0) l0) (h : blanks_firm.f k l0 = some r) :
  Calls Try.prog 54 #[.slice A0 l0.length c0] w fun e w' => ∃ v0_ : Value, e = .returned (v0_) ∧ Kd.V (Kd.int .i32) 21 w' w.heap.size (fun k_ => (P0_ k_ ∨ w.heap.size ≤ k_)) v0_ r ∧ Below w.heap.size w w' := by
 have HO0 := aM (show Kd.V (Kd.int .i32) 21 w w.heap.size (fun k_ => (P0_ k_ ∨ w.heap.size ≤ k_)) (.slice A0 l0.length c0) l0 from Kd.V_mono hs0 (fun k_ hk => .inl hk))
 have HB := aM (Below.refl w.heap.size w)
 have H := h
 clear h
 unfold blanks_firm.f at H
 by_cases c2 : (l0.length : Int) > 0
 ·rw [if_pos c2] at H
  have c2b0 : decide (0 < (l0.length : Int)) = true := decide_eq_true c2
  have c2b1 : decide (0 < l0.length) = true := decide_eq_true (by omega)
  clear c2
  by_cases c3 : 0 < (l0.length : Int)
  ·rw [if_pos c3] at H
   have c3b0 : decide (0 < (l0.length : Int)) = true := decide_eq_true c3
   have c3b1 : decide (0 < l0.length) = true := decide_eq_true (by omega)
   clear c3
   obtain ⟨y373, hy373⟩ : ∃ y_ : List Int, y_ = (([3] : List Int)) := ⟨_, rfl⟩
   replace H : ((chars_Is.f k (rd l0 0) y373).bind fun t376 => (if t376 = true then ((blanks_edged.f l0 true false).bind fun t377 => (some t377)) else (some l0))) = some r := zY hy373 H
   have Ny373 := aM hy373
   clear hy373
   obtain ⟨t376, A4, H⟩ := zO H
   by_cases c5 : t376 = true
   ·subst c5
    rw [if_pos rfl] at H
    obtain ⟨t377, A6, H⟩ := zO H
    obtain rfl := sI H
    have p372 : 0 ≤ (0 : Int) := (by omega)
    have q372 : 0 < (l0.length : Int) := zoA
    obtain ⟨ad372, e372, hx372_0⟩ := Kd.at_int (Kd.V_reads' HO0.out).2.2 0 p372 q372
    cases e372
    have qi372 : (0 < l0.length) = True := eq_true (by omega)
    (try rw [show ((0 : Int)).toNat = 0 from rfl] at hx372_0)
    (try rw [Addr.add_zero'] at hx372_0)
    replace p372 := eq_true p372
    replace q372 := eq_true q372
    go_enter Try.func54, Try.ntmps54
    go_wp2_with (first | ((with_reducible refine gate_dst (N := 10) rfl ?_); (try (refine gate_guard (by rfl) ?_; dsimp only)); refine Kd.R_lit (Kd.int .i64) _ 3 ?hg (N := 10) ?hd (xs := ([3] : List Int)) (inner := [.int .i64 3]) (ok := fun _ => True) (okp := fun _ => True) ?hr ?hp (fun _ hk => hk) trivial (Below.refl _ _) (Nat.le_refl _) (by simp) ?_; (case hd => rfl); (case hg => rfl); (case hr => first | (go_simp; done) | (go_simp; rfl)); (case hp => exact (Reps.one (show Kd.M (Kd.int .i64) _ _ _ 3 [.int .i64 3] from rfl) (Reps.none _ _))); intro v374 w7 ho8 hb hg_ hnew_; clear hg_ hnew_; (first | rw [← Ny373.out] at ho8 | (simp only [Int.reduceToNat] at ho8; rw [← Ny373.out] at ho8)); have n_ := zI (aM (Kd.V_elder' (zV HO0) (Kd.R_base ho8) hb)) (zI (aM (Kd.R_lower (Kd.R_newM (M := fun k_ => (w.heap.size ≤ k_)) ho8 (below_size zB) (fun k_ h_ => h_)) (below_size zB))) (aM (below_step zB hb))); clear HO0 HB; obtain ⟨HO0, HO375, HB⟩ := n_; clear hb ho8; obtain ⟨Ao9, co9, rfl⟩ := Kd.R_slice HO375.out) | (go_at_call 46; (with_reducible refine (chars_Is.calls k (rd l0 0) _ _ y373 true _ ?side1 ?side2 A4.out).mono ?_); (case side1 => exact zC (Kd.R_reads' HO375.out).2.2); (case side2 => exact (Kd.R_reads' HO375.out).2.1); rintro e w' ⟨rfl, ⟨nd, rfl⟩⟩) | ((with_reducible refine gate_callee (f := 56) rfl ?_); refine goesL_ (some 14) rfl rfl Try.func56 zK rfl #[.slice (some ad372) l0.length c0, .bool true, .bool false] rfl zM ?_; (with_reducible refine (blanks_edged.calls _ _ l0 true false t377 _ ?side1 ?side2 A6.out).mono ?_); (case side1 => exact zC (Kd.V_reads' HO0.out).2.2); (case side2 => exact (Kd.V_reads' HO0.out).2.1); rintro e w10 ⟨v378, rfl, ho0, hb⟩; refine ⟨_, rfl, ?_⟩; have n_ := zI (aM (Kd.V_elder' (zV HO0) (Kd.R_base ho0) hb)) (zI (aM (Kd.R_below (zR HO375) hb)) (zI (aM (Kd.R_lower (Kd.R_newM (M := fun k_ => (w.heap.size ≤ k_)) ho0 (below_size zB) (fun k_ h_ => h_)) (below_size zB))) (aM (below_step zB hb)))); clear HO0 HO375 HB; obtain ⟨HO0, HO375, HO379, HB⟩ := n_; (try clear hb); (try clear hk); (try clear ho0)))
    go_ret
    exact ⟨_, zE, Kd.V_mono (Kd.R_V (by (with_reducible repeat (first | apply Kd.R_alloc | apply Kd.R_drewN | apply Kd.R_drew)); exact Kd.R_mono HO379.out (fun _ hk => hk.1))) (fun k_ hk => by first | exact ⟨(.inr (hk.1)), hk.2⟩ | exact (.inr (hk))), zB⟩
   ·replace c5 := Bool.eq_false_iff.mpr c5
    subst c5
    rw [if_neg (show ¬ (false = true) by decide)] at H
    obtain rfl := sI H
    have p372 : 0 ≤ (0 : Int) := (by omega)
    have q372 : 0 < (l0.length : Int) := zoA
    obtain ⟨ad372, e372, hx372_0⟩ := Kd.at_int (Kd.V_reads' HO0.out).2.2 0 p372 q372
    cases e372
    have qi372 : (0 < l0.length) = True := eq_true (by omega)
    (try rw [show ((0 : Int)).toNat = 0 from rfl] at hx372_0)
    (try rw [Addr.add_zero'] at hx372_0)
    replace p372 := eq_true p372
    replace q372 := eq_true q372
    go_enter Try.func54, Try.ntmps54
    go_wp2_with (first | ((with_reducible refine gate_dst (N := 10) rfl ?_); (try (refine gate_guard (by rfl) ?_; dsimp only)); refine Kd.R_lit (Kd.int .i64) _ 3 ?hg (N := 10) ?hd (xs := ([3] : List Int)) (inner := [.int .i64 3]) (ok := fun _ => True) (okp := fun _ => True) ?hr ?hp (fun _ hk => hk) trivial (Below.refl _ _) (Nat.le_refl _) (by simp) ?_; (case hd => rfl); (case hg => rfl); (case hr => first | (go_simp; done) | (go_simp; rfl)); (case hp => exact (Reps.one (show Kd.M (Kd.int .i64) _ _ _ 3 [.int .i64 3] from rfl) (Reps.none _ _))); intro v374 w11 ho12 hb hg_ hnew_; clear hg_ hnew_; (first | rw [← Ny373.out] at ho12 | (simp only [Int.reduceToNat] at ho12; rw [← Ny373.out] at ho12)); have n_ := zI (aM (Kd.V_elder' (zV HO0) (Kd.R_base ho12) hb)) (zI (aM (Kd.R_lower (Kd.R_newM (M := fun k_ => (w.heap.size ≤ k_)) ho12 (below_size zB) (fun k_ h_ => h_)) (below_size zB))) (aM (below_step zB hb))); clear HO0 HB; obtain ⟨HO0, HO375, HB⟩ := n_; clear hb ho12; obtain ⟨Ao13, co13, rfl⟩ := Kd.R_slice HO375.out) | (go_at_call 46; (with_reducible refine (chars_Is.calls k (rd l0 0) _ _ y373 false _ ?side1 ?side2 A4.out).mono ?_); (case side1 => exact zC (Kd.R_reads' HO375.out).2.2); (case side2 => exact (Kd.R_reads' HO375.out).2.1); rintro e w' ⟨rfl, ⟨nd, rfl⟩⟩))
    go_ret
    exact ⟨_, zE, by (with_reducible repeat (first | apply Kd.V_alloc | apply Kd.V_drewN | apply Kd.V_drew)); exact Kd.V_mono HO0.out (fun _ hk => hk.1), zB⟩
  ·rw [if_neg c3] at H
   exact absurd H (by simp)
 ·rw [if_neg c2] at H
  have c2b0 : decide (0 < (l0.length : Int)) = false := decide_eq_false c2
  have c2b1 : decide (0 < l0.length) = false := decide_eq_false (by omega)
  clear c2
  obtain rfl := sI H
  go_enter Try.func54, Try.ntmps54
  go_wp2
  go_ret
  exact ⟨_, zE, zV HO0, zB⟩

/-! ### blanks_words: function 55 -/
mutual
def blanks_words.l0 : Nat → List Int → List (List Int) → Int → Option ((List (List Int)))
 | 0, _, _, _ => none
 | k + 1, x0, x3, x4 => blanks_words.l1 k x0 x3 x4
def blanks_words.l1 : Nat → List Int → List (List Int) → Int → Option ((List (List Int)))
 | 0, _, _, _ => none
 | k + 1, x0, x3, x4 => (blanks_Space.f k x0 x4).bind fun t380 => (if t380 = true then (blanks_words.l1 k x0 x3 (wrap64 (x4 + 1))) else (if x4 = (x0.length : Int) then (some x3) else (blanks_words.l2 k x0 x3 x4 x4)))
def blanks_words.l2 : Nat → List Int → List (List Int) → Int → Int → Option ((List (List Int)))
 | 0, _, _, _, _ => none
 | k + 1, x0, x3, x4, x5 => if x4 < (x0.length : Int) then ((blanks_Space.f k x0 x4).bind fun t381 => (if t381 = true then (if 0 ≤ x5 then (if x5 ≤ x4 then (if x4 ≤ (x0.length : Int) then (if x3.length < 5864062014805 then (blanks_words.l0 k x0 (x3 ++ [((x0.take (x4 : Int).toNat).drop (x5 : Int).toNat)]) x4) else (none)) else (none)) else (none)) else (none)) else (blanks_words.l2 k x0 x3 (wrap64 (x4 + 1)) x5))) else (if 0 ≤ x5 then (if x5 ≤ x4 then (if x4 ≤ (x0.length : Int) then (if x3.length < 5864062014805 then (blanks_words.l0 k x0 (x3 ++ [((x0.take (x4 : Int).toNat).drop (x5 : Int).toNat)]) x4) else (none)) else (none)) else (none)) else (none))
end
def blanks_words.f (k : Nat) (l0 : List Int) : Option ((List (List Int))) := blanks_words.l0 k l0 ([] : List (List Int)) 0
theorem blanks_words.mono_l : ∀ k, (∀ y0 y1 y2, LeO (blanks_words.l0 k y0 y1 y2) (blanks_words.l0 (k + 1) y0 y1 y2)) ∧ (∀ y0 y1 y2, LeO (blanks_words.l1 k y0 y1 y2) (blanks_words.l1 (k + 1) y0 y1 y2)) ∧ (∀ y0 y1 y2 y3, LeO (blanks_words.l2 k y0 y1 y2 y3) (blanks_words.l2 (k + 1) y0 y1 y2 y3))
 | 0 => ⟨fun _ _ _ r h => by simp [blanks_words.l0] at h, fun _ _ _ r h => by simp [blanks_words.l1] at h, fun _ _ _ _ r h => by simp [blanks_words.l2] at h⟩
 | k + 1 => by
  obtain ⟨ih0, ih1, ih2⟩ := blanks_words.mono_l k
  refine ⟨?_, ?_, ?_⟩
  ·intro y0 y1 y2
   unfold blanks_words.l0
   repeat' first
   | (with_reducible exact ih0 _ _ _)
   | (with_reducible exact ih1 _ _ _)
   | (with_reducible exact ih2 _ _ _ _)
   | (with_reducible exact blanks_Space.mono _ _ _)
   | (with_reducible exact LeO.refl _)
   | exact ih0 _ _ _
   | exact ih1 _ _ _
   | exact ih2 _ _ _ _
   | exact blanks_Space.mono _ _ _
   | exact LeO.none _
   | refine LeO.ite ?_ ?_
   | refine LeO.bind ?_ (fun _ => ?_)
  ·intro y0 y1 y2
   unfold blanks_words.l1
   repeat' first
   | (with_reducible exact ih0 _ _ _)
   | (with_reducible exact ih1 _ _ _)
   | (with_reducible exact ih2 _ _ _ _)
   | (with_reducible exact blanks_Space.mono _ _ _)
   | (with_reducible exact LeO.refl _)
   | exact ih0 _ _ _
   | exact ih1 _ _ _
   | exact ih2 _ _ _ _
   | exact blanks_Space.mono _ _ _
   | exact LeO.none _
   | refine LeO.ite ?_ ?_
   | refine LeO.bind ?_ (fun _ => ?_)
  ·intro y0 y1 y2 y3
   unfold blanks_words.l2
   repeat' first
   | (with_reducible exact ih0 _ _ _)
   | (with_reducible exact ih1 _ _ _)
   | (with_reducible exact ih2 _ _ _ _)
   | (with_reducible exact blanks_Space.mono _ _ _)
   | (with_reducible exact LeO.refl _)
   | exact ih0 _ _ _
   | exact ih1 _ _ _
   | exact ih2 _ _ _ _
   | exact blanks_Space.mono _ _ _
   | exact LeO.none _
   | refine LeO.ite ?_ ?_
   | refine LeO.bind ?_ (fun _ => ?_)
theorem blanks_words.mono : ∀ a0 k, LeO (blanks_words.f k a0) (blanks_words.f (k + 1) a0) := by
 intro a0 k
 obtain ⟨ih0, ih1, ih2⟩ := blanks_words.mono_l k
 unfold blanks_words.f
 repeat' first
   | (with_reducible exact ih0 _ _ _)
   | (with_reducible exact ih1 _ _ _)
   | (with_reducible exact ih2 _ _ _ _)
   | (with_reducible exact blanks_Space.mono _ _ _)
   | (with_reducible exact LeO.refl _)
   | exact ih0 _ _ _
   | exact ih1 _ _ _
   | exact ih2 _ _ _ _
   | exact blanks_Space.mono _ _ _
   | exact LeO.none _
   | refine LeO.ite ?_ ?_
   | refine LeO.bind ?_ (fun _ => ?_)
set_option maxHeartbeats 8000000 in
set_option maxRecDepth 100000 in
theorem blanks_words.calls (k : Nat) (P0_ : Nat → Prop) (A0 : Option Addr) (c0 : Nat) (l0 : List Int) (r : List (List Int)) (w : World) (hs0 : Kd.V (Kd.int .i32) 21 w w.heap.size (fun k_ => P0_ k_) (.slice A0 l0.length c0) l0) (h : blanks_words.f k l0 = some r) :
  Calls Try.prog 55 #[.slice A0 l0.length c0] w fun e w' => ∃ v0_ : Value, e = .returned (v0_) ∧ Kd.N (Kd.slice 21 (Kd.int .i32)) 54 w' w.heap.size (fun k_ => (P0_ k_ ∨ w.heap.size ≤ k_)) v0_ r ∧ Below w.heap.size w w' := by
 have HO0 := aM (show Kd.V (Kd.int .i32) 21 w w.heap.size (fun k_ => (P0_ k_ ∨ w.heap.size ≤ k_)) (.slice A0 l0.length c0) l0 from Kd.V_mono hs0 (fun k_ hk => .inl hk))
 have HB := aM (Below.refl w.heap.size w)
 have H := h
 clear h
 unfold blanks_words.f at H
 have H' := aM H
 clear H
 go_enter Try.func55, Try.ntmps55
 go_wp2
 refine wp_scope_back 0 rfl ?_
 go_wp2
 go_step3
 (try simp only [Exit.then])
 go_step
 refine wp_back_ghost (fun a0 kq a' w' => ∃ (u2 u3 u4 u5 u6 u7 u8 u9 u10 u11 u12 u13 u14 u15 u16 u17 u18 u19 u20 u21 u22 u23 u24 u25 u26 u27 u28 u29 u30 u31 u32 u33 u34 u35 : Value), (∃ (x3_1 : List (List Int)) (x4_1 : Int), u4 = .int .i64 x4_1 ∧ Aside0 (blanks_words.l0 kq l0 x3_1 x4_1 = some r) ∧ Aside0 (kq ≤ k) ∧ Aside0 (Kd.V (Kd.int .i32) 21 w' w.heap.size (fun k_ => (P0_ k_ ∨ w.heap.size ≤ k_) ∧ some k_ ≠ (u3 : Value).ownBlock) (.slice A0 l0.length c0) l0) ∧ Aside0 (Kd.N (Kd.slice 21 (Kd.int .i32)) 54 w' w.heap.size (fun k_ => (P0_ k_ ∨ w.heap.size ≤ k_)) u3 x3_1) ∧ Aside0 (Below w.heap.size w w')) ∧ a' = ⟨((((((((((((((((((((((((((((((((((a0.tmps.setIfInBounds 2 u2).setIfInBounds 3 u3).setIfInBounds 4 u4).setIfInBounds 5 u5).setIfInBounds 6 u6).setIfInBounds 7 u7).setIfInBounds 8 u8).setIfInBounds 9 u9).setIfInBounds 10 u10).setIfInBounds 11 u11).setIfInBounds 12 u12).setIfInBounds 13 u13).setIfInBounds 14 u14).setIfInBounds 15 u15).setIfInBounds 16 u16).setIfInBounds 17 u17).setIfInBounds 18 u18).setIfInBounds 19 u19).setIfInBounds 20 u20).setIfInBounds 21 u21).setIfInBounds 22 u22).setIfInBounds 23 u23).setIfInBounds 24 u24).setIfInBounds 25 u25).setIfInBounds 26 u26).setIfInBounds 27 u27).setIfInBounds 28 u28).setIfInBounds 29 u29).setIfInBounds 30 u30).setIfInBounds 31 u31).setIfInBounds 32 u32).setIfInBounds 33 u33).setIfInBounds 34 u34).setIfInBounds 35 u35), a0.defers⟩) k ?atStart ?round
 case' atStart => (repeat apply Exists.intro); refine ⟨?_, ?_⟩; rotate_left; (try simp only [List.setIfInBounds_toArray, List.set_cons_zero, List.set_cons_succ]); exact rfl
 case' round => intro gk _ wr hinv; obtain ⟨u2, u3, u4, u5, u6, u7, u8, u9, u10, u11, u12, u13, u14, u15, u16, u17, u18, u19, u20, u21, u22, u23, u24, u25, u26, u27, u28, u29, u30, u31, u32, u33, u34, u35, hrel, ha⟩ := hinv; subst ha; (try simp only [List.setIfInBounds_toArray, List.set_cons_zero, List.set_cons_succ]); intro J_ K_ hJ_ hK_
 case atStart => exact ⟨(([] : List (List Int))), (0), zP, H', ⟨Nat.le_refl _⟩, ⟨by (with_reducible repeat (first | apply Kd.V_alloc | apply Kd.V_drewN | apply Kd.V_drew)); exact Kd.V_mono HO0.out (fun _ hk => ⟨hk, (by simp [Value.ownBlock])⟩)⟩, ⟨by first | exact Kd.S_nil _ _ _ _ _ | exact Kd.N_nil _ _ _ _ _ | exact Kd.V_nil _ _ _ _ _ | exact Kd.Q_nil _ _ _ _ _ | exact Kd.R_nil _ _ _ _ _⟩, ⟨zB⟩⟩
 case round =>
  clear H'
  obtain ⟨x3_1, x4_1, rfl, HA, HK1, HO_0, HO_3, HB⟩ := hrel
  cases gk with
  | zero => exact absurd HA.out (by simp [blanks_words.l0])
  | succ k1 =>
   have H := HA.out
   clear HA
   simp only [blanks_words.l0] at H
   have H' := aM H
   clear H
   go_wp2
   go_loopg [4] k1 (fun kq v4 w' => ∃ (x4_2 : Int), v4 = .int .i64 x4_2 ∧ Aside0 (blanks_words.l1 kq l0 x3_1 x4_2 = some r) ∧ Aside0 (kq ≤ k1) ∧ Aside0 (Kd.V (Kd.int .i32) 21 w' w.heap.size (fun k_ => (P0_ k_ ∨ w.heap.size ≤ k_) ∧ some k_ ≠ (u3 : Value).ownBlock) (.slice A0 l0.length c0) l0) ∧ Aside0 (Kd.N (Kd.slice 21 (Kd.int .i32)) 54 w' w.heap.size (fun k_ => (P0_ k_ ∨ w.heap.size ≤ k_)) u3 x3_1) ∧ Aside0 (Below w.heap.size w w'))
   case atStart => exact ⟨(x4_1), zP, H', ⟨Nat.le_refl _⟩, ⟨zV HO_0⟩, ⟨zN HO_3⟩, ⟨zB⟩⟩
   case round =>
    clear H'
    obtain ⟨x4_2, rfl, HA, HK2, HO_0, HO_3, HB⟩ := hrel
    cases gk with
    | zero => exact absurd HA.out (by simp [blanks_words.l1])
    | succ k2 =>
     have H := HA.out
     clear HA
     simp only [blanks_words.l1] at H
     obtain ⟨t380, A2, H⟩ := zO H
     by_cases c3 : t380 = true
     ·subst c3
      rw [if_pos rfl] at H
      have H' := aM H
      clear H
      go_wp2_with (first | ((with_reducible refine gate_callee (f := 51) rfl ?_); refine goesL_ (some 8) rfl rfl Try.func51 zK rfl #[.slice A0 l0.length c0, .int .i64 x4_2] rfl zM ?_; (with_reducible refine (blanks_Space.calls k2 _ _ l0 x4_2 true _ ?side1 ?side2 A2.out).mono ?_); (case side1 => exact zC (Kd.V_reads' HO_0.out).2.2); (case side2 => exact (Kd.V_reads' HO_0.out).2.1); rintro e w4 ⟨rfl, hb⟩; (try clear A2); refine ⟨_, rfl, ?_⟩; have n_ := zI (aM (Kd.V_below (zV HO_0) hb)) (zI (aM (Kd.N_below (zN HO_3) hb)) (aM (below_step zB hb))); clear HO_0 HO_3 HB; obtain ⟨HO_0, HO_3, HB⟩ := n_; (try clear hb)))
      go_roundg k2
      case measure => have := HK1.out; have := HK2.out; omega
      case rel => exact ⟨(wrap64 (x4_2 + 1)), zP, H', ⟨by have := HK1.out; have := HK2.out; omega⟩, ⟨zV HO_0⟩, ⟨zN HO_3⟩, ⟨zB⟩⟩
     ·replace c3 := Bool.eq_false_iff.mpr c3
      subst c3
      rw [if_neg (show ¬ (false = true) by decide)] at H
      by_cases c5 : x4_2 = (l0.length : Int)
      ·rw [if_pos c5] at H
       have c5b0 : (x4_2 == (l0.length : Int)) = true := beq_iff_eq.mpr c5
       have c5b1 : (x4_2 != (l0.length : Int)) = false := bne_eq_false_iff_eq.mpr c5
       clear c5
       obtain rfl := sI H
       go_wp2_with (first | ((with_reducible refine gate_callee (f := 51) rfl ?_); refine goesL_ (some 8) rfl rfl Try.func51 zK rfl #[.slice A0 l0.length c0, .int .i64 x4_2] rfl zM ?_; (with_reducible refine (blanks_Space.calls k2 _ _ l0 x4_2 false _ ?side1 ?side2 A2.out).mono ?_); (case side1 => exact zC (Kd.V_reads' HO_0.out).2.2); (case side2 => exact (Kd.V_reads' HO_0.out).2.1); rintro e w6 ⟨rfl, hb⟩; (try clear A2); refine ⟨_, rfl, ?_⟩; have n_ := zI (aM (Kd.V_below (zV HO_0) hb)) (zI (aM (Kd.N_below (zN HO_3) hb)) (aM (below_step zB hb))); clear HO_0 HO_3 HB; obtain ⟨HO_0, HO_3, HB⟩ := n_; (try clear hb)))
       (try rw [Exit.noGoto_ret])
       go_ret
       exact ⟨_, zE, zN HO_3, zB⟩
      ·rw [if_neg c5] at H
       have c5b0 : (x4_2 == (l0.length : Int)) = false := beq_eq_false_iff_ne.mpr c5
       have c5b1 : (x4_2 != (l0.length : Int)) = true := bne_iff_ne.mpr c5
       have H' := aM H
       clear H
       go_wp2_with (first | ((with_reducible refine gate_callee (f := 51) rfl ?_); refine goesL_ (some 8) rfl rfl Try.func51 zK rfl #[.slice A0 l0.length c0, .int .i64 x4_2] rfl zM ?_; (with_reducible refine (blanks_Space.calls k2 _ _ l0 x4_2 false _ ?side1 ?side2 A2.out).mono ?_); (case side1 => exact zC (Kd.V_reads' HO_0.out).2.2); (case side2 => exact (Kd.V_reads' HO_0.out).2.1); rintro e w7 ⟨rfl, hb⟩; (try clear A2); refine ⟨_, rfl, ?_⟩; have n_ := zI (aM (Kd.V_below (zV HO_0) hb)) (zI (aM (Kd.N_below (zN HO_3) hb)) (aM (below_step zB hb))); clear HO_0 HO_3 HB; obtain ⟨HO_0, HO_3, HB⟩ := n_; (try clear hb)))
       go_loopg [4] k2 (fun kq v4 w' => ∃ (x4_3 : Int), v4 = .int .i64 x4_3 ∧ Aside0 (blanks_words.l2 kq l0 x3_1 x4_3 x4_2 = some r) ∧ Aside0 (kq ≤ k2) ∧ Aside0 (Kd.V (Kd.int .i32) 21 w' w.heap.size (fun k_ => (P0_ k_ ∨ w.heap.size ≤ k_) ∧ some k_ ≠ (u3 : Value).ownBlock) (.slice A0 l0.length c0) l0) ∧ Aside0 (Kd.N (Kd.slice 21 (Kd.int .i32)) 54 w' w.heap.size (fun k_ => (P0_ k_ ∨ w.heap.size ≤ k_)) u3 x3_1) ∧ Aside0 (Below w.heap.size w w'))
       case atStart => exact ⟨(x4_2), zP, H', ⟨Nat.le_refl _⟩, ⟨zV HO_0⟩, ⟨zN HO_3⟩, ⟨zB⟩⟩
       case round =>
        clear H'
        try clear p2
        try clear c3
        try clear c5
        try clear c5b0
        try clear c5b1
        try clear p6
        obtain ⟨x4_3, rfl, HA, HK3, HO_0, HO_3, HB⟩ := hrel
        cases gk with
        | zero => exact absurd HA.out (by simp [blanks_words.l2])
        | succ k3 =>
         have H := HA.out
         clear HA
         simp only [blanks_words.l2] at H
         by_cases c8 : x4_3 < (l0.length : Int)
         ·rw [if_pos c8] at H
          have c8b0 : decide (x4_3 < (l0.length : Int)) = true := decide_eq_true c8
          clear c8
          obtain ⟨t381, A9, H⟩ := zO H
          by_cases c10 : t381 = true
          ·subst c10
           rw [if_pos rfl] at H
           by_cases c11 : 0 ≤ x4_2
           ·rw [if_pos c11] at H
            have c11b0 := eq_true c11
            have c11b1 : decide (0 ≤ x4_2) = true := decide_eq_true c11
            clear c11
            by_cases c12 : x4_2 ≤ x4_3
            ·rw [if_pos c12] at H
             have c12b0 := eq_true c12
             have c12b1 : decide (x4_2 ≤ x4_3) = true := decide_eq_true c12
             clear c12
             by_cases c13 : x4_3 ≤ (l0.length : Int)
             ·rw [if_pos c13] at H
              have c13b0 := eq_true c13
              have c13b1 : decide (x4_3 ≤ (l0.length : Int)) = true := decide_eq_true c13
              clear c13
              obtain ⟨y382, hy382⟩ : ∃ y_ : List Int, y_ = ((l0.take (x4_3 : Int).toNat).drop (x4_2 : Int).toNat) := ⟨_, rfl⟩
              replace H : (if x3_1.length < 5864062014805 then (blanks_words.l0 k3 l0 (x3_1 ++ [y382]) x4_3) else (none)) = some r := zY hy382 H
              have Ny382 := aM hy382
              clear hy382
              by_cases c14 : x3_1.length < 5864062014805
              ·rw [if_pos c14] at H
               have LMc14 := aM c14
               clear c14
               obtain ⟨y387, hy387⟩ : ∃ y_ : List (List Int), y_ = (x3_1 ++ [y382]) := ⟨_, rfl⟩
               replace H : (blanks_words.l0 k3 l0 y387 x4_3) = some r := zY hy387 H
               have Ny387 := aM hy387
               clear hy387
               have H' := aM H
               clear H
               go_wp2_with (first | (go_at_call 51; (with_reducible refine (blanks_Space.calls k3 _ _ l0 x4_3 true _ ?side1 ?side2 A9.out).mono ?_); (case side1 => exact zC (Kd.V_reads' HO_0.out).2.2); (case side2 => exact (Kd.V_reads' HO_0.out).2.1); rintro e w15 ⟨rfl, hb⟩; (try clear A9); have n_ := zI (aM (Kd.V_below (zV HO_0) hb)) (zI (aM (Kd.N_below (zN HO_3) hb)) (aM (below_step zB hb))); clear HO_0 HO_3 HB; obtain ⟨HO_0, HO_3, HB⟩ := n_; (try clear hb); (try clear hk); (try clear hi); have q16 : (x4_3 : Int) ≤ ((l0.length : Int) : Int) := zoA; obtain ⟨i016, hi016, _, hsz16, _⟩ := info_parts info21; have hroom16 : l0.length ≤ c0 := (Kd.V_reads' HO_0.out).2.1; have hC16 : Kd.F (Kd.int .i32) _ _ A0 l0.length l0 := (Kd.V_at (base := w.heap.size) HO_0.out).2.2; have ql16 : (x4_2 : Int) ≤ (x4_3 : Int) := zoA; have q016 : (0 : Int) ≤ (x4_2 : Int) := zoA; have hcut16 := cut_mid (P := Try.prog) 54 21 .i64 .i64 Try.underlying54 hi016 1 hsz16 A0 l0.length c0 x4_2 x4_3 q016 ql16 q16 hroom16; have hr16 := Kd.F_mid (lo := (x4_2 : Int).toNat) (hi := (x4_3 : Int).toNat) (c := c0) hC16 (by omega) (by omega) hroom16; obtain ⟨A16, hA16⟩ : ∃ A1, A1 = (if c0 = (x4_2 : Int).toNat then A0 else (A0 : Option Addr).map (·.add ((x4_2 : Int).toNat * 1))) := ⟨_, rfl⟩; obtain ⟨c16, hc16⟩ : ∃ c1, c1 = c0 - (x4_2 : Int).toNat := ⟨_, rfl⟩; have hy16 : y382.length = (x4_3 : Int).toNat - (x4_2 : Int).toNat := (by rw [Ny382.out, List.length_drop, List.length_take] <;> omega); rw [show ((l0).take (x4_3 : Int).toNat).drop (x4_2 : Int).toNat = y382 from Ny382.out.symm] at hr16; replace hr16 : Kd.F (Kd.int .i32) _ _ A16 y382.length y382 := (by rw [hA16]; exact hr16); rw [← hy16, ← hA16, ← hc16] at hcut16; have HO386 := aM (show Kd.V (Kd.int .i32) 21 _ w.heap.size _ (.slice A16 y382.length c16) y382 from Kd.V_mk (by rw [hy16, hc16]; exact Nat.sub_le_sub_right (Nat.le_trans (by omega) hroom16) _) hr16); have HC386 := aM (show y382.length ≤ c16 from by rw [hy16, hc16]; exact Nat.sub_le_sub_right (Nat.le_trans (by omega) hroom16) _); clear hr16 hC16 hroom16 hi016 hsz16 hc16; have KY16 := aM hy16; have KA16 := aM hA16; clear hy16 hA16; replace q16 := eq_true q16) | ((with_reducible refine gate_builtin (b := .append) (xs := #[.tmp 29, .tmp 34]) rfl ?_); at_builtin; refine Kd.N_append (Kd.slice 21 (Kd.int .i32)) (w0 := w) w.heap.size rfl (.tmp 29) (.tmp 34) 80 54 (.slice none 0 0) 24 rfl Try.underlying80 info54 rfl (by decide) (by omega) u3 x3_1 y382 [.slice A16 y382.length c16] (fun k_ => (P0_ k_ ∨ w.heap.size ≤ k_)) (fun k_ => ((fun k_ => (P0_ k_ ∨ w.heap.size ≤ k_))) k_ ∧ some k_ ≠ (u3 : Value).ownBlock) rfl rfl ?aP (fun _ hk => hk) ?aF ?aO ?aB ?aS ?aL ?_; (case aP => exact (Kd.FK_slice_mk (Kd.V_reads' (Kd.V_mono (ok' := (fun k_ => ((fun k_ => (P0_ k_ ∨ w.heap.size ≤ k_))) k_ ∧ some k_ ≠ (u3 : Value).ownBlock)) (HO386.out) (fun k_ hk => ⟨hk.1, hk.2⟩))).2.1 (Kd.V_F (Kd.V_mono (ok' := (fun k_ => ((fun k_ => (P0_ k_ ∨ w.heap.size ≤ k_))) k_ ∧ some k_ ≠ (u3 : Value).ownBlock)) (HO386.out) (fun k_ hk => ⟨hk.1, hk.2⟩))))); (case aB => exact zB); (case aF => exact (fun k_ hk => (.inr (Nat.le_trans (below_size zB) hk)))); (case aO => exact (zN HO_3)); (case aS => exact (below_size zB)); (case aL => have := LMc14.out; omega); intro v388 w17 ho hb hg hat; rw [← Ny387.out] at ho; have n_ := zI (aM (Kd.V_afterv (ok := (fun k_ => (P0_ k_ ∨ w.heap.size ≤ k_))) (zV HO_0) hg hat)) (zI (aM (Kd.V_afterv (ok := (fun k_ => (P0_ k_ ∨ w.heap.size ≤ k_))) (zV HO386) hg hat)) (zI (aM (hb)) (aM (ho)))); clear HO_0 HO386 HB HO_3; obtain ⟨HO_0, HO386, HB, HO389⟩ := n_; clear ho hb hg hat))
               go_step3
               refine ⟨rfl, ?_⟩
               refine hK_ _ _ ?_
               go_roundg k3
               case measure => have := HK1.out; have := HK2.out; have := HK3.out; omega
               case rel => exact ⟨(y387), (x4_3), zP, H', ⟨by have := HK1.out; have := HK2.out; have := HK3.out; omega⟩, ⟨zV HO_0⟩, ⟨zN HO389⟩, ⟨zB⟩⟩
              ·rw [if_neg c14] at H
               exact absurd H (by simp)
             ·rw [if_neg c13] at H
              exact absurd H (by simp)
            ·rw [if_neg c12] at H
             exact absurd H (by simp)
           ·rw [if_neg c11] at H
            exact absurd H (by simp)
          ·replace c10 := Bool.eq_false_iff.mpr c10
           subst c10
           rw [if_neg (show ¬ (false = true) by decide)] at H
           have H' := aM H
           clear H
           go_wp2_with (first | (go_at_call 51; (with_reducible refine (blanks_Space.calls k3 _ _ l0 x4_3 false _ ?side1 ?side2 A9.out).mono ?_); (case side1 => exact zC (Kd.V_reads' HO_0.out).2.2); (case side2 => exact (Kd.V_reads' HO_0.out).2.1); rintro e w18 ⟨rfl, hb⟩; (try clear A9); have n_ := zI (aM (Kd.V_below (zV HO_0) hb)) (zI (aM (Kd.N_below (zN HO_3) hb)) (aM (below_step zB hb))); clear HO_0 HO_3 HB; obtain ⟨HO_0, HO_3, HB⟩ := n_; (try clear hb)))
           go_roundg k3
           case measure => have := HK1.out; have := HK2.out; have := HK3.out; omega
           case rel => exact ⟨(wrap64 (x4_3 + 1)), zP, H', ⟨by have := HK1.out; have := HK2.out; have := HK3.out; omega⟩, ⟨zV HO_0⟩, ⟨zN HO_3⟩, ⟨zB⟩⟩
         ·rw [if_neg c8] at H
          have c8b0 : decide (x4_3 < (l0.length : Int)) = false := decide_eq_false c8
          clear c8
          by_cases c19 : 0 ≤ x4_2
          ·rw [if_pos c19] at H
           have c19b0 := eq_true c19
           have c19b1 : decide (0 ≤ x4_2) = true := decide_eq_true c19
           clear c19
           by_cases c20 : x4_2 ≤ x4_3
           ·rw [if_pos c20] at H
            have c20b0 := eq_true c20
            have c20b1 : decide (x4_2 ≤ x4_3) = true := decide_eq_true c20
            clear c20
            by_cases c21 : x4_3 ≤ (l0.length : Int)
            ·rw [if_pos c21] at H
             have c21b0 := eq_true c21
             have c21b1 : decide (x4_3 ≤ (l0.length : Int)) = true := decide_eq_true c21
             clear c21
             obtain ⟨y390, hy390⟩ : ∃ y_ : List Int, y_ = ((l0.take (x4_3 : Int).toNat).drop (x4_2 : Int).toNat) := ⟨_, rfl⟩
             replace H : (if x3_1.length < 5864062014805 then (blanks_words.l0 k3 l0 (x3_1 ++ [y390]) x4_3) else (none)) = some r := zY hy390 H
             have Ny390 := aM hy390
             clear hy390
             by_cases c22 : x3_1.length < 5864062014805
             ·rw [if_pos c22] at H
              have LMc22 := aM c22
              clear c22
              obtain ⟨y395, hy395⟩ : ∃ y_ : List (List Int), y_ = (x3_1 ++ [y390]) := ⟨_, rfl⟩
              replace H : (blanks_words.l0 k3 l0 y395 x4_3) = some r := zY hy395 H
              have Ny395 := aM hy395
              clear hy395
              have H' := aM H
              clear H
              have q23 : (x4_3 : Int) ≤ ((l0.length : Int) : Int) := zoA
              obtain ⟨i023, hi023, _, hsz23, _⟩ := info_parts info21
              have hroom23 : l0.length ≤ c0 := (Kd.V_reads' HO_0.out).2.1
              have hC23 : Kd.F (Kd.int .i32) _ _ A0 l0.length l0 := (Kd.V_at (base := w.heap.size) HO_0.out).2.2
              have ql23 : (x4_2 : Int) ≤ (x4_3 : Int) := zoA
              have q023 : (0 : Int) ≤ (x4_2 : Int) := zoA
              have hcut23 := cut_mid (P := Try.prog) 54 21 .i64 .i64 Try.underlying54 hi023 1 hsz23 A0 l0.length c0 x4_2 x4_3 q023 ql23 q23 hroom23
              have hr23 := Kd.F_mid (lo := (x4_2 : Int).toNat) (hi := (x4_3 : Int).toNat) (c := c0) hC23 (by omega) (by omega) hroom23
              obtain ⟨A23, hA23⟩ : ∃ A1, A1 = (if c0 = (x4_2 : Int).toNat then A0 else (A0 : Option Addr).map (·.add ((x4_2 : Int).toNat * 1))) := ⟨_, rfl⟩
              obtain ⟨c23, hc23⟩ : ∃ c1, c1 = c0 - (x4_2 : Int).toNat := ⟨_, rfl⟩
              have hy23 : y390.length = (x4_3 : Int).toNat - (x4_2 : Int).toNat := (by rw [Ny390.out, List.length_drop, List.length_take] <;> omega)
              rw [show ((l0).take (x4_3 : Int).toNat).drop (x4_2 : Int).toNat = y390 from Ny390.out.symm] at hr23
              replace hr23 : Kd.F (Kd.int .i32) _ _ A23 y390.length y390 := (by rw [hA23]; exact hr23)
              rw [← hy23, ← hA23, ← hc23] at hcut23
              have HO394 := aM (show Kd.V (Kd.int .i32) 21 _ w.heap.size _ (.slice A23 y390.length c23) y390 from Kd.V_mk (by rw [hy23, hc23]; exact Nat.sub_le_sub_right (Nat.le_trans (by omega) hroom23) _) hr23)
              have HC394 := aM (show y390.length ≤ c23 from by rw [hy23, hc23]; exact Nat.sub_le_sub_right (Nat.le_trans (by omega) hroom23) _)
              clear hr23 hC23 hroom23 hi023 hsz23 hc23
              have KY23 := aM hy23
              have KA23 := aM hA23
              clear hy23 hA23
              replace q23 := eq_true q23
              go_wp2_with (first | ((with_reducible refine gate_builtin (b := .append) (xs := #[.tmp 29, .tmp 34]) rfl ?_); at_builtin; refine Kd.N_append (Kd.slice 21 (Kd.int .i32)) (w0 := w) w.heap.size rfl (.tmp 29) (.tmp 34) 80 54 (.slice none 0 0) 24 rfl Try.underlying80 info54 rfl (by decide) (by omega) u3 x3_1 y390 [.slice A23 y390.length c23] (fun k_ => (P0_ k_ ∨ w.heap.size ≤ k_)) (fun k_ => ((fun k_ => (P0_ k_ ∨ w.heap.size ≤ k_))) k_ ∧ some k_ ≠ (u3 : Value).ownBlock) rfl rfl ?aP (fun _ hk => hk) ?aF ?aO ?aB ?aS ?aL ?_; (case aP => exact (Kd.FK_slice_mk (Kd.V_reads' (Kd.V_mono (ok' := (fun k_ => ((fun k_ => (P0_ k_ ∨ w.heap.size ≤ k_))) k_ ∧ some k_ ≠ (u3 : Value).ownBlock)) (HO394.out) (fun k_ hk => ⟨hk.1, hk.2⟩))).2.1 (Kd.V_F (Kd.V_mono (ok' := (fun k_ => ((fun k_ => (P0_ k_ ∨ w.heap.size ≤ k_))) k_ ∧ some k_ ≠ (u3 : Value).ownBlock)) (HO394.out) (fun k_ hk => ⟨hk.1, hk.2⟩))))); (case aB => exact zB); (case aF => exact (fun k_ hk => (.inr (Nat.le_trans (below_size zB) hk)))); (case aO => exact (zN HO_3)); (case aS => exact (below_size zB)); (case aL => have := LMc22.out; omega); intro v396 w24 ho hb hg hat; rw [← Ny395.out] at ho; have n_ := zI (aM (Kd.V_afterv (ok := (fun k_ => (P0_ k_ ∨ w.heap.size ≤ k_))) (zV HO_0) hg hat)) (zI (aM (Kd.V_afterv (ok := (fun k_ => (P0_ k_ ∨ w.heap.size ≤ k_))) (zV HO394) hg hat)) (zI (aM (hb)) (aM (ho)))); clear HO_0 HO394 HB HO_3; obtain ⟨HO_0, HO394, HB, HO397⟩ := n_; clear ho hb hg hat))
              go_step3
              refine ⟨rfl, ?_⟩
              refine hK_ _ _ ?_
              go_roundg k3
              case measure => have := HK1.out; have := HK2.out; have := HK3.out; omega
              case rel => exact ⟨(y395), (x4_3), zP, H', ⟨by have := HK1.out; have := HK2.out; have := HK3.out; omega⟩, ⟨zV HO_0⟩, ⟨zN HO397⟩, ⟨zB⟩⟩
             ·rw [if_neg c22] at H
              exact absurd H (by simp)
            ·rw [if_neg c21] at H
             exact absurd H (by simp)
           ·rw [if_neg c20] at H
            exact absurd H (by simp)
          ·rw [if_neg c19] at H
           exact absurd H (by simp)

/-! ### blanks_joined: function 57 -/
def blanks_joined.l0 : Nat → List Int → List (List Int) → Int → Int → Option (List Int)
 | 0, _, _, _, _ => none
 | k + 1, x3, x6, x7, x8 => if x8 < x7 then (if 0 ≤ x8 then (if x8 < (x6.length : Int) then (if x8 > 0 then ((some (([32, 32] : List Int) : List Int)).bind fun y399 => (if x3.length + y399.length < 35184372088832 then ((some (x3 ++ y399 : List Int)).bind fun y402 => (if y402.length + (rd_L5 x6 x8).length < 35184372088832 then (blanks_joined.l0 k (y402 ++ (rd_L5 x6 x8)) x6 x7 (wrap64 (x8 + 1))) else (none))) else (none))) else (if x3.length + (rd_L5 x6 x8).length < 35184372088832 then (blanks_joined.l0 k (x3 ++ (rd_L5 x6 x8)) x6 x7 (wrap64 (x8 + 1))) else (none))) else (none)) else (none)) else (some x3)
def blanks_joined.f (k : Nat) (l0 : List (List Int)) : Option (List Int) := blanks_joined.l0 k ([] : List Int) l0 (l0.length : Int) 0
theorem blanks_joined.mono_l : ∀ k, (∀ y0 y1 y2 y3, LeO (blanks_joined.l0 k y0 y1 y2 y3) (blanks_joined.l0 (k + 1) y0 y1 y2 y3))
 | 0 => fun _ _ _ _ r h => by simp [blanks_joined.l0] at h
 | k + 1 => by
  have ih0 := blanks_joined.mono_l k
  ·intro y0 y1 y2 y3
   unfold blanks_joined.l0
   repeat' first
   | (with_reducible exact ih0 _ _ _ _)
   | (with_reducible exact LeO.refl _)
   | exact ih0 _ _ _ _
   | exact LeO.none _
   | refine LeO.ite ?_ ?_
   | refine LeO.bind ?_ (fun _ => ?_)
theorem blanks_joined.mono : ∀ a0 k, LeO (blanks_joined.f k a0) (blanks_joined.f (k + 1) a0) := by
 intro a0 k
 have ih0 := blanks_joined.mono_l k
 unfold blanks_joined.f
 repeat' first
   | (with_reducible exact ih0 _ _ _ _)
   | (with_reducible exact LeO.refl _)
   | exact ih0 _ _ _ _
   | exact LeO.none _
   | refine LeO.ite ?_ ?_
   | refine LeO.bind ?_ (fun _ => ?_)
set_option maxHeartbeats 8000000 in
set_option maxRecDepth 100000 in
theorem blanks_joined.calls (k : Nat) (A0 : Option Addr) (c0 : Nat) (l0 : List (List Int)) (r : List Int) (w : World) (hr0 : Kd.C (Kd.slice 21 (Kd.int .i32)) w A0 l0.length l0) (hc0 : l0.length ≤ c0) (h : blanks_joined.f k l0 = some r) :
  Calls Try.prog 57 #[.slice A0 l0.length c0] w fun e w' => ∃ v0_ : Value, e = .returned (v0_) ∧ Kd.R (Kd.int .i32) 21 w' w.heap.size (fun _ => True) v0_ r ∧ Below w.heap.size w w' := by
 have HR0 := aM hr0
 have HC0 := aM hc0
 clear hr0 hc0
 have HB := aM (Below.refl w.heap.size w)
 have H := h
 clear h
 unfold blanks_joined.f at H
 have H' := aM H
 clear H
 go_enter Try.func57, Try.ntmps57
 go_wp2
 go_loopg [3, 8] k (fun kq v3 v8 w' => ∃ (x3_1 : List Int) (x8_1 : Int), v8 = .int .i64 x8_1 ∧ Aside0 (blanks_joined.l0 kq x3_1 l0 (l0.length : Int) x8_1 = some r) ∧ Aside0 (kq ≤ k) ∧ Aside0 (Kd.R (Kd.int .i32) 21 w' w.heap.size (fun _ => True) v3 x3_1) ∧ Aside0 (Below w.heap.size w w'))
 case atStart => exact ⟨(([] : List Int)), (0), zP, H', ⟨Nat.le_refl _⟩, ⟨zL⟩, ⟨zB⟩⟩
 case round =>
  clear H'
  obtain ⟨x3_1, x8_1, rfl, HA, HK1, HO_3, HB⟩ := hrel
  cases gk with
  | zero => exact absurd HA.out (by simp [blanks_joined.l0])
  | succ k1 =>
   have H := HA.out
   clear HA
   simp only [blanks_joined.l0] at H
   by_cases c2 : x8_1 < (l0.length : Int)
   ·rw [if_pos c2] at H
    have c2b0 : decide (x8_1 < (l0.length : Int)) = true := decide_eq_true c2
    clear c2
    by_cases c3 : 0 ≤ x8_1
    ·rw [if_pos c3] at H
     have c3b0 : decide (0 ≤ x8_1) = true := decide_eq_true c3
     clear c3
     by_cases c4 : x8_1 < (l0.length : Int)
     ·rw [if_pos c4] at H
      have c4b0 : decide (x8_1 < (l0.length : Int)) = true := decide_eq_true c4
      clear c4
      by_cases c5 : x8_1 > 0
      ·rw [if_pos c5] at H
       have c5b0 : decide (0 < x8_1) = true := decide_eq_true c5
       clear c5
       obtain ⟨y399, hy399⟩ : ∃ y_ : List Int, y_ = (([32, 32] : List Int)) := ⟨_, rfl⟩
       replace H : (if x3_1.length + y399.length < 35184372088832 then ((some (x3_1 ++ y399 : List Int)).bind fun y402 => (if y402.length + (rd_L5 l0 x8_1).length < 35184372088832 then (blanks_joined.l0 k1 (y402 ++ (rd_L5 l0 x8_1)) l0 (l0.length : Int) (wrap64 (x8_1 + 1))) else (none))) else (none)) = some r := zY hy399 H
       have Ny399 := aM hy399
       clear hy399
       by_cases c6 : x3_1.length + y399.length < 35184372088832
       ·rw [if_pos c6] at H
        have LMc6 := aM c6
        clear c6
        obtain ⟨y402, hy402⟩ : ∃ y_ : List Int, y_ = (x3_1 ++ y399) := ⟨_, rfl⟩
        replace H : (if y402.length + (rd_L5 l0 x8_1).length < 35184372088832 then (blanks_joined.l0 k1 (y402 ++ (rd_L5 l0 x8_1)) l0 (l0.length : Int) (wrap64 (x8_1 + 1))) else (none)) = some r := zY hy402 H
        have Ny402 := aM hy402
        clear hy402
        by_cases c7 : y402.length + (rd_L5 l0 x8_1).length < 35184372088832
        ·rw [if_pos c7] at H
         have LMc7 := aM c7
         clear c7
         obtain ⟨y405, hy405⟩ : ∃ y_ : List Int, y_ = (y402 ++ (rd_L5 l0 x8_1)) := ⟨_, rfl⟩
         replace H : (blanks_joined.l0 k1 y405 l0 (l0.length : Int) (wrap64 (x8_1 + 1))) = some r := zY hy405 H
         have Ny405 := aM hy405
         clear hy405
         have H' := aM H
         clear H
         have p398 : 0 ≤ (x8_1 : Int) := zoA
         have q398 : x8_1 < (l0.length : Int) := zoA
         obtain ⟨ad398, A398_0, c398_0, e398, hx398_0, hl398_0, hi398_0⟩ := at_L5 HR0.out x8_1 p398 q398
         cases e398
         replace hx398_0 := (HB.out.cell (World.block_lt_of_cell? w _ hx398_0)).trans hx398_0
         have HR398_0 := aM hi398_0
         have HC398_0 := aM hl398_0
         clear hi398_0 hl398_0
         replace p398 := eq_true p398
         replace q398 := eq_true q398
         go_wp2_with (first | ((with_reducible refine gate_dst (N := 16) rfl ?_); refine Kd.R_lit (Kd.int .i32) _ 21 ?hg (N := 16) ?hd (xs := ([32, 32] : List Int)) (inner := [.int .i32 32, .int .i32 32]) (ok := fun _ => True) (okp := fun _ => True) ?hr ?hp (fun _ hk => hk) trivial (Below.refl _ _) (Nat.le_refl _) (by simp) ?_; (case hd => rfl); (case hg => rfl); (case hr => first | (go_simp; done) | (go_simp; rfl)); (case hp => exact (Reps.one (show Kd.M (Kd.int .i32) _ _ _ 32 [.int .i32 32] from rfl) (Reps.one (show Kd.M (Kd.int .i32) _ _ _ 32 [.int .i32 32] from rfl) (Reps.none _ _)))); intro v400 w8 ho9 hb hg_ hnew_; clear hg_ hnew_; (first | rw [← Ny399.out] at ho9 | (simp only [Int.reduceToNat] at ho9; rw [← Ny399.out] at ho9)); have n_ := zI (aM (Kd.R_elder' (zR HO_3) (Kd.R_base ho9) hb)) (zI (aM (Kd.R_lower (Kd.R_new' ho9 (Kd.R_lt (zR HO_3))) (below_size zB))) (aM (below_step zB hb))); clear HO_3 HB; obtain ⟨HO_3, HO401, HB⟩ := n_; clear hb ho9; obtain ⟨Ao11, co11, rfl⟩ := Kd.R_slice HO401.out) | ((with_reducible refine gate_builtin (b := .append) (xs := #[.tmp 15, .tmp 16]) rfl ?_); at_builtin; refine Kd.R_append_rows (Kd.int .i32) (w0 := w) w.heap.size rfl (.tmp 15) (.tmp 16) 54 21 (.int .i32 0) 4 rfl Try.underlying54 info21 rfl (by decide) (by omega) u3 x3_1 y399 _ _ _ (fun k_ => some k_ ≠ (.slice Ao11 y399.length co11 : Value).ownBlock) (fun _ => False) rfl rfl ?aO ?aR (fun _ _ h => h) (fun _ h => h.elim) ?aF ?aB ?aS ?aL ?_; (case aR => repeat (first | exact (Kd.R_reads' HO401.out).2.2 | (with_reducible refine Kd.C_alloc ?_ _) | (with_reducible refine Kd.C_drewN ?_ _) | (with_reducible refine Kd.C_drew ?_))); (case aB => exact zB); (case aF => exact (fun k_ hk => Kd.fresh' (Kd.R_lt (zR HO401)) k_ hk)); (case aO => exact (by (with_reducible repeat (first | apply Kd.R_alloc | apply Kd.R_drewN | apply Kd.R_drew)); exact Kd.R_mono HO_3.out (fun _ hk => hk.2))); (case aS => exact (below_size zB)); (case aL => have := LMc6.out; omega); intro v403 w10 ho hb hg hat; rw [← Ny402.out] at ho; have n_ := zI (aM (Kd.R_after (ok := (fun _ => True)) (zR HO401) hg hat)) (zI (aM (hb)) (aM (ho))); clear HO401 HB HO_3; obtain ⟨HO401, HB, HO404⟩ := n_; clear ho hb hg hat) | ((with_reducible refine gate_builtin (b := .append) (xs := #[.tmp 18, .tmp 19]) rfl ?_); at_builtin; refine Kd.R_append_rows (Kd.int .i32) (w0 := w) w.heap.size rfl (.tmp 18) (.tmp 19) 54 21 (.int .i32 0) 4 rfl Try.underlying54 info21 rfl (by decide) (by omega) v403 y402 (rd_L5 l0 x8_1) _ _ _ (fun k_ => some k_ ≠ (.slice Ao11 y399.length co11 : Value).ownBlock) (fun _ => False) rfl rfl ?aO ?aR (fun _ _ h => h) (fun _ h => h.elim) ?aF ?aB ?aS ?aL ?_; (case aR => repeat (first | exact (Kd.C_below HR398_0.out HB.out) | (with_reducible refine Kd.C_alloc ?_ _) | (with_reducible refine Kd.C_drewN ?_ _) | (with_reducible refine Kd.C_drew ?_))); (case aB => exact zB); (case aF => exact (fun k_ hk => Kd.fresh' (Kd.R_lt (zR HO401)) k_ hk)); (case aO => exact (zR HO404)); (case aS => exact (below_size zB)); (case aL => have := LMc7.out; omega); intro v406 w12 ho hb hg hat; rw [← Ny405.out] at ho; have n_ := zI (aM (Kd.R_after (ok := (fun _ => True)) (zR HO401) hg hat)) (zI (aM (hb)) (aM (ho))); clear HO401 HB HO404; obtain ⟨HO401, HB, HO407⟩ := n_; clear ho hb hg hat))
         go_roundg k1
         case measure => have := HK1.out; omega
         case rel => exact ⟨(y405), (wrap64 (x8_1 + 1)), zP, H', ⟨by have := HK1.out; omega⟩, ⟨by (with_reducible repeat (first | apply Kd.R_alloc | apply Kd.R_drewN | apply Kd.R_drew)); exact Kd.R_mono HO407.out (fun _ hk => trivial)⟩, ⟨zB⟩⟩
        ·rw [if_neg c7] at H
         exact absurd H (by simp)
       ·rw [if_neg c6] at H
        exact absurd H (by simp)
      ·rw [if_neg c5] at H
       have c5b0 : decide (0 < x8_1) = false := decide_eq_false c5
       clear c5
       by_cases c13 : x3_1.length + (rd_L5 l0 x8_1).length < 35184372088832
       ·rw [if_pos c13] at H
        have LMc13 := aM c13
        clear c13
        obtain ⟨y408, hy408⟩ : ∃ y_ : List Int, y_ = (x3_1 ++ (rd_L5 l0 x8_1)) := ⟨_, rfl⟩
        replace H : (blanks_joined.l0 k1 y408 l0 (l0.length : Int) (wrap64 (x8_1 + 1))) = some r := zY hy408 H
        have Ny408 := aM hy408
        clear hy408
        have H' := aM H
        clear H
        have p398 : 0 ≤ (x8_1 : Int) := zoA
        have q398 : x8_1 < (l0.length : Int) := zoA
        obtain ⟨ad398, A398_0, c398_0, e398, hx398_0, hl398_0, hi398_0⟩ := at_L5 HR0.out x8_1 p398 q398
        cases e398
        replace hx398_0 := (HB.out.cell (World.block_lt_of_cell? w _ hx398_0)).trans hx398_0
        have HR398_0 := aM hi398_0
        have HC398_0 := aM hl398_0
        clear hi398_0 hl398_0
        replace p398 := eq_true p398
        replace q398 := eq_true q398
        go_wp2_with (first | ((with_reducible refine gate_builtin (b := .append) (xs := #[.tmp 18, .tmp 19]) rfl ?_); at_builtin; refine Kd.R_append_rows (Kd.int .i32) (w0 := w) w.heap.size rfl (.tmp 18) (.tmp 19) 54 21 (.int .i32 0) 4 rfl Try.underlying54 info21 rfl (by decide) (by omega) u3 x3_1 (rd_L5 l0 x8_1) _ _ _ (fun _ => True) (fun _ => False) rfl rfl ?aO ?aR (fun _ _ h => h) (fun _ h => h.elim) ?aF ?aB ?aS ?aL ?_; (case aR => repeat (first | exact (Kd.C_below HR398_0.out HB.out) | (with_reducible refine Kd.C_alloc ?_ _) | (with_reducible refine Kd.C_drewN ?_ _) | (with_reducible refine Kd.C_drew ?_))); (case aB => exact zB); (case aF => exact (fun _ _ => trivial)); (case aO => exact (zR HO_3)); (case aS => exact (below_size zB)); (case aL => have := LMc13.out; omega); intro v409 w14 ho hb hg hat; rw [← Ny408.out] at ho; have n_ := zI (aM (hb)) (aM (ho)); clear HB HO_3; obtain ⟨HB, HO410⟩ := n_; clear ho hb hg hat))
        go_roundg k1
        case measure => have := HK1.out; omega
        case rel => exact ⟨(y408), (wrap64 (x8_1 + 1)), zP, H', ⟨by have := HK1.out; omega⟩, ⟨zR HO410⟩, ⟨zB⟩⟩
       ·rw [if_neg c13] at H
        exact absurd H (by simp)
     ·rw [if_neg c4] at H
      exact absurd H (by simp)
    ·rw [if_neg c3] at H
     exact absurd H (by simp)
   ·rw [if_neg c2] at H
    have c2b0 : decide (x8_1 < (l0.length : Int)) = false := decide_eq_false c2
    clear c2
    obtain rfl := sI H
    go_wp2
    go_ret
    exact ⟨_, zE, zR HO_3, zB⟩

end Go.Proofs.Ytncppcjobimilaa.P
