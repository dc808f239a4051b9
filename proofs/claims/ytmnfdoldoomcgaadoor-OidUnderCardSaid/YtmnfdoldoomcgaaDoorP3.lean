-- Printed by wip/mk.py (this session's driver over the kit's print) and from wip/manual.
import Derived.Test.YtmnfdoldoomcgaaDoorP0
import Derived.Test.YtmnfdoldoomcgaaDoorP1
import Derived.Test.YtmnfdoldoomcgaaDoorP2
namespace Go.Proofs.YtmnfdoldoomcgaaDoor.P
open Go.RowKit Go.Proofs.YtmnfdoldoomcgaaDoorW.PrintWords Go.Proofs.YtmnfdoldoomcgaaDoorW.PrintLast Go.Proofs.YtmnfdoldoomcgaaDoorW.PrintMore
attribute [local go_sem] max2_int min2_int max_two min_two max_three min_three max_four min_four   -- for this text's walks alone
set_option linter.unusedVariables false
set_option linter.unusedSimpArgs false

/-! ### toponymref17_Cmp: function 20 -/
mutual
def toponymref17_Cmp.l0 : Nat → List Int → List Int → Int → Option (Int)
 | 0, _, _, _ => none
 | k + 1, x0, x1, x5 => if x5 < (x0.length : Int) then (toponymref17_Cmp.j1 k x0 x1 x5 (decide (x5 < (x1.length : Int)))) else (toponymref17_Cmp.j1 k x0 x1 x5 false)
def toponymref17_Cmp.j1 : Nat → List Int → List Int → Int → Bool → Option (Int)
 | 0, _, _, _, _ => none
 | k + 1, x0, x1, x5, x15 => if x15 = true then (if 0 ≤ x5 then (if x5 < (x0.length : Int) then (if x5 < (x1.length : Int) then (if (rd x0 x5) < (rd x1 x5) then (some (-1)) else (if (rd x0 x5) > (rd x1 x5) then (some 1) else (toponymref17_Cmp.l0 k x0 x1 (wrap64 (x5 + 1))))) else (none)) else (none)) else (none)) else (if (x0.length : Int) < (x1.length : Int) then (some (-1)) else (if (x0.length : Int) > (x1.length : Int) then (some 1) else (some 0)))
end
def toponymref17_Cmp.f (k : Nat) (l0 : List Int) (l1 : List Int) : Option (Int) := toponymref17_Cmp.l0 k l0 l1 0
theorem toponymref17_Cmp.mono_l : ∀ k, (∀ y0 y1 y2, LeO (toponymref17_Cmp.l0 k y0 y1 y2) (toponymref17_Cmp.l0 (k + 1) y0 y1 y2)) ∧ (∀ y0 y1 y2 y3, LeO (toponymref17_Cmp.j1 k y0 y1 y2 y3) (toponymref17_Cmp.j1 (k + 1) y0 y1 y2 y3))
 | 0 => ⟨fun _ _ _ r h => by simp [toponymref17_Cmp.l0] at h, fun _ _ _ _ r h => by simp [toponymref17_Cmp.j1] at h⟩
 | k + 1 => by
  obtain ⟨ih0, ih1⟩ := toponymref17_Cmp.mono_l k
  refine ⟨?_, ?_⟩
  ·intro y0 y1 y2
   unfold toponymref17_Cmp.l0
   repeat' first
   | (with_reducible exact ih0 _ _ _)
   | (with_reducible exact ih1 _ _ _ _)
   | (with_reducible exact LeO.refl _)
   | exact ih0 _ _ _
   | exact ih1 _ _ _ _
   | exact LeO.none _
   | refine LeO.ite ?_ ?_
   | refine LeO.bind ?_ (fun _ => ?_)
  ·intro y0 y1 y2 y3
   unfold toponymref17_Cmp.j1
   repeat' first
   | (with_reducible exact ih0 _ _ _)
   | (with_reducible exact ih1 _ _ _ _)
   | (with_reducible exact LeO.refl _)
   | exact ih0 _ _ _
   | exact ih1 _ _ _ _
   | exact LeO.none _
   | refine LeO.ite ?_ ?_
   | refine LeO.bind ?_ (fun _ => ?_)
theorem toponymref17_Cmp.mono : ∀ a0 a1 k, LeO (toponymref17_Cmp.f k a0 a1) (toponymref17_Cmp.f (k + 1) a0 a1) := by
 intro a0 a1 k
 obtain ⟨ih0, ih1⟩ := toponymref17_Cmp.mono_l k
 unfold toponymref17_Cmp.f
 repeat' first
   | (with_reducible exact ih0 _ _ _)
   | (with_reducible exact ih1 _ _ _ _)
   | (with_reducible exact LeO.refl _)
   | exact ih0 _ _ _
   | exact ih1 _ _ _ _
   | exact LeO.none _
   | refine LeO.ite ?_ ?_
   | refine LeO.bind ?_ (fun _ => ?_)
set_option maxHeartbeats 8000000 in
set_option maxRecDepth 100000 in
theorem toponymref17_Cmp.calls (k : Nat) (A0 : Option Addr) (c0 : Nat) (l0 : List Int) (A1 : Option Addr) (c1 : Nat) (l1 : List Int) (r : Int) (w : World) (hr0 : Kd.C (Kd.int .i64) w A0 l0.length l0) (hc0 : l0.length ≤ c0) (hr1 : Kd.C (Kd.int .i64) w A1 l1.length l1) (hc1 : l1.length ≤ c1) (h : toponymref17_Cmp.f k l0 l1 = some r) :
  Calls Tryd.prog 20 #[.slice A0 l0.length c0, .slice A1 l1.length c1] w fun e w' => e = .returned (.int .i64 r) ∧ Drawn0 w w' := by
 have HR0 := aM hr0
 have HC0 := aM hc0
 clear hr0 hc0
 have HR1 := aM hr1
 have HC1 := aM hc1
 clear hr1 hc1
 have H := h
 clear h
 unfold toponymref17_Cmp.f at H
 have H' := aM H
 clear H
 go_enter Tryd.func20, Tryd.ntmps20
 go_wp2
 repeat (go_quiet (fail); try go_wp2)
 go_loopg [5] k (fun kq v5 w' => ∃ (x5_1 : Int), v5 = .int .i64 x5_1 ∧ Aside0 (toponymref17_Cmp.l0 kq l0 l1 x5_1 = some r) ∧ Aside0 (kq ≤ k) ∧ Drawn0 w w')
 case atStart => exact ⟨(0), zP, H', ⟨Nat.le_refl _⟩, zD⟩
 case round =>
  clear H'
  try clear c1
  try clear c2
  try clear p2
  obtain ⟨x5_1, rfl, HA, HK1, ⟨m1, rfl⟩⟩ := hrel
  cases gk with
  | zero => exact absurd HA.out (by simp [toponymref17_Cmp.l0])
  | succ k1 =>
   have H := HA.out
   clear HA
   simp only [toponymref17_Cmp.l0] at H
   have HC3 := aM H
   clear H
   go_upto_region 2 with (fail)
   repeat (go_quiet (fail); go_upto_region 2 with (fail))
   go_cut [15] (fun v15 wc => ∃ (kq : Nat) (x15_2 : Bool), v15 = .bool x15_2 ∧ Aside0 (toponymref17_Cmp.j1 kq l0 l1 x5_1 x15_2 = some r) ∧ Aside0 (kq ≤ k1) ∧ Drawn0 w wc)
   case first =>
    have H := HC3.out
    clear HC3
    by_cases c4 : x5_1 < (l0.length : Int)
    ·rw [if_pos c4] at H
     have c4b0 : decide (x5_1 < (l0.length : Int)) = true := decide_eq_true c4
     clear c4
     (first | rw [c4b0] | (simp only [i64_w, i32_w]; rw [c4b0]) | skip)
     have H' := aM H
     clear H
     go_wp2
     repeat (go_quiet (fail); try go_wp2)
     go_meet
     case rel => exact ⟨_, (decide (x5_1 < (l1.length : Int))), zP, H', ⟨by have := HK1.out; first | omega | exact Nat.le_refl _⟩, zD⟩
    ·rw [if_neg c4] at H
     have c4b0 : decide (x5_1 < (l0.length : Int)) = false := decide_eq_false c4
     clear c4
     (first | rw [c4b0] | (simp only [i64_w, i32_w]; rw [c4b0]) | skip)
     have H' := aM H
     clear H
     go_wp2
     repeat (go_quiet (fail); try go_wp2)
     go_meet
     case rel => exact ⟨_, (false), zP, H', ⟨by have := HK1.out; first | omega | exact Nat.le_refl _⟩, zD⟩
   case rest =>
    clear HC3
    try clear c1
    try clear c2
    try clear p2
    try clear c4
    try clear c4b0
    try clear p2
    obtain ⟨kq, x15_2, rfl, HA, HJ2, ⟨mc2, rfl⟩⟩ := hcut
    cases kq with
    | zero => exact absurd HA.out (by simp [toponymref17_Cmp.j1])
    | succ kj2 =>
     have H := HA.out
     clear HA
     simp only [toponymref17_Cmp.j1] at H
     by_cases c5 : x15_2 = true
     ·subst c5
      rw [if_pos rfl] at H
      by_cases c6 : 0 ≤ x5_1
      ·rw [if_pos c6] at H
       have c6b0 : decide (0 ≤ x5_1) = true := decide_eq_true c6
       clear c6
       by_cases c7 : x5_1 < (l0.length : Int)
       ·rw [if_pos c7] at H
        have c7b0 : decide (x5_1 < (l0.length : Int)) = true := decide_eq_true c7
        clear c7
        by_cases c8 : x5_1 < (l1.length : Int)
        ·rw [if_pos c8] at H
         have c8b0 : decide (x5_1 < (l1.length : Int)) = true := decide_eq_true c8
         clear c8
         by_cases c9 : (rd l0 x5_1) < (rd l1 x5_1)
         ·rw [if_pos c9] at H
          have c9b0 : decide ((rd l0 x5_1) < (rd l1 x5_1)) = true := decide_eq_true c9
          clear c9
          obtain rfl := sI H
          have p178 : 0 ≤ (x5_1 : Int) := zoA
          have q178 : x5_1 < (l0.length : Int) := zoA
          obtain ⟨ad178, e178, hx178_0⟩ := Kd.at_int HR0.out x5_1 p178 q178
          cases e178
          replace p178 := eq_true p178
          replace q178 := eq_true q178
          have p179 : 0 ≤ (x5_1 : Int) := zoA
          have q179 : x5_1 < (l1.length : Int) := zoA
          obtain ⟨ad179, e179, hx179_0⟩ := Kd.at_int HR1.out x5_1 p179 q179
          cases e179
          replace p179 := eq_true p179
          replace q179 := eq_true q179
          go_wp2
          repeat (go_quiet (fail); try go_wp2)
          go_ret
          exact ⟨zP, zD⟩
         ·rw [if_neg c9] at H
          have c9b0 : decide ((rd l0 x5_1) < (rd l1 x5_1)) = false := decide_eq_false c9
          clear c9
          by_cases c10 : (rd l0 x5_1) > (rd l1 x5_1)
          ·rw [if_pos c10] at H
           have c10b0 : decide ((rd l1 x5_1) < (rd l0 x5_1)) = true := decide_eq_true c10
           clear c10
           obtain rfl := sI H
           have p178 : 0 ≤ (x5_1 : Int) := zoA
           have q178 : x5_1 < (l0.length : Int) := zoA
           obtain ⟨ad178, e178, hx178_0⟩ := Kd.at_int HR0.out x5_1 p178 q178
           cases e178
           replace p178 := eq_true p178
           replace q178 := eq_true q178
           have p179 : 0 ≤ (x5_1 : Int) := zoA
           have q179 : x5_1 < (l1.length : Int) := zoA
           obtain ⟨ad179, e179, hx179_0⟩ := Kd.at_int HR1.out x5_1 p179 q179
           cases e179
           replace p179 := eq_true p179
           replace q179 := eq_true q179
           have p180 : 0 ≤ (x5_1 : Int) := zoA
           have q180 : x5_1 < (l0.length : Int) := zoA
           obtain ⟨ad180, e180, hx180_0⟩ := Kd.at_int HR0.out x5_1 p180 q180
           obtain rfl : ad178 = ad180 := (by injection e180)
           replace p180 := eq_true p180
           replace q180 := eq_true q180
           have p181 : 0 ≤ (x5_1 : Int) := zoA
           have q181 : x5_1 < (l1.length : Int) := zoA
           obtain ⟨ad181, e181, hx181_0⟩ := Kd.at_int HR1.out x5_1 p181 q181
           obtain rfl : ad179 = ad181 := (by injection e181)
           replace p181 := eq_true p181
           replace q181 := eq_true q181
           go_wp2
           repeat (go_quiet (fail); try go_wp2)
           go_ret
           exact ⟨zP, zD⟩
          ·rw [if_neg c10] at H
           have c10b0 : decide ((rd l1 x5_1) < (rd l0 x5_1)) = false := decide_eq_false c10
           clear c10
           have H' := aM H
           clear H
           have p178 : 0 ≤ (x5_1 : Int) := zoA
           have q178 : x5_1 < (l0.length : Int) := zoA
           obtain ⟨ad178, e178, hx178_0⟩ := Kd.at_int HR0.out x5_1 p178 q178
           cases e178
           replace p178 := eq_true p178
           replace q178 := eq_true q178
           have p179 : 0 ≤ (x5_1 : Int) := zoA
           have q179 : x5_1 < (l1.length : Int) := zoA
           obtain ⟨ad179, e179, hx179_0⟩ := Kd.at_int HR1.out x5_1 p179 q179
           cases e179
           replace p179 := eq_true p179
           replace q179 := eq_true q179
           have p180 : 0 ≤ (x5_1 : Int) := zoA
           have q180 : x5_1 < (l0.length : Int) := zoA
           obtain ⟨ad180, e180, hx180_0⟩ := Kd.at_int HR0.out x5_1 p180 q180
           obtain rfl : ad178 = ad180 := (by injection e180)
           replace p180 := eq_true p180
           replace q180 := eq_true q180
           have p181 : 0 ≤ (x5_1 : Int) := zoA
           have q181 : x5_1 < (l1.length : Int) := zoA
           obtain ⟨ad181, e181, hx181_0⟩ := Kd.at_int HR1.out x5_1 p181 q181
           obtain rfl : ad179 = ad181 := (by injection e181)
           replace p181 := eq_true p181
           replace q181 := eq_true q181
           go_wp2
           repeat (go_quiet (fail); try go_wp2)
           go_roundg kj2
           case measure => have := HK1.out; have := HJ2.out; omega
           case rel => exact ⟨(wrap64 (x5_1 + 1)), zP, H', ⟨by have := HK1.out; have := HJ2.out; omega⟩, zD⟩
        ·rw [if_neg c8] at H
         exact absurd H (by simp)
       ·rw [if_neg c7] at H
        exact absurd H (by simp)
      ·rw [if_neg c6] at H
       exact absurd H (by simp)
     ·replace c5 := Bool.eq_false_iff.mpr c5
      subst c5
      rw [if_neg (show ¬ (false = true) by decide)] at H
      by_cases c11 : (l0.length : Int) < (l1.length : Int)
      ·rw [if_pos c11] at H
       have c11b0 : decide ((l0.length : Int) < (l1.length : Int)) = true := decide_eq_true c11
       have c11b1 : decide (l0.length < l1.length) = true := decide_eq_true (Int.ofNat_lt.mp c11)
       clear c11
       obtain rfl := sI H
       go_wp2
       repeat (go_quiet (fail); try go_wp2)
       go_ret
       exact ⟨zP, zD⟩
      ·rw [if_neg c11] at H
       have c11b0 : decide ((l0.length : Int) < (l1.length : Int)) = false := decide_eq_false c11
       have c11b1 : decide (l0.length < l1.length) = false := decide_eq_false (fun h => c11 (Int.ofNat_lt.mpr h))
       clear c11
       by_cases c12 : (l0.length : Int) > (l1.length : Int)
       ·rw [if_pos c12] at H
        have c12b0 : decide ((l1.length : Int) < (l0.length : Int)) = true := decide_eq_true c12
        have c12b1 : decide (l1.length < l0.length) = true := decide_eq_true (Int.ofNat_lt.mp c12)
        clear c12
        obtain rfl := sI H
        go_wp2
        repeat (go_quiet (fail); try go_wp2)
        go_ret
        exact ⟨zP, zD⟩
       ·rw [if_neg c12] at H
        have c12b0 : decide ((l1.length : Int) < (l0.length : Int)) = false := decide_eq_false c12
        have c12b1 : decide (l1.length < l0.length) = false := decide_eq_false (fun h => c12 (Int.ofNat_lt.mpr h))
        clear c12
        obtain rfl := sI H
        go_wp2
        repeat (go_quiet (fail); try go_wp2)
        go_ret
        exact ⟨zP, zD⟩

/-! ### toponymlaw17_same: function 14 -/
def toponymlaw17_same.f (k : Nat) (l0 : List Int) (l1 : List Int) : Option (Bool) := if (l0.length : Int) = (l1.length : Int) then ((toponymref17_Cmp.f k l0 l1).bind fun t182 => (some (t182 == 0))) else (some false)
theorem toponymlaw17_same.mono : ∀ a0 a1 k, LeO (toponymlaw17_same.f k a0 a1) (toponymlaw17_same.f (k + 1) a0 a1) := by
 intro a0 a1 k
 unfold toponymlaw17_same.f
 repeat' first
   | (with_reducible exact toponymref17_Cmp.mono _ _ _)
   | (with_reducible exact LeO.refl _)
   | exact toponymref17_Cmp.mono _ _ _
   | exact LeO.none _
   | refine LeO.ite ?_ ?_
   | refine LeO.bind ?_ (fun _ => ?_)
set_option maxHeartbeats 8000000 in
set_option maxRecDepth 100000 in
theorem toponymlaw17_same.calls (k : Nat) (A0 : Option Addr) (c0 : Nat) (l0 : List Int) (A1 : Option Addr) (c1 : Nat) (l1 : List Int) (r : Bool) (w : World) (hr0 : Kd.C (Kd.int .i64) w A0 l0.length l0) (hc0 : l0.length ≤ c0) (hr1 : Kd.C (Kd.int .i64) w A1 l1.length l1) (hc1 : l1.length ≤ c1) (h : toponymlaw17_same.f k l0 l1 = some r) :
  Calls Tryd.prog 14 #[.slice A0 l0.length c0, .slice A1 l1.length c1] w fun e w' => e = .returned (.bool r) ∧ Drawn0 w w' := by
 have HR0 := aM hr0
 have HC0 := aM hc0
 clear hr0 hc0
 have HR1 := aM hr1
 have HC1 := aM hc1
 clear hr1 hc1
 have H := h
 clear h
 unfold toponymlaw17_same.f at H
 by_cases c3 : (l0.length : Int) = (l1.length : Int)
 ·rw [if_pos c3] at H
  have c3b0 : ((l0.length : Int) == (l1.length : Int)) = true := beq_iff_eq.mpr c3
  have c3b1 : ((l0.length : Int) != (l1.length : Int)) = false := bne_eq_false_iff_eq.mpr c3
  have c3b2 : (l0.length == l1.length) = true := by first | simpa using c3 | (simp at c3 ⊢; omega)
  clear c3
  obtain ⟨t182, A4, H⟩ := zO H
  obtain rfl := sI H
  go_enter Tryd.func14, Tryd.ntmps14
  go_wp2_with (first | (go_at_call 20; (with_reducible refine (toponymref17_Cmp.calls k _ _ l0 _ _ l1 t182 _ ?side1 ?side2 ?side3 ?side4 A4.out).mono ?_); (case side1 => exact zC HR0.out); (case side2 => exact HC0.out); (case side3 => exact zC HR1.out); (case side4 => exact HC1.out); rintro e w' ⟨rfl, ⟨nd, rfl⟩⟩))
  go_ret
  exact ⟨zP, zD⟩
 ·rw [if_neg c3] at H
  have c3b0 : ((l0.length : Int) == (l1.length : Int)) = false := beq_eq_false_iff_ne.mpr c3
  have c3b1 : ((l0.length : Int) != (l1.length : Int)) = true := bne_iff_ne.mpr c3
  have c3b2 : (l0.length == l1.length) = false := by first | simpa using c3 | (simp at c3 ⊢; omega)
  obtain rfl := sI H
  go_enter Tryd.func14, Tryd.ntmps14
  go_wp2
  go_ret
  exact ⟨zP, zD⟩

/-! ### toponymref17_Above: function 16 -/
def toponymref17_Above.f (k : Nat) (l0 : List Int) : Option (List Int) := (toponymref17_Check.f k l0).bind fun t183 => (if t183 = 0 then (if (l0.length : Int) = 2 then (some ([] : List Int)) else ((some (([] : List Int) : List Int)).bind fun y184 => (if 0 ≤ (wrap64 ((l0.length : Int) - 1)) then (if (wrap64 ((l0.length : Int) - 1)) ≤ (l0.length : Int) then (if y184.length + (l0.take ((wrap64 ((l0.length : Int) - 1)) : Int).toNat).length < 17592186044416 then (some (y184 ++ (l0.take ((wrap64 ((l0.length : Int) - 1)) : Int).toNat))) else (none)) else (none)) else (none)))) else (some ([] : List Int)))
theorem toponymref17_Above.mono : ∀ a0 k, LeO (toponymref17_Above.f k a0) (toponymref17_Above.f (k + 1) a0) := by
 intro a0 k
 unfold toponymref17_Above.f
 repeat' first
   | (with_reducible exact toponymref17_Check.mono _ _)
   | (with_reducible exact LeO.refl _)
   | exact toponymref17_Check.mono _ _
   | exact LeO.none _
   | refine LeO.ite ?_ ?_
   | refine LeO.bind ?_ (fun _ => ?_)
set_option maxHeartbeats 8000000 in
set_option maxRecDepth 100000 in
theorem toponymref17_Above.calls (k : Nat) (A0 : Option Addr) (c0 : Nat) (l0 : List Int) (r : List Int) (w : World) (hr0 : Kd.C (Kd.int .i64) w A0 l0.length l0) (hc0 : l0.length ≤ c0) (h : toponymref17_Above.f k l0 = some r) :
  Calls Tryd.prog 16 #[.slice A0 l0.length c0] w fun e w' => ∃ v0_ : Value, e = .returned (v0_) ∧ Kd.R (Kd.int .i64) 3 w' w.heap.size (fun _ => True) v0_ r ∧ Below w.heap.size w w' := by
 have HR0 := aM hr0
 have HC0 := aM hc0
 clear hr0 hc0
 have HB := aM (Below.refl w.heap.size w)
 have H := h
 clear h
 unfold toponymref17_Above.f at H
 obtain ⟨t183, A2, H⟩ := zO H
 by_cases c3 : t183 = 0
 ·rw [if_pos c3] at H
  have c3b0 : (t183 == 0) = true := beq_iff_eq.mpr c3
  have c3b1 : (t183 != 0) = false := bne_eq_false_iff_eq.mpr c3
  clear c3
  by_cases c4 : (l0.length : Int) = 2
  ·rw [if_pos c4] at H
   have c4b0 : ((l0.length : Int) == 2) = true := beq_iff_eq.mpr c4
   have c4b1 : ((l0.length : Int) != 2) = false := bne_eq_false_iff_eq.mpr c4
   clear c4
   obtain rfl := sI H
   go_enter Tryd.func16, Tryd.ntmps16
   go_wp2_with (first | ((with_reducible refine gate_callee (f := 13) rfl ?_); refine goesL_ (some 4) rfl rfl Tryd.func13 zK rfl #[.slice A0 l0.length c0] rfl zM ?_; (with_reducible refine (toponymref17_Check.calls k _ _ l0 t183 _ ?side1 ?side2 A2.out).mono ?_); (case side1 => exact zC HR0.out); (case side2 => exact HC0.out); rintro e w' ⟨rfl, ⟨nd, rfl⟩⟩; refine ⟨_, rfl, ?_⟩))
   go_ret
   exact ⟨_, zE, zL, zB⟩
  ·rw [if_neg c4] at H
   have c4b0 : ((l0.length : Int) == 2) = false := beq_eq_false_iff_ne.mpr c4
   have c4b1 : ((l0.length : Int) != 2) = true := bne_iff_ne.mpr c4
   obtain ⟨y184, hy184⟩ : ∃ y_ : List Int, y_ = (([] : List Int)) := ⟨_, rfl⟩
   replace H : (if 0 ≤ (wrap64 ((l0.length : Int) - 1)) then (if (wrap64 ((l0.length : Int) - 1)) ≤ (l0.length : Int) then (if y184.length + (l0.take ((wrap64 ((l0.length : Int) - 1)) : Int).toNat).length < 17592186044416 then (some (y184 ++ (l0.take ((wrap64 ((l0.length : Int) - 1)) : Int).toNat))) else (none)) else (none)) else (none)) = some r := zY hy184 H
   have Ny184 := aM hy184
   clear hy184
   obtain ⟨ji5, hji5⟩ : ∃ j_ : Int, (wrap64 ((l0.length : Int) - 1)) = j_ := ⟨_, rfl⟩
   replace H : (if 0 ≤ (ji5) then (if (ji5) ≤ (l0.length : Int) then (if y184.length + (l0.take ((ji5) : Int).toNat).length < 17592186044416 then (some (y184 ++ (l0.take ((ji5) : Int).toNat))) else (none)) else (none)) else (none)) = some r := by first | (rw [hji5] at H; exact H) | (simp only [hji5] at H ⊢; exact H)
   (try rw [hji5] at A2)
   have hji5w : (IntKind.i64.wrap ((l0.length : Int) - 1)) = ji5 := (i64_w _).trans hji5
   by_cases c6 : 0 ≤ (ji5)
   ·rw [if_pos c6] at H
    have c6b0 := eq_true c6
    have c6b1 : decide (0 ≤ (ji5)) = true := decide_eq_true c6
    clear c6
    by_cases c7 : (ji5) ≤ (l0.length : Int)
    ·rw [if_pos c7] at H
     have c7b0 := eq_true c7
     have c7b1 : decide ((ji5) ≤ (l0.length : Int)) = true := decide_eq_true c7
     clear c7
     by_cases c8 : y184.length + (l0.take ((ji5) : Int).toNat).length < 17592186044416
     ·rw [if_pos c8] at H
      have LMc8 := aM c8
      clear c8
      obtain ⟨y188, hy188⟩ : ∃ y_ : List Int, y_ = (y184 ++ (l0.take ((ji5) : Int).toNat)) := ⟨_, rfl⟩
      replace H : (some y188) = some r := zY hy188 H
      have Ny188 := aM hy188
      clear hy188
      obtain rfl := sI H
      go_enter Tryd.func16, Tryd.ntmps16
      go_wp2_with (first | ((with_reducible refine gate_callee (f := 13) rfl ?_); refine goesL_ (some 4) rfl rfl Tryd.func13 zK rfl #[.slice A0 l0.length c0] rfl zM ?_; (with_reducible refine (toponymref17_Check.calls k _ _ l0 t183 _ ?side1 ?side2 A2.out).mono ?_); (case side1 => exact zC HR0.out); (case side2 => exact HC0.out); rintro e w' ⟨rfl, ⟨nd, rfl⟩⟩; refine ⟨_, rfl, ?_⟩) | ((with_reducible refine gate_dst (N := 11) rfl ?_); (try (refine gate_guard (by rfl) ?_; dsimp only)); refine Kd.R_lit (Kd.int .i64) _ 3 ?hg (N := 11) ?hd (xs := ([] : List Int)) (inner := []) (ok := fun _ => True) (okp := fun _ => True) ?hr ?hp (fun _ hk => hk) trivial (Below.refl _ _) (Nat.le_refl _) (by simp) ?_; (case hd => rfl); (case hg => rfl); (case hr => first | (go_simp; done) | (go_simp; rfl)); (case hp => exact (Reps.none _ _)); intro v185 w9 ho10 hb hg_ hnew_; clear hg_ hnew_; (first | rw [← Ny184.out] at ho10 | (simp only [Int.reduceToNat] at ho10; rw [← Ny184.out] at ho10)); have n_ := zI (aM (Kd.R_lower ho10 (below_size zB))) (aM (below_step zB hb)); clear HB; obtain ⟨HO186, HB⟩ := n_; clear hb ho10; obtain ⟨i011, hi011, _, hsz11, _⟩ := info_parts info3; obtain ⟨hcut11, hA11, hC11⟩ := print_take_of (P := Tryd.prog) (Value.int .i64) 0 22 3 .i64 Tryd.underlying22 hi011 hsz11 A0 c0 l0 (ji5) (zoA) (zoA) HC0.out; have HR187 := aM (Kd.C_of_reads (h1 := fun _ => rfl) (hA11 _ (Kd.reads_of_C HR0.out))); have HC187 := aM hC11; clear hA11 hC11 hi011 hsz11) | ((with_reducible refine gate_builtin (b := .append) (xs := #[.tmp 11, .tmp 16]) rfl ?_); (try (refine gate_guard (by rfl) ?_; dsimp only)); at_builtin; refine Kd.R_append_rows (Kd.int .i64) (w0 := w) w.heap.size rfl (.tmp 11) (.tmp 16) 22 3 (.int .i64 0) 8 rfl Tryd.underlying22 info3 rfl (by decide) (by omega) v185 y184 (l0.take ((ji5) : Int).toNat) _ _ _ (fun _ => True) (fun _ => False) rfl rfl ?aO ?aR (fun _ _ h => h) (fun _ h => h.elim) ?aF ?aB ?aS ?aL ?_; (case aR => first | (rw [← show (l0.take ((ji5) : Int).toNat).length = (ji5).toNat from (by rw [List.length_take]; have h_ : ((ji5) : Int) ≤ (l0.length : Int) := zoA; omega)]; (repeat (first | exact (Kd.C_below HR187.out HB.out) | (with_reducible refine Kd.C_alloc ?_ _) | (with_reducible refine Kd.C_drewN ?_ _) | (with_reducible refine Kd.C_drew ?_))); done) | ((repeat (first | exact (Kd.C_below HR187.out HB.out) | (with_reducible refine Kd.C_alloc ?_ _) | (with_reducible refine Kd.C_drewN ?_ _) | (with_reducible refine Kd.C_drew ?_))); done) | ((conv => arg 5; rw [← show (l0.take ((ji5) : Int).toNat).length = (ji5).toNat from (by rw [List.length_take]; have h_ : ((ji5) : Int) ≤ (l0.length : Int) := zoA; omega)]); (repeat (first | exact (Kd.C_below HR187.out HB.out) | (with_reducible refine Kd.C_alloc ?_ _) | (with_reducible refine Kd.C_drewN ?_ _) | (with_reducible refine Kd.C_drew ?_))); done)); (case aB => exact zB); (case aF => exact (fun _ _ => trivial)); (case aO => exact (zR HO186)); (case aS => exact (below_size zB)); (case aL => have := LMc8.out; have hlx_ := (show (l0.take ((ji5) : Int).toNat).length = (ji5).toNat from (by rw [List.length_take]; have h_ : ((ji5) : Int) ≤ (l0.length : Int) := zoA; omega)); omega); intro v189 w12 ho hb hg hat; rw [← Ny188.out] at ho; have n_ := zI (aM (hb)) (aM (ho)); clear HB HO186; obtain ⟨HB, HO190⟩ := n_; clear ho hb hg hat))
      go_ret
      exact ⟨_, by first | rfl | (simp [errW_none, errW_some] <;> rfl) | (simp only [← hji5]; first | rfl | (simp [errW_none, errW_some] <;> rfl)) | (simp [*, errW_none, errW_some] <;> rfl), zR HO190, zB⟩
     ·rw [if_neg c8] at H
      exact absurd H (by simp)
    ·rw [if_neg c7] at H
     exact absurd H (by simp)
   ·rw [if_neg c6] at H
    exact absurd H (by simp)
 ·rw [if_neg c3] at H
  have c3b0 : (t183 == 0) = false := beq_eq_false_iff_ne.mpr c3
  have c3b1 : (t183 != 0) = true := bne_iff_ne.mpr c3
  obtain rfl := sI H
  go_enter Tryd.func16, Tryd.ntmps16
  go_wp2_with (first | ((with_reducible refine gate_callee (f := 13) rfl ?_); refine goesL_ (some 4) rfl rfl Tryd.func13 zK rfl #[.slice A0 l0.length c0] rfl zM ?_; (with_reducible refine (toponymref17_Check.calls k _ _ l0 t183 _ ?side1 ?side2 A2.out).mono ?_); (case side1 => exact zC HR0.out); (case side2 => exact HC0.out); rintro e w' ⟨rfl, ⟨nd, rfl⟩⟩; refine ⟨_, rfl, ?_⟩))
  go_ret
  exact ⟨_, zE, zL, zB⟩

/-! ### toponymlaw17_OidChecks: function 3 -/
def toponymlaw17_OidChecks.f (k : Nat) (l0 : List Int) : Option (Bool) := if (l0.length : Int) > 1000 then ((toponymlaw17_awake.f k).bind fun t191 => (some t191)) else ((oid_Show.f k l0).bind fun bt192 => ((toponymref17_Show.f k l0).bind fun bt194 => ((oid_Check.f k l0).bind fun t196 => ((toponymref17_Check.f k l0).bind fun t197 => (if t196 = t197 then (if bt192.1.toList = bt194.1.toList then (if bt192.2 = bt194.2 then ((oid_Above.f k l0).bind fun t198 => ((toponymref17_Above.f k l0).bind fun t201 => ((toponymlaw17_same.f k t198 t201).bind fun t204 => (if t204 = true then ((toponymlaw17_awake.f k).bind fun t205 => (some t205)) else (some false))))) else (some false)) else (some false)) else (some false))))))
theorem toponymlaw17_OidChecks.mono : ∀ a0 k, LeO (toponymlaw17_OidChecks.f k a0) (toponymlaw17_OidChecks.f (k + 1) a0) := by
 intro a0 k
 unfold toponymlaw17_OidChecks.f
 repeat' first
   | (with_reducible exact oid_Above.mono _ _)
   | (with_reducible exact oid_Check.mono _ _)
   | (with_reducible exact oid_Show.mono _ _)
   | (with_reducible exact toponymlaw17_awake.mono _)
   | (with_reducible exact toponymlaw17_same.mono _ _ _)
   | (with_reducible exact toponymref17_Above.mono _ _)
   | (with_reducible exact toponymref17_Check.mono _ _)
   | (with_reducible exact toponymref17_Show.mono _ _)
   | (with_reducible exact LeO.refl _)
   | exact oid_Above.mono _ _
   | exact oid_Check.mono _ _
   | exact oid_Show.mono _ _
   | exact toponymlaw17_awake.mono _
   | exact toponymlaw17_same.mono _ _ _
   | exact toponymref17_Above.mono _ _
   | exact toponymref17_Check.mono _ _
   | exact toponymref17_Show.mono _ _
   | exact LeO.none _
   | refine LeO.ite ?_ ?_
   | refine LeO.bind ?_ (fun _ => ?_)
set_option maxHeartbeats 8000000 in
set_option maxRecDepth 100000 in
theorem toponymlaw17_OidChecks.calls (k : Nat) (A0 : Option Addr) (c0 : Nat) (l0 : List Int) (r : Bool) (w : World) (hE : Env w) (hr0 : Kd.C (Kd.int .i64) w A0 l0.length l0) (hc0 : l0.length ≤ c0) (h : toponymlaw17_OidChecks.f k l0 = some r) (hT_ : r = true) :
  Calls Tryd.prog 3 #[.slice A0 l0.length c0] w fun e w' => e = .returned (.bool r) ∧ Below w.heap.size w w' := by
 have hT := aM hT_
 clear hT_
 have HE := aM hE
 clear hE
 have HR0 := aM hr0
 have HC0 := aM hc0
 clear hr0 hc0
 have HB := aM (Below.refl w.heap.size w)
 have H := h
 clear h
 unfold toponymlaw17_OidChecks.f at H
 by_cases c2 : (l0.length : Int) > 1000
 ·rw [if_pos c2] at H
  have c2b0 : decide (1000 < (l0.length : Int)) = true := decide_eq_true c2
  have c2b1 : decide (1000 < l0.length) = true := decide_eq_true (by omega)
  clear c2
  obtain ⟨t191, A3, H⟩ := zO H
  obtain rfl := sI H
  go_enter Tryd.func3, Tryd.ntmps3
  go_wp2_with (first | ((with_reducible refine gate_callee (f := 9) rfl ?_); refine goesL_ (some 10) rfl rfl Tryd.func9 zK rfl #[] rfl zM ?_; (with_reducible refine (toponymlaw17_awake.calls k  t191 _ (zEnv HE) A3.out).mono ?_); rintro e w4 ⟨rfl, hb⟩; (try clear A3); refine ⟨_, rfl, ?_⟩; replace HB := aM (below_step zB hb); (try clear hb)))
  go_ret
  exact ⟨zE, zB⟩
 ·rw [if_neg c2] at H
  have c2b0 : decide (1000 < (l0.length : Int)) = false := decide_eq_false c2
  have c2b1 : decide (1000 < l0.length) = false := decide_eq_false (by omega)
  clear c2
  obtain ⟨⟨t192, t193⟩, A5, H⟩ := zO H
  try dsimp only at H
  obtain ⟨⟨t194, t195⟩, A6, H⟩ := zO H
  try dsimp only at H
  obtain ⟨t196, A7, H⟩ := zO H
  obtain ⟨t197, A8, H⟩ := zO H
  by_cases c9 : t196 = t197
  ·rw [if_pos c9] at H
   have c9b0 : (t196 == t197) = true := beq_iff_eq.mpr c9
   have c9b1 : (t196 != t197) = false := bne_eq_false_iff_eq.mpr c9
   clear c9
   by_cases c10 : t192.toList = t194.toList
   ·rw [if_pos c10] at H
    have c10b0 : (t192.toList == t194.toList) = true := beq_iff_eq.mpr c10
    have c10b1 : (t192.toList != t194.toList) = false := bne_eq_false_iff_eq.mpr c10
    clear c10
    by_cases c11 : t193 = t195
    ·rw [if_pos c11] at H
     have c11b0 : (t193 == t195) = true := beq_iff_eq.mpr c11
     have c11b1 : (t193 != t195) = false := bne_eq_false_iff_eq.mpr c11
     clear c11
     obtain ⟨t198, A12, H⟩ := zO H
     obtain ⟨t201, A13, H⟩ := zO H
     obtain ⟨t204, A14, H⟩ := zO H
     by_cases c15 : t204 = true
     ·subst c15
      rw [if_pos rfl] at H
      obtain ⟨t205, A16, H⟩ := zO H
      obtain rfl := sI H
      go_enter Tryd.func3, Tryd.ntmps3
      go_wp2_with (first | ((with_reducible refine gate_callee (f := 10) rfl ?_); refine goesL_ (some 13) rfl rfl Tryd.func10 zK rfl #[.slice A0 l0.length c0] rfl zM ?_; (with_reducible refine (oid_Show.calls k _ _ l0 t192 t193 _ (zEnv HE) ?side1 ?side2 A5.out).mono ?_); (case side1 => exact zC HR0.out); (case side2 => exact HC0.out); rintro e w17 ⟨rfl, hb⟩; refine ⟨_, rfl, ?_⟩; replace HB := aM (below_step zB hb); (try clear hb)) | ((with_reducible refine gate_callee (f := 11) rfl ?_); refine goesL_ (some 18) rfl rfl Tryd.func11 zK rfl #[.slice A0 l0.length c0] rfl zM ?_; (with_reducible refine (toponymref17_Show.calls k _ _ l0 t194 t195 _ ?side1 ?side2 A6.out).mono ?_); (case side1 => exact zCB HR0); (case side2 => exact HC0.out); rintro e w18 ⟨rfl, hb⟩; refine ⟨_, rfl, ?_⟩; replace HB := aM (below_step zB hb); (try clear hb)) | ((with_reducible refine gate_callee (f := 12) rfl ?_); refine goesL_ (some 22) rfl rfl Tryd.func12 zK rfl #[.slice A0 l0.length c0] rfl zM ?_; (with_reducible refine (oid_Check.calls k _ _ l0 t196 _ ?side1 ?side2 A7.out).mono ?_); (case side1 => exact zCB HR0); (case side2 => exact HC0.out); rintro e w' ⟨rfl, ⟨nd, rfl⟩⟩; refine ⟨_, rfl, ?_⟩) | ((with_reducible refine gate_callee (f := 13) rfl ?_); refine goesL_ (some 24) rfl rfl Tryd.func13 zK rfl #[.slice A0 l0.length c0] rfl zM ?_; (with_reducible refine (toponymref17_Check.calls k _ _ l0 t197 _ ?side1 ?side2 A8.out).mono ?_); (case side1 => exact zCB HR0); (case side2 => exact HC0.out); rintro e w' ⟨rfl, ⟨nd, rfl⟩⟩; refine ⟨_, rfl, ?_⟩) | (go_at_call 15; (with_reducible refine (oid_Above.calls k _ _ l0 t198 _ ?side1 ?side2 A12.out).mono ?_); (case side1 => exact zCB HR0); (case side2 => exact HC0.out); rintro e w19 ⟨v199, rfl, ho0, hb⟩; have n_ := zI (aM (Kd.V_lower (Kd.V_mono (ok' := fun k_ => True) ho0 (fun k_ hk_ => trivial)) (below_size zB))) (aM (below_step zB hb)); clear HB; obtain ⟨HO200, HB⟩ := n_; (try clear hb); (try clear ho0)) | (go_at_call 16; (with_reducible refine (toponymref17_Above.calls k _ _ l0 t201 _ ?side1 ?side2 A13.out).mono ?_); (case side1 => exact zCB HR0); (case side2 => exact HC0.out); rintro e w20 ⟨v202, rfl, ho0, hb⟩; have n_ := zI (aM (Kd.V_elder' (zV HO200) (Kd.R_base ho0) hb)) (zI (aM (Kd.R_lower ho0 (below_size zB))) (aM (below_step zB hb))); clear HO200 HB; obtain ⟨HO200, HO203, HB⟩ := n_; (try clear hb); (try clear ho0); obtain ⟨Ao21, co21, rfl⟩ := Kd.V_slice HO200.out; obtain ⟨Ao22, co22, rfl⟩ := Kd.R_slice HO203.out) | (go_at_call 14; (with_reducible refine (toponymlaw17_same.calls k _ _ t198 _ _ t201 true _ ?side1 ?side2 ?side3 ?side4 A14.out).mono ?_); (case side1 => exact zC (Kd.V_reads' HO200.out).2.2); (case side2 => exact (Kd.V_reads' HO200.out).2.1); (case side3 => exact zC (Kd.R_reads' HO203.out).2.2); (case side4 => exact (Kd.R_reads' HO203.out).2.1); rintro e w' ⟨rfl, ⟨nd, rfl⟩⟩) | (go_at_call 9; (with_reducible refine (toponymlaw17_awake.calls k  t205 _ (zEnv HE) A16.out).mono ?_); rintro e w23 ⟨rfl, hb⟩; (try clear A16); have n_ := zI (aM (Kd.V_below (zV HO200) hb)) (zI (aM (Kd.R_below (zR HO203) hb)) (aM (below_step zB hb))); clear HO200 HO203 HB; obtain ⟨HO200, HO203, HB⟩ := n_; (try clear hb)))
      go_ret
      exact ⟨zE, zB⟩
     ·replace c15 := Bool.eq_false_iff.mpr c15
      subst c15
      rw [if_neg (show ¬ (false = true) by decide)] at H
      exact absurd ((sI H).trans hT.out) (by decide)
    ·rw [if_neg c11] at H
     exact absurd ((sI H).trans hT.out) (by decide)
   ·rw [if_neg c10] at H
    exact absurd ((sI H).trans hT.out) (by decide)
  ·rw [if_neg c9] at H
   exact absurd ((sI H).trans hT.out) (by decide)
/-- THE ONE PURE STATEMENT of toponymlaw17_OidChecks: yours. -/
def toponymlaw17_OidChecks.Pure : Prop := ∀ (l0 : List Int), l0.length ≤ maxLen → l0.length * 8 ≤ 140737488351232 → (∀ x ∈ l0, (Lit.int .i64 x).wf = true) → ∃ k, toponymlaw17_OidChecks.f k l0 = some true
theorem toponymlaw17_OidChecks.walk (P : toponymlaw17_OidChecks.Pure) (a0 : Option Addr) (len0 cap0 : Nat) (z0 : List Int) (w : World) (hE : Env w) (w0 : (a0 = none ∧ len0 = 0 ∧ cap0 = 0 ∧ z0 = []) ∨ ∃ x, a0 = some x ∧ len0 ≤ cap0 ∧ cap0 ≤ maxLen ∧ z0.length = cap0 ∧ (∀ i, i < z0.length → w.cell? (x.add i) = some (.int .i64 (z0.getD i 0))) ∧ ∀ n ∈ z0, (Lit.int .i64 n).wf = true) (y0 : len0 * 8 ≤ 140737488351232) :
  Calls Tryd.prog 3 #[.slice a0 len0 cap0] w fun e w' => e = .returned (.bool true) ∧ Below w.heap.size w w' := by
 obtain ⟨l0, rfl, hr0, hm0, hw0, hc0⟩ := ReadsInt.ofRowC w0
 obtain ⟨k, h⟩ := P l0 hm0 y0 hw0
 refine (toponymlaw17_OidChecks.calls k _ _ l0 true w hE (Kd.C_of_reads (d := (0 : Int)) (h1 := fun _ => rfl) hr0) hc0 h rfl).mono ?_
 rintro e w' ⟨rfl, hd⟩
 exact ⟨rfl, hd⟩

/-! ### toponymref17_Parse: function 18 -/
def toponymref17_Parse.l0 : Nat → ByteArray → List Int → Int → Int → Option (List Int × Int)
 | 0, _, _, _, _ => none
 | k + 1, x0, x4, x5, x6 => if x6 < (x0.size : Int) then (if 0 ≤ x6 then (if (bt x0 x6) = 46 then (if x4.length < 17592186044416 then (toponymref17_Parse.l0 k x0 (x4 ++ [x5]) 0 (wrap64 (x6 + 1))) else (none)) else (if (bt x0 x6) ≥ 48 then (if (bt x0 x6) ≤ 57 then (if x5 ≤ 99999 then (toponymref17_Parse.l0 k x0 x4 (wrap64 ((wrap64 ((wrap64 (10 * x5)) + (wrap64 (bt x0 x6)))) - 48)) (wrap64 (x6 + 1))) else (some (([] : List Int), 170))) else (some (([] : List Int), 170))) else (some (([] : List Int), 170)))) else (none)) else (if x4.length < 17592186044416 then ((some (x4 ++ [x5] : List Int)).bind fun y206 => ((toponymref17_Show.f k y206).bind fun bt209 => (if bt209.2 = 0 then (if bt209.1.toList = x0.toList then (some (y206, 0)) else (some (([] : List Int), 170))) else (some (([] : List Int), 170))))) else (none))
def toponymref17_Parse.f (k : Nat) (a0 : ByteArray) : Option (List Int × Int) := if (a0.size : Int) > 100 then (some (([] : List Int), 170)) else (toponymref17_Parse.l0 k a0 ([] : List Int) 0 0)
theorem toponymref17_Parse.mono_l : ∀ k, (∀ y0 y1 y2 y3, LeO (toponymref17_Parse.l0 k y0 y1 y2 y3) (toponymref17_Parse.l0 (k + 1) y0 y1 y2 y3))
 | 0 => fun _ _ _ _ r h => by simp [toponymref17_Parse.l0] at h
 | k + 1 => by
  have ih0 := toponymref17_Parse.mono_l k
  ·intro y0 y1 y2 y3
   unfold toponymref17_Parse.l0
   repeat' first
   | (with_reducible exact ih0 _ _ _ _)
   | (with_reducible exact toponymref17_Show.mono _ _)
   | (with_reducible exact LeO.refl _)
   | exact ih0 _ _ _ _
   | exact toponymref17_Show.mono _ _
   | exact LeO.none _
   | refine LeO.ite ?_ ?_
   | refine LeO.bind ?_ (fun _ => ?_)
theorem toponymref17_Parse.mono : ∀ a0 k, LeO (toponymref17_Parse.f k a0) (toponymref17_Parse.f (k + 1) a0) := by
 intro a0 k
 have ih0 := toponymref17_Parse.mono_l k
 unfold toponymref17_Parse.f
 repeat' first
   | (with_reducible exact ih0 _ _ _ _)
   | (with_reducible exact toponymref17_Show.mono _ _)
   | (with_reducible exact LeO.refl _)
   | exact ih0 _ _ _ _
   | exact toponymref17_Show.mono _ _
   | exact LeO.none _
   | refine LeO.ite ?_ ?_
   | refine LeO.bind ?_ (fun _ => ?_)
set_option maxHeartbeats 8000000 in
set_option maxRecDepth 100000 in
theorem toponymref17_Parse.calls (k : Nat) (a0 : ByteArray) (r1 : List Int) (r2 : Int) (w : World) (h : toponymref17_Parse.f k a0 = some (r1, r2)) :
  Calls Tryd.prog 18 #[.string a0] w fun e w' => ∃ v0_ : Value, e = .returned (.tuple #[v0_, .int .i64 r2]) ∧ Kd.R (Kd.int .i64) 3 w' w.heap.size (fun _ => True) v0_ r1 ∧ Below w.heap.size w w' := by
 have HB := aM (Below.refl w.heap.size w)
 have H := h
 clear h
 unfold toponymref17_Parse.f at H
 by_cases c2 : (a0.size : Int) > 100
 ·rw [if_pos c2] at H
  have c2b0 : decide (100 < (a0.size : Int)) = true := decide_eq_true c2
  have c2b1 : decide (100 < a0.size) = true := decide_eq_true (by omega)
  clear c2
  simp only [Option.some.injEq, Prod.mk.injEq] at H
  obtain ⟨rfl, rfl⟩ := H
  go_enter Tryd.func18, Tryd.ntmps18
  go_wp2
  go_ret2
  exact ⟨_, zE, zL, zB⟩
 ·rw [if_neg c2] at H
  have c2b0 : decide (100 < (a0.size : Int)) = false := decide_eq_false c2
  have c2b1 : decide (100 < a0.size) = false := decide_eq_false (by omega)
  clear c2
  have H' := aM H
  clear H
  go_enter Tryd.func18, Tryd.ntmps18
  go_wp2
  go_loopg [4, 5, 6] k (fun kq v4 v5 v6 w' => ∃ (x4_1 : List Int) (x5_1 : Int) (x6_1 : Int), v5 = .int .i64 x5_1 ∧ v6 = .int .i64 x6_1 ∧ Aside0 (toponymref17_Parse.l0 kq a0 x4_1 x5_1 x6_1 = some (r1, r2)) ∧ Aside0 (kq ≤ k) ∧ Aside0 (Kd.R (Kd.int .i64) 3 w' w.heap.size (fun _ => True) v4 x4_1) ∧ Aside0 (Below w.heap.size w w'))
  case atStart => exact ⟨(([] : List Int)), (0), (0), zP, zP, H', ⟨Nat.le_refl _⟩, ⟨zL⟩, ⟨zB⟩⟩
  case round =>
   clear H'
   try clear c1
   try clear c2
   try clear c2b0
   try clear c2b1
   try clear p2
   obtain ⟨x4_1, x5_1, x6_1, rfl, rfl, HA, HK1, HO_4, HB⟩ := hrel
   cases gk with
   | zero => exact absurd HA.out (by simp [toponymref17_Parse.l0])
   | succ k1 =>
    have H := HA.out
    clear HA
    simp only [toponymref17_Parse.l0] at H
    by_cases c3 : x6_1 < (a0.size : Int)
    ·rw [if_pos c3] at H
     have c3b0 : decide (x6_1 < (a0.size : Int)) = true := decide_eq_true c3
     clear c3
     by_cases c4 : 0 ≤ x6_1
     ·rw [if_pos c4] at H
      have c4b0 : decide (0 ≤ x6_1) = true := decide_eq_true c4
      clear c4
      by_cases c6 : (bt a0 x6_1) = 46
      ·rw [if_pos c6] at H
       have c6b0 : ((bt a0 x6_1) == 46) = true := beq_iff_eq.mpr c6
       have c6b1 : ((bt a0 x6_1) != 46) = false := bne_eq_false_iff_eq.mpr c6
       clear c6
       by_cases c7 : x4_1.length < 17592186044416
       ·rw [if_pos c7] at H
        have LMc7 := aM c7
        clear c7
        obtain ⟨y211, hy211⟩ : ∃ y_ : List Int, y_ = (x4_1 ++ [x5_1]) := ⟨_, rfl⟩
        replace H : (toponymref17_Parse.l0 k1 a0 y211 0 (wrap64 (x6_1 + 1))) = some (r1, r2) := zY hy211 H
        have Ny211 := aM hy211
        clear hy211
        have H' := aM H
        clear H
        have p5 : 0 ≤ (x6_1 : Int) := zoA
        have q5 : x6_1 < (a0.size : Int) := zoA
        have hx5 := bt_at a0 x6_1
        replace p5 := eq_true p5
        replace q5 := eq_true q5
        go_wp2_with (first | ((with_reducible refine gate_builtin (b := .append) (xs := #[.tmp 25, .tmp 27]) rfl ?_); at_builtin; refine Kd.R_append (Kd.int .i64) (w0 := w) w.heap.size rfl (.tmp 25) (.tmp 27) 22 3 (.int .i64 0) 8 rfl Tryd.underlying22 info3 rfl (by decide) (by omega) u4 x4_1 x5_1 [.int .i64 x5_1] (fun _ => True) (fun _ => False) rfl rfl ?aP (fun _ hk => hk.elim) ?aF ?aO ?aB ?aS ?aL ?_; (case aP => exact rfl); (case aB => exact zB); (case aF => exact (fun _ _ => trivial)); (case aO => exact (zR HO_4)); (case aS => exact (below_size zB)); (case aL => have := LMc7.out; omega); intro v212 w8 ho hb hg hat; rw [← Ny211.out] at ho; have n_ := zI (aM (hb)) (aM (ho)); clear HB HO_4; obtain ⟨HB, HO213⟩ := n_; clear ho hb hg hat))
        go_roundg k1
        case measure => have := HK1.out; omega
        case rel => exact ⟨(y211), (0), (wrap64 (x6_1 + 1)), zP, zP, H', ⟨by have := HK1.out; omega⟩, ⟨zR HO213⟩, ⟨zB⟩⟩
       ·rw [if_neg c7] at H
        exact absurd H (by simp)
      ·rw [if_neg c6] at H
       have c6b0 : ((bt a0 x6_1) == 46) = false := beq_eq_false_iff_ne.mpr c6
       have c6b1 : ((bt a0 x6_1) != 46) = true := bne_iff_ne.mpr c6
       by_cases c9 : (bt a0 x6_1) ≥ 48
       ·rw [if_pos c9] at H
        have c9b0 : decide (48 ≤ (bt a0 x6_1)) = true := decide_eq_true c9
        clear c9
        by_cases c10 : (bt a0 x6_1) ≤ 57
        ·rw [if_pos c10] at H
         have c10b0 : decide ((bt a0 x6_1) ≤ 57) = true := decide_eq_true c10
         clear c10
         by_cases c11 : x5_1 ≤ 99999
         ·rw [if_pos c11] at H
          have c11b0 : decide (x5_1 ≤ 99999) = true := decide_eq_true c11
          clear c11
          have H' := aM H
          clear H
          have p5 : 0 ≤ (x6_1 : Int) := zoA
          have q5 : x6_1 < (a0.size : Int) := zoA
          have hx5 := bt_at a0 x6_1
          replace p5 := eq_true p5
          replace q5 := eq_true q5
          go_wp2
          go_roundg k1
          case measure => have := HK1.out; omega
          case rel => exact ⟨(x4_1), (wrap64 ((wrap64 ((wrap64 (10 * x5_1)) + (wrap64 (bt a0 x6_1)))) - 48)), (wrap64 (x6_1 + 1)), zP, zP, H', ⟨by have := HK1.out; omega⟩, ⟨zR HO_4⟩, ⟨zB⟩⟩
         ·rw [if_neg c11] at H
          have c11b0 : decide (x5_1 ≤ 99999) = false := decide_eq_false c11
          clear c11
          simp only [Option.some.injEq, Prod.mk.injEq] at H
          obtain ⟨rfl, rfl⟩ := H
          have p5 : 0 ≤ (x6_1 : Int) := zoA
          have q5 : x6_1 < (a0.size : Int) := zoA
          have hx5 := bt_at a0 x6_1
          replace p5 := eq_true p5
          replace q5 := eq_true q5
          go_wp2
          go_ret2
          exact ⟨_, zE, zL, zB⟩
        ·rw [if_neg c10] at H
         have c10b0 : decide ((bt a0 x6_1) ≤ 57) = false := decide_eq_false c10
         clear c10
         simp only [Option.some.injEq, Prod.mk.injEq] at H
         obtain ⟨rfl, rfl⟩ := H
         have p5 : 0 ≤ (x6_1 : Int) := zoA
         have q5 : x6_1 < (a0.size : Int) := zoA
         have hx5 := bt_at a0 x6_1
         replace p5 := eq_true p5
         replace q5 := eq_true q5
         go_wp2
         go_ret2
         exact ⟨_, zE, zL, zB⟩
       ·rw [if_neg c9] at H
        have c9b0 : decide (48 ≤ (bt a0 x6_1)) = false := decide_eq_false c9
        clear c9
        simp only [Option.some.injEq, Prod.mk.injEq] at H
        obtain ⟨rfl, rfl⟩ := H
        have p5 : 0 ≤ (x6_1 : Int) := zoA
        have q5 : x6_1 < (a0.size : Int) := zoA
        have hx5 := bt_at a0 x6_1
        replace p5 := eq_true p5
        replace q5 := eq_true q5
        go_wp2
        go_ret2
        exact ⟨_, zE, zL, zB⟩
     ·rw [if_neg c4] at H
      exact absurd H (by simp)
    ·rw [if_neg c3] at H
     have c3b0 : decide (x6_1 < (a0.size : Int)) = false := decide_eq_false c3
     clear c3
     by_cases c12 : x4_1.length < 17592186044416
     ·rw [if_pos c12] at H
      have LMc12 := aM c12
      clear c12
      obtain ⟨y206, hy206⟩ : ∃ y_ : List Int, y_ = (x4_1 ++ [x5_1]) := ⟨_, rfl⟩
      replace H : ((toponymref17_Show.f k1 y206).bind fun bt209 => (if bt209.2 = 0 then (if bt209.1.toList = a0.toList then (some (y206, 0)) else (some (([] : List Int), 170))) else (some (([] : List Int), 170)))) = some (r1, r2) := zY hy206 H
      have Ny206 := aM hy206
      clear hy206
      obtain ⟨⟨t209, t210⟩, A13, H⟩ := zO H
      try dsimp only at H
      by_cases c14 : t210 = 0
      ·rw [if_pos c14] at H
       have c14b0 : (t210 == 0) = true := beq_iff_eq.mpr c14
       have c14b1 : (t210 != 0) = false := bne_eq_false_iff_eq.mpr c14
       clear c14
       by_cases c15 : t209.toList = a0.toList
       ·rw [if_pos c15] at H
        have c15b0 : (t209.toList == a0.toList) = true := beq_iff_eq.mpr c15
        have c15b1 : (t209.toList != a0.toList) = false := bne_eq_false_iff_eq.mpr c15
        clear c15
        simp only [Option.some.injEq, Prod.mk.injEq] at H
        obtain ⟨rfl, rfl⟩ := H
        go_wp2_with (first | ((with_reducible refine gate_builtin (b := .append) (xs := #[.tmp 46, .tmp 48]) rfl ?_); at_builtin; refine Kd.R_append (Kd.int .i64) (w0 := w) w.heap.size rfl (.tmp 46) (.tmp 48) 22 3 (.int .i64 0) 8 rfl Tryd.underlying22 info3 rfl (by decide) (by omega) u4 x4_1 x5_1 [.int .i64 x5_1] (fun _ => True) (fun _ => False) rfl rfl ?aP (fun _ hk => hk.elim) ?aF ?aO ?aB ?aS ?aL ?_; (case aP => exact rfl); (case aB => exact zB); (case aF => exact (fun _ _ => trivial)); (case aO => exact (zR HO_4)); (case aS => exact (below_size zB)); (case aL => have := LMc12.out; omega); intro v207 w16 ho hb hg hat; rw [← Ny206.out] at ho; have n_ := zI (aM (hb)) (aM (ho)); clear HB HO_4; obtain ⟨HB, HO208⟩ := n_; clear ho hb hg hat; obtain ⟨Ao17, co17, rfl⟩ := Kd.R_slice HO208.out) | ((with_reducible refine gate_callee (f := 11) rfl ?_); refine goesL_ (some 52) rfl rfl Tryd.func11 zK rfl #[.slice Ao17 y206.length co17] rfl zM ?_; (with_reducible refine (toponymref17_Show.calls k1 _ _ y206 t209 t210 _ ?side1 ?side2 A13.out).mono ?_); (case side1 => exact zC (Kd.R_reads' HO208.out).2.2); (case side2 => exact (Kd.R_reads' HO208.out).2.1); rintro e w18 ⟨rfl, hb⟩; refine ⟨_, rfl, ?_⟩; have n_ := zI (aM (Kd.R_below (zR HO208) hb)) (aM (below_step zB hb)); clear HO208 HB; obtain ⟨HO208, HB⟩ := n_; (try clear hb); (try clear hk)))
        go_ret2
        exact ⟨_, zE, zR HO208, zB⟩
       ·rw [if_neg c15] at H
        have c15b0 : (t209.toList == a0.toList) = false := beq_eq_false_iff_ne.mpr c15
        have c15b1 : (t209.toList != a0.toList) = true := bne_iff_ne.mpr c15
        simp only [Option.some.injEq, Prod.mk.injEq] at H
        obtain ⟨rfl, rfl⟩ := H
        go_wp2_with (first | ((with_reducible refine gate_builtin (b := .append) (xs := #[.tmp 46, .tmp 48]) rfl ?_); at_builtin; refine Kd.R_append (Kd.int .i64) (w0 := w) w.heap.size rfl (.tmp 46) (.tmp 48) 22 3 (.int .i64 0) 8 rfl Tryd.underlying22 info3 rfl (by decide) (by omega) u4 x4_1 x5_1 [.int .i64 x5_1] (fun _ => True) (fun _ => False) rfl rfl ?aP (fun _ hk => hk.elim) ?aF ?aO ?aB ?aS ?aL ?_; (case aP => exact rfl); (case aB => exact zB); (case aF => exact (fun _ _ => trivial)); (case aO => exact (zR HO_4)); (case aS => exact (below_size zB)); (case aL => have := LMc12.out; omega); intro v207 w19 ho hb hg hat; rw [← Ny206.out] at ho; have n_ := zI (aM (hb)) (aM (ho)); clear HB HO_4; obtain ⟨HB, HO208⟩ := n_; clear ho hb hg hat; obtain ⟨Ao20, co20, rfl⟩ := Kd.R_slice HO208.out) | ((with_reducible refine gate_callee (f := 11) rfl ?_); refine goesL_ (some 52) rfl rfl Tryd.func11 zK rfl #[.slice Ao20 y206.length co20] rfl zM ?_; (with_reducible refine (toponymref17_Show.calls k1 _ _ y206 t209 t210 _ ?side1 ?side2 A13.out).mono ?_); (case side1 => exact zC (Kd.R_reads' HO208.out).2.2); (case side2 => exact (Kd.R_reads' HO208.out).2.1); rintro e w21 ⟨rfl, hb⟩; refine ⟨_, rfl, ?_⟩; have n_ := zI (aM (Kd.R_below (zR HO208) hb)) (aM (below_step zB hb)); clear HO208 HB; obtain ⟨HO208, HB⟩ := n_; (try clear hb); (try clear hk)))
        go_ret2
        exact ⟨_, zE, zL, zB⟩
      ·rw [if_neg c14] at H
       have c14b0 : (t210 == 0) = false := beq_eq_false_iff_ne.mpr c14
       have c14b1 : (t210 != 0) = true := bne_iff_ne.mpr c14
       simp only [Option.some.injEq, Prod.mk.injEq] at H
       obtain ⟨rfl, rfl⟩ := H
       go_wp2_with (first | ((with_reducible refine gate_builtin (b := .append) (xs := #[.tmp 46, .tmp 48]) rfl ?_); at_builtin; refine Kd.R_append (Kd.int .i64) (w0 := w) w.heap.size rfl (.tmp 46) (.tmp 48) 22 3 (.int .i64 0) 8 rfl Tryd.underlying22 info3 rfl (by decide) (by omega) u4 x4_1 x5_1 [.int .i64 x5_1] (fun _ => True) (fun _ => False) rfl rfl ?aP (fun _ hk => hk.elim) ?aF ?aO ?aB ?aS ?aL ?_; (case aP => exact rfl); (case aB => exact zB); (case aF => exact (fun _ _ => trivial)); (case aO => exact (zR HO_4)); (case aS => exact (below_size zB)); (case aL => have := LMc12.out; omega); intro v207 w22 ho hb hg hat; rw [← Ny206.out] at ho; have n_ := zI (aM (hb)) (aM (ho)); clear HB HO_4; obtain ⟨HB, HO208⟩ := n_; clear ho hb hg hat; obtain ⟨Ao23, co23, rfl⟩ := Kd.R_slice HO208.out) | ((with_reducible refine gate_callee (f := 11) rfl ?_); refine goesL_ (some 52) rfl rfl Tryd.func11 zK rfl #[.slice Ao23 y206.length co23] rfl zM ?_; (with_reducible refine (toponymref17_Show.calls k1 _ _ y206 t209 t210 _ ?side1 ?side2 A13.out).mono ?_); (case side1 => exact zC (Kd.R_reads' HO208.out).2.2); (case side2 => exact (Kd.R_reads' HO208.out).2.1); rintro e w24 ⟨rfl, hb⟩; refine ⟨_, rfl, ?_⟩; have n_ := zI (aM (Kd.R_below (zR HO208) hb)) (aM (below_step zB hb)); clear HO208 HB; obtain ⟨HO208, HB⟩ := n_; (try clear hb); (try clear hk)))
       go_ret2
       exact ⟨_, zE, zL, zB⟩
     ·rw [if_neg c12] at H
      exact absurd H (by simp)

/-! ### toponymlaw17_OidParses: function 4 -/
def toponymlaw17_OidParses.f (k : Nat) (a0 : ByteArray) : Option (Bool) := (oid_Parse.f k a0).bind fun bt214 => ((toponymref17_Parse.f k a0).bind fun bt218 => ((toponymlaw17_same.f k bt214.1 bt218.1).bind fun t222 => (if t222 = true then (if bt214.2 = bt218.2 then ((toponymlaw17_awake.f k).bind fun t223 => (some t223)) else (some false)) else (some false))))
theorem toponymlaw17_OidParses.mono : ∀ a0 k, LeO (toponymlaw17_OidParses.f k a0) (toponymlaw17_OidParses.f (k + 1) a0) := by
 intro a0 k
 unfold toponymlaw17_OidParses.f
 repeat' first
   | (with_reducible exact oid_Parse.mono _ _)
   | (with_reducible exact toponymlaw17_awake.mono _)
   | (with_reducible exact toponymlaw17_same.mono _ _ _)
   | (with_reducible exact toponymref17_Parse.mono _ _)
   | (with_reducible exact LeO.refl _)
   | exact oid_Parse.mono _ _
   | exact toponymlaw17_awake.mono _
   | exact toponymlaw17_same.mono _ _ _
   | exact toponymref17_Parse.mono _ _
   | exact LeO.none _
   | refine LeO.ite ?_ ?_
   | refine LeO.bind ?_ (fun _ => ?_)
set_option maxHeartbeats 8000000 in
set_option maxRecDepth 100000 in
theorem toponymlaw17_OidParses.calls (k : Nat) (a0 : ByteArray) (r : Bool) (w : World) (hE : Env w) (h : toponymlaw17_OidParses.f k a0 = some r) (hT_ : r = true) :
  Calls Tryd.prog 4 #[.string a0] w fun e w' => e = .returned (.bool r) ∧ Below w.heap.size w w' := by
 have hT := aM hT_
 clear hT_
 have HE := aM hE
 clear hE
 have HB := aM (Below.refl w.heap.size w)
 have H := h
 clear h
 unfold toponymlaw17_OidParses.f at H
 obtain ⟨⟨t214, t215⟩, A2, H⟩ := zO H
 try dsimp only at H
 obtain ⟨⟨t218, t219⟩, A3, H⟩ := zO H
 try dsimp only at H
 obtain ⟨t222, A4, H⟩ := zO H
 by_cases c5 : t222 = true
 ·subst c5
  rw [if_pos rfl] at H
  by_cases c6 : t215 = t219
  ·rw [if_pos c6] at H
   have c6b0 : (t215 == t219) = true := beq_iff_eq.mpr c6
   have c6b1 : (t215 != t219) = false := bne_eq_false_iff_eq.mpr c6
   clear c6
   obtain ⟨t223, A7, H⟩ := zO H
   obtain rfl := sI H
   go_enter Tryd.func4, Tryd.ntmps4
   go_wp2_with (first | ((with_reducible refine gate_callee (f := 17) rfl ?_); refine goesL_ (some 9) rfl rfl Tryd.func17 zK rfl #[.string a0] rfl zM ?_; (with_reducible refine (oid_Parse.calls k a0 t214 t215 _ (zEnv HE) A2.out).mono ?_); rintro e w8 ⟨v216, rfl, ho0, hb⟩; refine ⟨_, rfl, ?_⟩; have n_ := zI (aM (Kd.R_lower ho0 (below_size zB))) (aM (below_step zB hb)); clear HB; obtain ⟨HO217, HB⟩ := n_; (try clear hb); (try clear ho0)) | ((with_reducible refine gate_callee (f := 18) rfl ?_); refine goesL_ (some 14) rfl rfl Tryd.func18 zK rfl #[.string a0] rfl zM ?_; (with_reducible refine (toponymref17_Parse.calls k a0 t218 t219 _ A3.out).mono ?_); rintro e w9 ⟨v220, rfl, ho0, hb⟩; refine ⟨_, rfl, ?_⟩; have n_ := zI (aM (Kd.R_elder' (zR HO217) (Kd.R_base ho0) hb)) (zI (aM (Kd.R_lower (Kd.R_new' ho0 (Kd.R_lt (zR HO217))) (below_size zB))) (aM (below_step zB hb))); clear HO217 HB; obtain ⟨HO217, HO221, HB⟩ := n_; (try clear hb); (try clear ho0); obtain ⟨Ao10, co10, rfl⟩ := Kd.R_slice HO217.out; obtain ⟨Ao11, co11, rfl⟩ := Kd.R_slice HO221.out) | ((with_reducible refine gate_callee (f := 14) rfl ?_); refine goesL_ (some 19) rfl rfl Tryd.func14 zK rfl #[.slice Ao10 t214.length co10, .slice Ao11 t218.length co11] rfl zM ?_; (with_reducible refine (toponymlaw17_same.calls k _ _ t214 _ _ t218 true _ ?side1 ?side2 ?side3 ?side4 A4.out).mono ?_); (case side1 => exact zC (Kd.R_reads' HO217.out).2.2); (case side2 => exact (Kd.R_reads' HO217.out).2.1); (case side3 => exact zC (Kd.R_reads' HO221.out).2.2); (case side4 => exact (Kd.R_reads' HO221.out).2.1); rintro e w' ⟨rfl, ⟨nd, rfl⟩⟩; refine ⟨_, rfl, ?_⟩) | (go_at_call 9; (with_reducible refine (toponymlaw17_awake.calls k  t223 _ (zEnv HE) A7.out).mono ?_); rintro e w12 ⟨rfl, hb⟩; have n_ := zI (aM (Kd.R_below (zR HO217) hb)) (zI (aM (Kd.R_below (zR HO221) hb)) (aM (below_step zB hb))); clear HO217 HO221 HB; obtain ⟨HO217, HO221, HB⟩ := n_; (try clear hb)))
   go_ret
   exact ⟨zE, zB⟩
  ·rw [if_neg c6] at H
   exact absurd ((sI H).trans hT.out) (by decide)
 ·replace c5 := Bool.eq_false_iff.mpr c5
  subst c5
  rw [if_neg (show ¬ (false = true) by decide)] at H
  exact absurd ((sI H).trans hT.out) (by decide)
/-- THE ONE PURE STATEMENT of toponymlaw17_OidParses: yours. -/
def toponymlaw17_OidParses.Pure : Prop := ∀ (a0 : ByteArray), a0.size ≤ 140737488351232 → ∃ k, toponymlaw17_OidParses.f k a0 = some true
theorem toponymlaw17_OidParses.walk (P : toponymlaw17_OidParses.Pure) (a0 : ByteArray) (w : World) (hE : Env w) (w0 : a0.size ≤ 140737488351232) :
  Calls Tryd.prog 4 #[.string a0] w fun e w' => e = .returned (.bool true) ∧ Below w.heap.size w w' := by
 obtain ⟨k, h⟩ := P a0 w0
 refine (toponymlaw17_OidParses.calls k a0 true w hE h rfl).mono ?_
 rintro e w' ⟨rfl, hd⟩
 exact ⟨rfl, hd⟩

/-! ### toponymref17_Under: function 22 -/
def toponymref17_Under.f (k : Nat) (l0 : List Int) (l1 : List Int) : Option (Bool) := (toponymref17_Check.f k l0).bind fun t224 => (if t224 = 0 then ((toponymref17_Check.f k l1).bind fun t225 => (if t225 = 0 then (if (l1.length : Int) ≤ (l0.length : Int) then (if 0 ≤ (l1.length : Int) then ((toponymref17_Cmp.f k (l0.take ((l1.length : Int) : Int).toNat) l1).bind fun t227 => (some (t227 == 0))) else (none)) else (some false)) else (some false))) else (some false))
theorem toponymref17_Under.mono : ∀ a0 a1 k, LeO (toponymref17_Under.f k a0 a1) (toponymref17_Under.f (k + 1) a0 a1) := by
 intro a0 a1 k
 unfold toponymref17_Under.f
 repeat' first
   | (with_reducible exact toponymref17_Check.mono _ _)
   | (with_reducible exact toponymref17_Cmp.mono _ _ _)
   | (with_reducible exact LeO.refl _)
   | exact toponymref17_Check.mono _ _
   | exact toponymref17_Cmp.mono _ _ _
   | exact LeO.none _
   | refine LeO.ite ?_ ?_
   | refine LeO.bind ?_ (fun _ => ?_)
set_option maxHeartbeats 8000000 in
set_option maxRecDepth 100000 in
theorem toponymref17_Under.calls (k : Nat) (A0 : Option Addr) (c0 : Nat) (l0 : List Int) (A1 : Option Addr) (c1 : Nat) (l1 : List Int) (r : Bool) (w : World) (hr0 : Kd.C (Kd.int .i64) w A0 l0.length l0) (hc0 : l0.length ≤ c0) (hr1 : Kd.C (Kd.int .i64) w A1 l1.length l1) (hc1 : l1.length ≤ c1) (h : toponymref17_Under.f k l0 l1 = some r) :
  Calls Tryd.prog 22 #[.slice A0 l0.length c0, .slice A1 l1.length c1] w fun e w' => e = .returned (.bool r) ∧ Drawn0 w w' := by
 have HR0 := aM hr0
 have HC0 := aM hc0
 clear hr0 hc0
 have HR1 := aM hr1
 have HC1 := aM hc1
 clear hr1 hc1
 have H := h
 clear h
 unfold toponymref17_Under.f at H
 obtain ⟨t224, A3, H⟩ := zO H
 by_cases c4 : t224 = 0
 ·rw [if_pos c4] at H
  have c4b0 : (t224 == 0) = true := beq_iff_eq.mpr c4
  have c4b1 : (t224 != 0) = false := bne_eq_false_iff_eq.mpr c4
  clear c4
  obtain ⟨t225, A5, H⟩ := zO H
  by_cases c6 : t225 = 0
  ·rw [if_pos c6] at H
   have c6b0 : (t225 == 0) = true := beq_iff_eq.mpr c6
   have c6b1 : (t225 != 0) = false := bne_eq_false_iff_eq.mpr c6
   clear c6
   by_cases c7 : (l1.length : Int) ≤ (l0.length : Int)
   ·rw [if_pos c7] at H
    have c7b0 : decide ((l1.length : Int) ≤ (l0.length : Int)) = true := decide_eq_true c7
    have c7b1 : decide (l1.length ≤ l0.length) = true := decide_eq_true (Int.ofNat_le.mp c7)
    clear c7
    by_cases c8 : 0 ≤ (l1.length : Int)
    ·rw [if_pos c8] at H
     have c8b0 := eq_true c8
     have c8b1 : decide (0 ≤ (l1.length : Int)) = true := decide_eq_true c8
     clear c8
     have c9b0 := eq_true (zoA : (l1.length : Int) ≤ (l0.length : Int))
     obtain ⟨t227, A10, H⟩ := zO H
     obtain rfl := sI H
     go_enter Tryd.func22, Tryd.ntmps22
     go_wp2_with (first | ((with_reducible refine gate_callee (f := 13) rfl ?_); refine goesL_ (some 6) rfl rfl Tryd.func13 zK rfl #[.slice A0 l0.length c0] rfl zM ?_; (with_reducible refine (toponymref17_Check.calls k _ _ l0 t224 _ ?side1 ?side2 A3.out).mono ?_); (case side1 => exact zC HR0.out); (case side2 => exact HC0.out); rintro e w' ⟨rfl, ⟨nd, rfl⟩⟩; (try clear A3); refine ⟨_, rfl, ?_⟩) | (go_at_call 13; (with_reducible refine (toponymref17_Check.calls k _ _ l1 t225 _ ?side1 ?side2 A5.out).mono ?_); (case side1 => exact zC HR1.out); (case side2 => exact HC1.out); rintro e w' ⟨rfl, ⟨nd, rfl⟩⟩; (try clear A5); obtain ⟨i011, hi011, _, hsz11, _⟩ := info_parts info3; obtain ⟨hcut11, hA11, hC11⟩ := print_take_of (P := Tryd.prog) (Value.int .i64) 0 22 3 .i64 Tryd.underlying22 hi011 hsz11 A0 c0 l0 (l1.length : Int) (zoA) (zoA) HC0.out; have HR226 := aM (Kd.C_of_reads (h1 := fun _ => rfl) (hA11 _ (Kd.reads_of_C HR0.out))); have HC226 := aM hC11; clear hA11 hC11 hi011 hsz11) | (go_at_call 20; (try rw [show min l1.length l0.length = (List.take ((l1.length : Int) : Int).toNat l0).length from by simp]); (with_reducible refine (toponymref17_Cmp.calls k _ _ (l0.take ((l1.length : Int) : Int).toNat) _ _ l1 t227 _ ?side1 ?side2 ?side3 ?side4 A10.out).mono ?_); (case side1 => exact zC HR226.out); (case side2 => exact HC226.out); (case side3 => exact zC HR1.out); (case side4 => exact HC1.out); rintro e w' ⟨rfl, ⟨nd, rfl⟩⟩))
     go_ret
     exact ⟨zP, zD⟩
    ·rw [if_neg c8] at H
     exact absurd H (by simp)
   ·rw [if_neg c7] at H
    have c7b0 : decide ((l1.length : Int) ≤ (l0.length : Int)) = false := decide_eq_false c7
    have c7b1 : decide (l1.length ≤ l0.length) = false := decide_eq_false (fun h => c7 (Int.ofNat_le.mpr h))
    clear c7
    obtain rfl := sI H
    go_enter Tryd.func22, Tryd.ntmps22
    go_wp2_with (first | ((with_reducible refine gate_callee (f := 13) rfl ?_); refine goesL_ (some 6) rfl rfl Tryd.func13 zK rfl #[.slice A0 l0.length c0] rfl zM ?_; (with_reducible refine (toponymref17_Check.calls k _ _ l0 t224 _ ?side1 ?side2 A3.out).mono ?_); (case side1 => exact zC HR0.out); (case side2 => exact HC0.out); rintro e w' ⟨rfl, ⟨nd, rfl⟩⟩; (try clear A3); refine ⟨_, rfl, ?_⟩) | (go_at_call 13; (with_reducible refine (toponymref17_Check.calls k _ _ l1 t225 _ ?side1 ?side2 A5.out).mono ?_); (case side1 => exact zC HR1.out); (case side2 => exact HC1.out); rintro e w' ⟨rfl, ⟨nd, rfl⟩⟩; (try clear A5)))
    go_ret
    exact ⟨zP, zD⟩
  ·rw [if_neg c6] at H
   have c6b0 : (t225 == 0) = false := beq_eq_false_iff_ne.mpr c6
   have c6b1 : (t225 != 0) = true := bne_iff_ne.mpr c6
   obtain rfl := sI H
   go_enter Tryd.func22, Tryd.ntmps22
   go_wp2_with (first | ((with_reducible refine gate_callee (f := 13) rfl ?_); refine goesL_ (some 6) rfl rfl Tryd.func13 zK rfl #[.slice A0 l0.length c0] rfl zM ?_; (with_reducible refine (toponymref17_Check.calls k _ _ l0 t224 _ ?side1 ?side2 A3.out).mono ?_); (case side1 => exact zC HR0.out); (case side2 => exact HC0.out); rintro e w' ⟨rfl, ⟨nd, rfl⟩⟩; (try clear A3); refine ⟨_, rfl, ?_⟩) | (go_at_call 13; (with_reducible refine (toponymref17_Check.calls k _ _ l1 t225 _ ?side1 ?side2 A5.out).mono ?_); (case side1 => exact zC HR1.out); (case side2 => exact HC1.out); rintro e w' ⟨rfl, ⟨nd, rfl⟩⟩; (try clear A5)))
   go_ret
   exact ⟨zP, zD⟩
 ·rw [if_neg c4] at H
  have c4b0 : (t224 == 0) = false := beq_eq_false_iff_ne.mpr c4
  have c4b1 : (t224 != 0) = true := bne_iff_ne.mpr c4
  obtain rfl := sI H
  go_enter Tryd.func22, Tryd.ntmps22
  go_wp2_with (first | ((with_reducible refine gate_callee (f := 13) rfl ?_); refine goesL_ (some 6) rfl rfl Tryd.func13 zK rfl #[.slice A0 l0.length c0] rfl zM ?_; (with_reducible refine (toponymref17_Check.calls k _ _ l0 t224 _ ?side1 ?side2 A3.out).mono ?_); (case side1 => exact zC HR0.out); (case side2 => exact HC0.out); rintro e w' ⟨rfl, ⟨nd, rfl⟩⟩; (try clear A3); refine ⟨_, rfl, ?_⟩))
  go_ret
  exact ⟨zP, zD⟩

/-! ### toponymlaw17_OidPairs: function 5 -/
def toponymlaw17_OidPairs.j0 : Nat → List Int → List Int → Bool → Option (Bool)
 | 0, _, _, _ => none
 | k + 1, x0, x1, x12 => if x12 = true then ((toponymlaw17_awake.f k).bind fun t228 => (some t228)) else ((oid_Cmp.f k x0 x1).bind fun t229 => ((toponymref17_Cmp.f k x0 x1).bind fun t230 => (if t229 = t230 then ((oid_Under.f k x0 x1).bind fun t231 => ((toponymref17_Under.f k x0 x1).bind fun t232 => (if (t231 == t232) = true then ((toponymlaw17_awake.f k).bind fun t233 => (some t233)) else (some false)))) else (some false))))
def toponymlaw17_OidPairs.f (k : Nat) (l0 : List Int) (l1 : List Int) : Option (Bool) := if (l0.length : Int) > 1000 then (toponymlaw17_OidPairs.j0 k l0 l1 true) else (toponymlaw17_OidPairs.j0 k l0 l1 (decide ((l1.length : Int) > 1000)))
theorem toponymlaw17_OidPairs.mono_l : ∀ k, (∀ y0 y1 y2, LeO (toponymlaw17_OidPairs.j0 k y0 y1 y2) (toponymlaw17_OidPairs.j0 (k + 1) y0 y1 y2))
 | 0 => fun _ _ _ r h => by simp [toponymlaw17_OidPairs.j0] at h
 | k + 1 => by
  have ih0 := toponymlaw17_OidPairs.mono_l k
  ·intro y0 y1 y2
   unfold toponymlaw17_OidPairs.j0
   repeat' first
   | (with_reducible exact ih0 _ _ _)
   | (with_reducible exact oid_Cmp.mono _ _ _)
   | (with_reducible exact oid_Under.mono _ _ _)
   | (with_reducible exact toponymlaw17_awake.mono _)
   | (with_reducible exact toponymref17_Cmp.mono _ _ _)
   | (with_reducible exact toponymref17_Under.mono _ _ _)
   | (with_reducible exact LeO.refl _)
   | exact ih0 _ _ _
   | exact oid_Cmp.mono _ _ _
   | exact oid_Under.mono _ _ _
   | exact toponymlaw17_awake.mono _
   | exact toponymref17_Cmp.mono _ _ _
   | exact toponymref17_Under.mono _ _ _
   | exact LeO.none _
   | refine LeO.ite ?_ ?_
   | refine LeO.bind ?_ (fun _ => ?_)
theorem toponymlaw17_OidPairs.mono : ∀ a0 a1 k, LeO (toponymlaw17_OidPairs.f k a0 a1) (toponymlaw17_OidPairs.f (k + 1) a0 a1) := by
 intro a0 a1 k
 have ih0 := toponymlaw17_OidPairs.mono_l k
 unfold toponymlaw17_OidPairs.f
 repeat' first
   | (with_reducible exact ih0 _ _ _)
   | (with_reducible exact oid_Cmp.mono _ _ _)
   | (with_reducible exact oid_Under.mono _ _ _)
   | (with_reducible exact toponymlaw17_awake.mono _)
   | (with_reducible exact toponymref17_Cmp.mono _ _ _)
   | (with_reducible exact toponymref17_Under.mono _ _ _)
   | (with_reducible exact LeO.refl _)
   | exact ih0 _ _ _
   | exact oid_Cmp.mono _ _ _
   | exact oid_Under.mono _ _ _
   | exact toponymlaw17_awake.mono _
   | exact toponymref17_Cmp.mono _ _ _
   | exact toponymref17_Under.mono _ _ _
   | exact LeO.none _
   | refine LeO.ite ?_ ?_
   | refine LeO.bind ?_ (fun _ => ?_)
set_option maxHeartbeats 8000000 in
set_option maxRecDepth 100000 in
theorem toponymlaw17_OidPairs.calls (k : Nat) (A0 : Option Addr) (c0 : Nat) (l0 : List Int) (A1 : Option Addr) (c1 : Nat) (l1 : List Int) (r : Bool) (w : World) (hE : Env w) (hr0 : Kd.C (Kd.int .i64) w A0 l0.length l0) (hc0 : l0.length ≤ c0) (hr1 : Kd.C (Kd.int .i64) w A1 l1.length l1) (hc1 : l1.length ≤ c1) (h : toponymlaw17_OidPairs.f k l0 l1 = some r) (hT_ : r = true) :
  Calls Tryd.prog 5 #[.slice A0 l0.length c0, .slice A1 l1.length c1] w fun e w' => e = .returned (.bool r) ∧ Below w.heap.size w w' := by
 have hT := aM hT_
 clear hT_
 have HE := aM hE
 clear hE
 have HR0 := aM hr0
 have HC0 := aM hc0
 clear hr0 hc0
 have HR1 := aM hr1
 have HC1 := aM hc1
 clear hr1 hc1
 have HB := aM (Below.refl w.heap.size w)
 have H := h
 clear h
 unfold toponymlaw17_OidPairs.f at H
 have HC3 := aM H
 clear H
 go_enter Tryd.func5, Tryd.ntmps5
 go_upto_region 1 with (fail)
 go_cut [12] (fun v12 wc => ∃ (kq : Nat) (x12_2 : Bool), v12 = .bool x12_2 ∧ Aside0 (toponymlaw17_OidPairs.j0 kq l0 l1 x12_2 = some r) ∧ Aside0 (kq ≤ k) ∧ Aside0 (Below w.heap.size w wc))
 case first =>
  have H := HC3.out
  clear HC3
  by_cases c4 : (l0.length : Int) > 1000
  ·rw [if_pos c4] at H
   have c4b0 : decide (1000 < (l0.length : Int)) = true := decide_eq_true c4
   have c4b1 : decide (1000 < l0.length) = true := decide_eq_true (by omega)
   clear c4
   (first | rw [c4b0] | (simp only [i64_w, i32_w]; rw [c4b0]) | skip)
   have H' := aM H
   clear H
   go_wp2
   go_meet
   case rel => exact ⟨_, (true), zP, H', ⟨by first | omega | exact Nat.le_refl _⟩, ⟨zB⟩⟩
  ·rw [if_neg c4] at H
   have c4b0 : decide (1000 < (l0.length : Int)) = false := decide_eq_false c4
   have c4b1 : decide (1000 < l0.length) = false := decide_eq_false (by omega)
   clear c4
   (first | rw [c4b0] | (simp only [i64_w, i32_w]; rw [c4b0]) | skip)
   have H' := aM H
   clear H
   go_wp2
   go_meet
   case rel => exact ⟨_, (decide ((l1.length : Int) > 1000)), zP, H', ⟨by first | omega | exact Nat.le_refl _⟩, ⟨zB⟩⟩
 case rest =>
  clear HC3
  try clear c1
  try clear p2
  try clear c4
  try clear c4b0
  try clear c4b1
  obtain ⟨kq, x12_2, rfl, HA, HJ2, HB⟩ := hcut
  cases kq with
  | zero => exact absurd HA.out (by simp [toponymlaw17_OidPairs.j0])
  | succ kj2 =>
   have H := HA.out
   clear HA
   simp only [toponymlaw17_OidPairs.j0] at H
   by_cases c5 : x12_2 = true
   ·subst c5
    rw [if_pos rfl] at H
    obtain ⟨t228, A6, H⟩ := zO H
    obtain rfl := sI H
    go_wp2_with (first | ((with_reducible refine gate_callee (f := 9) rfl ?_); refine goesL_ (some 13) rfl rfl Tryd.func9 zK rfl #[] rfl zM ?_; (with_reducible refine (toponymlaw17_awake.calls kj2  t228 _ (zEnv HE) A6.out).mono ?_); rintro e w7 ⟨rfl, hb⟩; (try clear A6); refine ⟨_, rfl, ?_⟩; replace HB := aM (below_step zB hb); (try clear hb)))
    go_ret
    exact ⟨zE, zB⟩
   ·replace c5 := Bool.eq_false_iff.mpr c5
    subst c5
    rw [if_neg (show ¬ (false = true) by decide)] at H
    obtain ⟨t229, A8, H⟩ := zO H
    obtain ⟨t230, A9, H⟩ := zO H
    by_cases c10 : t229 = t230
    ·rw [if_pos c10] at H
     have c10b0 : (t229 == t230) = true := beq_iff_eq.mpr c10
     have c10b1 : (t229 != t230) = false := bne_eq_false_iff_eq.mpr c10
     clear c10
     obtain ⟨t231, A11, H⟩ := zO H
     obtain ⟨t232, A12, H⟩ := zO H
     by_cases c13 : (t231 == t232) = true
     ·rw [if_pos c13] at H
      have c13b0 : (t231 == t232) = true := c13
      (try (have c13b1 : decide (t231 = t232) = true := by simpa using c13))
      (try (have c13b2 : (t231 == t232) = true := by simpa using c13))
      clear c13
      obtain ⟨t233, A14, H⟩ := zO H
      obtain rfl := sI H
      go_wp2_with (first | ((with_reducible refine gate_callee (f := 19) rfl ?_); refine goesL_ (some 16) rfl rfl Tryd.func19 zK rfl #[.slice A0 l0.length c0, .slice A1 l1.length c1] rfl zM ?_; (with_reducible refine (oid_Cmp.calls kj2 _ _ l0 _ _ l1 t229 _ ?side1 ?side2 ?side3 ?side4 A8.out).mono ?_); (case side1 => exact zCB HR0); (case side2 => exact HC0.out); (case side3 => exact zCB HR1); (case side4 => exact HC1.out); rintro e w' ⟨rfl, ⟨nd, rfl⟩⟩; refine ⟨_, rfl, ?_⟩) | ((with_reducible refine gate_callee (f := 20) rfl ?_); refine goesL_ (some 19) rfl rfl Tryd.func20 zK rfl #[.slice A0 l0.length c0, .slice A1 l1.length c1] rfl zM ?_; (with_reducible refine (toponymref17_Cmp.calls kj2 _ _ l0 _ _ l1 t230 _ ?side1 ?side2 ?side3 ?side4 A9.out).mono ?_); (case side1 => exact zCB HR0); (case side2 => exact HC0.out); (case side3 => exact zCB HR1); (case side4 => exact HC1.out); rintro e w' ⟨rfl, ⟨nd, rfl⟩⟩; refine ⟨_, rfl, ?_⟩) | (go_at_call 21; (with_reducible refine (oid_Under.calls kj2 _ _ l0 _ _ l1 t231 _ ?side1 ?side2 ?side3 ?side4 A11.out).mono ?_); (case side1 => exact zCB HR0); (case side2 => exact HC0.out); (case side3 => exact zCB HR1); (case side4 => exact HC1.out); rintro e w' ⟨rfl, ⟨nd, rfl⟩⟩) | (go_at_call 22; (with_reducible refine (toponymref17_Under.calls kj2 _ _ l0 _ _ l1 t232 _ ?side1 ?side2 ?side3 ?side4 A12.out).mono ?_); (case side1 => exact zCB HR0); (case side2 => exact HC0.out); (case side3 => exact zCB HR1); (case side4 => exact HC1.out); rintro e w' ⟨rfl, ⟨nd, rfl⟩⟩) | (go_at_call 9; (with_reducible refine (toponymlaw17_awake.calls kj2  t233 _ (zEnv HE) A14.out).mono ?_); rintro e w15 ⟨rfl, hb⟩; (try clear A14); replace HB := aM (below_step zB hb); (try clear hb)))
      go_ret
      exact ⟨zE, zB⟩
     ·rw [if_neg c13] at H
      have c13b0 : (t231 == t232) = false := by simpa using c13
      (try (have c13b1 : decide (t231 = t232) = false := by simpa using c13))
      (try (have c13b2 : (t231 == t232) = false := by simpa using c13))
      (try (have c13b3 : ¬ (t231 = t232) := by simpa using c13))
      clear c13
      obtain rfl := sI H
      go_wp2_with (first | ((with_reducible refine gate_callee (f := 19) rfl ?_); refine goesL_ (some 16) rfl rfl Tryd.func19 zK rfl #[.slice A0 l0.length c0, .slice A1 l1.length c1] rfl zM ?_; (with_reducible refine (oid_Cmp.calls kj2 _ _ l0 _ _ l1 t229 _ ?side1 ?side2 ?side3 ?side4 A8.out).mono ?_); (case side1 => exact zCB HR0); (case side2 => exact HC0.out); (case side3 => exact zCB HR1); (case side4 => exact HC1.out); rintro e w' ⟨rfl, ⟨nd, rfl⟩⟩; refine ⟨_, rfl, ?_⟩) | ((with_reducible refine gate_callee (f := 20) rfl ?_); refine goesL_ (some 19) rfl rfl Tryd.func20 zK rfl #[.slice A0 l0.length c0, .slice A1 l1.length c1] rfl zM ?_; (with_reducible refine (toponymref17_Cmp.calls kj2 _ _ l0 _ _ l1 t230 _ ?side1 ?side2 ?side3 ?side4 A9.out).mono ?_); (case side1 => exact zCB HR0); (case side2 => exact HC0.out); (case side3 => exact zCB HR1); (case side4 => exact HC1.out); rintro e w' ⟨rfl, ⟨nd, rfl⟩⟩; refine ⟨_, rfl, ?_⟩) | (go_at_call 21; (with_reducible refine (oid_Under.calls kj2 _ _ l0 _ _ l1 t231 _ ?side1 ?side2 ?side3 ?side4 A11.out).mono ?_); (case side1 => exact zCB HR0); (case side2 => exact HC0.out); (case side3 => exact zCB HR1); (case side4 => exact HC1.out); rintro e w' ⟨rfl, ⟨nd, rfl⟩⟩) | (go_at_call 22; (with_reducible refine (toponymref17_Under.calls kj2 _ _ l0 _ _ l1 t232 _ ?side1 ?side2 ?side3 ?side4 A12.out).mono ?_); (case side1 => exact zCB HR0); (case side2 => exact HC0.out); (case side3 => exact zCB HR1); (case side4 => exact HC1.out); rintro e w' ⟨rfl, ⟨nd, rfl⟩⟩))
      go_ret
      exact ⟨zE, zB⟩
    ·rw [if_neg c10] at H
     exact absurd ((sI H).trans hT.out) (by decide)
/-- THE ONE PURE STATEMENT of toponymlaw17_OidPairs: yours. -/
def toponymlaw17_OidPairs.Pure : Prop := ∀ (l0 : List Int) (l1 : List Int), l0.length ≤ maxLen → l0.length * 8 ≤ 140737488351232 → (∀ x ∈ l0, (Lit.int .i64 x).wf = true) → l1.length ≤ maxLen → l1.length * 8 ≤ 140737488351232 → (∀ x ∈ l1, (Lit.int .i64 x).wf = true) → ∃ k, toponymlaw17_OidPairs.f k l0 l1 = some true
theorem toponymlaw17_OidPairs.walk (P : toponymlaw17_OidPairs.Pure) (a0 : Option Addr) (len0 cap0 : Nat) (z0 : List Int) (a1 : Option Addr) (len1 cap1 : Nat) (z1 : List Int) (w : World) (hE : Env w) (w0 : (a0 = none ∧ len0 = 0 ∧ cap0 = 0 ∧ z0 = []) ∨ ∃ x, a0 = some x ∧ len0 ≤ cap0 ∧ cap0 ≤ maxLen ∧ z0.length = cap0 ∧ (∀ i, i < z0.length → w.cell? (x.add i) = some (.int .i64 (z0.getD i 0))) ∧ ∀ n ∈ z0, (Lit.int .i64 n).wf = true) (y0 : len0 * 8 ≤ 140737488351232) (w1 : (a1 = none ∧ len1 = 0 ∧ cap1 = 0 ∧ z1 = []) ∨ ∃ x, a1 = some x ∧ len1 ≤ cap1 ∧ cap1 ≤ maxLen ∧ z1.length = cap1 ∧ (∀ i, i < z1.length → w.cell? (x.add i) = some (.int .i64 (z1.getD i 0))) ∧ ∀ n ∈ z1, (Lit.int .i64 n).wf = true) (y1 : len1 * 8 ≤ 140737488351232) :
  Calls Tryd.prog 5 #[.slice a0 len0 cap0, .slice a1 len1 cap1] w fun e w' => e = .returned (.bool true) ∧ Below w.heap.size w w' := by
 obtain ⟨l0, rfl, hr0, hm0, hw0, hc0⟩ := ReadsInt.ofRowC w0
 obtain ⟨l1, rfl, hr1, hm1, hw1, hc1⟩ := ReadsInt.ofRowC w1
 obtain ⟨k, h⟩ := P l0 l1 hm0 y0 hw0 hm1 y1 hw1
 refine (toponymlaw17_OidPairs.calls k _ _ l0 _ _ l1 true w hE (Kd.C_of_reads (d := (0 : Int)) (h1 := fun _ => rfl) hr0) hc0 (Kd.C_of_reads (d := (0 : Int)) (h1 := fun _ => rfl) hr1) hc1 h rfl).mono ?_
 rintro e w' ⟨rfl, hd⟩
 exact ⟨rfl, hd⟩

/-! ### toponymlaw17_OidBack: function 6 -/
def toponymlaw17_OidBack.j0 : Nat → ByteArray → Option (Bool)
 | 0, _ => none
 | k + 1, x1 => (oid_Parse.f k x1).bind fun bt242 => (if bt242.2 = 0 then ((oid_Show.f k bt242.1).bind fun bt246 => (if bt246.1.toList = x1.toList then (if bt246.2 = 0 then ((toponymlaw17_awake.f k).bind fun t248 => (some t248)) else (some false)) else (some false))) else (if (bt242.1.length : Int) = 0 then (if bt242.2 = 170 then ((toponymlaw17_awake.f k).bind fun t249 => (some t249)) else (some false)) else (some false)))
def toponymlaw17_OidBack.f (k : Nat) (l0 : List Int) (a1 : ByteArray) : Option (Bool) := if (l0.length : Int) > 1000 then ((toponymlaw17_awake.f k).bind fun t234 => (some t234)) else ((oid_Show.f k l0).bind fun bt235 => (if bt235.2 = 0 then ((oid_Parse.f k bt235.1).bind fun bt237 => (if bt237.2 = 0 then ((toponymlaw17_same.f k bt237.1 l0).bind fun t241 => (if t241 = true then (toponymlaw17_OidBack.j0 k a1) else (some false))) else (some false))) else (toponymlaw17_OidBack.j0 k a1)))
theorem toponymlaw17_OidBack.mono_l : ∀ k, (∀ y0, LeO (toponymlaw17_OidBack.j0 k y0) (toponymlaw17_OidBack.j0 (k + 1) y0))
 | 0 => fun _ r h => by simp [toponymlaw17_OidBack.j0] at h
 | k + 1 => by
  have ih0 := toponymlaw17_OidBack.mono_l k
  ·intro y0
   unfold toponymlaw17_OidBack.j0
   repeat' first
   | (with_reducible exact ih0 _)
   | (with_reducible exact oid_Parse.mono _ _)
   | (with_reducible exact oid_Show.mono _ _)
   | (with_reducible exact toponymlaw17_awake.mono _)
   | (with_reducible exact toponymlaw17_same.mono _ _ _)
   | (with_reducible exact LeO.refl _)
   | exact ih0 _
   | exact oid_Parse.mono _ _
   | exact oid_Show.mono _ _
   | exact toponymlaw17_awake.mono _
   | exact toponymlaw17_same.mono _ _ _
   | exact LeO.none _
   | refine LeO.ite ?_ ?_
   | refine LeO.bind ?_ (fun _ => ?_)
theorem toponymlaw17_OidBack.mono : ∀ a0 a1 k, LeO (toponymlaw17_OidBack.f k a0 a1) (toponymlaw17_OidBack.f (k + 1) a0 a1) := by
 intro a0 a1 k
 have ih0 := toponymlaw17_OidBack.mono_l k
 unfold toponymlaw17_OidBack.f
 repeat' first
   | (with_reducible exact ih0 _)
   | (with_reducible exact oid_Parse.mono _ _)
   | (with_reducible exact oid_Show.mono _ _)
   | (with_reducible exact toponymlaw17_awake.mono _)
   | (with_reducible exact toponymlaw17_same.mono _ _ _)
   | (with_reducible exact LeO.refl _)
   | exact ih0 _
   | exact oid_Parse.mono _ _
   | exact oid_Show.mono _ _
   | exact toponymlaw17_awake.mono _
   | exact toponymlaw17_same.mono _ _ _
   | exact LeO.none _
   | refine LeO.ite ?_ ?_
   | refine LeO.bind ?_ (fun _ => ?_)
set_option maxHeartbeats 8000000 in
set_option maxRecDepth 100000 in
theorem toponymlaw17_OidBack.calls (k : Nat) (A0 : Option Addr) (c0 : Nat) (l0 : List Int) (a1 : ByteArray) (r : Bool) (w : World) (hE : Env w) (hr0 : Kd.C (Kd.int .i64) w A0 l0.length l0) (hc0 : l0.length ≤ c0) (h : toponymlaw17_OidBack.f k l0 a1 = some r) (hT_ : r = true) :
  Calls Tryd.prog 6 #[.slice A0 l0.length c0, .string a1] w fun e w' => e = .returned (.bool r) ∧ Below w.heap.size w w' := by
 have hT := aM hT_
 clear hT_
 have HE := aM hE
 clear hE
 have HR0 := aM hr0
 have HC0 := aM hc0
 clear hr0 hc0
 have HB := aM (Below.refl w.heap.size w)
 have H := h
 clear h
 unfold toponymlaw17_OidBack.f at H
 by_cases c3 : (l0.length : Int) > 1000
 ·rw [if_pos c3] at H
  have c3b0 : decide (1000 < (l0.length : Int)) = true := decide_eq_true c3
  have c3b1 : decide (1000 < l0.length) = true := decide_eq_true (by omega)
  clear c3
  obtain ⟨t234, A4, H⟩ := zO H
  obtain rfl := sI H
  go_enter Tryd.func6, Tryd.ntmps6
  go_wp2_with (first | ((with_reducible refine gate_callee (f := 9) rfl ?_); refine goesL_ (some 16) rfl rfl Tryd.func9 zK rfl #[] rfl zM ?_; (with_reducible refine (toponymlaw17_awake.calls k  t234 _ (zEnv HE) A4.out).mono ?_); rintro e w5 ⟨rfl, hb⟩; (try clear A4); refine ⟨_, rfl, ?_⟩; replace HB := aM (below_step zB hb); (try clear hb)))
  go_ret
  exact ⟨zE, zB⟩
 ·rw [if_neg c3] at H
  have c3b0 : decide (1000 < (l0.length : Int)) = false := decide_eq_false c3
  have c3b1 : decide (1000 < l0.length) = false := decide_eq_false (by omega)
  clear c3
  obtain ⟨⟨t235, t236⟩, A6, H⟩ := zO H
  try dsimp only at H
  have HC7 := aM H
  clear H
  go_enter Tryd.func6, Tryd.ntmps6
  go_upto_if 23 with (first | ((with_reducible refine gate_callee (f := 10) rfl ?_); refine goesL_ (some 19) rfl rfl Tryd.func10 zK rfl #[.slice A0 l0.length c0] rfl zM ?_; (with_reducible refine (oid_Show.calls k _ _ l0 t235 t236 _ (zEnv HE) ?side1 ?side2 A6.out).mono ?_); (case side1 => exact zC HR0.out); (case side2 => exact HC0.out); rintro e w8 ⟨rfl, hb⟩; (try clear A6); refine ⟨_, rfl, ?_⟩; replace HB := aM (below_step zB hb); (try clear hb)))
  (try simp only [Act.put, List.setIfInBounds_toArray, List.set_cons_zero, List.set_cons_succ])
  go_cut [] (fun wc => ∃ (kq : Nat), Aside0 (toponymlaw17_OidBack.j0 kq a1 = some r) ∧ Aside0 (kq ≤ k) ∧ Aside0 (Below w.heap.size w wc))
  case first =>
   have H := HC7.out
   clear HC7
   by_cases c9 : t236 = 0
   ·rw [if_pos c9] at H
    have c9b0 : (t236 == 0) = true := beq_iff_eq.mpr c9
    have c9b1 : (t236 != 0) = false := bne_eq_false_iff_eq.mpr c9
    clear c9
    (first | rw [c9b0] | (simp only [i64_w, i32_w]; rw [c9b0]) | skip)
    obtain ⟨⟨t237, t238⟩, A10, H⟩ := zO H
    try dsimp only at H
    by_cases c11 : t238 = 0
    ·rw [if_pos c11] at H
     have c11b0 : (t238 == 0) = true := beq_iff_eq.mpr c11
     have c11b1 : (t238 != 0) = false := bne_eq_false_iff_eq.mpr c11
     clear c11
     obtain ⟨t241, A12, H⟩ := zO H
     by_cases c13 : t241 = true
     ·subst c13
      rw [if_pos rfl] at H
      have H' := aM H
      clear H
      go_wp2_with (first | ((with_reducible refine gate_callee (f := 17) rfl ?_); refine goesL_ (some 26) rfl rfl Tryd.func17 zK rfl #[.string t235] rfl zM ?_; (with_reducible refine (oid_Parse.calls k t235 t237 t238 _ (zEnv HE) A10.out).mono ?_); rintro e w14 ⟨v239, rfl, ho0, hb⟩; (try clear A10); refine ⟨_, rfl, ?_⟩; have n_ := zI (aM (Kd.R_lower ho0 (below_size zB))) (aM (below_step zB hb)); clear HB; obtain ⟨HO240, HB⟩ := n_; (try clear hb); (try clear ho0); obtain ⟨Ao15, co15, rfl⟩ := Kd.R_slice HO240.out) | (go_at_call 14; (with_reducible refine (toponymlaw17_same.calls k _ _ t237 _ _ l0 true _ ?side1 ?side2 ?side3 ?side4 A12.out).mono ?_); (case side1 => exact zC (Kd.R_reads' HO240.out).2.2); (case side2 => exact (Kd.R_reads' HO240.out).2.1); (case side3 => exact zCB HR0); (case side4 => exact HC0.out); rintro e w' ⟨rfl, ⟨nd, rfl⟩⟩))
      go_meet
      case rel => exact ⟨_, H', ⟨by first | omega | exact Nat.le_refl _⟩, ⟨zB⟩⟩
     ·replace c13 := Bool.eq_false_iff.mpr c13
      subst c13
      rw [if_neg (show ¬ (false = true) by decide)] at H
      exact absurd ((sI H).trans hT.out) (by decide)
    ·rw [if_neg c11] at H
     exact absurd ((sI H).trans hT.out) (by decide)
   ·rw [if_neg c9] at H
    have c9b0 : (t236 == 0) = false := beq_eq_false_iff_ne.mpr c9
    have c9b1 : (t236 != 0) = true := bne_iff_ne.mpr c9
    (first | rw [c9b0] | (simp only [i64_w, i32_w]; rw [c9b0]) | skip)
    have H' := aM H
    clear H
    go_wp2
    go_meet
    case rel => exact ⟨_, H', ⟨by first | omega | exact Nat.le_refl _⟩, ⟨zB⟩⟩
  case rest =>
   clear HC7
   try clear c1
   try clear p2
   try clear c3
   try clear c3b0
   try clear c3b1
   try clear c6
   try clear c9
   try clear c9b0
   try clear c9b1
   try clear c10
   try clear c11
   try clear c11b0
   try clear c11b1
   try clear c13
   try clear c17
   obtain ⟨kq, HA, HJ6, HB⟩ := hcut
   cases kq with
   | zero => exact absurd HA.out (by simp [toponymlaw17_OidBack.j0])
   | succ kj6 =>
    have H := HA.out
    clear HA
    simp only [toponymlaw17_OidBack.j0] at H
    obtain ⟨⟨t242, t243⟩, A19, H⟩ := zO H
    try dsimp only at H
    by_cases c20 : t243 = 0
    ·rw [if_pos c20] at H
     have c20b0 : (t243 == 0) = true := beq_iff_eq.mpr c20
     have c20b1 : (t243 != 0) = false := bne_eq_false_iff_eq.mpr c20
     clear c20
     obtain ⟨⟨t246, t247⟩, A21, H⟩ := zO H
     try dsimp only at H
     by_cases c22 : t246.toList = a1.toList
     ·rw [if_pos c22] at H
      have c22b0 : (t246.toList == a1.toList) = true := beq_iff_eq.mpr c22
      have c22b1 : (t246.toList != a1.toList) = false := bne_eq_false_iff_eq.mpr c22
      clear c22
      by_cases c23 : t247 = 0
      ·rw [if_pos c23] at H
       have c23b0 : (t247 == 0) = true := beq_iff_eq.mpr c23
       have c23b1 : (t247 != 0) = false := bne_eq_false_iff_eq.mpr c23
       clear c23
       obtain ⟨t248, A24, H⟩ := zO H
       obtain rfl := sI H
       go_wp2_with (first | ((with_reducible refine gate_callee (f := 17) rfl ?_); refine goesL_ (some 39) rfl rfl Tryd.func17 zK rfl #[.string a1] rfl zM ?_; (with_reducible refine (oid_Parse.calls kj6 a1 t242 t243 _ (zEnv HE) A19.out).mono ?_); rintro e w25 ⟨v244, rfl, ho0, hb⟩; (try clear A19); refine ⟨_, rfl, ?_⟩; have n_ := zI (aM (Kd.R_lower ho0 (below_size zB))) (aM (below_step zB hb)); clear HB; obtain ⟨HO245, HB⟩ := n_; (try clear hb); (try clear ho0); obtain ⟨Ao26, co26, rfl⟩ := Kd.R_slice HO245.out) | ((with_reducible refine gate_callee (f := 10) rfl ?_); refine goesL_ (some 56) rfl rfl Tryd.func10 zK rfl #[.slice Ao26 t242.length co26] rfl zM ?_; (with_reducible refine (oid_Show.calls kj6 _ _ t242 t246 t247 _ (zEnv HE) ?side1 ?side2 A21.out).mono ?_); (case side1 => exact zC (Kd.R_reads' HO245.out).2.2); (case side2 => exact (Kd.R_reads' HO245.out).2.1); rintro e w27 ⟨rfl, hb⟩; (try clear A21); refine ⟨_, rfl, ?_⟩; have n_ := zI (aM (Kd.R_below (zR HO245) hb)) (aM (below_step zB hb)); clear HO245 HB; obtain ⟨HO245, HB⟩ := n_; (try clear hb)) | (go_at_call 9; (with_reducible refine (toponymlaw17_awake.calls kj6  t248 _ (zEnv HE) A24.out).mono ?_); rintro e w28 ⟨rfl, hb⟩; (try clear A24); have n_ := zI (aM (Kd.R_below (zR HO245) hb)) (aM (below_step zB hb)); clear HO245 HB; obtain ⟨HO245, HB⟩ := n_; (try clear hb)))
       go_ret
       exact ⟨zE, zB⟩
      ·rw [if_neg c23] at H
       exact absurd ((sI H).trans hT.out) (by decide)
     ·rw [if_neg c22] at H
      exact absurd ((sI H).trans hT.out) (by decide)
    ·rw [if_neg c20] at H
     have c20b0 : (t243 == 0) = false := beq_eq_false_iff_ne.mpr c20
     have c20b1 : (t243 != 0) = true := bne_iff_ne.mpr c20
     by_cases c35 : (t242.length : Int) = 0
     ·rw [if_pos c35] at H
      have c35b0 : ((t242.length : Int) == 0) = true := beq_iff_eq.mpr c35
      have c35b1 : ((t242.length : Int) != 0) = false := bne_eq_false_iff_eq.mpr c35
      clear c35
      by_cases c36 : t243 = 170
      ·rw [if_pos c36] at H
       have c36b0 : (t243 == 170) = true := beq_iff_eq.mpr c36
       have c36b1 : (t243 != 170) = false := bne_eq_false_iff_eq.mpr c36
       clear c36
       obtain ⟨t249, A37, H⟩ := zO H
       obtain rfl := sI H
       go_wp2_with (first | ((with_reducible refine gate_callee (f := 17) rfl ?_); refine goesL_ (some 39) rfl rfl Tryd.func17 zK rfl #[.string a1] rfl zM ?_; (with_reducible refine (oid_Parse.calls kj6 a1 t242 t243 _ (zEnv HE) A19.out).mono ?_); rintro e w38 ⟨v244, rfl, ho0, hb⟩; (try clear A19); refine ⟨_, rfl, ?_⟩; have n_ := zI (aM (Kd.R_lower ho0 (below_size zB))) (aM (below_step zB hb)); clear HB; obtain ⟨HO245, HB⟩ := n_; (try clear hb); (try clear ho0); obtain ⟨Ao39, co39, rfl⟩ := Kd.R_slice HO245.out) | (go_at_call 9; (with_reducible refine (toponymlaw17_awake.calls kj6  t249 _ (zEnv HE) A37.out).mono ?_); rintro e w40 ⟨rfl, hb⟩; (try clear A37); have n_ := zI (aM (Kd.R_below (zR HO245) hb)) (aM (below_step zB hb)); clear HO245 HB; obtain ⟨HO245, HB⟩ := n_; (try clear hb)))
       go_ret
       exact ⟨zE, zB⟩
      ·rw [if_neg c36] at H
       exact absurd ((sI H).trans hT.out) (by decide)
     ·rw [if_neg c35] at H
      exact absurd ((sI H).trans hT.out) (by decide)
/-- THE ONE PURE STATEMENT of toponymlaw17_OidBack: yours. -/
def toponymlaw17_OidBack.Pure : Prop := ∀ (l0 : List Int) (a1 : ByteArray), l0.length ≤ maxLen → l0.length * 8 ≤ 140737488351232 → (∀ x ∈ l0, (Lit.int .i64 x).wf = true) → a1.size ≤ 140737488351232 → ∃ k, toponymlaw17_OidBack.f k l0 a1 = some true
theorem toponymlaw17_OidBack.walk (P : toponymlaw17_OidBack.Pure) (a0 : Option Addr) (len0 cap0 : Nat) (z0 : List Int) (a1 : ByteArray) (w : World) (hE : Env w) (w0 : (a0 = none ∧ len0 = 0 ∧ cap0 = 0 ∧ z0 = []) ∨ ∃ x, a0 = some x ∧ len0 ≤ cap0 ∧ cap0 ≤ maxLen ∧ z0.length = cap0 ∧ (∀ i, i < z0.length → w.cell? (x.add i) = some (.int .i64 (z0.getD i 0))) ∧ ∀ n ∈ z0, (Lit.int .i64 n).wf = true) (y0 : len0 * 8 ≤ 140737488351232) (w1 : a1.size ≤ 140737488351232) :
  Calls Tryd.prog 6 #[.slice a0 len0 cap0, .string a1] w fun e w' => e = .returned (.bool true) ∧ Below w.heap.size w w' := by
 obtain ⟨l0, rfl, hr0, hm0, hw0, hc0⟩ := ReadsInt.ofRowC w0
 obtain ⟨k, h⟩ := P l0 a1 hm0 y0 hw0 w1
 refine (toponymlaw17_OidBack.calls k _ _ l0 a1 true w hE (Kd.C_of_reads (d := (0 : Int)) (h1 := fun _ => rfl) hr0) hc0 h rfl).mono ?_
 rintro e w' ⟨rfl, hd⟩
 exact ⟨rfl, hd⟩

end Go.Proofs.YtmnfdoldoomcgaaDoor.P
