-- Printed by wip/mk.py (this session's driver over the kit's print) and from wip/manual.
import Derived.Test.YtpihglokjcbjkaaT0
import Derived.Test.YtpihglokjcbjkaaT6
import Derived.Test.YtpihglokjcbjkaaT7
namespace Go.Proofs.Ytpihglokjcbjkaa.P
open Go.RowKit Go.Proofs.YtpihglokjcbjkaaW.PrintWords Go.Proofs.YtpihglokjcbjkaaW.PrintLast Go.Proofs.YtpihglokjcbjkaaW.PrintMore
attribute [local go_sem] max2_int min2_int max_two min_two max_three min_three max_four min_four   -- for this text's walks alone
set_option linter.unusedVariables false
set_option linter.unusedSimpArgs false

/-! ### toponymref07_All: function 19 -/
mutual
def toponymref07_All.l0 : Nat → List Int → List Int → Int → Option (List Int)
 | 0, _, _, _ => none
 | k + 1, x0, x3, x4 => if x4 < (x0.length : Int) then (toponymref07_All.l1 k x0 x3 x4 (wrap64 ((x3.length : Int) - 1))) else (some x3)
def toponymref07_All.j2 : Nat → List Int → List Int → Int → Int → Option (List Int)
 | 0, _, _, _, _ => none
 | k + 1, x0, x3, x4, x5 => if x5 ≥ 0 then (if 0 ≤ (wrap64 (x5 + 1)) then (if (wrap64 (x5 + 1)) ≤ (x3.length : Int) then (if 0 ≤ x4 then (if x4 < (x0.length : Int) then ((toponymref07_free.f k (x3.drop ((wrap64 (x5 + 1)) : Int).toNat) (rd x0 x4)).bind fun t360 => (toponymref07_All.j3 k x0 x3 x4 x5 t360)) else (none)) else (none)) else (none)) else (none)) else (toponymref07_All.j3 k x0 x3 x4 x5 false)
def toponymref07_All.j3 : Nat → List Int → List Int → Int → Int → Bool → Option (List Int)
 | 0, _, _, _, _, _ => none
 | k + 1, x0, x3, x4, x5, x41 => if x41 = true then (if 0 ≤ x5 then (if x5 < (x3.length : Int) then (if 0 ≤ x4 then (if x4 < (x0.length : Int) then ((toponymref07_Pair.f k (rd x3 x5) (rd x0 x4)).bind fun bt363 => (if bt363.2 = true then ((some (([] : List Int) : List Int)).bind fun y365 => (if x5 ≤ (x3.length : Int) then ((some (x3.take (x5 : Int).toNat : List Int)).bind fun y368 => (if y365.length + y368.length < 35184372088832 then ((some (y365 ++ y368 : List Int)).bind fun y372 => ((some (([bt363.1] : List Int) : List Int)).bind fun y375 => (if y372.length + y375.length < 35184372088832 then ((some (y372 ++ y375 : List Int)).bind fun y378 => (if 0 ≤ (wrap64 (x5 + 1)) then (if (wrap64 (x5 + 1)) ≤ (x3.length : Int) then ((some (x3.drop ((wrap64 (x5 + 1)) : Int).toNat : List Int)).bind fun y381 => (if y378.length + y381.length < 35184372088832 then (toponymref07_All.l0 k x0 (y378 ++ y381) (wrap64 (x4 + 1))) else (none))) else (none)) else (none))) else (none)))) else (none))) else (none))) else ((some (([rd x0 x4] : List Int) : List Int)).bind fun y389 => (if x3.length + y389.length < 35184372088832 then (toponymref07_All.l0 k x0 (x3 ++ y389) (wrap64 (x4 + 1))) else (none))))) else (none)) else (none)) else (none)) else (none)) else (if 0 ≤ x4 then (if x4 < (x0.length : Int) then ((some (([rd x0 x4] : List Int) : List Int)).bind fun y396 => (if x3.length + y396.length < 35184372088832 then (toponymref07_All.l0 k x0 (x3 ++ y396) (wrap64 (x4 + 1))) else (none))) else (none)) else (none))
def toponymref07_All.l1 : Nat → List Int → List Int → Int → Int → Option (List Int)
 | 0, _, _, _, _ => none
 | k + 1, x0, x3, x4, x5 => if x5 ≥ 0 then (if 0 ≤ x5 then (if x5 < (x3.length : Int) then ((toponymref03_Class.f k (rd x3 x5)).bind fun t354 => (if t354 = 0 then (toponymref07_All.j2 k x0 x3 x4 x5) else (toponymref07_All.l1 k x0 x3 x4 (wrap64 (x5 - 1))))) else (none)) else (none)) else (toponymref07_All.j2 k x0 x3 x4 x5)
end
def toponymref07_All.f (k : Nat) (l0 : List Int) : Option (List Int) := toponymref07_All.l0 k l0 ([] : List Int) 0
theorem toponymref07_All.mono_l : ∀ k, (∀ y0 y1 y2, LeO (toponymref07_All.l0 k y0 y1 y2) (toponymref07_All.l0 (k + 1) y0 y1 y2)) ∧ (∀ y0 y1 y2 y3, LeO (toponymref07_All.j2 k y0 y1 y2 y3) (toponymref07_All.j2 (k + 1) y0 y1 y2 y3)) ∧ (∀ y0 y1 y2 y3 y4, LeO (toponymref07_All.j3 k y0 y1 y2 y3 y4) (toponymref07_All.j3 (k + 1) y0 y1 y2 y3 y4)) ∧ (∀ y0 y1 y2 y3, LeO (toponymref07_All.l1 k y0 y1 y2 y3) (toponymref07_All.l1 (k + 1) y0 y1 y2 y3))
 | 0 => ⟨fun _ _ _ r h => by simp [toponymref07_All.l0] at h, fun _ _ _ _ r h => by simp [toponymref07_All.j2] at h, fun _ _ _ _ _ r h => by simp [toponymref07_All.j3] at h, fun _ _ _ _ r h => by simp [toponymref07_All.l1] at h⟩
 | k + 1 => by
  obtain ⟨ih0, ih1, ih2, ih3⟩ := toponymref07_All.mono_l k
  refine ⟨?_, ?_, ?_, ?_⟩
  ·intro y0 y1 y2
   unfold toponymref07_All.l0
   repeat' first
   | (with_reducible exact ih0 _ _ _)
   | (with_reducible exact ih1 _ _ _ _)
   | (with_reducible exact ih2 _ _ _ _ _)
   | (with_reducible exact ih3 _ _ _ _)
   | (with_reducible exact toponymref03_Class.mono _ _)
   | (with_reducible exact toponymref07_Pair.mono _ _ _)
   | (with_reducible exact toponymref07_free.mono _ _ _)
   | (with_reducible exact LeO.refl _)
   | exact ih0 _ _ _
   | exact ih1 _ _ _ _
   | exact ih2 _ _ _ _ _
   | exact ih3 _ _ _ _
   | exact toponymref03_Class.mono _ _
   | exact toponymref07_Pair.mono _ _ _
   | exact toponymref07_free.mono _ _ _
   | exact LeO.none _
   | refine LeO.ite ?_ ?_
   | refine LeO.bind ?_ (fun _ => ?_)
  ·intro y0 y1 y2 y3
   unfold toponymref07_All.j2
   repeat' first
   | (with_reducible exact ih0 _ _ _)
   | (with_reducible exact ih1 _ _ _ _)
   | (with_reducible exact ih2 _ _ _ _ _)
   | (with_reducible exact ih3 _ _ _ _)
   | (with_reducible exact toponymref03_Class.mono _ _)
   | (with_reducible exact toponymref07_Pair.mono _ _ _)
   | (with_reducible exact toponymref07_free.mono _ _ _)
   | (with_reducible exact LeO.refl _)
   | exact ih0 _ _ _
   | exact ih1 _ _ _ _
   | exact ih2 _ _ _ _ _
   | exact ih3 _ _ _ _
   | exact toponymref03_Class.mono _ _
   | exact toponymref07_Pair.mono _ _ _
   | exact toponymref07_free.mono _ _ _
   | exact LeO.none _
   | refine LeO.ite ?_ ?_
   | refine LeO.bind ?_ (fun _ => ?_)
  ·intro y0 y1 y2 y3 y4
   unfold toponymref07_All.j3
   repeat' first
   | (with_reducible exact ih0 _ _ _)
   | (with_reducible exact ih1 _ _ _ _)
   | (with_reducible exact ih2 _ _ _ _ _)
   | (with_reducible exact ih3 _ _ _ _)
   | (with_reducible exact toponymref03_Class.mono _ _)
   | (with_reducible exact toponymref07_Pair.mono _ _ _)
   | (with_reducible exact toponymref07_free.mono _ _ _)
   | (with_reducible exact LeO.refl _)
   | exact ih0 _ _ _
   | exact ih1 _ _ _ _
   | exact ih2 _ _ _ _ _
   | exact ih3 _ _ _ _
   | exact toponymref03_Class.mono _ _
   | exact toponymref07_Pair.mono _ _ _
   | exact toponymref07_free.mono _ _ _
   | exact LeO.none _
   | refine LeO.ite ?_ ?_
   | refine LeO.bind ?_ (fun _ => ?_)
  ·intro y0 y1 y2 y3
   unfold toponymref07_All.l1
   repeat' first
   | (with_reducible exact ih0 _ _ _)
   | (with_reducible exact ih1 _ _ _ _)
   | (with_reducible exact ih2 _ _ _ _ _)
   | (with_reducible exact ih3 _ _ _ _)
   | (with_reducible exact toponymref03_Class.mono _ _)
   | (with_reducible exact toponymref07_Pair.mono _ _ _)
   | (with_reducible exact toponymref07_free.mono _ _ _)
   | (with_reducible exact LeO.refl _)
   | exact ih0 _ _ _
   | exact ih1 _ _ _ _
   | exact ih2 _ _ _ _ _
   | exact ih3 _ _ _ _
   | exact toponymref03_Class.mono _ _
   | exact toponymref07_Pair.mono _ _ _
   | exact toponymref07_free.mono _ _ _
   | exact LeO.none _
   | refine LeO.ite ?_ ?_
   | refine LeO.bind ?_ (fun _ => ?_)
theorem toponymref07_All.mono : ∀ a0 k, LeO (toponymref07_All.f k a0) (toponymref07_All.f (k + 1) a0) := by
 intro a0 k
 obtain ⟨ih0, ih1, ih2, ih3⟩ := toponymref07_All.mono_l k
 unfold toponymref07_All.f
 repeat' first
   | (with_reducible exact ih0 _ _ _)
   | (with_reducible exact ih1 _ _ _ _)
   | (with_reducible exact ih2 _ _ _ _ _)
   | (with_reducible exact ih3 _ _ _ _)
   | (with_reducible exact toponymref03_Class.mono _ _)
   | (with_reducible exact toponymref07_Pair.mono _ _ _)
   | (with_reducible exact toponymref07_free.mono _ _ _)
   | (with_reducible exact LeO.refl _)
   | exact ih0 _ _ _
   | exact ih1 _ _ _ _
   | exact ih2 _ _ _ _ _
   | exact ih3 _ _ _ _
   | exact toponymref03_Class.mono _ _
   | exact toponymref07_Pair.mono _ _ _
   | exact toponymref07_free.mono _ _ _
   | exact LeO.none _
   | refine LeO.ite ?_ ?_
   | refine LeO.bind ?_ (fun _ => ?_)
def toponymref07_All.T8 : Bool × List (List Nat × List Nat) := (true, [([], []), ([0], [0]), ([1], [1]), ([2], [2]), ([2], [2]), ([4, 2], [2, 4]), ([3, 5, 2], [2, 3, 5]), ([2], [2]), ([2], [2]), ([7, 8, 2], [2, 7, 8]), ([9, 2], [2, 9]), ([6, 10, 2, 2], [2, 6, 10]), ([2, 11], [2, 11])])
def toponymref07_All.B8 : List Nat := [0, 1, 3, 7, 7, 23, 63, 7, 7, 391, 903, 2047, 4095]
theorem toponymref07_All.tab8 : rtab .any (opsOf Try.f19 8) = toponymref07_All.T8 := zK
theorem toponymref07_All.bits8 : waitsOk toponymref07_All.T8.2 toponymref07_All.B8 = true := zK
def toponymref07_All.T9 : Bool × List (List Nat × List Nat) := (true, [([], []), ([], []), ([0, 1], [0, 1]), ([2], [2]), ([], []), ([], []), ([4, 5], [4, 5]), ([6], [6]), ([3, 7], [3, 7]), ([8], [8]), ([9], [9]), ([9], [9]), ([10, 8, 0, 1, 2, 3, 4, 5, 6, 7, 8, 9, 10], [10]), ([11, 12, 0, 1, 2, 3, 4, 5, 6, 7, 8, 9, 10, 11, 12], [11])])
def toponymref07_All.B9 : List Nat := [0, 0, 3, 7, 0, 0, 48, 112, 255, 511, 1023, 1023, 2047, 8191]
theorem toponymref07_All.tab9 : rtab .any (opsOf Try.f19 9) = toponymref07_All.T9 := zK
theorem toponymref07_All.bits9 : waitsOk toponymref07_All.T9.2 toponymref07_All.B9 = true := zK
def toponymref07_All.T11 : Bool × List (List Nat × List Nat) := (true, [([], []), ([], []), ([], []), ([1, 2], [1, 2]), ([0, 3], [0, 3]), ([], []), ([5], [5]), ([4, 6, 4], [4, 6]), ([], []), ([], []), ([9], [9]), ([8, 10], [8, 10]), ([7, 11, 7], [7, 11]), ([12, 12, 0, 1, 2, 3, 4, 5, 6, 7, 8, 9, 10, 11, 12], [1, 8, 12])])
def toponymref07_All.B11 : List Nat := [0, 0, 0, 6, 15, 0, 32, 127, 0, 0, 512, 1792, 4095, 8191]
theorem toponymref07_All.tab11 : rtab .any (opsOf Try.f19 11) = toponymref07_All.T11 := zK
theorem toponymref07_All.bits11 : waitsOk toponymref07_All.T11.2 toponymref07_All.B11 = true := zK
set_option maxHeartbeats 8000000 in
set_option maxRecDepth 100000 in
theorem toponymref07_All.calls (k : Nat) (A0 : Option Addr) (c0 : Nat) (l0 : List Int) (r : List Int) (w : World) (hr0 : Kd.C (Kd.int .i32) w A0 l0.length l0) (hc0 : l0.length ≤ c0) (h : toponymref07_All.f k l0 = some r) :
  Calls Try.prog 19 #[.slice A0 l0.length c0] w fun e w' => ∃ v0_ : Value, e = .returned (v0_) ∧ Kd.R (Kd.int .i32) 21 w' w.heap.size (fun _ => True) v0_ r ∧ Below w.heap.size w w' := by
 have HR0 := aM hr0
 have HC0 := aM hc0
 clear hr0 hc0
 have HB := aM (Below.refl w.heap.size w)
 have H : (toponymref07_All.l0 k l0 ([] : List Int) 0) = some r := h
 clear h
 have H' := aM H
 clear H
 go_enter Try.func19, Try.ntmps19
 go_wp2
 go_loopg [3, 4] k (fun kq v3 v4 w' => ∃ (x3_1 : List Int) (x4_1 : Int), v4 = .int .i64 x4_1 ∧ Aside0 (toponymref07_All.l0 kq l0 x3_1 x4_1 = some r) ∧ Aside0 (kq ≤ k) ∧ Aside0 (Kd.R (Kd.int .i32) 21 w' w.heap.size (fun _ => True) v3 x3_1) ∧ Aside0 (Below w.heap.size w w'))
 case atStart => exact ⟨(([] : List Int)), (0), zP, H', ⟨Nat.le_refl _⟩, ⟨zL⟩, ⟨zB⟩⟩
 case round =>
  clear H'
  try clear c1
  obtain ⟨x3_1, x4_1, rfl, HA, HK1, HO_3, HB⟩ := hrel
  cases gk with
  | zero => exact absurd HA.out (by simp [toponymref07_All.l0])
  | succ k1 =>
   have H := HA.out
   clear HA
   simp only [toponymref07_All.l0] at H
   by_cases c2 : x4_1 < (l0.length : Int)
   ·rw [if_pos c2] at H
    have c2b0 : decide (x4_1 < (l0.length : Int)) = true := decide_eq_true c2
    clear c2
    have HC3 := aM H
    clear H
    obtain ⟨Ao4, co4, eo4⟩ := Kd.R_slice HO_3.out
    subst eo4
    go_upto_block 2 with (fail)
    go_cut [5] (fun v5 wc => ∃ (kq : Nat) (x5_2 : Int), v5 = .int .i64 x5_2 ∧ Aside0 (toponymref07_All.j2 kq l0 x3_1 x4_1 x5_2 = some r) ∧ Aside0 (kq ≤ k1) ∧ Aside0 (Kd.R (Kd.int .i32) 21 wc w.heap.size (fun _ => True) (.slice Ao4 x3_1.length co4) x3_1) ∧ Aside0 (Below w.heap.size w wc))
    case first =>
     have H := HC3.out
     clear HC3
     have H' := aM H
     clear H
     go_wp2
     go_loopg [5] k1 (fun kq v5 w' => ∃ (x5_2 : Int), v5 = .int .i64 x5_2 ∧ Aside0 (toponymref07_All.l1 kq l0 x3_1 x4_1 x5_2 = some r) ∧ Aside0 (kq ≤ k1) ∧ Aside0 (Kd.R (Kd.int .i32) 21 w' w.heap.size (fun _ => True) (.slice Ao4 x3_1.length co4) x3_1) ∧ Aside0 (Below w.heap.size w w'))
     case atStart => exact ⟨(wrap64 ((x3_1.length : Int) - 1)), zP, H', ⟨Nat.le_refl _⟩, ⟨zR HO_3⟩, ⟨zB⟩⟩
     case round =>
      clear H'
      try clear c1
      try clear c2
      try clear c2b0
      try clear p2
      obtain ⟨x5_2, rfl, HA, HK2, HO_3, HB⟩ := hrel
      cases gk with
      | zero => exact absurd HA.out (by simp [toponymref07_All.l1])
      | succ k2 =>
       have H := HA.out
       clear HA
       simp only [toponymref07_All.l1] at H
       by_cases c5 : x5_2 ≥ 0
       ·rw [if_pos c5] at H
        have c5b0 : decide (0 ≤ x5_2) = true := decide_eq_true c5
        clear c5
        (first | rw [c5b0] | (simp only [i64_w, i32_w]; rw [c5b0]) | skip)
        by_cases c6 : 0 ≤ x5_2
        ·rw [if_pos c6] at H
         have c6b0 : decide (0 ≤ x5_2) = true := decide_eq_true c6
         clear c6
         by_cases c7 : x5_2 < (x3_1.length : Int)
         ·rw [if_pos c7] at H
          have c7b0 : decide (x5_2 < (x3_1.length : Int)) = true := decide_eq_true c7
          clear c7
          obtain ⟨t354, A8, H⟩ := zO H
          by_cases c9 : t354 = 0
          ·rw [if_pos c9] at H
           have c9b0 : (t354 == 0) = true := beq_iff_eq.mpr c9
           have c9b1 : (t354 != 0) = false := bne_eq_false_iff_eq.mpr c9
           clear c9
           have H' := aM H
           clear H
           have p353 : 0 ≤ (x5_2 : Int) := zoA
           have q353 : x5_2 < (x3_1.length : Int) := zoA
           obtain ⟨ad353, e353, hx353_0⟩ := Kd.at_int (Kd.R_reads' HO_3.out).2.2 x5_2 p353 q353
           cases e353
           replace p353 := eq_true p353
           replace q353 := eq_true q353
           go_wp2_with (first | (go_at_call 34; (with_reducible refine (toponymref03_Class.calls k2 (rd x3_1 x5_2) t354 _ A8.out).mono ?_); rintro e w10 ⟨rfl, hb⟩; have n_ := zI (aM (Kd.R_below (zR HO_3) hb)) (aM (below_step zB hb)); clear HO_3 HB; obtain ⟨HO_3, HB⟩ := n_; (try clear hb)))
           go_meet
           case rel => exact ⟨_, (x5_2), zP, H', ⟨by have := HK1.out; have := HK2.out; first | omega | exact Nat.le_refl _⟩, ⟨zR HO_3⟩, ⟨zB⟩⟩
          ·rw [if_neg c9] at H
           have c9b0 : (t354 == 0) = false := beq_eq_false_iff_ne.mpr c9
           have c9b1 : (t354 != 0) = true := bne_iff_ne.mpr c9
           have H' := aM H
           clear H
           have p353 : 0 ≤ (x5_2 : Int) := zoA
           have q353 : x5_2 < (x3_1.length : Int) := zoA
           obtain ⟨ad353, e353, hx353_0⟩ := Kd.at_int (Kd.R_reads' HO_3.out).2.2 x5_2 p353 q353
           cases e353
           replace p353 := eq_true p353
           replace q353 := eq_true q353
           go_wp2_with (first | (go_at_call 34; (with_reducible refine (toponymref03_Class.calls k2 (rd x3_1 x5_2) t354 _ A8.out).mono ?_); rintro e w11 ⟨rfl, hb⟩; have n_ := zI (aM (Kd.R_below (zR HO_3) hb)) (aM (below_step zB hb)); clear HO_3 HB; obtain ⟨HO_3, HB⟩ := n_; (try clear hb)))
           go_roundg k2
           case measure => have := HK1.out; have := HK2.out; omega
           case rel => exact ⟨(wrap64 (x5_2 - 1)), zP, H', ⟨by have := HK1.out; have := HK2.out; omega⟩, ⟨zR HO_3⟩, ⟨zB⟩⟩
         ·rw [if_neg c7] at H
          exact absurd H (by simp)
        ·rw [if_neg c6] at H
         exact absurd H (by simp)
       ·rw [if_neg c5] at H
        have c5b0 : decide (0 ≤ x5_2) = false := decide_eq_false c5
        clear c5
        (first | rw [c5b0] | (simp only [i64_w, i32_w]; rw [c5b0]) | skip)
        have H' := aM H
        clear H
        go_wp2
        go_meet
        case rel => exact ⟨_, (x5_2), zP, H', ⟨by have := HK1.out; have := HK2.out; first | omega | exact Nat.le_refl _⟩, ⟨zR HO_3⟩, ⟨zB⟩⟩
    case rest =>
     clear HC3
     try clear c1
     try clear c2
     try clear c2b0
     try clear p2
     try clear p3
     try clear q3
     try clear hx3
     try clear c5
     try clear c5b0
     try clear c6
     try clear c6b0
     try clear p6
     try clear c7
     try clear c7b0
     try clear c9
     try clear c9b0
     try clear c9b1
     try clear hx353_0
     try clear p2
     try clear p353
     try clear q353
     obtain ⟨kq, x5_2, rfl, HA, HJ2, HO_3, HB⟩ := hcut
     cases kq with
     | zero => exact absurd HA.out (by simp [toponymref07_All.j2])
     | succ kj2 =>
      have H := HA.out
      clear HA
      simp only [toponymref07_All.j2] at H
      have HC12 := aM H
      clear H
      go_upto_region 8 with (fail)
      go_cut [41] (fun v41 wc => ∃ (kq : Nat) (x41_11 : Bool), v41 = .bool x41_11 ∧ Aside0 (toponymref07_All.j3 kq l0 x3_1 x4_1 x5_2 x41_11 = some r) ∧ Aside0 (kq ≤ kj2) ∧ Aside0 (Kd.R (Kd.int .i32) 21 wc w.heap.size (fun _ => True) (.slice Ao4 x3_1.length co4) x3_1) ∧ Aside0 (Below w.heap.size w wc))
      case first =>
       have H := HC12.out
       clear HC12
       by_cases c13 : x5_2 ≥ 0
       ·rw [if_pos c13] at H
        have c13b0 : decide (0 ≤ x5_2) = true := decide_eq_true c13
        clear c13
        (first | rw [c13b0] | (simp only [i64_w, i32_w]; rw [c13b0]) | skip)
        obtain ⟨ji14, hji14⟩ : ∃ j_ : Int, (wrap64 (x5_2 + 1)) = j_ := ⟨_, rfl⟩
        replace H : (if 0 ≤ (ji14) then (if (ji14) ≤ (x3_1.length : Int) then (if 0 ≤ x4_1 then (if x4_1 < (l0.length : Int) then ((toponymref07_free.f kj2 (x3_1.drop ((ji14) : Int).toNat) (rd l0 x4_1)).bind fun t360 => (toponymref07_All.j3 kj2 l0 x3_1 x4_1 x5_2 t360)) else (none)) else (none)) else (none)) else (none)) = some r := by first | (rw [hji14] at H; exact H) | (simp only [hji14] at H ⊢; exact H)
        have hji14w : (IntKind.i64.wrap (x5_2 + 1)) = ji14 := (i64_w _).trans hji14
        by_cases c15 : 0 ≤ (ji14)
        ·rw [if_pos c15] at H
         have c15b0 := eq_true c15
         have c15b1 : decide (0 ≤ (ji14)) = true := decide_eq_true c15
         clear c15
         by_cases c16 : (ji14) ≤ (x3_1.length : Int)
         ·rw [if_pos c16] at H
          have c16b0 := eq_true c16
          have c16b1 : decide ((ji14) ≤ (x3_1.length : Int)) = true := decide_eq_true c16
          clear c16
          obtain ⟨y355, hy355⟩ : ∃ y_ : List Int, y_ = (x3_1.drop ((ji14) : Int).toNat) := ⟨_, rfl⟩
          replace H : (if 0 ≤ x4_1 then (if x4_1 < (l0.length : Int) then ((toponymref07_free.f kj2 y355 (rd l0 x4_1)).bind fun t360 => (toponymref07_All.j3 kj2 l0 x3_1 x4_1 x5_2 t360)) else (none)) else (none)) = some r := zY hy355 H
          have Ny355 := aM hy355
          clear hy355
          by_cases c17 : 0 ≤ x4_1
          ·rw [if_pos c17] at H
           have c17b0 : decide (0 ≤ x4_1) = true := decide_eq_true c17
           clear c17
           by_cases c18 : x4_1 < (l0.length : Int)
           ·rw [if_pos c18] at H
            have c18b0 : decide (x4_1 < (l0.length : Int)) = true := decide_eq_true c18
            clear c18
            obtain ⟨t360, A19, H⟩ := zO H
            have H' := aM H
            clear H
            try go_wp2
            have n0_ := aM (Kd.R_drew HO_3.out)
            have n1_ := aM (bD HB.out)
            clear HO_3
            clear HB
            have HO_3 := n0_
            have HB := n1_
            clear n0_ n1_
            have q21 : ((ji14) : Int) ≤ ((x3_1.length : Int) : Int) := zoA
            obtain ⟨i021, hi021, _, hsz21, _⟩ := info_parts info21
            have hroom21 : x3_1.length ≤ co4 := (Kd.R_reads' HO_3.out).2.1
            have hC21 : Kd.C (Kd.int .i32) _ Ao4 x3_1.length x3_1 := (Kd.R_reads' HO_3.out).2.2
            have q021 : (0 : Int) ≤ ((ji14) : Int) := zoA
            have hcut21 := cut_from (P := Try.prog) 22 21 .i64 Try.underlying22 hi021 1 hsz21 Ao4 x3_1.length co4 (ji14) q021 q21
            have hr21 := Kd.C_drop (m := ((ji14) : Int).toNat) (c := co4) hC21 (by omega) hroom21
            obtain ⟨A21, hA21⟩ : ∃ A1, A1 = (if co4 = ((ji14) : Int).toNat then Ao4 else (Ao4 : Option Addr).map (·.add (((ji14) : Int).toNat * 1))) := ⟨_, rfl⟩
            obtain ⟨c21, hc21⟩ : ∃ c1, c1 = co4 - ((ji14) : Int).toNat := ⟨_, rfl⟩
            have hy21 : y355.length = x3_1.length - ((ji14) : Int).toNat := (by rw [Ny355.out, List.length_drop] <;> omega)
            rw [show (x3_1).drop ((ji14) : Int).toNat = y355 from Ny355.out.symm] at hr21
            replace hr21 : Kd.C (Kd.int .i32) _ A21 y355.length y355 := (by rw [hA21]; exact hr21)
            rw [← hy21, ← hA21, ← hc21] at hcut21
            have HR358 := aM hr21
            have HC358 := aM (show y355.length ≤ c21 from by rw [hy21, hc21]; exact Nat.sub_le_sub_right hroom21 _)
            clear hr21 hC21 hroom21 hi021 hsz21 hc21
            have KY21 := aM hy21
            have KA21 := aM hA21
            clear hy21 hA21
            have KL21 := aM (show ((ji14) : Int).toNat ≤ x3_1.length from by omega)
            replace q21 := eq_true q21
            have p359 : 0 ≤ (x4_1 : Int) := zoA
            have q359 : x4_1 < (l0.length : Int) := zoA
            obtain ⟨ad359, e359, hx359_0⟩ := Kd.at_int HR0.out x4_1 p359 q359
            have hw359_0 := hx359_0
            cases e359
            replace hx359_0 := (HB.out.cell (World.block_lt_of_cell? w _ hx359_0)).trans hx359_0
            replace p359 := eq_true p359
            replace q359 := eq_true q359
            refine start_ (n := 13) (S := fun w' => w'.cell? (ad359.add (x4_1).toNat) = some (.int .i32 (rd l0 x4_1))) (ds := []) #[false, false, false, false, false, false, false, false, false, false, false, false, false] zK rfl rfl (((HB.out.cell (World.block_lt_of_cell? w _ hw359_0)).trans hw359_0)) (fun hHeld => ?_); refine with_tabW toponymref07_All.tab8 toponymref07_All.bits8 (fun HT_ HW_ => ?_)
            generalize wc.drew = w20 at HO_3 HB HR358 hx359_0 hHeld ⊢
            refine pure_ (i := 0) (N := some 29) (v := ?_) (a' := ?_) #[true, false, false, false, false, false, false, false, false, false, false, false, false] rfl rfl (any_of HT_.out zK) (fun _ _ _ h => h) (Or.inl ⟨by rfl, ?_⟩) ?_ ?_
            rotate_left
            ·intro w'
             go_simp
             with_reducible rfl
            rotate_left
            ·simp only [Act.put, List.setIfInBounds_toArray, List.set_cons_zero, List.set_cons_succ, i64_w, i32_w]
             rfl
            refine pure_ (i := 1) (N := some 30) (v := ?_) (a' := ?_) #[true, true, false, false, false, false, false, false, false, false, false, false, false] rfl rfl (any_of HT_.out zK) (fun _ _ _ h => h) (Or.inl ⟨by rfl, ?_⟩) ?_ ?_
            rotate_left
            ·intro w'
             go_simp
             with_reducible rfl
            rotate_left
            ·simp only [Act.put, List.setIfInBounds_toArray, List.set_cons_zero, List.set_cons_succ, i64_w, i32_w]
             rfl
            refine pure_ (i := 2) (N := some 31) (v := ?_) (a' := ?_) #[true, true, true, false, false, false, false, false, false, false, false, false, false] rfl rfl (any_of HT_.out zK) (fun _ _ _ h => h) (Or.inl ⟨by rfl, ?_⟩) ?_ ?_
            rotate_left
            ·intro w'
             go_simp
             with_reducible rfl
            rotate_left
            ·simp only [Act.put, List.setIfInBounds_toArray, List.set_cons_zero, List.set_cons_succ, i64_w, i32_w]
             rfl
            refine pure_ (i := 3) (N := some 32) (v := ?_) (a' := ?_) #[true, true, true, true, false, false, false, false, false, false, false, false, false] rfl rfl (any_of HT_.out zK) (fun _ _ _ h => h) (Or.inl ⟨by rfl, ?_⟩) ?_ ?_
            rotate_left
            ·intro w'
             go_simp
             with_reducible rfl
            rotate_left
            ·simp only [Act.put, List.setIfInBounds_toArray, List.set_cons_zero, List.set_cons_succ, i64_w, i32_w]
             rfl
            refine pure_ (i := 4) (N := some 33) (v := ?_) (a' := ?_) #[true, true, true, true, true, false, false, false, false, false, false, false, false] rfl rfl (any_of HT_.out zK) (fun _ _ _ h => h) (Or.inl ⟨by rfl, ?_⟩) ?_ ?_
            rotate_left
            ·intro w'
             go_simp
             with_reducible rfl
            rotate_left
            ·simp only [Act.put, List.setIfInBounds_toArray, List.set_cons_zero, List.set_cons_succ, i64_w, i32_w]
             rfl
            refine pure_ (i := 5) (N := some 34) (v := ?_) (a' := ?_) #[true, true, true, true, true, true, false, false, false, false, false, false, false] rfl rfl (any_of HT_.out zK) (fun _ _ _ h => h) (Or.inl ⟨by rfl, ?_⟩) ?_ ?_
            rotate_left
            ·intro w'
             go_simp
             with_reducible rfl
            rotate_left
            ·simp only [Act.put, List.setIfInBounds_toArray, List.set_cons_zero, List.set_cons_succ, i64_w, i32_w]
             rfl
            refine pure_ (i := 6) (N := some 35) (v := ?_) (a' := ?_) #[true, true, true, true, true, true, true, false, false, false, false, false, false] rfl rfl (any_of HT_.out zK) (fun _ _ _ h => h) (Or.inl ⟨by rfl, ?_⟩) ?_ ?_
            rotate_left
            ·intro w'
             go_simp
             with_reducible rfl
            rotate_left
            ·simp only [Act.put, List.setIfInBounds_toArray, List.set_cons_zero, List.set_cons_succ, i64_w, i32_w]
             rfl
            refine pure_ (i := 7) (N := some 36) (v := ?_) (a' := ?_) #[true, true, true, true, true, true, true, true, false, false, false, false, false] rfl rfl (any_of HT_.out zK) (fun _ _ _ h => h) (Or.inl ⟨by rfl, ?_⟩) ?_ ?_
            rotate_left
            ·intro w'
             go_simp
             with_reducible rfl
            rotate_left
            ·simp only [Act.put, List.setIfInBounds_toArray, List.set_cons_zero, List.set_cons_succ, i64_w, i32_w]
             rfl
            refine pure_ (i := 8) (N := some 37) (v := ?_) (a' := ?_) #[true, true, true, true, true, true, true, true, true, false, false, false, false] rfl rfl (any_of HT_.out zK) (fun _ _ _ h => h) (Or.inl ⟨by rfl, ?_⟩) ?_ ?_
            rotate_left
            ·intro w'
             go_simp
             with_reducible rfl
            rotate_left
            ·simp only [Act.put, List.setIfInBounds_toArray, List.set_cons_zero, List.set_cons_succ, i64_w, i32_w]
             rfl
            refine pure_ (i := 9) (N := some 38) (v := ?_) (a' := ?_) #[true, true, true, true, true, true, true, true, true, true, false, false, false] rfl rfl (any_of HT_.out zK) (fun _ _ _ h => h) (Or.inl ⟨by rfl, ?_⟩) ?_ ?_
            rotate_left
            ·intro w'
             go_simp
             with_reducible rfl
            rotate_left
            ·simp only [Act.put, List.setIfInBounds_toArray, List.set_cons_zero, List.set_cons_succ, i64_w, i32_w]
             rfl
            refine take_ (i := 10) (N := some 39) (v := ?_) (a' := ?_) #[true, true, true, true, true, true, true, true, true, true, true, false, false] rfl rfl (take_ofW HT_.out HW_.out zK) (fun _ _ _ h => h) (Or.inl ⟨by rfl, ?_⟩) hHeld ?_ ?_
            rotate_left
            ·intro w' s0
             go_simp
             with_reducible rfl
            rotate_left
            ·simp only [Act.put, List.setIfInBounds_toArray, List.set_cons_zero, List.set_cons_succ, i64_w, i32_w]
             rfl
            refine one_ (i := 11) (N := some 40) #[true, true, true, true, true, true, true, true, true, true, true, true, false] rfl rfl (one_of HT_.out zK) (by decide) (fun K hK => ?_)
            refine goes_ Try.func35 zK rfl #[.slice A21 y355.length c21, .int .i32 (rd l0 x4_1)] (by rfl) rfl rfl zM ?_
            with_reducible refine (toponymref07_free.calls kj2 _ _ y355 (rd l0 x4_1) t360 _ ?side1 ?side2 A19.out).mono ?_
            (case side1 => repeat (first | exact (by repeat (first | (with_reducible exact HR358.out) | (with_reducible refine Kd.C_alloc ?_ _) | (with_reducible refine Kd.C_drewN ?_ _) | (with_reducible refine Kd.C_drew ?_) | exact HR358.out)) | (with_reducible refine Kd.C_alloc ?_ _) | (with_reducible refine Kd.C_drewN ?_ _) | (with_reducible refine Kd.C_drew ?_)))
            (case side2 => exact HC358.out)
            rintro e w22 ⟨rfl, hb⟩
            refine ⟨_, rfl, ?_⟩
            have n0_ := aM (Kd.R_below (zR HO_3) hb)
            have n1_ := aM (Kd.C_below (by repeat (first | (with_reducible exact HR358.out) | (with_reducible refine Kd.C_alloc ?_ _) | (with_reducible refine Kd.C_drewN ?_ _) | (with_reducible refine Kd.C_drew ?_) | exact HR358.out)) hb)
            have n2_ := aM (below_step zB hb)
            clear HO_3
            clear HR358
            clear HB
            have HO_3 := n0_
            have HR358 := n1_
            have HB := n2_
            clear n0_ n1_ n2_
            (try clear hb)
            (try clear hb2)
            (try clear hk)
            (try clear hi)
            refine hK.out _ _ (((HB.out.cell (World.block_lt_of_cell? w _ hw359_0)).trans hw359_0)) (fun hHeld => ?_)
            clear hK K
            refine norm_ (a' := ?_) ?_ ?_
            rotate_left
            ·show Act.put _ (some 40) _ = _
             simp only [Act.put, List.setIfInBounds_toArray, List.set_cons_zero, List.set_cons_succ, i64_w, i32_w]
             rfl
            refine pure_ (i := 12) (N := some 41) (v := ?_) (a' := ?_) #[true, true, true, true, true, true, true, true, true, true, true, true, true] rfl rfl (any_of HT_.out zK) (fun _ _ _ h => h) (Or.inl ⟨by rfl, ?_⟩) ?_ ?_
            rotate_left
            ·intro w'
             go_simp
             with_reducible rfl
            rotate_left
            ·simp only [Act.put, List.setIfInBounds_toArray, List.set_cons_zero, List.set_cons_succ, i64_w, i32_w]
             rfl
            refine done_ (done_of HT_.out zK) ?_
            try go_wp2
            go_meet
            case rel => exact ⟨_, (t360), zP, H', ⟨by have := HK1.out; have := HJ2.out; first | omega | exact Nat.le_refl _⟩, ⟨zR HO_3⟩, ⟨zB⟩⟩
           ·rw [if_neg c18] at H
            exact absurd H (by simp)
          ·rw [if_neg c17] at H
           exact absurd H (by simp)
         ·rw [if_neg c16] at H
          exact absurd H (by simp)
        ·rw [if_neg c15] at H
         exact absurd H (by simp)
       ·rw [if_neg c13] at H
        have c13b0 : decide (0 ≤ x5_2) = false := decide_eq_false c13
        clear c13
        (first | rw [c13b0] | (simp only [i64_w, i32_w]; rw [c13b0]) | skip)
        have H' := aM H
        clear H
        try go_wp2
        have n0_ := aM (Kd.R_drew HO_3.out)
        have n1_ := aM (bD HB.out)
        clear HO_3
        clear HB
        have HO_3 := n0_
        have HB := n1_
        clear n0_ n1_
        refine start_ (n := 13) (S := fun w' => True) (ds := []) #[false, false, false, false, false, false, false, false, false, false, false, false, false] zK rfl rfl trivial (fun hHeld => ?_); refine with_tabW toponymref07_All.tab8 toponymref07_All.bits8 (fun HT_ HW_ => ?_)
        generalize wc.drew = w23 at HO_3 HB hHeld ⊢
        refine pure_ (i := 0) (N := some 29) (v := ?_) (a' := ?_) #[true, false, false, false, false, false, false, false, false, false, false, false, false] rfl rfl (any_of HT_.out zK) (fun _ _ _ h => h) (Or.inl ⟨by rfl, ?_⟩) ?_ ?_
        rotate_left
        ·intro w'
         go_simp
         with_reducible rfl
        rotate_left
        ·simp only [Act.put, List.setIfInBounds_toArray, List.set_cons_zero, List.set_cons_succ, i64_w, i32_w]
         rfl
        refine pure_ (i := 1) (N := some 30) (v := ?_) (a' := ?_) #[true, true, false, false, false, false, false, false, false, false, false, false, false] rfl rfl (any_of HT_.out zK) (fun _ _ _ h => h) (Or.inl ⟨by rfl, ?_⟩) ?_ ?_
        rotate_left
        ·intro w'
         go_simp
         with_reducible rfl
        rotate_left
        ·simp only [Act.put, List.setIfInBounds_toArray, List.set_cons_zero, List.set_cons_succ, i64_w, i32_w]
         rfl
        refine pure_ (i := 2) (N := some 31) (v := ?_) (a' := ?_) #[true, true, true, false, false, false, false, false, false, false, false, false, false] rfl rfl (any_of HT_.out zK) (fun _ _ _ h => h) (Or.inl ⟨by rfl, ?_⟩) ?_ ?_
        rotate_left
        ·intro w'
         go_simp
         with_reducible rfl
        rotate_left
        ·simp only [Act.put, List.setIfInBounds_toArray, List.set_cons_zero, List.set_cons_succ, i64_w, i32_w]
         rfl
        refine pure_ (i := 3) (N := some 32) (v := undef) (a' := ?_) #[true, true, true, true, false, false, false, false, false, false, false, false, false] rfl rfl (any_of HT_.out zK) (fun _ _ _ h => h) (Or.inr ⟨by rfl, rfl⟩) ?_ ?_
        rotate_left
        ·simp only [Act.put, List.setIfInBounds_toArray, List.set_cons_zero, List.set_cons_succ, i64_w, i32_w]
         rfl
        refine pure_ (i := 4) (N := some 33) (v := undef) (a' := ?_) #[true, true, true, true, true, false, false, false, false, false, false, false, false] rfl rfl (any_of HT_.out zK) (fun _ _ _ h => h) (Or.inr ⟨by rfl, rfl⟩) ?_ ?_
        rotate_left
        ·simp only [Act.put, List.setIfInBounds_toArray, List.set_cons_zero, List.set_cons_succ, i64_w, i32_w]
         rfl
        refine pure_ (i := 5) (N := some 34) (v := undef) (a' := ?_) #[true, true, true, true, true, true, false, false, false, false, false, false, false] rfl rfl (any_of HT_.out zK) (fun _ _ _ h => h) (Or.inr ⟨by rfl, rfl⟩) ?_ ?_
        rotate_left
        ·simp only [Act.put, List.setIfInBounds_toArray, List.set_cons_zero, List.set_cons_succ, i64_w, i32_w]
         rfl
        refine pure_ (i := 6) (N := some 35) (v := undef) (a' := ?_) #[true, true, true, true, true, true, true, false, false, false, false, false, false] rfl rfl (any_of HT_.out zK) (fun _ _ _ h => h) (Or.inr ⟨by rfl, rfl⟩) ?_ ?_
        rotate_left
        ·simp only [Act.put, List.setIfInBounds_toArray, List.set_cons_zero, List.set_cons_succ, i64_w, i32_w]
         rfl
        refine pure_ (i := 7) (N := some 36) (v := undef) (a' := ?_) #[true, true, true, true, true, true, true, true, false, false, false, false, false] rfl rfl (any_of HT_.out zK) (fun _ _ _ h => h) (Or.inr ⟨by rfl, rfl⟩) ?_ ?_
        rotate_left
        ·simp only [Act.put, List.setIfInBounds_toArray, List.set_cons_zero, List.set_cons_succ, i64_w, i32_w]
         rfl
        refine pure_ (i := 8) (N := some 37) (v := undef) (a' := ?_) #[true, true, true, true, true, true, true, true, true, false, false, false, false] rfl rfl (any_of HT_.out zK) (fun _ _ _ h => h) (Or.inr ⟨by rfl, rfl⟩) ?_ ?_
        rotate_left
        ·simp only [Act.put, List.setIfInBounds_toArray, List.set_cons_zero, List.set_cons_succ, i64_w, i32_w]
         rfl
        refine pure_ (i := 9) (N := some 38) (v := undef) (a' := ?_) #[true, true, true, true, true, true, true, true, true, true, false, false, false] rfl rfl (any_of HT_.out zK) (fun _ _ _ h => h) (Or.inr ⟨by rfl, rfl⟩) ?_ ?_
        rotate_left
        ·simp only [Act.put, List.setIfInBounds_toArray, List.set_cons_zero, List.set_cons_succ, i64_w, i32_w]
         rfl
        refine pure_ (i := 10) (N := some 39) (v := undef) (a' := ?_) #[true, true, true, true, true, true, true, true, true, true, true, false, false] rfl rfl (any_of HT_.out zK) (fun _ _ _ h => h) (Or.inr ⟨by rfl, rfl⟩) ?_ ?_
        rotate_left
        ·simp only [Act.put, List.setIfInBounds_toArray, List.set_cons_zero, List.set_cons_succ, i64_w, i32_w]
         rfl
        refine pure_ (i := 11) (N := some 40) (v := undef) (a' := ?_) #[true, true, true, true, true, true, true, true, true, true, true, true, false] rfl rfl (any_of HT_.out zK) (fun _ _ _ h => h) (Or.inr ⟨by rfl, rfl⟩) ?_ ?_
        rotate_left
        ·simp only [Act.put, List.setIfInBounds_toArray, List.set_cons_zero, List.set_cons_succ, i64_w, i32_w]
         rfl
        refine pure_ (i := 12) (N := some 41) (v := ?_) (a' := ?_) #[true, true, true, true, true, true, true, true, true, true, true, true, true] rfl rfl (any_of HT_.out zK) (fun _ _ _ h => h) (Or.inl ⟨by rfl, ?_⟩) ?_ ?_
        rotate_left
        ·intro w'
         go_simp
         with_reducible rfl
        rotate_left
        ·simp only [Act.put, List.setIfInBounds_toArray, List.set_cons_zero, List.set_cons_succ, i64_w, i32_w]
         rfl
        refine done_ (done_of HT_.out zK) ?_
        try go_wp2
        go_meet
        case rel => exact ⟨_, (false), zP, H', ⟨by have := HK1.out; have := HJ2.out; first | omega | exact Nat.le_refl _⟩, ⟨zR HO_3⟩, ⟨zB⟩⟩
      case rest =>
       clear HC12
       try clear c1
       try clear c2
       try clear c2b0
       try clear p2
       try clear q2
       try clear c3
       try clear p3
       try clear q3
       try clear hx3
       try clear c5
       try clear c5b0
       try clear c6
       try clear c6b0
       try clear p6
       try clear c7
       try clear c7b0
       try clear c9
       try clear c9b0
       try clear c9b1
       try clear c13
       try clear c13b0
       try clear c15
       try clear c15b0
       try clear c15b1
       try clear c16
       try clear c16b0
       try clear c16b1
       try clear c17
       try clear c17b0
       try clear c18
       try clear c18b0
       try clear c19
       try clear c21
       try clear q21
       try clear hx353_0
       try clear hx359_0
       try clear p2
       try clear p3
       try clear p353
       try clear p359
       try clear p6
       try clear q021
       try clear q21
       try clear q3
       try clear q353
       try clear q359
       obtain ⟨kq, x41_11, rfl, HA, HJ11, HO_3, HB⟩ := hcut
       cases kq with
       | zero => exact absurd HA.out (by simp [toponymref07_All.j3])
       | succ kj11 =>
        have H := HA.out
        clear HA
        simp only [toponymref07_All.j3] at H
        by_cases c24 : x41_11 = true
        ·subst c24
         rw [if_pos rfl] at H
         by_cases c25 : 0 ≤ x5_2
         ·rw [if_pos c25] at H
          have c25b0 : decide (0 ≤ x5_2) = true := decide_eq_true c25
          clear c25
          by_cases c26 : x5_2 < (x3_1.length : Int)
          ·rw [if_pos c26] at H
           have c26b0 : decide (x5_2 < (x3_1.length : Int)) = true := decide_eq_true c26
           clear c26
           by_cases c27 : 0 ≤ x4_1
           ·rw [if_pos c27] at H
            have c27b0 : decide (0 ≤ x4_1) = true := decide_eq_true c27
            clear c27
            by_cases c28 : x4_1 < (l0.length : Int)
            ·rw [if_pos c28] at H
             have c28b0 : decide (x4_1 < (l0.length : Int)) = true := decide_eq_true c28
             clear c28
             obtain ⟨⟨t363, t364⟩, A29, H⟩ := zO H
             try dsimp only at H
             by_cases c30 : t364 = true
             ·subst c30
              rw [if_pos rfl] at H
              obtain ⟨y365, hy365⟩ : ∃ y_ : List Int, y_ = (([] : List Int)) := ⟨_, rfl⟩
              replace H : (if x5_2 ≤ (x3_1.length : Int) then ((some (x3_1.take (x5_2 : Int).toNat : List Int)).bind fun y368 => (if y365.length + y368.length < 35184372088832 then ((some (y365 ++ y368 : List Int)).bind fun y372 => ((some (([t363] : List Int) : List Int)).bind fun y375 => (if y372.length + y375.length < 35184372088832 then ((some (y372 ++ y375 : List Int)).bind fun y378 => (if 0 ≤ (wrap64 (x5_2 + 1)) then (if (wrap64 (x5_2 + 1)) ≤ (x3_1.length : Int) then ((some (x3_1.drop ((wrap64 (x5_2 + 1)) : Int).toNat : List Int)).bind fun y381 => (if y378.length + y381.length < 35184372088832 then (toponymref07_All.l0 kj11 l0 (y378 ++ y381) (wrap64 (x4_1 + 1))) else (none))) else (none)) else (none))) else (none)))) else (none))) else (none)) = some r := zY hy365 H
              have Ny365 := aM hy365
              clear hy365
              have c31b0 := eq_true (zoA : 0 ≤ x5_2)
              by_cases c32 : x5_2 ≤ (x3_1.length : Int)
              ·rw [if_pos c32] at H
               have c32b0 := eq_true c32
               have c32b1 : decide (x5_2 ≤ (x3_1.length : Int)) = true := decide_eq_true c32
               clear c32
               obtain ⟨y368, hy368⟩ : ∃ y_ : List Int, y_ = (x3_1.take (x5_2 : Int).toNat) := ⟨_, rfl⟩
               replace H : (if y365.length + y368.length < 35184372088832 then ((some (y365 ++ y368 : List Int)).bind fun y372 => ((some (([t363] : List Int) : List Int)).bind fun y375 => (if y372.length + y375.length < 35184372088832 then ((some (y372 ++ y375 : List Int)).bind fun y378 => (if 0 ≤ (wrap64 (x5_2 + 1)) then (if (wrap64 (x5_2 + 1)) ≤ (x3_1.length : Int) then ((some (x3_1.drop ((wrap64 (x5_2 + 1)) : Int).toNat : List Int)).bind fun y381 => (if y378.length + y381.length < 35184372088832 then (toponymref07_All.l0 kj11 l0 (y378 ++ y381) (wrap64 (x4_1 + 1))) else (none))) else (none)) else (none))) else (none)))) else (none)) = some r := zY hy368 H
               have Ny368 := aM hy368
               clear hy368
               by_cases c33 : y365.length + y368.length < 35184372088832
               ·rw [if_pos c33] at H
                have LMc33 := aM c33
                clear c33
                obtain ⟨y372, hy372⟩ : ∃ y_ : List Int, y_ = (y365 ++ y368) := ⟨_, rfl⟩
                replace H : ((some (([t363] : List Int) : List Int)).bind fun y375 => (if y372.length + y375.length < 35184372088832 then ((some (y372 ++ y375 : List Int)).bind fun y378 => (if 0 ≤ (wrap64 (x5_2 + 1)) then (if (wrap64 (x5_2 + 1)) ≤ (x3_1.length : Int) then ((some (x3_1.drop ((wrap64 (x5_2 + 1)) : Int).toNat : List Int)).bind fun y381 => (if y378.length + y381.length < 35184372088832 then (toponymref07_All.l0 kj11 l0 (y378 ++ y381) (wrap64 (x4_1 + 1))) else (none))) else (none)) else (none))) else (none))) = some r := zY hy372 H
                have Ny372 := aM hy372
                clear hy372
                obtain ⟨y375, hy375⟩ : ∃ y_ : List Int, y_ = (([t363] : List Int)) := ⟨_, rfl⟩
                replace H : (if y372.length + y375.length < 35184372088832 then ((some (y372 ++ y375 : List Int)).bind fun y378 => (if 0 ≤ (wrap64 (x5_2 + 1)) then (if (wrap64 (x5_2 + 1)) ≤ (x3_1.length : Int) then ((some (x3_1.drop ((wrap64 (x5_2 + 1)) : Int).toNat : List Int)).bind fun y381 => (if y378.length + y381.length < 35184372088832 then (toponymref07_All.l0 kj11 l0 (y378 ++ y381) (wrap64 (x4_1 + 1))) else (none))) else (none)) else (none))) else (none)) = some r := zY hy375 H
                have Ny375 := aM hy375
                clear hy375
                by_cases c34 : y372.length + y375.length < 35184372088832
                ·rw [if_pos c34] at H
                 have LMc34 := aM c34
                 clear c34
                 obtain ⟨y378, hy378⟩ : ∃ y_ : List Int, y_ = (y372 ++ y375) := ⟨_, rfl⟩
                 replace H : (if 0 ≤ (wrap64 (x5_2 + 1)) then (if (wrap64 (x5_2 + 1)) ≤ (x3_1.length : Int) then ((some (x3_1.drop ((wrap64 (x5_2 + 1)) : Int).toNat : List Int)).bind fun y381 => (if y378.length + y381.length < 35184372088832 then (toponymref07_All.l0 kj11 l0 (y378 ++ y381) (wrap64 (x4_1 + 1))) else (none))) else (none)) else (none)) = some r := zY hy378 H
                 have Ny378 := aM hy378
                 clear hy378
                 obtain ⟨ji35, hji35⟩ : ∃ j_ : Int, (wrap64 (x5_2 + 1)) = j_ := ⟨_, rfl⟩
                 replace H : (if 0 ≤ (ji35) then (if (ji35) ≤ (x3_1.length : Int) then ((some (x3_1.drop ((ji35) : Int).toNat : List Int)).bind fun y381 => (if y378.length + y381.length < 35184372088832 then (toponymref07_All.l0 kj11 l0 (y378 ++ y381) (wrap64 (x4_1 + 1))) else (none))) else (none)) else (none)) = some r := by first | (rw [hji35] at H; exact H) | (simp only [hji35] at H ⊢; exact H)
                 (try rw [hji35] at A29)
                 have hji35w : (IntKind.i64.wrap (x5_2 + 1)) = ji35 := (i64_w _).trans hji35
                 by_cases c36 : 0 ≤ (ji35)
                 ·rw [if_pos c36] at H
                  have c36b0 := eq_true c36
                  have c36b1 : decide (0 ≤ (ji35)) = true := decide_eq_true c36
                  clear c36
                  by_cases c37 : (ji35) ≤ (x3_1.length : Int)
                  ·rw [if_pos c37] at H
                   have c37b0 := eq_true c37
                   have c37b1 : decide ((ji35) ≤ (x3_1.length : Int)) = true := decide_eq_true c37
                   clear c37
                   obtain ⟨y381, hy381⟩ : ∃ y_ : List Int, y_ = (x3_1.drop ((ji35) : Int).toNat) := ⟨_, rfl⟩
                   replace H : (if y378.length + y381.length < 35184372088832 then (toponymref07_All.l0 kj11 l0 (y378 ++ y381) (wrap64 (x4_1 + 1))) else (none)) = some r := zY hy381 H
                   have Ny381 := aM hy381
                   clear hy381
                   by_cases c38 : y378.length + y381.length < 35184372088832
                   ·rw [if_pos c38] at H
                    have LMc38 := aM c38
                    clear c38
                    obtain ⟨y385, hy385⟩ : ∃ y_ : List Int, y_ = (y378 ++ y381) := ⟨_, rfl⟩
                    replace H : (toponymref07_All.l0 kj11 l0 y385 (wrap64 (x4_1 + 1))) = some r := zY hy385 H
                    have Ny385 := aM hy385
                    clear hy385
                    have H' := aM H
                    clear H
                    try go_wp2
                    have n0_ := aM (Kd.R_drew HO_3.out)
                    have n1_ := aM (bD HB.out)
                    clear HO_3
                    clear HB
                    have HO_3 := n0_
                    have HB := n1_
                    clear n0_ n1_
                    have p361 : 0 ≤ (x5_2 : Int) := zoA
                    have q361 : x5_2 < (x3_1.length : Int) := zoA
                    obtain ⟨ad361, e361, hx361_0⟩ := Kd.at_int (Kd.R_reads' HO_3.out).2.2 x5_2 p361 q361
                    cases e361
                    replace p361 := eq_true p361
                    replace q361 := eq_true q361
                    have p362 : 0 ≤ (x4_1 : Int) := zoA
                    have q362 : x4_1 < (l0.length : Int) := zoA
                    obtain ⟨ad362, e362, hx362_0⟩ := Kd.at_int HR0.out x4_1 p362 q362
                    have hw362_0 := hx362_0
                    cases e362
                    replace hx362_0 := (HB.out.cell (World.block_lt_of_cell? w _ hx362_0)).trans hx362_0
                    replace p362 := eq_true p362
                    replace q362 := eq_true q362
                    refine start_ (n := 14) (S := fun w' => w'.cell? (ad361.add (x5_2).toNat) = some (.int .i32 (rd x3_1 x5_2)) ∧ w'.cell? (ad362.add (x4_1).toNat) = some (.int .i32 (rd l0 x4_1))) (ds := []) #[false, false, false, false, false, false, false, false, false, false, false, false, false, false] zK rfl rfl ⟨hx361_0, ((HB.out.cell (World.block_lt_of_cell? w _ hw362_0)).trans hw362_0)⟩ (fun hHeld => ?_); refine with_tabW toponymref07_All.tab9 toponymref07_All.bits9 (fun HT_ HW_ => ?_)
                    generalize wc.drew = w39 at HO_3 HB hx361_0 hx362_0 hHeld ⊢
                    refine pure_ (i := 0) (N := some 43) (v := ?_) (a' := ?_) #[true, false, false, false, false, false, false, false, false, false, false, false, false, false] rfl rfl (any_of HT_.out zK) (fun _ _ _ h => h) (Or.inl ⟨by rfl, ?_⟩) ?_ ?_
                    rotate_left
                    ·intro w'
                     go_simp
                     with_reducible rfl
                    rotate_left
                    ·simp only [Act.put, List.setIfInBounds_toArray, List.set_cons_zero, List.set_cons_succ, i64_w, i32_w]
                     rfl
                    refine pure_ (i := 1) (N := some 44) (v := ?_) (a' := ?_) #[true, true, false, false, false, false, false, false, false, false, false, false, false, false] rfl rfl (any_of HT_.out zK) (fun _ _ _ h => h) (Or.inl ⟨by rfl, ?_⟩) ?_ ?_
                    rotate_left
                    ·intro w'
                     go_simp
                     with_reducible rfl
                    rotate_left
                    ·simp only [Act.put, List.setIfInBounds_toArray, List.set_cons_zero, List.set_cons_succ, i64_w, i32_w]
                     rfl
                    refine pure_ (i := 2) (N := some 45) (v := ?_) (a' := ?_) #[true, true, true, false, false, false, false, false, false, false, false, false, false, false] rfl rfl (any_of HT_.out zK) (fun _ _ _ h => h) (Or.inl ⟨by rfl, ?_⟩) ?_ ?_
                    rotate_left
                    ·intro w'
                     go_simp
                     with_reducible rfl
                    rotate_left
                    ·simp only [Act.put, List.setIfInBounds_toArray, List.set_cons_zero, List.set_cons_succ, i64_w, i32_w]
                     rfl
                    refine pure_ (i := 4) (N := some 47) (v := ?_) (a' := ?_) #[true, true, true, false, true, false, false, false, false, false, false, false, false, false] rfl rfl (any_of HT_.out zK) (fun _ _ _ h => h) (Or.inl ⟨by rfl, ?_⟩) ?_ ?_
                    rotate_left
                    ·intro w'
                     go_simp
                     with_reducible rfl
                    rotate_left
                    ·simp only [Act.put, List.setIfInBounds_toArray, List.set_cons_zero, List.set_cons_succ, i64_w, i32_w]
                     rfl
                    refine pure_ (i := 5) (N := some 48) (v := ?_) (a' := ?_) #[true, true, true, false, true, true, false, false, false, false, false, false, false, false] rfl rfl (any_of HT_.out zK) (fun _ _ _ h => h) (Or.inl ⟨by rfl, ?_⟩) ?_ ?_
                    rotate_left
                    ·intro w'
                     go_simp
                     with_reducible rfl
                    rotate_left
                    ·simp only [Act.put, List.setIfInBounds_toArray, List.set_cons_zero, List.set_cons_succ, i64_w, i32_w]
                     rfl
                    refine pure_ (i := 6) (N := some 49) (v := ?_) (a' := ?_) #[true, true, true, false, true, true, true, false, false, false, false, false, false, false] rfl rfl (any_of HT_.out zK) (fun _ _ _ h => h) (Or.inl ⟨by rfl, ?_⟩) ?_ ?_
                    rotate_left
                    ·intro w'
                     go_simp
                     with_reducible rfl
                    rotate_left
                    ·simp only [Act.put, List.setIfInBounds_toArray, List.set_cons_zero, List.set_cons_succ, i64_w, i32_w]
                     rfl
                    refine take_ (i := 3) (N := some 46) (v := ?_) (a' := ?_) #[true, true, true, true, true, true, true, false, false, false, false, false, false, false] rfl rfl (take_ofW HT_.out HW_.out zK) (fun _ _ _ h => h) (Or.inl ⟨by rfl, ?_⟩) hHeld ?_ ?_
                    rotate_left
                    ·rintro w' ⟨s0, s1⟩
                     go_simp
                     with_reducible rfl
                    rotate_left
                    ·simp only [Act.put, List.setIfInBounds_toArray, List.set_cons_zero, List.set_cons_succ, i64_w, i32_w]
                     rfl
                    refine take_ (i := 7) (N := some 50) (v := ?_) (a' := ?_) #[true, true, true, true, true, true, true, true, false, false, false, false, false, false] rfl rfl (take_ofW HT_.out HW_.out zK) (fun _ _ _ h => h) (Or.inl ⟨by rfl, ?_⟩) hHeld ?_ ?_
                    rotate_left
                    ·rintro w' ⟨s0, s1⟩
                     go_simp
                     with_reducible rfl
                    rotate_left
                    ·simp only [Act.put, List.setIfInBounds_toArray, List.set_cons_zero, List.set_cons_succ, i64_w, i32_w]
                     rfl
                    refine one_ (i := 8) (N := some 51) #[true, true, true, true, true, true, true, true, true, false, false, false, false, false] rfl rfl (one_of HT_.out zK) (by decide) (fun K hK => ?_)
                    refine goes_ Try.func36 zK rfl #[.int .i32 (rd x3_1 x5_2), .int .i32 (rd l0 x4_1)] (by rfl) rfl rfl zM ?_
                    with_reducible refine (toponymref07_Pair.calls kj11 (rd x3_1 x5_2) (rd l0 x4_1) t363 true _ A29.out).mono ?_
                    rintro e w40 ⟨rfl, hb⟩
                    have HS0_ := (hb.cell (World.block_lt_of_cell? _ _ (hHeld.1))).trans (hHeld.1)
                    refine ⟨_, rfl, ?_⟩
                    have n0_ := aM (Kd.R_below (zR HO_3) hb)
                    have n1_ := aM (below_step zB hb)
                    clear HO_3
                    clear HB
                    have HO_3 := n0_
                    have HB := n1_
                    clear n0_ n1_
                    (try clear hb)
                    (try clear hb2)
                    (try clear hk)
                    (try clear hi)
                    refine hK.out _ _ ⟨HS0_, ((HB.out.cell (World.block_lt_of_cell? w _ hw362_0)).trans hw362_0)⟩ (fun hHeld => ?_)
                    clear hK K
                    refine norm_ (a' := ?_) ?_ ?_
                    rotate_left
                    ·show Act.put _ (some 51) _ = _
                     simp only [Act.put, List.setIfInBounds_toArray, List.set_cons_zero, List.set_cons_succ, i64_w, i32_w]
                     rfl
                    refine pure_ (i := 9) (N := some 42) (v := ?_) (a' := ?_) #[true, true, true, true, true, true, true, true, true, true, false, false, false, false] rfl rfl (any_of HT_.out zK) (fun _ _ _ h => h) (Or.inl ⟨by rfl, ?_⟩) ?_ ?_
                    rotate_left
                    ·intro w'
                     go_simp
                     with_reducible rfl
                    rotate_left
                    ·simp only [Act.put, List.setIfInBounds_toArray, List.set_cons_zero, List.set_cons_succ, i64_w, i32_w]
                     rfl
                    refine pure_ (i := 10) (N := some 52) (v := ?_) (a' := ?_) #[true, true, true, true, true, true, true, true, true, true, true, false, false, false] rfl rfl (any_of HT_.out zK) (fun _ _ _ h => h) (Or.inl ⟨by rfl, ?_⟩) ?_ ?_
                    rotate_left
                    ·intro w'
                     go_simp
                     with_reducible rfl
                    rotate_left
                    ·simp only [Act.put, List.setIfInBounds_toArray, List.set_cons_zero, List.set_cons_succ, i64_w, i32_w]
                     rfl
                    refine pure_ (i := 11) (N := some 53) (v := ?_) (a' := ?_) #[true, true, true, true, true, true, true, true, true, true, true, true, false, false] rfl rfl (any_of HT_.out zK) (fun _ _ _ h => h) (Or.inl ⟨by rfl, ?_⟩) ?_ ?_
                    rotate_left
                    ·intro w'
                     go_simp
                     with_reducible rfl
                    rotate_left
                    ·simp only [Act.put, List.setIfInBounds_toArray, List.set_cons_zero, List.set_cons_succ, i64_w, i32_w]
                     rfl
                    refine pure_ (i := 12) (N := some 6) (v := ?_) (a' := ?_) #[true, true, true, true, true, true, true, true, true, true, true, true, true, false] rfl rfl (any_of HT_.out zK) (fun _ _ _ h => h) (Or.inl ⟨by rfl, ?_⟩) ?_ ?_
                    rotate_left
                    ·intro w'
                     go_simp
                     with_reducible rfl
                    rotate_left
                    ·simp only [Act.put, List.setIfInBounds_toArray, List.set_cons_zero, List.set_cons_succ, i64_w, i32_w]
                     rfl
                    refine pure_ (i := 13) (N := some 7) (v := ?_) (a' := ?_) #[true, true, true, true, true, true, true, true, true, true, true, true, true, true] rfl rfl (any_of HT_.out zK) (fun _ _ _ h => h) (Or.inl ⟨by rfl, ?_⟩) ?_ ?_
                    rotate_left
                    ·intro w'
                     go_simp
                     with_reducible rfl
                    rotate_left
                    ·simp only [Act.put, List.setIfInBounds_toArray, List.set_cons_zero, List.set_cons_succ, i64_w, i32_w]
                     rfl
                    refine done_ (done_of HT_.out zK) ?_
                    try go_wp2
                    have n0_ := aM (Kd.R_drew HO_3.out)
                    have n1_ := aM (bD HB.out)
                    clear HO_3
                    clear HB
                    have HO_3 := n0_
                    have HB := n1_
                    clear n0_ n1_
                    have q42 : (x5_2 : Int) ≤ ((x3_1.length : Int) : Int) := zoA
                    obtain ⟨i042, hi042, _, hsz42, _⟩ := info_parts info21
                    have hroom42 : x3_1.length ≤ co4 := (Kd.R_reads' HO_3.out).2.1
                    have hC42 : Kd.C (Kd.int .i32) _ (some ad361) x3_1.length x3_1 := (Kd.R_reads' HO_3.out).2.2
                    have hcut42 := cut_to (P := Try.prog) 22 21 .i64 Try.underlying22 hi042 (some ad361) x3_1.length co4 x5_2 (zoA) q42 hroom42
                    have hr42 := Kd.C_take (m := (x5_2 : Int).toNat) hC42 (by omega)
                    have hy42 : y368.length = (x5_2 : Int).toNat := (by rw [Ny368.out, List.length_take]; omega)
                    rw [← Ny368.out] at hr42
                    rw [← hy42] at hcut42
                    have HR371 := aM hr42
                    have HC371 := aM (show y368.length ≤ co4 from by omega)
                    clear hr42 hC42 hroom42 hi042 hsz42
                    have KY42 := aM hy42
                    clear hy42
                    have KL42 := aM (show (x5_2 : Int).toNat ≤ x3_1.length from by omega)
                    replace q42 := eq_true q42
                    have q43 : ((ji35) : Int) ≤ ((x3_1.length : Int) : Int) := zoA
                    obtain ⟨i043, hi043, _, hsz43, _⟩ := info_parts info21
                    have hroom43 : x3_1.length ≤ co4 := (Kd.R_reads' HO_3.out).2.1
                    have hC43 : Kd.C (Kd.int .i32) _ (some ad361) x3_1.length x3_1 := (Kd.R_reads' HO_3.out).2.2
                    have q043 : (0 : Int) ≤ ((ji35) : Int) := zoA
                    have hcut43 := cut_from (P := Try.prog) 22 21 .i64 Try.underlying22 hi043 1 hsz43 (some ad361) x3_1.length co4 (ji35) q043 q43
                    have hr43 := Kd.C_drop (m := ((ji35) : Int).toNat) (c := co4) hC43 (by omega) hroom43
                    obtain ⟨A43, hA43⟩ : ∃ A1, A1 = (if co4 = ((ji35) : Int).toNat then (some ad361) else ((some ad361) : Option Addr).map (·.add (((ji35) : Int).toNat * 1))) := ⟨_, rfl⟩
                    obtain ⟨c43, hc43⟩ : ∃ c1, c1 = co4 - ((ji35) : Int).toNat := ⟨_, rfl⟩
                    have hy43 : y381.length = x3_1.length - ((ji35) : Int).toNat := (by rw [Ny381.out, List.length_drop] <;> omega)
                    rw [show (x3_1).drop ((ji35) : Int).toNat = y381 from Ny381.out.symm] at hr43
                    replace hr43 : Kd.C (Kd.int .i32) _ A43 y381.length y381 := (by rw [hA43]; exact hr43)
                    rw [← hy43, ← hA43, ← hc43] at hcut43
                    have HR384 := aM hr43
                    have HC384 := aM (show y381.length ≤ c43 from by rw [hy43, hc43]; exact Nat.sub_le_sub_right hroom43 _)
                    clear hr43 hC43 hroom43 hi043 hsz43 hc43
                    have KY43 := aM hy43
                    have KA43 := aM hA43
                    clear hy43 hA43
                    have KL43 := aM (show ((ji35) : Int).toNat ≤ x3_1.length from by omega)
                    replace q43 := eq_true q43
                    refine start_ (n := 14) (S := fun w' => True) (ds := []) #[false, false, false, false, false, false, false, false, false, false, false, false, false, false] zK rfl rfl trivial (fun hHeld => ?_); refine with_tabW toponymref07_All.tab11 toponymref07_All.bits11 (fun HT_ HW_ => ?_)
                    generalize w40.drew = w41 at HO_3 HB HR371 HR384 hHeld ⊢
                    refine pure_ (i := 1) (N := some 56) (v := ?_) (a' := ?_) #[false, true, false, false, false, false, false, false, false, false, false, false, false, false] rfl rfl (any_of HT_.out zK) (fun _ _ _ h => h) (Or.inl ⟨by rfl, ?_⟩) ?_ ?_
                    rotate_left
                    ·intro w'
                     go_simp
                     with_reducible rfl
                    rotate_left
                    ·simp only [Act.put, List.setIfInBounds_toArray, List.set_cons_zero, List.set_cons_succ, i64_w, i32_w]
                     rfl
                    refine pure_ (i := 2) (N := some 57) (v := ?_) (a' := ?_) #[false, true, true, false, false, false, false, false, false, false, false, false, false, false] rfl rfl (any_of HT_.out zK) (fun _ _ _ h => h) (Or.inl ⟨by rfl, ?_⟩) ?_ ?_
                    rotate_left
                    ·intro w'
                     go_simp
                     with_reducible rfl
                    rotate_left
                    ·simp only [Act.put, List.setIfInBounds_toArray, List.set_cons_zero, List.set_cons_succ, i64_w, i32_w]
                     rfl
                    refine pure_ (i := 3) (N := some 58) (v := ?_) (a' := ?_) #[false, true, true, true, false, false, false, false, false, false, false, false, false, false] rfl rfl (any_of HT_.out zK) (fun _ _ _ h => h) (Or.inl ⟨by rfl, ?_⟩) ?_ ?_
                    rotate_left
                    ·intro w'
                     go_simp
                     with_reducible rfl
                    rotate_left
                    ·simp only [Act.put, List.setIfInBounds_toArray, List.set_cons_zero, List.set_cons_succ, i64_w, i32_w]
                     rfl
                    refine pure_ (i := 5) (N := some 60) (v := ?_) (a' := ?_) #[false, true, true, true, false, true, false, false, false, false, false, false, false, false] rfl rfl (any_of HT_.out zK) (fun _ _ _ h => h) (Or.inl ⟨by rfl, ?_⟩) ?_ ?_
                    rotate_left
                    ·intro w'
                     go_simp
                     with_reducible rfl
                    rotate_left
                    ·simp only [Act.put, List.setIfInBounds_toArray, List.set_cons_zero, List.set_cons_succ, i64_w, i32_w]
                     rfl
                    refine pure_ (i := 8) (N := some 63) (v := ?_) (a' := ?_) #[false, true, true, true, false, true, false, false, true, false, false, false, false, false] rfl rfl (any_of HT_.out zK) (fun _ _ _ h => h) (Or.inl ⟨by rfl, ?_⟩) ?_ ?_
                    rotate_left
                    ·intro w'
                     go_simp
                     with_reducible rfl
                    rotate_left
                    ·simp only [Act.put, List.setIfInBounds_toArray, List.set_cons_zero, List.set_cons_succ, i64_w, i32_w]
                     rfl
                    refine pure_ (i := 9) (N := some 64) (v := ?_) (a' := ?_) #[false, true, true, true, false, true, false, false, true, true, false, false, false, false] rfl rfl (any_of HT_.out zK) (fun _ _ _ h => h) (Or.inl ⟨by rfl, ?_⟩) ?_ ?_
                    rotate_left
                    ·intro w'
                     go_simp
                     with_reducible rfl
                    rotate_left
                    ·simp only [Act.put, List.setIfInBounds_toArray, List.set_cons_zero, List.set_cons_succ, i64_w, i32_w]
                     rfl
                    refine pure_ (i := 10) (N := some 65) (v := ?_) (a' := ?_) #[false, true, true, true, false, true, false, false, true, true, true, false, false, false] rfl rfl (any_of HT_.out zK) (fun _ _ _ h => h) (Or.inl ⟨by rfl, ?_⟩) ?_ ?_
                    rotate_left
                    ·intro w'
                     go_simp
                     with_reducible rfl
                    rotate_left
                    ·simp only [Act.put, List.setIfInBounds_toArray, List.set_cons_zero, List.set_cons_succ, i64_w, i32_w]
                     rfl
                    refine pure_ (i := 11) (N := some 66) (v := ?_) (a' := ?_) #[false, true, true, true, false, true, false, false, true, true, true, true, false, false] rfl rfl (any_of HT_.out zK) (fun _ _ _ h => h) (Or.inl ⟨by rfl, ?_⟩) ?_ ?_
                    rotate_left
                    ·intro w'
                     go_simp
                     with_reducible rfl
                    rotate_left
                    ·simp only [Act.put, List.setIfInBounds_toArray, List.set_cons_zero, List.set_cons_succ, i64_w, i32_w]
                     rfl
                    refine join_ (σ := Value × Value × Value) 3 #[true, true, true, true, true, true, true, false, true, true, true, true, false, false] (fun s_ => [(55, s_.1), (59, s_.2.1), (61, s_.2.2)]) (fun s_ w' => (Kd.R (Kd.int .i32) 21 w' w.heap.size (fun k_ => some k_ ≠ (s_.2.2 : Value).ownBlock ∧ some k_ ≠ (.slice (some ad361) x3_1.length co4 : Value).ownBlock) s_.2.1 y372) ∧ (Kd.R (Kd.int .i32) 21 w' w.heap.size (fun k_ => some k_ ≠ (s_.2.1 : Value).ownBlock ∧ some k_ ≠ (.slice (some ad361) x3_1.length co4 : Value).ownBlock) s_.2.2 y375) ∧ (Kd.R (Kd.int .i32) 21 w' w.heap.size (fun k_ => some k_ ≠ (s_.2.1 : Value).ownBlock ∧ some k_ ≠ (s_.2.2 : Value).ownBlock) (.slice (some ad361) x3_1.length co4) x3_1) ∧ (Kd.C (Kd.int .i32) w' (some ad361) y368.length y368) ∧ (Kd.C (Kd.int .i32) w' A43 y381.length y381) ∧ (Below w.heap.size w w')) ?_ ?_
                    rotate_left
                    ·intro hCont
                     refine two_ (i := 0) (j := 6) (Ni := some 55) (Nj := some 61) #[true, true, true, true, false, true, false, false, true, true, true, true, false, false] #[false, true, true, true, false, true, true, false, true, true, true, true, false, false] rfl rfl rfl rfl (two_of HT_.out zK) (by decide) (by decide) (fun K hK => ?_) (fun K hK => ?_)
                     ·skip
                      refine Kd.R_lit_step (Kd.int .i32) _ 21 ?hg (N := 55) ?hd (xs := ([] : List Int)) (inner := []) (ok := fun _ => True) (okp := fun _ => True) ?hr ?hp (fun _ hk => hk) trivial (Below.refl _ _) (Nat.le_refl _) (by simp) ?_; (case hd => rfl); (case hg => rfl); (case hr => first | (go_simp; done) | (go_simp; rfl)); (case hp => exact (Reps.none _ _))
                      intro v366 w44 ho45 hb hg_ hnew_
                      clear hg_ hnew_
                      (first | rw [← Ny365.out] at ho45 | (simp only [Int.reduceToNat] at ho45; rw [← Ny365.out] at ho45))
                      have n0_ := aM (Kd.R_elder' (zR HO_3) (Kd.R_base ho45) hb)
                      have n1_ := aM (Kd.R_lower (Kd.R_new' ho45 (Kd.R_lt (zR HO_3))) (below_size zB))
                      have n2_ := aM (Kd.C_below (by repeat (first | (with_reducible exact HR371.out) | (with_reducible refine Kd.C_alloc ?_ _) | (with_reducible refine Kd.C_drewN ?_ _) | (with_reducible refine Kd.C_drew ?_) | exact HR371.out)) hb)
                      have n3_ := aM (Kd.C_below (by repeat (first | (with_reducible exact HR384.out) | (with_reducible refine Kd.C_alloc ?_ _) | (with_reducible refine Kd.C_drewN ?_ _) | (with_reducible refine Kd.C_drew ?_) | exact HR384.out)) hb)
                      have n4_ := aM (below_step zB hb)
                      clear HO_3
                      clear HR371
                      clear HR384
                      clear HB
                      have HO_3 := n0_
                      have HO367 := n1_
                      have HR371 := n2_
                      have HR384 := n3_
                      have HB := n4_
                      clear n0_ n1_ n2_ n3_ n4_
                      clear hb ho45
                      refine hK.out _ _ trivial (fun hHeld => ?_)
                      clear hK K
                      refine norm_ (a' := ?_) ?_ ?_
                      rotate_left
                      ·show Act.put _ (some 55) _ = _
                       simp only [Act.put, List.setIfInBounds_toArray, List.set_cons_zero, List.set_cons_succ, i64_w, i32_w]
                       rfl
                      refine two_ (i := 4) (j := 6) (Ni := some 59) (Nj := some 61) #[true, true, true, true, true, true, false, false, true, true, true, true, false, false] #[true, true, true, true, false, true, true, false, true, true, true, true, false, false] rfl rfl rfl rfl (two_of HT_.out zK) (by decide) (by decide) (fun K hK => ?_) (fun K hK => ?_)
                      ·skip
                       refine Kd.R_append_rows_step (Kd.int .i32) (w0 := w) w.heap.size (by rfl) (.tmp 55) (.tmp 58) 22 21 (.int .i32 0) 4 rfl Try.underlying22 info21 rfl (by decide) (by omega) v366 y365 y368 _ _ _ (fun k_ => some k_ ≠ (.slice (some ad361) x3_1.length co4 : Value).ownBlock) (fun _ => False) rfl rfl ?aO ?aR (fun _ _ h => h) (fun _ h => h.elim) ?aF ?aB ?aS ?aL ?_
                       (case aR => repeat (first | exact (by repeat (first | (with_reducible exact HR371.out) | (with_reducible refine Kd.C_alloc ?_ _) | (with_reducible refine Kd.C_drewN ?_ _) | (with_reducible refine Kd.C_drew ?_) | exact HR371.out)) | (with_reducible refine Kd.C_alloc ?_ _) | (with_reducible refine Kd.C_drewN ?_ _) | (with_reducible refine Kd.C_drew ?_)))
                       (case aB => exact zB)
                       (case aF => exact (fun k_ hk => Kd.fresh' (Kd.R_lt (zR HO_3)) k_ hk))
                       (case aO => exact (by (with_reducible repeat (first | apply Kd.R_alloc | apply Kd.R_drewN | apply Kd.R_drew)); exact Kd.R_mono HO367.out (fun _ hk => hk.2)))
                       (case aS => exact (below_size zB))
                       (case aL => have := LMc33.out; omega)
                       intro v373 w46 ho hb hg hat
                       rw [← Ny372.out] at ho
                       have n0_ := aM (Kd.R_after (ok := (fun _ => True)) (zR HO_3) hg hat)
                       have n1_ := aM (hb)
                       have n2_ := aM ((show Kd.C (Kd.int .i32) w46 (some ad361) y368.length y368 from by rw [Ny368.out]; exact Kd.C_take (m := (x5_2 : Int).toNat) ((Kd.R_reads' (Kd.R_after (ok := (fun _ => True)) (zR HO_3) hg hat)).2.2) KL42.out))
                       have n3_ := aM ((show Kd.C (Kd.int .i32) w46 A43 y381.length y381 from by rw [Ny381.out, KA43.out]; exact Kd.C_drop (m := ((ji35) : Int).toNat) (c := co4) ((Kd.R_reads' (Kd.R_after (ok := (fun _ => True)) (zR HO_3) hg hat)).2.2) KL43.out ((Kd.R_reads' (Kd.R_after (ok := (fun _ => True)) (zR HO_3) hg hat)).2.1)))
                       have n4_ := aM (ho)
                       clear HO_3
                       clear HB
                       clear HR371
                       clear HR384
                       clear HO367
                       have HO_3 := n0_
                       have HB := n1_
                       have HR371 := n2_
                       have HR384 := n3_
                       have HO374 := n4_
                       clear n0_ n1_ n2_ n3_ n4_
                       clear ho hb hg hat
                       refine hK.out _ _ trivial (fun hHeld => ?_)
                       clear hK K
                       refine norm_ (a' := ?_) ?_ ?_
                       rotate_left
                       ·show Act.put _ (some 59) _ = _
                        simp only [Act.put, List.setIfInBounds_toArray, List.set_cons_zero, List.set_cons_succ, i64_w, i32_w]
                        rfl
                       refine one_ (i := 6) (N := some 61) #[true, true, true, true, true, true, true, false, true, true, true, true, false, false] rfl rfl (one_of HT_.out zK) (by decide) (fun K hK => ?_)
                       refine Kd.R_lit_step (Kd.int .i32) _ 21 ?hg (N := 61) ?hd (xs := ([t363] : List Int)) (inner := [.int .i32 t363]) (ok := fun _ => True) (okp := fun _ => True) ?hr ?hp (fun _ hk => hk) trivial (Below.refl _ _) (Nat.le_refl _) (by simp) ?_; (case hd => rfl); (case hg => rfl); (case hr => first | (go_simp; done) | (go_simp; rfl)); (case hp => exact (Reps.one (show Kd.M (Kd.int .i32) _ _ _ t363 [.int .i32 t363] from rfl) (Reps.none _ _)))
                       intro v376 w47 ho48 hb hg_ hnew_
                       clear hg_ hnew_
                       (first | rw [← Ny375.out] at ho48 | (simp only [Int.reduceToNat] at ho48; rw [← Ny375.out] at ho48))
                       have n0_ := aM (Kd.R_elder' (zR HO_3) (Kd.R_base ho48) hb)
                       have n1_ := aM (Kd.R_elder' (zR HO374) (Kd.R_base ho48) hb)
                       have n2_ := aM (Kd.R_lower (Kd.R_new' (Kd.R_new' ho48 (Kd.R_lt (zR HO_3))) (Kd.R_lt (zR HO374))) (below_size zB))
                       have n3_ := aM (Kd.C_below (by repeat (first | (with_reducible exact HR371.out) | (with_reducible refine Kd.C_alloc ?_ _) | (with_reducible refine Kd.C_drewN ?_ _) | (with_reducible refine Kd.C_drew ?_) | exact HR371.out)) hb)
                       have n4_ := aM (Kd.C_below (by repeat (first | (with_reducible exact HR384.out) | (with_reducible refine Kd.C_alloc ?_ _) | (with_reducible refine Kd.C_drewN ?_ _) | (with_reducible refine Kd.C_drew ?_) | exact HR384.out)) hb)
                       have n5_ := aM (below_step zB hb)
                       clear HO_3
                       clear HO374
                       clear HR371
                       clear HR384
                       clear HB
                       have HO_3 := n0_
                       have HO374 := n1_
                       have HO377 := n2_
                       have HR371 := n3_
                       have HR384 := n4_
                       have HB := n5_
                       clear n0_ n1_ n2_ n3_ n4_ n5_
                       clear hb ho48
                       refine hK.out _ _ trivial (fun hHeld => ?_)
                       clear hK K
                       refine norm_ (a' := ?_) ?_ ?_
                       rotate_left
                       ·show Act.put _ (some 61) _ = _
                        simp only [Act.put, List.setIfInBounds_toArray, List.set_cons_zero, List.set_cons_succ, i64_w, i32_w]
                        rfl
                       exact norm_ (by simp only [putAll, Act.put, List.setIfInBounds_toArray, List.set_cons_zero, List.set_cons_succ]) (hCont (v366, v373, v376) _ ⟨(by (with_reducible repeat (first | apply Kd.R_alloc | apply Kd.R_drewN | apply Kd.R_drew)); exact Kd.R_mono HO374.out (fun _ hk => ⟨hk.2, hk.1⟩)), (by (with_reducible repeat (first | apply Kd.R_alloc | apply Kd.R_drewN | apply Kd.R_drew)); exact Kd.R_mono HO377.out (fun _ hk => ⟨hk.2, hk.1.2⟩)), (by (with_reducible repeat (first | apply Kd.R_alloc | apply Kd.R_drewN | apply Kd.R_drew)); exact Kd.R_mono HO_3.out (fun _ hk => ⟨hk.1.2, hk.2⟩)), (by repeat (first | (with_reducible exact HR371.out) | (with_reducible refine Kd.C_alloc ?_ _) | (with_reducible refine Kd.C_drewN ?_ _) | (with_reducible refine Kd.C_drew ?_) | exact HR371.out)), (by repeat (first | (with_reducible exact HR384.out) | (with_reducible refine Kd.C_alloc ?_ _) | (with_reducible refine Kd.C_drewN ?_ _) | (with_reducible refine Kd.C_drew ?_) | exact HR384.out)), zB⟩)
                      ·skip
                       refine Kd.R_lit_step (Kd.int .i32) _ 21 ?hg (N := 61) ?hd (xs := ([t363] : List Int)) (inner := [.int .i32 t363]) (ok := fun _ => True) (okp := fun _ => True) ?hr ?hp (fun _ hk => hk) trivial (Below.refl _ _) (Nat.le_refl _) (by simp) ?_; (case hd => rfl); (case hg => rfl); (case hr => first | (go_simp; done) | (go_simp; rfl)); (case hp => exact (Reps.one (show Kd.M (Kd.int .i32) _ _ _ t363 [.int .i32 t363] from rfl) (Reps.none _ _)))
                       intro v376 w46 ho47 hb hg_ hnew_
                       clear hg_ hnew_
                       (first | rw [← Ny375.out] at ho47 | (simp only [Int.reduceToNat] at ho47; rw [← Ny375.out] at ho47))
                       have n0_ := aM (Kd.R_elder' (zR HO_3) (Kd.R_base ho47) hb)
                       have n1_ := aM (Kd.R_elder' (zR HO367) (Kd.R_base ho47) hb)
                       have n2_ := aM (Kd.R_lower (Kd.R_new' (Kd.R_new' ho47 (Kd.R_lt (zR HO_3))) (Kd.R_lt (zR HO367))) (below_size zB))
                       have n3_ := aM (Kd.C_below (by repeat (first | (with_reducible exact HR371.out) | (with_reducible refine Kd.C_alloc ?_ _) | (with_reducible refine Kd.C_drewN ?_ _) | (with_reducible refine Kd.C_drew ?_) | exact HR371.out)) hb)
                       have n4_ := aM (Kd.C_below (by repeat (first | (with_reducible exact HR384.out) | (with_reducible refine Kd.C_alloc ?_ _) | (with_reducible refine Kd.C_drewN ?_ _) | (with_reducible refine Kd.C_drew ?_) | exact HR384.out)) hb)
                       have n5_ := aM (below_step zB hb)
                       clear HO_3
                       clear HO367
                       clear HR371
                       clear HR384
                       clear HB
                       have HO_3 := n0_
                       have HO367 := n1_
                       have HO377 := n2_
                       have HR371 := n3_
                       have HR384 := n4_
                       have HB := n5_
                       clear n0_ n1_ n2_ n3_ n4_ n5_
                       clear hb ho47
                       refine hK.out _ _ trivial (fun hHeld => ?_)
                       clear hK K
                       refine norm_ (a' := ?_) ?_ ?_
                       rotate_left
                       ·show Act.put _ (some 61) _ = _
                        simp only [Act.put, List.setIfInBounds_toArray, List.set_cons_zero, List.set_cons_succ, i64_w, i32_w]
                        rfl
                       refine one_ (i := 4) (N := some 59) #[true, true, true, true, true, true, true, false, true, true, true, true, false, false] rfl rfl (one_of HT_.out zK) (by decide) (fun K hK => ?_)
                       refine Kd.R_append_rows_step (Kd.int .i32) (w0 := w) w.heap.size (by rfl) (.tmp 55) (.tmp 58) 22 21 (.int .i32 0) 4 rfl Try.underlying22 info21 rfl (by decide) (by omega) v366 y365 y368 _ _ _ (fun k_ => some k_ ≠ (.slice (some ad361) x3_1.length co4 : Value).ownBlock ∧ some k_ ≠ (v376 : Value).ownBlock) (fun _ => False) rfl rfl ?aO ?aR (fun _ _ h => h) (fun _ h => h.elim) ?aF ?aB ?aS ?aL ?_
                       (case aR => repeat (first | exact (by repeat (first | (with_reducible exact HR371.out) | (with_reducible refine Kd.C_alloc ?_ _) | (with_reducible refine Kd.C_drewN ?_ _) | (with_reducible refine Kd.C_drew ?_) | exact HR371.out)) | (with_reducible refine Kd.C_alloc ?_ _) | (with_reducible refine Kd.C_drewN ?_ _) | (with_reducible refine Kd.C_drew ?_)))
                       (case aB => exact zB)
                       (case aF => exact (fun k_ hk => ⟨Kd.fresh' (Kd.R_lt (zR HO_3)) k_ hk, Kd.fresh' (Kd.R_lt (zR HO377)) k_ hk⟩))
                       (case aO => exact (by (with_reducible repeat (first | apply Kd.R_alloc | apply Kd.R_drewN | apply Kd.R_drew)); exact Kd.R_mono HO367.out (fun _ hk => ⟨hk.1.2, hk.2⟩)))
                       (case aS => exact (below_size zB))
                       (case aL => have := LMc33.out; omega)
                       intro v373 w48 ho hb hg hat
                       rw [← Ny372.out] at ho
                       have n0_ := aM (Kd.R_after (ok := (fun k_ => some k_ ≠ (v376 : Value).ownBlock)) (by (with_reducible repeat (first | apply Kd.R_alloc | apply Kd.R_drewN | apply Kd.R_drew)); exact Kd.R_mono HO_3.out (fun _ hk => ⟨hk.2, hk.1.2⟩)) hg hat)
                       have n1_ := aM (Kd.R_after (ok := (fun k_ => some k_ ≠ (.slice (some ad361) x3_1.length co4 : Value).ownBlock)) (by (with_reducible repeat (first | apply Kd.R_alloc | apply Kd.R_drewN | apply Kd.R_drew)); exact Kd.R_mono HO377.out (fun _ hk => ⟨hk.1.2, hk.2⟩)) hg hat)
                       have n2_ := aM (hb)
                       have n3_ := aM ((show Kd.C (Kd.int .i32) w48 (some ad361) y368.length y368 from by rw [Ny368.out]; exact Kd.C_take (m := (x5_2 : Int).toNat) ((Kd.R_reads' (Kd.R_after (ok := (fun k_ => some k_ ≠ (v376 : Value).ownBlock)) (by (with_reducible repeat (first | apply Kd.R_alloc | apply Kd.R_drewN | apply Kd.R_drew)); exact Kd.R_mono HO_3.out (fun _ hk => ⟨hk.2, hk.1.2⟩)) hg hat)).2.2) KL42.out))
                       have n4_ := aM ((show Kd.C (Kd.int .i32) w48 A43 y381.length y381 from by rw [Ny381.out, KA43.out]; exact Kd.C_drop (m := ((ji35) : Int).toNat) (c := co4) ((Kd.R_reads' (Kd.R_after (ok := (fun k_ => some k_ ≠ (v376 : Value).ownBlock)) (by (with_reducible repeat (first | apply Kd.R_alloc | apply Kd.R_drewN | apply Kd.R_drew)); exact Kd.R_mono HO_3.out (fun _ hk => ⟨hk.2, hk.1.2⟩)) hg hat)).2.2) KL43.out ((Kd.R_reads' (Kd.R_after (ok := (fun k_ => some k_ ≠ (v376 : Value).ownBlock)) (by (with_reducible repeat (first | apply Kd.R_alloc | apply Kd.R_drewN | apply Kd.R_drew)); exact Kd.R_mono HO_3.out (fun _ hk => ⟨hk.2, hk.1.2⟩)) hg hat)).2.1)))
                       have n5_ := aM (ho)
                       clear HO_3
                       clear HO377
                       clear HB
                       clear HR371
                       clear HR384
                       clear HO367
                       have HO_3 := n0_
                       have HO377 := n1_
                       have HB := n2_
                       have HR371 := n3_
                       have HR384 := n4_
                       have HO374 := n5_
                       clear n0_ n1_ n2_ n3_ n4_ n5_
                       clear ho hb hg hat
                       refine hK.out _ _ trivial (fun hHeld => ?_)
                       clear hK K
                       refine norm_ (a' := ?_) ?_ ?_
                       rotate_left
                       ·show Act.put _ (some 59) _ = _
                        simp only [Act.put, List.setIfInBounds_toArray, List.set_cons_zero, List.set_cons_succ, i64_w, i32_w]
                        rfl
                       exact norm_ (by simp only [putAll, Act.put, List.setIfInBounds_toArray, List.set_cons_zero, List.set_cons_succ]) (hCont (v366, v373, v376) _ ⟨(by (with_reducible repeat (first | apply Kd.R_alloc | apply Kd.R_drewN | apply Kd.R_drew)); exact Kd.R_mono HO374.out (fun _ hk => ⟨hk.2, hk.1⟩)), (by (with_reducible repeat (first | apply Kd.R_alloc | apply Kd.R_drewN | apply Kd.R_drew)); exact Kd.R_mono HO377.out (fun _ hk => ⟨hk.2, hk.1⟩)), (by (with_reducible repeat (first | apply Kd.R_alloc | apply Kd.R_drewN | apply Kd.R_drew)); exact Kd.R_mono HO_3.out (fun _ hk => ⟨hk.2, hk.1⟩)), (by repeat (first | (with_reducible exact HR371.out) | (with_reducible refine Kd.C_alloc ?_ _) | (with_reducible refine Kd.C_drewN ?_ _) | (with_reducible refine Kd.C_drew ?_) | exact HR371.out)), (by repeat (first | (with_reducible exact HR384.out) | (with_reducible refine Kd.C_alloc ?_ _) | (with_reducible refine Kd.C_drewN ?_ _) | (with_reducible refine Kd.C_drew ?_) | exact HR384.out)), zB⟩)
                     ·skip
                      refine Kd.R_lit_step (Kd.int .i32) _ 21 ?hg (N := 61) ?hd (xs := ([t363] : List Int)) (inner := [.int .i32 t363]) (ok := fun _ => True) (okp := fun _ => True) ?hr ?hp (fun _ hk => hk) trivial (Below.refl _ _) (Nat.le_refl _) (by simp) ?_; (case hd => rfl); (case hg => rfl); (case hr => first | (go_simp; done) | (go_simp; rfl)); (case hp => exact (Reps.one (show Kd.M (Kd.int .i32) _ _ _ t363 [.int .i32 t363] from rfl) (Reps.none _ _)))
                      intro v376 w44 ho45 hb hg_ hnew_
                      clear hg_ hnew_
                      (first | rw [← Ny375.out] at ho45 | (simp only [Int.reduceToNat] at ho45; rw [← Ny375.out] at ho45))
                      have n0_ := aM (Kd.R_elder' (zR HO_3) (Kd.R_base ho45) hb)
                      have n1_ := aM (Kd.R_lower (Kd.R_new' ho45 (Kd.R_lt (zR HO_3))) (below_size zB))
                      have n2_ := aM (Kd.C_below (by repeat (first | (with_reducible exact HR371.out) | (with_reducible refine Kd.C_alloc ?_ _) | (with_reducible refine Kd.C_drewN ?_ _) | (with_reducible refine Kd.C_drew ?_) | exact HR371.out)) hb)
                      have n3_ := aM (Kd.C_below (by repeat (first | (with_reducible exact HR384.out) | (with_reducible refine Kd.C_alloc ?_ _) | (with_reducible refine Kd.C_drewN ?_ _) | (with_reducible refine Kd.C_drew ?_) | exact HR384.out)) hb)
                      have n4_ := aM (below_step zB hb)
                      clear HO_3
                      clear HR371
                      clear HR384
                      clear HB
                      have HO_3 := n0_
                      have HO377 := n1_
                      have HR371 := n2_
                      have HR384 := n3_
                      have HB := n4_
                      clear n0_ n1_ n2_ n3_ n4_
                      clear hb ho45
                      refine hK.out _ _ trivial (fun hHeld => ?_)
                      clear hK K
                      refine norm_ (a' := ?_) ?_ ?_
                      rotate_left
                      ·show Act.put _ (some 61) _ = _
                       simp only [Act.put, List.setIfInBounds_toArray, List.set_cons_zero, List.set_cons_succ, i64_w, i32_w]
                       rfl
                      refine one_ (i := 0) (N := some 55) #[true, true, true, true, false, true, true, false, true, true, true, true, false, false] rfl rfl (one_of HT_.out zK) (by decide) (fun K hK => ?_)
                      refine Kd.R_lit_step (Kd.int .i32) _ 21 ?hg (N := 55) ?hd (xs := ([] : List Int)) (inner := []) (ok := fun _ => True) (okp := fun _ => True) ?hr ?hp (fun _ hk => hk) trivial (Below.refl _ _) (Nat.le_refl _) (by simp) ?_; (case hd => rfl); (case hg => rfl); (case hr => first | (go_simp; done) | (go_simp; rfl)); (case hp => exact (Reps.none _ _))
                      intro v366 w46 ho47 hb hg_ hnew_
                      clear hg_ hnew_
                      (first | rw [← Ny365.out] at ho47 | (simp only [Int.reduceToNat] at ho47; rw [← Ny365.out] at ho47))
                      have n0_ := aM (Kd.R_elder' (zR HO_3) (Kd.R_base ho47) hb)
                      have n1_ := aM (Kd.R_elder' (zR HO377) (Kd.R_base ho47) hb)
                      have n2_ := aM (Kd.R_lower (Kd.R_new' (Kd.R_new' ho47 (Kd.R_lt (zR HO_3))) (Kd.R_lt (zR HO377))) (below_size zB))
                      have n3_ := aM (Kd.C_below (by repeat (first | (with_reducible exact HR371.out) | (with_reducible refine Kd.C_alloc ?_ _) | (with_reducible refine Kd.C_drewN ?_ _) | (with_reducible refine Kd.C_drew ?_) | exact HR371.out)) hb)
                      have n4_ := aM (Kd.C_below (by repeat (first | (with_reducible exact HR384.out) | (with_reducible refine Kd.C_alloc ?_ _) | (with_reducible refine Kd.C_drewN ?_ _) | (with_reducible refine Kd.C_drew ?_) | exact HR384.out)) hb)
                      have n5_ := aM (below_step zB hb)
                      clear HO_3
                      clear HO377
                      clear HR371
                      clear HR384
                      clear HB
                      have HO_3 := n0_
                      have HO377 := n1_
                      have HO367 := n2_
                      have HR371 := n3_
                      have HR384 := n4_
                      have HB := n5_
                      clear n0_ n1_ n2_ n3_ n4_ n5_
                      clear hb ho47
                      refine hK.out _ _ trivial (fun hHeld => ?_)
                      clear hK K
                      refine norm_ (a' := ?_) ?_ ?_
                      rotate_left
                      ·show Act.put _ (some 55) _ = _
                       simp only [Act.put, List.setIfInBounds_toArray, List.set_cons_zero, List.set_cons_succ, i64_w, i32_w]
                       rfl
                      refine one_ (i := 4) (N := some 59) #[true, true, true, true, true, true, true, false, true, true, true, true, false, false] rfl rfl (one_of HT_.out zK) (by decide) (fun K hK => ?_)
                      refine Kd.R_append_rows_step (Kd.int .i32) (w0 := w) w.heap.size (by rfl) (.tmp 55) (.tmp 58) 22 21 (.int .i32 0) 4 rfl Try.underlying22 info21 rfl (by decide) (by omega) v366 y365 y368 _ _ _ (fun k_ => some k_ ≠ (.slice (some ad361) x3_1.length co4 : Value).ownBlock ∧ some k_ ≠ (v376 : Value).ownBlock) (fun _ => False) rfl rfl ?aO ?aR (fun _ _ h => h) (fun _ h => h.elim) ?aF ?aB ?aS ?aL ?_
                      (case aR => repeat (first | exact (by repeat (first | (with_reducible exact HR371.out) | (with_reducible refine Kd.C_alloc ?_ _) | (with_reducible refine Kd.C_drewN ?_ _) | (with_reducible refine Kd.C_drew ?_) | exact HR371.out)) | (with_reducible refine Kd.C_alloc ?_ _) | (with_reducible refine Kd.C_drewN ?_ _) | (with_reducible refine Kd.C_drew ?_)))
                      (case aB => exact zB)
                      (case aF => exact (fun k_ hk => ⟨Kd.fresh' (Kd.R_lt (zR HO_3)) k_ hk, Kd.fresh' (Kd.R_lt (zR HO377)) k_ hk⟩))
                      (case aO => exact (by (with_reducible repeat (first | apply Kd.R_alloc | apply Kd.R_drewN | apply Kd.R_drew)); exact Kd.R_mono HO367.out (fun _ hk => ⟨hk.1.2, hk.2⟩)))
                      (case aS => exact (below_size zB))
                      (case aL => have := LMc33.out; omega)
                      intro v373 w48 ho hb hg hat
                      rw [← Ny372.out] at ho
                      have n0_ := aM (Kd.R_after (ok := (fun k_ => some k_ ≠ (v376 : Value).ownBlock)) (by (with_reducible repeat (first | apply Kd.R_alloc | apply Kd.R_drewN | apply Kd.R_drew)); exact Kd.R_mono HO_3.out (fun _ hk => ⟨hk.1.2, hk.2⟩)) hg hat)
                      have n1_ := aM (Kd.R_after (ok := (fun k_ => some k_ ≠ (.slice (some ad361) x3_1.length co4 : Value).ownBlock)) (by (with_reducible repeat (first | apply Kd.R_alloc | apply Kd.R_drewN | apply Kd.R_drew)); exact Kd.R_mono HO377.out (fun _ hk => ⟨hk.1.2, hk.2⟩)) hg hat)
                      have n2_ := aM (hb)
                      have n3_ := aM ((show Kd.C (Kd.int .i32) w48 (some ad361) y368.length y368 from by rw [Ny368.out]; exact Kd.C_take (m := (x5_2 : Int).toNat) ((Kd.R_reads' (Kd.R_after (ok := (fun k_ => some k_ ≠ (v376 : Value).ownBlock)) (by (with_reducible repeat (first | apply Kd.R_alloc | apply Kd.R_drewN | apply Kd.R_drew)); exact Kd.R_mono HO_3.out (fun _ hk => ⟨hk.1.2, hk.2⟩)) hg hat)).2.2) KL42.out))
                      have n4_ := aM ((show Kd.C (Kd.int .i32) w48 A43 y381.length y381 from by rw [Ny381.out, KA43.out]; exact Kd.C_drop (m := ((ji35) : Int).toNat) (c := co4) ((Kd.R_reads' (Kd.R_after (ok := (fun k_ => some k_ ≠ (v376 : Value).ownBlock)) (by (with_reducible repeat (first | apply Kd.R_alloc | apply Kd.R_drewN | apply Kd.R_drew)); exact Kd.R_mono HO_3.out (fun _ hk => ⟨hk.1.2, hk.2⟩)) hg hat)).2.2) KL43.out ((Kd.R_reads' (Kd.R_after (ok := (fun k_ => some k_ ≠ (v376 : Value).ownBlock)) (by (with_reducible repeat (first | apply Kd.R_alloc | apply Kd.R_drewN | apply Kd.R_drew)); exact Kd.R_mono HO_3.out (fun _ hk => ⟨hk.1.2, hk.2⟩)) hg hat)).2.1)))
                      have n5_ := aM (ho)
                      clear HO_3
                      clear HO377
                      clear HB
                      clear HR371
                      clear HR384
                      clear HO367
                      have HO_3 := n0_
                      have HO377 := n1_
                      have HB := n2_
                      have HR371 := n3_
                      have HR384 := n4_
                      have HO374 := n5_
                      clear n0_ n1_ n2_ n3_ n4_ n5_
                      clear ho hb hg hat
                      refine hK.out _ _ trivial (fun hHeld => ?_)
                      clear hK K
                      refine norm_ (a' := ?_) ?_ ?_
                      rotate_left
                      ·show Act.put _ (some 59) _ = _
                       simp only [Act.put, List.setIfInBounds_toArray, List.set_cons_zero, List.set_cons_succ, i64_w, i32_w]
                       rfl
                      exact norm_ (by simp only [putAll, Act.put, List.setIfInBounds_toArray, List.set_cons_zero, List.set_cons_succ]) (hCont (v366, v373, v376) _ ⟨(by (with_reducible repeat (first | apply Kd.R_alloc | apply Kd.R_drewN | apply Kd.R_drew)); exact Kd.R_mono HO374.out (fun _ hk => ⟨hk.2, hk.1⟩)), (by (with_reducible repeat (first | apply Kd.R_alloc | apply Kd.R_drewN | apply Kd.R_drew)); exact Kd.R_mono HO377.out (fun _ hk => ⟨hk.2, hk.1⟩)), (by (with_reducible repeat (first | apply Kd.R_alloc | apply Kd.R_drewN | apply Kd.R_drew)); exact Kd.R_mono HO_3.out (fun _ hk => ⟨hk.2, hk.1⟩)), (by repeat (first | (with_reducible exact HR371.out) | (with_reducible refine Kd.C_alloc ?_ _) | (with_reducible refine Kd.C_drewN ?_ _) | (with_reducible refine Kd.C_drew ?_) | exact HR371.out)), (by repeat (first | (with_reducible exact HR384.out) | (with_reducible refine Kd.C_alloc ?_ _) | (with_reducible refine Kd.C_drewN ?_ _) | (with_reducible refine Kd.C_drew ?_) | exact HR384.out)), zB⟩)
                    rintro ⟨v366, v373, v376⟩ w49 ⟨h0_, h1_, h2_, h3_, h4_, h5_⟩
                    have n0_ : Aside0 (Kd.R (Kd.int .i32) 21 w49 w.heap.size (fun k_ => some k_ ≠ (v376 : Value).ownBlock ∧ some k_ ≠ (.slice (some ad361) x3_1.length co4 : Value).ownBlock) v373 y372) := ⟨h0_⟩
                    have n1_ : Aside0 (Kd.R (Kd.int .i32) 21 w49 w.heap.size (fun k_ => some k_ ≠ (v373 : Value).ownBlock ∧ some k_ ≠ (.slice (some ad361) x3_1.length co4 : Value).ownBlock) v376 y375) := ⟨h1_⟩
                    have n2_ : Aside0 (Kd.R (Kd.int .i32) 21 w49 w.heap.size (fun k_ => some k_ ≠ (v373 : Value).ownBlock ∧ some k_ ≠ (v376 : Value).ownBlock) (.slice (some ad361) x3_1.length co4) x3_1) := ⟨h2_⟩
                    have n3_ : Aside0 (Kd.C (Kd.int .i32) w49 (some ad361) y368.length y368) := ⟨h3_⟩
                    have n4_ : Aside0 (Kd.C (Kd.int .i32) w49 A43 y381.length y381) := ⟨h4_⟩
                    have n5_ : Aside0 (Below w.heap.size w w49) := ⟨h5_⟩
                    clear HO_3
                    clear HB
                    clear h0_ h1_ h2_ h3_ h4_ h5_
                    have HO374 := n0_
                    have HO377 := n1_
                    have HO_3 := n2_
                    have HR371 := n3_
                    have HR384 := n4_
                    have HB := n5_
                    clear n0_ n1_ n2_ n3_ n4_ n5_
                    have hHeld := trivial
                    obtain ⟨Ao51, co51, eo51⟩ := Kd.R_slice HO377.out
                    (first | subst eo51 | (injection eo51 with f1_ f2_ f3_; have f4_ := f1_.symm; have f5_ := f3_.symm; clear f1_ f2_ f3_; subst f4_; subst f5_))
                    refine norm_ (a' := ?_) ?_ ?_
                    rotate_left
                    ·simp only [putAll, Act.put, List.setIfInBounds_toArray, List.set_cons_zero, List.set_cons_succ]
                     rfl
                    refine one_ (i := 7) (N := some 62) #[true, true, true, true, true, true, true, true, true, true, true, true, false, false] rfl rfl (one_of HT_.out zK) (by decide) (fun K hK => ?_)
                    refine Kd.R_append_rows_step (Kd.int .i32) (w0 := w) w.heap.size (by rfl) (.tmp 59) (.tmp 61) 22 21 (.int .i32 0) 4 rfl Try.underlying22 info21 rfl (by decide) (by omega) v373 y372 y375 _ _ _ (fun k_ => some k_ ≠ (.slice (some ad361) x3_1.length co4 : Value).ownBlock ∧ some k_ ≠ (.slice Ao51 y375.length co51 : Value).ownBlock) (fun _ => False) rfl rfl ?aO ?aR (fun _ _ h => h) (fun _ h => h.elim) ?aF ?aB ?aS ?aL ?_
                    (case aR => repeat (first | exact (Kd.R_reads' HO377.out).2.2 | (with_reducible refine Kd.C_alloc ?_ _) | (with_reducible refine Kd.C_drewN ?_ _) | (with_reducible refine Kd.C_drew ?_)))
                    (case aB => exact zB)
                    (case aF => exact (fun k_ hk => ⟨Kd.fresh' (Kd.R_lt (zR HO_3)) k_ hk, Kd.fresh' (Kd.R_lt (zR HO377)) k_ hk⟩))
                    (case aO => exact (by (with_reducible repeat (first | apply Kd.R_alloc | apply Kd.R_drewN | apply Kd.R_drew)); exact Kd.R_mono HO374.out (fun _ hk => ⟨hk.2, hk.1⟩)))
                    (case aS => exact (below_size zB))
                    (case aL => have := LMc34.out; omega)
                    intro v379 w50 ho hb hg hat
                    rw [← Ny378.out] at ho
                    have n0_ := aM (Kd.R_after (ok := (fun k_ => some k_ ≠ (.slice Ao51 y375.length co51 : Value).ownBlock)) (by (with_reducible repeat (first | apply Kd.R_alloc | apply Kd.R_drewN | apply Kd.R_drew)); exact Kd.R_mono HO_3.out (fun _ hk => ⟨hk.2, hk.1⟩)) hg hat)
                    have n1_ := aM (Kd.R_after (ok := (fun k_ => some k_ ≠ (.slice (some ad361) x3_1.length co4 : Value).ownBlock)) (by (with_reducible repeat (first | apply Kd.R_alloc | apply Kd.R_drewN | apply Kd.R_drew)); exact Kd.R_mono HO377.out (fun _ hk => ⟨hk.2, hk.1⟩)) hg hat)
                    have n2_ := aM (hb)
                    have n3_ := aM ((show Kd.C (Kd.int .i32) w50 (some ad361) y368.length y368 from by rw [Ny368.out]; exact Kd.C_take (m := (x5_2 : Int).toNat) ((Kd.R_reads' (Kd.R_after (ok := (fun k_ => some k_ ≠ (.slice Ao51 y375.length co51 : Value).ownBlock)) (by (with_reducible repeat (first | apply Kd.R_alloc | apply Kd.R_drewN | apply Kd.R_drew)); exact Kd.R_mono HO_3.out (fun _ hk => ⟨hk.2, hk.1⟩)) hg hat)).2.2) KL42.out))
                    have n4_ := aM ((show Kd.C (Kd.int .i32) w50 A43 y381.length y381 from by rw [Ny381.out, KA43.out]; exact Kd.C_drop (m := ((ji35) : Int).toNat) (c := co4) ((Kd.R_reads' (Kd.R_after (ok := (fun k_ => some k_ ≠ (.slice Ao51 y375.length co51 : Value).ownBlock)) (by (with_reducible repeat (first | apply Kd.R_alloc | apply Kd.R_drewN | apply Kd.R_drew)); exact Kd.R_mono HO_3.out (fun _ hk => ⟨hk.2, hk.1⟩)) hg hat)).2.2) KL43.out ((Kd.R_reads' (Kd.R_after (ok := (fun k_ => some k_ ≠ (.slice Ao51 y375.length co51 : Value).ownBlock)) (by (with_reducible repeat (first | apply Kd.R_alloc | apply Kd.R_drewN | apply Kd.R_drew)); exact Kd.R_mono HO_3.out (fun _ hk => ⟨hk.2, hk.1⟩)) hg hat)).2.1)))
                    have n5_ := aM (ho)
                    clear HO_3
                    clear HO377
                    clear HB
                    clear HR371
                    clear HR384
                    clear HO374
                    have HO_3 := n0_
                    have HO377 := n1_
                    have HB := n2_
                    have HR371 := n3_
                    have HR384 := n4_
                    have HO380 := n5_
                    clear n0_ n1_ n2_ n3_ n4_ n5_
                    clear ho hb hg hat
                    refine hK.out _ _ trivial (fun hHeld => ?_)
                    clear hK K
                    refine norm_ (a' := ?_) ?_ ?_
                    rotate_left
                    ·show Act.put _ (some 62) _ = _
                     simp only [Act.put, List.setIfInBounds_toArray, List.set_cons_zero, List.set_cons_succ, i64_w, i32_w]
                     rfl
                    refine one_ (i := 12) (N := some 67) #[true, true, true, true, true, true, true, true, true, true, true, true, true, false] rfl rfl (one_of HT_.out zK) (by decide) (fun K hK => ?_)
                    refine Kd.R_append_rows_step (Kd.int .i32) (w0 := w) w.heap.size (by rfl) (.tmp 62) (.tmp 66) 22 21 (.int .i32 0) 4 rfl Try.underlying22 info21 rfl (by decide) (by omega) v379 y378 y381 _ _ _ (fun k_ => some k_ ≠ (.slice (some ad361) x3_1.length co4 : Value).ownBlock ∧ some k_ ≠ (.slice Ao51 y375.length co51 : Value).ownBlock) (fun _ => False) rfl rfl ?aO ?aR (fun _ _ h => h) (fun _ h => h.elim) ?aF ?aB ?aS ?aL ?_
                    (case aR => repeat (first | exact (by repeat (first | (with_reducible exact HR384.out) | (with_reducible refine Kd.C_alloc ?_ _) | (with_reducible refine Kd.C_drewN ?_ _) | (with_reducible refine Kd.C_drew ?_) | exact HR384.out)) | (with_reducible refine Kd.C_alloc ?_ _) | (with_reducible refine Kd.C_drewN ?_ _) | (with_reducible refine Kd.C_drew ?_)))
                    (case aB => exact zB)
                    (case aF => exact (fun k_ hk => ⟨Kd.fresh' (Kd.R_lt (zR HO_3)) k_ hk, Kd.fresh' (Kd.R_lt (zR HO377)) k_ hk⟩))
                    (case aO => exact (zR HO380))
                    (case aS => exact (below_size zB))
                    (case aL => have := LMc38.out; omega)
                    intro v386 w52 ho hb hg hat
                    rw [← Ny385.out] at ho
                    have n0_ := aM (Kd.R_after (ok := (fun k_ => some k_ ≠ (.slice Ao51 y375.length co51 : Value).ownBlock)) (zR HO_3) hg hat)
                    have n1_ := aM (Kd.R_after (ok := (fun k_ => some k_ ≠ (.slice (some ad361) x3_1.length co4 : Value).ownBlock)) (zR HO377) hg hat)
                    have n2_ := aM (hb)
                    have n3_ := aM ((show Kd.C (Kd.int .i32) w52 (some ad361) y368.length y368 from by rw [Ny368.out]; exact Kd.C_take (m := (x5_2 : Int).toNat) ((Kd.R_reads' (Kd.R_after (ok := (fun k_ => some k_ ≠ (.slice Ao51 y375.length co51 : Value).ownBlock)) (zR HO_3) hg hat)).2.2) KL42.out))
                    have n4_ := aM ((show Kd.C (Kd.int .i32) w52 A43 y381.length y381 from by rw [Ny381.out, KA43.out]; exact Kd.C_drop (m := ((ji35) : Int).toNat) (c := co4) ((Kd.R_reads' (Kd.R_after (ok := (fun k_ => some k_ ≠ (.slice Ao51 y375.length co51 : Value).ownBlock)) (zR HO_3) hg hat)).2.2) KL43.out ((Kd.R_reads' (Kd.R_after (ok := (fun k_ => some k_ ≠ (.slice Ao51 y375.length co51 : Value).ownBlock)) (zR HO_3) hg hat)).2.1)))
                    have n5_ := aM (ho)
                    clear HO_3
                    clear HO377
                    clear HB
                    clear HR371
                    clear HR384
                    clear HO380
                    have HO_3 := n0_
                    have HO377 := n1_
                    have HB := n2_
                    have HR371 := n3_
                    have HR384 := n4_
                    have HO387 := n5_
                    clear n0_ n1_ n2_ n3_ n4_ n5_
                    clear ho hb hg hat
                    refine hK.out _ _ trivial (fun hHeld => ?_)
                    clear hK K
                    refine norm_ (a' := ?_) ?_ ?_
                    rotate_left
                    ·show Act.put _ (some 67) _ = _
                     simp only [Act.put, List.setIfInBounds_toArray, List.set_cons_zero, List.set_cons_succ, i64_w, i32_w]
                     rfl
                    refine pure_ (i := 13) (N := some 3) (v := ?_) (a' := ?_) #[true, true, true, true, true, true, true, true, true, true, true, true, true, true] rfl rfl (any_of HT_.out zK) (fun _ _ _ h => h) (Or.inl ⟨by rfl, ?_⟩) ?_ ?_
                    rotate_left
                    ·intro w'
                     go_simp
                     with_reducible rfl
                    rotate_left
                    ·simp only [Act.put, List.setIfInBounds_toArray, List.set_cons_zero, List.set_cons_succ, i64_w, i32_w]
                     rfl
                    refine done_ (done_of HT_.out zK) ?_
                    try go_wp2
                    go_roundg kj11
                    case measure => have := HK1.out; have := HJ2.out; have := HJ11.out; omega
                    case rel => exact ⟨(y385), (wrap64 (x4_1 + 1)), zP, H', ⟨by have := HK1.out; have := HJ2.out; have := HJ11.out; omega⟩, ⟨by (with_reducible repeat (first | apply Kd.R_alloc | apply Kd.R_drewN | apply Kd.R_drew)); exact Kd.R_mono HO387.out (fun _ hk => trivial)⟩, ⟨zB⟩⟩
                   ·rw [if_neg c38] at H
                    exact absurd H (by simp)
                  ·rw [if_neg c37] at H
                   exact absurd H (by simp)
                 ·rw [if_neg c36] at H
                  exact absurd H (by simp)
                ·rw [if_neg c34] at H
                 exact absurd H (by simp)
               ·rw [if_neg c33] at H
                exact absurd H (by simp)
              ·rw [if_neg c32] at H
               exact absurd H (by simp)
             ·replace c30 := Bool.eq_false_iff.mpr c30
              subst c30
              rw [if_neg (show ¬ (false = true) by decide)] at H
              obtain ⟨y389, hy389⟩ : ∃ y_ : List Int, y_ = (([rd l0 x4_1] : List Int)) := ⟨_, rfl⟩
              replace H : (if x3_1.length + y389.length < 35184372088832 then (toponymref07_All.l0 kj11 l0 (x3_1 ++ y389) (wrap64 (x4_1 + 1))) else (none)) = some r := zY hy389 H
              have Ny389 := aM hy389
              clear hy389
              by_cases c53 : x3_1.length + y389.length < 35184372088832
              ·rw [if_pos c53] at H
               have LMc53 := aM c53
               clear c53
               obtain ⟨y392, hy392⟩ : ∃ y_ : List Int, y_ = (x3_1 ++ y389) := ⟨_, rfl⟩
               replace H : (toponymref07_All.l0 kj11 l0 y392 (wrap64 (x4_1 + 1))) = some r := zY hy392 H
               have Ny392 := aM hy392
               clear hy392
               have H' := aM H
               clear H
               try go_wp2
               have n0_ := aM (Kd.R_drew HO_3.out)
               have n1_ := aM (bD HB.out)
               clear HO_3
               clear HB
               have HO_3 := n0_
               have HB := n1_
               clear n0_ n1_
               have p361 : 0 ≤ (x5_2 : Int) := zoA
               have q361 : x5_2 < (x3_1.length : Int) := zoA
               obtain ⟨ad361, e361, hx361_0⟩ := Kd.at_int (Kd.R_reads' HO_3.out).2.2 x5_2 p361 q361
               cases e361
               replace p361 := eq_true p361
               replace q361 := eq_true q361
               have p362 : 0 ≤ (x4_1 : Int) := zoA
               have q362 : x4_1 < (l0.length : Int) := zoA
               obtain ⟨ad362, e362, hx362_0⟩ := Kd.at_int HR0.out x4_1 p362 q362
               have hw362_0 := hx362_0
               cases e362
               replace hx362_0 := (HB.out.cell (World.block_lt_of_cell? w _ hx362_0)).trans hx362_0
               replace p362 := eq_true p362
               replace q362 := eq_true q362
               refine start_ (n := 14) (S := fun w' => w'.cell? (ad361.add (x5_2).toNat) = some (.int .i32 (rd x3_1 x5_2)) ∧ w'.cell? (ad362.add (x4_1).toNat) = some (.int .i32 (rd l0 x4_1))) (ds := []) #[false, false, false, false, false, false, false, false, false, false, false, false, false, false] zK rfl rfl ⟨hx361_0, ((HB.out.cell (World.block_lt_of_cell? w _ hw362_0)).trans hw362_0)⟩ (fun hHeld => ?_); refine with_tabW toponymref07_All.tab9 toponymref07_All.bits9 (fun HT_ HW_ => ?_)
               generalize wc.drew = w54 at HO_3 HB hx361_0 hx362_0 hHeld ⊢
               refine pure_ (i := 0) (N := some 43) (v := ?_) (a' := ?_) #[true, false, false, false, false, false, false, false, false, false, false, false, false, false] rfl rfl (any_of HT_.out zK) (fun _ _ _ h => h) (Or.inl ⟨by rfl, ?_⟩) ?_ ?_
               rotate_left
               ·intro w'
                go_simp
                with_reducible rfl
               rotate_left
               ·simp only [Act.put, List.setIfInBounds_toArray, List.set_cons_zero, List.set_cons_succ, i64_w, i32_w]
                rfl
               refine pure_ (i := 1) (N := some 44) (v := ?_) (a' := ?_) #[true, true, false, false, false, false, false, false, false, false, false, false, false, false] rfl rfl (any_of HT_.out zK) (fun _ _ _ h => h) (Or.inl ⟨by rfl, ?_⟩) ?_ ?_
               rotate_left
               ·intro w'
                go_simp
                with_reducible rfl
               rotate_left
               ·simp only [Act.put, List.setIfInBounds_toArray, List.set_cons_zero, List.set_cons_succ, i64_w, i32_w]
                rfl
               refine pure_ (i := 2) (N := some 45) (v := ?_) (a' := ?_) #[true, true, true, false, false, false, false, false, false, false, false, false, false, false] rfl rfl (any_of HT_.out zK) (fun _ _ _ h => h) (Or.inl ⟨by rfl, ?_⟩) ?_ ?_
               rotate_left
               ·intro w'
                go_simp
                with_reducible rfl
               rotate_left
               ·simp only [Act.put, List.setIfInBounds_toArray, List.set_cons_zero, List.set_cons_succ, i64_w, i32_w]
                rfl
               refine pure_ (i := 4) (N := some 47) (v := ?_) (a' := ?_) #[true, true, true, false, true, false, false, false, false, false, false, false, false, false] rfl rfl (any_of HT_.out zK) (fun _ _ _ h => h) (Or.inl ⟨by rfl, ?_⟩) ?_ ?_
               rotate_left
               ·intro w'
                go_simp
                with_reducible rfl
               rotate_left
               ·simp only [Act.put, List.setIfInBounds_toArray, List.set_cons_zero, List.set_cons_succ, i64_w, i32_w]
                rfl
               refine pure_ (i := 5) (N := some 48) (v := ?_) (a' := ?_) #[true, true, true, false, true, true, false, false, false, false, false, false, false, false] rfl rfl (any_of HT_.out zK) (fun _ _ _ h => h) (Or.inl ⟨by rfl, ?_⟩) ?_ ?_
               rotate_left
               ·intro w'
                go_simp
                with_reducible rfl
               rotate_left
               ·simp only [Act.put, List.setIfInBounds_toArray, List.set_cons_zero, List.set_cons_succ, i64_w, i32_w]
                rfl
               refine pure_ (i := 6) (N := some 49) (v := ?_) (a' := ?_) #[true, true, true, false, true, true, true, false, false, false, false, false, false, false] rfl rfl (any_of HT_.out zK) (fun _ _ _ h => h) (Or.inl ⟨by rfl, ?_⟩) ?_ ?_
               rotate_left
               ·intro w'
                go_simp
                with_reducible rfl
               rotate_left
               ·simp only [Act.put, List.setIfInBounds_toArray, List.set_cons_zero, List.set_cons_succ, i64_w, i32_w]
                rfl
               refine take_ (i := 3) (N := some 46) (v := ?_) (a' := ?_) #[true, true, true, true, true, true, true, false, false, false, false, false, false, false] rfl rfl (take_ofW HT_.out HW_.out zK) (fun _ _ _ h => h) (Or.inl ⟨by rfl, ?_⟩) hHeld ?_ ?_
               rotate_left
               ·rintro w' ⟨s0, s1⟩
                go_simp
                with_reducible rfl
               rotate_left
               ·simp only [Act.put, List.setIfInBounds_toArray, List.set_cons_zero, List.set_cons_succ, i64_w, i32_w]
                rfl
               refine take_ (i := 7) (N := some 50) (v := ?_) (a' := ?_) #[true, true, true, true, true, true, true, true, false, false, false, false, false, false] rfl rfl (take_ofW HT_.out HW_.out zK) (fun _ _ _ h => h) (Or.inl ⟨by rfl, ?_⟩) hHeld ?_ ?_
               rotate_left
               ·rintro w' ⟨s0, s1⟩
                go_simp
                with_reducible rfl
               rotate_left
               ·simp only [Act.put, List.setIfInBounds_toArray, List.set_cons_zero, List.set_cons_succ, i64_w, i32_w]
                rfl
               refine one_ (i := 8) (N := some 51) #[true, true, true, true, true, true, true, true, true, false, false, false, false, false] rfl rfl (one_of HT_.out zK) (by decide) (fun K hK => ?_)
               refine goes_ Try.func36 zK rfl #[.int .i32 (rd x3_1 x5_2), .int .i32 (rd l0 x4_1)] (by rfl) rfl rfl zM ?_
               with_reducible refine (toponymref07_Pair.calls kj11 (rd x3_1 x5_2) (rd l0 x4_1) t363 false _ A29.out).mono ?_
               rintro e w55 ⟨rfl, hb⟩
               have HS0_ := (hb.cell (World.block_lt_of_cell? _ _ (hHeld.1))).trans (hHeld.1)
               refine ⟨_, rfl, ?_⟩
               have n0_ := aM (Kd.R_below (zR HO_3) hb)
               have n1_ := aM (below_step zB hb)
               clear HO_3
               clear HB
               have HO_3 := n0_
               have HB := n1_
               clear n0_ n1_
               (try clear hb)
               (try clear hb2)
               (try clear hk)
               (try clear hi)
               refine hK.out _ _ ⟨HS0_, ((HB.out.cell (World.block_lt_of_cell? w _ hw362_0)).trans hw362_0)⟩ (fun hHeld => ?_)
               clear hK K
               refine norm_ (a' := ?_) ?_ ?_
               rotate_left
               ·show Act.put _ (some 51) _ = _
                simp only [Act.put, List.setIfInBounds_toArray, List.set_cons_zero, List.set_cons_succ, i64_w, i32_w]
                rfl
               refine pure_ (i := 9) (N := some 42) (v := ?_) (a' := ?_) #[true, true, true, true, true, true, true, true, true, true, false, false, false, false] rfl rfl (any_of HT_.out zK) (fun _ _ _ h => h) (Or.inl ⟨by rfl, ?_⟩) ?_ ?_
               rotate_left
               ·intro w'
                go_simp
                with_reducible rfl
               rotate_left
               ·simp only [Act.put, List.setIfInBounds_toArray, List.set_cons_zero, List.set_cons_succ, i64_w, i32_w]
                rfl
               refine pure_ (i := 10) (N := some 52) (v := ?_) (a' := ?_) #[true, true, true, true, true, true, true, true, true, true, true, false, false, false] rfl rfl (any_of HT_.out zK) (fun _ _ _ h => h) (Or.inl ⟨by rfl, ?_⟩) ?_ ?_
               rotate_left
               ·intro w'
                go_simp
                with_reducible rfl
               rotate_left
               ·simp only [Act.put, List.setIfInBounds_toArray, List.set_cons_zero, List.set_cons_succ, i64_w, i32_w]
                rfl
               refine pure_ (i := 11) (N := some 53) (v := ?_) (a' := ?_) #[true, true, true, true, true, true, true, true, true, true, true, true, false, false] rfl rfl (any_of HT_.out zK) (fun _ _ _ h => h) (Or.inl ⟨by rfl, ?_⟩) ?_ ?_
               rotate_left
               ·intro w'
                go_simp
                with_reducible rfl
               rotate_left
               ·simp only [Act.put, List.setIfInBounds_toArray, List.set_cons_zero, List.set_cons_succ, i64_w, i32_w]
                rfl
               refine pure_ (i := 12) (N := some 6) (v := ?_) (a' := ?_) #[true, true, true, true, true, true, true, true, true, true, true, true, true, false] rfl rfl (any_of HT_.out zK) (fun _ _ _ h => h) (Or.inl ⟨by rfl, ?_⟩) ?_ ?_
               rotate_left
               ·intro w'
                go_simp
                with_reducible rfl
               rotate_left
               ·simp only [Act.put, List.setIfInBounds_toArray, List.set_cons_zero, List.set_cons_succ, i64_w, i32_w]
                rfl
               refine pure_ (i := 13) (N := some 7) (v := ?_) (a' := ?_) #[true, true, true, true, true, true, true, true, true, true, true, true, true, true] rfl rfl (any_of HT_.out zK) (fun _ _ _ h => h) (Or.inl ⟨by rfl, ?_⟩) ?_ ?_
               rotate_left
               ·intro w'
                go_simp
                with_reducible rfl
               rotate_left
               ·simp only [Act.put, List.setIfInBounds_toArray, List.set_cons_zero, List.set_cons_succ, i64_w, i32_w]
                rfl
               refine done_ (done_of HT_.out zK) ?_
               have p388 : 0 ≤ (x4_1 : Int) := zoA
               have q388 : x4_1 < (l0.length : Int) := zoA
               obtain ⟨ad388, e388, hx388_0⟩ := Kd.at_int HR0.out x4_1 p388 q388
               obtain rfl : ad362 = ad388 := (by injection e388)
               replace hx388_0 := (HB.out.cell (World.block_lt_of_cell? w _ hx388_0)).trans hx388_0
               replace p388 := eq_true p388
               replace q388 := eq_true q388
               try go_wp2_with (first | ((with_reducible refine gate_dst (N := 73) rfl ?_); refine Kd.R_lit (Kd.int .i32) _ 21 ?hg (N := 73) ?hd (xs := ([rd l0 x4_1] : List Int)) (inner := [.int .i32 (rd l0 x4_1)]) (ok := fun _ => True) (okp := fun _ => True) ?hr ?hp (fun _ hk => hk) trivial (Below.refl _ _) (Nat.le_refl _) (by simp) ?_; (case hd => rfl); (case hg => rfl); (case hr => first | (go_simp; done) | (go_simp; rfl)); (case hp => exact (Reps.one (show Kd.M (Kd.int .i32) _ _ _ (rd l0 x4_1) [.int .i32 (rd l0 x4_1)] from rfl) (Reps.none _ _))); intro v390 w56 ho57 hb hg_ hnew_; clear hg_ hnew_; (first | rw [← Ny389.out] at ho57 | (simp only [Int.reduceToNat] at ho57; rw [← Ny389.out] at ho57)); have n_ := zI (aM (Kd.R_elder' (zR HO_3) (Kd.R_base ho57) hb)) (zI (aM (Kd.R_lower (Kd.R_new' ho57 (Kd.R_lt (zR HO_3))) (below_size zB))) (aM (below_step zB hb))); clear HO_3 HB; obtain ⟨HO_3, HO391, HB⟩ := n_; clear hb ho57; obtain ⟨Ao59, co59, rfl⟩ := Kd.R_slice HO391.out) | ((with_reducible refine gate_builtin (b := .append) (xs := #[.tmp 68, .tmp 73]) rfl ?_); at_builtin; refine Kd.R_append_rows (Kd.int .i32) (w0 := w) w.heap.size rfl (.tmp 68) (.tmp 73) 22 21 (.int .i32 0) 4 rfl Try.underlying22 info21 rfl (by decide) (by omega) (.slice (some ad361) x3_1.length co4) x3_1 y389 _ _ _ (fun k_ => some k_ ≠ (.slice Ao59 y389.length co59 : Value).ownBlock) (fun _ => False) rfl rfl ?aO ?aR (fun _ _ h => h) (fun _ h => h.elim) ?aF ?aB ?aS ?aL ?_; (case aR => repeat (first | exact (Kd.R_reads' HO391.out).2.2 | (with_reducible refine Kd.C_alloc ?_ _) | (with_reducible refine Kd.C_drewN ?_ _) | (with_reducible refine Kd.C_drew ?_))); (case aB => exact zB); (case aF => exact (fun k_ hk => Kd.fresh' (Kd.R_lt (zR HO391)) k_ hk)); (case aO => exact (by (with_reducible repeat (first | apply Kd.R_alloc | apply Kd.R_drewN | apply Kd.R_drew)); exact Kd.R_mono HO_3.out (fun _ hk => hk.2))); (case aS => exact (below_size zB)); (case aL => have := LMc53.out; omega); intro v393 w58 ho hb hg hat; rw [← Ny392.out] at ho; have n_ := zI (aM (Kd.R_after (ok := (fun _ => True)) (zR HO391) hg hat)) (zI (aM (hb)) (aM (ho))); clear HO391 HB HO_3; obtain ⟨HO391, HB, HO394⟩ := n_; clear ho hb hg hat))
               go_roundg kj11
               case measure => have := HK1.out; have := HJ2.out; have := HJ11.out; omega
               case rel => exact ⟨(y392), (wrap64 (x4_1 + 1)), zP, H', ⟨by have := HK1.out; have := HJ2.out; have := HJ11.out; omega⟩, ⟨by (with_reducible repeat (first | apply Kd.R_alloc | apply Kd.R_drewN | apply Kd.R_drew)); exact Kd.R_mono HO394.out (fun _ hk => trivial)⟩, ⟨zB⟩⟩
              ·rw [if_neg c53] at H
               exact absurd H (by simp)
            ·rw [if_neg c28] at H
             exact absurd H (by simp)
           ·rw [if_neg c27] at H
            exact absurd H (by simp)
          ·rw [if_neg c26] at H
           exact absurd H (by simp)
         ·rw [if_neg c25] at H
          exact absurd H (by simp)
        ·replace c24 := Bool.eq_false_iff.mpr c24
         subst c24
         rw [if_neg (show ¬ (false = true) by decide)] at H
         by_cases c60 : 0 ≤ x4_1
         ·rw [if_pos c60] at H
          have c60b0 : decide (0 ≤ x4_1) = true := decide_eq_true c60
          clear c60
          by_cases c61 : x4_1 < (l0.length : Int)
          ·rw [if_pos c61] at H
           have c61b0 : decide (x4_1 < (l0.length : Int)) = true := decide_eq_true c61
           clear c61
           obtain ⟨y396, hy396⟩ : ∃ y_ : List Int, y_ = (([rd l0 x4_1] : List Int)) := ⟨_, rfl⟩
           replace H : (if x3_1.length + y396.length < 35184372088832 then (toponymref07_All.l0 kj11 l0 (x3_1 ++ y396) (wrap64 (x4_1 + 1))) else (none)) = some r := zY hy396 H
           have Ny396 := aM hy396
           clear hy396
           by_cases c62 : x3_1.length + y396.length < 35184372088832
           ·rw [if_pos c62] at H
            have LMc62 := aM c62
            clear c62
            obtain ⟨y399, hy399⟩ : ∃ y_ : List Int, y_ = (x3_1 ++ y396) := ⟨_, rfl⟩
            replace H : (toponymref07_All.l0 kj11 l0 y399 (wrap64 (x4_1 + 1))) = some r := zY hy399 H
            have Ny399 := aM hy399
            clear hy399
            have H' := aM H
            clear H
            have p395 : 0 ≤ (x4_1 : Int) := zoA
            have q395 : x4_1 < (l0.length : Int) := zoA
            obtain ⟨ad395, e395, hx395_0⟩ := Kd.at_int HR0.out x4_1 p395 q395
            cases e395
            replace hx395_0 := (HB.out.cell (World.block_lt_of_cell? w _ hx395_0)).trans hx395_0
            replace p395 := eq_true p395
            replace q395 := eq_true q395
            go_wp2_with (first | ((with_reducible refine gate_dst (N := 73) rfl ?_); refine Kd.R_lit (Kd.int .i32) _ 21 ?hg (N := 73) ?hd (xs := ([rd l0 x4_1] : List Int)) (inner := [.int .i32 (rd l0 x4_1)]) (ok := fun _ => True) (okp := fun _ => True) ?hr ?hp (fun _ hk => hk) trivial (Below.refl _ _) (Nat.le_refl _) (by simp) ?_; (case hd => rfl); (case hg => rfl); (case hr => first | (go_simp; done) | (go_simp; rfl)); (case hp => exact (Reps.one (show Kd.M (Kd.int .i32) _ _ _ (rd l0 x4_1) [.int .i32 (rd l0 x4_1)] from rfl) (Reps.none _ _))); intro v397 w63 ho64 hb hg_ hnew_; clear hg_ hnew_; (first | rw [← Ny396.out] at ho64 | (simp only [Int.reduceToNat] at ho64; rw [← Ny396.out] at ho64)); have n_ := zI (aM (Kd.R_elder' (zR HO_3) (Kd.R_base ho64) hb)) (zI (aM (Kd.R_lower (Kd.R_new' ho64 (Kd.R_lt (zR HO_3))) (below_size zB))) (aM (below_step zB hb))); clear HO_3 HB; obtain ⟨HO_3, HO398, HB⟩ := n_; clear hb ho64; obtain ⟨Ao66, co66, rfl⟩ := Kd.R_slice HO398.out) | ((with_reducible refine gate_builtin (b := .append) (xs := #[.tmp 68, .tmp 73]) rfl ?_); at_builtin; refine Kd.R_append_rows (Kd.int .i32) (w0 := w) w.heap.size rfl (.tmp 68) (.tmp 73) 22 21 (.int .i32 0) 4 rfl Try.underlying22 info21 rfl (by decide) (by omega) (.slice Ao4 x3_1.length co4) x3_1 y396 _ _ _ (fun k_ => some k_ ≠ (.slice Ao66 y396.length co66 : Value).ownBlock) (fun _ => False) rfl rfl ?aO ?aR (fun _ _ h => h) (fun _ h => h.elim) ?aF ?aB ?aS ?aL ?_; (case aR => repeat (first | exact (Kd.R_reads' HO398.out).2.2 | (with_reducible refine Kd.C_alloc ?_ _) | (with_reducible refine Kd.C_drewN ?_ _) | (with_reducible refine Kd.C_drew ?_))); (case aB => exact zB); (case aF => exact (fun k_ hk => Kd.fresh' (Kd.R_lt (zR HO398)) k_ hk)); (case aO => exact (by (with_reducible repeat (first | apply Kd.R_alloc | apply Kd.R_drewN | apply Kd.R_drew)); exact Kd.R_mono HO_3.out (fun _ hk => hk.2))); (case aS => exact (below_size zB)); (case aL => have := LMc62.out; omega); intro v400 w65 ho hb hg hat; rw [← Ny399.out] at ho; have n_ := zI (aM (Kd.R_after (ok := (fun _ => True)) (zR HO398) hg hat)) (zI (aM (hb)) (aM (ho))); clear HO398 HB HO_3; obtain ⟨HO398, HB, HO401⟩ := n_; clear ho hb hg hat))
            go_roundg kj11
            case measure => have := HK1.out; have := HJ2.out; have := HJ11.out; omega
            case rel => exact ⟨(y399), (wrap64 (x4_1 + 1)), zP, H', ⟨by have := HK1.out; have := HJ2.out; have := HJ11.out; omega⟩, ⟨by (with_reducible repeat (first | apply Kd.R_alloc | apply Kd.R_drewN | apply Kd.R_drew)); exact Kd.R_mono HO401.out (fun _ hk => trivial)⟩, ⟨zB⟩⟩
           ·rw [if_neg c62] at H
            exact absurd H (by simp)
          ·rw [if_neg c61] at H
           exact absurd H (by simp)
         ·rw [if_neg c60] at H
          exact absurd H (by simp)
   ·rw [if_neg c2] at H
    have c2b0 : decide (x4_1 < (l0.length : Int)) = false := decide_eq_false c2
    clear c2
    obtain rfl := sI H
    go_wp2
    go_ret
    exact ⟨_, zE, zR HO_3, zB⟩

end Go.Proofs.Ytpihglokjcbjkaa.P
