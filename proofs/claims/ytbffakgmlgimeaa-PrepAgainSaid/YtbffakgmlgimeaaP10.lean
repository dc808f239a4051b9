-- Printed by wip/mk.py (this session's driver over the kit's print) and from wip/manual.
import Derived.Test.YtbffakgmlgimeaaP0
import Derived.Test.YtbffakgmlgimeaaP5
import Derived.Test.YtbffakgmlgimeaaP9
namespace Go.Proofs.Ytbffakgmlgimeaa.P
open Go.RowKit Go.Proofs.YtbffakgmlgimeaaW.PrintWords Go.Proofs.YtbffakgmlgimeaaW.PrintLast Go.Proofs.YtbffakgmlgimeaaW.PrintMore
attribute [local go_sem] max2_int min2_int max_two min_two max_three min_three max_four min_four   -- for this text's walks alone
set_option linter.unusedVariables false
set_option linter.unusedSimpArgs false

/-! ### blanks_without_blanks_Space: function 103 -/
def blanks_without_blanks_Space.l0 : Nat → List Int → List Int → List Int → Int → Int → Option (List Int)
 | 0, _, _, _, _, _ => none
 | k + 1, x0, x5, x8, x9, x10 => if x10 < x9 then (if 0 ≤ x10 then (if x10 < (x8.length : Int) then ((blanks_Space.f k x0 x10).bind fun t307 => (if t307 = true then (blanks_without_blanks_Space.l0 k x0 x5 x8 x9 (wrap64 (x10 + 1))) else (if x5.length < 35184372088832 then (blanks_without_blanks_Space.l0 k x0 (x5 ++ [rd x8 x10]) x8 x9 (wrap64 (x10 + 1))) else (none)))) else (none)) else (none)) else (some x5)
def blanks_without_blanks_Space.f (k : Nat) (l0 : List Int) (a1 : Int) : Option (List Int) := blanks_without_blanks_Space.l0 k l0 ([] : List Int) l0 (l0.length : Int) 0
theorem blanks_without_blanks_Space.mono_l : ∀ k, (∀ y0 y1 y2 y3 y4, LeO (blanks_without_blanks_Space.l0 k y0 y1 y2 y3 y4) (blanks_without_blanks_Space.l0 (k + 1) y0 y1 y2 y3 y4))
 | 0 => fun _ _ _ _ _ r h => by simp [blanks_without_blanks_Space.l0] at h
 | k + 1 => by
  have ih0 := blanks_without_blanks_Space.mono_l k
  ·intro y0 y1 y2 y3 y4
   unfold blanks_without_blanks_Space.l0
   repeat' first
   | (with_reducible exact ih0 _ _ _ _ _)
   | (with_reducible exact blanks_Space.mono _ _ _)
   | (with_reducible exact LeO.refl _)
   | exact ih0 _ _ _ _ _
   | exact blanks_Space.mono _ _ _
   | exact LeO.none _
   | refine LeO.ite ?_ ?_
   | refine LeO.bind ?_ (fun _ => ?_)
theorem blanks_without_blanks_Space.mono : ∀ a0 a1 k, LeO (blanks_without_blanks_Space.f k a0 a1) (blanks_without_blanks_Space.f (k + 1) a0 a1) := by
 intro a0 a1 k
 have ih0 := blanks_without_blanks_Space.mono_l k
 unfold blanks_without_blanks_Space.f
 repeat' first
   | (with_reducible exact ih0 _ _ _ _ _)
   | (with_reducible exact blanks_Space.mono _ _ _)
   | (with_reducible exact LeO.refl _)
   | exact ih0 _ _ _ _ _
   | exact blanks_Space.mono _ _ _
   | exact LeO.none _
   | refine LeO.ite ?_ ?_
   | refine LeO.bind ?_ (fun _ => ?_)
set_option maxHeartbeats 8000000 in
set_option maxRecDepth 100000 in
theorem blanks_without_blanks_Space.calls (k : Nat) (A0 : Option Addr) (c0 : Nat) (l0 : List Int) (a1 : Int) (r : List Int) (w : World) (hr0 : Kd.C (Kd.int .i32) w A0 l0.length l0) (hc0 : l0.length ≤ c0) (h : blanks_without_blanks_Space.f k l0 a1 = some r) :
  Calls Try.prog 36 #[.slice A0 l0.length c0, .func (.func 37) #[] #[]] w fun e w' => ∃ v0_ : Value, e = .returned (v0_) ∧ Kd.R (Kd.int .i32) 21 w' w.heap.size (fun _ => True) v0_ r ∧ Below w.heap.size w w' := by
 have HR0 := aM hr0
 have HC0 := aM hc0
 clear hr0 hc0
 have HB := aM (Below.refl w.heap.size w)
 have H := h
 clear h
 unfold blanks_without_blanks_Space.f at H
 have H' := aM H
 clear H
 go_enter Try.func36, Try.ntmps36
 go_wp2
 go_loopg [5, 10] k (fun kq v5 v10 w' => ∃ (x5_1 : List Int) (x10_1 : Int), v10 = .int .i64 x10_1 ∧ Aside0 (blanks_without_blanks_Space.l0 kq l0 x5_1 l0 (l0.length : Int) x10_1 = some r) ∧ Aside0 (kq ≤ k) ∧ Aside0 (Kd.R (Kd.int .i32) 21 w' w.heap.size (fun _ => True) v5 x5_1) ∧ Aside0 (Below w.heap.size w w'))
 case atStart => exact ⟨(([] : List Int)), (0), zP, H', ⟨Nat.le_refl _⟩, ⟨zL⟩, ⟨zB⟩⟩
 case round =>
  clear H'
  try clear c1
  try clear p2
  obtain ⟨x5_1, x10_1, rfl, HA, HK1, HO_5, HB⟩ := hrel
  cases gk with
  | zero => exact absurd HA.out (by simp [blanks_without_blanks_Space.l0])
  | succ k1 =>
   have H := HA.out
   clear HA
   simp only [blanks_without_blanks_Space.l0] at H
   by_cases c3 : x10_1 < (l0.length : Int)
   ·rw [if_pos c3] at H
    have c3b0 : decide (x10_1 < (l0.length : Int)) = true := decide_eq_true c3
    clear c3
    by_cases c4 : 0 ≤ x10_1
    ·rw [if_pos c4] at H
     have c4b0 : decide (0 ≤ x10_1) = true := decide_eq_true c4
     clear c4
     by_cases c5 : x10_1 < (l0.length : Int)
     ·rw [if_pos c5] at H
      have c5b0 : decide (x10_1 < (l0.length : Int)) = true := decide_eq_true c5
      clear c5
      obtain ⟨t307, A6, H⟩ := zO H
      by_cases c7 : t307 = true
      ·subst c7
       rw [if_pos rfl] at H
       have H' := aM H
       clear H
       have p306 : 0 ≤ (x10_1 : Int) := zoA
       have q306 : x10_1 < (l0.length : Int) := zoA
       obtain ⟨ad306, e306, hx306_0⟩ := Kd.at_int HR0.out x10_1 p306 q306
       cases e306
       replace hx306_0 := (HB.out.cell (World.block_lt_of_cell? w _ hx306_0)).trans hx306_0
       replace p306 := eq_true p306
       replace q306 := eq_true q306
       go_wp2_with (first | ((with_reducible refine gate_tmp (x := 15) rfl ?_); refine goesLT_ (some 18) (x := 15) rfl rfl rfl Try.func37 zK rfl #[.slice (some ad306) l0.length c0, .int .i64 x10_1] rfl zM ?_; (with_reducible refine (blanks_Space.calls k1 _ _ l0 x10_1 true _ ?side1 ?side2 A6.out).mono ?_); (case side1 => exact zCB HR0); (case side2 => exact HC0.out); rintro e w8 ⟨rfl, hb⟩; refine ⟨_, rfl, ?_⟩; have n_ := zI (aM (Kd.R_below (zR HO_5) hb)) (aM (below_step zB hb)); clear HO_5 HB; obtain ⟨HO_5, HB⟩ := n_; (try clear hb)))
       go_roundg k1
       case measure => have := HK1.out; omega
       case rel => exact ⟨(x5_1), (wrap64 (x10_1 + 1)), zP, H', ⟨by have := HK1.out; omega⟩, ⟨zR HO_5⟩, ⟨zB⟩⟩
      ·replace c7 := Bool.eq_false_iff.mpr c7
       subst c7
       rw [if_neg (show ¬ (false = true) by decide)] at H
       by_cases c9 : x5_1.length < 35184372088832
       ·rw [if_pos c9] at H
        have LMc9 := aM c9
        clear c9
        obtain ⟨y308, hy308⟩ : ∃ y_ : List Int, y_ = (x5_1 ++ [rd l0 x10_1]) := ⟨_, rfl⟩
        replace H : (blanks_without_blanks_Space.l0 k1 l0 y308 l0 (l0.length : Int) (wrap64 (x10_1 + 1))) = some r := zY hy308 H
        have Ny308 := aM hy308
        clear hy308
        have H' := aM H
        clear H
        have p306 : 0 ≤ (x10_1 : Int) := zoA
        have q306 : x10_1 < (l0.length : Int) := zoA
        obtain ⟨ad306, e306, hx306_0⟩ := Kd.at_int HR0.out x10_1 p306 q306
        cases e306
        replace hx306_0 := (HB.out.cell (World.block_lt_of_cell? w _ hx306_0)).trans hx306_0
        replace p306 := eq_true p306
        replace q306 := eq_true q306
        go_wp2_with (first | ((with_reducible refine gate_tmp (x := 15) rfl ?_); refine goesLT_ (some 18) (x := 15) rfl rfl rfl Try.func37 zK rfl #[.slice (some ad306) l0.length c0, .int .i64 x10_1] rfl zM ?_; (with_reducible refine (blanks_Space.calls k1 _ _ l0 x10_1 false _ ?side1 ?side2 A6.out).mono ?_); (case side1 => exact zCB HR0); (case side2 => exact HC0.out); rintro e w10 ⟨rfl, hb⟩; refine ⟨_, rfl, ?_⟩; have n_ := zI (aM (Kd.R_below (zR HO_5) hb)) (aM (below_step zB hb)); clear HO_5 HB; obtain ⟨HO_5, HB⟩ := n_; (try clear hb); (try clear hk)) | ((with_reducible refine gate_builtin (b := .append) (xs := #[.tmp 20, .tmp 22]) rfl ?_); at_builtin; refine Kd.R_append (Kd.int .i32) (w0 := w) w.heap.size rfl (.tmp 20) (.tmp 22) 34 21 (.int .i32 0) 4 rfl Try.underlying34 info21 rfl (by decide) (by omega) u5 x5_1 (rd l0 x10_1) [.int .i32 (rd l0 x10_1)] (fun _ => True) (fun _ => False) rfl rfl ?aP (fun _ hk => hk.elim) ?aF ?aO ?aB ?aS ?aL ?_; (case aP => exact rfl); (case aB => exact zB); (case aF => exact (fun _ _ => trivial)); (case aO => exact (zR HO_5)); (case aS => exact (below_size zB)); (case aL => have := LMc9.out; omega); intro v309 w11 ho hb hg hat; rw [← Ny308.out] at ho; have n_ := zI (aM (hb)) (aM (ho)); clear HB HO_5; obtain ⟨HB, HO310⟩ := n_; clear ho hb hg hat))
        go_roundg k1
        case measure => have := HK1.out; omega
        case rel => exact ⟨(y308), (wrap64 (x10_1 + 1)), zP, H', ⟨by have := HK1.out; omega⟩, ⟨zR HO310⟩, ⟨zB⟩⟩
       ·rw [if_neg c9] at H
        exact absurd H (by simp)
     ·rw [if_neg c5] at H
      exact absurd H (by simp)
    ·rw [if_neg c4] at H
     exact absurd H (by simp)
   ·rw [if_neg c3] at H
    have c3b0 : decide (x10_1 < (l0.length : Int)) = false := decide_eq_false c3
    clear c3
    obtain rfl := sI H
    go_wp2
    go_ret
    exact ⟨_, zE, zR HO_5, zB⟩

/-! ### blanks_Numeric: function 23 -/
def blanks_Numeric.f (k : Nat) (l0 : List Int) : Option (List Int) := (blanks_without_blanks_Space.f k l0 7770037).bind fun t311 => (some t311)
theorem blanks_Numeric.mono : ∀ a0 k, LeO (blanks_Numeric.f k a0) (blanks_Numeric.f (k + 1) a0) := by
 intro a0 k
 unfold blanks_Numeric.f
 repeat' first
   | (with_reducible exact blanks_without_blanks_Space.mono _ _ _)
   | (with_reducible exact LeO.refl _)
   | exact blanks_without_blanks_Space.mono _ _ _
   | exact LeO.none _
   | refine LeO.ite ?_ ?_
   | refine LeO.bind ?_ (fun _ => ?_)
set_option maxHeartbeats 8000000 in
set_option maxRecDepth 100000 in
theorem blanks_Numeric.calls (k : Nat) (A0 : Option Addr) (c0 : Nat) (l0 : List Int) (r : List Int) (w : World) (hr0 : Kd.C (Kd.int .i32) w A0 l0.length l0) (hc0 : l0.length ≤ c0) (h : blanks_Numeric.f k l0 = some r) :
  Calls Try.prog 23 #[.slice A0 l0.length c0] w fun e w' => ∃ v0_ : Value, e = .returned (v0_) ∧ Kd.R (Kd.int .i32) 21 w' w.heap.size (fun _ => True) v0_ r ∧ Below w.heap.size w w' := by
 have HR0 := aM hr0
 have HC0 := aM hc0
 clear hr0 hc0
 have HB := aM (Below.refl w.heap.size w)
 have H := h
 clear h
 unfold blanks_Numeric.f at H
 obtain ⟨t311, A2, H⟩ := zO H
 obtain rfl := sI H
 go_enter Try.func23, Try.ntmps23
 go_wp2_with (first | ((with_reducible refine gate_callee (f := 36) rfl ?_); refine goesL_ (some 4) rfl rfl Try.func36 zK rfl #[.slice A0 l0.length c0, .func (.func 37) #[] #[]] rfl zM ?_; (with_reducible refine (blanks_without_blanks_Space.calls k _ _ l0 7770037 t311 _ ?side1 ?side2 A2.out).mono ?_); (case side1 => exact zC HR0.out); (case side2 => exact HC0.out); rintro e w3 ⟨v312, rfl, ho0, hb⟩; refine ⟨_, rfl, ?_⟩; have n_ := zI (aM (Kd.R_lower ho0 (below_size zB))) (aM (below_step zB hb)); clear HB; obtain ⟨HO313, HB⟩ := n_; (try clear hb); (try clear ho0)))
 go_ret
 exact ⟨_, zE, zR HO313, zB⟩

/-! ### blanks_Hyphen: function 39 -/
def blanks_Hyphen.f (k : Nat) (l0 : List Int) (a1 : Int) : Option (Bool) := if a1 ≥ 0 then (if a1 < (l0.length : Int) then (if 0 ≤ a1 then (if (rd l0 a1) = 45 then ((blanks_bare.f k l0 a1).bind fun t315 => (some t315)) else (if (rd l0 a1) = 8208 then ((blanks_bare.f k l0 a1).bind fun t317 => (some t317)) else (if (rd l0 a1) = 8722 then ((blanks_bare.f k l0 a1).bind fun t319 => (some t319)) else (some false)))) else (none)) else (some false)) else (some false)
theorem blanks_Hyphen.mono : ∀ a0 a1 k, LeO (blanks_Hyphen.f k a0 a1) (blanks_Hyphen.f (k + 1) a0 a1) := by
 intro a0 a1 k
 unfold blanks_Hyphen.f
 repeat' first
   | (with_reducible exact blanks_bare.mono _ _ _)
   | (with_reducible exact LeO.refl _)
   | exact blanks_bare.mono _ _ _
   | exact LeO.none _
   | refine LeO.ite ?_ ?_
   | refine LeO.bind ?_ (fun _ => ?_)
set_option maxHeartbeats 8000000 in
set_option maxRecDepth 100000 in
theorem blanks_Hyphen.calls (k : Nat) (A0 : Option Addr) (c0 : Nat) (l0 : List Int) (a1 : Int) (r : Bool) (w : World) (hr0 : Kd.C (Kd.int .i32) w A0 l0.length l0) (hc0 : l0.length ≤ c0) (h : blanks_Hyphen.f k l0 a1 = some r) :
  Calls Try.prog 39 #[.slice A0 l0.length c0, .int .i64 a1] w fun e w' => e = .returned (.bool r) ∧ Below w.heap.size w w' := by
 have HR0 := aM hr0
 have HC0 := aM hc0
 clear hr0 hc0
 have HB := aM (Below.refl w.heap.size w)
 have H := h
 clear h
 unfold blanks_Hyphen.f at H
 by_cases c3 : a1 ≥ 0
 ·rw [if_pos c3] at H
  have c3b0 : decide (0 ≤ a1) = true := decide_eq_true c3
  clear c3
  by_cases c4 : a1 < (l0.length : Int)
  ·rw [if_pos c4] at H
   have c4b0 : decide (a1 < (l0.length : Int)) = true := decide_eq_true c4
   clear c4
   by_cases c5 : 0 ≤ a1
   ·rw [if_pos c5] at H
    have c5b0 : decide (0 ≤ a1) = true := decide_eq_true c5
    clear c5
    by_cases c6 : (rd l0 a1) = 45
    ·rw [if_pos c6] at H
     have c6b0 : ((rd l0 a1) == 45) = true := beq_iff_eq.mpr c6
     have c6b1 : ((rd l0 a1) != 45) = false := bne_eq_false_iff_eq.mpr c6
     clear c6
     obtain ⟨t315, A7, H⟩ := zO H
     obtain rfl := sI H
     have p314 : 0 ≤ (a1 : Int) := zoA
     have q314 : a1 < (l0.length : Int) := zoA
     obtain ⟨ad314, e314, hx314_0⟩ := Kd.at_int HR0.out a1 p314 q314
     cases e314
     replace p314 := eq_true p314
     replace q314 := eq_true q314
     go_enter Try.func39, Try.ntmps39
     go_wp2_with (first | (go_at_call 55; (with_reducible refine (blanks_bare.calls k _ _ l0 a1 t315 _ ?side1 ?side2 A7.out).mono ?_); (case side1 => exact zC HR0.out); (case side2 => exact HC0.out); rintro e w8 ⟨rfl, hb⟩; (try clear A7); replace HB := aM (below_step zB hb); (try clear hb)))
     go_ret
     exact ⟨zE, zB⟩
    ·rw [if_neg c6] at H
     have c6b0 : ((rd l0 a1) == 45) = false := beq_eq_false_iff_ne.mpr c6
     have c6b1 : ((rd l0 a1) != 45) = true := bne_iff_ne.mpr c6
     by_cases c9 : (rd l0 a1) = 8208
     ·rw [if_pos c9] at H
      have c9b0 : ((rd l0 a1) == 8208) = true := beq_iff_eq.mpr c9
      have c9b1 : ((rd l0 a1) != 8208) = false := bne_eq_false_iff_eq.mpr c9
      clear c9
      obtain ⟨t317, A10, H⟩ := zO H
      obtain rfl := sI H
      have p314 : 0 ≤ (a1 : Int) := zoA
      have q314 : a1 < (l0.length : Int) := zoA
      obtain ⟨ad314, e314, hx314_0⟩ := Kd.at_int HR0.out a1 p314 q314
      cases e314
      replace p314 := eq_true p314
      replace q314 := eq_true q314
      have p316 : 0 ≤ (a1 : Int) := zoA
      have q316 : a1 < (l0.length : Int) := zoA
      obtain ⟨ad316, e316, hx316_0⟩ := Kd.at_int HR0.out a1 p316 q316
      obtain rfl : ad314 = ad316 := (by injection e316)
      replace p316 := eq_true p316
      replace q316 := eq_true q316
      go_enter Try.func39, Try.ntmps39
      go_wp2_with (first | (go_at_call 55; (with_reducible refine (blanks_bare.calls k _ _ l0 a1 t317 _ ?side1 ?side2 A10.out).mono ?_); (case side1 => exact zC HR0.out); (case side2 => exact HC0.out); rintro e w11 ⟨rfl, hb⟩; (try clear A10); replace HB := aM (below_step zB hb); (try clear hb)))
      go_ret
      exact ⟨zE, zB⟩
     ·rw [if_neg c9] at H
      have c9b0 : ((rd l0 a1) == 8208) = false := beq_eq_false_iff_ne.mpr c9
      have c9b1 : ((rd l0 a1) != 8208) = true := bne_iff_ne.mpr c9
      by_cases c12 : (rd l0 a1) = 8722
      ·rw [if_pos c12] at H
       have c12b0 : ((rd l0 a1) == 8722) = true := beq_iff_eq.mpr c12
       have c12b1 : ((rd l0 a1) != 8722) = false := bne_eq_false_iff_eq.mpr c12
       clear c12
       obtain ⟨t319, A13, H⟩ := zO H
       obtain rfl := sI H
       have p314 : 0 ≤ (a1 : Int) := zoA
       have q314 : a1 < (l0.length : Int) := zoA
       obtain ⟨ad314, e314, hx314_0⟩ := Kd.at_int HR0.out a1 p314 q314
       cases e314
       replace p314 := eq_true p314
       replace q314 := eq_true q314
       have p316 : 0 ≤ (a1 : Int) := zoA
       have q316 : a1 < (l0.length : Int) := zoA
       obtain ⟨ad316, e316, hx316_0⟩ := Kd.at_int HR0.out a1 p316 q316
       obtain rfl : ad314 = ad316 := (by injection e316)
       replace p316 := eq_true p316
       replace q316 := eq_true q316
       have p318 : 0 ≤ (a1 : Int) := zoA
       have q318 : a1 < (l0.length : Int) := zoA
       obtain ⟨ad318, e318, hx318_0⟩ := Kd.at_int HR0.out a1 p318 q318
       obtain rfl : ad314 = ad318 := (by injection e318)
       replace p318 := eq_true p318
       replace q318 := eq_true q318
       go_enter Try.func39, Try.ntmps39
       go_wp2_with (first | (go_at_call 55; (with_reducible refine (blanks_bare.calls k _ _ l0 a1 t319 _ ?side1 ?side2 A13.out).mono ?_); (case side1 => exact zC HR0.out); (case side2 => exact HC0.out); rintro e w14 ⟨rfl, hb⟩; (try clear A13); replace HB := aM (below_step zB hb); (try clear hb)))
       go_ret
       exact ⟨zE, zB⟩
      ·rw [if_neg c12] at H
       have c12b0 : ((rd l0 a1) == 8722) = false := beq_eq_false_iff_ne.mpr c12
       have c12b1 : ((rd l0 a1) != 8722) = true := bne_iff_ne.mpr c12
       obtain rfl := sI H
       have p314 : 0 ≤ (a1 : Int) := zoA
       have q314 : a1 < (l0.length : Int) := zoA
       obtain ⟨ad314, e314, hx314_0⟩ := Kd.at_int HR0.out a1 p314 q314
       cases e314
       replace p314 := eq_true p314
       replace q314 := eq_true q314
       have p316 : 0 ≤ (a1 : Int) := zoA
       have q316 : a1 < (l0.length : Int) := zoA
       obtain ⟨ad316, e316, hx316_0⟩ := Kd.at_int HR0.out a1 p316 q316
       obtain rfl : ad314 = ad316 := (by injection e316)
       replace p316 := eq_true p316
       replace q316 := eq_true q316
       have p318 : 0 ≤ (a1 : Int) := zoA
       have q318 : a1 < (l0.length : Int) := zoA
       obtain ⟨ad318, e318, hx318_0⟩ := Kd.at_int HR0.out a1 p318 q318
       obtain rfl : ad314 = ad318 := (by injection e318)
       replace p318 := eq_true p318
       replace q318 := eq_true q318
       go_enter Try.func39, Try.ntmps39
       go_wp2
       go_ret
       exact ⟨zE, zB⟩
   ·rw [if_neg c5] at H
    exact absurd H (by simp)
  ·rw [if_neg c4] at H
   have c4b0 : decide (a1 < (l0.length : Int)) = false := decide_eq_false c4
   clear c4
   obtain rfl := sI H
   go_enter Try.func39, Try.ntmps39
   go_wp2
   go_ret
   exact ⟨zE, zB⟩
 ·rw [if_neg c3] at H
  have c3b0 : decide (0 ≤ a1) = false := decide_eq_false c3
  clear c3
  obtain rfl := sI H
  go_enter Try.func39, Try.ntmps39
  go_wp2
  go_ret
  exact ⟨zE, zB⟩

/-! ### blanks_Phone_1: function 38 -/
def blanks_Phone_1.f (k : Nat) (l0 : List Int) (a1 : Int) : Option (Bool) := (blanks_Space.f k l0 a1).bind fun t320 => (if t320 = true then (some true) else ((blanks_Hyphen.f k l0 a1).bind fun t321 => (some t321)))
theorem blanks_Phone_1.mono : ∀ a0 a1 k, LeO (blanks_Phone_1.f k a0 a1) (blanks_Phone_1.f (k + 1) a0 a1) := by
 intro a0 a1 k
 unfold blanks_Phone_1.f
 repeat' first
   | (with_reducible exact blanks_Hyphen.mono _ _ _)
   | (with_reducible exact blanks_Space.mono _ _ _)
   | (with_reducible exact LeO.refl _)
   | exact blanks_Hyphen.mono _ _ _
   | exact blanks_Space.mono _ _ _
   | exact LeO.none _
   | refine LeO.ite ?_ ?_
   | refine LeO.bind ?_ (fun _ => ?_)
set_option maxHeartbeats 8000000 in
set_option maxRecDepth 100000 in
theorem blanks_Phone_1.calls (k : Nat) (A0 : Option Addr) (c0 : Nat) (l0 : List Int) (a1 : Int) (r : Bool) (w : World) (hr0 : Kd.C (Kd.int .i32) w A0 l0.length l0) (hc0 : l0.length ≤ c0) (h : blanks_Phone_1.f k l0 a1 = some r) :
  Calls Try.prog 38 #[.slice A0 l0.length c0, .int .i64 a1] w fun e w' => e = .returned (.bool r) ∧ Below w.heap.size w w' := by
 have HR0 := aM hr0
 have HC0 := aM hc0
 clear hr0 hc0
 have HB := aM (Below.refl w.heap.size w)
 have H := h
 clear h
 unfold blanks_Phone_1.f at H
 obtain ⟨t320, A3, H⟩ := zO H
 by_cases c4 : t320 = true
 ·subst c4
  rw [if_pos rfl] at H
  obtain rfl := sI H
  go_enter Try.func38, Try.ntmps38
  go_wp2_with (first | ((with_reducible refine gate_callee (f := 37) rfl ?_); refine goesL_ (some 7) rfl rfl Try.func37 zK rfl #[.slice A0 l0.length c0, .int .i64 a1] rfl zM ?_; (with_reducible refine (blanks_Space.calls k _ _ l0 a1 true _ ?side1 ?side2 A3.out).mono ?_); (case side1 => exact zC HR0.out); (case side2 => exact HC0.out); rintro e w5 ⟨rfl, hb⟩; refine ⟨_, rfl, ?_⟩; replace HB := aM (below_step zB hb); (try clear hb)))
  go_ret
  exact ⟨zE, zB⟩
 ·replace c4 := Bool.eq_false_iff.mpr c4
  subst c4
  rw [if_neg (show ¬ (false = true) by decide)] at H
  obtain ⟨t321, A6, H⟩ := zO H
  obtain rfl := sI H
  go_enter Try.func38, Try.ntmps38
  go_wp2_with (first | ((with_reducible refine gate_callee (f := 37) rfl ?_); refine goesL_ (some 7) rfl rfl Try.func37 zK rfl #[.slice A0 l0.length c0, .int .i64 a1] rfl zM ?_; (with_reducible refine (blanks_Space.calls k _ _ l0 a1 false _ ?side1 ?side2 A3.out).mono ?_); (case side1 => exact zC HR0.out); (case side2 => exact HC0.out); rintro e w7 ⟨rfl, hb⟩; refine ⟨_, rfl, ?_⟩; replace HB := aM (below_step zB hb); (try clear hb)) | (go_at_call 39; (with_reducible refine (blanks_Hyphen.calls k _ _ l0 a1 t321 _ ?side1 ?side2 A6.out).mono ?_); (case side1 => exact zCB HR0); (case side2 => exact HC0.out); rintro e w8 ⟨rfl, hb⟩; replace HB := aM (below_step zB hb); (try clear hb)))
  go_ret
  exact ⟨zE, zB⟩

/-! ### blanks_without_blanks_Phone_1: function 104 -/
def blanks_without_blanks_Phone_1.l0 : Nat → List Int → List Int → List Int → Int → Int → Option (List Int)
 | 0, _, _, _, _, _ => none
 | k + 1, x0, x5, x8, x9, x10 => if x10 < x9 then (if 0 ≤ x10 then (if x10 < (x8.length : Int) then ((blanks_Phone_1.f k x0 x10).bind fun t323 => (if t323 = true then (blanks_without_blanks_Phone_1.l0 k x0 x5 x8 x9 (wrap64 (x10 + 1))) else (if x5.length < 35184372088832 then (blanks_without_blanks_Phone_1.l0 k x0 (x5 ++ [rd x8 x10]) x8 x9 (wrap64 (x10 + 1))) else (none)))) else (none)) else (none)) else (some x5)
def blanks_without_blanks_Phone_1.f (k : Nat) (l0 : List Int) (a1 : Int) : Option (List Int) := blanks_without_blanks_Phone_1.l0 k l0 ([] : List Int) l0 (l0.length : Int) 0
theorem blanks_without_blanks_Phone_1.mono_l : ∀ k, (∀ y0 y1 y2 y3 y4, LeO (blanks_without_blanks_Phone_1.l0 k y0 y1 y2 y3 y4) (blanks_without_blanks_Phone_1.l0 (k + 1) y0 y1 y2 y3 y4))
 | 0 => fun _ _ _ _ _ r h => by simp [blanks_without_blanks_Phone_1.l0] at h
 | k + 1 => by
  have ih0 := blanks_without_blanks_Phone_1.mono_l k
  ·intro y0 y1 y2 y3 y4
   unfold blanks_without_blanks_Phone_1.l0
   repeat' first
   | (with_reducible exact ih0 _ _ _ _ _)
   | (with_reducible exact blanks_Phone_1.mono _ _ _)
   | (with_reducible exact LeO.refl _)
   | exact ih0 _ _ _ _ _
   | exact blanks_Phone_1.mono _ _ _
   | exact LeO.none _
   | refine LeO.ite ?_ ?_
   | refine LeO.bind ?_ (fun _ => ?_)
theorem blanks_without_blanks_Phone_1.mono : ∀ a0 a1 k, LeO (blanks_without_blanks_Phone_1.f k a0 a1) (blanks_without_blanks_Phone_1.f (k + 1) a0 a1) := by
 intro a0 a1 k
 have ih0 := blanks_without_blanks_Phone_1.mono_l k
 unfold blanks_without_blanks_Phone_1.f
 repeat' first
   | (with_reducible exact ih0 _ _ _ _ _)
   | (with_reducible exact blanks_Phone_1.mono _ _ _)
   | (with_reducible exact LeO.refl _)
   | exact ih0 _ _ _ _ _
   | exact blanks_Phone_1.mono _ _ _
   | exact LeO.none _
   | refine LeO.ite ?_ ?_
   | refine LeO.bind ?_ (fun _ => ?_)
set_option maxHeartbeats 8000000 in
set_option maxRecDepth 100000 in
theorem blanks_without_blanks_Phone_1.calls (k : Nat) (A0 : Option Addr) (c0 : Nat) (l0 : List Int) (a1 : Int) (r : List Int) (w : World) (hr0 : Kd.C (Kd.int .i32) w A0 l0.length l0) (hc0 : l0.length ≤ c0) (h : blanks_without_blanks_Phone_1.f k l0 a1 = some r) :
  Calls Try.prog 36 #[.slice A0 l0.length c0, .func (.func 38) #[] #[]] w fun e w' => ∃ v0_ : Value, e = .returned (v0_) ∧ Kd.R (Kd.int .i32) 21 w' w.heap.size (fun _ => True) v0_ r ∧ Below w.heap.size w w' := by
 have HR0 := aM hr0
 have HC0 := aM hc0
 clear hr0 hc0
 have HB := aM (Below.refl w.heap.size w)
 have H := h
 clear h
 unfold blanks_without_blanks_Phone_1.f at H
 have H' := aM H
 clear H
 go_enter Try.func36, Try.ntmps36
 go_wp2
 go_loopg [5, 10] k (fun kq v5 v10 w' => ∃ (x5_1 : List Int) (x10_1 : Int), v10 = .int .i64 x10_1 ∧ Aside0 (blanks_without_blanks_Phone_1.l0 kq l0 x5_1 l0 (l0.length : Int) x10_1 = some r) ∧ Aside0 (kq ≤ k) ∧ Aside0 (Kd.R (Kd.int .i32) 21 w' w.heap.size (fun _ => True) v5 x5_1) ∧ Aside0 (Below w.heap.size w w'))
 case atStart => exact ⟨(([] : List Int)), (0), zP, H', ⟨Nat.le_refl _⟩, ⟨zL⟩, ⟨zB⟩⟩
 case round =>
  clear H'
  try clear c1
  try clear p2
  obtain ⟨x5_1, x10_1, rfl, HA, HK1, HO_5, HB⟩ := hrel
  cases gk with
  | zero => exact absurd HA.out (by simp [blanks_without_blanks_Phone_1.l0])
  | succ k1 =>
   have H := HA.out
   clear HA
   simp only [blanks_without_blanks_Phone_1.l0] at H
   by_cases c3 : x10_1 < (l0.length : Int)
   ·rw [if_pos c3] at H
    have c3b0 : decide (x10_1 < (l0.length : Int)) = true := decide_eq_true c3
    clear c3
    by_cases c4 : 0 ≤ x10_1
    ·rw [if_pos c4] at H
     have c4b0 : decide (0 ≤ x10_1) = true := decide_eq_true c4
     clear c4
     by_cases c5 : x10_1 < (l0.length : Int)
     ·rw [if_pos c5] at H
      have c5b0 : decide (x10_1 < (l0.length : Int)) = true := decide_eq_true c5
      clear c5
      obtain ⟨t323, A6, H⟩ := zO H
      by_cases c7 : t323 = true
      ·subst c7
       rw [if_pos rfl] at H
       have H' := aM H
       clear H
       have p322 : 0 ≤ (x10_1 : Int) := zoA
       have q322 : x10_1 < (l0.length : Int) := zoA
       obtain ⟨ad322, e322, hx322_0⟩ := Kd.at_int HR0.out x10_1 p322 q322
       cases e322
       replace hx322_0 := (HB.out.cell (World.block_lt_of_cell? w _ hx322_0)).trans hx322_0
       replace p322 := eq_true p322
       replace q322 := eq_true q322
       go_wp2_with (first | ((with_reducible refine gate_tmp (x := 15) rfl ?_); refine goesLT_ (some 18) (x := 15) rfl rfl rfl Try.func38 zK rfl #[.slice (some ad322) l0.length c0, .int .i64 x10_1] rfl zM ?_; (with_reducible refine (blanks_Phone_1.calls k1 _ _ l0 x10_1 true _ ?side1 ?side2 A6.out).mono ?_); (case side1 => exact zCB HR0); (case side2 => exact HC0.out); rintro e w8 ⟨rfl, hb⟩; refine ⟨_, rfl, ?_⟩; have n_ := zI (aM (Kd.R_below (zR HO_5) hb)) (aM (below_step zB hb)); clear HO_5 HB; obtain ⟨HO_5, HB⟩ := n_; (try clear hb)))
       go_roundg k1
       case measure => have := HK1.out; omega
       case rel => exact ⟨(x5_1), (wrap64 (x10_1 + 1)), zP, H', ⟨by have := HK1.out; omega⟩, ⟨zR HO_5⟩, ⟨zB⟩⟩
      ·replace c7 := Bool.eq_false_iff.mpr c7
       subst c7
       rw [if_neg (show ¬ (false = true) by decide)] at H
       by_cases c9 : x5_1.length < 35184372088832
       ·rw [if_pos c9] at H
        have LMc9 := aM c9
        clear c9
        obtain ⟨y324, hy324⟩ : ∃ y_ : List Int, y_ = (x5_1 ++ [rd l0 x10_1]) := ⟨_, rfl⟩
        replace H : (blanks_without_blanks_Phone_1.l0 k1 l0 y324 l0 (l0.length : Int) (wrap64 (x10_1 + 1))) = some r := zY hy324 H
        have Ny324 := aM hy324
        clear hy324
        have H' := aM H
        clear H
        have p322 : 0 ≤ (x10_1 : Int) := zoA
        have q322 : x10_1 < (l0.length : Int) := zoA
        obtain ⟨ad322, e322, hx322_0⟩ := Kd.at_int HR0.out x10_1 p322 q322
        cases e322
        replace hx322_0 := (HB.out.cell (World.block_lt_of_cell? w _ hx322_0)).trans hx322_0
        replace p322 := eq_true p322
        replace q322 := eq_true q322
        go_wp2_with (first | ((with_reducible refine gate_tmp (x := 15) rfl ?_); refine goesLT_ (some 18) (x := 15) rfl rfl rfl Try.func38 zK rfl #[.slice (some ad322) l0.length c0, .int .i64 x10_1] rfl zM ?_; (with_reducible refine (blanks_Phone_1.calls k1 _ _ l0 x10_1 false _ ?side1 ?side2 A6.out).mono ?_); (case side1 => exact zCB HR0); (case side2 => exact HC0.out); rintro e w10 ⟨rfl, hb⟩; refine ⟨_, rfl, ?_⟩; have n_ := zI (aM (Kd.R_below (zR HO_5) hb)) (aM (below_step zB hb)); clear HO_5 HB; obtain ⟨HO_5, HB⟩ := n_; (try clear hb); (try clear hk)) | ((with_reducible refine gate_builtin (b := .append) (xs := #[.tmp 20, .tmp 22]) rfl ?_); at_builtin; refine Kd.R_append (Kd.int .i32) (w0 := w) w.heap.size rfl (.tmp 20) (.tmp 22) 34 21 (.int .i32 0) 4 rfl Try.underlying34 info21 rfl (by decide) (by omega) u5 x5_1 (rd l0 x10_1) [.int .i32 (rd l0 x10_1)] (fun _ => True) (fun _ => False) rfl rfl ?aP (fun _ hk => hk.elim) ?aF ?aO ?aB ?aS ?aL ?_; (case aP => exact rfl); (case aB => exact zB); (case aF => exact (fun _ _ => trivial)); (case aO => exact (zR HO_5)); (case aS => exact (below_size zB)); (case aL => have := LMc9.out; omega); intro v325 w11 ho hb hg hat; rw [← Ny324.out] at ho; have n_ := zI (aM (hb)) (aM (ho)); clear HB HO_5; obtain ⟨HB, HO326⟩ := n_; clear ho hb hg hat))
        go_roundg k1
        case measure => have := HK1.out; omega
        case rel => exact ⟨(y324), (wrap64 (x10_1 + 1)), zP, H', ⟨by have := HK1.out; omega⟩, ⟨zR HO326⟩, ⟨zB⟩⟩
       ·rw [if_neg c9] at H
        exact absurd H (by simp)
     ·rw [if_neg c5] at H
      exact absurd H (by simp)
    ·rw [if_neg c4] at H
     exact absurd H (by simp)
   ·rw [if_neg c3] at H
    have c3b0 : decide (x10_1 < (l0.length : Int)) = false := decide_eq_false c3
    clear c3
    obtain rfl := sI H
    go_wp2
    go_ret
    exact ⟨_, zE, zR HO_5, zB⟩

/-! ### blanks_Phone: function 24 -/
def blanks_Phone.f (k : Nat) (l0 : List Int) : Option (List Int) := (blanks_without_blanks_Phone_1.f k l0 7770038).bind fun t327 => (some t327)
theorem blanks_Phone.mono : ∀ a0 k, LeO (blanks_Phone.f k a0) (blanks_Phone.f (k + 1) a0) := by
 intro a0 k
 unfold blanks_Phone.f
 repeat' first
   | (with_reducible exact blanks_without_blanks_Phone_1.mono _ _ _)
   | (with_reducible exact LeO.refl _)
   | exact blanks_without_blanks_Phone_1.mono _ _ _
   | exact LeO.none _
   | refine LeO.ite ?_ ?_
   | refine LeO.bind ?_ (fun _ => ?_)
set_option maxHeartbeats 8000000 in
set_option maxRecDepth 100000 in
theorem blanks_Phone.calls (k : Nat) (A0 : Option Addr) (c0 : Nat) (l0 : List Int) (r : List Int) (w : World) (hr0 : Kd.C (Kd.int .i32) w A0 l0.length l0) (hc0 : l0.length ≤ c0) (h : blanks_Phone.f k l0 = some r) :
  Calls Try.prog 24 #[.slice A0 l0.length c0] w fun e w' => ∃ v0_ : Value, e = .returned (v0_) ∧ Kd.R (Kd.int .i32) 21 w' w.heap.size (fun _ => True) v0_ r ∧ Below w.heap.size w w' := by
 have HR0 := aM hr0
 have HC0 := aM hc0
 clear hr0 hc0
 have HB := aM (Below.refl w.heap.size w)
 have H := h
 clear h
 unfold blanks_Phone.f at H
 obtain ⟨t327, A2, H⟩ := zO H
 obtain rfl := sI H
 go_enter Try.func24, Try.ntmps24
 go_wp2_with (first | ((with_reducible refine gate_callee (f := 36) rfl ?_); refine goesL_ (some 4) rfl rfl Try.func36 zK rfl #[.slice A0 l0.length c0, .func (.func 38) #[] #[]] rfl zM ?_; (with_reducible refine (blanks_without_blanks_Phone_1.calls k _ _ l0 7770038 t327 _ ?side1 ?side2 A2.out).mono ?_); (case side1 => exact zC HR0.out); (case side2 => exact HC0.out); rintro e w3 ⟨v328, rfl, ho0, hb⟩; refine ⟨_, rfl, ?_⟩; have n_ := zI (aM (Kd.R_lower ho0 (below_size zB))) (aM (below_step zB hb)); clear HB; obtain ⟨HO329, HB⟩ := n_; (try clear hb); (try clear ho0)))
 go_ret
 exact ⟨_, zE, zR HO329, zB⟩

/-! ### blanks_edged: function 40 -/
def blanks_edged.f (l0 : List Int) (a1 : Bool) (a2 : Bool) : Option (List Int) := if a1 = true then (if ([] : List Int).length < 35184372088832 then ((some (([] : List Int) ++ [32] : List Int)).bind fun y330 => (if y330.length + l0.length < 35184372088832 then ((some (y330 ++ l0 : List Int)).bind fun y333 => (if a2 = true then (if y333.length < 35184372088832 then (some (y333 ++ [32])) else (none)) else (some y333))) else (none))) else (none)) else (if ([] : List Int).length + l0.length < 35184372088832 then ((some (([] : List Int) ++ l0 : List Int)).bind fun y339 => (if a2 = true then (if y339.length < 35184372088832 then (some (y339 ++ [32])) else (none)) else (some y339))) else (none))
set_option maxHeartbeats 8000000 in
set_option maxRecDepth 100000 in
theorem blanks_edged.calls (A0 : Option Addr) (c0 : Nat) (l0 : List Int) (a1 : Bool) (a2 : Bool) (r : List Int) (w : World) (hr0 : Kd.C (Kd.int .i32) w A0 l0.length l0) (hc0 : l0.length ≤ c0) (h : blanks_edged.f l0 a1 a2 = some r) :
  Calls Try.prog 40 #[.slice A0 l0.length c0, .bool a1, .bool a2] w fun e w' => ∃ v0_ : Value, e = .returned (v0_) ∧ Kd.R (Kd.int .i32) 21 w' w.heap.size (fun _ => True) v0_ r ∧ Below w.heap.size w w' := by
 have HR0 := aM hr0
 have HC0 := aM hc0
 clear hr0 hc0
 have HB := aM (Below.refl w.heap.size w)
 have H := h
 clear h
 unfold blanks_edged.f at H
 by_cases c4 : a1 = true
 ·subst c4
  rw [if_pos rfl] at H
  by_cases c5 : ([] : List Int).length < 35184372088832
  ·rw [if_pos c5] at H
   have LMc5 := aM c5
   clear c5
   obtain ⟨y330, hy330⟩ : ∃ y_ : List Int, y_ = (([] : List Int) ++ [32]) := ⟨_, rfl⟩
   replace H : (if y330.length + l0.length < 35184372088832 then ((some (y330 ++ l0 : List Int)).bind fun y333 => (if a2 = true then (if y333.length < 35184372088832 then (some (y333 ++ [32])) else (none)) else (some y333))) else (none)) = some r := zY hy330 H
   have Ny330 := aM hy330
   clear hy330
   by_cases c6 : y330.length + l0.length < 35184372088832
   ·rw [if_pos c6] at H
    have LMc6 := aM c6
    clear c6
    obtain ⟨y333, hy333⟩ : ∃ y_ : List Int, y_ = (y330 ++ l0) := ⟨_, rfl⟩
    replace H : (if a2 = true then (if y333.length < 35184372088832 then (some (y333 ++ [32])) else (none)) else (some y333)) = some r := zY hy333 H
    have Ny333 := aM hy333
    clear hy333
    by_cases c7 : a2 = true
    ·subst c7
     rw [if_pos rfl] at H
     by_cases c8 : y333.length < 35184372088832
     ·rw [if_pos c8] at H
      have LMc8 := aM c8
      clear c8
      obtain ⟨y336, hy336⟩ : ∃ y_ : List Int, y_ = (y333 ++ [32]) := ⟨_, rfl⟩
      replace H : (some y336) = some r := zY hy336 H
      have Ny336 := aM hy336
      clear hy336
      obtain rfl := sI H
      go_enter Try.func40, Try.ntmps40
      go_wp2_with (first | ((with_reducible refine gate_builtin (b := .append) (xs := #[.tmp 9, .tmp 10]) rfl ?_); at_builtin; refine Kd.R_append (Kd.int .i32) (w0 := w) w.heap.size rfl (.tmp 9) (.tmp 10) 34 21 (.int .i32 0) 4 rfl Try.underlying34 info21 rfl (by decide) (by omega) (.slice none 0 0) ([] : List Int) 32 [.int .i32 32] (fun _ => True) (fun _ => False) rfl rfl ?aP (fun _ hk => hk.elim) ?aF ?aO ?aB ?aS ?aL ?_; (case aP => exact rfl); (case aB => exact zB); (case aF => exact (fun _ _ => trivial)); (case aO => exact ((Kd.R_nil _ _ _ _ (fun _ => True)))); (case aS => exact (below_size zB)); (case aL => have := LMc5.out; omega); intro v331 w9 ho hb hg hat; rw [← Ny330.out] at ho; have n_ := zI (aM (hb)) (aM (ho)); clear HB; obtain ⟨HB, HO332⟩ := n_; clear ho hb hg hat) | ((with_reducible refine gate_builtin (b := .append) (xs := #[.tmp 12, .tmp 13]) rfl ?_); at_builtin; refine Kd.R_append_rows (Kd.int .i32) (w0 := w) w.heap.size rfl (.tmp 12) (.tmp 13) 34 21 (.int .i32 0) 4 rfl Try.underlying34 info21 rfl (by decide) (by omega) v331 y330 l0 _ _ _ (fun _ => True) (fun _ => False) rfl rfl ?aO ?aR (fun _ _ h => h) (fun _ h => h.elim) ?aF ?aB ?aS ?aL ?_; (case aR => repeat (first | exact (Kd.C_below HR0.out HB.out) | (with_reducible refine Kd.C_alloc ?_ _) | (with_reducible refine Kd.C_drewN ?_ _) | (with_reducible refine Kd.C_drew ?_))); (case aB => exact zB); (case aF => exact (fun _ _ => trivial)); (case aO => exact (zR HO332)); (case aS => exact (below_size zB)); (case aL => have := LMc6.out; omega); intro v334 w10 ho hb hg hat; rw [← Ny333.out] at ho; have n_ := zI (aM (hb)) (aM (ho)); clear HB HO332; obtain ⟨HB, HO335⟩ := n_; clear ho hb hg hat) | ((with_reducible refine gate_builtin (b := .append) (xs := #[.tmp 16, .tmp 17]) rfl ?_); at_builtin; refine Kd.R_append (Kd.int .i32) (w0 := w) w.heap.size rfl (.tmp 16) (.tmp 17) 34 21 (.int .i32 0) 4 rfl Try.underlying34 info21 rfl (by decide) (by omega) v334 y333 32 [.int .i32 32] (fun _ => True) (fun _ => False) rfl rfl ?aP (fun _ hk => hk.elim) ?aF ?aO ?aB ?aS ?aL ?_; (case aP => exact rfl); (case aB => exact zB); (case aF => exact (fun _ _ => trivial)); (case aO => exact (zR HO335)); (case aS => exact (below_size zB)); (case aL => have := LMc8.out; omega); intro v337 w11 ho hb hg hat; rw [← Ny336.out] at ho; have n_ := zI (aM (hb)) (aM (ho)); clear HB HO335; obtain ⟨HB, HO338⟩ := n_; clear ho hb hg hat))
      go_ret
      exact ⟨_, zE, zR HO338, zB⟩
     ·rw [if_neg c8] at H
      exact absurd H (by simp)
    ·replace c7 := Bool.eq_false_iff.mpr c7
     subst c7
     rw [if_neg (show ¬ (false = true) by decide)] at H
     obtain rfl := sI H
     go_enter Try.func40, Try.ntmps40
     go_wp2_with (first | ((with_reducible refine gate_builtin (b := .append) (xs := #[.tmp 9, .tmp 10]) rfl ?_); at_builtin; refine Kd.R_append (Kd.int .i32) (w0 := w) w.heap.size rfl (.tmp 9) (.tmp 10) 34 21 (.int .i32 0) 4 rfl Try.underlying34 info21 rfl (by decide) (by omega) (.slice none 0 0) ([] : List Int) 32 [.int .i32 32] (fun _ => True) (fun _ => False) rfl rfl ?aP (fun _ hk => hk.elim) ?aF ?aO ?aB ?aS ?aL ?_; (case aP => exact rfl); (case aB => exact zB); (case aF => exact (fun _ _ => trivial)); (case aO => exact ((Kd.R_nil _ _ _ _ (fun _ => True)))); (case aS => exact (below_size zB)); (case aL => have := LMc5.out; omega); intro v331 w12 ho hb hg hat; rw [← Ny330.out] at ho; have n_ := zI (aM (hb)) (aM (ho)); clear HB; obtain ⟨HB, HO332⟩ := n_; clear ho hb hg hat) | ((with_reducible refine gate_builtin (b := .append) (xs := #[.tmp 12, .tmp 13]) rfl ?_); at_builtin; refine Kd.R_append_rows (Kd.int .i32) (w0 := w) w.heap.size rfl (.tmp 12) (.tmp 13) 34 21 (.int .i32 0) 4 rfl Try.underlying34 info21 rfl (by decide) (by omega) v331 y330 l0 _ _ _ (fun _ => True) (fun _ => False) rfl rfl ?aO ?aR (fun _ _ h => h) (fun _ h => h.elim) ?aF ?aB ?aS ?aL ?_; (case aR => repeat (first | exact (Kd.C_below HR0.out HB.out) | (with_reducible refine Kd.C_alloc ?_ _) | (with_reducible refine Kd.C_drewN ?_ _) | (with_reducible refine Kd.C_drew ?_))); (case aB => exact zB); (case aF => exact (fun _ _ => trivial)); (case aO => exact (zR HO332)); (case aS => exact (below_size zB)); (case aL => have := LMc6.out; omega); intro v334 w13 ho hb hg hat; rw [← Ny333.out] at ho; have n_ := zI (aM (hb)) (aM (ho)); clear HB HO332; obtain ⟨HB, HO335⟩ := n_; clear ho hb hg hat))
     go_ret
     exact ⟨_, zE, zR HO335, zB⟩
   ·rw [if_neg c6] at H
    exact absurd H (by simp)
  ·rw [if_neg c5] at H
   exact absurd H (by simp)
 ·replace c4 := Bool.eq_false_iff.mpr c4
  subst c4
  rw [if_neg (show ¬ (false = true) by decide)] at H
  by_cases c14 : ([] : List Int).length + l0.length < 35184372088832
  ·rw [if_pos c14] at H
   have LMc14 := aM c14
   clear c14
   obtain ⟨y339, hy339⟩ : ∃ y_ : List Int, y_ = (([] : List Int) ++ l0) := ⟨_, rfl⟩
   replace H : (if a2 = true then (if y339.length < 35184372088832 then (some (y339 ++ [32])) else (none)) else (some y339)) = some r := zY hy339 H
   have Ny339 := aM hy339
   clear hy339
   by_cases c15 : a2 = true
   ·subst c15
    rw [if_pos rfl] at H
    by_cases c16 : y339.length < 35184372088832
    ·rw [if_pos c16] at H
     have LMc16 := aM c16
     clear c16
     obtain ⟨y342, hy342⟩ : ∃ y_ : List Int, y_ = (y339 ++ [32]) := ⟨_, rfl⟩
     replace H : (some y342) = some r := zY hy342 H
     have Ny342 := aM hy342
     clear hy342
     obtain rfl := sI H
     go_enter Try.func40, Try.ntmps40
     go_wp2_with (first | ((with_reducible refine gate_builtin (b := .append) (xs := #[.tmp 12, .tmp 13]) rfl ?_); at_builtin; refine Kd.R_append_rows (Kd.int .i32) (w0 := w) w.heap.size rfl (.tmp 12) (.tmp 13) 34 21 (.int .i32 0) 4 rfl Try.underlying34 info21 rfl (by decide) (by omega) (.slice none 0 0) ([] : List Int) l0 _ _ _ (fun _ => True) (fun _ => False) rfl rfl ?aO ?aR (fun _ _ h => h) (fun _ h => h.elim) ?aF ?aB ?aS ?aL ?_; (case aR => repeat (first | exact HR0.out | (with_reducible refine Kd.C_alloc ?_ _) | (with_reducible refine Kd.C_drewN ?_ _) | (with_reducible refine Kd.C_drew ?_))); (case aB => exact zB); (case aF => exact (fun _ _ => trivial)); (case aO => exact ((Kd.R_nil _ _ _ _ (fun _ => True)))); (case aS => exact (below_size zB)); (case aL => have := LMc14.out; omega); intro v340 w17 ho hb hg hat; rw [← Ny339.out] at ho; have n_ := zI (aM (hb)) (aM (ho)); clear HB; obtain ⟨HB, HO341⟩ := n_; clear ho hb hg hat) | ((with_reducible refine gate_builtin (b := .append) (xs := #[.tmp 16, .tmp 17]) rfl ?_); at_builtin; refine Kd.R_append (Kd.int .i32) (w0 := w) w.heap.size rfl (.tmp 16) (.tmp 17) 34 21 (.int .i32 0) 4 rfl Try.underlying34 info21 rfl (by decide) (by omega) v340 y339 32 [.int .i32 32] (fun _ => True) (fun _ => False) rfl rfl ?aP (fun _ hk => hk.elim) ?aF ?aO ?aB ?aS ?aL ?_; (case aP => exact rfl); (case aB => exact zB); (case aF => exact (fun _ _ => trivial)); (case aO => exact (zR HO341)); (case aS => exact (below_size zB)); (case aL => have := LMc16.out; omega); intro v343 w18 ho hb hg hat; rw [← Ny342.out] at ho; have n_ := zI (aM (hb)) (aM (ho)); clear HB HO341; obtain ⟨HB, HO344⟩ := n_; clear ho hb hg hat))
     go_ret
     exact ⟨_, zE, zR HO344, zB⟩
    ·rw [if_neg c16] at H
     exact absurd H (by simp)
   ·replace c15 := Bool.eq_false_iff.mpr c15
    subst c15
    rw [if_neg (show ¬ (false = true) by decide)] at H
    obtain rfl := sI H
    go_enter Try.func40, Try.ntmps40
    go_wp2_with (first | ((with_reducible refine gate_builtin (b := .append) (xs := #[.tmp 12, .tmp 13]) rfl ?_); at_builtin; refine Kd.R_append_rows (Kd.int .i32) (w0 := w) w.heap.size rfl (.tmp 12) (.tmp 13) 34 21 (.int .i32 0) 4 rfl Try.underlying34 info21 rfl (by decide) (by omega) (.slice none 0 0) ([] : List Int) l0 _ _ _ (fun _ => True) (fun _ => False) rfl rfl ?aO ?aR (fun _ _ h => h) (fun _ h => h.elim) ?aF ?aB ?aS ?aL ?_; (case aR => repeat (first | exact HR0.out | (with_reducible refine Kd.C_alloc ?_ _) | (with_reducible refine Kd.C_drewN ?_ _) | (with_reducible refine Kd.C_drew ?_))); (case aB => exact zB); (case aF => exact (fun _ _ => trivial)); (case aO => exact ((Kd.R_nil _ _ _ _ (fun _ => True)))); (case aS => exact (below_size zB)); (case aL => have := LMc14.out; omega); intro v340 w19 ho hb hg hat; rw [← Ny339.out] at ho; have n_ := zI (aM (hb)) (aM (ho)); clear HB; obtain ⟨HB, HO341⟩ := n_; clear ho hb hg hat))
    go_ret
    exact ⟨_, zE, zR HO341, zB⟩
  ·rw [if_neg c14] at H
   exact absurd H (by simp)

/-! ### blanks_joined: function 41 -/
def blanks_joined.l0 : Nat → List Int → List (List Int) → Int → Int → Option (List Int)
 | 0, _, _, _, _ => none
 | k + 1, x3, x6, x7, x8 => if x8 < x7 then (if 0 ≤ x8 then (if x8 < (x6.length : Int) then (if x8 > 0 then ((some (([32, 32] : List Int) : List Int)).bind fun y346 => (if x3.length + y346.length < 35184372088832 then ((some (x3 ++ y346 : List Int)).bind fun y349 => (if y349.length + (rd_L4 x6 x8).length < 35184372088832 then (blanks_joined.l0 k (y349 ++ (rd_L4 x6 x8)) x6 x7 (wrap64 (x8 + 1))) else (none))) else (none))) else (if x3.length + (rd_L4 x6 x8).length < 35184372088832 then (blanks_joined.l0 k (x3 ++ (rd_L4 x6 x8)) x6 x7 (wrap64 (x8 + 1))) else (none))) else (none)) else (none)) else (some x3)
def blanks_joined.f (k : Nat) (l0 : List (List Int)) : Option (List Int) := blanks_joined.l0 k ([] : List Int) l0 (l0.length : Int) 0
theorem blanks_joined.mono_l : ∀ k, (∀ y0 y1 y2 y3, LeO (blanks_joined.l0 k y0 y1 y2 y3) (blanks_joined.l0 (k + 1) y0 y1 y2 y3))
 | 0 => fun _ _ _ _ r h => by simp [blanks_joined.l0] at h
 | k + 1 => by
  have ih0 := blanks_joined.mono_l k
  ·intro y0 y1 y2 y3
   unfold blanks_joined.l0
   repeat' first
   | (with_reducible exact ih0 _ _ _ _)
   | (with_reducible exact LeO.refl _)
   | exact ih0 _ _ _ _
   | exact LeO.none _
   | refine LeO.ite ?_ ?_
   | refine LeO.bind ?_ (fun _ => ?_)
theorem blanks_joined.mono : ∀ a0 k, LeO (blanks_joined.f k a0) (blanks_joined.f (k + 1) a0) := by
 intro a0 k
 have ih0 := blanks_joined.mono_l k
 unfold blanks_joined.f
 repeat' first
   | (with_reducible exact ih0 _ _ _ _)
   | (with_reducible exact LeO.refl _)
   | exact ih0 _ _ _ _
   | exact LeO.none _
   | refine LeO.ite ?_ ?_
   | refine LeO.bind ?_ (fun _ => ?_)
set_option maxHeartbeats 8000000 in
set_option maxRecDepth 100000 in
theorem blanks_joined.calls (k : Nat) (A0 : Option Addr) (c0 : Nat) (l0 : List (List Int)) (r : List Int) (w : World) (hr0 : Kd.C (Kd.slice 21 (Kd.int .i32)) w A0 l0.length l0) (hc0 : l0.length ≤ c0) (h : blanks_joined.f k l0 = some r) :
  Calls Try.prog 41 #[.slice A0 l0.length c0] w fun e w' => ∃ v0_ : Value, e = .returned (v0_) ∧ Kd.R (Kd.int .i32) 21 w' w.heap.size (fun _ => True) v0_ r ∧ Below w.heap.size w w' := by
 have HR0 := aM hr0
 have HC0 := aM hc0
 clear hr0 hc0
 have HB := aM (Below.refl w.heap.size w)
 have H := h
 clear h
 unfold blanks_joined.f at H
 have H' := aM H
 clear H
 go_enter Try.func41, Try.ntmps41
 go_wp2
 go_loopg [3, 8] k (fun kq v3 v8 w' => ∃ (x3_1 : List Int) (x8_1 : Int), v8 = .int .i64 x8_1 ∧ Aside0 (blanks_joined.l0 kq x3_1 l0 (l0.length : Int) x8_1 = some r) ∧ Aside0 (kq ≤ k) ∧ Aside0 (Kd.R (Kd.int .i32) 21 w' w.heap.size (fun _ => True) v3 x3_1) ∧ Aside0 (Below w.heap.size w w'))
 case atStart => exact ⟨(([] : List Int)), (0), zP, H', ⟨Nat.le_refl _⟩, ⟨zL⟩, ⟨zB⟩⟩
 case round =>
  clear H'
  obtain ⟨x3_1, x8_1, rfl, HA, HK1, HO_3, HB⟩ := hrel
  cases gk with
  | zero => exact absurd HA.out (by simp [blanks_joined.l0])
  | succ k1 =>
   have H := HA.out
   clear HA
   simp only [blanks_joined.l0] at H
   by_cases c2 : x8_1 < (l0.length : Int)
   ·rw [if_pos c2] at H
    have c2b0 : decide (x8_1 < (l0.length : Int)) = true := decide_eq_true c2
    clear c2
    by_cases c3 : 0 ≤ x8_1
    ·rw [if_pos c3] at H
     have c3b0 : decide (0 ≤ x8_1) = true := decide_eq_true c3
     clear c3
     by_cases c4 : x8_1 < (l0.length : Int)
     ·rw [if_pos c4] at H
      have c4b0 : decide (x8_1 < (l0.length : Int)) = true := decide_eq_true c4
      clear c4
      by_cases c5 : x8_1 > 0
      ·rw [if_pos c5] at H
       have c5b0 : decide (0 < x8_1) = true := decide_eq_true c5
       clear c5
       obtain ⟨y346, hy346⟩ : ∃ y_ : List Int, y_ = (([32, 32] : List Int)) := ⟨_, rfl⟩
       replace H : (if x3_1.length + y346.length < 35184372088832 then ((some (x3_1 ++ y346 : List Int)).bind fun y349 => (if y349.length + (rd_L4 l0 x8_1).length < 35184372088832 then (blanks_joined.l0 k1 (y349 ++ (rd_L4 l0 x8_1)) l0 (l0.length : Int) (wrap64 (x8_1 + 1))) else (none))) else (none)) = some r := zY hy346 H
       have Ny346 := aM hy346
       clear hy346
       by_cases c6 : x3_1.length + y346.length < 35184372088832
       ·rw [if_pos c6] at H
        have LMc6 := aM c6
        clear c6
        obtain ⟨y349, hy349⟩ : ∃ y_ : List Int, y_ = (x3_1 ++ y346) := ⟨_, rfl⟩
        replace H : (if y349.length + (rd_L4 l0 x8_1).length < 35184372088832 then (blanks_joined.l0 k1 (y349 ++ (rd_L4 l0 x8_1)) l0 (l0.length : Int) (wrap64 (x8_1 + 1))) else (none)) = some r := zY hy349 H
        have Ny349 := aM hy349
        clear hy349
        by_cases c7 : y349.length + (rd_L4 l0 x8_1).length < 35184372088832
        ·rw [if_pos c7] at H
         have LMc7 := aM c7
         clear c7
         obtain ⟨y352, hy352⟩ : ∃ y_ : List Int, y_ = (y349 ++ (rd_L4 l0 x8_1)) := ⟨_, rfl⟩
         replace H : (blanks_joined.l0 k1 y352 l0 (l0.length : Int) (wrap64 (x8_1 + 1))) = some r := zY hy352 H
         have Ny352 := aM hy352
         clear hy352
         have H' := aM H
         clear H
         have p345 : 0 ≤ (x8_1 : Int) := zoA
         have q345 : x8_1 < (l0.length : Int) := zoA
         obtain ⟨ad345, A345_0, c345_0, e345, hx345_0, hl345_0, hi345_0⟩ := at_L4 HR0.out x8_1 p345 q345
         cases e345
         replace hx345_0 := (HB.out.cell (World.block_lt_of_cell? w _ hx345_0)).trans hx345_0
         have HR345_0 := aM hi345_0
         have HC345_0 := aM hl345_0
         clear hi345_0 hl345_0
         replace p345 := eq_true p345
         replace q345 := eq_true q345
         go_wp2_with (first | ((with_reducible refine gate_dst (N := 16) rfl ?_); refine Kd.R_lit (Kd.int .i32) _ 21 ?hg (N := 16) ?hd (xs := ([32, 32] : List Int)) (inner := [.int .i32 32, .int .i32 32]) (ok := fun _ => True) (okp := fun _ => True) ?hr ?hp (fun _ hk => hk) trivial (Below.refl _ _) (Nat.le_refl _) (by simp) ?_; (case hd => rfl); (case hg => rfl); (case hr => first | (go_simp; done) | (go_simp; rfl)); (case hp => exact (Reps.one (show Kd.M (Kd.int .i32) _ _ _ 32 [.int .i32 32] from rfl) (Reps.one (show Kd.M (Kd.int .i32) _ _ _ 32 [.int .i32 32] from rfl) (Reps.none _ _)))); intro v347 w8 ho9 hb hg_ hnew_; clear hg_ hnew_; (first | rw [← Ny346.out] at ho9 | (simp only [Int.reduceToNat] at ho9; rw [← Ny346.out] at ho9)); have n_ := zI (aM (Kd.R_elder' (zR HO_3) (Kd.R_base ho9) hb)) (zI (aM (Kd.R_lower (Kd.R_new' ho9 (Kd.R_lt (zR HO_3))) (below_size zB))) (aM (below_step zB hb))); clear HO_3 HB; obtain ⟨HO_3, HO348, HB⟩ := n_; clear hb ho9; obtain ⟨Ao11, co11, rfl⟩ := Kd.R_slice HO348.out) | ((with_reducible refine gate_builtin (b := .append) (xs := #[.tmp 15, .tmp 16]) rfl ?_); at_builtin; refine Kd.R_append_rows (Kd.int .i32) (w0 := w) w.heap.size rfl (.tmp 15) (.tmp 16) 34 21 (.int .i32 0) 4 rfl Try.underlying34 info21 rfl (by decide) (by omega) u3 x3_1 y346 _ _ _ (fun k_ => some k_ ≠ (.slice Ao11 y346.length co11 : Value).ownBlock) (fun _ => False) rfl rfl ?aO ?aR (fun _ _ h => h) (fun _ h => h.elim) ?aF ?aB ?aS ?aL ?_; (case aR => repeat (first | exact (Kd.R_reads' HO348.out).2.2 | (with_reducible refine Kd.C_alloc ?_ _) | (with_reducible refine Kd.C_drewN ?_ _) | (with_reducible refine Kd.C_drew ?_))); (case aB => exact zB); (case aF => exact (fun k_ hk => Kd.fresh' (Kd.R_lt (zR HO348)) k_ hk)); (case aO => exact (by (with_reducible repeat (first | apply Kd.R_alloc | apply Kd.R_drewN | apply Kd.R_drew)); exact Kd.R_mono HO_3.out (fun _ hk => hk.2))); (case aS => exact (below_size zB)); (case aL => have := LMc6.out; omega); intro v350 w10 ho hb hg hat; rw [← Ny349.out] at ho; have n_ := zI (aM (Kd.R_after (ok := (fun _ => True)) (zR HO348) hg hat)) (zI (aM (hb)) (aM (ho))); clear HO348 HB HO_3; obtain ⟨HO348, HB, HO351⟩ := n_; clear ho hb hg hat) | ((with_reducible refine gate_builtin (b := .append) (xs := #[.tmp 18, .tmp 19]) rfl ?_); at_builtin; refine Kd.R_append_rows (Kd.int .i32) (w0 := w) w.heap.size rfl (.tmp 18) (.tmp 19) 34 21 (.int .i32 0) 4 rfl Try.underlying34 info21 rfl (by decide) (by omega) v350 y349 (rd_L4 l0 x8_1) _ _ _ (fun k_ => some k_ ≠ (.slice Ao11 y346.length co11 : Value).ownBlock) (fun _ => False) rfl rfl ?aO ?aR (fun _ _ h => h) (fun _ h => h.elim) ?aF ?aB ?aS ?aL ?_; (case aR => repeat (first | exact (Kd.C_below HR345_0.out HB.out) | (with_reducible refine Kd.C_alloc ?_ _) | (with_reducible refine Kd.C_drewN ?_ _) | (with_reducible refine Kd.C_drew ?_))); (case aB => exact zB); (case aF => exact (fun k_ hk => Kd.fresh' (Kd.R_lt (zR HO348)) k_ hk)); (case aO => exact (zR HO351)); (case aS => exact (below_size zB)); (case aL => have := LMc7.out; omega); intro v353 w12 ho hb hg hat; rw [← Ny352.out] at ho; have n_ := zI (aM (Kd.R_after (ok := (fun _ => True)) (zR HO348) hg hat)) (zI (aM (hb)) (aM (ho))); clear HO348 HB HO351; obtain ⟨HO348, HB, HO354⟩ := n_; clear ho hb hg hat))
         go_roundg k1
         case measure => have := HK1.out; omega
         case rel => exact ⟨(y352), (wrap64 (x8_1 + 1)), zP, H', ⟨by have := HK1.out; omega⟩, ⟨by (with_reducible repeat (first | apply Kd.R_alloc | apply Kd.R_drewN | apply Kd.R_drew)); exact Kd.R_mono HO354.out (fun _ hk => trivial)⟩, ⟨zB⟩⟩
        ·rw [if_neg c7] at H
         exact absurd H (by simp)
       ·rw [if_neg c6] at H
        exact absurd H (by simp)
      ·rw [if_neg c5] at H
       have c5b0 : decide (0 < x8_1) = false := decide_eq_false c5
       clear c5
       by_cases c13 : x3_1.length + (rd_L4 l0 x8_1).length < 35184372088832
       ·rw [if_pos c13] at H
        have LMc13 := aM c13
        clear c13
        obtain ⟨y355, hy355⟩ : ∃ y_ : List Int, y_ = (x3_1 ++ (rd_L4 l0 x8_1)) := ⟨_, rfl⟩
        replace H : (blanks_joined.l0 k1 y355 l0 (l0.length : Int) (wrap64 (x8_1 + 1))) = some r := zY hy355 H
        have Ny355 := aM hy355
        clear hy355
        have H' := aM H
        clear H
        have p345 : 0 ≤ (x8_1 : Int) := zoA
        have q345 : x8_1 < (l0.length : Int) := zoA
        obtain ⟨ad345, A345_0, c345_0, e345, hx345_0, hl345_0, hi345_0⟩ := at_L4 HR0.out x8_1 p345 q345
        cases e345
        replace hx345_0 := (HB.out.cell (World.block_lt_of_cell? w _ hx345_0)).trans hx345_0
        have HR345_0 := aM hi345_0
        have HC345_0 := aM hl345_0
        clear hi345_0 hl345_0
        replace p345 := eq_true p345
        replace q345 := eq_true q345
        go_wp2_with (first | ((with_reducible refine gate_builtin (b := .append) (xs := #[.tmp 18, .tmp 19]) rfl ?_); at_builtin; refine Kd.R_append_rows (Kd.int .i32) (w0 := w) w.heap.size rfl (.tmp 18) (.tmp 19) 34 21 (.int .i32 0) 4 rfl Try.underlying34 info21 rfl (by decide) (by omega) u3 x3_1 (rd_L4 l0 x8_1) _ _ _ (fun _ => True) (fun _ => False) rfl rfl ?aO ?aR (fun _ _ h => h) (fun _ h => h.elim) ?aF ?aB ?aS ?aL ?_; (case aR => repeat (first | exact (Kd.C_below HR345_0.out HB.out) | (with_reducible refine Kd.C_alloc ?_ _) | (with_reducible refine Kd.C_drewN ?_ _) | (with_reducible refine Kd.C_drew ?_))); (case aB => exact zB); (case aF => exact (fun _ _ => trivial)); (case aO => exact (zR HO_3)); (case aS => exact (below_size zB)); (case aL => have := LMc13.out; omega); intro v356 w14 ho hb hg hat; rw [← Ny355.out] at ho; have n_ := zI (aM (hb)) (aM (ho)); clear HB HO_3; obtain ⟨HB, HO357⟩ := n_; clear ho hb hg hat))
        go_roundg k1
        case measure => have := HK1.out; omega
        case rel => exact ⟨(y355), (wrap64 (x8_1 + 1)), zP, H', ⟨by have := HK1.out; omega⟩, ⟨zR HO357⟩, ⟨zB⟩⟩
       ·rw [if_neg c13] at H
        exact absurd H (by simp)
     ·rw [if_neg c4] at H
      exact absurd H (by simp)
    ·rw [if_neg c3] at H
     exact absurd H (by simp)
   ·rw [if_neg c2] at H
    have c2b0 : decide (x8_1 < (l0.length : Int)) = false := decide_eq_false c2
    clear c2
    obtain rfl := sI H
    go_wp2
    go_ret
    exact ⟨_, zE, zR HO_3, zB⟩

/-! ### blanks_words: function 42 -/
mutual
def blanks_words.l0 : Nat → List Int → List (List Int) → Int → Option ((List (List Int)))
 | 0, _, _, _ => none
 | k + 1, x0, x3, x4 => blanks_words.l1 k x0 x3 x4
def blanks_words.l1 : Nat → List Int → List (List Int) → Int → Option ((List (List Int)))
 | 0, _, _, _ => none
 | k + 1, x0, x3, x4 => (blanks_Space.f k x0 x4).bind fun t358 => (if t358 = true then (blanks_words.l1 k x0 x3 (wrap64 (x4 + 1))) else (if x4 = (x0.length : Int) then (some x3) else (blanks_words.l2 k x0 x3 x4 x4)))
def blanks_words.l2 : Nat → List Int → List (List Int) → Int → Int → Option ((List (List Int)))
 | 0, _, _, _, _ => none
 | k + 1, x0, x3, x4, x5 => if x4 < (x0.length : Int) then ((blanks_Space.f k x0 x4).bind fun t359 => (if t359 = true then (if 0 ≤ x5 then (if x5 ≤ x4 then (if x4 ≤ (x0.length : Int) then (if x3.length < 5864062014805 then (blanks_words.l0 k x0 (x3 ++ [((x0.take (x4 : Int).toNat).drop (x5 : Int).toNat)]) x4) else (none)) else (none)) else (none)) else (none)) else (blanks_words.l2 k x0 x3 (wrap64 (x4 + 1)) x5))) else (if 0 ≤ x5 then (if x5 ≤ x4 then (if x4 ≤ (x0.length : Int) then (if x3.length < 5864062014805 then (blanks_words.l0 k x0 (x3 ++ [((x0.take (x4 : Int).toNat).drop (x5 : Int).toNat)]) x4) else (none)) else (none)) else (none)) else (none))
end
def blanks_words.f (k : Nat) (l0 : List Int) : Option ((List (List Int))) := blanks_words.l0 k l0 ([] : List (List Int)) 0
theorem blanks_words.mono_l : ∀ k, (∀ y0 y1 y2, LeO (blanks_words.l0 k y0 y1 y2) (blanks_words.l0 (k + 1) y0 y1 y2)) ∧ (∀ y0 y1 y2, LeO (blanks_words.l1 k y0 y1 y2) (blanks_words.l1 (k + 1) y0 y1 y2)) ∧ (∀ y0 y1 y2 y3, LeO (blanks_words.l2 k y0 y1 y2 y3) (blanks_words.l2 (k + 1) y0 y1 y2 y3))
 | 0 => ⟨fun _ _ _ r h => by simp [blanks_words.l0] at h, fun _ _ _ r h => by simp [blanks_words.l1] at h, fun _ _ _ _ r h => by simp [blanks_words.l2] at h⟩
 | k + 1 => by
  obtain ⟨ih0, ih1, ih2⟩ := blanks_words.mono_l k
  refine ⟨?_, ?_, ?_⟩
  ·intro y0 y1 y2
   unfold blanks_words.l0
   repeat' first
   | (with_reducible exact ih0 _ _ _)
   | (with_reducible exact ih1 _ _ _)
   | (with_reducible exact ih2 _ _ _ _)
   | (with_reducible exact blanks_Space.mono _ _ _)
   | (with_reducible exact LeO.refl _)
   | exact ih0 _ _ _
   | exact ih1 _ _ _
   | exact ih2 _ _ _ _
   | exact blanks_Space.mono _ _ _
   | exact LeO.none _
   | refine LeO.ite ?_ ?_
   | refine LeO.bind ?_ (fun _ => ?_)
  ·intro y0 y1 y2
   unfold blanks_words.l1
   repeat' first
   | (with_reducible exact ih0 _ _ _)
   | (with_reducible exact ih1 _ _ _)
   | (with_reducible exact ih2 _ _ _ _)
   | (with_reducible exact blanks_Space.mono _ _ _)
   | (with_reducible exact LeO.refl _)
   | exact ih0 _ _ _
   | exact ih1 _ _ _
   | exact ih2 _ _ _ _
   | exact blanks_Space.mono _ _ _
   | exact LeO.none _
   | refine LeO.ite ?_ ?_
   | refine LeO.bind ?_ (fun _ => ?_)
  ·intro y0 y1 y2 y3
   unfold blanks_words.l2
   repeat' first
   | (with_reducible exact ih0 _ _ _)
   | (with_reducible exact ih1 _ _ _)
   | (with_reducible exact ih2 _ _ _ _)
   | (with_reducible exact blanks_Space.mono _ _ _)
   | (with_reducible exact LeO.refl _)
   | exact ih0 _ _ _
   | exact ih1 _ _ _
   | exact ih2 _ _ _ _
   | exact blanks_Space.mono _ _ _
   | exact LeO.none _
   | refine LeO.ite ?_ ?_
   | refine LeO.bind ?_ (fun _ => ?_)
theorem blanks_words.mono : ∀ a0 k, LeO (blanks_words.f k a0) (blanks_words.f (k + 1) a0) := by
 intro a0 k
 obtain ⟨ih0, ih1, ih2⟩ := blanks_words.mono_l k
 unfold blanks_words.f
 repeat' first
   | (with_reducible exact ih0 _ _ _)
   | (with_reducible exact ih1 _ _ _)
   | (with_reducible exact ih2 _ _ _ _)
   | (with_reducible exact blanks_Space.mono _ _ _)
   | (with_reducible exact LeO.refl _)
   | exact ih0 _ _ _
   | exact ih1 _ _ _
   | exact ih2 _ _ _ _
   | exact blanks_Space.mono _ _ _
   | exact LeO.none _
   | refine LeO.ite ?_ ?_
   | refine LeO.bind ?_ (fun _ => ?_)
set_option maxHeartbeats 8000000 in
set_option maxRecDepth 100000 in
theorem blanks_words.calls (k : Nat) (P0_ : Nat → Prop) (A0 : Option Addr) (c0 : Nat) (l0 : List Int) (r : List (List Int)) (w : World) (hs0 : Kd.V (Kd.int .i32) 21 w w.heap.size (fun k_ => P0_ k_) (.slice A0 l0.length c0) l0) (h : blanks_words.f k l0 = some r) :
  Calls Try.prog 42 #[.slice A0 l0.length c0] w fun e w' => ∃ v0_ : Value, e = .returned (v0_) ∧ Kd.N (Kd.slice 21 (Kd.int .i32)) 34 w' w.heap.size (fun k_ => (P0_ k_ ∨ w.heap.size ≤ k_)) v0_ r ∧ Below w.heap.size w w' := by
 have HO0 := aM (show Kd.V (Kd.int .i32) 21 w w.heap.size (fun k_ => (P0_ k_ ∨ w.heap.size ≤ k_)) (.slice A0 l0.length c0) l0 from Kd.V_mono hs0 (fun k_ hk => .inl hk))
 have HB := aM (Below.refl w.heap.size w)
 have H := h
 clear h
 unfold blanks_words.f at H
 have H' := aM H
 clear H
 go_enter Try.func42, Try.ntmps42
 go_wp2
 refine wp_scope_back 0 rfl ?_
 go_wp2
 go_step3
 (try simp only [Exit.then])
 go_step
 refine wp_back_ghost (fun a0 kq a' w' => ∃ (u2 u3 u4 u5 u6 u7 u8 u9 u10 u11 u12 u13 u14 u15 u16 u17 u18 u19 u20 u21 u22 u23 u24 u25 u26 u27 u28 u29 u30 u31 u32 u33 u34 u35 : Value), (∃ (x3_1 : List (List Int)) (x4_1 : Int), u4 = .int .i64 x4_1 ∧ Aside0 (blanks_words.l0 kq l0 x3_1 x4_1 = some r) ∧ Aside0 (kq ≤ k) ∧ Aside0 (Kd.V (Kd.int .i32) 21 w' w.heap.size (fun k_ => (P0_ k_ ∨ w.heap.size ≤ k_) ∧ some k_ ≠ (u3 : Value).ownBlock) (.slice A0 l0.length c0) l0) ∧ Aside0 (Kd.N (Kd.slice 21 (Kd.int .i32)) 34 w' w.heap.size (fun k_ => (P0_ k_ ∨ w.heap.size ≤ k_)) u3 x3_1) ∧ Aside0 (Below w.heap.size w w')) ∧ a' = ⟨((((((((((((((((((((((((((((((((((a0.tmps.setIfInBounds 2 u2).setIfInBounds 3 u3).setIfInBounds 4 u4).setIfInBounds 5 u5).setIfInBounds 6 u6).setIfInBounds 7 u7).setIfInBounds 8 u8).setIfInBounds 9 u9).setIfInBounds 10 u10).setIfInBounds 11 u11).setIfInBounds 12 u12).setIfInBounds 13 u13).setIfInBounds 14 u14).setIfInBounds 15 u15).setIfInBounds 16 u16).setIfInBounds 17 u17).setIfInBounds 18 u18).setIfInBounds 19 u19).setIfInBounds 20 u20).setIfInBounds 21 u21).setIfInBounds 22 u22).setIfInBounds 23 u23).setIfInBounds 24 u24).setIfInBounds 25 u25).setIfInBounds 26 u26).setIfInBounds 27 u27).setIfInBounds 28 u28).setIfInBounds 29 u29).setIfInBounds 30 u30).setIfInBounds 31 u31).setIfInBounds 32 u32).setIfInBounds 33 u33).setIfInBounds 34 u34).setIfInBounds 35 u35), a0.defers⟩) k ?atStart ?round
 case' atStart => (repeat apply Exists.intro); refine ⟨?_, ?_⟩; rotate_left; (try simp only [List.setIfInBounds_toArray, List.set_cons_zero, List.set_cons_succ]); exact rfl
 case' round => intro gk _ wr hinv; obtain ⟨u2, u3, u4, u5, u6, u7, u8, u9, u10, u11, u12, u13, u14, u15, u16, u17, u18, u19, u20, u21, u22, u23, u24, u25, u26, u27, u28, u29, u30, u31, u32, u33, u34, u35, hrel, ha⟩ := hinv; subst ha; (try simp only [List.setIfInBounds_toArray, List.set_cons_zero, List.set_cons_succ]); intro J_ K_ hJ_ hK_
 case atStart => exact ⟨(([] : List (List Int))), (0), zP, H', ⟨Nat.le_refl _⟩, ⟨by (with_reducible repeat (first | apply Kd.V_alloc | apply Kd.V_drewN | apply Kd.V_drew)); exact Kd.V_mono HO0.out (fun _ hk => ⟨hk, (by simp [Value.ownBlock])⟩)⟩, ⟨by first | exact Kd.S_nil _ _ _ _ _ | exact Kd.N_nil _ _ _ _ _ | exact Kd.V_nil _ _ _ _ _ | exact Kd.Q_nil _ _ _ _ _ | exact Kd.R_nil _ _ _ _ _⟩, ⟨zB⟩⟩
 case round =>
  clear H'
  obtain ⟨x3_1, x4_1, rfl, HA, HK1, HO_0, HO_3, HB⟩ := hrel
  cases gk with
  | zero => exact absurd HA.out (by simp [blanks_words.l0])
  | succ k1 =>
   have H := HA.out
   clear HA
   simp only [blanks_words.l0] at H
   have H' := aM H
   clear H
   go_wp2
   go_loopg [4] k1 (fun kq v4 w' => ∃ (x4_2 : Int), v4 = .int .i64 x4_2 ∧ Aside0 (blanks_words.l1 kq l0 x3_1 x4_2 = some r) ∧ Aside0 (kq ≤ k1) ∧ Aside0 (Kd.V (Kd.int .i32) 21 w' w.heap.size (fun k_ => (P0_ k_ ∨ w.heap.size ≤ k_) ∧ some k_ ≠ (u3 : Value).ownBlock) (.slice A0 l0.length c0) l0) ∧ Aside0 (Kd.N (Kd.slice 21 (Kd.int .i32)) 34 w' w.heap.size (fun k_ => (P0_ k_ ∨ w.heap.size ≤ k_)) u3 x3_1) ∧ Aside0 (Below w.heap.size w w'))
   case atStart => exact ⟨(x4_1), zP, H', ⟨Nat.le_refl _⟩, ⟨zV HO_0⟩, ⟨zN HO_3⟩, ⟨zB⟩⟩
   case round =>
    clear H'
    obtain ⟨x4_2, rfl, HA, HK2, HO_0, HO_3, HB⟩ := hrel
    cases gk with
    | zero => exact absurd HA.out (by simp [blanks_words.l1])
    | succ k2 =>
     have H := HA.out
     clear HA
     simp only [blanks_words.l1] at H
     obtain ⟨t358, A2, H⟩ := zO H
     by_cases c3 : t358 = true
     ·subst c3
      rw [if_pos rfl] at H
      have H' := aM H
      clear H
      go_wp2_with (first | ((with_reducible refine gate_callee (f := 37) rfl ?_); refine goesL_ (some 8) rfl rfl Try.func37 zK rfl #[.slice A0 l0.length c0, .int .i64 x4_2] rfl zM ?_; (with_reducible refine (blanks_Space.calls k2 _ _ l0 x4_2 true _ ?side1 ?side2 A2.out).mono ?_); (case side1 => exact zC (Kd.V_reads' HO_0.out).2.2); (case side2 => exact (Kd.V_reads' HO_0.out).2.1); rintro e w4 ⟨rfl, hb⟩; (try clear A2); refine ⟨_, rfl, ?_⟩; have n_ := zI (aM (Kd.V_below (zV HO_0) hb)) (zI (aM (Kd.N_below (zN HO_3) hb)) (aM (below_step zB hb))); clear HO_0 HO_3 HB; obtain ⟨HO_0, HO_3, HB⟩ := n_; (try clear hb)))
      go_roundg k2
      case measure => have := HK1.out; have := HK2.out; omega
      case rel => exact ⟨(wrap64 (x4_2 + 1)), zP, H', ⟨by have := HK1.out; have := HK2.out; omega⟩, ⟨zV HO_0⟩, ⟨zN HO_3⟩, ⟨zB⟩⟩
     ·replace c3 := Bool.eq_false_iff.mpr c3
      subst c3
      rw [if_neg (show ¬ (false = true) by decide)] at H
      by_cases c5 : x4_2 = (l0.length : Int)
      ·rw [if_pos c5] at H
       have c5b0 : (x4_2 == (l0.length : Int)) = true := beq_iff_eq.mpr c5
       have c5b1 : (x4_2 != (l0.length : Int)) = false := bne_eq_false_iff_eq.mpr c5
       clear c5
       obtain rfl := sI H
       go_wp2_with (first | ((with_reducible refine gate_callee (f := 37) rfl ?_); refine goesL_ (some 8) rfl rfl Try.func37 zK rfl #[.slice A0 l0.length c0, .int .i64 x4_2] rfl zM ?_; (with_reducible refine (blanks_Space.calls k2 _ _ l0 x4_2 false _ ?side1 ?side2 A2.out).mono ?_); (case side1 => exact zC (Kd.V_reads' HO_0.out).2.2); (case side2 => exact (Kd.V_reads' HO_0.out).2.1); rintro e w6 ⟨rfl, hb⟩; (try clear A2); refine ⟨_, rfl, ?_⟩; have n_ := zI (aM (Kd.V_below (zV HO_0) hb)) (zI (aM (Kd.N_below (zN HO_3) hb)) (aM (below_step zB hb))); clear HO_0 HO_3 HB; obtain ⟨HO_0, HO_3, HB⟩ := n_; (try clear hb)))
       (try rw [Exit.noGoto_ret])
       go_ret
       exact ⟨_, zE, zN HO_3, zB⟩
      ·rw [if_neg c5] at H
       have c5b0 : (x4_2 == (l0.length : Int)) = false := beq_eq_false_iff_ne.mpr c5
       have c5b1 : (x4_2 != (l0.length : Int)) = true := bne_iff_ne.mpr c5
       have H' := aM H
       clear H
       go_wp2_with (first | ((with_reducible refine gate_callee (f := 37) rfl ?_); refine goesL_ (some 8) rfl rfl Try.func37 zK rfl #[.slice A0 l0.length c0, .int .i64 x4_2] rfl zM ?_; (with_reducible refine (blanks_Space.calls k2 _ _ l0 x4_2 false _ ?side1 ?side2 A2.out).mono ?_); (case side1 => exact zC (Kd.V_reads' HO_0.out).2.2); (case side2 => exact (Kd.V_reads' HO_0.out).2.1); rintro e w7 ⟨rfl, hb⟩; (try clear A2); refine ⟨_, rfl, ?_⟩; have n_ := zI (aM (Kd.V_below (zV HO_0) hb)) (zI (aM (Kd.N_below (zN HO_3) hb)) (aM (below_step zB hb))); clear HO_0 HO_3 HB; obtain ⟨HO_0, HO_3, HB⟩ := n_; (try clear hb)))
       go_loopg [4] k2 (fun kq v4 w' => ∃ (x4_3 : Int), v4 = .int .i64 x4_3 ∧ Aside0 (blanks_words.l2 kq l0 x3_1 x4_3 x4_2 = some r) ∧ Aside0 (kq ≤ k2) ∧ Aside0 (Kd.V (Kd.int .i32) 21 w' w.heap.size (fun k_ => (P0_ k_ ∨ w.heap.size ≤ k_) ∧ some k_ ≠ (u3 : Value).ownBlock) (.slice A0 l0.length c0) l0) ∧ Aside0 (Kd.N (Kd.slice 21 (Kd.int .i32)) 34 w' w.heap.size (fun k_ => (P0_ k_ ∨ w.heap.size ≤ k_)) u3 x3_1) ∧ Aside0 (Below w.heap.size w w'))
       case atStart => exact ⟨(x4_2), zP, H', ⟨Nat.le_refl _⟩, ⟨zV HO_0⟩, ⟨zN HO_3⟩, ⟨zB⟩⟩
       case round =>
        clear H'
        try clear p2
        try clear c3
        try clear c4
        try clear c5
        try clear c5b0
        try clear c5b1
        try clear p6
        obtain ⟨x4_3, rfl, HA, HK3, HO_0, HO_3, HB⟩ := hrel
        cases gk with
        | zero => exact absurd HA.out (by simp [blanks_words.l2])
        | succ k3 =>
         have H := HA.out
         clear HA
         simp only [blanks_words.l2] at H
         by_cases c8 : x4_3 < (l0.length : Int)
         ·rw [if_pos c8] at H
          have c8b0 : decide (x4_3 < (l0.length : Int)) = true := decide_eq_true c8
          clear c8
          obtain ⟨t359, A9, H⟩ := zO H
          by_cases c10 : t359 = true
          ·subst c10
           rw [if_pos rfl] at H
           by_cases c11 : 0 ≤ x4_2
           ·rw [if_pos c11] at H
            have c11b0 := eq_true c11
            have c11b1 : decide (0 ≤ x4_2) = true := decide_eq_true c11
            clear c11
            by_cases c12 : x4_2 ≤ x4_3
            ·rw [if_pos c12] at H
             have c12b0 := eq_true c12
             have c12b1 : decide (x4_2 ≤ x4_3) = true := decide_eq_true c12
             clear c12
             by_cases c13 : x4_3 ≤ (l0.length : Int)
             ·rw [if_pos c13] at H
              have c13b0 := eq_true c13
              have c13b1 : decide (x4_3 ≤ (l0.length : Int)) = true := decide_eq_true c13
              clear c13
              obtain ⟨y360, hy360⟩ : ∃ y_ : List Int, y_ = ((l0.take (x4_3 : Int).toNat).drop (x4_2 : Int).toNat) := ⟨_, rfl⟩
              replace H : (if x3_1.length < 5864062014805 then (blanks_words.l0 k3 l0 (x3_1 ++ [y360]) x4_3) else (none)) = some r := zY hy360 H
              have Ny360 := aM hy360
              clear hy360
              by_cases c14 : x3_1.length < 5864062014805
              ·rw [if_pos c14] at H
               have LMc14 := aM c14
               clear c14
               obtain ⟨y365, hy365⟩ : ∃ y_ : List (List Int), y_ = (x3_1 ++ [y360]) := ⟨_, rfl⟩
               replace H : (blanks_words.l0 k3 l0 y365 x4_3) = some r := zY hy365 H
               have Ny365 := aM hy365
               clear hy365
               have H' := aM H
               clear H
               go_wp2_with (first | (go_at_call 37; (with_reducible refine (blanks_Space.calls k3 _ _ l0 x4_3 true _ ?side1 ?side2 A9.out).mono ?_); (case side1 => exact zC (Kd.V_reads' HO_0.out).2.2); (case side2 => exact (Kd.V_reads' HO_0.out).2.1); rintro e w15 ⟨rfl, hb⟩; (try clear A9); have n_ := zI (aM (Kd.V_below (zV HO_0) hb)) (zI (aM (Kd.N_below (zN HO_3) hb)) (aM (below_step zB hb))); clear HO_0 HO_3 HB; obtain ⟨HO_0, HO_3, HB⟩ := n_; (try clear hb); (try clear hk); (try clear hi); have q16 : (x4_3 : Int) ≤ ((l0.length : Int) : Int) := zoA; obtain ⟨i016, hi016, _, hsz16, _⟩ := info_parts info21; have hroom16 : l0.length ≤ c0 := (Kd.V_reads' HO_0.out).2.1; have hC16 : Kd.F (Kd.int .i32) _ _ A0 l0.length l0 := (Kd.V_at (base := w.heap.size) HO_0.out).2.2; have ql16 : (x4_2 : Int) ≤ (x4_3 : Int) := zoA; have q016 : (0 : Int) ≤ (x4_2 : Int) := zoA; have hcut16 := cut_mid (P := Try.prog) 34 21 .i64 .i64 Try.underlying34 hi016 1 hsz16 A0 l0.length c0 x4_2 x4_3 q016 ql16 q16 hroom16; have hr16 := Kd.F_mid (lo := (x4_2 : Int).toNat) (hi := (x4_3 : Int).toNat) (c := c0) hC16 (by omega) (by omega) hroom16; obtain ⟨A16, hA16⟩ : ∃ A1, A1 = (if c0 = (x4_2 : Int).toNat then A0 else (A0 : Option Addr).map (·.add ((x4_2 : Int).toNat * 1))) := ⟨_, rfl⟩; obtain ⟨c16, hc16⟩ : ∃ c1, c1 = c0 - (x4_2 : Int).toNat := ⟨_, rfl⟩; have hy16 : y360.length = (x4_3 : Int).toNat - (x4_2 : Int).toNat := (by rw [Ny360.out, List.length_drop, List.length_take] <;> omega); rw [show ((l0).take (x4_3 : Int).toNat).drop (x4_2 : Int).toNat = y360 from Ny360.out.symm] at hr16; replace hr16 : Kd.F (Kd.int .i32) _ _ A16 y360.length y360 := (by rw [hA16]; exact hr16); rw [← hy16, ← hA16, ← hc16] at hcut16; have HO364 := aM (show Kd.V (Kd.int .i32) 21 _ w.heap.size _ (.slice A16 y360.length c16) y360 from Kd.V_mk (by rw [hy16, hc16]; exact Nat.sub_le_sub_right (Nat.le_trans (by omega) hroom16) _) hr16); have HC364 := aM (show y360.length ≤ c16 from by rw [hy16, hc16]; exact Nat.sub_le_sub_right (Nat.le_trans (by omega) hroom16) _); clear hr16 hC16 hroom16 hi016 hsz16 hc16; have KY16 := aM hy16; have KA16 := aM hA16; clear hy16 hA16; replace q16 := eq_true q16) | ((with_reducible refine gate_builtin (b := .append) (xs := #[.tmp 29, .tmp 34]) rfl ?_); at_builtin; refine Kd.N_append (Kd.slice 21 (Kd.int .i32)) (w0 := w) w.heap.size rfl (.tmp 29) (.tmp 34) 60 34 (.slice none 0 0) 24 rfl Try.underlying60 info34 rfl (by decide) (by omega) u3 x3_1 y360 [.slice A16 y360.length c16] (fun k_ => (P0_ k_ ∨ w.heap.size ≤ k_)) (fun k_ => ((fun k_ => (P0_ k_ ∨ w.heap.size ≤ k_))) k_ ∧ some k_ ≠ (u3 : Value).ownBlock) rfl rfl ?aP (fun _ hk => hk) ?aF ?aO ?aB ?aS ?aL ?_; (case aP => exact (Kd.FK_slice_mk (Kd.V_reads' (Kd.V_mono (ok' := (fun k_ => ((fun k_ => (P0_ k_ ∨ w.heap.size ≤ k_))) k_ ∧ some k_ ≠ (u3 : Value).ownBlock)) (HO364.out) (fun k_ hk => ⟨hk.1, hk.2⟩))).2.1 (Kd.V_F (Kd.V_mono (ok' := (fun k_ => ((fun k_ => (P0_ k_ ∨ w.heap.size ≤ k_))) k_ ∧ some k_ ≠ (u3 : Value).ownBlock)) (HO364.out) (fun k_ hk => ⟨hk.1, hk.2⟩))))); (case aB => exact zB); (case aF => exact (fun k_ hk => (.inr (Nat.le_trans (below_size zB) hk)))); (case aO => exact (zN HO_3)); (case aS => exact (below_size zB)); (case aL => have := LMc14.out; omega); intro v366 w17 ho hb hg hat; rw [← Ny365.out] at ho; have n_ := zI (aM (Kd.V_afterv (ok := (fun k_ => (P0_ k_ ∨ w.heap.size ≤ k_))) (zV HO_0) hg hat)) (zI (aM (Kd.V_afterv (ok := (fun k_ => (P0_ k_ ∨ w.heap.size ≤ k_))) (zV HO364) hg hat)) (zI (aM (hb)) (aM (ho)))); clear HO_0 HO364 HB HO_3; obtain ⟨HO_0, HO364, HB, HO367⟩ := n_; clear ho hb hg hat))
               go_step3
               refine ⟨rfl, ?_⟩
               refine hK_ _ _ ?_
               go_roundg k3
               case measure => have := HK1.out; have := HK2.out; have := HK3.out; omega
               case rel => exact ⟨(y365), (x4_3), zP, H', ⟨by have := HK1.out; have := HK2.out; have := HK3.out; omega⟩, ⟨zV HO_0⟩, ⟨zN HO367⟩, ⟨zB⟩⟩
              ·rw [if_neg c14] at H
               exact absurd H (by simp)
             ·rw [if_neg c13] at H
              exact absurd H (by simp)
            ·rw [if_neg c12] at H
             exact absurd H (by simp)
           ·rw [if_neg c11] at H
            exact absurd H (by simp)
          ·replace c10 := Bool.eq_false_iff.mpr c10
           subst c10
           rw [if_neg (show ¬ (false = true) by decide)] at H
           have H' := aM H
           clear H
           go_wp2_with (first | (go_at_call 37; (with_reducible refine (blanks_Space.calls k3 _ _ l0 x4_3 false _ ?side1 ?side2 A9.out).mono ?_); (case side1 => exact zC (Kd.V_reads' HO_0.out).2.2); (case side2 => exact (Kd.V_reads' HO_0.out).2.1); rintro e w18 ⟨rfl, hb⟩; (try clear A9); have n_ := zI (aM (Kd.V_below (zV HO_0) hb)) (zI (aM (Kd.N_below (zN HO_3) hb)) (aM (below_step zB hb))); clear HO_0 HO_3 HB; obtain ⟨HO_0, HO_3, HB⟩ := n_; (try clear hb)))
           go_roundg k3
           case measure => have := HK1.out; have := HK2.out; have := HK3.out; omega
           case rel => exact ⟨(wrap64 (x4_3 + 1)), zP, H', ⟨by have := HK1.out; have := HK2.out; have := HK3.out; omega⟩, ⟨zV HO_0⟩, ⟨zN HO_3⟩, ⟨zB⟩⟩
         ·rw [if_neg c8] at H
          have c8b0 : decide (x4_3 < (l0.length : Int)) = false := decide_eq_false c8
          clear c8
          by_cases c19 : 0 ≤ x4_2
          ·rw [if_pos c19] at H
           have c19b0 := eq_true c19
           have c19b1 : decide (0 ≤ x4_2) = true := decide_eq_true c19
           clear c19
           by_cases c20 : x4_2 ≤ x4_3
           ·rw [if_pos c20] at H
            have c20b0 := eq_true c20
            have c20b1 : decide (x4_2 ≤ x4_3) = true := decide_eq_true c20
            clear c20
            by_cases c21 : x4_3 ≤ (l0.length : Int)
            ·rw [if_pos c21] at H
             have c21b0 := eq_true c21
             have c21b1 : decide (x4_3 ≤ (l0.length : Int)) = true := decide_eq_true c21
             clear c21
             obtain ⟨y368, hy368⟩ : ∃ y_ : List Int, y_ = ((l0.take (x4_3 : Int).toNat).drop (x4_2 : Int).toNat) := ⟨_, rfl⟩
             replace H : (if x3_1.length < 5864062014805 then (blanks_words.l0 k3 l0 (x3_1 ++ [y368]) x4_3) else (none)) = some r := zY hy368 H
             have Ny368 := aM hy368
             clear hy368
             by_cases c22 : x3_1.length < 5864062014805
             ·rw [if_pos c22] at H
              have LMc22 := aM c22
              clear c22
              obtain ⟨y373, hy373⟩ : ∃ y_ : List (List Int), y_ = (x3_1 ++ [y368]) := ⟨_, rfl⟩
              replace H : (blanks_words.l0 k3 l0 y373 x4_3) = some r := zY hy373 H
              have Ny373 := aM hy373
              clear hy373
              have H' := aM H
              clear H
              have q23 : (x4_3 : Int) ≤ ((l0.length : Int) : Int) := zoA
              obtain ⟨i023, hi023, _, hsz23, _⟩ := info_parts info21
              have hroom23 : l0.length ≤ c0 := (Kd.V_reads' HO_0.out).2.1
              have hC23 : Kd.F (Kd.int .i32) _ _ A0 l0.length l0 := (Kd.V_at (base := w.heap.size) HO_0.out).2.2
              have ql23 : (x4_2 : Int) ≤ (x4_3 : Int) := zoA
              have q023 : (0 : Int) ≤ (x4_2 : Int) := zoA
              have hcut23 := cut_mid (P := Try.prog) 34 21 .i64 .i64 Try.underlying34 hi023 1 hsz23 A0 l0.length c0 x4_2 x4_3 q023 ql23 q23 hroom23
              have hr23 := Kd.F_mid (lo := (x4_2 : Int).toNat) (hi := (x4_3 : Int).toNat) (c := c0) hC23 (by omega) (by omega) hroom23
              obtain ⟨A23, hA23⟩ : ∃ A1, A1 = (if c0 = (x4_2 : Int).toNat then A0 else (A0 : Option Addr).map (·.add ((x4_2 : Int).toNat * 1))) := ⟨_, rfl⟩
              obtain ⟨c23, hc23⟩ : ∃ c1, c1 = c0 - (x4_2 : Int).toNat := ⟨_, rfl⟩
              have hy23 : y368.length = (x4_3 : Int).toNat - (x4_2 : Int).toNat := (by rw [Ny368.out, List.length_drop, List.length_take] <;> omega)
              rw [show ((l0).take (x4_3 : Int).toNat).drop (x4_2 : Int).toNat = y368 from Ny368.out.symm] at hr23
              replace hr23 : Kd.F (Kd.int .i32) _ _ A23 y368.length y368 := (by rw [hA23]; exact hr23)
              rw [← hy23, ← hA23, ← hc23] at hcut23
              have HO372 := aM (show Kd.V (Kd.int .i32) 21 _ w.heap.size _ (.slice A23 y368.length c23) y368 from Kd.V_mk (by rw [hy23, hc23]; exact Nat.sub_le_sub_right (Nat.le_trans (by omega) hroom23) _) hr23)
              have HC372 := aM (show y368.length ≤ c23 from by rw [hy23, hc23]; exact Nat.sub_le_sub_right (Nat.le_trans (by omega) hroom23) _)
              clear hr23 hC23 hroom23 hi023 hsz23 hc23
              have KY23 := aM hy23
              have KA23 := aM hA23
              clear hy23 hA23
              replace q23 := eq_true q23
              go_wp2_with (first | ((with_reducible refine gate_builtin (b := .append) (xs := #[.tmp 29, .tmp 34]) rfl ?_); at_builtin; refine Kd.N_append (Kd.slice 21 (Kd.int .i32)) (w0 := w) w.heap.size rfl (.tmp 29) (.tmp 34) 60 34 (.slice none 0 0) 24 rfl Try.underlying60 info34 rfl (by decide) (by omega) u3 x3_1 y368 [.slice A23 y368.length c23] (fun k_ => (P0_ k_ ∨ w.heap.size ≤ k_)) (fun k_ => ((fun k_ => (P0_ k_ ∨ w.heap.size ≤ k_))) k_ ∧ some k_ ≠ (u3 : Value).ownBlock) rfl rfl ?aP (fun _ hk => hk) ?aF ?aO ?aB ?aS ?aL ?_; (case aP => exact (Kd.FK_slice_mk (Kd.V_reads' (Kd.V_mono (ok' := (fun k_ => ((fun k_ => (P0_ k_ ∨ w.heap.size ≤ k_))) k_ ∧ some k_ ≠ (u3 : Value).ownBlock)) (HO372.out) (fun k_ hk => ⟨hk.1, hk.2⟩))).2.1 (Kd.V_F (Kd.V_mono (ok' := (fun k_ => ((fun k_ => (P0_ k_ ∨ w.heap.size ≤ k_))) k_ ∧ some k_ ≠ (u3 : Value).ownBlock)) (HO372.out) (fun k_ hk => ⟨hk.1, hk.2⟩))))); (case aB => exact zB); (case aF => exact (fun k_ hk => (.inr (Nat.le_trans (below_size zB) hk)))); (case aO => exact (zN HO_3)); (case aS => exact (below_size zB)); (case aL => have := LMc22.out; omega); intro v374 w24 ho hb hg hat; rw [← Ny373.out] at ho; have n_ := zI (aM (Kd.V_afterv (ok := (fun k_ => (P0_ k_ ∨ w.heap.size ≤ k_))) (zV HO_0) hg hat)) (zI (aM (Kd.V_afterv (ok := (fun k_ => (P0_ k_ ∨ w.heap.size ≤ k_))) (zV HO372) hg hat)) (zI (aM (hb)) (aM (ho)))); clear HO_0 HO372 HB HO_3; obtain ⟨HO_0, HO372, HB, HO375⟩ := n_; clear ho hb hg hat))
              go_step3
              refine ⟨rfl, ?_⟩
              refine hK_ _ _ ?_
              go_roundg k3
              case measure => have := HK1.out; have := HK2.out; have := HK3.out; omega
              case rel => exact ⟨(y373), (x4_3), zP, H', ⟨by have := HK1.out; have := HK2.out; have := HK3.out; omega⟩, ⟨zV HO_0⟩, ⟨zN HO375⟩, ⟨zB⟩⟩
             ·rw [if_neg c22] at H
              exact absurd H (by simp)
            ·rw [if_neg c21] at H
             exact absurd H (by simp)
           ·rw [if_neg c20] at H
            exact absurd H (by simp)
          ·rw [if_neg c19] at H
           exact absurd H (by simp)

/-! ### blanks_firm: function 43 -/
def blanks_firm.f (k : Nat) (l0 : List Int) : Option (List Int) := if (l0.length : Int) > 0 then (if 0 < (l0.length : Int) then ((chars_Is.f k (rd l0 0) (([3] : List Int))).bind fun t380 => (if t380 = true then ((blanks_edged.f l0 true false).bind fun t381 => (some t381)) else (some l0))) else (none)) else (some l0)
theorem blanks_firm.mono : ∀ a0 k, LeO (blanks_firm.f k a0) (blanks_firm.f (k + 1) a0) := by
 intro a0 k
 unfold blanks_firm.f
 repeat' first
   | (with_reducible exact chars_Is.mono _ _ _)
   | (with_reducible exact LeO.refl _)
   | exact chars_Is.mono _ _ _
   | exact LeO.none _
   | refine LeO.ite ?_ ?_
   | refine LeO.bind ?_ (fun _ => ?_)
set_option maxHeartbeats 8000000 in
set_option maxRecDepth 100000 in
theorem blanks_firm.calls (k : Nat) (P0_ : Nat → Prop) (A0 : Option Addr) (c0 : Nat) (l0 : List Int) (r : List Int) (w : World) (hs0 : Kd.V (Kd.int .i32) 21 w w.heap.size (fun k_ => P0_ k_) (.slice A0 l0.length c0) l0) (h : blanks_firm.f k l0 = some r) :
  Calls Try.prog 43 #[.slice A0 l0.length c0] w fun e w' => ∃ v0_ : Value, e = .returned (v0_) ∧ Kd.V (Kd.int .i32) 21 w' w.heap.size (fun k_ => (P0_ k_ ∨ w.heap.size ≤ k_)) v0_ r ∧ Below w.heap.size w w' := by
 have HO0 := aM (show Kd.V (Kd.int .i32) 21 w w.heap.size (fun k_ => (P0_ k_ ∨ w.heap.size ≤ k_)) (.slice A0 l0.length c0) l0 from Kd.V_mono hs0 (fun k_ hk => .inl hk))
 have HB := aM (Below.refl w.heap.size w)
 have H := h
 clear h
 unfold blanks_firm.f at H
 by_cases c2 : (l0.length : Int) > 0
 ·rw [if_pos c2] at H
  have c2b0 : decide (0 < (l0.length : Int)) = true := decide_eq_true c2
  have c2b1 : decide (0 < l0.length) = true := decide_eq_true (by omega)
  clear c2
  by_cases c3 : 0 < (l0.length : Int)
  ·rw [if_pos c3] at H
   have c3b0 : decide (0 < (l0.length : Int)) = true := decide_eq_true c3
   have c3b1 : decide (0 < l0.length) = true := decide_eq_true (by omega)
   clear c3
   obtain ⟨y377, hy377⟩ : ∃ y_ : List Int, y_ = (([3] : List Int)) := ⟨_, rfl⟩
   replace H : ((chars_Is.f k (rd l0 0) y377).bind fun t380 => (if t380 = true then ((blanks_edged.f l0 true false).bind fun t381 => (some t381)) else (some l0))) = some r := zY hy377 H
   have Ny377 := aM hy377
   clear hy377
   obtain ⟨t380, A4, H⟩ := zO H
   by_cases c5 : t380 = true
   ·subst c5
    rw [if_pos rfl] at H
    obtain ⟨t381, A6, H⟩ := zO H
    obtain rfl := sI H
    have p376 : 0 ≤ (0 : Int) := (by omega)
    have q376 : 0 < (l0.length : Int) := zoA
    obtain ⟨ad376, e376, hx376_0⟩ := Kd.at_int (Kd.V_reads' HO0.out).2.2 0 p376 q376
    cases e376
    have qi376 : (0 < l0.length) = True := eq_true (by omega)
    (try rw [show ((0 : Int)).toNat = 0 from rfl] at hx376_0)
    (try rw [Addr.add_zero'] at hx376_0)
    replace p376 := eq_true p376
    replace q376 := eq_true q376
    go_enter Try.func43, Try.ntmps43
    go_wp2_with (first | ((with_reducible refine gate_dst (N := 10) rfl ?_); (try (refine gate_guard (by rfl) ?_; dsimp only)); refine Kd.R_lit (Kd.int .i64) _ 3 ?hg (N := 10) ?hd (xs := ([3] : List Int)) (inner := [.int .i64 3]) (ok := fun _ => True) (okp := fun _ => True) ?hr ?hp (fun _ hk => hk) trivial (Below.refl _ _) (Nat.le_refl _) (by simp) ?_; (case hd => rfl); (case hg => rfl); (case hr => first | (go_simp; done) | (go_simp; rfl)); (case hp => exact (Reps.one (show Kd.M (Kd.int .i64) _ _ _ 3 [.int .i64 3] from rfl) (Reps.none _ _))); intro v378 w7 ho8 hb hg_ hnew_; clear hg_ hnew_; (first | rw [← Ny377.out] at ho8 | (simp only [Int.reduceToNat] at ho8; rw [← Ny377.out] at ho8)); have n_ := zI (aM (Kd.V_elder' (zV HO0) (Kd.R_base ho8) hb)) (zI (aM (Kd.R_lower (Kd.R_newM (M := fun k_ => (w.heap.size ≤ k_)) ho8 (below_size zB) (fun k_ h_ => h_)) (below_size zB))) (aM (below_step zB hb))); clear HO0 HB; obtain ⟨HO0, HO379, HB⟩ := n_; clear hb ho8; obtain ⟨Ao9, co9, rfl⟩ := Kd.R_slice HO379.out) | (go_at_call 34; (with_reducible refine (chars_Is.calls k (rd l0 0) _ _ y377 true _ ?side1 ?side2 A4.out).mono ?_); (case side1 => exact zC (Kd.R_reads' HO379.out).2.2); (case side2 => exact (Kd.R_reads' HO379.out).2.1); rintro e w' ⟨rfl, ⟨nd, rfl⟩⟩) | ((with_reducible refine gate_callee (f := 40) rfl ?_); refine goesL_ (some 14) rfl rfl Try.func40 zK rfl #[.slice (some ad376) l0.length c0, .bool true, .bool false] rfl zM ?_; (with_reducible refine (blanks_edged.calls _ _ l0 true false t381 _ ?side1 ?side2 A6.out).mono ?_); (case side1 => exact zC (Kd.V_reads' HO0.out).2.2); (case side2 => exact (Kd.V_reads' HO0.out).2.1); rintro e w10 ⟨v382, rfl, ho0, hb⟩; refine ⟨_, rfl, ?_⟩; have n_ := zI (aM (Kd.V_elder' (zV HO0) (Kd.R_base ho0) hb)) (zI (aM (Kd.R_below (zR HO379) hb)) (zI (aM (Kd.R_lower (Kd.R_newM (M := fun k_ => (w.heap.size ≤ k_)) ho0 (below_size zB) (fun k_ h_ => h_)) (below_size zB))) (aM (below_step zB hb)))); clear HO0 HO379 HB; obtain ⟨HO0, HO379, HO383, HB⟩ := n_; (try clear hb); (try clear hk); (try clear ho0)))
    go_ret
    exact ⟨_, zE, Kd.V_mono (Kd.R_V (by (with_reducible repeat (first | apply Kd.R_alloc | apply Kd.R_drewN | apply Kd.R_drew)); exact Kd.R_mono HO383.out (fun _ hk => hk.1))) (fun k_ hk => by first | exact ⟨(.inr (hk.1)), hk.2⟩ | exact (.inr (hk))), zB⟩
   ·replace c5 := Bool.eq_false_iff.mpr c5
    subst c5
    rw [if_neg (show ¬ (false = true) by decide)] at H
    obtain rfl := sI H
    have p376 : 0 ≤ (0 : Int) := (by omega)
    have q376 : 0 < (l0.length : Int) := zoA
    obtain ⟨ad376, e376, hx376_0⟩ := Kd.at_int (Kd.V_reads' HO0.out).2.2 0 p376 q376
    cases e376
    have qi376 : (0 < l0.length) = True := eq_true (by omega)
    (try rw [show ((0 : Int)).toNat = 0 from rfl] at hx376_0)
    (try rw [Addr.add_zero'] at hx376_0)
    replace p376 := eq_true p376
    replace q376 := eq_true q376
    go_enter Try.func43, Try.ntmps43
    go_wp2_with (first | ((with_reducible refine gate_dst (N := 10) rfl ?_); (try (refine gate_guard (by rfl) ?_; dsimp only)); refine Kd.R_lit (Kd.int .i64) _ 3 ?hg (N := 10) ?hd (xs := ([3] : List Int)) (inner := [.int .i64 3]) (ok := fun _ => True) (okp := fun _ => True) ?hr ?hp (fun _ hk => hk) trivial (Below.refl _ _) (Nat.le_refl _) (by simp) ?_; (case hd => rfl); (case hg => rfl); (case hr => first | (go_simp; done) | (go_simp; rfl)); (case hp => exact (Reps.one (show Kd.M (Kd.int .i64) _ _ _ 3 [.int .i64 3] from rfl) (Reps.none _ _))); intro v378 w11 ho12 hb hg_ hnew_; clear hg_ hnew_; (first | rw [← Ny377.out] at ho12 | (simp only [Int.reduceToNat] at ho12; rw [← Ny377.out] at ho12)); have n_ := zI (aM (Kd.V_elder' (zV HO0) (Kd.R_base ho12) hb)) (zI (aM (Kd.R_lower (Kd.R_newM (M := fun k_ => (w.heap.size ≤ k_)) ho12 (below_size zB) (fun k_ h_ => h_)) (below_size zB))) (aM (below_step zB hb))); clear HO0 HB; obtain ⟨HO0, HO379, HB⟩ := n_; clear hb ho12; obtain ⟨Ao13, co13, rfl⟩ := Kd.R_slice HO379.out) | (go_at_call 34; (with_reducible refine (chars_Is.calls k (rd l0 0) _ _ y377 false _ ?side1 ?side2 A4.out).mono ?_); (case side1 => exact zC (Kd.R_reads' HO379.out).2.2); (case side2 => exact (Kd.R_reads' HO379.out).2.1); rintro e w' ⟨rfl, ⟨nd, rfl⟩⟩))
    go_ret
    exact ⟨_, zE, by (with_reducible repeat (first | apply Kd.V_alloc | apply Kd.V_drewN | apply Kd.V_drew)); exact Kd.V_mono HO0.out (fun _ hk => hk.1), zB⟩
  ·rw [if_neg c3] at H
   exact absurd H (by simp)
 ·rw [if_neg c2] at H
  have c2b0 : decide (0 < (l0.length : Int)) = false := decide_eq_false c2
  have c2b1 : decide (0 < l0.length) = false := decide_eq_false (by omega)
  clear c2
  obtain rfl := sI H
  go_enter Try.func43, Try.ntmps43
  go_wp2
  go_ret
  exact ⟨_, zE, zV HO0, zB⟩

/-! ### blanks_Value: function 25 -/
def blanks_Value.f (k : Nat) (l0 : List Int) : Option (List Int) := (blanks_firm.f k l0).bind fun t384 => ((blanks_words.f k t384).bind fun t387 => ((blanks_joined.f k t387).bind fun t390 => ((blanks_edged.f t390 true true).bind fun t393 => (some t393))))
theorem blanks_Value.mono : ∀ a0 k, LeO (blanks_Value.f k a0) (blanks_Value.f (k + 1) a0) := by
 intro a0 k
 unfold blanks_Value.f
 repeat' first
   | (with_reducible exact blanks_firm.mono _ _)
   | (with_reducible exact blanks_joined.mono _ _)
   | (with_reducible exact blanks_words.mono _ _)
   | (with_reducible exact LeO.refl _)
   | exact blanks_firm.mono _ _
   | exact blanks_joined.mono _ _
   | exact blanks_words.mono _ _
   | exact LeO.none _
   | refine LeO.ite ?_ ?_
   | refine LeO.bind ?_ (fun _ => ?_)
set_option maxHeartbeats 8000000 in
set_option maxRecDepth 100000 in
theorem blanks_Value.calls (k : Nat) (A0 : Option Addr) (c0 : Nat) (l0 : List Int) (r : List Int) (w : World) (hr0 : Kd.C (Kd.int .i32) w A0 l0.length l0) (hc0 : l0.length ≤ c0) (h : blanks_Value.f k l0 = some r) :
  Calls Try.prog 25 #[.slice A0 l0.length c0] w fun e w' => ∃ v0_ : Value, e = .returned (v0_) ∧ Kd.R (Kd.int .i32) 21 w' w.heap.size (fun _ => True) v0_ r ∧ Below w.heap.size w w' := by
 have HR0 := aM hr0
 have HC0 := aM hc0
 clear hr0 hc0
 have HB := aM (Below.refl w.heap.size w)
 have H := h
 clear h
 unfold blanks_Value.f at H
 obtain ⟨t384, A2, H⟩ := zO H
 obtain ⟨t387, A3, H⟩ := zO H
 obtain ⟨t390, A4, H⟩ := zO H
 obtain ⟨t393, A5, H⟩ := zO H
 obtain rfl := sI H
 go_enter Try.func25, Try.ntmps25
 go_wp2_with (first | ((with_reducible refine gate_callee (f := 43) rfl ?_); refine goesL_ (some 4) rfl rfl Try.func43 zK rfl #[.slice A0 l0.length c0] rfl zM ?_; (with_reducible refine (blanks_firm.calls k (fun k_ => k_ < w.heap.size) _ _ l0 t384 _ ?side1 A2.out).mono ?_); (case side1 => exact Kd.V_mk HC0.out (Kd.F_below (Kd.C_F (Kd.heap_int .i32) HR0.out) zB)); rintro e w6 ⟨v385, rfl, ho0, hb⟩; refine ⟨_, rfl, ?_⟩; have n_ := zI (aM (Kd.V_lower (Kd.V_mono (ok' := fun k_ => True) ho0 (fun k_ hk_ => trivial)) (below_size zB))) (aM (below_step zB hb)); clear HB; obtain ⟨HO386, HB⟩ := n_; (try clear hb); (try clear ho0); obtain ⟨Ao7, co7, rfl⟩ := Kd.V_slice HO386.out) | ((with_reducible refine gate_callee (f := 42) rfl ?_); refine goesL_ (some 5) rfl rfl Try.func42 zK rfl #[.slice Ao7 t384.length co7] rfl zM ?_; (with_reducible refine (blanks_words.calls k (fun k_ => True) _ _ t384 t387 _ ?side1 A3.out).mono ?_); (case side1 => exact HO386.out); rintro e w8 ⟨v388, rfl, ho0, hb⟩; refine ⟨_, rfl, ?_⟩; have n_ := zI (aM (Kd.V_elder' (zV HO386) (Kd.N_base ho0) hb)) (zI (aM (Kd.N_lower (Kd.N_mono (ok' := fun k_ => True) ho0 (fun k_ hk_ => trivial)) (below_size zB))) (aM (below_step zB hb))); clear HO386 HB; obtain ⟨HO386, HO389, HB⟩ := n_; (try clear hb); (try clear ho0); obtain ⟨Ao9, co9, rfl⟩ := Kd.N_slice HO389.out) | ((with_reducible refine gate_callee (f := 41) rfl ?_); refine goesL_ (some 6) rfl rfl Try.func41 zK rfl #[.slice Ao9 t387.length co9] rfl zM ?_; (with_reducible refine (blanks_joined.calls k _ _ t387 t390 _ ?side1 ?side2 A4.out).mono ?_); (case side1 => exact zC (Kd.N_reads' HO389.out).2.2); (case side2 => exact (Kd.N_reads' HO389.out).2.1); rintro e w10 ⟨v391, rfl, ho0, hb⟩; refine ⟨_, rfl, ?_⟩; have n_ := zI (aM (Kd.V_elder' (zV HO386) (Kd.R_base ho0) hb)) (zI (aM (Kd.N_elder' (zN HO389) (Kd.R_base ho0) hb)) (zI (aM (Kd.R_lower ho0 (below_size zB))) (aM (below_step zB hb)))); clear HO386 HO389 HB; obtain ⟨HO386, HO389, HO392, HB⟩ := n_; (try clear hb); (try clear ho0); obtain ⟨Ao11, co11, rfl⟩ := Kd.R_slice HO392.out) | ((with_reducible refine gate_callee (f := 40) rfl ?_); refine goesL_ (some 7) rfl rfl Try.func40 zK rfl #[.slice Ao11 t390.length co11, .bool true, .bool true] rfl zM ?_; (with_reducible refine (blanks_edged.calls _ _ t390 true true t393 _ ?side1 ?side2 A5.out).mono ?_); (case side1 => exact zC (Kd.R_reads' HO392.out).2.2); (case side2 => exact (Kd.R_reads' HO392.out).2.1); rintro e w12 ⟨v394, rfl, ho0, hb⟩; refine ⟨_, rfl, ?_⟩; have n_ := zI (aM (Kd.V_elder' (zV HO386) (Kd.R_base ho0) hb)) (zI (aM (Kd.N_elder' (zN HO389) (Kd.R_base ho0) hb)) (zI (aM (Kd.R_elder' (zR HO392) (Kd.R_base ho0) hb)) (zI (aM (Kd.R_lower (Kd.R_new' ho0 (Kd.R_lt (zR HO392))) (below_size zB))) (aM (below_step zB hb))))); clear HO386 HO389 HO392 HB; obtain ⟨HO386, HO389, HO392, HO395, HB⟩ := n_; (try clear hb); (try clear ho0)))
 go_ret
 exact ⟨_, zE, by (with_reducible repeat (first | apply Kd.R_alloc | apply Kd.R_drewN | apply Kd.R_drew)); exact Kd.R_mono HO395.out (fun _ hk => trivial), zB⟩

end Go.Proofs.Ytbffakgmlgimeaa.P
