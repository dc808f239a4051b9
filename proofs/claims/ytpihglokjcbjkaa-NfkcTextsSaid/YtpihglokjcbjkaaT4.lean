-- Printed by wip/mk.py (this session's driver over the kit's print) and from wip/manual.
import Derived.Test.YtpihglokjcbjkaaT0
import Derived.Test.YtpihglokjcbjkaaT1
import Derived.Test.YtpihglokjcbjkaaT3
namespace Go.Proofs.Ytpihglokjcbjkaa.P
open Go.RowKit Go.Proofs.YtpihglokjcbjkaaW.PrintWords Go.Proofs.YtpihglokjcbjkaaW.PrintLast Go.Proofs.YtpihglokjcbjkaaW.PrintMore
attribute [local go_sem] max2_int min2_int max_two min_two max_three min_three max_four min_four   -- for this text's walks alone
set_option linter.unusedVariables false
set_option linter.unusedSimpArgs false

/-! ### slices_IndexFunc_rune_rune_nfkc_plain_1: function 107 -/
def slices_IndexFunc_rune_rune_nfkc_plain_1.l0 : Nat → List Int → Int → Int → Option (Int)
 | 0, _, _, _ => none
 | k + 1, x0, x7, x8 => if x8 < x7 then (if 0 ≤ x8 then (if x8 < (x0.length : Int) then ((nfkc_plain_1.f (rd x0 x8)).bind fun t198 => (if t198 = true then (some x8) else (slices_IndexFunc_rune_rune_nfkc_plain_1.l0 k x0 x7 (wrap64 (x8 + 1))))) else (none)) else (none)) else (some (-1))
def slices_IndexFunc_rune_rune_nfkc_plain_1.f (k : Nat) (l0 : List Int) (a1 : Int) : Option (Int) := slices_IndexFunc_rune_rune_nfkc_plain_1.l0 k l0 (l0.length : Int) 0
theorem slices_IndexFunc_rune_rune_nfkc_plain_1.mono_l : ∀ k, (∀ y0 y1 y2, LeO (slices_IndexFunc_rune_rune_nfkc_plain_1.l0 k y0 y1 y2) (slices_IndexFunc_rune_rune_nfkc_plain_1.l0 (k + 1) y0 y1 y2))
 | 0 => fun _ _ _ r h => by simp [slices_IndexFunc_rune_rune_nfkc_plain_1.l0] at h
 | k + 1 => by
  have ih0 := slices_IndexFunc_rune_rune_nfkc_plain_1.mono_l k
  ·intro y0 y1 y2
   unfold slices_IndexFunc_rune_rune_nfkc_plain_1.l0
   repeat' first
   | (with_reducible exact ih0 _ _ _)
   | (with_reducible exact LeO.refl _)
   | exact ih0 _ _ _
   | exact LeO.none _
   | refine LeO.ite ?_ ?_
   | refine LeO.bind ?_ (fun _ => ?_)
theorem slices_IndexFunc_rune_rune_nfkc_plain_1.mono : ∀ a0 a1 k, LeO (slices_IndexFunc_rune_rune_nfkc_plain_1.f k a0 a1) (slices_IndexFunc_rune_rune_nfkc_plain_1.f (k + 1) a0 a1) := by
 intro a0 a1 k
 have ih0 := slices_IndexFunc_rune_rune_nfkc_plain_1.mono_l k
 unfold slices_IndexFunc_rune_rune_nfkc_plain_1.f
 repeat' first
   | (with_reducible exact ih0 _ _ _)
   | (with_reducible exact LeO.refl _)
   | exact ih0 _ _ _
   | exact LeO.none _
   | refine LeO.ite ?_ ?_
   | refine LeO.bind ?_ (fun _ => ?_)
set_option maxHeartbeats 8000000 in
set_option maxRecDepth 100000 in
theorem slices_IndexFunc_rune_rune_nfkc_plain_1.calls (k : Nat) (A0 : Option Addr) (c0 : Nat) (l0 : List Int) (a1 : Int) (r : Int) (w : World) (hr0 : Kd.C (Kd.int .i32) w A0 l0.length l0) (hc0 : l0.length ≤ c0) (h : slices_IndexFunc_rune_rune_nfkc_plain_1.f k l0 a1 = some r) :
  Calls Try.prog 62 #[.slice A0 l0.length c0, .func (.func 41) #[] #[]] w fun e w' => e = .returned (.int .i64 r) ∧ Drawn0 w w' := by
 have HR0 := aM hr0
 have HC0 := aM hc0
 clear hr0 hc0
 have H : (slices_IndexFunc_rune_rune_nfkc_plain_1.l0 k l0 (l0.length : Int) 0) = some r := h
 clear h
 have H' := aM H
 clear H
 go_enter Try.func62, Try.ntmps62
 go_wp2
 go_loopg [8] k (fun kq v8 w' => ∃ (x8_1 : Int), v8 = .int .i64 x8_1 ∧ Aside0 (slices_IndexFunc_rune_rune_nfkc_plain_1.l0 kq l0 (l0.length : Int) x8_1 = some r) ∧ Aside0 (kq ≤ k) ∧ Drawn0 w w')
 case atStart => exact ⟨(0), zP, H', ⟨Nat.le_refl _⟩, zD⟩
 case round =>
  clear H'
  try clear c1
  try clear p2
  obtain ⟨x8_1, rfl, HA, HK1, ⟨m1, rfl⟩⟩ := hrel
  cases gk with
  | zero => exact absurd HA.out (by simp [slices_IndexFunc_rune_rune_nfkc_plain_1.l0])
  | succ k1 =>
   have H := HA.out
   clear HA
   simp only [slices_IndexFunc_rune_rune_nfkc_plain_1.l0] at H
   by_cases c3 : x8_1 < (l0.length : Int)
   ·rw [if_pos c3] at H
    have c3b0 : decide (x8_1 < (l0.length : Int)) = true := decide_eq_true c3
    clear c3
    by_cases c4 : 0 ≤ x8_1
    ·rw [if_pos c4] at H
     have c4b0 : decide (0 ≤ x8_1) = true := decide_eq_true c4
     clear c4
     by_cases c5 : x8_1 < (l0.length : Int)
     ·rw [if_pos c5] at H
      have c5b0 : decide (x8_1 < (l0.length : Int)) = true := decide_eq_true c5
      clear c5
      obtain ⟨t198, A6, H⟩ := zO H
      by_cases c7 : t198 = true
      ·subst c7
       rw [if_pos rfl] at H
       obtain rfl := sI H
       have p197 : 0 ≤ (x8_1 : Int) := zoA
       have q197 : x8_1 < (l0.length : Int) := zoA
       obtain ⟨ad197, e197, hx197_0⟩ := Kd.at_int HR0.out x8_1 p197 q197
       cases e197
       replace p197 := eq_true p197
       replace q197 := eq_true q197
       go_wp2_with (first | ((with_reducible refine gate_tmp (x := 11) rfl ?_); refine goesLT_ (some 16) (x := 11) rfl rfl rfl Try.func41 zK rfl #[.int .i32 (rd l0 x8_1)] rfl zM ?_; (with_reducible refine (nfkc_plain_1.calls (rd l0 x8_1) true _ A6.out).mono ?_); rintro e w' ⟨rfl, ⟨nd, rfl⟩⟩; refine ⟨_, rfl, ?_⟩))
       go_ret
       exact ⟨zP, zD⟩
      ·replace c7 := Bool.eq_false_iff.mpr c7
       subst c7
       rw [if_neg (show ¬ (false = true) by decide)] at H
       have H' := aM H
       clear H
       have p197 : 0 ≤ (x8_1 : Int) := zoA
       have q197 : x8_1 < (l0.length : Int) := zoA
       obtain ⟨ad197, e197, hx197_0⟩ := Kd.at_int HR0.out x8_1 p197 q197
       cases e197
       replace p197 := eq_true p197
       replace q197 := eq_true q197
       go_wp2_with (first | ((with_reducible refine gate_tmp (x := 11) rfl ?_); refine goesLT_ (some 16) (x := 11) rfl rfl rfl Try.func41 zK rfl #[.int .i32 (rd l0 x8_1)] rfl zM ?_; (with_reducible refine (nfkc_plain_1.calls (rd l0 x8_1) false _ A6.out).mono ?_); rintro e w' ⟨rfl, ⟨nd, rfl⟩⟩; refine ⟨_, rfl, ?_⟩))
       go_roundg k1
       case measure => have := HK1.out; omega
       case rel => exact ⟨(wrap64 (x8_1 + 1)), zP, H', ⟨by have := HK1.out; omega⟩, zD⟩
     ·rw [if_neg c5] at H
      exact absurd H (by simp)
    ·rw [if_neg c4] at H
     exact absurd H (by simp)
   ·rw [if_neg c3] at H
    have c3b0 : decide (x8_1 < (l0.length : Int)) = false := decide_eq_false c3
    clear c3
    obtain rfl := sI H
    go_wp2
    go_ret
    exact ⟨zP, zD⟩

/-! ### slices_ContainsFunc_rune_rune_nfkc_plain_1: function 106 -/
def slices_ContainsFunc_rune_rune_nfkc_plain_1.f (k : Nat) (l0 : List Int) (a1 : Int) : Option (Bool) := (slices_IndexFunc_rune_rune_nfkc_plain_1.f k l0 7770041).bind fun t199 => (some (decide (t199 ≥ 0)))
theorem slices_ContainsFunc_rune_rune_nfkc_plain_1.mono : ∀ a0 a1 k, LeO (slices_ContainsFunc_rune_rune_nfkc_plain_1.f k a0 a1) (slices_ContainsFunc_rune_rune_nfkc_plain_1.f (k + 1) a0 a1) := by
 intro a0 a1 k
 unfold slices_ContainsFunc_rune_rune_nfkc_plain_1.f
 repeat' first
   | (with_reducible exact slices_IndexFunc_rune_rune_nfkc_plain_1.mono _ _ _)
   | (with_reducible exact LeO.refl _)
   | exact slices_IndexFunc_rune_rune_nfkc_plain_1.mono _ _ _
   | exact LeO.none _
   | refine LeO.ite ?_ ?_
   | refine LeO.bind ?_ (fun _ => ?_)
set_option maxHeartbeats 8000000 in
set_option maxRecDepth 100000 in
theorem slices_ContainsFunc_rune_rune_nfkc_plain_1.calls (k : Nat) (A0 : Option Addr) (c0 : Nat) (l0 : List Int) (a1 : Int) (r : Bool) (w : World) (hr0 : Kd.C (Kd.int .i32) w A0 l0.length l0) (hc0 : l0.length ≤ c0) (h : slices_ContainsFunc_rune_rune_nfkc_plain_1.f k l0 a1 = some r) :
  Calls Try.prog 40 #[.slice A0 l0.length c0, .func (.func 41) #[] #[]] w fun e w' => e = .returned (.bool r) ∧ Drawn0 w w' := by
 have HR0 := aM hr0
 have HC0 := aM hc0
 clear hr0 hc0
 have H : ((slices_IndexFunc_rune_rune_nfkc_plain_1.f k l0 7770041).bind fun t199 => (some (decide (t199 ≥ 0)))) = some r := h
 clear h
 obtain ⟨t199, A3, H⟩ := zO H
 obtain rfl := sI H
 go_enter Try.func40, Try.ntmps40
 go_wp2_with (first | ((with_reducible refine gate_callee (f := 62) rfl ?_); refine goesL_ (some 7) rfl rfl Try.func62 zK rfl #[.slice A0 l0.length c0, .func (.func 41) #[] #[]] rfl zM ?_; (with_reducible refine (slices_IndexFunc_rune_rune_nfkc_plain_1.calls k _ _ l0 7770041 t199 _ ?side1 ?side2 A3.out).mono ?_); (case side1 => exact zC HR0.out); (case side2 => exact HC0.out); rintro e w' ⟨rfl, ⟨nd, rfl⟩⟩; refine ⟨_, rfl, ?_⟩))
 go_ret
 exact ⟨zP, zD⟩

/-! ### nfkc_plain: function 22 -/
def nfkc_plain.f (k : Nat) (l0 : List Int) : Option (Bool) := (slices_ContainsFunc_rune_rune_nfkc_plain_1.f k l0 7770041).bind fun t200 => (some (!t200))
theorem nfkc_plain.mono : ∀ a0 k, LeO (nfkc_plain.f k a0) (nfkc_plain.f (k + 1) a0) := by
 intro a0 k
 unfold nfkc_plain.f
 repeat' first
   | (with_reducible exact slices_ContainsFunc_rune_rune_nfkc_plain_1.mono _ _ _)
   | (with_reducible exact LeO.refl _)
   | exact slices_ContainsFunc_rune_rune_nfkc_plain_1.mono _ _ _
   | exact LeO.none _
   | refine LeO.ite ?_ ?_
   | refine LeO.bind ?_ (fun _ => ?_)
set_option maxHeartbeats 8000000 in
set_option maxRecDepth 100000 in
theorem nfkc_plain.calls (k : Nat) (A0 : Option Addr) (c0 : Nat) (l0 : List Int) (r : Bool) (w : World) (hr0 : Kd.C (Kd.int .i32) w A0 l0.length l0) (hc0 : l0.length ≤ c0) (h : nfkc_plain.f k l0 = some r) :
  Calls Try.prog 22 #[.slice A0 l0.length c0] w fun e w' => e = .returned (.bool r) ∧ Drawn0 w w' := by
 have HR0 := aM hr0
 have HC0 := aM hc0
 clear hr0 hc0
 have H : ((slices_ContainsFunc_rune_rune_nfkc_plain_1.f k l0 7770041).bind fun t200 => (some (!t200))) = some r := h
 clear h
 obtain ⟨t200, A2, H⟩ := zO H
 obtain rfl := sI H
 go_enter Try.func22, Try.ntmps22
 go_wp2_with (first | ((with_reducible refine gate_callee (f := 40) rfl ?_); refine goesL_ (some 4) rfl rfl Try.func40 zK rfl #[.slice A0 l0.length c0, .func (.func 41) #[] #[]] rfl zM ?_; (with_reducible refine (slices_ContainsFunc_rune_rune_nfkc_plain_1.calls k _ _ l0 7770041 t200 _ ?side1 ?side2 A2.out).mono ?_); (case side1 => exact zC HR0.out); (case side2 => exact HC0.out); rintro e w' ⟨rfl, ⟨nd, rfl⟩⟩; refine ⟨_, rfl, ?_⟩))
 go_ret
 exact ⟨zP, zD⟩

/-! ### hangul_within: function 88 -/
def hangul_within.f (a0 : Int) (a1 : Int) (a2 : Int) : Option (Bool) := if a0 ≥ a1 then (some (decide (a0 < (wrap32 (a1 + a2))))) else (some false)
set_option maxHeartbeats 8000000 in
set_option maxRecDepth 100000 in
theorem hangul_within.calls (a0 : Int) (a1 : Int) (a2 : Int) (r : Bool) (w : World) (h : hangul_within.f a0 a1 a2 = some r) :
  Calls Try.prog 88 #[.int .i32 a0, .int .i32 a1, .int .i32 a2] w fun e w' => e = .returned (.bool r) ∧ Drawn0 w w' := by
 have H : (if a0 ≥ a1 then (some (decide (a0 < (wrap32 (a1 + a2))))) else (some false)) = some r := h
 clear h
 by_cases c4 : a0 ≥ a1
 ·rw [if_pos c4] at H
  have c4b0 : decide (a1 ≤ a0) = true := decide_eq_true c4
  clear c4
  obtain rfl := sI H
  go_enter Try.func88, Try.ntmps88
  go_wp2
  go_ret
  exact ⟨zP, zD⟩
 ·rw [if_neg c4] at H
  have c4b0 : decide (a1 ≤ a0) = false := decide_eq_false c4
  clear c4
  obtain rfl := sI H
  go_enter Try.func88, Try.ntmps88
  go_wp2
  go_ret
  exact ⟨zP, zD⟩

/-! ### hangul_Part: function 78 -/
def hangul_Part.j0 : Nat → Int → Bool → Option (Int)
 | 0, _, _ => none
 | k + 1, x0, x12 => if x12 = true then (some 4) else ((hangul_Syllable.f x0).bind fun t205 => (if t205 = true then (some 5) else (some 0)))
def hangul_Part.f (k : Nat) (a0 : Int) : Option (Int) := (hangul_within.f a0 4352 19).bind fun t201 => (if t201 = true then (some 1) else ((hangul_within.f a0 4449 21).bind fun t202 => (if t202 = true then (some 2) else ((hangul_within.f a0 4520 27).bind fun t203 => (if t203 = true then (some 3) else ((hangul_Syllable.f a0).bind fun t204 => (if t204 = true then (hangul_Part.j0 k a0 ((Int.tmod (wrap32 (a0 - 44032)) 28) == 0)) else (hangul_Part.j0 k a0 false))))))))
theorem hangul_Part.mono_l : ∀ k, (∀ y0 y1, LeO (hangul_Part.j0 k y0 y1) (hangul_Part.j0 (k + 1) y0 y1))
 | 0 => fun _ _ r h => by simp [hangul_Part.j0] at h
 | k + 1 => by
  have ih0 := hangul_Part.mono_l k
  ·intro y0 y1
   unfold hangul_Part.j0
   repeat' first
   | (with_reducible exact ih0 _ _)
   | (with_reducible exact LeO.refl _)
   | exact ih0 _ _
   | exact LeO.none _
   | refine LeO.ite ?_ ?_
   | refine LeO.bind ?_ (fun _ => ?_)
theorem hangul_Part.mono : ∀ a0 k, LeO (hangul_Part.f k a0) (hangul_Part.f (k + 1) a0) := by
 intro a0 k
 have ih0 := hangul_Part.mono_l k
 unfold hangul_Part.f
 repeat' first
   | (with_reducible exact ih0 _ _)
   | (with_reducible exact LeO.refl _)
   | exact ih0 _ _
   | exact LeO.none _
   | refine LeO.ite ?_ ?_
   | refine LeO.bind ?_ (fun _ => ?_)
set_option maxHeartbeats 8000000 in
set_option maxRecDepth 100000 in
theorem hangul_Part.calls (k : Nat) (a0 : Int) (r : Int) (w : World) (h : hangul_Part.f k a0 = some r) :
  Calls Try.prog 78 #[.int .i32 a0] w fun e w' => e = .returned (.int .i64 r) ∧ Drawn0 w w' := by
 have H : ((hangul_within.f a0 4352 19).bind fun t201 => (if t201 = true then (some 1) else ((hangul_within.f a0 4449 21).bind fun t202 => (if t202 = true then (some 2) else ((hangul_within.f a0 4520 27).bind fun t203 => (if t203 = true then (some 3) else ((hangul_Syllable.f a0).bind fun t204 => (if t204 = true then (hangul_Part.j0 k a0 ((Int.tmod (wrap32 (a0 - 44032)) 28) == 0)) else (hangul_Part.j0 k a0 false))))))))) = some r := h
 clear h
 obtain ⟨t201, A2, H⟩ := zO H
 by_cases c3 : t201 = true
 ·subst c3
  rw [if_pos rfl] at H
  obtain rfl := sI H
  go_enter Try.func78, Try.ntmps78
  go_wp2_with (first | ((with_reducible refine gate_callee (f := 88) rfl ?_); refine goesL_ (some 5) rfl rfl Try.func88 zK rfl #[.int .i32 a0, .int .i32 4352, .int .i32 19] rfl zM ?_; (with_reducible refine (hangul_within.calls a0 4352 19 true _ A2.out).mono ?_); rintro e w' ⟨rfl, ⟨nd, rfl⟩⟩; (try clear A2); refine ⟨_, rfl, ?_⟩))
  go_ret
  exact ⟨zP, zD⟩
 ·replace c3 := Bool.eq_false_iff.mpr c3
  subst c3
  rw [if_neg (show ¬ (false = true) by decide)] at H
  obtain ⟨t202, A4, H⟩ := zO H
  by_cases c5 : t202 = true
  ·subst c5
   rw [if_pos rfl] at H
   obtain rfl := sI H
   go_enter Try.func78, Try.ntmps78
   go_wp2_with (first | ((with_reducible refine gate_callee (f := 88) rfl ?_); refine goesL_ (some 5) rfl rfl Try.func88 zK rfl #[.int .i32 a0, .int .i32 4352, .int .i32 19] rfl zM ?_; (with_reducible refine (hangul_within.calls a0 4352 19 false _ A2.out).mono ?_); rintro e w' ⟨rfl, ⟨nd, rfl⟩⟩; (try clear A2); refine ⟨_, rfl, ?_⟩) | ((with_reducible refine gate_callee (f := 88) rfl ?_); refine goesL_ (some 8) rfl rfl Try.func88 zK rfl #[.int .i32 a0, .int .i32 4449, .int .i32 21] rfl zM ?_; (with_reducible refine (hangul_within.calls a0 4449 21 true _ A4.out).mono ?_); rintro e w' ⟨rfl, ⟨nd, rfl⟩⟩; (try clear A4); refine ⟨_, rfl, ?_⟩))
   go_ret
   exact ⟨zP, zD⟩
  ·replace c5 := Bool.eq_false_iff.mpr c5
   subst c5
   rw [if_neg (show ¬ (false = true) by decide)] at H
   obtain ⟨t203, A6, H⟩ := zO H
   by_cases c7 : t203 = true
   ·subst c7
    rw [if_pos rfl] at H
    obtain rfl := sI H
    go_enter Try.func78, Try.ntmps78
    go_wp2_with (first | ((with_reducible refine gate_callee (f := 88) rfl ?_); refine goesL_ (some 5) rfl rfl Try.func88 zK rfl #[.int .i32 a0, .int .i32 4352, .int .i32 19] rfl zM ?_; (with_reducible refine (hangul_within.calls a0 4352 19 false _ A2.out).mono ?_); rintro e w' ⟨rfl, ⟨nd, rfl⟩⟩; (try clear A2); refine ⟨_, rfl, ?_⟩) | ((with_reducible refine gate_callee (f := 88) rfl ?_); refine goesL_ (some 8) rfl rfl Try.func88 zK rfl #[.int .i32 a0, .int .i32 4449, .int .i32 21] rfl zM ?_; (with_reducible refine (hangul_within.calls a0 4449 21 false _ A4.out).mono ?_); rintro e w' ⟨rfl, ⟨nd, rfl⟩⟩; (try clear A4); refine ⟨_, rfl, ?_⟩) | ((with_reducible refine gate_callee (f := 88) rfl ?_); refine goesL_ (some 11) rfl rfl Try.func88 zK rfl #[.int .i32 a0, .int .i32 4520, .int .i32 27] rfl zM ?_; (with_reducible refine (hangul_within.calls a0 4520 27 true _ A6.out).mono ?_); rintro e w' ⟨rfl, ⟨nd, rfl⟩⟩; (try clear A6); refine ⟨_, rfl, ?_⟩))
    go_ret
    exact ⟨zP, zD⟩
   ·replace c7 := Bool.eq_false_iff.mpr c7
    subst c7
    rw [if_neg (show ¬ (false = true) by decide)] at H
    have HC8 := aM H
    clear H
    go_enter Try.func78, Try.ntmps78
    go_upto_region 7 with (first | ((with_reducible refine gate_callee (f := 88) rfl ?_); refine goesL_ (some 5) rfl rfl Try.func88 zK rfl #[.int .i32 a0, .int .i32 4352, .int .i32 19] rfl zM ?_; (with_reducible refine (hangul_within.calls a0 4352 19 false _ A2.out).mono ?_); rintro e w' ⟨rfl, ⟨nd, rfl⟩⟩; (try clear A2); refine ⟨_, rfl, ?_⟩) | ((with_reducible refine gate_callee (f := 88) rfl ?_); refine goesL_ (some 8) rfl rfl Try.func88 zK rfl #[.int .i32 a0, .int .i32 4449, .int .i32 21] rfl zM ?_; (with_reducible refine (hangul_within.calls a0 4449 21 false _ A4.out).mono ?_); rintro e w' ⟨rfl, ⟨nd, rfl⟩⟩; (try clear A4); refine ⟨_, rfl, ?_⟩) | ((with_reducible refine gate_callee (f := 88) rfl ?_); refine goesL_ (some 11) rfl rfl Try.func88 zK rfl #[.int .i32 a0, .int .i32 4520, .int .i32 27] rfl zM ?_; (with_reducible refine (hangul_within.calls a0 4520 27 false _ A6.out).mono ?_); rintro e w' ⟨rfl, ⟨nd, rfl⟩⟩; (try clear A6); refine ⟨_, rfl, ?_⟩))
    (try simp only [Act.put, List.setIfInBounds_toArray, List.set_cons_zero, List.set_cons_succ])
    go_cut [12] (fun v12 wc => ∃ (kq : Nat) (x12_7 : Bool), v12 = .bool x12_7 ∧ Aside0 (hangul_Part.j0 kq a0 x12_7 = some r) ∧ Aside0 (kq ≤ k) ∧ Drawn0 w wc)
    case first =>
     have H := HC8.out
     clear HC8
     obtain ⟨t204, A9, H⟩ := zO H
     by_cases c10 : t204 = true
     ·subst c10
      rw [if_pos rfl] at H
      have H' := aM H
      clear H
      go_wp2_with (first | ((with_reducible refine gate_callee (f := 49) rfl ?_); refine goesL_ (some 14) rfl rfl Try.func49 zK rfl #[.int .i32 a0] rfl zM ?_; (with_reducible refine (hangul_Syllable.calls a0 true _ A9.out).mono ?_); rintro e w' ⟨rfl, ⟨nd, rfl⟩⟩; (try clear A9); refine ⟨_, rfl, ?_⟩))
      go_meet
      case rel => exact ⟨_, (((Int.tmod (wrap32 (a0 - 44032)) 28) == 0)), zP, H', ⟨by first | omega | exact Nat.le_refl _⟩, zD⟩
     ·replace c10 := Bool.eq_false_iff.mpr c10
      subst c10
      rw [if_neg (show ¬ (false = true) by decide)] at H
      have H' := aM H
      clear H
      go_wp2_with (first | ((with_reducible refine gate_callee (f := 49) rfl ?_); refine goesL_ (some 14) rfl rfl Try.func49 zK rfl #[.int .i32 a0] rfl zM ?_; (with_reducible refine (hangul_Syllable.calls a0 false _ A9.out).mono ?_); rintro e w' ⟨rfl, ⟨nd, rfl⟩⟩; (try clear A9); refine ⟨_, rfl, ?_⟩))
      go_meet
      case rel => exact ⟨_, (false), zP, H', ⟨by first | omega | exact Nat.le_refl _⟩, zD⟩
    case rest =>
     clear HC8
     try clear c1
     try clear p2
     try clear c3
     try clear p3
     try clear c4
     try clear c5
     try clear c7
     try clear c8
     try clear c10
     obtain ⟨kq, x12_7, rfl, HA, HJ7, ⟨mc7, rfl⟩⟩ := hcut
     cases kq with
     | zero => exact absurd HA.out (by simp [hangul_Part.j0])
     | succ kj7 =>
      have H := HA.out
      clear HA
      simp only [hangul_Part.j0] at H
      by_cases c11 : x12_7 = true
      ·subst c11
       rw [if_pos rfl] at H
       obtain rfl := sI H
       go_wp2
       go_ret
       exact ⟨zP, zD⟩
      ·replace c11 := Bool.eq_false_iff.mpr c11
       subst c11
       rw [if_neg (show ¬ (false = true) by decide)] at H
       obtain ⟨t205, A12, H⟩ := zO H
       by_cases c13 : t205 = true
       ·subst c13
        rw [if_pos rfl] at H
        obtain rfl := sI H
        go_wp2_with (first | ((with_reducible refine gate_callee (f := 49) rfl ?_); refine goesL_ (some 23) rfl rfl Try.func49 zK rfl #[.int .i32 a0] rfl zM ?_; (with_reducible refine (hangul_Syllable.calls a0 true _ A12.out).mono ?_); rintro e w' ⟨rfl, ⟨nd, rfl⟩⟩; (try clear A12); refine ⟨_, rfl, ?_⟩))
        go_ret
        exact ⟨zP, zD⟩
       ·replace c13 := Bool.eq_false_iff.mpr c13
        subst c13
        rw [if_neg (show ¬ (false = true) by decide)] at H
        obtain rfl := sI H
        go_wp2_with (first | ((with_reducible refine gate_callee (f := 49) rfl ?_); refine goesL_ (some 23) rfl rfl Try.func49 zK rfl #[.int .i32 a0] rfl zM ?_; (with_reducible refine (hangul_Syllable.calls a0 false _ A12.out).mono ?_); rintro e w' ⟨rfl, ⟨nd, rfl⟩⟩; (try clear A12); refine ⟨_, rfl, ?_⟩))
        go_ret
        exact ⟨zP, zD⟩

/-! ### hangul_Join: function 63, by hand (hangul.Join.tpl) -/
def hangul_Join.f (k : Nat) (a0 : Int) (a1 : Int) : Option (Int × Bool) := (hangul_Part.f k a0).bind fun t1 => (hangul_Part.f k a1).bind fun t2 => (if t1 = 1 ∧ t2 = 2 then some (wrap32 (44032 + wrap32 (wrap32 (wrap32 (wrap32 (wrap32 (a0 - 4352) * 21) + a1) - 4449) * 28)), true) else if t1 = 4 ∧ t2 = 3 then some (wrap32 (wrap32 (wrap32 (a0 + a1) - 4520) + 1), true) else some (0, false))
theorem hangul_Join.mono : ∀ a0 a1 k, LeO (hangul_Join.f k a0 a1) (hangul_Join.f (k + 1) a0 a1) := by
  intro a0 a1 k
  unfold hangul_Join.f
  repeat' first
      | exact hangul_Part.mono _ _
      | exact LeO.refl _
      | refine LeO.ite ?_ ?_
      | refine LeO.bind ?_ (fun _ => ?_)
set_option maxHeartbeats 8000000 in
set_option maxRecDepth 100000 in
theorem hangul_Join.calls (k : Nat) (a0 : Int) (a1 : Int) (r1 : Int) (r2 : Bool) (w : World) (h : hangul_Join.f k a0 a1 = some (r1, r2)) :
    Calls Try.prog 63 #[.int .i32 a0, .int .i32 a1] w fun e w' => e = .returned (.tuple #[.int .i32 r1, .bool r2]) ∧ Drawn0 w w' := by
  have H := h
  clear h
  unfold hangul_Join.f at H
  replace H := Option.bind_eq_some_iff.mp H
  obtain ⟨t1, A1, H⟩ := H
  replace H := Option.bind_eq_some_iff.mp H
  obtain ⟨t2, A2, H⟩ := H
  have A1' := Aside0.mk A1
  have A2' := Aside0.mk A2
  clear A1 A2
  have hsz : ∀ w, (sizeOf 3).run Try.prog w = .ok 1 w := fun w => by kernel_rfl
  have E1 := fun (w : World) => run_eqA2 (P := Try.prog) w 92 3 Try.underlying92 Try.underlying3 hsz t1 t2 1 2
  have E2 := fun (w : World) => run_eqA2 (P := Try.prog) w 92 3 Try.underlying92 Try.underlying3 hsz t1 t2 4 3
  clear hsz
  by_cases c1 : t1 = 1 ∧ t2 = 2
  · rw [if_pos c1] at H
    have b1 : (t1 == 1 && t2 == 2) = true := by simp [c1]
    simp only [b1] at E1
    clear b1 c1
    simp only [Option.some.injEq, Prod.mk.injEq] at H
    obtain ⟨rfl, rfl⟩ := H
    go_enter Try.func63, Try.ntmps63
    go_wp2_with fail
    (with_reducible refine (hangul_Part.calls k a0 t1 _ A1'.out).mono ?_)
    rintro e w' ⟨rfl, ⟨nd, rfl⟩⟩
    go_wp2_with fail
    (with_reducible refine (hangul_Part.calls k a1 t2 _ A2'.out).mono ?_)
    rintro e w' ⟨rfl, ⟨nd, rfl⟩⟩
    go_wp2
    go_ret2
    exact ⟨by first | rfl | (simp; done) | (simp [*]; done), by repeat (first | exact Drawn0.refl _ | apply Drawn0.step)⟩
  · rw [if_neg c1] at H
    have b1 : (t1 == 1 && t2 == 2) = false := by simpa using c1
    simp only [b1] at E1
    clear b1 c1
    by_cases c2 : t1 = 4 ∧ t2 = 3
    · rw [if_pos c2] at H
      have b1 : (t1 == 4 && t2 == 3) = true := by simp [c2]
      simp only [b1] at E2
      clear b1 c2
      simp only [Option.some.injEq, Prod.mk.injEq] at H
      obtain ⟨rfl, rfl⟩ := H
      go_enter Try.func63, Try.ntmps63
      go_wp2_with fail
      (with_reducible refine (hangul_Part.calls k a0 t1 _ A1'.out).mono ?_)
      rintro e w' ⟨rfl, ⟨nd, rfl⟩⟩
      go_wp2_with fail
      (with_reducible refine (hangul_Part.calls k a1 t2 _ A2'.out).mono ?_)
      rintro e w' ⟨rfl, ⟨nd, rfl⟩⟩
      go_wp2
      go_ret2
      exact ⟨by first | rfl | (simp; done) | (simp [*]; done), by repeat (first | exact Drawn0.refl _ | apply Drawn0.step)⟩
    · rw [if_neg c2] at H
      have b1 : (t1 == 4 && t2 == 3) = false := by simpa using c2
      simp only [b1] at E2
      clear b1 c2
      simp only [Option.some.injEq, Prod.mk.injEq] at H
      obtain ⟨rfl, rfl⟩ := H
      go_enter Try.func63, Try.ntmps63
      go_wp2_with fail
      (with_reducible refine (hangul_Part.calls k a0 t1 _ A1'.out).mono ?_)
      rintro e w' ⟨rfl, ⟨nd, rfl⟩⟩
      go_wp2_with fail
      (with_reducible refine (hangul_Part.calls k a1 t2 _ A2'.out).mono ?_)
      rintro e w' ⟨rfl, ⟨nd, rfl⟩⟩
      go_wp2
      go_ret2
      exact ⟨by first | rfl | (simp; done) | (simp [*]; done), by repeat (first | exact Drawn0.refl _ | apply Drawn0.step)⟩

/-! ### letters_Made: function 64 -/
def letters_Made.l0 : Nat → Int → Int → List (S96) → Int → Int → Option (Int)
 | 0, _, _, _, _, _ => none
 | k + 1, x0, x1, x8, x9, x10 => if x10 < x9 then (if 0 ≤ x10 then (if x10 < (x8.length : Int) then ((letters_find.f k ((rd_T96 x8 x10).f2) x0).bind fun t211 => (if ((rd_T96 x8 x10).f0) = x1 then (if t211 ≥ 0 then ((letters_nth.f k ((rd_T96 x8 x10).f1) t211).bind fun t212 => (some t212)) else (letters_Made.l0 k x0 x1 x8 x9 (wrap64 (x10 + 1)))) else (letters_Made.l0 k x0 x1 x8 x9 (wrap64 (x10 + 1))))) else (none)) else (none)) else (some 0)
def letters_Made.f (k : Nat) (a0 : Int) (a1 : Int) : Option (Int) := (letters_Rows.f).bind fun t206 => (letters_Made.l0 k a0 a1 t206 (t206.length : Int) 0)
theorem letters_Made.mono_l : ∀ k, (∀ y0 y1 y2 y3 y4, LeO (letters_Made.l0 k y0 y1 y2 y3 y4) (letters_Made.l0 (k + 1) y0 y1 y2 y3 y4))
 | 0 => fun _ _ _ _ _ r h => by simp [letters_Made.l0] at h
 | k + 1 => by
  have ih0 := letters_Made.mono_l k
  ·intro y0 y1 y2 y3 y4
   unfold letters_Made.l0
   repeat' first
   | (with_reducible exact ih0 _ _ _ _ _)
   | (with_reducible exact letters_find.mono _ _ _)
   | (with_reducible exact letters_nth.mono _ _ _)
   | (with_reducible exact LeO.refl _)
   | exact ih0 _ _ _ _ _
   | exact letters_find.mono _ _ _
   | exact letters_nth.mono _ _ _
   | exact LeO.none _
   | refine LeO.ite ?_ ?_
   | refine LeO.bind ?_ (fun _ => ?_)
theorem letters_Made.mono : ∀ a0 a1 k, LeO (letters_Made.f k a0 a1) (letters_Made.f (k + 1) a0 a1) := by
 intro a0 a1 k
 have ih0 := letters_Made.mono_l k
 unfold letters_Made.f
 repeat' first
   | (with_reducible exact ih0 _ _ _ _ _)
   | (with_reducible exact letters_find.mono _ _ _)
   | (with_reducible exact letters_nth.mono _ _ _)
   | (with_reducible exact LeO.refl _)
   | exact ih0 _ _ _ _ _
   | exact letters_find.mono _ _ _
   | exact letters_nth.mono _ _ _
   | exact LeO.none _
   | refine LeO.ite ?_ ?_
   | refine LeO.bind ?_ (fun _ => ?_)
set_option maxHeartbeats 8000000 in
set_option maxRecDepth 100000 in
theorem letters_Made.calls (k : Nat) (a0 : Int) (a1 : Int) (r : Int) (w : World) (h : letters_Made.f k a0 a1 = some r) :
  Calls Try.prog 64 #[.int .i32 a0, .int .i32 a1] w fun e w' => e = .returned (.int .i32 r) ∧ Below w.heap.size w w' := by
 have hu96 := Try.underlying96
 have HB := aM (Below.refl w.heap.size w)
 have H : ((letters_Rows.f).bind fun t206 => (letters_Made.l0 k a0 a1 t206 (t206.length : Int) 0)) = some r := h
 clear h
 obtain ⟨t206, A3, H⟩ := zO H
 have H' := aM H
 clear H
 go_enter Try.func64, Try.ntmps64
 go_wp2_with (first | ((with_reducible refine gate_callee (f := 79) rfl ?_); refine goesL_ (some 8) rfl rfl Try.func79 zK rfl #[] rfl zM ?_; (with_reducible refine (letters_Rows.calls  t206 _ A3.out).mono ?_); rintro e w4 ⟨v207, rfl, ho0, hb⟩; refine ⟨_, rfl, ?_⟩; have n_ := zI (aM (Kd.R_lower ho0 (below_size zB))) (aM (below_step zB hb)); clear HB; obtain ⟨HO208, HB⟩ := n_; (try clear hb); (try clear ho0); obtain ⟨Ao5, co5, rfl⟩ := Kd.R_slice HO208.out))
 go_loopg [10] k (fun kq v10 w' => ∃ (x10_1 : Int), v10 = .int .i64 x10_1 ∧ Aside0 (letters_Made.l0 kq a0 a1 t206 (t206.length : Int) x10_1 = some r) ∧ Aside0 (kq ≤ k) ∧ Aside0 (Kd.R k96 96 w' w.heap.size (fun _ => True) (.slice Ao5 t206.length co5) t206) ∧ Aside0 (Below w.heap.size w w'))
 case atStart => exact ⟨(0), zP, H', ⟨Nat.le_refl _⟩, ⟨zR HO208⟩, ⟨zB⟩⟩
 case round =>
  clear H'
  try clear p2
  obtain ⟨x10_1, rfl, HA, HK1, HO_8, HB⟩ := hrel
  cases gk with
  | zero => exact absurd HA.out (by simp [letters_Made.l0])
  | succ k1 =>
   have H := HA.out
   clear HA
   simp only [letters_Made.l0] at H
   by_cases c6 : x10_1 < (t206.length : Int)
   ·rw [if_pos c6] at H
    have c6b0 : decide (x10_1 < (t206.length : Int)) = true := decide_eq_true c6
    clear c6
    by_cases c7 : 0 ≤ x10_1
    ·rw [if_pos c7] at H
     have c7b0 : decide (0 ≤ x10_1) = true := decide_eq_true c7
     clear c7
     by_cases c8 : x10_1 < (t206.length : Int)
     ·rw [if_pos c8] at H
      have c8b0 : decide (x10_1 < (t206.length : Int)) = true := decide_eq_true c8
      clear c8
      obtain ⟨t211, A9, H⟩ := zO H
      by_cases c10 : ((rd_T96 t206 x10_1).f0) = a1
      ·rw [if_pos c10] at H
       have c10b0 : (((rd_T96 t206 x10_1).f0) == a1) = true := beq_iff_eq.mpr c10
       have c10b1 : (((rd_T96 t206 x10_1).f0) != a1) = false := bne_eq_false_iff_eq.mpr c10
       clear c10
       by_cases c11 : t211 ≥ 0
       ·rw [if_pos c11] at H
        have c11b0 : decide (0 ≤ t211) = true := decide_eq_true c11
        clear c11
        obtain ⟨t212, A12, H⟩ := zO H
        obtain rfl := sI H
        have p209 : 0 ≤ (x10_1 : Int) := zoA
        have q209 : x10_1 < (t206.length : Int) := zoA
        obtain ⟨ad209, e209, hx209_0, hx209_1, hx209_2⟩ := at_T96 (Kd.R_reads' HO_8.out).2.2 x10_1 p209 q209
        cases e209
        replace p209 := eq_true p209
        replace q209 := eq_true q209
        go_wp2_with (first | ((with_reducible refine gate_dst (N := 6) rfl ?_); refine box_event ?hg (N := 6) ?hd (cs := #[.int .i32 0, .string (⟨#[]⟩ : ByteArray), .string (⟨#[]⟩ : ByteArray)]) (t := 96) ?hr ?_; (case hd => rfl); (case hg => rfl); (case hr => first | (go_simp; done) | (go_simp; rfl)); intro gb210 hg w13 hbox hb; have n_ := zI (aM (Kd.R_below (Kd.R_elderB (zR HO_8) gb210 (Nat.le_of_eq hg.symm)) hb)) (zI (aM (below_step zB hb)) (zI (aM (hbox)) (zI (aM ((by rw [hg]; exact (below_size zB) : w.heap.size ≤ gb210))) (aM ((by rw [hg]; exact (below_size zB) : w.heap.size ≤ gb210)))))); clear HO_8 HB; obtain ⟨HO_8, HB, BK210, GW210, GE210⟩ := n_; clear hb hbox hg; have hcz14_0 : w13.cell? ⟨gb210, 0, none⟩ = some (.int .i32 0) := (blk_cell BK210.out 0).trans rfl; have hcz14_1 : w13.cell? ⟨gb210, 1, none⟩ = some (.string (⟨#[]⟩ : ByteArray)) := (blk_cell BK210.out 1).trans rfl; have hcz14_2 : w13.cell? ⟨gb210, 2, none⟩ = some (.string (⟨#[]⟩ : ByteArray)) := (blk_cell BK210.out 2).trans rfl; have hfz14_0 := blk_frozen BK210.out 0; have hfz14_1 := blk_frozen BK210.out 1; have hfz14_2 := blk_frozen BK210.out 2) | ((with_reducible refine gate_callee (f := 80) rfl ?_); refine goesL_ (some 17) rfl rfl Try.func80 zK rfl #[.string ((rd_T96 t206 x10_1).f2), .int .i32 a0] rfl zM ?_; (with_reducible refine (letters_find.calls k1 ((rd_T96 t206 x10_1).f2) a0 t211 _ A9.out).mono ?_); rintro e w15 ⟨rfl, hb⟩; refine ⟨_, rfl, ?_⟩; have n_ := zI (aM (Kd.R_below (by (with_reducible repeat (first | apply Kd.R_alloc | apply Kd.R_drewN | apply Kd.R_drew)); exact (Kd.R_mono (Kd.R_far (p := ⟨gb210, 2, none⟩) (Kd.R_far (p := ⟨gb210, 1, none⟩) (Kd.R_far (p := ⟨gb210, 0, none⟩) (Kd.R_mono HO_8.out (fun k_ hk => (⟨hk, hk.2⟩ : _ ∧ k_ ≠ gb210))) (fun _ hk => hk.2) (.int .i32 ((rd_T96 t206 x10_1).f0))) (fun _ hk => hk.2) (.string ((rd_T96 t206 x10_1).f1))) (fun _ hk => hk.2) (.string ((rd_T96 t206 x10_1).f2))) (fun _ h_ => h_.1))) hb)) (zI (aM (blk_below (g := gb210) (o := .cells #[.int .i32 ((rd_T96 t206 x10_1).f0), .string ((rd_T96 t206 x10_1).f1), .string ((rd_T96 t206 x10_1).f2)] 96 (0, 0)) (by (with_reducible repeat (first | refine blk_drewN ?_ _ | refine blk_drew ?_ | refine blk_alloc ?_ _)); refine blk_put (cs := #[.int .i32 ((rd_T96 t206 x10_1).f0), .string ((rd_T96 t206 x10_1).f1), .string (⟨#[]⟩ : ByteArray)]) ?_ 2 _ rfl; (with_reducible repeat (first | refine blk_drewN ?_ _ | refine blk_drew ?_ | refine blk_alloc ?_ _)); refine blk_put (cs := #[.int .i32 ((rd_T96 t206 x10_1).f0), .string (⟨#[]⟩ : ByteArray), .string (⟨#[]⟩ : ByteArray)]) ?_ 1 _ rfl; (with_reducible repeat (first | refine blk_drewN ?_ _ | refine blk_drew ?_ | refine blk_alloc ?_ _)); refine blk_put (cs := #[.int .i32 0, .string (⟨#[]⟩ : ByteArray), .string (⟨#[]⟩ : ByteArray)]) ?_ 0 _ rfl; (with_reducible repeat (first | refine blk_drewN ?_ _ | refine blk_drew ?_ | refine blk_alloc ?_ _)); exact BK210.out) hb)) (aM (below_step (by repeat (first | (with_reducible first | exact HB.out | apply bA | apply bN | apply bD | refine below_set ?_ GE210.out) | exact HB.out)) hb))); clear HO_8 BK210 HB; obtain ⟨HO_8, BK210, HB⟩ := n_; (try clear hb); (try clear hk); have hcz16_0 : w15.cell? ⟨gb210, 0, none⟩ = some (.int .i32 ((rd_T96 t206 x10_1).f0)) := (blk_cell BK210.out 0).trans rfl; have hcz16_1 : w15.cell? ⟨gb210, 1, none⟩ = some (.string ((rd_T96 t206 x10_1).f1)) := (blk_cell BK210.out 1).trans rfl; have hcz16_2 : w15.cell? ⟨gb210, 2, none⟩ = some (.string ((rd_T96 t206 x10_1).f2)) := (blk_cell BK210.out 2).trans rfl; have hfz16_0 := blk_frozen BK210.out 0; have hfz16_1 := blk_frozen BK210.out 1; have hfz16_2 := blk_frozen BK210.out 2) | ((with_reducible refine gate_callee (f := 81) rfl ?_); refine goesL_ (some 29) rfl rfl Try.func81 zK rfl #[.string ((rd_T96 t206 x10_1).f1), .int .i64 t211] rfl zM ?_; (with_reducible refine (letters_nth.calls k1 ((rd_T96 t206 x10_1).f1) t211 t212 _ A12.out).mono ?_); rintro e w17 ⟨rfl, hb⟩; refine ⟨_, rfl, ?_⟩; have n_ := zI (aM (Kd.R_below (zR HO_8) hb)) (zI (aM (blk_below (g := gb210) (o := .cells #[.int .i32 ((rd_T96 t206 x10_1).f0), .string ((rd_T96 t206 x10_1).f1), .string ((rd_T96 t206 x10_1).f2)] 96 (0, 0)) (by (with_reducible repeat (first | refine blk_drewN ?_ _ | refine blk_drew ?_ | refine blk_alloc ?_ _)); exact BK210.out) hb)) (aM (below_step (by repeat (first | (with_reducible first | exact HB.out | apply bA | apply bN | apply bD | refine below_set ?_ GE210.out) | exact HB.out)) hb))); clear HO_8 BK210 HB; obtain ⟨HO_8, BK210, HB⟩ := n_; (try clear hb); (try clear hk)))
        go_ret
        exact ⟨zE, by repeat (first | (with_reducible first | exact HB.out | apply bA | apply bN | apply bD | refine below_set ?_ GE210.out) | exact HB.out)⟩
       ·rw [if_neg c11] at H
        have c11b0 : decide (0 ≤ t211) = false := decide_eq_false c11
        clear c11
        have H' := aM H
        clear H
        have p209 : 0 ≤ (x10_1 : Int) := zoA
        have q209 : x10_1 < (t206.length : Int) := zoA
        obtain ⟨ad209, e209, hx209_0, hx209_1, hx209_2⟩ := at_T96 (Kd.R_reads' HO_8.out).2.2 x10_1 p209 q209
        cases e209
        replace p209 := eq_true p209
        replace q209 := eq_true q209
        go_wp2_with (first | ((with_reducible refine gate_dst (N := 6) rfl ?_); refine box_event ?hg (N := 6) ?hd (cs := #[.int .i32 0, .string (⟨#[]⟩ : ByteArray), .string (⟨#[]⟩ : ByteArray)]) (t := 96) ?hr ?_; (case hd => rfl); (case hg => rfl); (case hr => first | (go_simp; done) | (go_simp; rfl)); intro gb210 hg w18 hbox hb; have n_ := zI (aM (Kd.R_below (Kd.R_elderB (zR HO_8) gb210 (Nat.le_of_eq hg.symm)) hb)) (zI (aM (below_step zB hb)) (zI (aM (hbox)) (zI (aM ((by rw [hg]; exact (below_size zB) : w.heap.size ≤ gb210))) (aM ((by rw [hg]; exact (below_size zB) : w.heap.size ≤ gb210)))))); clear HO_8 HB; obtain ⟨HO_8, HB, BK210, GW210, GE210⟩ := n_; clear hb hbox hg; have hcz19_0 : w18.cell? ⟨gb210, 0, none⟩ = some (.int .i32 0) := (blk_cell BK210.out 0).trans rfl; have hcz19_1 : w18.cell? ⟨gb210, 1, none⟩ = some (.string (⟨#[]⟩ : ByteArray)) := (blk_cell BK210.out 1).trans rfl; have hcz19_2 : w18.cell? ⟨gb210, 2, none⟩ = some (.string (⟨#[]⟩ : ByteArray)) := (blk_cell BK210.out 2).trans rfl; have hfz19_0 := blk_frozen BK210.out 0; have hfz19_1 := blk_frozen BK210.out 1; have hfz19_2 := blk_frozen BK210.out 2) | ((with_reducible refine gate_callee (f := 80) rfl ?_); refine goesL_ (some 17) rfl rfl Try.func80 zK rfl #[.string ((rd_T96 t206 x10_1).f2), .int .i32 a0] rfl zM ?_; (with_reducible refine (letters_find.calls k1 ((rd_T96 t206 x10_1).f2) a0 t211 _ A9.out).mono ?_); rintro e w20 ⟨rfl, hb⟩; refine ⟨_, rfl, ?_⟩; have n_ := zI (aM (Kd.R_below (by (with_reducible repeat (first | apply Kd.R_alloc | apply Kd.R_drewN | apply Kd.R_drew)); exact (Kd.R_mono (Kd.R_far (p := ⟨gb210, 2, none⟩) (Kd.R_far (p := ⟨gb210, 1, none⟩) (Kd.R_far (p := ⟨gb210, 0, none⟩) (Kd.R_mono HO_8.out (fun k_ hk => (⟨hk, hk.2⟩ : _ ∧ k_ ≠ gb210))) (fun _ hk => hk.2) (.int .i32 ((rd_T96 t206 x10_1).f0))) (fun _ hk => hk.2) (.string ((rd_T96 t206 x10_1).f1))) (fun _ hk => hk.2) (.string ((rd_T96 t206 x10_1).f2))) (fun _ h_ => h_.1))) hb)) (zI (aM (blk_below (g := gb210) (o := .cells #[.int .i32 ((rd_T96 t206 x10_1).f0), .string ((rd_T96 t206 x10_1).f1), .string ((rd_T96 t206 x10_1).f2)] 96 (0, 0)) (by (with_reducible repeat (first | refine blk_drewN ?_ _ | refine blk_drew ?_ | refine blk_alloc ?_ _)); refine blk_put (cs := #[.int .i32 ((rd_T96 t206 x10_1).f0), .string ((rd_T96 t206 x10_1).f1), .string (⟨#[]⟩ : ByteArray)]) ?_ 2 _ rfl; (with_reducible repeat (first | refine blk_drewN ?_ _ | refine blk_drew ?_ | refine blk_alloc ?_ _)); refine blk_put (cs := #[.int .i32 ((rd_T96 t206 x10_1).f0), .string (⟨#[]⟩ : ByteArray), .string (⟨#[]⟩ : ByteArray)]) ?_ 1 _ rfl; (with_reducible repeat (first | refine blk_drewN ?_ _ | refine blk_drew ?_ | refine blk_alloc ?_ _)); refine blk_put (cs := #[.int .i32 0, .string (⟨#[]⟩ : ByteArray), .string (⟨#[]⟩ : ByteArray)]) ?_ 0 _ rfl; (with_reducible repeat (first | refine blk_drewN ?_ _ | refine blk_drew ?_ | refine blk_alloc ?_ _)); exact BK210.out) hb)) (aM (below_step (by repeat (first | (with_reducible first | exact HB.out | apply bA | apply bN | apply bD | refine below_set ?_ GE210.out) | exact HB.out)) hb))); clear HO_8 BK210 HB; obtain ⟨HO_8, BK210, HB⟩ := n_; (try clear hb); (try clear hk); have hcz21_0 : w20.cell? ⟨gb210, 0, none⟩ = some (.int .i32 ((rd_T96 t206 x10_1).f0)) := (blk_cell BK210.out 0).trans rfl; have hcz21_1 : w20.cell? ⟨gb210, 1, none⟩ = some (.string ((rd_T96 t206 x10_1).f1)) := (blk_cell BK210.out 1).trans rfl; have hcz21_2 : w20.cell? ⟨gb210, 2, none⟩ = some (.string ((rd_T96 t206 x10_1).f2)) := (blk_cell BK210.out 2).trans rfl; have hfz21_0 := blk_frozen BK210.out 0; have hfz21_1 := blk_frozen BK210.out 1; have hfz21_2 := blk_frozen BK210.out 2))
        go_roundg k1
        case measure => have := HK1.out; omega
        case rel => exact ⟨(wrap64 (x10_1 + 1)), zP, H', ⟨by have := HK1.out; omega⟩, ⟨by (with_reducible repeat (first | apply Kd.R_alloc | apply Kd.R_drewN | apply Kd.R_drew)); exact Kd.R_mono HO_8.out (fun _ hk => trivial)⟩, ⟨by repeat (first | (with_reducible first | exact HB.out | apply bA | apply bN | apply bD | refine below_set ?_ GE210.out) | exact HB.out)⟩⟩
      ·rw [if_neg c10] at H
       have c10b0 : (((rd_T96 t206 x10_1).f0) == a1) = false := beq_eq_false_iff_ne.mpr c10
       have c10b1 : (((rd_T96 t206 x10_1).f0) != a1) = true := bne_iff_ne.mpr c10
       have H' := aM H
       clear H
       have p209 : 0 ≤ (x10_1 : Int) := zoA
       have q209 : x10_1 < (t206.length : Int) := zoA
       obtain ⟨ad209, e209, hx209_0, hx209_1, hx209_2⟩ := at_T96 (Kd.R_reads' HO_8.out).2.2 x10_1 p209 q209
       cases e209
       replace p209 := eq_true p209
       replace q209 := eq_true q209
       go_wp2_with (first | ((with_reducible refine gate_dst (N := 6) rfl ?_); refine box_event ?hg (N := 6) ?hd (cs := #[.int .i32 0, .string (⟨#[]⟩ : ByteArray), .string (⟨#[]⟩ : ByteArray)]) (t := 96) ?hr ?_; (case hd => rfl); (case hg => rfl); (case hr => first | (go_simp; done) | (go_simp; rfl)); intro gb210 hg w22 hbox hb; have n_ := zI (aM (Kd.R_below (Kd.R_elderB (zR HO_8) gb210 (Nat.le_of_eq hg.symm)) hb)) (zI (aM (below_step zB hb)) (zI (aM (hbox)) (zI (aM ((by rw [hg]; exact (below_size zB) : w.heap.size ≤ gb210))) (aM ((by rw [hg]; exact (below_size zB) : w.heap.size ≤ gb210)))))); clear HO_8 HB; obtain ⟨HO_8, HB, BK210, GW210, GE210⟩ := n_; clear hb hbox hg; have hcz23_0 : w22.cell? ⟨gb210, 0, none⟩ = some (.int .i32 0) := (blk_cell BK210.out 0).trans rfl; have hcz23_1 : w22.cell? ⟨gb210, 1, none⟩ = some (.string (⟨#[]⟩ : ByteArray)) := (blk_cell BK210.out 1).trans rfl; have hcz23_2 : w22.cell? ⟨gb210, 2, none⟩ = some (.string (⟨#[]⟩ : ByteArray)) := (blk_cell BK210.out 2).trans rfl; have hfz23_0 := blk_frozen BK210.out 0; have hfz23_1 := blk_frozen BK210.out 1; have hfz23_2 := blk_frozen BK210.out 2) | ((with_reducible refine gate_callee (f := 80) rfl ?_); refine goesL_ (some 17) rfl rfl Try.func80 zK rfl #[.string ((rd_T96 t206 x10_1).f2), .int .i32 a0] rfl zM ?_; (with_reducible refine (letters_find.calls k1 ((rd_T96 t206 x10_1).f2) a0 t211 _ A9.out).mono ?_); rintro e w24 ⟨rfl, hb⟩; refine ⟨_, rfl, ?_⟩; have n_ := zI (aM (Kd.R_below (by (with_reducible repeat (first | apply Kd.R_alloc | apply Kd.R_drewN | apply Kd.R_drew)); exact (Kd.R_mono (Kd.R_far (p := ⟨gb210, 2, none⟩) (Kd.R_far (p := ⟨gb210, 1, none⟩) (Kd.R_far (p := ⟨gb210, 0, none⟩) (Kd.R_mono HO_8.out (fun k_ hk => (⟨hk, hk.2⟩ : _ ∧ k_ ≠ gb210))) (fun _ hk => hk.2) (.int .i32 ((rd_T96 t206 x10_1).f0))) (fun _ hk => hk.2) (.string ((rd_T96 t206 x10_1).f1))) (fun _ hk => hk.2) (.string ((rd_T96 t206 x10_1).f2))) (fun _ h_ => h_.1))) hb)) (zI (aM (blk_below (g := gb210) (o := .cells #[.int .i32 ((rd_T96 t206 x10_1).f0), .string ((rd_T96 t206 x10_1).f1), .string ((rd_T96 t206 x10_1).f2)] 96 (0, 0)) (by (with_reducible repeat (first | refine blk_drewN ?_ _ | refine blk_drew ?_ | refine blk_alloc ?_ _)); refine blk_put (cs := #[.int .i32 ((rd_T96 t206 x10_1).f0), .string ((rd_T96 t206 x10_1).f1), .string (⟨#[]⟩ : ByteArray)]) ?_ 2 _ rfl; (with_reducible repeat (first | refine blk_drewN ?_ _ | refine blk_drew ?_ | refine blk_alloc ?_ _)); refine blk_put (cs := #[.int .i32 ((rd_T96 t206 x10_1).f0), .string (⟨#[]⟩ : ByteArray), .string (⟨#[]⟩ : ByteArray)]) ?_ 1 _ rfl; (with_reducible repeat (first | refine blk_drewN ?_ _ | refine blk_drew ?_ | refine blk_alloc ?_ _)); refine blk_put (cs := #[.int .i32 0, .string (⟨#[]⟩ : ByteArray), .string (⟨#[]⟩ : ByteArray)]) ?_ 0 _ rfl; (with_reducible repeat (first | refine blk_drewN ?_ _ | refine blk_drew ?_ | refine blk_alloc ?_ _)); exact BK210.out) hb)) (aM (below_step (by repeat (first | (with_reducible first | exact HB.out | apply bA | apply bN | apply bD | refine below_set ?_ GE210.out) | exact HB.out)) hb))); clear HO_8 BK210 HB; obtain ⟨HO_8, BK210, HB⟩ := n_; (try clear hb); (try clear hk); have hcz25_0 : w24.cell? ⟨gb210, 0, none⟩ = some (.int .i32 ((rd_T96 t206 x10_1).f0)) := (blk_cell BK210.out 0).trans rfl; have hcz25_1 : w24.cell? ⟨gb210, 1, none⟩ = some (.string ((rd_T96 t206 x10_1).f1)) := (blk_cell BK210.out 1).trans rfl; have hcz25_2 : w24.cell? ⟨gb210, 2, none⟩ = some (.string ((rd_T96 t206 x10_1).f2)) := (blk_cell BK210.out 2).trans rfl; have hfz25_0 := blk_frozen BK210.out 0; have hfz25_1 := blk_frozen BK210.out 1; have hfz25_2 := blk_frozen BK210.out 2))
       go_roundg k1
       case measure => have := HK1.out; omega
       case rel => exact ⟨(wrap64 (x10_1 + 1)), zP, H', ⟨by have := HK1.out; omega⟩, ⟨by (with_reducible repeat (first | apply Kd.R_alloc | apply Kd.R_drewN | apply Kd.R_drew)); exact Kd.R_mono HO_8.out (fun _ hk => trivial)⟩, ⟨by repeat (first | (with_reducible first | exact HB.out | apply bA | apply bN | apply bD | refine below_set ?_ GE210.out) | exact HB.out)⟩⟩
     ·rw [if_neg c8] at H
      exact absurd H (by simp)
    ·rw [if_neg c7] at H
     exact absurd H (by simp)
   ·rw [if_neg c6] at H
    have c6b0 : decide (x10_1 < (t206.length : Int)) = false := decide_eq_false c6
    clear c6
    obtain rfl := sI H
    go_wp2
    go_ret
    exact ⟨zE, zB⟩

/-! ### compose_Pair: function 42 -/
def compose_Pair.f (k : Nat) (a0 : Int) (a1 : Int) : Option (Int × Bool) := (hangul_Join.f k a0 a1).bind fun bt213 => (if bt213.2 = true then (some (bt213.1, true)) else ((chars_Class.f k a1).bind fun t215 => (if t215 > 0 then ((letters_Made.f k a0 a1).bind fun t216 => (some (t216, (t216 != 0)))) else (some (0, (0 != 0))))))
theorem compose_Pair.mono : ∀ a0 a1 k, LeO (compose_Pair.f k a0 a1) (compose_Pair.f (k + 1) a0 a1) := by
 intro a0 a1 k
 unfold compose_Pair.f
 repeat' first
   | (with_reducible exact chars_Class.mono _ _)
   | (with_reducible exact hangul_Join.mono _ _ _)
   | (with_reducible exact letters_Made.mono _ _ _)
   | (with_reducible exact LeO.refl _)
   | exact chars_Class.mono _ _
   | exact hangul_Join.mono _ _ _
   | exact letters_Made.mono _ _ _
   | exact LeO.none _
   | refine LeO.ite ?_ ?_
   | refine LeO.bind ?_ (fun _ => ?_)
set_option maxHeartbeats 8000000 in
set_option maxRecDepth 100000 in
theorem compose_Pair.calls (k : Nat) (a0 : Int) (a1 : Int) (r1 : Int) (r2 : Bool) (w : World) (h : compose_Pair.f k a0 a1 = some (r1, r2)) :
  Calls Try.prog 42 #[.int .i32 a0, .int .i32 a1] w fun e w' => e = .returned (.tuple #[.int .i32 r1, .bool r2]) ∧ Below w.heap.size w w' := by
 have HB := aM (Below.refl w.heap.size w)
 have H : ((hangul_Join.f k a0 a1).bind fun bt213 => (if bt213.2 = true then (some (bt213.1, true)) else ((chars_Class.f k a1).bind fun t215 => (if t215 > 0 then ((letters_Made.f k a0 a1).bind fun t216 => (some (t216, (t216 != 0)))) else (some (0, (0 != 0))))))) = some (r1, r2) := h
 clear h
 obtain ⟨⟨t213, t214⟩, A3, H⟩ := zO H
 try dsimp only at H
 by_cases c4 : t214 = true
 ·subst c4
  rw [if_pos rfl] at H
  simp only [Option.some.injEq, Prod.mk.injEq] at H
  obtain ⟨rfl, rfl⟩ := H
  go_enter Try.func42, Try.ntmps42
  go_wp2_with (first | ((with_reducible refine gate_callee (f := 63) rfl ?_); refine goesL_ (some 12) rfl rfl Try.func63 zK rfl #[.int .i32 a0, .int .i32 a1] rfl zM ?_; (with_reducible refine (hangul_Join.calls k a0 a1 t213 true _ A3.out).mono ?_); rintro e w' ⟨rfl, ⟨nd, rfl⟩⟩; refine ⟨_, rfl, ?_⟩))
  go_ret2
  exact ⟨zE, zB⟩
 ·replace c4 := Bool.eq_false_iff.mpr c4
  subst c4
  rw [if_neg (show ¬ (false = true) by decide)] at H
  obtain ⟨t215, A5, H⟩ := zO H
  by_cases c6 : t215 > 0
  ·rw [if_pos c6] at H
   have c6b0 : decide (0 < t215) = true := decide_eq_true c6
   clear c6
   obtain ⟨t216, A7, H⟩ := zO H
   simp only [Option.some.injEq, Prod.mk.injEq] at H
   obtain ⟨rfl, rfl⟩ := H
   go_enter Try.func42, Try.ntmps42
   go_wp2_with (first | ((with_reducible refine gate_callee (f := 63) rfl ?_); refine goesL_ (some 12) rfl rfl Try.func63 zK rfl #[.int .i32 a0, .int .i32 a1] rfl zM ?_; (with_reducible refine (hangul_Join.calls k a0 a1 t213 false _ A3.out).mono ?_); rintro e w' ⟨rfl, ⟨nd, rfl⟩⟩; refine ⟨_, rfl, ?_⟩) | ((with_reducible refine gate_callee (f := 31) rfl ?_); refine goesL_ (some 18) rfl rfl Try.func31 zK rfl #[.int .i32 a1] rfl zM ?_; (with_reducible refine (chars_Class.calls k a1 t215 _ A5.out).mono ?_); rintro e w' ⟨rfl, ⟨nd, rfl⟩⟩; refine ⟨_, rfl, ?_⟩) | ((with_reducible refine gate_callee (f := 64) rfl ?_); refine goesL_ (some 22) rfl rfl Try.func64 zK rfl #[.int .i32 a0, .int .i32 a1] rfl zM ?_; (with_reducible refine (letters_Made.calls k a0 a1 t216 _ A7.out).mono ?_); rintro e w8 ⟨rfl, hb⟩; refine ⟨_, rfl, ?_⟩; replace HB := aM (below_step zB hb); (try clear hb)))
   go_ret2
   exact ⟨zE, zB⟩
  ·rw [if_neg c6] at H
   have c6b0 : decide (0 < t215) = false := decide_eq_false c6
   clear c6
   simp only [Option.some.injEq, Prod.mk.injEq] at H
   obtain ⟨rfl, rfl⟩ := H
   go_enter Try.func42, Try.ntmps42
   go_wp2_with (first | ((with_reducible refine gate_callee (f := 63) rfl ?_); refine goesL_ (some 12) rfl rfl Try.func63 zK rfl #[.int .i32 a0, .int .i32 a1] rfl zM ?_; (with_reducible refine (hangul_Join.calls k a0 a1 t213 false _ A3.out).mono ?_); rintro e w' ⟨rfl, ⟨nd, rfl⟩⟩; refine ⟨_, rfl, ?_⟩) | ((with_reducible refine gate_callee (f := 31) rfl ?_); refine goesL_ (some 18) rfl rfl Try.func31 zK rfl #[.int .i32 a1] rfl zM ?_; (with_reducible refine (chars_Class.calls k a1 t215 _ A5.out).mono ?_); rintro e w' ⟨rfl, ⟨nd, rfl⟩⟩; refine ⟨_, rfl, ?_⟩))
   go_ret2
   exact ⟨zE, zB⟩

/-! ### compose_All: function 24 -/
mutual
def compose_All.l0 : Nat → List Int → Int → Int → List Int → Int → Int → Option (List Int)
 | 0, _, _, _, _, _, _ => none
 | k + 1, x3, x4, x5, x11, x12, x13 => if x13 < x12 then (if 0 ≤ x13 then (if x13 < (x11.length : Int) then ((chars_Class.f k (rd x11 x13)).bind fun t218 => (if x4 ≥ 0 then (compose_All.j1 k x3 x4 x5 (rd x11 x13) t218 x11 x12 x13 (decide (x5 < t218))) else (compose_All.j1 k x3 x4 x5 (rd x11 x13) t218 x11 x12 x13 false))) else (none)) else (none)) else (some x3)
def compose_All.j1 : Nat → List Int → Int → Int → Int → Int → List Int → Int → Int → Bool → Option (List Int)
 | 0, _, _, _, _, _, _, _, _, _ => none
 | k + 1, x3, x4, x5, x7, x8, x11, x12, x13, x25 => if x25 = true then (if 0 ≤ x4 then (if x4 < (x3.length : Int) then ((compose_Pair.f k (rd x3 x4) x7).bind fun bt220 => (if bt220.2 = true then (compose_All.l0 k (x3.set (x4 : Int).toNat bt220.1) x4 x5 x11 x12 (wrap64 (x13 + 1))) else (if x3.length < 35184372088832 then ((some (x3 ++ [x7] : List Int)).bind fun y223 => (if x8 = 0 then (compose_All.l0 k y223 (wrap64 ((y223.length : Int) - 1)) (-1) x11 x12 (wrap64 (x13 + 1))) else (compose_All.l0 k y223 x4 (mx x5 x8) x11 x12 (wrap64 (x13 + 1))))) else (none)))) else (none)) else (none)) else (if x3.length < 35184372088832 then ((some (x3 ++ [x7] : List Int)).bind fun y226 => (if x8 = 0 then (compose_All.l0 k y226 (wrap64 ((y226.length : Int) - 1)) (-1) x11 x12 (wrap64 (x13 + 1))) else (compose_All.l0 k y226 x4 (mx x5 x8) x11 x12 (wrap64 (x13 + 1))))) else (none))
end
def compose_All.f (k : Nat) (l0 : List Int) : Option (List Int) := compose_All.l0 k ([] : List Int) (-1) (-1) l0 (l0.length : Int) 0
theorem compose_All.mono_l : ∀ k, (∀ y0 y1 y2 y3 y4 y5, LeO (compose_All.l0 k y0 y1 y2 y3 y4 y5) (compose_All.l0 (k + 1) y0 y1 y2 y3 y4 y5)) ∧ (∀ y0 y1 y2 y3 y4 y5 y6 y7 y8, LeO (compose_All.j1 k y0 y1 y2 y3 y4 y5 y6 y7 y8) (compose_All.j1 (k + 1) y0 y1 y2 y3 y4 y5 y6 y7 y8))
 | 0 => ⟨fun _ _ _ _ _ _ r h => by simp [compose_All.l0] at h, fun _ _ _ _ _ _ _ _ _ r h => by simp [compose_All.j1] at h⟩
 | k + 1 => by
  obtain ⟨ih0, ih1⟩ := compose_All.mono_l k
  refine ⟨?_, ?_⟩
  ·intro y0 y1 y2 y3 y4 y5
   unfold compose_All.l0
   repeat' first
   | (with_reducible exact ih0 _ _ _ _ _ _)
   | (with_reducible exact ih1 _ _ _ _ _ _ _ _ _)
   | (with_reducible exact chars_Class.mono _ _)
   | (with_reducible exact compose_Pair.mono _ _ _)
   | (with_reducible exact LeO.refl _)
   | exact ih0 _ _ _ _ _ _
   | exact ih1 _ _ _ _ _ _ _ _ _
   | exact chars_Class.mono _ _
   | exact compose_Pair.mono _ _ _
   | exact LeO.none _
   | refine LeO.ite ?_ ?_
   | refine LeO.bind ?_ (fun _ => ?_)
  ·intro y0 y1 y2 y3 y4 y5 y6 y7 y8
   unfold compose_All.j1
   repeat' first
   | (with_reducible exact ih0 _ _ _ _ _ _)
   | (with_reducible exact ih1 _ _ _ _ _ _ _ _ _)
   | (with_reducible exact chars_Class.mono _ _)
   | (with_reducible exact compose_Pair.mono _ _ _)
   | (with_reducible exact LeO.refl _)
   | exact ih0 _ _ _ _ _ _
   | exact ih1 _ _ _ _ _ _ _ _ _
   | exact chars_Class.mono _ _
   | exact compose_Pair.mono _ _ _
   | exact LeO.none _
   | refine LeO.ite ?_ ?_
   | refine LeO.bind ?_ (fun _ => ?_)
theorem compose_All.mono : ∀ a0 k, LeO (compose_All.f k a0) (compose_All.f (k + 1) a0) := by
 intro a0 k
 obtain ⟨ih0, ih1⟩ := compose_All.mono_l k
 unfold compose_All.f
 repeat' first
   | (with_reducible exact ih0 _ _ _ _ _ _)
   | (with_reducible exact ih1 _ _ _ _ _ _ _ _ _)
   | (with_reducible exact chars_Class.mono _ _)
   | (with_reducible exact compose_Pair.mono _ _ _)
   | (with_reducible exact LeO.refl _)
   | exact ih0 _ _ _ _ _ _
   | exact ih1 _ _ _ _ _ _ _ _ _
   | exact chars_Class.mono _ _
   | exact compose_Pair.mono _ _ _
   | exact LeO.none _
   | refine LeO.ite ?_ ?_
   | refine LeO.bind ?_ (fun _ => ?_)
set_option maxHeartbeats 8000000 in
set_option maxRecDepth 100000 in
theorem compose_All.calls (k : Nat) (A0 : Option Addr) (c0 : Nat) (l0 : List Int) (r : List Int) (w : World) (hr0 : Kd.C (Kd.int .i32) w A0 l0.length l0) (hc0 : l0.length ≤ c0) (h : compose_All.f k l0 = some r) :
  Calls Try.prog 24 #[.slice A0 l0.length c0] w fun e w' => ∃ v0_ : Value, e = .returned (v0_) ∧ Kd.R (Kd.int .i32) 21 w' w.heap.size (fun _ => True) v0_ r ∧ Below w.heap.size w w' := by
 have HR0 := aM hr0
 have HC0 := aM hc0
 clear hr0 hc0
 have HB := aM (Below.refl w.heap.size w)
 have H : (compose_All.l0 k ([] : List Int) (-1) (-1) l0 (l0.length : Int) 0) = some r := h
 clear h
 have H' := aM H
 clear H
 go_enter Try.func24, Try.ntmps24
 go_wp2
 (repeat (go_step3; try (go_wp2)))
 go_loopg [3, 4, 5, 13] k (fun kq v3 v4 v5 v13 w' => ∃ (x3_1 : List Int) (x4_1 : Int) (x5_1 : Int) (x13_1 : Int), v4 = .int .i64 x4_1 ∧ v5 = .int .i64 x5_1 ∧ v13 = .int .i64 x13_1 ∧ Aside0 (compose_All.l0 kq x3_1 x4_1 x5_1 l0 (l0.length : Int) x13_1 = some r) ∧ Aside0 (kq ≤ k) ∧ Aside0 (Kd.R (Kd.int .i32) 21 w' w.heap.size (fun _ => True) v3 x3_1) ∧ Aside0 (Below w.heap.size w w'))
 case atStart => exact ⟨(([] : List Int)), ((-1)), ((-1)), (0), zP, zP, zP, H', ⟨Nat.le_refl _⟩, ⟨zL⟩, ⟨zB⟩⟩
 case round =>
  clear H'
  obtain ⟨x3_1, x4_1, x5_1, x13_1, rfl, rfl, rfl, HA, HK1, HO_3, HB⟩ := hrel
  cases gk with
  | zero => exact absurd HA.out (by simp [compose_All.l0])
  | succ k1 =>
   have H := HA.out
   clear HA
   simp only [compose_All.l0] at H
   by_cases c2 : x13_1 < (l0.length : Int)
   ·rw [if_pos c2] at H
    have c2b0 : decide (x13_1 < (l0.length : Int)) = true := decide_eq_true c2
    clear c2
    by_cases c3 : 0 ≤ x13_1
    ·rw [if_pos c3] at H
     have c3b0 : decide (0 ≤ x13_1) = true := decide_eq_true c3
     clear c3
     by_cases c4 : x13_1 < (l0.length : Int)
     ·rw [if_pos c4] at H
      have c4b0 : decide (x13_1 < (l0.length : Int)) = true := decide_eq_true c4
      clear c4
      obtain ⟨t218, A5, H⟩ := zO H
      have HC6 := aM H
      clear H
      have p217 : 0 ≤ (x13_1 : Int) := zoA
      have q217 : x13_1 < (l0.length : Int) := zoA
      obtain ⟨ad217, e217, hx217_0⟩ := Kd.at_int HR0.out x13_1 p217 q217
      cases e217
      replace hx217_0 := (HB.out.cell (World.block_lt_of_cell? w _ hx217_0)).trans hx217_0
      replace p217 := eq_true p217
      replace q217 := eq_true q217
      go_upto_region 7 with (first | ((with_reducible refine gate_callee (f := 31) rfl ?_); refine goesL_ (some 18) rfl rfl Try.func31 zK rfl #[.int .i32 (rd l0 x13_1)] rfl zM ?_; (with_reducible refine (chars_Class.calls k1 (rd l0 x13_1) t218 _ A5.out).mono ?_); rintro e w' ⟨rfl, ⟨nd, rfl⟩⟩; refine ⟨_, rfl, ?_⟩))
      (try simp only [Act.put, List.setIfInBounds_toArray, List.set_cons_zero, List.set_cons_succ])
      go_cut [25] (fun v25 wc => ∃ (kq : Nat) (x25_5 : Bool), v25 = .bool x25_5 ∧ Aside0 (compose_All.j1 kq x3_1 x4_1 x5_1 (rd l0 x13_1) t218 l0 (l0.length : Int) x13_1 x25_5 = some r) ∧ Aside0 (kq ≤ k1) ∧ Aside0 (Kd.R (Kd.int .i32) 21 wc w.heap.size (fun _ => True) u3 x3_1) ∧ Aside0 (Below w.heap.size w wc))
      case first =>
       have H := HC6.out
       clear HC6
       by_cases c7 : x4_1 ≥ 0
       ·rw [if_pos c7] at H
        have c7b0 : decide (0 ≤ x4_1) = true := decide_eq_true c7
        clear c7
        (first | rw [c7b0] | (simp only [i64_w, i32_w]; rw [c7b0]) | skip)
        have H' := aM H
        clear H
        go_wp2
        go_meet
        case rel => exact ⟨_, (decide (x5_1 < t218)), zP, H', ⟨by have := HK1.out; first | omega | exact Nat.le_refl _⟩, ⟨zR HO_3⟩, ⟨zB⟩⟩
       ·rw [if_neg c7] at H
        have c7b0 : decide (0 ≤ x4_1) = false := decide_eq_false c7
        clear c7
        (first | rw [c7b0] | (simp only [i64_w, i32_w]; rw [c7b0]) | skip)
        have H' := aM H
        clear H
        go_wp2
        go_meet
        case rel => exact ⟨_, (false), zP, H', ⟨by have := HK1.out; first | omega | exact Nat.le_refl _⟩, ⟨zR HO_3⟩, ⟨zB⟩⟩
      case rest =>
       clear HC6
       try clear c2
       try clear c2b0
       try clear p2
       try clear q2
       try clear hx2
       try clear c3
       try clear c3b0
       try clear c4
       try clear c4b0
       try clear c7
       try clear c7b0
       try clear hx217_0
       try clear p217
       try clear q217
       obtain ⟨kq, x25_5, rfl, HA, HJ5, HO_3, HB⟩ := hcut
       cases kq with
       | zero => exact absurd HA.out (by simp [compose_All.j1])
       | succ kj5 =>
        have H := HA.out
        clear HA
        simp only [compose_All.j1] at H
        by_cases c8 : x25_5 = true
        ·subst c8
         rw [if_pos rfl] at H
         by_cases c9 : 0 ≤ x4_1
         ·rw [if_pos c9] at H
          have c9b0 : decide (0 ≤ x4_1) = true := decide_eq_true c9
          clear c9
          by_cases c10 : x4_1 < (x3_1.length : Int)
          ·rw [if_pos c10] at H
           have c10b0 : decide (x4_1 < (x3_1.length : Int)) = true := decide_eq_true c10
           clear c10
           obtain ⟨⟨t220, t221⟩, A11, H⟩ := zO H
           try dsimp only at H
           by_cases c12 : t221 = true
           ·subst c12
            rw [if_pos rfl] at H
            obtain ⟨y222, hy222⟩ : ∃ y_ : List Int, y_ = (x3_1.set (x4_1 : Int).toNat t220) := ⟨_, rfl⟩
            replace H : (compose_All.l0 kj5 y222 x4_1 x5_1 l0 (l0.length : Int) (wrap64 (x13_1 + 1))) = some r := zY hy222 H
            have Ny222 := aM hy222
            clear hy222
            have H' := aM H
            clear H
            obtain ⟨Ao14, co14, eo14⟩ := Kd.R_slice HO_3.out
            subst eo14
            have p219 : 0 ≤ (x4_1 : Int) := zoA
            have q219 : x4_1 < (x3_1.length : Int) := zoA
            obtain ⟨ad219, e219, hx219_0⟩ := Kd.at_int (Kd.R_reads' HO_3.out).2.2 x4_1 p219 q219
            cases e219
            replace p219 := eq_true p219
            replace q219 := eq_true q219
            go_wp2_with (first | ((with_reducible refine gate_callee (f := 42) rfl ?_); refine goesL_ (some 32) rfl rfl Try.func42 zK rfl #[.int .i32 (rd x3_1 x4_1), .int .i32 (rd l0 x13_1)] rfl zM ?_; (with_reducible refine (compose_Pair.calls kj5 (rd x3_1 x4_1) (rd l0 x13_1) t220 true _ A11.out).mono ?_); rintro e w15 ⟨rfl, hb⟩; refine ⟨_, rfl, ?_⟩; have n_ := zI (aM (Kd.R_below (zR HO_3) hb)) (aM (below_step zB hb)); clear HO_3 HB; obtain ⟨HO_3, HB⟩ := n_; (try clear hb); have p13 : 0 ≤ (x4_1 : Int) := zoA; have q13 : (x4_1 : Int) < ((x3_1.length : Int) : Int) := zoA; obtain ⟨go13, co13, eo13, gb13, gl13, cl13, HG13⟩ := Kd.R_form HO_3.out (by omega); (first | cases eo13 | (injection eo13 with ea_ en_ ec_; (first | subst ea_ | (injection ea_ with ea_; subst ea_)); subst ec_; clear en_)); have GB13 := aM gb13; have GG13 := aM HG13; clear gb13 gl13 HG13; (first | simp only [add_plain] at hx219_0 | skip); obtain ⟨hx13_0, hf13_0⟩ := Kd.R_celln 0 HO_3.out (x4_1 : Int) p13 q13; replace p13 := eq_true p13; replace q13 := eq_true q13; obtain ⟨hy16_, hz16_⟩ := Kd.R_celln 0 HO_3.out (x4_1 : Int) (zoA) (zoA); have HP16 := Kd.R_putg HO_3.out (x4_1 : Int) t220) | ((with_reducible refine gate_store (t := 21) (p := 39) rfl ?_); refine store_event (t := 21) (p := 39) (v := ?vo_w17) (w1 := (w15.setCell ⟨go13, (x4_1 : Int).toNat, none⟩ (.int .i32 t220))) ?hg ?ho ?hn ?hr ?_; (case ho => rfl); (case hg => rfl); (case hn => rfl); (case hr => first | (go_simp; done) | (go_simp; rfl)); intro w17 hw; have hg : w15.grownBy w17 (some go13) := (by rw [hw]; exact HP16.2); have hp_ : Kd.R (Kd.int .i32) 21 w17 w.heap.size (fun _ => True) (.slice (some ⟨go13, 0, none⟩) x3_1.length co14) y222 := (by rw [hw, Ny222.out]; exact HP16.1); clear HP16; have n_ := zI (aM (hp_)) (aM ((by rw [hw]; exact below_set (HB.out) GB13.out : Below w.heap.size w w17))); clear HO_3 HB; obtain ⟨HO_3, HB⟩ := n_; clear hg hw hp_))
            go_roundg kj5
            case measure => have := HK1.out; have := HJ5.out; omega
            case rel => exact ⟨(y222), (x4_1), (x5_1), (wrap64 (x13_1 + 1)), zP, zP, zP, H', ⟨by have := HK1.out; have := HJ5.out; omega⟩, ⟨zR HO_3⟩, ⟨zB⟩⟩
           ·replace c12 := Bool.eq_false_iff.mpr c12
            subst c12
            rw [if_neg (show ¬ (false = true) by decide)] at H
            by_cases c18 : x3_1.length < 35184372088832
            ·rw [if_pos c18] at H
             have LMc18 := aM c18
             clear c18
             obtain ⟨y223, hy223⟩ : ∃ y_ : List Int, y_ = (x3_1 ++ [(rd l0 x13_1)]) := ⟨_, rfl⟩
             replace H : (if t218 = 0 then (compose_All.l0 kj5 y223 (wrap64 ((y223.length : Int) - 1)) (-1) l0 (l0.length : Int) (wrap64 (x13_1 + 1))) else (compose_All.l0 kj5 y223 x4_1 (mx x5_1 t218) l0 (l0.length : Int) (wrap64 (x13_1 + 1)))) = some r := zY hy223 H
             have Ny223 := aM hy223
             clear hy223
             by_cases c19 : t218 = 0
             ·rw [if_pos c19] at H
              have c19b0 : (t218 == 0) = true := beq_iff_eq.mpr c19
              have c19b1 : (t218 != 0) = false := bne_eq_false_iff_eq.mpr c19
              clear c19
              have H' := aM H
              clear H
              obtain ⟨Ao20, co20, eo20⟩ := Kd.R_slice HO_3.out
              subst eo20
              have p219 : 0 ≤ (x4_1 : Int) := zoA
              have q219 : x4_1 < (x3_1.length : Int) := zoA
              obtain ⟨ad219, e219, hx219_0⟩ := Kd.at_int (Kd.R_reads' HO_3.out).2.2 x4_1 p219 q219
              cases e219
              replace p219 := eq_true p219
              replace q219 := eq_true q219
              go_wp2_with (first | ((with_reducible refine gate_callee (f := 42) rfl ?_); refine goesL_ (some 32) rfl rfl Try.func42 zK rfl #[.int .i32 (rd x3_1 x4_1), .int .i32 (rd l0 x13_1)] rfl zM ?_; (with_reducible refine (compose_Pair.calls kj5 (rd x3_1 x4_1) (rd l0 x13_1) t220 false _ A11.out).mono ?_); rintro e w21 ⟨rfl, hb⟩; refine ⟨_, rfl, ?_⟩; have n_ := zI (aM (Kd.R_below (zR HO_3) hb)) (aM (below_step zB hb)); clear HO_3 HB; obtain ⟨HO_3, HB⟩ := n_; (try clear hb); (try clear hk)) | ((with_reducible refine gate_builtin (b := .append) (xs := #[.tmp 40, .tmp 42]) rfl ?_); at_builtin; refine Kd.R_append (Kd.int .i32) (w0 := w) w.heap.size rfl (.tmp 40) (.tmp 42) 22 21 (.int .i32 0) 4 rfl Try.underlying22 info21 rfl (by decide) (by omega) (.slice (some ad219) x3_1.length co20) x3_1 (rd l0 x13_1) [.int .i32 (rd l0 x13_1)] (fun _ => True) (fun _ => False) rfl rfl ?aP (fun _ hk => hk.elim) ?aF ?aO ?aB ?aS ?aL ?_; (case aP => exact rfl); (case aB => exact zB); (case aF => exact (fun _ _ => trivial)); (case aO => exact (zR HO_3)); (case aS => exact (below_size zB)); (case aL => have := LMc18.out; omega); intro v224 w22 ho hb hg hat; rw [← Ny223.out] at ho; have n_ := zI (aM (hb)) (aM (ho)); clear HB HO_3; obtain ⟨HB, HO225⟩ := n_; clear ho hb hg hat; obtain ⟨Ao23, co23, rfl⟩ := Kd.R_slice HO225.out))
              go_roundg kj5
              case measure => have := HK1.out; have := HJ5.out; omega
              case rel => exact ⟨(y223), (wrap64 ((y223.length : Int) - 1)), ((-1)), (wrap64 (x13_1 + 1)), zP, zP, zP, H', ⟨by have := HK1.out; have := HJ5.out; omega⟩, ⟨zR HO225⟩, ⟨zB⟩⟩
             ·rw [if_neg c19] at H
              have c19b0 : (t218 == 0) = false := beq_eq_false_iff_ne.mpr c19
              have c19b1 : (t218 != 0) = true := bne_iff_ne.mpr c19
              obtain ⟨ji24, hji24⟩ : ∃ j_ : Int, (mx x5_1 t218) = j_ := ⟨_, rfl⟩
              replace H : (compose_All.l0 kj5 y223 x4_1 ji24 l0 (l0.length : Int) (wrap64 (x13_1 + 1))) = some r := by first | (rw [hji24] at H; exact H) | (simp only [hji24] at H ⊢; exact H)
              (try rw [hji24] at A11)
              have hji24_ : (if x5_1 < t218 then t218 else x5_1) = ji24 := hji24
              have H' := aM H
              clear H
              obtain ⟨Ao25, co25, eo25⟩ := Kd.R_slice HO_3.out
              subst eo25
              have p219 : 0 ≤ (x4_1 : Int) := zoA
              have q219 : x4_1 < (x3_1.length : Int) := zoA
              obtain ⟨ad219, e219, hx219_0⟩ := Kd.at_int (Kd.R_reads' HO_3.out).2.2 x4_1 p219 q219
              cases e219
              replace p219 := eq_true p219
              replace q219 := eq_true q219
              go_wp2_with (first | ((with_reducible refine gate_callee (f := 42) rfl ?_); refine goesL_ (some 32) rfl rfl Try.func42 zK rfl #[.int .i32 (rd x3_1 x4_1), .int .i32 (rd l0 x13_1)] rfl zM ?_; (with_reducible refine (compose_Pair.calls kj5 (rd x3_1 x4_1) (rd l0 x13_1) t220 false _ A11.out).mono ?_); rintro e w26 ⟨rfl, hb⟩; refine ⟨_, rfl, ?_⟩; have n_ := zI (aM (Kd.R_below (zR HO_3) hb)) (aM (below_step zB hb)); clear HO_3 HB; obtain ⟨HO_3, HB⟩ := n_; (try clear hb); (try clear hk)) | ((with_reducible refine gate_builtin (b := .append) (xs := #[.tmp 40, .tmp 42]) rfl ?_); at_builtin; refine Kd.R_append (Kd.int .i32) (w0 := w) w.heap.size rfl (.tmp 40) (.tmp 42) 22 21 (.int .i32 0) 4 rfl Try.underlying22 info21 rfl (by decide) (by omega) (.slice (some ad219) x3_1.length co25) x3_1 (rd l0 x13_1) [.int .i32 (rd l0 x13_1)] (fun _ => True) (fun _ => False) rfl rfl ?aP (fun _ hk => hk.elim) ?aF ?aO ?aB ?aS ?aL ?_; (case aP => exact rfl); (case aB => exact zB); (case aF => exact (fun _ _ => trivial)); (case aO => exact (zR HO_3)); (case aS => exact (below_size zB)); (case aL => have := LMc18.out; omega); intro v224 w27 ho hb hg hat; rw [← Ny223.out] at ho; have n_ := zI (aM (hb)) (aM (ho)); clear HB HO_3; obtain ⟨HB, HO225⟩ := n_; clear ho hb hg hat))
              go_roundg kj5
              case measure => have := HK1.out; have := HJ5.out; omega
              case rel => exact ⟨(y223), (x4_1), (ji24), (wrap64 (x13_1 + 1)), zP, (by first | rfl | (simp; done) | (simp only [← hji24] <;> (first | rfl | simp)) | (simp [*]; done)), zP, H', ⟨by have := HK1.out; have := HJ5.out; omega⟩, ⟨zR HO225⟩, ⟨zB⟩⟩
            ·rw [if_neg c18] at H
             exact absurd H (by simp)
          ·rw [if_neg c10] at H
           exact absurd H (by simp)
         ·rw [if_neg c9] at H
          exact absurd H (by simp)
        ·replace c8 := Bool.eq_false_iff.mpr c8
         subst c8
         rw [if_neg (show ¬ (false = true) by decide)] at H
         by_cases c28 : x3_1.length < 35184372088832
         ·rw [if_pos c28] at H
          have LMc28 := aM c28
          clear c28
          obtain ⟨y226, hy226⟩ : ∃ y_ : List Int, y_ = (x3_1 ++ [(rd l0 x13_1)]) := ⟨_, rfl⟩
          replace H : (if t218 = 0 then (compose_All.l0 kj5 y226 (wrap64 ((y226.length : Int) - 1)) (-1) l0 (l0.length : Int) (wrap64 (x13_1 + 1))) else (compose_All.l0 kj5 y226 x4_1 (mx x5_1 t218) l0 (l0.length : Int) (wrap64 (x13_1 + 1)))) = some r := zY hy226 H
          have Ny226 := aM hy226
          clear hy226
          by_cases c29 : t218 = 0
          ·rw [if_pos c29] at H
           have c29b0 : (t218 == 0) = true := beq_iff_eq.mpr c29
           have c29b1 : (t218 != 0) = false := bne_eq_false_iff_eq.mpr c29
           clear c29
           have H' := aM H
           clear H
           go_wp2_with (first | ((with_reducible refine gate_builtin (b := .append) (xs := #[.tmp 40, .tmp 42]) rfl ?_); at_builtin; refine Kd.R_append (Kd.int .i32) (w0 := w) w.heap.size rfl (.tmp 40) (.tmp 42) 22 21 (.int .i32 0) 4 rfl Try.underlying22 info21 rfl (by decide) (by omega) u3 x3_1 (rd l0 x13_1) [.int .i32 (rd l0 x13_1)] (fun _ => True) (fun _ => False) rfl rfl ?aP (fun _ hk => hk.elim) ?aF ?aO ?aB ?aS ?aL ?_; (case aP => exact rfl); (case aB => exact zB); (case aF => exact (fun _ _ => trivial)); (case aO => exact (zR HO_3)); (case aS => exact (below_size zB)); (case aL => have := LMc28.out; omega); intro v227 w30 ho hb hg hat; rw [← Ny226.out] at ho; have n_ := zI (aM (hb)) (aM (ho)); clear HB HO_3; obtain ⟨HB, HO228⟩ := n_; clear ho hb hg hat; obtain ⟨Ao31, co31, rfl⟩ := Kd.R_slice HO228.out))
           go_roundg kj5
           case measure => have := HK1.out; have := HJ5.out; omega
           case rel => exact ⟨(y226), (wrap64 ((y226.length : Int) - 1)), ((-1)), (wrap64 (x13_1 + 1)), zP, zP, zP, H', ⟨by have := HK1.out; have := HJ5.out; omega⟩, ⟨zR HO228⟩, ⟨zB⟩⟩
          ·rw [if_neg c29] at H
           have c29b0 : (t218 == 0) = false := beq_eq_false_iff_ne.mpr c29
           have c29b1 : (t218 != 0) = true := bne_iff_ne.mpr c29
           obtain ⟨ji32, hji32⟩ : ∃ j_ : Int, (mx x5_1 t218) = j_ := ⟨_, rfl⟩
           replace H : (compose_All.l0 kj5 y226 x4_1 ji32 l0 (l0.length : Int) (wrap64 (x13_1 + 1))) = some r := by first | (rw [hji32] at H; exact H) | (simp only [hji32] at H ⊢; exact H)
           have hji32_ : (if x5_1 < t218 then t218 else x5_1) = ji32 := hji32
           have H' := aM H
           clear H
           go_wp2_with (first | ((with_reducible refine gate_builtin (b := .append) (xs := #[.tmp 40, .tmp 42]) rfl ?_); at_builtin; refine Kd.R_append (Kd.int .i32) (w0 := w) w.heap.size rfl (.tmp 40) (.tmp 42) 22 21 (.int .i32 0) 4 rfl Try.underlying22 info21 rfl (by decide) (by omega) u3 x3_1 (rd l0 x13_1) [.int .i32 (rd l0 x13_1)] (fun _ => True) (fun _ => False) rfl rfl ?aP (fun _ hk => hk.elim) ?aF ?aO ?aB ?aS ?aL ?_; (case aP => exact rfl); (case aB => exact zB); (case aF => exact (fun _ _ => trivial)); (case aO => exact (zR HO_3)); (case aS => exact (below_size zB)); (case aL => have := LMc28.out; omega); intro v227 w33 ho hb hg hat; rw [← Ny226.out] at ho; have n_ := zI (aM (hb)) (aM (ho)); clear HB HO_3; obtain ⟨HB, HO228⟩ := n_; clear ho hb hg hat))
           go_roundg kj5
           case measure => have := HK1.out; have := HJ5.out; omega
           case rel => exact ⟨(y226), (x4_1), (ji32), (wrap64 (x13_1 + 1)), zP, (by first | rfl | (simp; done) | (simp only [← hji32] <;> (first | rfl | simp)) | (simp [*]; done)), zP, H', ⟨by have := HK1.out; have := HJ5.out; omega⟩, ⟨zR HO228⟩, ⟨zB⟩⟩
         ·rw [if_neg c28] at H
          exact absurd H (by simp)
     ·rw [if_neg c4] at H
      exact absurd H (by simp)
    ·rw [if_neg c3] at H
     exact absurd H (by simp)
   ·rw [if_neg c2] at H
    have c2b0 : decide (x13_1 < (l0.length : Int)) = false := decide_eq_false c2
    clear c2
    obtain rfl := sI H
    go_wp2
    (try rw [Exit.noGoto_ret])
    go_ret
    exact ⟨_, zE, zR HO_3, zB⟩

/-! ### nfkc_Runes: function 11 -/
def nfkc_Runes.f (k : Nat) (a0 : Bool) (l1 : List Int) : Option (List Int) := (nfkc_plain.f k l1).bind fun t229 => (if t229 = true then ((slices_Clone_rune_rune.f l1).bind fun t230 => (some t230)) else ((decomp_All.f k a0 l1).bind fun t233 => ((arrange_Order.f k t233).bind fun t236 => ((compose_All.f k t236).bind fun t239 => (some t239)))))
theorem nfkc_Runes.mono : ∀ a0 a1 k, LeO (nfkc_Runes.f k a0 a1) (nfkc_Runes.f (k + 1) a0 a1) := by
 intro a0 a1 k
 unfold nfkc_Runes.f
 repeat' first
   | (with_reducible exact arrange_Order.mono _ _)
   | (with_reducible exact compose_All.mono _ _)
   | (with_reducible exact decomp_All.mono _ _ _)
   | (with_reducible exact nfkc_plain.mono _ _)
   | (with_reducible exact LeO.refl _)
   | exact arrange_Order.mono _ _
   | exact compose_All.mono _ _
   | exact decomp_All.mono _ _ _
   | exact nfkc_plain.mono _ _
   | exact LeO.none _
   | refine LeO.ite ?_ ?_
   | refine LeO.bind ?_ (fun _ => ?_)
set_option maxHeartbeats 8000000 in
set_option maxRecDepth 100000 in
theorem nfkc_Runes.calls (k : Nat) (a0 : Bool) (A1 : Option Addr) (c1 : Nat) (l1 : List Int) (r : List Int) (w : World) (hr1 : Kd.C (Kd.int .i32) w A1 l1.length l1) (hc1 : l1.length ≤ c1) (h : nfkc_Runes.f k a0 l1 = some r) :
  Calls Try.prog 11 #[.bool a0, .slice A1 l1.length c1] w fun e w' => ∃ v0_ : Value, e = .returned (v0_) ∧ Kd.R (Kd.int .i32) 21 w' w.heap.size (fun _ => True) v0_ r ∧ Below w.heap.size w w' := by
 have HR1 := aM hr1
 have HC1 := aM hc1
 clear hr1 hc1
 have HB := aM (Below.refl w.heap.size w)
 have H : ((nfkc_plain.f k l1).bind fun t229 => (if t229 = true then ((slices_Clone_rune_rune.f l1).bind fun t230 => (some t230)) else ((decomp_All.f k a0 l1).bind fun t233 => ((arrange_Order.f k t233).bind fun t236 => ((compose_All.f k t236).bind fun t239 => (some t239)))))) = some r := h
 clear h
 obtain ⟨t229, A3, H⟩ := zO H
 by_cases c4 : t229 = true
 ·subst c4
  rw [if_pos rfl] at H
  obtain ⟨t230, A5, H⟩ := zO H
  obtain rfl := sI H
  go_enter Try.func11, Try.ntmps11
  go_wp2_with (first | ((with_reducible refine gate_callee (f := 22) rfl ?_); refine goesL_ (some 7) rfl rfl Try.func22 zK rfl #[.slice A1 l1.length c1] rfl zM ?_; (with_reducible refine (nfkc_plain.calls k _ _ l1 true _ ?side1 ?side2 A3.out).mono ?_); (case side1 => exact zC HR1.out); (case side2 => exact HC1.out); rintro e w' ⟨rfl, ⟨nd, rfl⟩⟩; refine ⟨_, rfl, ?_⟩) | ((with_reducible refine gate_callee (f := 23) rfl ?_); refine goesL_ (some 9) rfl rfl Try.func23 zK rfl #[.slice A1 l1.length c1] rfl zM ?_; (with_reducible refine (slices_Clone_rune_rune.calls _ _ l1 t230 _ ?side1 ?side2 A5.out).mono ?_); (case side1 => exact zC HR1.out); (case side2 => exact HC1.out); rintro e w6 ⟨v231, rfl, ho0, hb⟩; refine ⟨_, rfl, ?_⟩; have n_ := zI (aM (Kd.R_lower ho0 (below_size zB))) (aM (below_step zB hb)); clear HB; obtain ⟨HO232, HB⟩ := n_; (try clear hb); (try clear ho0)))
  go_ret
  exact ⟨_, zE, zR HO232, zB⟩
 ·replace c4 := Bool.eq_false_iff.mpr c4
  subst c4
  rw [if_neg (show ¬ (false = true) by decide)] at H
  obtain ⟨t233, A7, H⟩ := zO H
  obtain ⟨t236, A8, H⟩ := zO H
  obtain ⟨t239, A9, H⟩ := zO H
  obtain rfl := sI H
  go_enter Try.func11, Try.ntmps11
  go_wp2_with (first | ((with_reducible refine gate_callee (f := 22) rfl ?_); refine goesL_ (some 7) rfl rfl Try.func22 zK rfl #[.slice A1 l1.length c1] rfl zM ?_; (with_reducible refine (nfkc_plain.calls k _ _ l1 false _ ?side1 ?side2 A3.out).mono ?_); (case side1 => exact zC HR1.out); (case side2 => exact HC1.out); rintro e w' ⟨rfl, ⟨nd, rfl⟩⟩; refine ⟨_, rfl, ?_⟩) | ((with_reducible refine gate_callee (f := 17) rfl ?_); refine goesL_ (some 12) rfl rfl Try.func17 zK rfl #[.bool a0, .slice A1 l1.length c1] rfl zM ?_; (with_reducible refine (decomp_All.calls k a0 _ _ l1 t233 _ ?side1 ?side2 A7.out).mono ?_); (case side1 => exact zC HR1.out); (case side2 => exact HC1.out); rintro e w10 ⟨v234, rfl, ho0, hb⟩; refine ⟨_, rfl, ?_⟩; have n_ := zI (aM (Kd.R_lower ho0 (below_size zB))) (aM (below_step zB hb)); clear HB; obtain ⟨HO235, HB⟩ := n_; (try clear hb); (try clear ho0); obtain ⟨Ao11, co11, rfl⟩ := Kd.R_slice HO235.out) | ((with_reducible refine gate_callee (f := 18) rfl ?_); refine goesL_ (some 14) rfl rfl Try.func18 zK rfl #[.slice Ao11 t233.length co11] rfl zM ?_; (with_reducible refine (arrange_Order.calls k _ _ t233 t236 _ ?side1 ?side2 A8.out).mono ?_); (case side1 => exact zC (Kd.R_reads' HO235.out).2.2); (case side2 => exact (Kd.R_reads' HO235.out).2.1); rintro e w12 ⟨v237, rfl, ho0, hb⟩; refine ⟨_, rfl, ?_⟩; have n_ := zI (aM (Kd.R_elder' (zR HO235) (Kd.R_base ho0) hb)) (zI (aM (Kd.R_lower (Kd.R_new' ho0 (Kd.R_lt (zR HO235))) (below_size zB))) (aM (below_step zB hb))); clear HO235 HB; obtain ⟨HO235, HO238, HB⟩ := n_; (try clear hb); (try clear ho0); obtain ⟨Ao13, co13, rfl⟩ := Kd.R_slice HO238.out) | ((with_reducible refine gate_callee (f := 24) rfl ?_); refine goesL_ (some 15) rfl rfl Try.func24 zK rfl #[.slice Ao13 t236.length co13] rfl zM ?_; (with_reducible refine (compose_All.calls k _ _ t236 t239 _ ?side1 ?side2 A9.out).mono ?_); (case side1 => exact zC (Kd.R_reads' HO238.out).2.2); (case side2 => exact (Kd.R_reads' HO238.out).2.1); rintro e w14 ⟨v240, rfl, ho0, hb⟩; refine ⟨_, rfl, ?_⟩; have n_ := zI (aM (Kd.R_elder' (zR HO235) (Kd.R_base ho0) hb)) (zI (aM (Kd.R_elder' (zR HO238) (Kd.R_base ho0) hb)) (zI (aM (Kd.R_lower (Kd.R_new' (Kd.R_new' ho0 (Kd.R_lt (zR HO235))) (Kd.R_lt (zR HO238))) (below_size zB))) (aM (below_step zB hb)))); clear HO235 HO238 HB; obtain ⟨HO235, HO238, HO241, HB⟩ := n_; (try clear hb); (try clear ho0)))
  go_ret
  exact ⟨_, zE, by (with_reducible repeat (first | apply Kd.R_alloc | apply Kd.R_drewN | apply Kd.R_drew)); exact Kd.R_mono HO241.out (fun _ hk => trivial), zB⟩

/-! ### slices_Equal_rune_rune: function 25 -/
def slices_Equal_rune_rune.l0 : Nat → List Int → List Int → Int → Int → Option (Bool)
 | 0, _, _, _, _ => none
 | k + 1, x0, x1, x12, x13 => if x13 < x12 then (if 0 ≤ x13 then (if x13 < (x0.length : Int) then (if x13 < (x1.length : Int) then (if (rd x0 x13) = (rd x1 x13) then (slices_Equal_rune_rune.l0 k x0 x1 x12 (wrap64 (x13 + 1))) else (some false)) else (none)) else (none)) else (none)) else (some true)
def slices_Equal_rune_rune.f (k : Nat) (l0 : List Int) (l1 : List Int) : Option (Bool) := if (l0.length : Int) = (l1.length : Int) then (slices_Equal_rune_rune.l0 k l0 l1 (l0.length : Int) 0) else (some false)
theorem slices_Equal_rune_rune.mono_l : ∀ k, (∀ y0 y1 y2 y3, LeO (slices_Equal_rune_rune.l0 k y0 y1 y2 y3) (slices_Equal_rune_rune.l0 (k + 1) y0 y1 y2 y3))
 | 0 => fun _ _ _ _ r h => by simp [slices_Equal_rune_rune.l0] at h
 | k + 1 => by
  have ih0 := slices_Equal_rune_rune.mono_l k
  ·intro y0 y1 y2 y3
   unfold slices_Equal_rune_rune.l0
   repeat' first
   | (with_reducible exact ih0 _ _ _ _)
   | (with_reducible exact LeO.refl _)
   | exact ih0 _ _ _ _
   | exact LeO.none _
   | refine LeO.ite ?_ ?_
   | refine LeO.bind ?_ (fun _ => ?_)
theorem slices_Equal_rune_rune.mono : ∀ a0 a1 k, LeO (slices_Equal_rune_rune.f k a0 a1) (slices_Equal_rune_rune.f (k + 1) a0 a1) := by
 intro a0 a1 k
 have ih0 := slices_Equal_rune_rune.mono_l k
 unfold slices_Equal_rune_rune.f
 repeat' first
   | (with_reducible exact ih0 _ _ _ _)
   | (with_reducible exact LeO.refl _)
   | exact ih0 _ _ _ _
   | exact LeO.none _
   | refine LeO.ite ?_ ?_
   | refine LeO.bind ?_ (fun _ => ?_)
set_option maxHeartbeats 8000000 in
set_option maxRecDepth 100000 in
theorem slices_Equal_rune_rune.calls (k : Nat) (A0 : Option Addr) (c0 : Nat) (l0 : List Int) (A1 : Option Addr) (c1 : Nat) (l1 : List Int) (r : Bool) (w : World) (hr0 : Kd.C (Kd.int .i32) w A0 l0.length l0) (hc0 : l0.length ≤ c0) (hr1 : Kd.C (Kd.int .i32) w A1 l1.length l1) (hc1 : l1.length ≤ c1) (h : slices_Equal_rune_rune.f k l0 l1 = some r) :
  Calls Try.prog 25 #[.slice A0 l0.length c0, .slice A1 l1.length c1] w fun e w' => e = .returned (.bool r) ∧ Drawn0 w w' := by
 have HR0 := aM hr0
 have HC0 := aM hc0
 clear hr0 hc0
 have HR1 := aM hr1
 have HC1 := aM hc1
 clear hr1 hc1
 have H : (if (l0.length : Int) = (l1.length : Int) then (slices_Equal_rune_rune.l0 k l0 l1 (l0.length : Int) 0) else (some false)) = some r := h
 clear h
 by_cases c3 : (l0.length : Int) = (l1.length : Int)
 ·rw [if_pos c3] at H
  have c3b0 : ((l0.length : Int) == (l1.length : Int)) = true := beq_iff_eq.mpr c3
  have c3b1 : ((l0.length : Int) != (l1.length : Int)) = false := bne_eq_false_iff_eq.mpr c3
  have c3b2 : (l0.length == l1.length) = true := by first | simpa using c3 | (simp at c3 ⊢; omega)
  clear c3
  have H' := aM H
  clear H
  go_enter Try.func25, Try.ntmps25
  go_wp2
  repeat (go_quiet (fail); try go_wp2)
  go_loopg [13] k (fun kq v13 w' => ∃ (x13_1 : Int), v13 = .int .i64 x13_1 ∧ Aside0 (slices_Equal_rune_rune.l0 kq l0 l1 (l0.length : Int) x13_1 = some r) ∧ Aside0 (kq ≤ k) ∧ Drawn0 w w')
  case atStart => exact ⟨(0), zP, H', ⟨Nat.le_refl _⟩, zD⟩
  case round =>
   clear H'
   try clear c1
   try clear c2
   try clear p2
   try clear c3
   try clear c3b0
   try clear c3b1
   try clear c3b2
   obtain ⟨x13_1, rfl, HA, HK1, ⟨m1, rfl⟩⟩ := hrel
   cases gk with
   | zero => exact absurd HA.out (by simp [slices_Equal_rune_rune.l0])
   | succ k1 =>
    have H := HA.out
    clear HA
    simp only [slices_Equal_rune_rune.l0] at H
    by_cases c4 : x13_1 < (l0.length : Int)
    ·rw [if_pos c4] at H
     have c4b0 : decide (x13_1 < (l0.length : Int)) = true := decide_eq_true c4
     clear c4
     by_cases c5 : 0 ≤ x13_1
     ·rw [if_pos c5] at H
      have c5b0 : decide (0 ≤ x13_1) = true := decide_eq_true c5
      clear c5
      by_cases c6 : x13_1 < (l0.length : Int)
      ·rw [if_pos c6] at H
       have c6b0 : decide (x13_1 < (l0.length : Int)) = true := decide_eq_true c6
       clear c6
       by_cases c7 : x13_1 < (l1.length : Int)
       ·rw [if_pos c7] at H
        have c7b0 : decide (x13_1 < (l1.length : Int)) = true := decide_eq_true c7
        clear c7
        by_cases c8 : (rd l0 x13_1) = (rd l1 x13_1)
        ·rw [if_pos c8] at H
         have c8b0 : ((rd l0 x13_1) == (rd l1 x13_1)) = true := beq_iff_eq.mpr c8
         have c8b1 : ((rd l0 x13_1) != (rd l1 x13_1)) = false := bne_eq_false_iff_eq.mpr c8
         clear c8
         have H' := aM H
         clear H
         have p242 : 0 ≤ (x13_1 : Int) := zoA
         have q242 : x13_1 < (l0.length : Int) := zoA
         obtain ⟨ad242, e242, hx242_0⟩ := Kd.at_int HR0.out x13_1 p242 q242
         cases e242
         replace p242 := eq_true p242
         replace q242 := eq_true q242
         have p243 : 0 ≤ (x13_1 : Int) := zoA
         have q243 : x13_1 < (l1.length : Int) := zoA
         obtain ⟨ad243, e243, hx243_0⟩ := Kd.at_int HR1.out x13_1 p243 q243
         cases e243
         replace p243 := eq_true p243
         replace q243 := eq_true q243
         go_wp2
         repeat (go_quiet (fail); try go_wp2)
         go_roundg k1
         case measure => have := HK1.out; omega
         case rel => exact ⟨(wrap64 (x13_1 + 1)), zP, H', ⟨by have := HK1.out; omega⟩, zD⟩
        ·rw [if_neg c8] at H
         have c8b0 : ((rd l0 x13_1) == (rd l1 x13_1)) = false := beq_eq_false_iff_ne.mpr c8
         have c8b1 : ((rd l0 x13_1) != (rd l1 x13_1)) = true := bne_iff_ne.mpr c8
         obtain rfl := sI H
         have p242 : 0 ≤ (x13_1 : Int) := zoA
         have q242 : x13_1 < (l0.length : Int) := zoA
         obtain ⟨ad242, e242, hx242_0⟩ := Kd.at_int HR0.out x13_1 p242 q242
         cases e242
         replace p242 := eq_true p242
         replace q242 := eq_true q242
         have p243 : 0 ≤ (x13_1 : Int) := zoA
         have q243 : x13_1 < (l1.length : Int) := zoA
         obtain ⟨ad243, e243, hx243_0⟩ := Kd.at_int HR1.out x13_1 p243 q243
         cases e243
         replace p243 := eq_true p243
         replace q243 := eq_true q243
         go_wp2
         repeat (go_quiet (fail); try go_wp2)
         go_ret
         exact ⟨zP, zD⟩
       ·rw [if_neg c7] at H
        exact absurd H (by simp)
      ·rw [if_neg c6] at H
       exact absurd H (by simp)
     ·rw [if_neg c5] at H
      exact absurd H (by simp)
    ·rw [if_neg c4] at H
     have c4b0 : decide (x13_1 < (l0.length : Int)) = false := decide_eq_false c4
     clear c4
     obtain rfl := sI H
     go_wp2
     repeat (go_quiet (fail); try go_wp2)
     go_ret
     exact ⟨zP, zD⟩
 ·rw [if_neg c3] at H
  have c3b0 : ((l0.length : Int) == (l1.length : Int)) = false := beq_eq_false_iff_ne.mpr c3
  have c3b1 : ((l0.length : Int) != (l1.length : Int)) = true := bne_iff_ne.mpr c3
  have c3b2 : (l0.length == l1.length) = false := by first | simpa using c3 | (simp at c3 ⊢; omega)
  obtain rfl := sI H
  go_enter Try.func25, Try.ntmps25
  go_wp2
  repeat (go_quiet (fail); try go_wp2)
  go_ret
  exact ⟨zP, zD⟩

/-! ### nfkc_Is: function 12 -/
def nfkc_Is.f (k : Nat) (a0 : Bool) (l1 : List Int) : Option (Bool) := (nfkc_Runes.f k a0 l1).bind fun t244 => ((slices_Equal_rune_rune.f k t244 l1).bind fun t247 => (some t247))
theorem nfkc_Is.mono : ∀ a0 a1 k, LeO (nfkc_Is.f k a0 a1) (nfkc_Is.f (k + 1) a0 a1) := by
 intro a0 a1 k
 unfold nfkc_Is.f
 repeat' first
   | (with_reducible exact nfkc_Runes.mono _ _ _)
   | (with_reducible exact slices_Equal_rune_rune.mono _ _ _)
   | (with_reducible exact LeO.refl _)
   | exact nfkc_Runes.mono _ _ _
   | exact slices_Equal_rune_rune.mono _ _ _
   | exact LeO.none _
   | refine LeO.ite ?_ ?_
   | refine LeO.bind ?_ (fun _ => ?_)
set_option maxHeartbeats 8000000 in
set_option maxRecDepth 100000 in
theorem nfkc_Is.calls (k : Nat) (a0 : Bool) (A1 : Option Addr) (c1 : Nat) (l1 : List Int) (r : Bool) (w : World) (hr1 : Kd.C (Kd.int .i32) w A1 l1.length l1) (hc1 : l1.length ≤ c1) (h : nfkc_Is.f k a0 l1 = some r) :
  Calls Try.prog 12 #[.bool a0, .slice A1 l1.length c1] w fun e w' => e = .returned (.bool r) ∧ Below w.heap.size w w' := by
 have HR1 := aM hr1
 have HC1 := aM hc1
 clear hr1 hc1
 have HB := aM (Below.refl w.heap.size w)
 have H : ((nfkc_Runes.f k a0 l1).bind fun t244 => ((slices_Equal_rune_rune.f k t244 l1).bind fun t247 => (some t247))) = some r := h
 clear h
 obtain ⟨t244, A3, H⟩ := zO H
 obtain ⟨t247, A4, H⟩ := zO H
 obtain rfl := sI H
 go_enter Try.func12, Try.ntmps12
 go_wp2_with (first | ((with_reducible refine gate_callee (f := 11) rfl ?_); refine goesL_ (some 7) rfl rfl Try.func11 zK rfl #[.bool a0, .slice A1 l1.length c1] rfl zM ?_; (with_reducible refine (nfkc_Runes.calls k a0 _ _ l1 t244 _ ?side1 ?side2 A3.out).mono ?_); (case side1 => exact zC HR1.out); (case side2 => exact HC1.out); rintro e w5 ⟨v245, rfl, ho0, hb⟩; refine ⟨_, rfl, ?_⟩; have n_ := zI (aM (Kd.R_lower ho0 (below_size zB))) (aM (below_step zB hb)); clear HB; obtain ⟨HO246, HB⟩ := n_; (try clear hb); (try clear ho0); obtain ⟨Ao6, co6, rfl⟩ := Kd.R_slice HO246.out) | ((with_reducible refine gate_callee (f := 25) rfl ?_); refine goesL_ (some 9) rfl rfl Try.func25 zK rfl #[.slice Ao6 t244.length co6, .slice A1 l1.length c1] rfl zM ?_; (with_reducible refine (slices_Equal_rune_rune.calls k _ _ t244 _ _ l1 t247 _ ?side1 ?side2 ?side3 ?side4 A4.out).mono ?_); (case side1 => exact zC (Kd.R_reads' HO246.out).2.2); (case side2 => exact (Kd.R_reads' HO246.out).2.1); (case side3 => exact zCB HR1); (case side4 => exact HC1.out); rintro e w' ⟨rfl, ⟨nd, rfl⟩⟩; refine ⟨_, rfl, ?_⟩))
 go_ret
 exact ⟨zE, zB⟩

/-! ### utf_Point: function 65 -/
def utf_Point.f (a0 : Int) : Option (Bool) := if a0 ≥ 0 then (if a0 ≤ 1114111 then (if a0 < 55296 then (some true) else (some (decide (a0 > 57343)))) else (some false)) else (some false)
set_option maxHeartbeats 8000000 in
set_option maxRecDepth 100000 in
theorem utf_Point.calls (a0 : Int) (r : Bool) (w : World) (h : utf_Point.f a0 = some r) :
  Calls Try.prog 65 #[.int .i32 a0] w fun e w' => e = .returned (.bool r) ∧ Drawn0 w w' := by
 have H : (if a0 ≥ 0 then (if a0 ≤ 1114111 then (if a0 < 55296 then (some true) else (some (decide (a0 > 57343)))) else (some false)) else (some false)) = some r := h
 clear h
 by_cases c2 : a0 ≥ 0
 ·rw [if_pos c2] at H
  have c2b0 : decide (0 ≤ a0) = true := decide_eq_true c2
  clear c2
  by_cases c3 : a0 ≤ 1114111
  ·rw [if_pos c3] at H
   have c3b0 : decide (a0 ≤ 1114111) = true := decide_eq_true c3
   clear c3
   by_cases c4 : a0 < 55296
   ·rw [if_pos c4] at H
    have c4b0 : decide (a0 < 55296) = true := decide_eq_true c4
    clear c4
    obtain rfl := sI H
    go_enter Try.func65, Try.ntmps65
    go_wp2
    go_ret
    exact ⟨zP, zD⟩
   ·rw [if_neg c4] at H
    have c4b0 : decide (a0 < 55296) = false := decide_eq_false c4
    clear c4
    obtain rfl := sI H
    go_enter Try.func65, Try.ntmps65
    go_wp2
    go_ret
    exact ⟨zP, zD⟩
  ·rw [if_neg c3] at H
   have c3b0 : decide (a0 ≤ 1114111) = false := decide_eq_false c3
   clear c3
   obtain rfl := sI H
   go_enter Try.func65, Try.ntmps65
   go_wp2
   go_ret
   exact ⟨zP, zD⟩
 ·rw [if_neg c2] at H
  have c2b0 : decide (0 ≤ a0) = false := decide_eq_false c2
  clear c2
  obtain rfl := sI H
  go_enter Try.func65, Try.ntmps65
  go_wp2
  go_ret
  exact ⟨zP, zD⟩

/-! ### utf_Length: function 44 -/
def utf_Length.f (a0 : Int) : Option (Int) := (utf_Point.f a0).bind fun t248 => (if t248 = true then (if a0 < 128 then (some 1) else (if a0 < 2048 then (some 2) else (if a0 < 65536 then (some 3) else (some 4)))) else (some 0))
set_option maxHeartbeats 8000000 in
set_option maxRecDepth 100000 in
theorem utf_Length.calls (a0 : Int) (r : Int) (w : World) (h : utf_Length.f a0 = some r) :
  Calls Try.prog 44 #[.int .i32 a0] w fun e w' => e = .returned (.int .i64 r) ∧ Drawn0 w w' := by
 have H : ((utf_Point.f a0).bind fun t248 => (if t248 = true then (if a0 < 128 then (some 1) else (if a0 < 2048 then (some 2) else (if a0 < 65536 then (some 3) else (some 4)))) else (some 0))) = some r := h
 clear h
 obtain ⟨t248, A2, H⟩ := zO H
 by_cases c3 : t248 = true
 ·subst c3
  rw [if_pos rfl] at H
  by_cases c4 : a0 < 128
  ·rw [if_pos c4] at H
   have c4b0 : decide (a0 < 128) = true := decide_eq_true c4
   clear c4
   obtain rfl := sI H
   go_enter Try.func44, Try.ntmps44
   go_wp2_with (first | ((with_reducible refine gate_callee (f := 65) rfl ?_); refine goesL_ (some 5) rfl rfl Try.func65 zK rfl #[.int .i32 a0] rfl zM ?_; (with_reducible refine (utf_Point.calls a0 true _ A2.out).mono ?_); rintro e w' ⟨rfl, ⟨nd, rfl⟩⟩; refine ⟨_, rfl, ?_⟩))
   go_ret
   exact ⟨zP, zD⟩
  ·rw [if_neg c4] at H
   have c4b0 : decide (a0 < 128) = false := decide_eq_false c4
   clear c4
   by_cases c5 : a0 < 2048
   ·rw [if_pos c5] at H
    have c5b0 : decide (a0 < 2048) = true := decide_eq_true c5
    clear c5
    obtain rfl := sI H
    go_enter Try.func44, Try.ntmps44
    go_wp2_with (first | ((with_reducible refine gate_callee (f := 65) rfl ?_); refine goesL_ (some 5) rfl rfl Try.func65 zK rfl #[.int .i32 a0] rfl zM ?_; (with_reducible refine (utf_Point.calls a0 true _ A2.out).mono ?_); rintro e w' ⟨rfl, ⟨nd, rfl⟩⟩; refine ⟨_, rfl, ?_⟩))
    go_ret
    exact ⟨zP, zD⟩
   ·rw [if_neg c5] at H
    have c5b0 : decide (a0 < 2048) = false := decide_eq_false c5
    clear c5
    by_cases c6 : a0 < 65536
    ·rw [if_pos c6] at H
     have c6b0 : decide (a0 < 65536) = true := decide_eq_true c6
     clear c6
     obtain rfl := sI H
     go_enter Try.func44, Try.ntmps44
     go_wp2_with (first | ((with_reducible refine gate_callee (f := 65) rfl ?_); refine goesL_ (some 5) rfl rfl Try.func65 zK rfl #[.int .i32 a0] rfl zM ?_; (with_reducible refine (utf_Point.calls a0 true _ A2.out).mono ?_); rintro e w' ⟨rfl, ⟨nd, rfl⟩⟩; refine ⟨_, rfl, ?_⟩))
     go_ret
     exact ⟨zP, zD⟩
    ·rw [if_neg c6] at H
     have c6b0 : decide (a0 < 65536) = false := decide_eq_false c6
     clear c6
     obtain rfl := sI H
     go_enter Try.func44, Try.ntmps44
     go_wp2_with (first | ((with_reducible refine gate_callee (f := 65) rfl ?_); refine goesL_ (some 5) rfl rfl Try.func65 zK rfl #[.int .i32 a0] rfl zM ?_; (with_reducible refine (utf_Point.calls a0 true _ A2.out).mono ?_); rintro e w' ⟨rfl, ⟨nd, rfl⟩⟩; refine ⟨_, rfl, ?_⟩))
     go_ret
     exact ⟨zP, zD⟩
 ·replace c3 := Bool.eq_false_iff.mpr c3
  subst c3
  rw [if_neg (show ¬ (false = true) by decide)] at H
  obtain rfl := sI H
  go_enter Try.func44, Try.ntmps44
  go_wp2_with (first | ((with_reducible refine gate_callee (f := 65) rfl ?_); refine goesL_ (some 5) rfl rfl Try.func65 zK rfl #[.int .i32 a0] rfl zM ?_; (with_reducible refine (utf_Point.calls a0 false _ A2.out).mono ?_); rintro e w' ⟨rfl, ⟨nd, rfl⟩⟩; refine ⟨_, rfl, ?_⟩))
  go_ret
  exact ⟨zP, zD⟩

end Go.Proofs.Ytpihglokjcbjkaa.P
