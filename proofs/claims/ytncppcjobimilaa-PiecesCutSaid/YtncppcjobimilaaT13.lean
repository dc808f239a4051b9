-- Printed by wip/mk.py (this session's driver over the kit's print) and from wip/manual.
import Derived.Test.YtncppcjobimilaaT0
import Derived.Test.YtncppcjobimilaaT1
import Derived.Test.YtncppcjobimilaaT3
import Derived.Test.YtncppcjobimilaaT7
import Derived.Test.YtncppcjobimilaaT11
import Derived.Test.YtncppcjobimilaaT12
namespace Go.Proofs.Ytncppcjobimilaa.P
open Go.RowKit Go.Proofs.YtncppcjobimilaaW.PrintWords Go.Proofs.YtncppcjobimilaaW.PrintLast Go.Proofs.YtncppcjobimilaaW.PrintMore
attribute [local go_sem] max2_int min2_int max_two min_two max_three min_three max_four min_four   -- for this text's walks alone
set_option linter.unusedVariables false
set_option linter.unusedSimpArgs false

/-! ### blanks_Piece: function 34 -/
mutual
def blanks_Piece.j0 : Nat → Int → List Int → Bool → Option (List Int)
 | 0, _, _, _ => none
 | k + 1, x0, x1, x13 => if x13 = true then (some ([] : List Int)) else (if x0 = 1 then ((blanks_firm.f k x1).bind fun t411 => (blanks_Piece.j1 k x0 t411)) else (blanks_Piece.j1 k x0 x1))
def blanks_Piece.j1 : Nat → Int → List Int → Option (List Int)
 | 0, _, _ => none
 | k + 1, x0, x1 => (blanks_words.f k x1).bind fun t414 => (if x0 = 1 then (if x0 = 3 then (blanks_Piece.j2 k t414 true true) else ((blanks_Space.f k x1 (wrap64 ((x1.length : Int) - 1))).bind fun t417 => (blanks_Piece.j2 k t414 true t417))) else ((blanks_Space.f k x1 0).bind fun t418 => (if x0 = 3 then (blanks_Piece.j2 k t414 t418 true) else ((blanks_Space.f k x1 (wrap64 ((x1.length : Int) - 1))).bind fun t419 => (blanks_Piece.j2 k t414 t418 t419)))))
def blanks_Piece.j2 : Nat → List (List Int) → Bool → Bool → Option (List Int)
 | 0, _, _, _ => none
 | k + 1, x5, x6, x7 => if (x5.length : Int) = 0 then (if x6 = true then ((blanks_edged.f ([] : List Int) true false).bind fun t420 => (some t420)) else ((blanks_edged.f ([] : List Int) x7 false).bind fun t423 => (some t423))) else ((blanks_joined.f k x5).bind fun t426 => ((blanks_edged.f t426 x6 x7).bind fun t429 => (some t429)))
end
def blanks_Piece.f (k : Nat) (a0 : Int) (l1 : List Int) : Option (List Int) := if a0 < 1 then (blanks_Piece.j0 k a0 l1 true) else (blanks_Piece.j0 k a0 l1 (decide (a0 > 3)))
theorem blanks_Piece.mono_l : ∀ k, (∀ y0 y1 y2, LeO (blanks_Piece.j0 k y0 y1 y2) (blanks_Piece.j0 (k + 1) y0 y1 y2)) ∧ (∀ y0 y1, LeO (blanks_Piece.j1 k y0 y1) (blanks_Piece.j1 (k + 1) y0 y1)) ∧ (∀ y0 y1 y2, LeO (blanks_Piece.j2 k y0 y1 y2) (blanks_Piece.j2 (k + 1) y0 y1 y2))
 | 0 => ⟨fun _ _ _ r h => by simp [blanks_Piece.j0] at h, fun _ _ r h => by simp [blanks_Piece.j1] at h, fun _ _ _ r h => by simp [blanks_Piece.j2] at h⟩
 | k + 1 => by
  obtain ⟨ih0, ih1, ih2⟩ := blanks_Piece.mono_l k
  refine ⟨?_, ?_, ?_⟩
  ·intro y0 y1 y2
   unfold blanks_Piece.j0
   repeat' first
   | (with_reducible exact ih0 _ _ _)
   | (with_reducible exact ih1 _ _)
   | (with_reducible exact ih2 _ _ _)
   | (with_reducible exact blanks_Space.mono _ _ _)
   | (with_reducible exact blanks_firm.mono _ _)
   | (with_reducible exact blanks_joined.mono _ _)
   | (with_reducible exact blanks_words.mono _ _)
   | (with_reducible exact LeO.refl _)
   | exact ih0 _ _ _
   | exact ih1 _ _
   | exact ih2 _ _ _
   | exact blanks_Space.mono _ _ _
   | exact blanks_firm.mono _ _
   | exact blanks_joined.mono _ _
   | exact blanks_words.mono _ _
   | exact LeO.none _
   | refine LeO.ite ?_ ?_
   | refine LeO.bind ?_ (fun _ => ?_)
  ·intro y0 y1
   unfold blanks_Piece.j1
   repeat' first
   | (with_reducible exact ih0 _ _ _)
   | (with_reducible exact ih1 _ _)
   | (with_reducible exact ih2 _ _ _)
   | (with_reducible exact blanks_Space.mono _ _ _)
   | (with_reducible exact blanks_firm.mono _ _)
   | (with_reducible exact blanks_joined.mono _ _)
   | (with_reducible exact blanks_words.mono _ _)
   | (with_reducible exact LeO.refl _)
   | exact ih0 _ _ _
   | exact ih1 _ _
   | exact ih2 _ _ _
   | exact blanks_Space.mono _ _ _
   | exact blanks_firm.mono _ _
   | exact blanks_joined.mono _ _
   | exact blanks_words.mono _ _
   | exact LeO.none _
   | refine LeO.ite ?_ ?_
   | refine LeO.bind ?_ (fun _ => ?_)
  ·intro y0 y1 y2
   unfold blanks_Piece.j2
   repeat' first
   | (with_reducible exact ih0 _ _ _)
   | (with_reducible exact ih1 _ _)
   | (with_reducible exact ih2 _ _ _)
   | (with_reducible exact blanks_Space.mono _ _ _)
   | (with_reducible exact blanks_firm.mono _ _)
   | (with_reducible exact blanks_joined.mono _ _)
   | (with_reducible exact blanks_words.mono _ _)
   | (with_reducible exact LeO.refl _)
   | exact ih0 _ _ _
   | exact ih1 _ _
   | exact ih2 _ _ _
   | exact blanks_Space.mono _ _ _
   | exact blanks_firm.mono _ _
   | exact blanks_joined.mono _ _
   | exact blanks_words.mono _ _
   | exact LeO.none _
   | refine LeO.ite ?_ ?_
   | refine LeO.bind ?_ (fun _ => ?_)
theorem blanks_Piece.mono : ∀ a0 a1 k, LeO (blanks_Piece.f k a0 a1) (blanks_Piece.f (k + 1) a0 a1) := by
 intro a0 a1 k
 obtain ⟨ih0, ih1, ih2⟩ := blanks_Piece.mono_l k
 unfold blanks_Piece.f
 repeat' first
   | (with_reducible exact ih0 _ _ _)
   | (with_reducible exact ih1 _ _)
   | (with_reducible exact ih2 _ _ _)
   | (with_reducible exact blanks_Space.mono _ _ _)
   | (with_reducible exact blanks_firm.mono _ _)
   | (with_reducible exact blanks_joined.mono _ _)
   | (with_reducible exact blanks_words.mono _ _)
   | (with_reducible exact LeO.refl _)
   | exact ih0 _ _ _
   | exact ih1 _ _
   | exact ih2 _ _ _
   | exact blanks_Space.mono _ _ _
   | exact blanks_firm.mono _ _
   | exact blanks_joined.mono _ _
   | exact blanks_words.mono _ _
   | exact LeO.none _
   | refine LeO.ite ?_ ?_
   | refine LeO.bind ?_ (fun _ => ?_)
set_option maxHeartbeats 8000000 in
set_option maxRecDepth 100000 in
theorem blanks_Piece.calls (k : Nat) (a0 : Int) (P1_ : Nat → Prop) (A1 : Option Addr) (c1 : Nat) (l1 : List Int) (r : List Int) (w : World) (hs1 : Kd.V (Kd.int .i32) 21 w w.heap.size (fun k_ => P1_ k_) (.slice A1 l1.length c1) l1) (h : blanks_Piece.f k a0 l1 = some r) :
  Calls Try.prog 34 #[.int .i64 a0, .slice A1 l1.length c1] w fun e w' => ∃ v0_ : Value, e = .returned (v0_) ∧ Kd.R (Kd.int .i32) 21 w' w.heap.size (fun k_ => (w.heap.size ≤ k_)) v0_ r ∧ Below w.heap.size w w' := by
 have HO1 := aM (show Kd.V (Kd.int .i32) 21 w w.heap.size (fun k_ => (P1_ k_ ∨ w.heap.size ≤ k_)) (.slice A1 l1.length c1) l1 from Kd.V_mono hs1 (fun k_ hk => .inl hk))
 have HB := aM (Below.refl w.heap.size w)
 have H := h
 clear h
 unfold blanks_Piece.f at H
 have HC3 := aM H
 clear H
 go_enter Try.func34, Try.ntmps34
 go_upto_region 1 with (fail)
 go_cut [13] (fun v13 wc => ∃ (kq : Nat) (x13_2 : Bool), v13 = .bool x13_2 ∧ Aside0 (blanks_Piece.j0 kq a0 l1 x13_2 = some r) ∧ Aside0 (kq ≤ k) ∧ Aside0 (Kd.V (Kd.int .i32) 21 wc w.heap.size (fun k_ => (P1_ k_ ∨ w.heap.size ≤ k_)) (.slice A1 l1.length c1) l1) ∧ Aside0 (Below w.heap.size w wc))
 case first =>
  have H := HC3.out
  clear HC3
  by_cases c4 : a0 < 1
  ·rw [if_pos c4] at H
   have c4b0 : decide (a0 < 1) = true := decide_eq_true c4
   clear c4
   (first | rw [c4b0] | (simp only [i64_w, i32_w]; rw [c4b0]) | skip)
   have H' := aM H
   clear H
   go_wp2
   go_meet
   case rel => exact ⟨_, (true), zP, H', ⟨by first | omega | exact Nat.le_refl _⟩, ⟨zV HO1⟩, ⟨zB⟩⟩
  ·rw [if_neg c4] at H
   have c4b0 : decide (a0 < 1) = false := decide_eq_false c4
   clear c4
   (first | rw [c4b0] | (simp only [i64_w, i32_w]; rw [c4b0]) | skip)
   have H' := aM H
   clear H
   go_wp2
   go_meet
   case rel => exact ⟨_, (decide (a0 > 3)), zP, H', ⟨by first | omega | exact Nat.le_refl _⟩, ⟨zV HO1⟩, ⟨zB⟩⟩
 case rest =>
  clear HC3
  try clear c1
  try clear p2
  try clear c3
  try clear c4
  try clear c4b0
  obtain ⟨kq, x13_2, rfl, HA, HJ2, HO_1, HB⟩ := hcut
  cases kq with
  | zero => exact absurd HA.out (by simp [blanks_Piece.j0])
  | succ kj2 =>
   have H := HA.out
   clear HA
   simp only [blanks_Piece.j0] at H
   by_cases c5 : x13_2 = true
   ·subst c5
    rw [if_pos rfl] at H
    obtain rfl := sI H
    go_wp2
    go_ret
    exact ⟨_, zE, zL, zB⟩
   ·replace c5 := Bool.eq_false_iff.mpr c5
    subst c5
    rw [if_neg (show ¬ (false = true) by decide)] at H
    have HC6 := aM H
    clear H
    go_upto_if 15 with (fail)
    go_cut [1] (fun v1 wc => ∃ (kq : Nat) (x1_5 : List Int), Aside0 (blanks_Piece.j1 kq a0 x1_5 = some r) ∧ Aside0 (kq ≤ kj2) ∧ Aside0 (Kd.V (Kd.int .i32) 21 wc w.heap.size (fun k_ => (P1_ k_ ∨ w.heap.size ≤ k_)) v1 x1_5) ∧ Aside0 (Below w.heap.size w wc))
    case first =>
     have H := HC6.out
     clear HC6
     by_cases c7 : a0 = 1
     ·rw [if_pos c7] at H
      have c7b0 : (a0 == 1) = true := beq_iff_eq.mpr c7
      have c7b1 : (a0 != 1) = false := bne_eq_false_iff_eq.mpr c7
      clear c7
      (first | rw [c7b0] | (simp only [i64_w, i32_w]; rw [c7b0]) | skip)
      obtain ⟨t411, A8, H⟩ := zO H
      have H' := aM H
      clear H
      go_wp2_with (first | ((with_reducible refine gate_callee (f := 54) rfl ?_); refine goesL_ (some 17) rfl rfl Try.func54 zK rfl #[.slice A1 l1.length c1] rfl zM ?_; (with_reducible refine (blanks_firm.calls kj2 (fun k_ => (P1_ k_ ∨ w.heap.size ≤ k_)) _ _ l1 t411 _ ?side1 A8.out).mono ?_); (case side1 => exact HO_1.out); rintro e w9 ⟨v412, rfl, ho0, hb⟩; refine ⟨_, rfl, ?_⟩; have n_ := zI (aM (Kd.V_below (zV HO_1) hb)) (zI (aM (Kd.V_lower (Kd.V_mono (ok' := fun k_ => (P1_ k_ ∨ w.heap.size ≤ k_)) ho0 (fun k_ hk_ => Or.elim hk_ (fun hs_ => hs_) (fun hn_ => (.inr (Nat.le_trans (below_size zB) hn_))))) (below_size zB))) (aM (below_step zB hb))); clear HO_1 HB; obtain ⟨HO_1, HO413, HB⟩ := n_; (try clear hb); (try clear ho0)))
      go_meet
      case rel => exact ⟨_, (t411), H', ⟨by have := HJ2.out; first | omega | exact Nat.le_refl _⟩, ⟨zV HO413⟩, ⟨zB⟩⟩
     ·rw [if_neg c7] at H
      have c7b0 : (a0 == 1) = false := beq_eq_false_iff_ne.mpr c7
      have c7b1 : (a0 != 1) = true := bne_iff_ne.mpr c7
      (first | rw [c7b0] | (simp only [i64_w, i32_w]; rw [c7b0]) | skip)
      have H' := aM H
      clear H
      go_wp2
      go_meet
      case rel => exact ⟨_, (l1), H', ⟨by have := HJ2.out; first | omega | exact Nat.le_refl _⟩, ⟨zV HO_1⟩, ⟨zB⟩⟩
    case rest =>
     clear HC6
     try clear c1
     try clear p2
     try clear c3
     try clear c4
     try clear c4b0
     try clear c5
     try clear c7
     try clear c7b0
     try clear c7b1
     try clear p2
     obtain ⟨kq, x1_5, HA, HJ5, HO_1, HB⟩ := hcut
     cases kq with
     | zero => exact absurd HA.out (by simp [blanks_Piece.j1])
     | succ kj5 =>
      have H := HA.out
      clear HA
      simp only [blanks_Piece.j1] at H
      obtain ⟨t414, A10, H⟩ := zO H
      have HC11 := aM H
      clear H
      obtain ⟨Ao12, co12, eo12⟩ := Kd.V_slice HO_1.out
      subst eo12
      go_upto_region 6 with (first | ((with_reducible refine gate_callee (f := 55) rfl ?_); refine goesL_ (some 19) rfl rfl Try.func55 zK rfl #[.slice Ao12 x1_5.length co12] rfl zM ?_; (with_reducible refine (blanks_words.calls kj5 (fun k_ => (P1_ k_ ∨ w.heap.size ≤ k_)) _ _ x1_5 t414 _ ?side1 A10.out).mono ?_); (case side1 => exact HO_1.out); rintro e w13 ⟨v415, rfl, ho0, hb⟩; refine ⟨_, rfl, ?_⟩; have n_ := zI (aM (Kd.V_elder' (zV HO_1) (Kd.N_base ho0) hb)) (zI (aM (Kd.N_lower (Kd.N_mono (ok' := fun k_ => (P1_ k_ ∨ w.heap.size ≤ k_)) ho0 (fun k_ hk_ => Or.elim hk_ (fun hs_ => hs_) (fun hn_ => (.inr (Nat.le_trans (below_size zB) hn_))))) (below_size zB))) (aM (below_step zB hb))); clear HO_1 HB; obtain ⟨HO_1, HO416, HB⟩ := n_; (try clear hb); (try clear ho0)))
      (try simp only [Act.put, List.setIfInBounds_toArray, List.set_cons_zero, List.set_cons_succ])
      go_cut [6, 7] (fun v6 v7 wc => ∃ (kq : Nat) (x6_10 : Bool) (x7_10 : Bool), v6 = .bool x6_10 ∧ v7 = .bool x7_10 ∧ Aside0 (blanks_Piece.j2 kq t414 x6_10 x7_10 = some r) ∧ Aside0 (kq ≤ kj5) ∧ Aside0 (Kd.N (Kd.slice 21 (Kd.int .i32)) 54 wc w.heap.size (fun k_ => (P1_ k_ ∨ w.heap.size ≤ k_)) v415 t414) ∧ Aside0 (Below w.heap.size w wc))
      case first =>
       have H := HC11.out
       clear HC11
       by_cases c14 : a0 = 1
       ·rw [if_pos c14] at H
        have c14b0 : (a0 == 1) = true := beq_iff_eq.mpr c14
        have c14b1 : (a0 != 1) = false := bne_eq_false_iff_eq.mpr c14
        clear c14
        (first | rw [c14b0] | (simp only [i64_w, i32_w]; rw [c14b0]) | skip)
        by_cases c15 : a0 = 3
        ·rw [if_pos c15] at H
         have c15b0 : (a0 == 3) = true := beq_iff_eq.mpr c15
         have c15b1 : (a0 != 3) = false := bne_eq_false_iff_eq.mpr c15
         clear c15
         have H' := aM H
         clear H
         go_wp2
         go_meet
         case rel => exact ⟨_, (true), (true), zP, zP, H', ⟨by have := HJ2.out; have := HJ5.out; first | omega | exact Nat.le_refl _⟩, ⟨zN HO416⟩, ⟨zB⟩⟩
        ·rw [if_neg c15] at H
         have c15b0 : (a0 == 3) = false := beq_eq_false_iff_ne.mpr c15
         have c15b1 : (a0 != 3) = true := bne_iff_ne.mpr c15
         obtain ⟨t417, A16, H⟩ := zO H
         have H' := aM H
         clear H
         go_wp2_with (first | (go_at_call 51; (with_reducible refine (blanks_Space.calls kj5 _ _ x1_5 (wrap64 ((x1_5.length : Int) - 1)) t417 _ ?side1 ?side2 A16.out).mono ?_); (case side1 => exact zC (Kd.V_reads' HO_1.out).2.2); (case side2 => exact (Kd.V_reads' HO_1.out).2.1); rintro e w17 ⟨rfl, hb⟩; (try clear A16); have n_ := zI (aM (Kd.V_below (zV HO_1) hb)) (zI (aM (Kd.N_below (zN HO416) hb)) (aM (below_step zB hb))); clear HO_1 HO416 HB; obtain ⟨HO_1, HO416, HB⟩ := n_; (try clear hb)))
         go_meet
         case rel => exact ⟨_, (true), (t417), zP, zP, H', ⟨by have := HJ2.out; have := HJ5.out; first | omega | exact Nat.le_refl _⟩, ⟨zN HO416⟩, ⟨zB⟩⟩
       ·rw [if_neg c14] at H
        have c14b0 : (a0 == 1) = false := beq_eq_false_iff_ne.mpr c14
        have c14b1 : (a0 != 1) = true := bne_iff_ne.mpr c14
        (first | rw [c14b0] | (simp only [i64_w, i32_w]; rw [c14b0]) | skip)
        obtain ⟨t418, A18, H⟩ := zO H
        by_cases c19 : a0 = 3
        ·rw [if_pos c19] at H
         have c19b0 : (a0 == 3) = true := beq_iff_eq.mpr c19
         have c19b1 : (a0 != 3) = false := bne_eq_false_iff_eq.mpr c19
         clear c19
         have H' := aM H
         clear H
         go_wp2_with (first | (go_at_call 51; (with_reducible refine (blanks_Space.calls kj5 _ _ x1_5 0 t418 _ ?side1 ?side2 A18.out).mono ?_); (case side1 => exact zC (Kd.V_reads' HO_1.out).2.2); (case side2 => exact (Kd.V_reads' HO_1.out).2.1); rintro e w20 ⟨rfl, hb⟩; (try clear A18); have n_ := zI (aM (Kd.V_below (zV HO_1) hb)) (zI (aM (Kd.N_below (zN HO416) hb)) (aM (below_step zB hb))); clear HO_1 HO416 HB; obtain ⟨HO_1, HO416, HB⟩ := n_; (try clear hb)))
         go_meet
         case rel => exact ⟨_, (t418), (true), zP, zP, H', ⟨by have := HJ2.out; have := HJ5.out; first | omega | exact Nat.le_refl _⟩, ⟨zN HO416⟩, ⟨zB⟩⟩
        ·rw [if_neg c19] at H
         have c19b0 : (a0 == 3) = false := beq_eq_false_iff_ne.mpr c19
         have c19b1 : (a0 != 3) = true := bne_iff_ne.mpr c19
         obtain ⟨t419, A21, H⟩ := zO H
         have H' := aM H
         clear H
         go_wp2_with (first | (go_at_call 51; (with_reducible refine (blanks_Space.calls kj5 _ _ x1_5 0 t418 _ ?side1 ?side2 A18.out).mono ?_); (case side1 => exact zC (Kd.V_reads' HO_1.out).2.2); (case side2 => exact (Kd.V_reads' HO_1.out).2.1); rintro e w22 ⟨rfl, hb⟩; (try clear A18); have n_ := zI (aM (Kd.V_below (zV HO_1) hb)) (zI (aM (Kd.N_below (zN HO416) hb)) (aM (below_step zB hb))); clear HO_1 HO416 HB; obtain ⟨HO_1, HO416, HB⟩ := n_; (try clear hb)) | (go_at_call 51; (with_reducible refine (blanks_Space.calls kj5 _ _ x1_5 (wrap64 ((x1_5.length : Int) - 1)) t419 _ ?side1 ?side2 A21.out).mono ?_); (case side1 => exact zC (Kd.V_reads' HO_1.out).2.2); (case side2 => exact (Kd.V_reads' HO_1.out).2.1); rintro e w23 ⟨rfl, hb⟩; (try clear A21); have n_ := zI (aM (Kd.V_below (zV HO_1) hb)) (zI (aM (Kd.N_below (zN HO416) hb)) (aM (below_step zB hb))); clear HO_1 HO416 HB; obtain ⟨HO_1, HO416, HB⟩ := n_; (try clear hb)))
         go_meet
         case rel => exact ⟨_, (t418), (t419), zP, zP, H', ⟨by have := HJ2.out; have := HJ5.out; first | omega | exact Nat.le_refl _⟩, ⟨zN HO416⟩, ⟨zB⟩⟩
      case rest =>
       clear HC11
       try clear c1
       try clear p2
       try clear c3
       try clear c4
       try clear c4b0
       try clear c5
       try clear p6
       try clear c7
       try clear c7b0
       try clear c7b1
       try clear c14
       try clear c14b0
       try clear c14b1
       try clear c15
       try clear c15b0
       try clear c15b1
       try clear c19
       try clear c19b0
       try clear c19b1
       try clear p2
       obtain ⟨kq, x6_10, x7_10, rfl, rfl, HA, HJ10, HO_5, HB⟩ := hcut
       cases kq with
       | zero => exact absurd HA.out (by simp [blanks_Piece.j2])
       | succ kj10 =>
        have H := HA.out
        clear HA
        simp only [blanks_Piece.j2] at H
        by_cases c24 : (t414.length : Int) = 0
        ·rw [if_pos c24] at H
         have c24b0 : ((t414.length : Int) == 0) = true := beq_iff_eq.mpr c24
         have c24b1 : ((t414.length : Int) != 0) = false := bne_eq_false_iff_eq.mpr c24
         clear c24
         by_cases c25 : x6_10 = true
         ·subst c25
          rw [if_pos rfl] at H
          obtain ⟨t420, A26, H⟩ := zO H
          obtain rfl := sI H
          obtain ⟨Ao27, co27, eo27⟩ := Kd.N_slice HO_5.out
          subst eo27
          go_wp2_with (first | ((with_reducible refine gate_callee (f := 56) rfl ?_); refine goesL_ (some 42) rfl rfl Try.func56 zK rfl #[.slice none 0 0, .bool true, .bool false] rfl zM ?_; (refine (blanks_edged.calls _ _ ([] : List Int) true false t420 _ ?side1 ?side2 A26.out).mono ?_); (case side1 => exact Kd.C_nil _ _); (case side2 => exact Nat.le_refl _); rintro e w28 ⟨v421, rfl, ho0, hb⟩; refine ⟨_, rfl, ?_⟩; have n_ := zI (aM (Kd.N_elder' (zN HO_5) (Kd.R_base ho0) hb)) (zI (aM (Kd.R_lower (Kd.R_newM (M := fun k_ => (w.heap.size ≤ k_)) ho0 (below_size zB) (fun k_ h_ => h_)) (below_size zB))) (aM (below_step zB hb))); clear HO_5 HB; obtain ⟨HO_5, HO422, HB⟩ := n_; (try clear hb); (try clear ho0)))
          go_ret
          exact ⟨_, zE, by (with_reducible repeat (first | apply Kd.R_alloc | apply Kd.R_drewN | apply Kd.R_drew)); exact Kd.R_mono HO422.out (fun _ hk => hk.1), zB⟩
         ·replace c25 := Bool.eq_false_iff.mpr c25
          subst c25
          rw [if_neg (show ¬ (false = true) by decide)] at H
          obtain ⟨t423, A29, H⟩ := zO H
          obtain rfl := sI H
          obtain ⟨Ao30, co30, eo30⟩ := Kd.N_slice HO_5.out
          subst eo30
          go_wp2_with (first | ((with_reducible refine gate_callee (f := 56) rfl ?_); refine goesL_ (some 42) rfl rfl Try.func56 zK rfl #[.slice none 0 0, .bool x7_10, .bool false] rfl zM ?_; (refine (blanks_edged.calls _ _ ([] : List Int) x7_10 false t423 _ ?side1 ?side2 A29.out).mono ?_); (case side1 => exact Kd.C_nil _ _); (case side2 => exact Nat.le_refl _); rintro e w31 ⟨v424, rfl, ho0, hb⟩; refine ⟨_, rfl, ?_⟩; have n_ := zI (aM (Kd.N_elder' (zN HO_5) (Kd.R_base ho0) hb)) (zI (aM (Kd.R_lower (Kd.R_newM (M := fun k_ => (w.heap.size ≤ k_)) ho0 (below_size zB) (fun k_ h_ => h_)) (below_size zB))) (aM (below_step zB hb))); clear HO_5 HB; obtain ⟨HO_5, HO425, HB⟩ := n_; (try clear hb); (try clear ho0)))
          go_ret
          exact ⟨_, zE, by (with_reducible repeat (first | apply Kd.R_alloc | apply Kd.R_drewN | apply Kd.R_drew)); exact Kd.R_mono HO425.out (fun _ hk => hk.1), zB⟩
        ·rw [if_neg c24] at H
         have c24b0 : ((t414.length : Int) == 0) = false := beq_eq_false_iff_ne.mpr c24
         have c24b1 : ((t414.length : Int) != 0) = true := bne_iff_ne.mpr c24
         have c24b2 : ¬ (t414 = []) := fun h_ => c24 (by rw [h_]; rfl)
         obtain ⟨t426, A32, H⟩ := zO H
         obtain ⟨t429, A33, H⟩ := zO H
         obtain rfl := sI H
         obtain ⟨Ao34, co34, eo34⟩ := Kd.N_slice HO_5.out
         subst eo34
         go_wp2_with (first | ((with_reducible refine gate_callee (f := 57) rfl ?_); refine goesL_ (some 44) rfl rfl Try.func57 zK rfl #[.slice Ao34 t414.length co34] rfl zM ?_; (with_reducible refine (blanks_joined.calls kj10 _ _ t414 t426 _ ?side1 ?side2 A32.out).mono ?_); (case side1 => exact zC (Kd.N_reads' HO_5.out).2.2); (case side2 => exact (Kd.N_reads' HO_5.out).2.1); rintro e w35 ⟨v427, rfl, ho0, hb⟩; refine ⟨_, rfl, ?_⟩; have n_ := zI (aM (Kd.N_elder' (zN HO_5) (Kd.R_base ho0) hb)) (zI (aM (Kd.R_lower (Kd.R_newM (M := fun k_ => (w.heap.size ≤ k_)) ho0 (below_size zB) (fun k_ h_ => h_)) (below_size zB))) (aM (below_step zB hb))); clear HO_5 HB; obtain ⟨HO_5, HO428, HB⟩ := n_; (try clear hb); (try clear ho0); obtain ⟨Ao36, co36, rfl⟩ := Kd.R_slice HO428.out) | ((with_reducible refine gate_callee (f := 56) rfl ?_); refine goesL_ (some 47) rfl rfl Try.func56 zK rfl #[.slice Ao36 t426.length co36, .bool x6_10, .bool x7_10] rfl zM ?_; (with_reducible refine (blanks_edged.calls _ _ t426 x6_10 x7_10 t429 _ ?side1 ?side2 A33.out).mono ?_); (case side1 => exact zC (Kd.R_reads' HO428.out).2.2); (case side2 => exact (Kd.R_reads' HO428.out).2.1); rintro e w37 ⟨v430, rfl, ho0, hb⟩; refine ⟨_, rfl, ?_⟩; have n_ := zI (aM (Kd.N_elder' (zN HO_5) (Kd.R_base ho0) hb)) (zI (aM (Kd.R_elder' (zR HO428) (Kd.R_base ho0) hb)) (zI (aM (Kd.R_lower (Kd.R_new' (Kd.R_newM (M := fun k_ => (w.heap.size ≤ k_)) ho0 (below_size zB) (fun k_ h_ => h_)) (Kd.R_lt (zR HO428))) (below_size zB))) (aM (below_step zB hb)))); clear HO_5 HO428 HB; obtain ⟨HO_5, HO428, HO431, HB⟩ := n_; (try clear hb); (try clear ho0)))
         go_ret
         exact ⟨_, zE, by (with_reducible repeat (first | apply Kd.R_alloc | apply Kd.R_drewN | apply Kd.R_drew)); exact Kd.R_mono HO431.out (fun _ hk => hk.1.1), zB⟩

/-! ### pieces_one: function 20 -/
def pieces_one.j0 : Nat → Int → Int → List Int → Option (ByteArray × Int)
 | 0, _, _, _ => none
 | k + 1, x0, x1, x8 => (guard_Check.f k x8).bind fun bt449 => (if bt449.2 = 0 then (if x0 = 3 then ((blanks_Numeric.f k x8).bind fun t451 => ((nfkc_Runes.f k true t451).bind fun t454 => ((utf_Encode.f k t454).bind fun bt457 => (some (bt457.1, bt457.2))))) else (if x0 = 4 then ((blanks_Phone.f k x8).bind fun t459 => ((nfkc_Runes.f k true t459).bind fun t462 => ((utf_Encode.f k t462).bind fun bt465 => (some (bt465.1, bt465.2))))) else ((blanks_Piece.f k x1 x8).bind fun t467 => ((utf_Encode.f k t467).bind fun bt470 => (some (bt470.1, bt470.2)))))) else (some ((⟨#[]⟩ : ByteArray), bt449.2)))
def pieces_one.f (k : Nat) (a0 : Int) (a1 : Int) (a2 : ByteArray) : Option (ByteArray × Int) := if (a2.size : Int) > 1202 then (some ((⟨#[]⟩ : ByteArray), 3)) else ((utf_Runes.f k a2).bind fun bt432 => (if bt432.2.2 = 0 then (if a0 = 2 then ((fold_Map.f k true bt432.1).bind fun t437 => ((nfkc_Runes.f k true t437).bind fun t440 => (pieces_one.j0 k a0 a1 t440))) else ((fold_Map.f k (a0 == 4) bt432.1).bind fun t443 => ((nfkc_Runes.f k true t443).bind fun t446 => (pieces_one.j0 k a0 a1 t446)))) else (some ((⟨#[]⟩ : ByteArray), bt432.2.2))))
theorem pieces_one.mono_l : ∀ k, (∀ y0 y1 y2, LeO (pieces_one.j0 k y0 y1 y2) (pieces_one.j0 (k + 1) y0 y1 y2))
 | 0 => fun _ _ _ r h => by simp [pieces_one.j0] at h
 | k + 1 => by
  have ih0 := pieces_one.mono_l k
  ·intro y0 y1 y2
   unfold pieces_one.j0
   repeat' first
   | (with_reducible exact ih0 _ _ _)
   | (with_reducible exact blanks_Numeric.mono _ _)
   | (with_reducible exact blanks_Phone.mono _ _)
   | (with_reducible exact blanks_Piece.mono _ _ _)
   | (with_reducible exact fold_Map.mono _ _ _)
   | (with_reducible exact guard_Check.mono _ _)
   | (with_reducible exact nfkc_Runes.mono _ _ _)
   | (with_reducible exact utf_Encode.mono _ _)
   | (with_reducible exact utf_Runes.mono _ _)
   | (with_reducible exact LeO.refl _)
   | exact ih0 _ _ _
   | exact blanks_Numeric.mono _ _
   | exact blanks_Phone.mono _ _
   | exact blanks_Piece.mono _ _ _
   | exact fold_Map.mono _ _ _
   | exact guard_Check.mono _ _
   | exact nfkc_Runes.mono _ _ _
   | exact utf_Encode.mono _ _
   | exact utf_Runes.mono _ _
   | exact LeO.none _
   | refine LeO.ite ?_ ?_
   | refine LeO.bind ?_ (fun _ => ?_)
theorem pieces_one.mono : ∀ a0 a1 a2 k, LeO (pieces_one.f k a0 a1 a2) (pieces_one.f (k + 1) a0 a1 a2) := by
 intro a0 a1 a2 k
 have ih0 := pieces_one.mono_l k
 unfold pieces_one.f
 repeat' first
   | (with_reducible exact ih0 _ _ _)
   | (with_reducible exact blanks_Numeric.mono _ _)
   | (with_reducible exact blanks_Phone.mono _ _)
   | (with_reducible exact blanks_Piece.mono _ _ _)
   | (with_reducible exact fold_Map.mono _ _ _)
   | (with_reducible exact guard_Check.mono _ _)
   | (with_reducible exact nfkc_Runes.mono _ _ _)
   | (with_reducible exact utf_Encode.mono _ _)
   | (with_reducible exact utf_Runes.mono _ _)
   | (with_reducible exact LeO.refl _)
   | exact ih0 _ _ _
   | exact blanks_Numeric.mono _ _
   | exact blanks_Phone.mono _ _
   | exact blanks_Piece.mono _ _ _
   | exact fold_Map.mono _ _ _
   | exact guard_Check.mono _ _
   | exact nfkc_Runes.mono _ _ _
   | exact utf_Encode.mono _ _
   | exact utf_Runes.mono _ _
   | exact LeO.none _
   | refine LeO.ite ?_ ?_
   | refine LeO.bind ?_ (fun _ => ?_)
set_option maxHeartbeats 8000000 in
set_option maxRecDepth 100000 in
theorem pieces_one.calls (k : Nat) (a0 : Int) (a1 : Int) (a2 : ByteArray) (r1 : ByteArray) (r2 : Int) (w : World) (h : pieces_one.f k a0 a1 a2 = some (r1, r2)) :
  Calls Try.prog 20 #[.int .i64 a0, .int .i64 a1, .string a2] w fun e w' => e = .returned (.tuple #[.string r1, .int .i64 r2]) ∧ Below w.heap.size w w' := by
 have HB := aM (Below.refl w.heap.size w)
 have H := h
 clear h
 unfold pieces_one.f at H
 by_cases c4 : (a2.size : Int) > 1202
 ·rw [if_pos c4] at H
  have c4b0 : decide (1202 < (a2.size : Int)) = true := decide_eq_true c4
  have c4b1 : decide (1202 < a2.size) = true := decide_eq_true (by omega)
  clear c4
  simp only [Option.some.injEq, Prod.mk.injEq] at H
  obtain ⟨rfl, rfl⟩ := H
  go_enter Try.func20, Try.ntmps20
  go_wp2
  go_ret2
  exact ⟨zE, zB⟩
 ·rw [if_neg c4] at H
  have c4b0 : decide (1202 < (a2.size : Int)) = false := decide_eq_false c4
  have c4b1 : decide (1202 < a2.size) = false := decide_eq_false (by omega)
  clear c4
  obtain ⟨⟨t432, t433, t434⟩, A5, H⟩ := zO H
  try dsimp only at H
  by_cases c6 : t434 = 0
  ·rw [if_pos c6] at H
   have c6b0 : (t434 == 0) = true := beq_iff_eq.mpr c6
   have c6b1 : (t434 != 0) = false := bne_eq_false_iff_eq.mpr c6
   clear c6
   have HC7 := aM H
   clear H
   go_enter Try.func20, Try.ntmps20
   go_upto_region 6 with (first | ((with_reducible refine gate_callee (f := 26) rfl ?_); refine goesL_ (some 18) rfl rfl Try.func26 zK rfl #[.string a2] rfl zM ?_; (with_reducible refine (utf_Runes.calls k a2 t432 t433 t434 _ A5.out).mono ?_); rintro e w8 ⟨v435, rfl, ho0, hb⟩; refine ⟨_, rfl, ?_⟩; have n_ := zI (aM (Kd.R_lower ho0 (below_size zB))) (aM (below_step zB hb)); clear HB; obtain ⟨HO436, HB⟩ := n_; (try clear hb); (try clear ho0)))
   (try simp only [Act.put, List.setIfInBounds_toArray, List.set_cons_zero, List.set_cons_succ])
   go_cut [8] (fun v8 wc => ∃ (kq : Nat) (x8_6 : List Int), Aside0 (pieces_one.j0 kq a0 a1 x8_6 = some (r1, r2)) ∧ Aside0 (kq ≤ k) ∧ Aside0 (Kd.R (Kd.int .i32) 21 wc w.heap.size (fun _ => True) v8 x8_6) ∧ Aside0 (Below w.heap.size w wc))
   case first =>
    have H := HC7.out
    clear HC7
    by_cases c9 : a0 = 2
    ·rw [if_pos c9] at H
     have c9b0 : (a0 == 2) = true := beq_iff_eq.mpr c9
     have c9b1 : (a0 != 2) = false := bne_eq_false_iff_eq.mpr c9
     clear c9
     (first | rw [c9b0] | (simp only [i64_w, i32_w]; rw [c9b0]) | skip)
     obtain ⟨t437, A10, H⟩ := zO H
     obtain ⟨t440, A11, H⟩ := zO H
     have H' := aM H
     clear H
     obtain ⟨Ao12, co12, eo12⟩ := Kd.R_slice HO436.out
     subst eo12
     go_wp2_with (first | ((with_reducible refine gate_callee (f := 30) rfl ?_); refine goesL_ (some 32) rfl rfl Try.func30 zK rfl #[.bool true, .slice Ao12 t432.length co12] rfl zM ?_; (with_reducible refine (fold_Map.calls k true _ _ t432 t437 _ ?side1 ?side2 A10.out).mono ?_); (case side1 => exact zC (Kd.R_reads' HO436.out).2.2); (case side2 => exact (Kd.R_reads' HO436.out).2.1); rintro e w13 ⟨v438, rfl, ho0, hb⟩; (try clear A10); refine ⟨_, rfl, ?_⟩; have n_ := zI (aM (Kd.R_elder' (zR HO436) (Kd.R_base ho0) hb)) (zI (aM (Kd.R_lower (Kd.R_new' ho0 (Kd.R_lt (zR HO436))) (below_size zB))) (aM (below_step zB hb))); clear HO436 HB; obtain ⟨HO436, HO439, HB⟩ := n_; (try clear hb); (try clear ho0); obtain ⟨Ao14, co14, rfl⟩ := Kd.R_slice HO439.out) | ((with_reducible refine gate_callee (f := 29) rfl ?_); refine goesL_ (some 33) rfl rfl Try.func29 zK rfl #[.bool true, .slice Ao14 t437.length co14] rfl zM ?_; (with_reducible refine (nfkc_Runes.calls k true _ _ t437 t440 _ ?side1 ?side2 A11.out).mono ?_); (case side1 => exact zC (Kd.R_reads' HO439.out).2.2); (case side2 => exact (Kd.R_reads' HO439.out).2.1); rintro e w15 ⟨v441, rfl, ho0, hb⟩; (try clear A11); refine ⟨_, rfl, ?_⟩; have n_ := zI (aM (Kd.R_elder' (zR HO436) (Kd.R_base ho0) hb)) (zI (aM (Kd.R_elder' (zR HO439) (Kd.R_base ho0) hb)) (zI (aM (Kd.R_lower (Kd.R_new' (Kd.R_new' ho0 (Kd.R_lt (zR HO436))) (Kd.R_lt (zR HO439))) (below_size zB))) (aM (below_step zB hb)))); clear HO436 HO439 HB; obtain ⟨HO436, HO439, HO442, HB⟩ := n_; (try clear hb); (try clear ho0)))
     go_meet
     case rel => exact ⟨_, (t440), H', ⟨by first | omega | exact Nat.le_refl _⟩, ⟨by (with_reducible repeat (first | apply Kd.R_alloc | apply Kd.R_drewN | apply Kd.R_drew)); exact Kd.R_mono HO442.out (fun _ hk => trivial)⟩, ⟨zB⟩⟩
    ·rw [if_neg c9] at H
     have c9b0 : (a0 == 2) = false := beq_eq_false_iff_ne.mpr c9
     have c9b1 : (a0 != 2) = true := bne_iff_ne.mpr c9
     (first | rw [c9b0] | (simp only [i64_w, i32_w]; rw [c9b0]) | skip)
     obtain ⟨t443, A16, H⟩ := zO H
     obtain ⟨t446, A17, H⟩ := zO H
     have H' := aM H
     clear H
     obtain ⟨Ao18, co18, eo18⟩ := Kd.R_slice HO436.out
     subst eo18
     go_wp2_with (first | ((with_reducible refine gate_callee (f := 30) rfl ?_); refine goesL_ (some 32) rfl rfl Try.func30 zK rfl #[.bool (a0 == 4), .slice Ao18 t432.length co18] rfl zM ?_; (with_reducible refine (fold_Map.calls k (a0 == 4) _ _ t432 t443 _ ?side1 ?side2 A16.out).mono ?_); (case side1 => exact zC (Kd.R_reads' HO436.out).2.2); (case side2 => exact (Kd.R_reads' HO436.out).2.1); rintro e w19 ⟨v444, rfl, ho0, hb⟩; (try clear A16); refine ⟨_, rfl, ?_⟩; have n_ := zI (aM (Kd.R_elder' (zR HO436) (Kd.R_base ho0) hb)) (zI (aM (Kd.R_lower (Kd.R_new' ho0 (Kd.R_lt (zR HO436))) (below_size zB))) (aM (below_step zB hb))); clear HO436 HB; obtain ⟨HO436, HO445, HB⟩ := n_; (try clear hb); (try clear ho0); obtain ⟨Ao20, co20, rfl⟩ := Kd.R_slice HO445.out) | ((with_reducible refine gate_callee (f := 29) rfl ?_); refine goesL_ (some 33) rfl rfl Try.func29 zK rfl #[.bool true, .slice Ao20 t443.length co20] rfl zM ?_; (with_reducible refine (nfkc_Runes.calls k true _ _ t443 t446 _ ?side1 ?side2 A17.out).mono ?_); (case side1 => exact zC (Kd.R_reads' HO445.out).2.2); (case side2 => exact (Kd.R_reads' HO445.out).2.1); rintro e w21 ⟨v447, rfl, ho0, hb⟩; (try clear A17); refine ⟨_, rfl, ?_⟩; have n_ := zI (aM (Kd.R_elder' (zR HO436) (Kd.R_base ho0) hb)) (zI (aM (Kd.R_elder' (zR HO445) (Kd.R_base ho0) hb)) (zI (aM (Kd.R_lower (Kd.R_new' (Kd.R_new' ho0 (Kd.R_lt (zR HO436))) (Kd.R_lt (zR HO445))) (below_size zB))) (aM (below_step zB hb)))); clear HO436 HO445 HB; obtain ⟨HO436, HO445, HO448, HB⟩ := n_; (try clear hb); (try clear ho0)))
     go_meet
     case rel => exact ⟨_, (t446), H', ⟨by first | omega | exact Nat.le_refl _⟩, ⟨by (with_reducible repeat (first | apply Kd.R_alloc | apply Kd.R_drewN | apply Kd.R_drew)); exact Kd.R_mono HO448.out (fun _ hk => trivial)⟩, ⟨zB⟩⟩
   case rest =>
    clear HC7
    try clear c2
    try clear p2
    try clear c3
    try clear c4
    try clear c4b0
    try clear c4b1
    try clear c6
    try clear c6b0
    try clear c6b1
    try clear c9
    try clear c9b0
    try clear c9b1
    try clear c20
    obtain ⟨kq, x8_6, HA, HJ6, HO_8, HB⟩ := hcut
    cases kq with
    | zero => exact absurd HA.out (by simp [pieces_one.j0])
    | succ kj6 =>
     have H := HA.out
     clear HA
     simp only [pieces_one.j0] at H
     obtain ⟨⟨t449, t450⟩, A22, H⟩ := zO H
     try dsimp only at H
     by_cases c23 : t450 = 0
     ·rw [if_pos c23] at H
      have c23b0 : (t450 == 0) = true := beq_iff_eq.mpr c23
      have c23b1 : (t450 != 0) = false := bne_eq_false_iff_eq.mpr c23
      clear c23
      by_cases c24 : a0 = 3
      ·rw [if_pos c24] at H
       have c24b0 : (a0 == 3) = true := beq_iff_eq.mpr c24
       have c24b1 : (a0 != 3) = false := bne_eq_false_iff_eq.mpr c24
       clear c24
       obtain ⟨t451, A25, H⟩ := zO H
       obtain ⟨t454, A26, H⟩ := zO H
       obtain ⟨⟨t457, t458⟩, A27, H⟩ := zO H
       try dsimp only at H
       simp only [Option.some.injEq, Prod.mk.injEq] at H
       obtain ⟨rfl, rfl⟩ := H
       obtain ⟨Ao28, co28, eo28⟩ := Kd.R_slice HO_8.out
       subst eo28
       go_wp2_with (first | ((with_reducible refine gate_callee (f := 31) rfl ?_); refine goesL_ (some 36) rfl rfl Try.func31 zK rfl #[.slice Ao28 x8_6.length co28] rfl zM ?_; (with_reducible refine (guard_Check.calls kj6 _ _ x8_6 t449 t450 _ ?side1 ?side2 A22.out).mono ?_); (case side1 => exact zC (Kd.R_reads' HO_8.out).2.2); (case side2 => exact (Kd.R_reads' HO_8.out).2.1); rintro e w29 ⟨rfl, hb⟩; refine ⟨_, rfl, ?_⟩; have n_ := zI (aM (Kd.R_below (zR HO_8) hb)) (aM (below_step zB hb)); clear HO_8 HB; obtain ⟨HO_8, HB⟩ := n_; (try clear hb)) | ((with_reducible refine gate_callee (f := 32) rfl ?_); refine goesL_ (some 49) rfl rfl Try.func32 zK rfl #[.slice Ao28 x8_6.length co28] rfl zM ?_; (with_reducible refine (blanks_Numeric.calls kj6 _ _ x8_6 t451 _ ?side1 ?side2 A25.out).mono ?_); (case side1 => exact zC (Kd.R_reads' HO_8.out).2.2); (case side2 => exact (Kd.R_reads' HO_8.out).2.1); rintro e w30 ⟨v452, rfl, ho0, hb⟩; refine ⟨_, rfl, ?_⟩; have n_ := zI (aM (Kd.R_elder' (zR HO_8) (Kd.R_base ho0) hb)) (zI (aM (Kd.R_lower (Kd.R_new' ho0 (Kd.R_lt (zR HO_8))) (below_size zB))) (aM (below_step zB hb))); clear HO_8 HB; obtain ⟨HO_8, HO453, HB⟩ := n_; (try clear hb); (try clear ho0); obtain ⟨Ao31, co31, rfl⟩ := Kd.R_slice HO453.out) | ((with_reducible refine gate_callee (f := 29) rfl ?_); refine goesL_ (some 50) rfl rfl Try.func29 zK rfl #[.bool true, .slice Ao31 t451.length co31] rfl zM ?_; (with_reducible refine (nfkc_Runes.calls kj6 true _ _ t451 t454 _ ?side1 ?side2 A26.out).mono ?_); (case side1 => exact zC (Kd.R_reads' HO453.out).2.2); (case side2 => exact (Kd.R_reads' HO453.out).2.1); rintro e w32 ⟨v455, rfl, ho0, hb⟩; (try clear A26); refine ⟨_, rfl, ?_⟩; have n_ := zI (aM (Kd.R_elder' (zR HO_8) (Kd.R_base ho0) hb)) (zI (aM (Kd.R_elder' (zR HO453) (Kd.R_base ho0) hb)) (zI (aM (Kd.R_lower (Kd.R_new' (Kd.R_new' ho0 (Kd.R_lt (zR HO_8))) (Kd.R_lt (zR HO453))) (below_size zB))) (aM (below_step zB hb)))); clear HO_8 HO453 HB; obtain ⟨HO_8, HO453, HO456, HB⟩ := n_; (try clear hb); (try clear ho0); obtain ⟨Ao33, co33, rfl⟩ := Kd.R_slice HO456.out) | ((with_reducible refine gate_callee (f := 28) rfl ?_); refine goesL_ (some 57) rfl rfl Try.func28 zK rfl #[.slice Ao33 t454.length co33] rfl zM ?_; (with_reducible refine (utf_Encode.calls kj6 _ _ t454 t457 t458 _ ?side1 ?side2 A27.out).mono ?_); (case side1 => exact zC (Kd.R_reads' HO456.out).2.2); (case side2 => exact (Kd.R_reads' HO456.out).2.1); rintro e w34 ⟨rfl, hb⟩; (try clear A27); refine ⟨_, rfl, ?_⟩; have n_ := zI (aM (Kd.R_below (zR HO_8) hb)) (zI (aM (Kd.R_below (zR HO453) hb)) (zI (aM (Kd.R_below (zR HO456) hb)) (aM (below_step zB hb)))); clear HO_8 HO453 HO456 HB; obtain ⟨HO_8, HO453, HO456, HB⟩ := n_; (try clear hb)))
       go_ret2
       exact ⟨zE, zB⟩
      ·rw [if_neg c24] at H
       have c24b0 : (a0 == 3) = false := beq_eq_false_iff_ne.mpr c24
       have c24b1 : (a0 != 3) = true := bne_iff_ne.mpr c24
       by_cases c35 : a0 = 4
       ·rw [if_pos c35] at H
        have c35b0 : (a0 == 4) = true := beq_iff_eq.mpr c35
        have c35b1 : (a0 != 4) = false := bne_eq_false_iff_eq.mpr c35
        clear c35
        obtain ⟨t459, A36, H⟩ := zO H
        obtain ⟨t462, A37, H⟩ := zO H
        obtain ⟨⟨t465, t466⟩, A38, H⟩ := zO H
        try dsimp only at H
        simp only [Option.some.injEq, Prod.mk.injEq] at H
        obtain ⟨rfl, rfl⟩ := H
        obtain ⟨Ao39, co39, eo39⟩ := Kd.R_slice HO_8.out
        subst eo39
        go_wp2_with (first | ((with_reducible refine gate_callee (f := 31) rfl ?_); refine goesL_ (some 36) rfl rfl Try.func31 zK rfl #[.slice Ao39 x8_6.length co39] rfl zM ?_; (with_reducible refine (guard_Check.calls kj6 _ _ x8_6 t449 t450 _ ?side1 ?side2 A22.out).mono ?_); (case side1 => exact zC (Kd.R_reads' HO_8.out).2.2); (case side2 => exact (Kd.R_reads' HO_8.out).2.1); rintro e w40 ⟨rfl, hb⟩; refine ⟨_, rfl, ?_⟩; have n_ := zI (aM (Kd.R_below (zR HO_8) hb)) (aM (below_step zB hb)); clear HO_8 HB; obtain ⟨HO_8, HB⟩ := n_; (try clear hb)) | ((with_reducible refine gate_callee (f := 33) rfl ?_); refine goesL_ (some 54) rfl rfl Try.func33 zK rfl #[.slice Ao39 x8_6.length co39] rfl zM ?_; (with_reducible refine (blanks_Phone.calls kj6 _ _ x8_6 t459 _ ?side1 ?side2 A36.out).mono ?_); (case side1 => exact zC (Kd.R_reads' HO_8.out).2.2); (case side2 => exact (Kd.R_reads' HO_8.out).2.1); rintro e w41 ⟨v460, rfl, ho0, hb⟩; refine ⟨_, rfl, ?_⟩; have n_ := zI (aM (Kd.R_elder' (zR HO_8) (Kd.R_base ho0) hb)) (zI (aM (Kd.R_lower (Kd.R_new' ho0 (Kd.R_lt (zR HO_8))) (below_size zB))) (aM (below_step zB hb))); clear HO_8 HB; obtain ⟨HO_8, HO461, HB⟩ := n_; (try clear hb); (try clear ho0); obtain ⟨Ao42, co42, rfl⟩ := Kd.R_slice HO461.out) | ((with_reducible refine gate_callee (f := 29) rfl ?_); refine goesL_ (some 55) rfl rfl Try.func29 zK rfl #[.bool true, .slice Ao42 t459.length co42] rfl zM ?_; (with_reducible refine (nfkc_Runes.calls kj6 true _ _ t459 t462 _ ?side1 ?side2 A37.out).mono ?_); (case side1 => exact zC (Kd.R_reads' HO461.out).2.2); (case side2 => exact (Kd.R_reads' HO461.out).2.1); rintro e w43 ⟨v463, rfl, ho0, hb⟩; (try clear A37); refine ⟨_, rfl, ?_⟩; have n_ := zI (aM (Kd.R_elder' (zR HO_8) (Kd.R_base ho0) hb)) (zI (aM (Kd.R_elder' (zR HO461) (Kd.R_base ho0) hb)) (zI (aM (Kd.R_lower (Kd.R_new' (Kd.R_new' ho0 (Kd.R_lt (zR HO_8))) (Kd.R_lt (zR HO461))) (below_size zB))) (aM (below_step zB hb)))); clear HO_8 HO461 HB; obtain ⟨HO_8, HO461, HO464, HB⟩ := n_; (try clear hb); (try clear ho0); obtain ⟨Ao44, co44, rfl⟩ := Kd.R_slice HO464.out) | ((with_reducible refine gate_callee (f := 28) rfl ?_); refine goesL_ (some 57) rfl rfl Try.func28 zK rfl #[.slice Ao44 t462.length co44] rfl zM ?_; (with_reducible refine (utf_Encode.calls kj6 _ _ t462 t465 t466 _ ?side1 ?side2 A38.out).mono ?_); (case side1 => exact zC (Kd.R_reads' HO464.out).2.2); (case side2 => exact (Kd.R_reads' HO464.out).2.1); rintro e w45 ⟨rfl, hb⟩; (try clear A38); refine ⟨_, rfl, ?_⟩; have n_ := zI (aM (Kd.R_below (zR HO_8) hb)) (zI (aM (Kd.R_below (zR HO461) hb)) (zI (aM (Kd.R_below (zR HO464) hb)) (aM (below_step zB hb)))); clear HO_8 HO461 HO464 HB; obtain ⟨HO_8, HO461, HO464, HB⟩ := n_; (try clear hb)))
        go_ret2
        exact ⟨zE, zB⟩
       ·rw [if_neg c35] at H
        have c35b0 : (a0 == 4) = false := beq_eq_false_iff_ne.mpr c35
        have c35b1 : (a0 != 4) = true := bne_iff_ne.mpr c35
        obtain ⟨t467, A46, H⟩ := zO H
        obtain ⟨⟨t470, t471⟩, A47, H⟩ := zO H
        try dsimp only at H
        simp only [Option.some.injEq, Prod.mk.injEq] at H
        obtain ⟨rfl, rfl⟩ := H
        obtain ⟨Ao48, co48, eo48⟩ := Kd.R_slice HO_8.out
        subst eo48
        go_wp2_with (first | ((with_reducible refine gate_callee (f := 31) rfl ?_); refine goesL_ (some 36) rfl rfl Try.func31 zK rfl #[.slice Ao48 x8_6.length co48] rfl zM ?_; (with_reducible refine (guard_Check.calls kj6 _ _ x8_6 t449 t450 _ ?side1 ?side2 A22.out).mono ?_); (case side1 => exact zC (Kd.R_reads' HO_8.out).2.2); (case side2 => exact (Kd.R_reads' HO_8.out).2.1); rintro e w49 ⟨rfl, hb⟩; refine ⟨_, rfl, ?_⟩; have n_ := zI (aM (Kd.R_below (zR HO_8) hb)) (aM (below_step zB hb)); clear HO_8 HB; obtain ⟨HO_8, HB⟩ := n_; (try clear hb)) | ((with_reducible refine gate_callee (f := 34) rfl ?_); refine goesL_ (some 45) rfl rfl Try.func34 zK rfl #[.int .i64 a1, .slice Ao48 x8_6.length co48] rfl zM ?_; (with_reducible refine (blanks_Piece.calls kj6 a1 (fun k_ => some k_ = (.slice Ao48 x8_6.length co48 : Value).ownBlock) _ _ x8_6 t467 _ ?side1 A46.out).mono ?_); (case side1 => exact Kd.R_V (Kd.R_tight rfl (HO_8.out))); rintro e w50 ⟨v468, rfl, ho0, hb⟩; refine ⟨_, rfl, ?_⟩; have n_ := zI (aM (Kd.R_elder' (zR HO_8) (Kd.R_base ho0) hb)) (zI (aM (Kd.R_lower (Kd.R_new' (Kd.R_mono (ok' := fun k_ => True) ho0 (fun _ hk_ => trivial)) (Kd.R_lt (zR HO_8))) (below_size zB))) (aM (below_step zB hb))); clear HO_8 HB; obtain ⟨HO_8, HO469, HB⟩ := n_; (try clear hb); (try clear ho0); obtain ⟨Ao51, co51, rfl⟩ := Kd.R_slice HO469.out) | ((with_reducible refine gate_callee (f := 28) rfl ?_); refine goesL_ (some 57) rfl rfl Try.func28 zK rfl #[.slice Ao51 t467.length co51] rfl zM ?_; (with_reducible refine (utf_Encode.calls kj6 _ _ t467 t470 t471 _ ?side1 ?side2 A47.out).mono ?_); (case side1 => exact zC (Kd.R_reads' HO469.out).2.2); (case side2 => exact (Kd.R_reads' HO469.out).2.1); rintro e w52 ⟨rfl, hb⟩; (try clear A47); refine ⟨_, rfl, ?_⟩; have n_ := zI (aM (Kd.R_below (zR HO_8) hb)) (zI (aM (Kd.R_below (zR HO469) hb)) (aM (below_step zB hb))); clear HO_8 HO469 HB; obtain ⟨HO_8, HO469, HB⟩ := n_; (try clear hb)))
        go_ret2
        exact ⟨zE, zB⟩
     ·rw [if_neg c23] at H
      have c23b0 : (t450 == 0) = false := beq_eq_false_iff_ne.mpr c23
      have c23b1 : (t450 != 0) = true := bne_iff_ne.mpr c23
      simp only [Option.some.injEq, Prod.mk.injEq] at H
      obtain ⟨rfl, rfl⟩ := H
      obtain ⟨Ao53, co53, eo53⟩ := Kd.R_slice HO_8.out
      subst eo53
      go_wp2_with (first | ((with_reducible refine gate_callee (f := 31) rfl ?_); refine goesL_ (some 36) rfl rfl Try.func31 zK rfl #[.slice Ao53 x8_6.length co53] rfl zM ?_; (with_reducible refine (guard_Check.calls kj6 _ _ x8_6 t449 t450 _ ?side1 ?side2 A22.out).mono ?_); (case side1 => exact zC (Kd.R_reads' HO_8.out).2.2); (case side2 => exact (Kd.R_reads' HO_8.out).2.1); rintro e w54 ⟨rfl, hb⟩; refine ⟨_, rfl, ?_⟩; have n_ := zI (aM (Kd.R_below (zR HO_8) hb)) (aM (below_step zB hb)); clear HO_8 HB; obtain ⟨HO_8, HB⟩ := n_; (try clear hb)))
      go_ret2
      exact ⟨zE, zB⟩
  ·rw [if_neg c6] at H
   have c6b0 : (t434 == 0) = false := beq_eq_false_iff_ne.mpr c6
   have c6b1 : (t434 != 0) = true := bne_iff_ne.mpr c6
   simp only [Option.some.injEq, Prod.mk.injEq] at H
   obtain ⟨rfl, rfl⟩ := H
   go_enter Try.func20, Try.ntmps20
   go_wp2_with (first | ((with_reducible refine gate_callee (f := 26) rfl ?_); refine goesL_ (some 18) rfl rfl Try.func26 zK rfl #[.string a2] rfl zM ?_; (with_reducible refine (utf_Runes.calls k a2 t432 t433 t434 _ A5.out).mono ?_); rintro e w55 ⟨v435, rfl, ho0, hb⟩; refine ⟨_, rfl, ?_⟩; have n_ := zI (aM (Kd.R_lower ho0 (below_size zB))) (aM (below_step zB hb)); clear HB; obtain ⟨HO436, HB⟩ := n_; (try clear hb); (try clear ho0)))
   go_ret2
   exact ⟨zE, zB⟩

/-! ### pieces_Prepare: function 12, by hand (pieces.Prepare.tpl) -/
section
variable {P : Program} {ops : Array Oper} {Q : Exit → Act → World → Prop} {o : Oper} {rest : List Oper} {a : Act}
theorem make_one {W : World} (hgd : o.guard = none) (l c : Operand) (t e : TypeId) (hop : o.op = .makeSlice t l c) (z : Value) (bytes : Nat) (ht : P.underlying t = some (.slice e)) (hinfo : (P.info? e).map (fun i => (i.zero, i.size, i.bytes)) = some (some z, 1, bytes)) (hz1 : z.cells = #[z]) (hl : a.eval l = .int .i64 1) (hc : a.eval c = .int .i64 1) (hb : bytes * 1 ≤ 281474976710656)
    (h : ∀ g, g = W.heap.size → ∀ w1, w1.heap[g]? = some (.cells #[z] e (0, 0)) → Below W.heap.size W w1 → wpList P ops Q rest (a.put o.dst (.slice (some ⟨g, 0, none⟩) 1 1)) w1) : wpList P ops Q (o :: rest) a W := by
  have hr := run_make_row' t e z bytes ht hinfo hz1 .i64 .i64 1 hb (by decide) W
  have hm : madeCells #[z] 1 = #[z] := by
    simp [madeCells]
    exact ⟨0, by decide, rfl⟩
  rw [hm] at hr
  have hrun : (execOp a.eval o).run P W = .ok (.value (.slice (some ⟨W.heap.size, 0, none⟩) 1 1)) (W.alloc (.cells #[z] e (0, 0))) := by
    unfold execOp
    simp only [hop, hl, hc, Sem.run_bind, Sem.run_pure, Result.andThen_ok]
    have hr' : (Instr.makeSlice t (.int .i64 1) (.int .i64 1)).run P W = _ := hr
    simp only [hr', Result.andThen_ok]
  exact Kd.event_run hgd hrun (h _ rfl _ (blk_new W _) (below_alloc (Below.refl _ _) _))
theorem copy_one {W : World} (hgd : o.guard = none) (s x : Operand) (t t' e : TypeId) (ho : o.op = .call { callee := .builtin .copy, args := #[s, x], argTypes := #[t, t'] }) (ht : P.underlying t = some (.slice e)) (hinfo : (P.info? e).map (·.size) = some 1)
    {g : Nat} {b : Addr} {cp : Nat} {te : TypeId} {v0 u : Value} (hs : a.eval s = .slice (some ⟨g, 0, none⟩) 1 1) (hx : a.eval x = .slice (some b) 1 cp) (hg : W.heap[g]? = some (.cells #[v0] te (0, 0))) (hsrc : W.cell? (b.add 0) = some u) (h1 : u.oneCell' = true)
    (h : wpList P ops Q rest (a.put o.dst (.int .i64 1)) (W.setCell ⟨g, 0, none⟩ u)) : wpList P ops Q (o :: rest) a W := by
  have hr := run_copy_cells (P := P) W t t' o.type e g 0 1 1 b 1 cp [u] ht hinfo rfl
    (fun j v hj => by
      cases j with
      | zero => simp only [List.getElem?_cons_zero, Option.some.injEq] at hj; subst hj; exact hsrc
      | succ j => simp at hj)
    (fun j hj => by
      have : j = 0 := by simpa using hj
      subst this
      rw [blk_cell hg]; rfl)
    (fun j hj => blk_frozen hg _) (fun v hv => by simp only [List.mem_singleton] at hv; subst hv; exact h1)
  refine wpList_plain hgd fun K hK => ?_
  unfold Oper.wp execOp
  simp only [ho, resolve, invoke, builtin, Sem.run_bind, Sem.run_pure, Result.andThen_ok, List.map_toArray, List.map_cons, List.map_nil, hs, hx, hr]
  exact hK _ _ h
end
def Hold (p : Prop) : Prop := p
theorem hold {p : Prop} (h : Hold p) : p := h
theorem unhold {p : Prop} (h : p) : Hold p := h
set_option maxHeartbeats 8000000 in
set_option maxRecDepth 100000 in
theorem pieces_Prepare.off (kind : Int) (u v x : Value) (w : World) :
    Calls Try.prog 19 #[.int .i64 kind, .bool false, u, v, x] w fun e w' => e = .returned (.tuple #[]) ∧ w' = w := by
  go_enter Try.func19, Try.ntmps19
  go_wp2
  exact ⟨rfl, _, results_none rfl _ _ _, rfl, rfl⟩
set_option maxHeartbeats 8000000 in
set_option maxRecDepth 100000 in
theorem pieces_Prepare.on (k : Nat) (kind way : Int) (s : ByteArray) (gs ge gw : Nat) (ts te tw : TypeId) (r1 : ByteArray) (w0 w : World) (hs : w.heap[gs]? = some (.cells #[.string s] ts (0, 0))) (he : w.heap[ge]? = some (.cells #[.int .i64 0] te (0, 0))) (hw : w.heap[gw]? = some (.cells #[.int .i64 way] tw (0, 0))) (hne : gs ≠ ge) (HB : Below w0.heap.size w0 w) (hgs : w0.heap.size ≤ gs) (hge : w0.heap.size ≤ ge) (h : pieces_one.f k way kind s = some (r1, 0)) :
    Calls Try.prog 19 #[.int .i64 kind, .bool true, .pointer (some ⟨gs, 0, none⟩), .pointer (some ⟨ge, 0, none⟩), .pointer (some ⟨gw, 0, none⟩)] w fun e w' => e = .returned (.tuple #[]) ∧ w'.heap[gs]? = some (.cells #[.string r1] ts (0, 0)) ∧ w'.heap[ge]? = some (.cells #[.int .i64 0] te (0, 0)) ∧ (∀ g, g < w.heap.size → g ≠ gs → g ≠ ge → w'.heap[g]? = w.heap[g]?) ∧ Below w0.heap.size w0 w' := by
  have cs := blk_cell hs 0
  have ce := blk_cell he 0
  have cw := blk_cell hw 0
  simp only [List.getElem?_toArray, List.getElem?_cons_zero] at cs ce cw
  have hs := Aside0.mk hs
  have he := Aside0.mk he
  have hw := Aside0.mk hw
  have hne := Aside0.mk hne
  have HB := Aside0.mk HB
  have hgs := Aside0.mk hgs
  have hge := Aside0.mk hge
  have h := Aside0.mk h
  go_enter Try.func19, Try.ntmps19
  go_wp2
  refine start_ (n := 13) (S := fun w' => w'.cell? ⟨gw, 0, none⟩ = some (.int .i64 way) ∧ w'.cell? ⟨gs, 0, none⟩ = some (.string s)) (ds := [6, 11, 12]) #[false, false, false, false, false, false, false, false, false, false, false, false, false] (by kernel_rfl) rfl rfl (by exact ⟨cw, cs⟩) (fun hHeld => ?_)
  have HB1 := Aside0.mk (below_drew1 HB.out)
  have S1 := Aside0.mk (show w.drew.heap[gs]? = _ from hs.out)
  have E1 := Aside0.mk (show w.drew.heap[ge]? = _ from he.out)
  have K1 : Aside0 (∀ g, g < w.heap.size → w.drew.heap[g]? = w.heap[g]?) := Aside0.mk (fun g _ => rfl)
  have Z1 : Aside0 (w.heap.size ≤ w.drew.heap.size) := Aside0.mk (Nat.le_refl _)
  generalize w.drew = w1 at HB1 hHeld S1 E1 K1 Z1 ⊢
  refine pure_ (i := 0) (N := some 14) (v := ?_) (a' := ?_) #[true, false, false, false, false, false, false, false, false, false, false, false, false] rfl rfl (by kernel_rfl) (fun _ _ _ h => h) (Or.inl ⟨by rfl, ?_⟩) ?_ ?_
  rotate_left
  · intro w'
    go_simp
    with_reducible rfl
  rotate_left
  · simp only [Act.put, List.setIfInBounds_toArray, List.set_cons_zero, List.set_cons_succ, i64_w, i32_w]
    rfl
  refine take_ (i := 1) (N := some 15) (v := .int .i64 way) (a' := ?_) #[true, true, false, false, false, false, false, false, false, false, false, false, false] rfl rfl (by kernel_rfl) (fun _ _ _ h => h) (Or.inl ⟨by rfl, ?_⟩) hHeld ?_ ?_
  · rintro w' ⟨s1, s2⟩
    go_simp
    try (with_reducible rfl)
  rotate_left
  · simp only [Act.put, List.setIfInBounds_toArray, List.set_cons_zero, List.set_cons_succ, i64_w, i32_w]
    rfl
  refine pure_ (i := 2) (N := some 16) (v := ?_) (a' := ?_) #[true, true, true, false, false, false, false, false, false, false, false, false, false] rfl rfl (by kernel_rfl) (fun _ _ _ h => h) (Or.inl ⟨by rfl, ?_⟩) ?_ ?_
  rotate_left
  · intro w'
    go_simp
    with_reducible rfl
  rotate_left
  · simp only [Act.put, List.setIfInBounds_toArray, List.set_cons_zero, List.set_cons_succ, i64_w, i32_w]
    rfl
  refine pure_ (i := 3) (N := some 17) (v := ?_) (a' := ?_) #[true, true, true, true, false, false, false, false, false, false, false, false, false] rfl rfl (by kernel_rfl) (fun _ _ _ h => h) (Or.inl ⟨by rfl, ?_⟩) ?_ ?_
  rotate_left
  · intro w'
    go_simp
    with_reducible rfl
  rotate_left
  · simp only [Act.put, List.setIfInBounds_toArray, List.set_cons_zero, List.set_cons_succ, i64_w, i32_w]
    rfl
  refine pure_ (i := 4) (N := some 18) (v := ?_) (a' := ?_) #[true, true, true, true, true, false, false, false, false, false, false, false, false] rfl rfl (by kernel_rfl) (fun _ _ _ h => h) (Or.inl ⟨by rfl, ?_⟩) ?_ ?_
  rotate_left
  · intro w'
    go_simp
    with_reducible rfl
  rotate_left
  · simp only [Act.put, List.setIfInBounds_toArray, List.set_cons_zero, List.set_cons_succ, i64_w, i32_w]
    rfl
  refine take_ (i := 5) (N := some 19) (v := .string s) (a' := ?_) #[true, true, true, true, true, true, false, false, false, false, false, false, false] rfl rfl (by kernel_rfl) (fun _ _ _ h => h) (Or.inl ⟨by rfl, ?_⟩) hHeld ?_ ?_
  · rintro w' ⟨s1, s2⟩
    go_simp
    try (with_reducible rfl)
  rotate_left
  · simp only [Act.put, List.setIfInBounds_toArray, List.set_cons_zero, List.set_cons_succ, i64_w, i32_w]
    rfl
  refine last_ (i := 6) (N := some 20) #[true, true, true, true, true, true, true, false, false, false, false, false, false] rfl rfl (by kernel_rfl) (by decide) (fun K hK => ?_)
  refine call_ (N := some 20) 20 #[.int .i64 way, .int .i64 kind, .string s] (by rfl) rfl ?hrun ?hcall
  case hrun => go_simp; done
  refine (pieces_one.calls k way kind s r1 0 _ h.out).mono ?_
  rintro e w3 ⟨rfl, hb⟩
  refine ⟨_, rfl, hK.out _ _ ?_⟩
  clear hK K
  have HB3 := Aside0.mk (below_step HB1.out hb)
  have S3 := Aside0.mk ((hb.block gs (blk_lt S1.out)).trans S1.out)
  have E3 := Aside0.mk ((hb.block ge (blk_lt E1.out)).trans E1.out)
  have K3 := Aside0.mk (fun g (hg : g < w.heap.size) => (hb.block g (by exact Nat.lt_of_lt_of_le hg Z1.out)).trans (K1.out g hg))
  have cs3 := blk_cell S3.out 0
  have fs3 := blk_frozen S3.out 0
  simp only [List.getElem?_toArray, List.getElem?_cons_zero] at cs3
  clear hb HB1 S1 E1 K1
  refine norm_ (by simp only [Act.put, List.setIfInBounds_toArray, List.set_cons_zero, List.set_cons_succ]; rfl) ?_
  refine pure_ (i := 7) (N := some 13) (v := ?_) (a' := ?_) #[true, true, true, true, true, true, true, true, false, false, false, false, false] rfl rfl (by kernel_rfl) (fun _ _ _ h => h) (Or.inl ⟨by rfl, ?_⟩) ?_ ?_
  rotate_left
  · intro w'
    go_simp
    with_reducible rfl
  rotate_left
  · simp only [Act.put, List.setIfInBounds_toArray, List.set_cons_zero, List.set_cons_succ, i64_w, i32_w]
    rfl
  refine pure_ (i := 8) (N := some 21) (v := ?_) (a' := ?_) #[true, true, true, true, true, true, true, true, true, false, false, false, false] rfl rfl (by kernel_rfl) (fun _ _ _ h => h) (Or.inl ⟨by rfl, ?_⟩) ?_ ?_
  rotate_left
  · intro w'
    go_simp
    with_reducible rfl
  rotate_left
  · simp only [Act.put, List.setIfInBounds_toArray, List.set_cons_zero, List.set_cons_succ, i64_w, i32_w]
    rfl
  refine pure_ (i := 9) (N := some 22) (v := ?_) (a' := ?_) #[true, true, true, true, true, true, true, true, true, true, false, false, false] rfl rfl (by kernel_rfl) (fun _ _ _ h => h) (Or.inl ⟨by rfl, ?_⟩) ?_ ?_
  rotate_left
  · intro w'
    go_simp
    with_reducible rfl
  rotate_left
  · simp only [Act.put, List.setIfInBounds_toArray, List.set_cons_zero, List.set_cons_succ, i64_w, i32_w]
    rfl
  refine pure_ (i := 10) (N := some 23) (v := ?_) (a' := ?_) #[true, true, true, true, true, true, true, true, true, true, true, false, false] rfl rfl (by kernel_rfl) (fun _ _ _ h => h) (Or.inl ⟨by rfl, ?_⟩) ?_ ?_
  rotate_left
  · intro w'
    go_simp
    with_reducible rfl
  rotate_left
  · simp only [Act.put, List.setIfInBounds_toArray, List.set_cons_zero, List.set_cons_succ, i64_w, i32_w]
    rfl
  refine last_ (i := 11) (N := none) #[true, true, true, true, true, true, true, true, true, true, true, true, false] rfl rfl (by kernel_rfl) (by decide) (fun K hK => ?_)
  refine skip_ (w1 := ?_) (by rfl) rfl ?_ ?_
  rotate_left
  · go_simp
    rfl
  refine hK.out _ _ ?_
  clear hK K
  have S4 := Aside0.mk (blk_set S3.out 0 (.string r1))
  have E4 := Aside0.mk ((Below.heap_setCell w3 ⟨gs, 0, none⟩ (.string r1) ge (Ne.symm hne.out)).trans E3.out)
  have K4 := Aside0.mk (fun g (hg : g < w.heap.size) (h1 : g ≠ gs) => (Below.heap_setCell w3 ⟨gs, 0, none⟩ (.string r1) g h1).trans (K3.out g hg))
  have HB4 := Aside0.mk (below_set (j := 0) (v := .string r1) HB3.out hgs.out)
  generalize w3.setCell ⟨gs, 0, none⟩ (.string r1) = w4 at S4 E4 K4 HB4 ⊢
  have ce4 := blk_cell E4.out 0
  have fe4 := blk_frozen E4.out 0
  simp only [List.getElem?_toArray, List.getElem?_cons_zero] at ce4
  clear cs3 fs3 S3 E3 K3 HB3
  refine last_ (i := 12) (N := none) #[true, true, true, true, true, true, true, true, true, true, true, true, true] rfl rfl (by kernel_rfl) (by decide) (fun K hK => ?_)
  refine skip_ (w1 := ?_) (by rfl) rfl ?_ ?_
  rotate_left
  · go_simp
    rfl
  refine hK.out _ _ ?_
  clear hK K
  refine done_ (by kernel_rfl) ?_
  refine ⟨rfl, _, results_none rfl _ _ _, rfl, ?_⟩
  exact ⟨(Below.heap_setCell w4 ⟨ge, 0, none⟩ (.int .i64 0) gs hne.out).trans S4.out, blk_set E4.out 0 _, fun g hg h1 h2 => (Below.heap_setCell w4 ⟨ge, 0, none⟩ (.int .i64 0) g h2).trans (K4.out g hg h1), below_set HB4.out hge.out⟩

theorem res_row_tmp {P : Program} {fn : Func} {p u : Tmp} {ty : TypeId} (h : fn.results = #[.cell p ty, .tmp u]) (tmps : Array Value) (w : World) (g : Nat) (t : TypeId) (cs : Array Value) (fr : Nat × Nat) (d : TypeDesc)
    (hp : tmps.getD p undef = .pointer (some ⟨g, 0, none⟩)) (hg : w.heap[g]? = some (.cells cs t fr))
    (hu : P.underlying ty = some d) (hd : (match d with | .struct _ | .array _ _ => true | _ => false) = true) (hi : (P.info? ty).map (·.size) = some cs.size) :
    (results fn tmps).run P w = .ok (.tuple #[.agg cs, tmps.getD u undef]) w := by
  have hp' : tmps[p]?.getD undef = .pointer (some ⟨g, 0, none⟩) := by simpa using hp
  simp [results, h, hp', asAddr, run_loadVar_row w g t ty cs fr d hg hu hd hi]
theorem setRow5 {w : World} {g : Nat} {t : TypeId} {a b c d e : Value} (h : w.heap[g]? = some (.cells #[a, b, c, d, e] t (0, 0))) (a' b' c' d' e' : Value) :
    (((((w.setCell ⟨g, 0, none⟩ a').setCell ⟨g, 1, none⟩ b').setCell ⟨g, 2, none⟩ c').setCell ⟨g, 3, none⟩ d').setCell ⟨g, 4, none⟩ e').heap[g]? = some (.cells #[a', b', c', d', e'] t (0, 0)) :=
  blk_set (blk_set (blk_set (blk_set (blk_set h 0 a') 1 b') 2 c') 3 d') 4 e'
theorem farRow5 {w : World} {g g' : Nat} {o : Obj} (hn : g' ≠ g) (h : w.heap[g']? = some o) (a' b' c' d' e' : Value) :
    (((((w.setCell ⟨g, 0, none⟩ a').setCell ⟨g, 1, none⟩ b').setCell ⟨g, 2, none⟩ c').setCell ⟨g, 3, none⟩ d').setCell ⟨g, 4, none⟩ e').heap[g']? = some o :=
  (Below.heap_setCell _ ⟨g, 4, none⟩ e' g' hn).trans ((Below.heap_setCell _ ⟨g, 3, none⟩ d' g' hn).trans ((Below.heap_setCell _ ⟨g, 2, none⟩ c' g' hn).trans ((Below.heap_setCell _ ⟨g, 1, none⟩ b' g' hn).trans ((Below.heap_setCell _ ⟨g, 0, none⟩ a' g' hn).trans h))))
theorem belowRow5 {w W : World} {g : Nat} (h : Below w.heap.size w W) (hg : w.heap.size ≤ g) (a' b' c' d' e' : Value) :
    Below w.heap.size w (((((W.setCell ⟨g, 0, none⟩ a').setCell ⟨g, 1, none⟩ b').setCell ⟨g, 2, none⟩ c').setCell ⟨g, 3, none⟩ d').setCell ⟨g, 4, none⟩ e') :=
  below_set (below_set (below_set (below_set (below_set h hg) hg) hg) hg) hg
def pieces_Prepare.f (k : Nat) (a0 : Int) (a1_0 : ByteArray) (l1_1 : List ByteArray) (a1_2 : ByteArray) (a1_3 : Bool) (a1_4 : Bool) : Option (ByteArray × List ByteArray × ByteArray × Bool × Bool × Int) :=
  (pieces_Check.f k a1_0 l1_1 a1_2 a1_3 a1_4).bind fun e => if e = 0 then (if a1_3 = false ∧ a1_4 = false ∧ 1 ≤ a0 ∧ a0 ≤ 4 then (match l1_1 with
    | [s] => (pieces_one.f k a0 2 s).bind fun bt => if bt.2 = 0 then some (a1_0, [bt.1], a1_2, false, false, 0) else none
    | _ => none) else none) else some (⟨#[]⟩, [], ⟨#[]⟩, false, false, e)
theorem pieces_Prepare.mono : ∀ a0 a1 a2 a3 a4 a5 k, LeO (pieces_Prepare.f k a0 a1 a2 a3 a4 a5) (pieces_Prepare.f (k + 1) a0 a1 a2 a3 a4 a5) := by
  intro a0 a1 a2 a3 a4 a5 k
  unfold pieces_Prepare.f
  refine LeO.bind (pieces_Check.mono _ _ _ _ _ _) (fun e => LeO.ite (LeO.ite ?_ (LeO.refl _)) (LeO.refl _))
  rcases a2 with _ | ⟨s, _ | ⟨s2, l⟩⟩
  · exact LeO.refl _
  · exact LeO.bind (pieces_one.mono _ _ _ _) (fun _ => LeO.refl _)
  · exact LeO.refl _
set_option maxHeartbeats 8000000 in
set_option maxRecDepth 100000 in
theorem pieces_Prepare.calls (k : Nat) (a0 : Int) (a1_0 : ByteArray) (A1_1 : Option Addr) (c1_1 : Nat) (l1_1 : List ByteArray) (a1_2 : ByteArray) (a1_3 : Bool) (a1_4 : Bool) (r1_0 : ByteArray) (r1_1 : List ByteArray) (r1_2 : ByteArray) (r1_3 : Bool) (r1_4 : Bool) (r2 : Int) (w : World) (hr1 : Kd.C Kd.string w A1_1 l1_1.length l1_1) (hc1 : l1_1.length ≤ c1_1) (h : pieces_Prepare.f k a0 a1_0 l1_1 a1_2 a1_3 a1_4 = some (r1_0, r1_1, r1_2, r1_3, r1_4, r2)) :
    Calls Try.prog 12 #[.int .i64 a0, .agg #[.string a1_0, .slice A1_1 l1_1.length c1_1, .string a1_2, .bool a1_3, .bool a1_4]] w fun e w' => ∃ v0_ : Value, e = .returned (.tuple #[.agg #[.string r1_0, v0_, .string r1_2, .bool r1_3, .bool r1_4], .int .i64 r2]) ∧ Kd.R Kd.string 9 w' w.heap.size (fun _ => True) v0_ r1_1 ∧ Below w.heap.size w w' := by
  have hu29 := Try.underlying29
  have HR := Aside0.mk hr1
  have HC := Aside0.mk hc1
  clear hr1 hc1
  unfold pieces_Prepare.f at h
  obtain ⟨e1, A1, H⟩ := zO h
  clear h
  by_cases c1 : e1 = 0
  · subst c1
    rw [if_pos rfl] at H
    by_cases c2 : a1_3 = false ∧ a1_4 = false ∧ 1 ≤ a0 ∧ a0 ≤ 4
    rotate_left
    · rw [if_neg c2] at H; exact absurd H (by simp)
    rw [if_pos c2] at H
    obtain ⟨rfl, rfl, d1, d2⟩ := c2
    rcases l1_1 with _ | ⟨s, _ | ⟨s2, l⟩⟩
    · exact absurd H (by simp)
    rotate_left
    · exact absurd H (by simp)
    obtain ⟨⟨b1, e2⟩, A2, H⟩ := zO H
    by_cases c3 : e2 = 0
    rotate_left
    · simp only [if_neg c3] at H; exact absurd H (by simp)
    subst c3
    simp only [↓reduceIte, Option.some.injEq, Prod.mk.injEq] at H
    obtain ⟨rfl, rfl, rfl, rfl, rfl, rfl⟩ := H
    obtain ⟨ad, rfl, had⟩ := HR.out.2.2 (Nat.zero_lt_succ _)
    obtain ⟨cs, _, hK, hcell⟩ := had 0 s rfl
    have hcs : cs = [.string s] := hK
    subst hcs
    have hs0 : w.cell? (ad.add 0) = some (.string s) := hcell 0 _ rfl
    have HS := Aside0.mk hs0
    clear hcell hK had hs0
    have HR := Aside0.mk (show Kd.string.C w (some ad) 1 [s] from HR.out)
    have CK : Aside0 (∀ w' : World, Kd.string.C w' (some ad) 1 [s] → Calls Try.prog 8 #[.agg #[.string a1_0, .slice (some ad) 1 c1_1, .string a1_2, .bool false, .bool false]] w' fun e w2 => e = .returned (.int .i64 0) ∧ Below w'.heap.size w' w2) := Aside0.mk (fun w' hC => pieces_Check.calls k a1_0 (some ad) c1_1 [s] a1_2 false false 0 w' hC HC.out A1.out)
    clear A1 HC H
    have d3 : decide (a0 < 1) = false := decide_eq_false (by omega)
    have d4 : decide (4 < a0) = false := decide_eq_false (by omega)
    have d5 : decide (a0 > 4) = false := decide_eq_false (by omega)
    clear d1 d2
    go_enter Try.func12, Try.ntmps12
    go_wp2_with (first
      | ((with_reducible refine gate_dst (N := 2) rfl ?_); refine box_event ?hg (N := 2) ?hd (cs := #[.int .i64 a0]) (t := 3) ?hr ?_; (case hd => rfl); (case hg => rfl); (case hr => first | (go_simp; done) | (go_simp; rfl)); intro g2 hg2 w2 hbox hb; have HB2 := Aside0.mk hb; have B2 := Aside0.mk hbox; have G2 := Aside0.mk hg2; clear hb hbox hg2)
      | ((with_reducible refine gate_dst (N := 3) rfl ?_); refine box_event ?hg (N := 3) ?hd (cs := #[.string a1_0, .slice (some ad) 1 c1_1, .string a1_2, .bool false, .bool false]) (t := 29) ?hr ?_; (case hd => rfl); (case hg => rfl); (case hr => first | (go_simp; done) | (go_simp; rfl)); intro g3 hg3 w3 hbox hb; have HB3 := Aside0.mk (below_step HB2.out hb); have B3 := Aside0.mk hbox; have L23 := Aside0.mk (show g2 < g3 from by rw [hg3]; exact blk_lt B2.out); have B2' := Aside0.mk ((hb.block g2 (blk_lt B2.out)).trans B2.out); clear hb hbox hg3)
      | ((with_reducible refine gate_dst (N := 4) rfl ?_); refine box_event ?hg (N := 4) ?hd (cs := #[.string ⟨#[]⟩, .slice none 0 0, .string ⟨#[]⟩, .bool false, .bool false]) (t := 29) ?hr ?_; (case hd => rfl); (case hg => rfl); (case hr => first | (go_simp; done) | (go_simp; rfl)); intro g4 hg4 w4 hbox hb; have HB := Aside0.mk (below_step HB3.out hb); have B4 := Aside0.mk hbox; have L34 := Aside0.mk (show g3 < g4 from by rw [hg4]; exact blk_lt B3.out); have B2'' := Aside0.mk ((hb.block g2 (blk_lt B2'.out)).trans B2'.out);  have B3' := Aside0.mk ((hb.block g3 (blk_lt B3.out)).trans B3.out); have c30 := blk_cell B3'.out 0; have c31 := blk_cell B3'.out 1; have c32 := blk_cell B3'.out 2; have c33 := blk_cell B3'.out 3; have c34 := blk_cell B3'.out 4; simp only [List.getElem?_toArray, List.getElem?_cons_zero, List.getElem?_cons_succ] at c30 c31 c32 c33 c34; clear hb hbox hg4 B2 B2' B3)
      | (go_at_call 8; (with_reducible refine (CK.out _ ?side1).mono ?_); (case side1 => exact zCB HR); rintro e w5 ⟨rfl, hb⟩; have HB5 := Aside0.mk (below_step HB.out hb); have E2 := Aside0.mk ((hb.block g2 (blk_lt B2''.out)).trans B2''.out); have E3 := Aside0.mk ((hb.block g3 (blk_lt B3'.out)).trans B3'.out); have E4 := Aside0.mk ((hb.block g4 (blk_lt B4.out)).trans B4.out); have c20 := blk_cell E2.out 0; simp only [List.getElem?_toArray, List.getElem?_cons_zero, List.getElem?_cons_succ] at c20; clear hb c30 c31 c32 c33 c34 HB B2'' B3' B4)
      | ((with_reducible refine gate_dst (N := 7) rfl ?_); refine box_event ?hg (N := 7) ?hd (cs := #[.int .i64 0]) (t := 30) ?hr ?_; (case hd => rfl); (case hg => rfl); (case hr => first | (go_simp; done) | (go_simp; rfl)); intro g7 hg7 w6 hbox hb; have HB6 := Aside0.mk (below_step HB5.out hb); have F7 := Aside0.mk hbox; have L47 := Aside0.mk (show g4 < g7 from by rw [hg7]; exact blk_lt E4.out); have F2 := Aside0.mk ((hb.block g2 (blk_lt E2.out)).trans E2.out); have F3 := Aside0.mk ((hb.block g3 (blk_lt E3.out)).trans E3.out); have F4 := Aside0.mk ((hb.block g4 (blk_lt E4.out)).trans E4.out); have c70 := blk_cell F7.out 0; have f70 := blk_frozen F7.out 0; simp only [List.getElem?_toArray, List.getElem?_cons_zero, List.getElem?_cons_succ] at c70; clear hb hbox hg7 E2 E3 E4 c20)
      | ((with_reducible refine gate_dst (N := 24) rfl ?_); refine hold ?_))
    refine unhold ?_
    have Z2 := Aside0.mk (show w.heap.size ≤ g2 from Nat.le_of_eq G2.out.symm)
    have Z3 := Aside0.mk (Nat.le_trans Z2.out (Nat.le_of_lt L23.out))
    have Z4 := Aside0.mk (Nat.le_trans Z3.out (Nat.le_of_lt L34.out))
    have Z7 := Aside0.mk (Nat.le_trans Z4.out (Nat.le_of_lt L47.out))
    have L37 := Aside0.mk (Nat.lt_trans L34.out L47.out)
    have L27 := Aside0.mk (Nat.lt_trans L23.out L37.out)
    have L24 := Aside0.mk (Nat.lt_trans L23.out L34.out)
    have K2 := Aside0.mk ((Below.heap_setCell w6 ⟨g7, 0, none⟩ (.int .i64 0) g2 (Nat.ne_of_lt L27.out)).trans F2.out)
    have K3 := Aside0.mk ((Below.heap_setCell w6 ⟨g7, 0, none⟩ (.int .i64 0) g3 (Nat.ne_of_lt L37.out)).trans F3.out)
    have K4 := Aside0.mk ((Below.heap_setCell w6 ⟨g7, 0, none⟩ (.int .i64 0) g4 (Nat.ne_of_lt L47.out)).trans F4.out)
    have K7 := Aside0.mk (blk_set F7.out 0 (.int .i64 0))
    have HB7 := Aside0.mk (below_set (j := 0) (v := .int .i64 0) HB6.out Z7.out)
    generalize w6.setCell ⟨g7, 0, none⟩ (.int .i64 0) = w7 at K2 K3 K4 K7 HB7 ⊢
    have c31 := blk_cell K3.out 1
    simp only [List.getElem?_toArray, List.getElem?_cons_zero, List.getElem?_cons_succ] at c31
    clear c70 f70 F2 F3 F4 F7 HB2 HB3 HB5 HB6 G2
    go_wp2_with (first | ((with_reducible refine gate_dst (N := 28) rfl ?_); refine hold ?_))
    refine unhold ?_
    refine make_one rfl _ _ 27 9 rfl (.string ⟨#[]⟩) 16 Try.underlying27 (by kernel_rfl) rfl rfl rfl (by decide) ?_
    intro g9 hg9 w8 hbox hb; have HB8 := Aside0.mk (below_step HB7.out hb); have J9 := Aside0.mk hbox; have L79 := Aside0.mk (show g7 < g9 from by rw [hg9]; exact blk_lt K7.out); have J2 := Aside0.mk ((hb.block g2 (blk_lt K2.out)).trans K2.out); have J3 := Aside0.mk ((hb.block g3 (blk_lt K3.out)).trans K3.out); have J4 := Aside0.mk ((hb.block g4 (blk_lt K4.out)).trans K4.out); have J7 := Aside0.mk ((hb.block g7 (blk_lt K7.out)).trans K7.out); clear c31; have c31 := blk_cell J3.out 1; simp only [List.getElem?_toArray, List.getElem?_cons_zero, List.getElem?_cons_succ] at c31; clear hb hbox hg9 K2 K3 K4 K7 HB7
    go_wp2_with (first | ((with_reducible refine gate_dst (N := 32) rfl ?_); refine hold ?_))
    refine unhold ?_
    refine copy_one rfl _ _ 27 27 9 rfl Try.underlying27 (by kernel_rfl) rfl rfl J9.out (pw_cell_below HB8.out HS.out) rfl ?_
    have L39 := Aside0.mk (Nat.lt_trans L37.out L79.out)
    have L29 := Aside0.mk (Nat.lt_trans L27.out L79.out)
    have L49 := Aside0.mk (Nat.lt_trans L47.out L79.out)
    have Z9 := Aside0.mk (Nat.le_trans Z7.out (Nat.le_of_lt L79.out))
    have K2 := Aside0.mk ((Below.heap_setCell w8 ⟨g9, 0, none⟩ (.string s) g2 (Nat.ne_of_lt L29.out)).trans J2.out)
    have K3 := Aside0.mk ((Below.heap_setCell w8 ⟨g9, 0, none⟩ (.string s) g3 (Nat.ne_of_lt L39.out)).trans J3.out)
    have K4 := Aside0.mk ((Below.heap_setCell w8 ⟨g9, 0, none⟩ (.string s) g4 (Nat.ne_of_lt L49.out)).trans J4.out)
    have K7 := Aside0.mk ((Below.heap_setCell w8 ⟨g9, 0, none⟩ (.string s) g7 (Nat.ne_of_lt L79.out)).trans J7.out)
    have K9 := Aside0.mk (blk_set J9.out 0 (.string s))
    have HB9 := Aside0.mk (below_set (j := 0) (v := .string s) HB8.out Z9.out)
    generalize w8.setCell ⟨g9, 0, none⟩ (.string s) = w9 at K2 K3 K4 K7 K9 HB9 ⊢
    clear c31
    have c31 := blk_cell K3.out 1
    have f31 := blk_frozen K3.out 1
    simp only [List.getElem?_toArray, List.getElem?_cons_zero, List.getElem?_cons_succ] at c31
    clear J2 J3 J4 J7 J9 HB8
    go_wp2_with (first | ((with_reducible refine gate_dst (N := 37) rfl ?_); refine hold ?_))
    refine unhold ?_
    have J2 := Aside0.mk ((Below.heap_setCell w9 ⟨g3, 1, none⟩ (.slice (some ⟨g9, 0, none⟩) 1 1) g2 (Nat.ne_of_lt L23.out)).trans K2.out)
    have J3 := Aside0.mk (blk_set K3.out 1 (.slice (some ⟨g9, 0, none⟩) 1 1))
    have J4 := Aside0.mk ((Below.heap_setCell w9 ⟨g3, 1, none⟩ (.slice (some ⟨g9, 0, none⟩) 1 1) g4 (Nat.ne_of_gt L34.out)).trans K4.out)
    have J7 := Aside0.mk ((Below.heap_setCell w9 ⟨g3, 1, none⟩ (.slice (some ⟨g9, 0, none⟩) 1 1) g7 (Nat.ne_of_gt L37.out)).trans K7.out)
    have J9 := Aside0.mk ((Below.heap_setCell w9 ⟨g3, 1, none⟩ (.slice (some ⟨g9, 0, none⟩) 1 1) g9 (Nat.ne_of_gt L39.out)).trans K9.out)
    have HB10 := Aside0.mk (below_set (j := 1) (v := .slice (some ⟨g9, 0, none⟩) 1 1) HB9.out Z3.out)
    generalize w9.setCell ⟨g3, 1, none⟩ (.slice (some ⟨g9, 0, none⟩) 1 1) = w10 at J2 J3 J4 J7 J9 HB10 ⊢
    simp only [List.setIfInBounds_toArray, List.set_cons_zero, List.set_cons_succ] at J3
    clear c31 f31 K2 K3 K4 K7 K9 HB9
    have c31 := blk_cell J3.out 1
    have c33 := blk_cell J3.out 3
    simp only [List.getElem?_toArray, List.getElem?_cons_zero, List.getElem?_cons_succ] at c31 c33
    go_wp2_with (first | (with_reducible refine gate_dst (N := 99) rfl ?_))
    refine (pieces_Prepare.off 1 (.pointer (some ⟨g3, 0, none⟩)) (.pointer (some ⟨g7, 0, none⟩)) (.pointer (some ⟨g2, 0, none⟩)) w10).mono ?_
    rintro e w' ⟨rfl, rfl⟩
    go_wp2_with (first | (with_reducible refine gate_dst (N := 99) rfl ?_))
    refine wp_loop_rounds 2 ?_
    rw [rounds_succ]
    have c31 := c31
    go_wp2_with (first | (with_reducible refine gate_dst (N := 99) rfl ?_))
    refine (pieces_Prepare.on k 2 a0 s g9 g7 g2 _ _ _ b1 w w' J9.out J7.out J2.out (Nat.ne_of_gt L79.out) HB10.out Z9.out Z7.out A2.out).mono ?_
    rintro e w11 ⟨rfl, h9, h7, hk, hb⟩
    have K9 := Aside0.mk h9
    have K7 := Aside0.mk h7
    have K3 := Aside0.mk ((hk g3 (blk_lt J3.out) (Nat.ne_of_lt L39.out) (Nat.ne_of_lt L37.out)).trans J3.out)
    have K4 := Aside0.mk ((hk g4 (blk_lt J4.out) (Nat.ne_of_lt L49.out) (Nat.ne_of_lt L47.out)).trans J4.out)
    have HB11 := Aside0.mk hb
    clear h9 h7 hk hb c31 c33 J2 J3 J4 J7 J9 HB10
    have c30 := blk_cell K3.out 0
    have c31 := blk_cell K3.out 1
    have c32 := blk_cell K3.out 2
    have c33 := blk_cell K3.out 3
    have c34 := blk_cell K3.out 4
    have c40 := blk_cell K4.out 0
    have c41 := blk_cell K4.out 1
    have c42 := blk_cell K4.out 2
    have c43 := blk_cell K4.out 3
    have c44 := blk_cell K4.out 4
    have f40 := blk_frozen K4.out 0
    have f41 := blk_frozen K4.out 1
    have f42 := blk_frozen K4.out 2
    have f43 := blk_frozen K4.out 3
    have f44 := blk_frozen K4.out 4
    have c70 := blk_cell K7.out 0
    simp only [List.getElem?_toArray, List.getElem?_cons_zero, List.getElem?_cons_succ] at c30 c31 c32 c33 c34 c40 c41 c42 c43 c44 c70
    go_wp2_with (first | (with_reducible refine gate_dst (N := 99) rfl ?_))
    rw [rounds_succ]
    go_wp2_with (first | (with_reducible refine gate_dst (N := 99) rfl ?_))
    refine (pieces_Prepare.off 3 (.pointer (some ⟨g3, 2, none⟩)) (.pointer (some ⟨g7, 0, none⟩)) (.pointer (some ⟨g2, 0, none⟩)) w11).mono ?_
    rintro e w' ⟨rfl, rfl⟩
    go_wp2_with (first | (with_reducible refine gate_dst (N := 99) rfl ?_))
    have E5 := Aside0.mk (setRow5 K4.out (.string a1_0) (.slice (some ⟨g9, 0, none⟩) 1 1) (.string a1_2) (.bool false) (.bool false))
    have HB12 := Aside0.mk (belowRow5 HB11.out Z4.out (.string a1_0) (.slice (some ⟨g9, 0, none⟩) 1 1) (.string a1_2) (.bool false) (.bool false))
    have E9 := Aside0.mk (farRow5 (Nat.ne_of_gt L49.out) K9.out (.string a1_0) (.slice (some ⟨g9, 0, none⟩) 1 1) (.string a1_2) (.bool false) (.bool false))
    refine bodyPost_ret (res_row_tmp rfl _ _ g4 _ _ _ _ rfl E5.out hu29 rfl (by kernel_rfl)) rfl ?_
    exact ⟨_, rfl, Kd.R_of_own ⟨rfl, Or.inr ⟨g9, 1, _, rfl, Z9.out, E9.out, Nat.le_refl _, by decide, rfl, rfl⟩⟩ (fun _ _ => trivial), HB12.out⟩
  · rw [if_neg c1] at H
    simp only [Option.some.injEq, Prod.mk.injEq] at H
    obtain ⟨rfl, rfl, rfl, rfl, rfl, rfl⟩ := H
    have b1 : (e1 == 0) = false := beq_eq_false_iff_ne.mpr c1
    have b2 : (e1 != 0) = true := bne_iff_ne.mpr c1
    clear c1
    go_enter Try.func12, Try.ntmps12
    go_wp2_with (first
      | ((with_reducible refine gate_dst (N := 2) rfl ?_); refine box_event ?hg (N := 2) ?hd (cs := #[.int .i64 a0]) (t := 3) ?hr ?_; (case hd => rfl); (case hg => rfl); (case hr => first | (go_simp; done) | (go_simp; rfl)); intro g2 hg2 w2 hbox hb; have HB2 := Aside0.mk hb; have B2 := Aside0.mk hbox; have G2 := Aside0.mk hg2; clear hb hbox hg2)
      | ((with_reducible refine gate_dst (N := 3) rfl ?_); refine box_event ?hg (N := 3) ?hd (cs := #[.string a1_0, .slice A1_1 l1_1.length c1_1, .string a1_2, .bool a1_3, .bool a1_4]) (t := 29) ?hr ?_; (case hd => rfl); (case hg => rfl); (case hr => first | (go_simp; done) | (go_simp; rfl)); intro g3 hg3 w3 hbox hb; have HB3 := Aside0.mk (below_step HB2.out hb); have B3 := Aside0.mk hbox; have G3 := Aside0.mk hg3; have B2' := Aside0.mk ((hb.block g2 (blk_lt B2.out)).trans B2.out); clear hb hbox hg3)
      | ((with_reducible refine gate_dst (N := 4) rfl ?_); refine box_event ?hg (N := 4) ?hd (cs := #[.string ⟨#[]⟩, .slice none 0 0, .string ⟨#[]⟩, .bool false, .bool false]) (t := 29) ?hr ?_; (case hd => rfl); (case hg => rfl); (case hr => first | (go_simp; done) | (go_simp; rfl)); intro g4 hg4 w4 hbox hb; have HB := Aside0.mk (below_step HB3.out hb); have B4 := Aside0.mk hbox; have G4 := Aside0.mk (show w.heap.size ≤ g4 from by rw [hg4]; exact HB3.out.size); have B2'' := Aside0.mk ((hb.block g2 (blk_lt B2'.out)).trans B2'.out);  have B3' := Aside0.mk ((hb.block g3 (blk_lt B3.out)).trans B3.out); have c30 := blk_cell B3'.out 0; have c31 := blk_cell B3'.out 1; have c32 := blk_cell B3'.out 2; have c33 := blk_cell B3'.out 3; have c34 := blk_cell B3'.out 4; simp only [List.getElem?_toArray, List.getElem?_cons_zero, List.getElem?_cons_succ] at c30 c31 c32 c33 c34; clear hb hbox hg4 HB2 HB3 B2 B2' B3)
      | (go_at_call 8; (with_reducible refine (pieces_Check.calls k a1_0 _ _ l1_1 a1_2 a1_3 a1_4 e1 _ ?side1 ?side2 A1.out).mono ?_); (case side1 => exact zCB HR); (case side2 => exact HC.out); rintro e w5 ⟨rfl, hb⟩; have HB5 := Aside0.mk (below_step HB.out hb); have E2 := Aside0.mk ((hb.block g2 (blk_lt B2''.out)).trans B2''.out); have E3 := Aside0.mk ((hb.block g3 (blk_lt B3'.out)).trans B3'.out); have E4 := Aside0.mk ((hb.block g4 (blk_lt B4.out)).trans B4.out); have c40 := blk_cell E4.out 0; have c41 := blk_cell E4.out 1; have c42 := blk_cell E4.out 2; have c43 := blk_cell E4.out 3; have c44 := blk_cell E4.out 4; have f40 := blk_frozen E4.out 0; have f41 := blk_frozen E4.out 1; have f42 := blk_frozen E4.out 2; have f43 := blk_frozen E4.out 3; have f44 := blk_frozen E4.out 4; simp only [List.getElem?_toArray, List.getElem?_cons_zero, List.getElem?_cons_succ] at c40 c41 c42 c43 c44; clear hb c30 c31 c32 c33 c34 HB B2'' B3' B4))
    have E5 := Aside0.mk (setRow5 E4.out (.string ⟨#[]⟩) (.slice none 0 0) (.string ⟨#[]⟩) (.bool false) (.bool false))
    have HB6 := Aside0.mk (belowRow5 HB5.out G4.out (.string ⟨#[]⟩) (.slice none 0 0) (.string ⟨#[]⟩) (.bool false) (.bool false))
    refine bodyPost_ret (res_row_tmp rfl _ _ g4 _ _ _ _ rfl E5.out hu29 rfl (by kernel_rfl)) rfl ?_
    exact ⟨_, rfl, Kd.R_nil _ _ _ _ _, HB6.out⟩

/-! ### prep_known: function 25 -/
def prep_known.f (a0 : Int) : Option (Bool) := if a0 ≥ 1 then (some (decide (a0 ≤ 4))) else (some false)
set_option maxHeartbeats 8000000 in
set_option maxRecDepth 100000 in
theorem prep_known.calls (a0 : Int) (r : Bool) (w : World) (h : prep_known.f a0 = some r) :
  Calls Try.prog 25 #[.int .i64 a0] w fun e w' => e = .returned (.bool r) ∧ Drawn0 w w' := by
 have H := h
 clear h
 unfold prep_known.f at H
 by_cases c2 : a0 ≥ 1
 ·rw [if_pos c2] at H
  have c2b0 : decide (1 ≤ a0) = true := decide_eq_true c2
  clear c2
  obtain rfl := sI H
  go_enter Try.func25, Try.ntmps25
  go_wp2
  go_ret
  exact ⟨zP, zD⟩
 ·rw [if_neg c2] at H
  have c2b0 : decide (1 ≤ a0) = false := decide_eq_false c2
  clear c2
  obtain rfl := sI H
  go_enter Try.func25, Try.ntmps25
  go_wp2
  go_ret
  exact ⟨zP, zD⟩

/-! ### blanks_Value: function 39 -/
def blanks_Value.f (k : Nat) (l0 : List Int) : Option (List Int) := (blanks_firm.f k l0).bind fun t472 => ((blanks_words.f k t472).bind fun t475 => ((blanks_joined.f k t475).bind fun t478 => ((blanks_edged.f t478 true true).bind fun t481 => (some t481))))
theorem blanks_Value.mono : ∀ a0 k, LeO (blanks_Value.f k a0) (blanks_Value.f (k + 1) a0) := by
 intro a0 k
 unfold blanks_Value.f
 repeat' first
   | (with_reducible exact blanks_firm.mono _ _)
   | (with_reducible exact blanks_joined.mono _ _)
   | (with_reducible exact blanks_words.mono _ _)
   | (with_reducible exact LeO.refl _)
   | exact blanks_firm.mono _ _
   | exact blanks_joined.mono _ _
   | exact blanks_words.mono _ _
   | exact LeO.none _
   | refine LeO.ite ?_ ?_
   | refine LeO.bind ?_ (fun _ => ?_)
set_option maxHeartbeats 8000000 in
set_option maxRecDepth 100000 in
theorem blanks_Value.calls (k : Nat) (A0 : Option Addr) (c0 : Nat) (l0 : List Int) (r : List Int) (w : World) (hr0 : Kd.C (Kd.int .i32) w A0 l0.length l0) (hc0 : l0.length ≤ c0) (h : blanks_Value.f k l0 = some r) :
  Calls Try.prog 39 #[.slice A0 l0.length c0] w fun e w' => ∃ v0_ : Value, e = .returned (v0_) ∧ Kd.R (Kd.int .i32) 21 w' w.heap.size (fun _ => True) v0_ r ∧ Below w.heap.size w w' := by
 have HR0 := aM hr0
 have HC0 := aM hc0
 clear hr0 hc0
 have HB := aM (Below.refl w.heap.size w)
 have H := h
 clear h
 unfold blanks_Value.f at H
 obtain ⟨t472, A2, H⟩ := zO H
 obtain ⟨t475, A3, H⟩ := zO H
 obtain ⟨t478, A4, H⟩ := zO H
 obtain ⟨t481, A5, H⟩ := zO H
 obtain rfl := sI H
 go_enter Try.func39, Try.ntmps39
 go_wp2_with (first | ((with_reducible refine gate_callee (f := 54) rfl ?_); refine goesL_ (some 4) rfl rfl Try.func54 zK rfl #[.slice A0 l0.length c0] rfl zM ?_; (with_reducible refine (blanks_firm.calls k (fun k_ => k_ < w.heap.size) _ _ l0 t472 _ ?side1 A2.out).mono ?_); (case side1 => exact Kd.V_mk HC0.out (Kd.F_below (Kd.C_F (Kd.heap_int .i32) HR0.out) zB)); rintro e w6 ⟨v473, rfl, ho0, hb⟩; refine ⟨_, rfl, ?_⟩; have n_ := zI (aM (Kd.V_lower (Kd.V_mono (ok' := fun k_ => True) ho0 (fun k_ hk_ => trivial)) (below_size zB))) (aM (below_step zB hb)); clear HB; obtain ⟨HO474, HB⟩ := n_; (try clear hb); (try clear ho0); obtain ⟨Ao7, co7, rfl⟩ := Kd.V_slice HO474.out) | ((with_reducible refine gate_callee (f := 55) rfl ?_); refine goesL_ (some 5) rfl rfl Try.func55 zK rfl #[.slice Ao7 t472.length co7] rfl zM ?_; (with_reducible refine (blanks_words.calls k (fun k_ => True) _ _ t472 t475 _ ?side1 A3.out).mono ?_); (case side1 => exact HO474.out); rintro e w8 ⟨v476, rfl, ho0, hb⟩; refine ⟨_, rfl, ?_⟩; have n_ := zI (aM (Kd.V_elder' (zV HO474) (Kd.N_base ho0) hb)) (zI (aM (Kd.N_lower (Kd.N_mono (ok' := fun k_ => True) ho0 (fun k_ hk_ => trivial)) (below_size zB))) (aM (below_step zB hb))); clear HO474 HB; obtain ⟨HO474, HO477, HB⟩ := n_; (try clear hb); (try clear ho0); obtain ⟨Ao9, co9, rfl⟩ := Kd.N_slice HO477.out) | ((with_reducible refine gate_callee (f := 57) rfl ?_); refine goesL_ (some 6) rfl rfl Try.func57 zK rfl #[.slice Ao9 t475.length co9] rfl zM ?_; (with_reducible refine (blanks_joined.calls k _ _ t475 t478 _ ?side1 ?side2 A4.out).mono ?_); (case side1 => exact zC (Kd.N_reads' HO477.out).2.2); (case side2 => exact (Kd.N_reads' HO477.out).2.1); rintro e w10 ⟨v479, rfl, ho0, hb⟩; refine ⟨_, rfl, ?_⟩; have n_ := zI (aM (Kd.V_elder' (zV HO474) (Kd.R_base ho0) hb)) (zI (aM (Kd.N_elder' (zN HO477) (Kd.R_base ho0) hb)) (zI (aM (Kd.R_lower ho0 (below_size zB))) (aM (below_step zB hb)))); clear HO474 HO477 HB; obtain ⟨HO474, HO477, HO480, HB⟩ := n_; (try clear hb); (try clear ho0); obtain ⟨Ao11, co11, rfl⟩ := Kd.R_slice HO480.out) | ((with_reducible refine gate_callee (f := 56) rfl ?_); refine goesL_ (some 7) rfl rfl Try.func56 zK rfl #[.slice Ao11 t478.length co11, .bool true, .bool true] rfl zM ?_; (with_reducible refine (blanks_edged.calls _ _ t478 true true t481 _ ?side1 ?side2 A5.out).mono ?_); (case side1 => exact zC (Kd.R_reads' HO480.out).2.2); (case side2 => exact (Kd.R_reads' HO480.out).2.1); rintro e w12 ⟨v482, rfl, ho0, hb⟩; refine ⟨_, rfl, ?_⟩; have n_ := zI (aM (Kd.V_elder' (zV HO474) (Kd.R_base ho0) hb)) (zI (aM (Kd.N_elder' (zN HO477) (Kd.R_base ho0) hb)) (zI (aM (Kd.R_elder' (zR HO480) (Kd.R_base ho0) hb)) (zI (aM (Kd.R_lower (Kd.R_new' ho0 (Kd.R_lt (zR HO480))) (below_size zB))) (aM (below_step zB hb))))); clear HO474 HO477 HO480 HB; obtain ⟨HO474, HO477, HO480, HO483, HB⟩ := n_; (try clear hb); (try clear ho0)))
 go_ret
 exact ⟨_, zE, by (with_reducible repeat (first | apply Kd.R_alloc | apply Kd.R_drewN | apply Kd.R_drew)); exact Kd.R_mono HO483.out (fun _ hk => trivial), zB⟩

/-! ### prep_Steps: function 27 -/
def prep_Steps.j0 : Nat → Int → List Int → Option (List Int × Int)
 | 0, _, _ => none
 | k + 1, x0, x6 => (nfkc_Runes.f k true x6).bind fun t491 => ((guard_Check.f k t491).bind fun bt494 => (if bt494.2 = 0 then (if x0 = 3 then ((blanks_Numeric.f k t491).bind fun t496 => ((nfkc_Runes.f k true t496).bind fun t499 => (some (t499, 0)))) else (if x0 = 4 then ((blanks_Phone.f k t491).bind fun t502 => ((nfkc_Runes.f k true t502).bind fun t505 => (some (t505, 0)))) else ((blanks_Value.f k t491).bind fun t508 => (some (t508, 0))))) else (some (([] : List Int), bt494.2))))
def prep_Steps.f (k : Nat) (a0 : Int) (l1 : List Int) : Option (List Int × Int) := (prep_known.f a0).bind fun t484 => (if t484 = true then (if a0 = 2 then ((fold_Map.f k true l1).bind fun t485 => (prep_Steps.j0 k a0 t485)) else ((fold_Map.f k (a0 == 4) l1).bind fun t488 => (prep_Steps.j0 k a0 t488))) else (some (([] : List Int), 2)))
theorem prep_Steps.mono_l : ∀ k, (∀ y0 y1, LeO (prep_Steps.j0 k y0 y1) (prep_Steps.j0 (k + 1) y0 y1))
 | 0 => fun _ _ r h => by simp [prep_Steps.j0] at h
 | k + 1 => by
  have ih0 := prep_Steps.mono_l k
  ·intro y0 y1
   unfold prep_Steps.j0
   repeat' first
   | (with_reducible exact ih0 _ _)
   | (with_reducible exact blanks_Numeric.mono _ _)
   | (with_reducible exact blanks_Phone.mono _ _)
   | (with_reducible exact blanks_Value.mono _ _)
   | (with_reducible exact fold_Map.mono _ _ _)
   | (with_reducible exact guard_Check.mono _ _)
   | (with_reducible exact nfkc_Runes.mono _ _ _)
   | (with_reducible exact LeO.refl _)
   | exact ih0 _ _
   | exact blanks_Numeric.mono _ _
   | exact blanks_Phone.mono _ _
   | exact blanks_Value.mono _ _
   | exact fold_Map.mono _ _ _
   | exact guard_Check.mono _ _
   | exact nfkc_Runes.mono _ _ _
   | exact LeO.none _
   | refine LeO.ite ?_ ?_
   | refine LeO.bind ?_ (fun _ => ?_)
theorem prep_Steps.mono : ∀ a0 a1 k, LeO (prep_Steps.f k a0 a1) (prep_Steps.f (k + 1) a0 a1) := by
 intro a0 a1 k
 have ih0 := prep_Steps.mono_l k
 unfold prep_Steps.f
 repeat' first
   | (with_reducible exact ih0 _ _)
   | (with_reducible exact blanks_Numeric.mono _ _)
   | (with_reducible exact blanks_Phone.mono _ _)
   | (with_reducible exact blanks_Value.mono _ _)
   | (with_reducible exact fold_Map.mono _ _ _)
   | (with_reducible exact guard_Check.mono _ _)
   | (with_reducible exact nfkc_Runes.mono _ _ _)
   | (with_reducible exact LeO.refl _)
   | exact ih0 _ _
   | exact blanks_Numeric.mono _ _
   | exact blanks_Phone.mono _ _
   | exact blanks_Value.mono _ _
   | exact fold_Map.mono _ _ _
   | exact guard_Check.mono _ _
   | exact nfkc_Runes.mono _ _ _
   | exact LeO.none _
   | refine LeO.ite ?_ ?_
   | refine LeO.bind ?_ (fun _ => ?_)
set_option maxHeartbeats 8000000 in
set_option maxRecDepth 100000 in
theorem prep_Steps.calls (k : Nat) (a0 : Int) (A1 : Option Addr) (c1 : Nat) (l1 : List Int) (r1 : List Int) (r2 : Int) (w : World) (hr1 : Kd.C (Kd.int .i32) w A1 l1.length l1) (hc1 : l1.length ≤ c1) (h : prep_Steps.f k a0 l1 = some (r1, r2)) :
  Calls Try.prog 27 #[.int .i64 a0, .slice A1 l1.length c1] w fun e w' => ∃ v0_ : Value, e = .returned (.tuple #[v0_, .int .i64 r2]) ∧ Kd.R (Kd.int .i32) 21 w' w.heap.size (fun _ => True) v0_ r1 ∧ Below w.heap.size w w' := by
 have HR1 := aM hr1
 have HC1 := aM hc1
 clear hr1 hc1
 have HB := aM (Below.refl w.heap.size w)
 have H := h
 clear h
 unfold prep_Steps.f at H
 obtain ⟨t484, A3, H⟩ := zO H
 by_cases c4 : t484 = true
 ·subst c4
  rw [if_pos rfl] at H
  have HC5 := aM H
  clear H
  go_enter Try.func27, Try.ntmps27
  go_upto_region 3 with (first | ((with_reducible refine gate_callee (f := 25) rfl ?_); refine goesL_ (some 10) rfl rfl Try.func25 zK rfl #[.int .i64 a0] rfl zM ?_; (with_reducible refine (prep_known.calls a0 true _ A3.out).mono ?_); rintro e w' ⟨rfl, ⟨nd, rfl⟩⟩; refine ⟨_, rfl, ?_⟩))
  (try simp only [Act.put, List.setIfInBounds_toArray, List.set_cons_zero, List.set_cons_succ])
  go_cut [6] (fun v6 wc => ∃ (kq : Nat) (x6_4 : List Int), Aside0 (prep_Steps.j0 kq a0 x6_4 = some (r1, r2)) ∧ Aside0 (kq ≤ k) ∧ Aside0 (Kd.R (Kd.int .i32) 21 wc w.heap.size (fun _ => True) v6 x6_4) ∧ Aside0 (Below w.heap.size w wc))
  case first =>
   have H := HC5.out
   clear HC5
   by_cases c6 : a0 = 2
   ·rw [if_pos c6] at H
    have c6b0 : (a0 == 2) = true := beq_iff_eq.mpr c6
    have c6b1 : (a0 != 2) = false := bne_eq_false_iff_eq.mpr c6
    clear c6
    (first | rw [c6b0] | (simp only [i64_w, i32_w]; rw [c6b0]) | skip)
    obtain ⟨t485, A7, H⟩ := zO H
    have H' := aM H
    clear H
    go_wp2_with (first | ((with_reducible refine gate_callee (f := 30) rfl ?_); refine goesL_ (some 19) rfl rfl Try.func30 zK rfl #[.bool true, .slice A1 l1.length c1] rfl zM ?_; (with_reducible refine (fold_Map.calls k true _ _ l1 t485 _ ?side1 ?side2 A7.out).mono ?_); (case side1 => exact zCB HR1); (case side2 => exact HC1.out); rintro e w8 ⟨v486, rfl, ho0, hb⟩; (try clear A7); refine ⟨_, rfl, ?_⟩; have n_ := zI (aM (Kd.R_lower ho0 (below_size zB))) (aM (below_step zB hb)); clear HB; obtain ⟨HO487, HB⟩ := n_; (try clear hb); (try clear ho0)))
    go_meet
    case rel => exact ⟨_, (t485), H', ⟨by first | omega | exact Nat.le_refl _⟩, ⟨zR HO487⟩, ⟨zB⟩⟩
   ·rw [if_neg c6] at H
    have c6b0 : (a0 == 2) = false := beq_eq_false_iff_ne.mpr c6
    have c6b1 : (a0 != 2) = true := bne_iff_ne.mpr c6
    (first | rw [c6b0] | (simp only [i64_w, i32_w]; rw [c6b0]) | skip)
    obtain ⟨t488, A9, H⟩ := zO H
    have H' := aM H
    clear H
    go_wp2_with (first | ((with_reducible refine gate_callee (f := 30) rfl ?_); refine goesL_ (some 19) rfl rfl Try.func30 zK rfl #[.bool (a0 == 4), .slice A1 l1.length c1] rfl zM ?_; (with_reducible refine (fold_Map.calls k (a0 == 4) _ _ l1 t488 _ ?side1 ?side2 A9.out).mono ?_); (case side1 => exact zCB HR1); (case side2 => exact HC1.out); rintro e w10 ⟨v489, rfl, ho0, hb⟩; (try clear A9); refine ⟨_, rfl, ?_⟩; have n_ := zI (aM (Kd.R_lower ho0 (below_size zB))) (aM (below_step zB hb)); clear HB; obtain ⟨HO490, HB⟩ := n_; (try clear hb); (try clear ho0)))
    go_meet
    case rel => exact ⟨_, (t488), H', ⟨by first | omega | exact Nat.le_refl _⟩, ⟨zR HO490⟩, ⟨zB⟩⟩
  case rest =>
   clear HC5
   try clear c1
   try clear c2
   try clear p2
   try clear c3
   try clear c4
   try clear c6
   try clear c6b0
   try clear c6b1
   obtain ⟨kq, x6_4, HA, HJ4, HO_6, HB⟩ := hcut
   cases kq with
   | zero => exact absurd HA.out (by simp [prep_Steps.j0])
   | succ kj4 =>
    have H := HA.out
    clear HA
    simp only [prep_Steps.j0] at H
    obtain ⟨t491, A11, H⟩ := zO H
    obtain ⟨⟨t494, t495⟩, A12, H⟩ := zO H
    try dsimp only at H
    by_cases c13 : t495 = 0
    ·rw [if_pos c13] at H
     have c13b0 : (t495 == 0) = true := beq_iff_eq.mpr c13
     have c13b1 : (t495 != 0) = false := bne_eq_false_iff_eq.mpr c13
     clear c13
     by_cases c14 : a0 = 3
     ·rw [if_pos c14] at H
      have c14b0 : (a0 == 3) = true := beq_iff_eq.mpr c14
      have c14b1 : (a0 != 3) = false := bne_eq_false_iff_eq.mpr c14
      clear c14
      obtain ⟨t496, A15, H⟩ := zO H
      obtain ⟨t499, A16, H⟩ := zO H
      simp only [Option.some.injEq, Prod.mk.injEq] at H
      obtain ⟨rfl, rfl⟩ := H
      obtain ⟨Ao17, co17, eo17⟩ := Kd.R_slice HO_6.out
      subst eo17
      go_wp2_with (first | ((with_reducible refine gate_callee (f := 29) rfl ?_); refine goesL_ (some 21) rfl rfl Try.func29 zK rfl #[.bool true, .slice Ao17 x6_4.length co17] rfl zM ?_; (with_reducible refine (nfkc_Runes.calls kj4 true _ _ x6_4 t491 _ ?side1 ?side2 A11.out).mono ?_); (case side1 => exact zC (Kd.R_reads' HO_6.out).2.2); (case side2 => exact (Kd.R_reads' HO_6.out).2.1); rintro e w18 ⟨v492, rfl, ho0, hb⟩; (try clear A11); refine ⟨_, rfl, ?_⟩; have n_ := zI (aM (Kd.R_elder' (zR HO_6) (Kd.R_base ho0) hb)) (zI (aM (Kd.R_lower (Kd.R_new' ho0 (Kd.R_lt (zR HO_6))) (below_size zB))) (aM (below_step zB hb))); clear HO_6 HB; obtain ⟨HO_6, HO493, HB⟩ := n_; (try clear hb); (try clear ho0); obtain ⟨Ao19, co19, rfl⟩ := Kd.R_slice HO493.out) | ((with_reducible refine gate_callee (f := 31) rfl ?_); refine goesL_ (some 24) rfl rfl Try.func31 zK rfl #[.slice Ao19 t491.length co19] rfl zM ?_; (with_reducible refine (guard_Check.calls kj4 _ _ t491 t494 t495 _ ?side1 ?side2 A12.out).mono ?_); (case side1 => exact zC (Kd.R_reads' HO493.out).2.2); (case side2 => exact (Kd.R_reads' HO493.out).2.1); rintro e w20 ⟨rfl, hb⟩; refine ⟨_, rfl, ?_⟩; have n_ := zI (aM (Kd.R_below (zR HO_6) hb)) (zI (aM (Kd.R_below (zR HO493) hb)) (aM (below_step zB hb))); clear HO_6 HO493 HB; obtain ⟨HO_6, HO493, HB⟩ := n_; (try clear hb)) | ((with_reducible refine gate_callee (f := 32) rfl ?_); refine goesL_ (some 36) rfl rfl Try.func32 zK rfl #[.slice Ao19 t491.length co19] rfl zM ?_; (with_reducible refine (blanks_Numeric.calls kj4 _ _ t491 t496 _ ?side1 ?side2 A15.out).mono ?_); (case side1 => exact zC (Kd.R_reads' HO493.out).2.2); (case side2 => exact (Kd.R_reads' HO493.out).2.1); rintro e w21 ⟨v497, rfl, ho0, hb⟩; refine ⟨_, rfl, ?_⟩; have n_ := zI (aM (Kd.R_elder' (zR HO_6) (Kd.R_base ho0) hb)) (zI (aM (Kd.R_elder' (zR HO493) (Kd.R_base ho0) hb)) (zI (aM (Kd.R_lower (Kd.R_new' (Kd.R_new' ho0 (Kd.R_lt (zR HO_6))) (Kd.R_lt (zR HO493))) (below_size zB))) (aM (below_step zB hb)))); clear HO_6 HO493 HB; obtain ⟨HO_6, HO493, HO498, HB⟩ := n_; (try clear hb); (try clear ho0); obtain ⟨Ao22, co22, rfl⟩ := Kd.R_slice HO498.out) | ((with_reducible refine gate_callee (f := 29) rfl ?_); refine goesL_ (some 37) rfl rfl Try.func29 zK rfl #[.bool true, .slice Ao22 t496.length co22] rfl zM ?_; (with_reducible refine (nfkc_Runes.calls kj4 true _ _ t496 t499 _ ?side1 ?side2 A16.out).mono ?_); (case side1 => exact zC (Kd.R_reads' HO498.out).2.2); (case side2 => exact (Kd.R_reads' HO498.out).2.1); rintro e w23 ⟨v500, rfl, ho0, hb⟩; (try clear A16); refine ⟨_, rfl, ?_⟩; have n_ := zI (aM (Kd.R_elder' (zR HO_6) (Kd.R_base ho0) hb)) (zI (aM (Kd.R_elder' (zR HO493) (Kd.R_base ho0) hb)) (zI (aM (Kd.R_elder' (zR HO498) (Kd.R_base ho0) hb)) (zI (aM (Kd.R_lower (Kd.R_new' (Kd.R_new' (Kd.R_new' ho0 (Kd.R_lt (zR HO_6))) (Kd.R_lt (zR HO493))) (Kd.R_lt (zR HO498))) (below_size zB))) (aM (below_step zB hb))))); clear HO_6 HO493 HO498 HB; obtain ⟨HO_6, HO493, HO498, HO501, HB⟩ := n_; (try clear hb); (try clear ho0)))
      go_ret2
      exact ⟨_, zE, by (with_reducible repeat (first | apply Kd.R_alloc | apply Kd.R_drewN | apply Kd.R_drew)); exact Kd.R_mono HO501.out (fun _ hk => trivial), zB⟩
     ·rw [if_neg c14] at H
      have c14b0 : (a0 == 3) = false := beq_eq_false_iff_ne.mpr c14
      have c14b1 : (a0 != 3) = true := bne_iff_ne.mpr c14
      by_cases c24 : a0 = 4
      ·rw [if_pos c24] at H
       have c24b0 : (a0 == 4) = true := beq_iff_eq.mpr c24
       have c24b1 : (a0 != 4) = false := bne_eq_false_iff_eq.mpr c24
       clear c24
       obtain ⟨t502, A25, H⟩ := zO H
       obtain ⟨t505, A26, H⟩ := zO H
       simp only [Option.some.injEq, Prod.mk.injEq] at H
       obtain ⟨rfl, rfl⟩ := H
       obtain ⟨Ao27, co27, eo27⟩ := Kd.R_slice HO_6.out
       subst eo27
       go_wp2_with (first | ((with_reducible refine gate_callee (f := 29) rfl ?_); refine goesL_ (some 21) rfl rfl Try.func29 zK rfl #[.bool true, .slice Ao27 x6_4.length co27] rfl zM ?_; (with_reducible refine (nfkc_Runes.calls kj4 true _ _ x6_4 t491 _ ?side1 ?side2 A11.out).mono ?_); (case side1 => exact zC (Kd.R_reads' HO_6.out).2.2); (case side2 => exact (Kd.R_reads' HO_6.out).2.1); rintro e w28 ⟨v492, rfl, ho0, hb⟩; (try clear A11); refine ⟨_, rfl, ?_⟩; have n_ := zI (aM (Kd.R_elder' (zR HO_6) (Kd.R_base ho0) hb)) (zI (aM (Kd.R_lower (Kd.R_new' ho0 (Kd.R_lt (zR HO_6))) (below_size zB))) (aM (below_step zB hb))); clear HO_6 HB; obtain ⟨HO_6, HO493, HB⟩ := n_; (try clear hb); (try clear ho0); obtain ⟨Ao29, co29, rfl⟩ := Kd.R_slice HO493.out) | ((with_reducible refine gate_callee (f := 31) rfl ?_); refine goesL_ (some 24) rfl rfl Try.func31 zK rfl #[.slice Ao29 t491.length co29] rfl zM ?_; (with_reducible refine (guard_Check.calls kj4 _ _ t491 t494 t495 _ ?side1 ?side2 A12.out).mono ?_); (case side1 => exact zC (Kd.R_reads' HO493.out).2.2); (case side2 => exact (Kd.R_reads' HO493.out).2.1); rintro e w30 ⟨rfl, hb⟩; refine ⟨_, rfl, ?_⟩; have n_ := zI (aM (Kd.R_below (zR HO_6) hb)) (zI (aM (Kd.R_below (zR HO493) hb)) (aM (below_step zB hb))); clear HO_6 HO493 HB; obtain ⟨HO_6, HO493, HB⟩ := n_; (try clear hb)) | ((with_reducible refine gate_callee (f := 33) rfl ?_); refine goesL_ (some 41) rfl rfl Try.func33 zK rfl #[.slice Ao29 t491.length co29] rfl zM ?_; (with_reducible refine (blanks_Phone.calls kj4 _ _ t491 t502 _ ?side1 ?side2 A25.out).mono ?_); (case side1 => exact zC (Kd.R_reads' HO493.out).2.2); (case side2 => exact (Kd.R_reads' HO493.out).2.1); rintro e w31 ⟨v503, rfl, ho0, hb⟩; refine ⟨_, rfl, ?_⟩; have n_ := zI (aM (Kd.R_elder' (zR HO_6) (Kd.R_base ho0) hb)) (zI (aM (Kd.R_elder' (zR HO493) (Kd.R_base ho0) hb)) (zI (aM (Kd.R_lower (Kd.R_new' (Kd.R_new' ho0 (Kd.R_lt (zR HO_6))) (Kd.R_lt (zR HO493))) (below_size zB))) (aM (below_step zB hb)))); clear HO_6 HO493 HB; obtain ⟨HO_6, HO493, HO504, HB⟩ := n_; (try clear hb); (try clear ho0); obtain ⟨Ao32, co32, rfl⟩ := Kd.R_slice HO504.out) | ((with_reducible refine gate_callee (f := 29) rfl ?_); refine goesL_ (some 42) rfl rfl Try.func29 zK rfl #[.bool true, .slice Ao32 t502.length co32] rfl zM ?_; (with_reducible refine (nfkc_Runes.calls kj4 true _ _ t502 t505 _ ?side1 ?side2 A26.out).mono ?_); (case side1 => exact zC (Kd.R_reads' HO504.out).2.2); (case side2 => exact (Kd.R_reads' HO504.out).2.1); rintro e w33 ⟨v506, rfl, ho0, hb⟩; (try clear A26); refine ⟨_, rfl, ?_⟩; have n_ := zI (aM (Kd.R_elder' (zR HO_6) (Kd.R_base ho0) hb)) (zI (aM (Kd.R_elder' (zR HO493) (Kd.R_base ho0) hb)) (zI (aM (Kd.R_elder' (zR HO504) (Kd.R_base ho0) hb)) (zI (aM (Kd.R_lower (Kd.R_new' (Kd.R_new' (Kd.R_new' ho0 (Kd.R_lt (zR HO_6))) (Kd.R_lt (zR HO493))) (Kd.R_lt (zR HO504))) (below_size zB))) (aM (below_step zB hb))))); clear HO_6 HO493 HO504 HB; obtain ⟨HO_6, HO493, HO504, HO507, HB⟩ := n_; (try clear hb); (try clear ho0)))
       go_ret2
       exact ⟨_, zE, by (with_reducible repeat (first | apply Kd.R_alloc | apply Kd.R_drewN | apply Kd.R_drew)); exact Kd.R_mono HO507.out (fun _ hk => trivial), zB⟩
      ·rw [if_neg c24] at H
       have c24b0 : (a0 == 4) = false := beq_eq_false_iff_ne.mpr c24
       have c24b1 : (a0 != 4) = true := bne_iff_ne.mpr c24
       obtain ⟨t508, A34, H⟩ := zO H
       simp only [Option.some.injEq, Prod.mk.injEq] at H
       obtain ⟨rfl, rfl⟩ := H
       obtain ⟨Ao35, co35, eo35⟩ := Kd.R_slice HO_6.out
       subst eo35
       go_wp2_with (first | ((with_reducible refine gate_callee (f := 29) rfl ?_); refine goesL_ (some 21) rfl rfl Try.func29 zK rfl #[.bool true, .slice Ao35 x6_4.length co35] rfl zM ?_; (with_reducible refine (nfkc_Runes.calls kj4 true _ _ x6_4 t491 _ ?side1 ?side2 A11.out).mono ?_); (case side1 => exact zC (Kd.R_reads' HO_6.out).2.2); (case side2 => exact (Kd.R_reads' HO_6.out).2.1); rintro e w36 ⟨v492, rfl, ho0, hb⟩; (try clear A11); refine ⟨_, rfl, ?_⟩; have n_ := zI (aM (Kd.R_elder' (zR HO_6) (Kd.R_base ho0) hb)) (zI (aM (Kd.R_lower (Kd.R_new' ho0 (Kd.R_lt (zR HO_6))) (below_size zB))) (aM (below_step zB hb))); clear HO_6 HB; obtain ⟨HO_6, HO493, HB⟩ := n_; (try clear hb); (try clear ho0); obtain ⟨Ao37, co37, rfl⟩ := Kd.R_slice HO493.out) | ((with_reducible refine gate_callee (f := 31) rfl ?_); refine goesL_ (some 24) rfl rfl Try.func31 zK rfl #[.slice Ao37 t491.length co37] rfl zM ?_; (with_reducible refine (guard_Check.calls kj4 _ _ t491 t494 t495 _ ?side1 ?side2 A12.out).mono ?_); (case side1 => exact zC (Kd.R_reads' HO493.out).2.2); (case side2 => exact (Kd.R_reads' HO493.out).2.1); rintro e w38 ⟨rfl, hb⟩; refine ⟨_, rfl, ?_⟩; have n_ := zI (aM (Kd.R_below (zR HO_6) hb)) (zI (aM (Kd.R_below (zR HO493) hb)) (aM (below_step zB hb))); clear HO_6 HO493 HB; obtain ⟨HO_6, HO493, HB⟩ := n_; (try clear hb)) | ((with_reducible refine gate_callee (f := 39) rfl ?_); refine goesL_ (some 32) rfl rfl Try.func39 zK rfl #[.slice Ao37 t491.length co37] rfl zM ?_; (with_reducible refine (blanks_Value.calls kj4 _ _ t491 t508 _ ?side1 ?side2 A34.out).mono ?_); (case side1 => exact zC (Kd.R_reads' HO493.out).2.2); (case side2 => exact (Kd.R_reads' HO493.out).2.1); rintro e w39 ⟨v509, rfl, ho0, hb⟩; refine ⟨_, rfl, ?_⟩; have n_ := zI (aM (Kd.R_elder' (zR HO_6) (Kd.R_base ho0) hb)) (zI (aM (Kd.R_elder' (zR HO493) (Kd.R_base ho0) hb)) (zI (aM (Kd.R_lower (Kd.R_new' (Kd.R_new' ho0 (Kd.R_lt (zR HO_6))) (Kd.R_lt (zR HO493))) (below_size zB))) (aM (below_step zB hb)))); clear HO_6 HO493 HB; obtain ⟨HO_6, HO493, HO510, HB⟩ := n_; (try clear hb); (try clear ho0)))
       go_ret2
       exact ⟨_, zE, by (with_reducible repeat (first | apply Kd.R_alloc | apply Kd.R_drewN | apply Kd.R_drew)); exact Kd.R_mono HO510.out (fun _ hk => trivial), zB⟩
    ·rw [if_neg c13] at H
     have c13b0 : (t495 == 0) = false := beq_eq_false_iff_ne.mpr c13
     have c13b1 : (t495 != 0) = true := bne_iff_ne.mpr c13
     simp only [Option.some.injEq, Prod.mk.injEq] at H
     obtain ⟨rfl, rfl⟩ := H
     obtain ⟨Ao40, co40, eo40⟩ := Kd.R_slice HO_6.out
     subst eo40
     go_wp2_with (first | ((with_reducible refine gate_callee (f := 29) rfl ?_); refine goesL_ (some 21) rfl rfl Try.func29 zK rfl #[.bool true, .slice Ao40 x6_4.length co40] rfl zM ?_; (with_reducible refine (nfkc_Runes.calls kj4 true _ _ x6_4 t491 _ ?side1 ?side2 A11.out).mono ?_); (case side1 => exact zC (Kd.R_reads' HO_6.out).2.2); (case side2 => exact (Kd.R_reads' HO_6.out).2.1); rintro e w41 ⟨v492, rfl, ho0, hb⟩; (try clear A11); refine ⟨_, rfl, ?_⟩; have n_ := zI (aM (Kd.R_elder' (zR HO_6) (Kd.R_base ho0) hb)) (zI (aM (Kd.R_lower (Kd.R_new' ho0 (Kd.R_lt (zR HO_6))) (below_size zB))) (aM (below_step zB hb))); clear HO_6 HB; obtain ⟨HO_6, HO493, HB⟩ := n_; (try clear hb); (try clear ho0); obtain ⟨Ao42, co42, rfl⟩ := Kd.R_slice HO493.out) | ((with_reducible refine gate_callee (f := 31) rfl ?_); refine goesL_ (some 24) rfl rfl Try.func31 zK rfl #[.slice Ao42 t491.length co42] rfl zM ?_; (with_reducible refine (guard_Check.calls kj4 _ _ t491 t494 t495 _ ?side1 ?side2 A12.out).mono ?_); (case side1 => exact zC (Kd.R_reads' HO493.out).2.2); (case side2 => exact (Kd.R_reads' HO493.out).2.1); rintro e w43 ⟨rfl, hb⟩; refine ⟨_, rfl, ?_⟩; have n_ := zI (aM (Kd.R_below (zR HO_6) hb)) (zI (aM (Kd.R_below (zR HO493) hb)) (aM (below_step zB hb))); clear HO_6 HO493 HB; obtain ⟨HO_6, HO493, HB⟩ := n_; (try clear hb)))
     go_ret2
     exact ⟨_, zE, zL, zB⟩
 ·replace c4 := Bool.eq_false_iff.mpr c4
  subst c4
  rw [if_neg (show ¬ (false = true) by decide)] at H
  simp only [Option.some.injEq, Prod.mk.injEq] at H
  obtain ⟨rfl, rfl⟩ := H
  go_enter Try.func27, Try.ntmps27
  go_wp2_with (first | ((with_reducible refine gate_callee (f := 25) rfl ?_); refine goesL_ (some 10) rfl rfl Try.func25 zK rfl #[.int .i64 a0] rfl zM ?_; (with_reducible refine (prep_known.calls a0 false _ A3.out).mono ?_); rintro e w' ⟨rfl, ⟨nd, rfl⟩⟩; refine ⟨_, rfl, ?_⟩))
  go_ret2
  exact ⟨_, zE, zL, zB⟩

/-! ### prep_Value: function 18 -/
def prep_Value.f (k : Nat) (a0 : Int) (a1 : ByteArray) : Option (ByteArray × Int) := (prep_known.f a0).bind fun t511 => (if t511 = true then (if (a1.size : Int) > 1202 then (some ((⟨#[]⟩ : ByteArray), 3)) else ((utf_Runes.f k a1).bind fun bt512 => (if bt512.2.2 = 0 then ((prep_Steps.f k a0 bt512.1).bind fun bt517 => (if bt517.2 = 0 then ((utf_Encode.f k bt517.1).bind fun bt521 => (some (bt521.1, bt521.2))) else (some ((⟨#[]⟩ : ByteArray), bt517.2)))) else (some ((⟨#[]⟩ : ByteArray), bt512.2.2))))) else (some ((⟨#[]⟩ : ByteArray), 2)))
theorem prep_Value.mono : ∀ a0 a1 k, LeO (prep_Value.f k a0 a1) (prep_Value.f (k + 1) a0 a1) := by
 intro a0 a1 k
 unfold prep_Value.f
 repeat' first
   | (with_reducible exact prep_Steps.mono _ _ _)
   | (with_reducible exact utf_Encode.mono _ _)
   | (with_reducible exact utf_Runes.mono _ _)
   | (with_reducible exact LeO.refl _)
   | exact prep_Steps.mono _ _ _
   | exact utf_Encode.mono _ _
   | exact utf_Runes.mono _ _
   | exact LeO.none _
   | refine LeO.ite ?_ ?_
   | refine LeO.bind ?_ (fun _ => ?_)
set_option maxHeartbeats 8000000 in
set_option maxRecDepth 100000 in
theorem prep_Value.calls (k : Nat) (a0 : Int) (a1 : ByteArray) (r1 : ByteArray) (r2 : Int) (w : World) (h : prep_Value.f k a0 a1 = some (r1, r2)) :
  Calls Try.prog 18 #[.int .i64 a0, .string a1] w fun e w' => e = .returned (.tuple #[.string r1, .int .i64 r2]) ∧ Below w.heap.size w w' := by
 have HB := aM (Below.refl w.heap.size w)
 have H := h
 clear h
 unfold prep_Value.f at H
 obtain ⟨t511, A3, H⟩ := zO H
 by_cases c4 : t511 = true
 ·subst c4
  rw [if_pos rfl] at H
  by_cases c5 : (a1.size : Int) > 1202
  ·rw [if_pos c5] at H
   have c5b0 : decide (1202 < (a1.size : Int)) = true := decide_eq_true c5
   have c5b1 : decide (1202 < a1.size) = true := decide_eq_true (by omega)
   clear c5
   simp only [Option.some.injEq, Prod.mk.injEq] at H
   obtain ⟨rfl, rfl⟩ := H
   go_enter Try.func18, Try.ntmps18
   go_wp2_with (first | ((with_reducible refine gate_callee (f := 25) rfl ?_); refine goesL_ (some 12) rfl rfl Try.func25 zK rfl #[.int .i64 a0] rfl zM ?_; (with_reducible refine (prep_known.calls a0 true _ A3.out).mono ?_); rintro e w' ⟨rfl, ⟨nd, rfl⟩⟩; refine ⟨_, rfl, ?_⟩))
   go_ret2
   exact ⟨zE, zB⟩
  ·rw [if_neg c5] at H
   have c5b0 : decide (1202 < (a1.size : Int)) = false := decide_eq_false c5
   have c5b1 : decide (1202 < a1.size) = false := decide_eq_false (by omega)
   clear c5
   obtain ⟨⟨t512, t513, t514⟩, A6, H⟩ := zO H
   try dsimp only at H
   by_cases c7 : t514 = 0
   ·rw [if_pos c7] at H
    have c7b0 : (t514 == 0) = true := beq_iff_eq.mpr c7
    have c7b1 : (t514 != 0) = false := bne_eq_false_iff_eq.mpr c7
    clear c7
    obtain ⟨⟨t517, t518⟩, A8, H⟩ := zO H
    try dsimp only at H
    by_cases c9 : t518 = 0
    ·rw [if_pos c9] at H
     have c9b0 : (t518 == 0) = true := beq_iff_eq.mpr c9
     have c9b1 : (t518 != 0) = false := bne_eq_false_iff_eq.mpr c9
     clear c9
     obtain ⟨⟨t521, t522⟩, A10, H⟩ := zO H
     try dsimp only at H
     simp only [Option.some.injEq, Prod.mk.injEq] at H
     obtain ⟨rfl, rfl⟩ := H
     go_enter Try.func18, Try.ntmps18
     go_wp2_with (first | ((with_reducible refine gate_callee (f := 25) rfl ?_); refine goesL_ (some 12) rfl rfl Try.func25 zK rfl #[.int .i64 a0] rfl zM ?_; (with_reducible refine (prep_known.calls a0 true _ A3.out).mono ?_); rintro e w' ⟨rfl, ⟨nd, rfl⟩⟩; refine ⟨_, rfl, ?_⟩) | ((with_reducible refine gate_callee (f := 26) rfl ?_); refine goesL_ (some 20) rfl rfl Try.func26 zK rfl #[.string a1] rfl zM ?_; (with_reducible refine (utf_Runes.calls k a1 t512 t513 t514 _ A6.out).mono ?_); rintro e w11 ⟨v515, rfl, ho0, hb⟩; refine ⟨_, rfl, ?_⟩; have n_ := zI (aM (Kd.R_lower ho0 (below_size zB))) (aM (below_step zB hb)); clear HB; obtain ⟨HO516, HB⟩ := n_; (try clear hb); (try clear ho0); obtain ⟨Ao12, co12, rfl⟩ := Kd.R_slice HO516.out) | ((with_reducible refine gate_callee (f := 27) rfl ?_); refine goesL_ (some 30) rfl rfl Try.func27 zK rfl #[.int .i64 a0, .slice Ao12 t512.length co12] rfl zM ?_; (with_reducible refine (prep_Steps.calls k a0 _ _ t512 t517 t518 _ ?side1 ?side2 A8.out).mono ?_); (case side1 => exact zC (Kd.R_reads' HO516.out).2.2); (case side2 => exact (Kd.R_reads' HO516.out).2.1); rintro e w13 ⟨v519, rfl, ho0, hb⟩; refine ⟨_, rfl, ?_⟩; have n_ := zI (aM (Kd.R_elder' (zR HO516) (Kd.R_base ho0) hb)) (zI (aM (Kd.R_lower (Kd.R_new' ho0 (Kd.R_lt (zR HO516))) (below_size zB))) (aM (below_step zB hb))); clear HO516 HB; obtain ⟨HO516, HO520, HB⟩ := n_; (try clear hb); (try clear ho0); obtain ⟨Ao14, co14, rfl⟩ := Kd.R_slice HO520.out) | ((with_reducible refine gate_callee (f := 28) rfl ?_); refine goesL_ (some 37) rfl rfl Try.func28 zK rfl #[.slice Ao14 t517.length co14] rfl zM ?_; (with_reducible refine (utf_Encode.calls k _ _ t517 t521 t522 _ ?side1 ?side2 A10.out).mono ?_); (case side1 => exact zC (Kd.R_reads' HO520.out).2.2); (case side2 => exact (Kd.R_reads' HO520.out).2.1); rintro e w15 ⟨rfl, hb⟩; refine ⟨_, rfl, ?_⟩; have n_ := zI (aM (Kd.R_below (zR HO516) hb)) (zI (aM (Kd.R_below (zR HO520) hb)) (aM (below_step zB hb))); clear HO516 HO520 HB; obtain ⟨HO516, HO520, HB⟩ := n_; (try clear hb)))
     go_ret2
     exact ⟨zE, zB⟩
    ·rw [if_neg c9] at H
     have c9b0 : (t518 == 0) = false := beq_eq_false_iff_ne.mpr c9
     have c9b1 : (t518 != 0) = true := bne_iff_ne.mpr c9
     simp only [Option.some.injEq, Prod.mk.injEq] at H
     obtain ⟨rfl, rfl⟩ := H
     go_enter Try.func18, Try.ntmps18
     go_wp2_with (first | ((with_reducible refine gate_callee (f := 25) rfl ?_); refine goesL_ (some 12) rfl rfl Try.func25 zK rfl #[.int .i64 a0] rfl zM ?_; (with_reducible refine (prep_known.calls a0 true _ A3.out).mono ?_); rintro e w' ⟨rfl, ⟨nd, rfl⟩⟩; refine ⟨_, rfl, ?_⟩) | ((with_reducible refine gate_callee (f := 26) rfl ?_); refine goesL_ (some 20) rfl rfl Try.func26 zK rfl #[.string a1] rfl zM ?_; (with_reducible refine (utf_Runes.calls k a1 t512 t513 t514 _ A6.out).mono ?_); rintro e w16 ⟨v515, rfl, ho0, hb⟩; refine ⟨_, rfl, ?_⟩; have n_ := zI (aM (Kd.R_lower ho0 (below_size zB))) (aM (below_step zB hb)); clear HB; obtain ⟨HO516, HB⟩ := n_; (try clear hb); (try clear ho0); obtain ⟨Ao17, co17, rfl⟩ := Kd.R_slice HO516.out) | ((with_reducible refine gate_callee (f := 27) rfl ?_); refine goesL_ (some 30) rfl rfl Try.func27 zK rfl #[.int .i64 a0, .slice Ao17 t512.length co17] rfl zM ?_; (with_reducible refine (prep_Steps.calls k a0 _ _ t512 t517 t518 _ ?side1 ?side2 A8.out).mono ?_); (case side1 => exact zC (Kd.R_reads' HO516.out).2.2); (case side2 => exact (Kd.R_reads' HO516.out).2.1); rintro e w18 ⟨v519, rfl, ho0, hb⟩; refine ⟨_, rfl, ?_⟩; have n_ := zI (aM (Kd.R_elder' (zR HO516) (Kd.R_base ho0) hb)) (zI (aM (Kd.R_lower (Kd.R_new' ho0 (Kd.R_lt (zR HO516))) (below_size zB))) (aM (below_step zB hb))); clear HO516 HB; obtain ⟨HO516, HO520, HB⟩ := n_; (try clear hb); (try clear ho0)))
     go_ret2
     exact ⟨zE, zB⟩
   ·rw [if_neg c7] at H
    have c7b0 : (t514 == 0) = false := beq_eq_false_iff_ne.mpr c7
    have c7b1 : (t514 != 0) = true := bne_iff_ne.mpr c7
    simp only [Option.some.injEq, Prod.mk.injEq] at H
    obtain ⟨rfl, rfl⟩ := H
    go_enter Try.func18, Try.ntmps18
    go_wp2_with (first | ((with_reducible refine gate_callee (f := 25) rfl ?_); refine goesL_ (some 12) rfl rfl Try.func25 zK rfl #[.int .i64 a0] rfl zM ?_; (with_reducible refine (prep_known.calls a0 true _ A3.out).mono ?_); rintro e w' ⟨rfl, ⟨nd, rfl⟩⟩; refine ⟨_, rfl, ?_⟩) | ((with_reducible refine gate_callee (f := 26) rfl ?_); refine goesL_ (some 20) rfl rfl Try.func26 zK rfl #[.string a1] rfl zM ?_; (with_reducible refine (utf_Runes.calls k a1 t512 t513 t514 _ A6.out).mono ?_); rintro e w19 ⟨v515, rfl, ho0, hb⟩; refine ⟨_, rfl, ?_⟩; have n_ := zI (aM (Kd.R_lower ho0 (below_size zB))) (aM (below_step zB hb)); clear HB; obtain ⟨HO516, HB⟩ := n_; (try clear hb); (try clear ho0)))
    go_ret2
    exact ⟨zE, zB⟩
 ·replace c4 := Bool.eq_false_iff.mpr c4
  subst c4
  rw [if_neg (show ¬ (false = true) by decide)] at H
  simp only [Option.some.injEq, Prod.mk.injEq] at H
  obtain ⟨rfl, rfl⟩ := H
  go_enter Try.func18, Try.ntmps18
  go_wp2_with (first | ((with_reducible refine gate_callee (f := 25) rfl ?_); refine goesL_ (some 12) rfl rfl Try.func25 zK rfl #[.int .i64 a0] rfl zM ?_; (with_reducible refine (prep_known.calls a0 false _ A3.out).mono ?_); rintro e w' ⟨rfl, ⟨nd, rfl⟩⟩; refine ⟨_, rfl, ?_⟩))
  go_ret2
  exact ⟨zE, zB⟩

end Go.Proofs.Ytncppcjobimilaa.P
