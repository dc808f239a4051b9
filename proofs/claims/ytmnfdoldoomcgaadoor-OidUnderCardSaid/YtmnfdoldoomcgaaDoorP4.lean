-- Printed by wip/mk.py (this session's driver over the kit's print) and from wip/manual.
import Derived.Test.YtmnfdoldoomcgaaDoorP0
import Derived.Test.YtmnfdoldoomcgaaDoorP1
import Derived.Test.YtmnfdoldoomcgaaDoorP2
import Derived.Test.YtmnfdoldoomcgaaDoorP3
namespace Go.Proofs.YtmnfdoldoomcgaaDoor.P
open Go.RowKit Go.Proofs.YtmnfdoldoomcgaaDoorW.PrintWords Go.Proofs.YtmnfdoldoomcgaaDoorW.PrintLast Go.Proofs.YtmnfdoldoomcgaaDoorW.PrintMore
attribute [local go_sem] max2_int min2_int max_two min_two max_three min_three max_four min_four   -- for this text's walks alone
set_option linter.unusedVariables false
set_option linter.unusedSimpArgs false

/-! ### toponymlaw17_OidOrder: function 7 -/
def toponymlaw17_OidOrder.j0 : Nat → List Int → List Int → List Int → Bool → Option (Bool)
 | 0, _, _, _, _ => none
 | k + 1, x0, x1, x2, x22 => if x22 = true then ((toponymlaw17_awake.f k).bind fun t250 => (some t250)) else ((oid_Cmp.f k x0 x1).bind fun t251 => ((oid_Cmp.f k x1 x2).bind fun t252 => ((oid_Cmp.f k x0 x2).bind fun t253 => ((oid_Cmp.f k x1 x0).bind fun t254 => (if t254 = (wrap64 (-t251)) then ((toponymlaw17_same.f k x0 x1).bind fun t255 => (if ((t251 == 0) == t255) = true then (if t251 > 0 then ((toponymlaw17_awake.f k).bind fun t256 => (some t256)) else (if t252 > 0 then ((toponymlaw17_awake.f k).bind fun t257 => (some t257)) else (if t253 ≤ 0 then ((toponymlaw17_awake.f k).bind fun t258 => (some t258)) else (some false)))) else (some false))) else (some false))))))
def toponymlaw17_OidOrder.f (k : Nat) (l0 : List Int) (l1 : List Int) (l2 : List Int) : Option (Bool) := if (l0.length : Int) > 1000 then (toponymlaw17_OidOrder.j0 k l0 l1 l2 true) else (if (l1.length : Int) > 1000 then (toponymlaw17_OidOrder.j0 k l0 l1 l2 true) else (toponymlaw17_OidOrder.j0 k l0 l1 l2 (decide ((l2.length : Int) > 1000))))
theorem toponymlaw17_OidOrder.mono_l : ∀ k, (∀ y0 y1 y2 y3, LeO (toponymlaw17_OidOrder.j0 k y0 y1 y2 y3) (toponymlaw17_OidOrder.j0 (k + 1) y0 y1 y2 y3))
 | 0 => fun _ _ _ _ r h => by simp [toponymlaw17_OidOrder.j0] at h
 | k + 1 => by
  have ih0 := toponymlaw17_OidOrder.mono_l k
  ·intro y0 y1 y2 y3
   unfold toponymlaw17_OidOrder.j0
   repeat' first
   | (with_reducible exact ih0 _ _ _ _)
   | (with_reducible exact oid_Cmp.mono _ _ _)
   | (with_reducible exact toponymlaw17_awake.mono _)
   | (with_reducible exact toponymlaw17_same.mono _ _ _)
   | (with_reducible exact LeO.refl _)
   | exact ih0 _ _ _ _
   | exact oid_Cmp.mono _ _ _
   | exact toponymlaw17_awake.mono _
   | exact toponymlaw17_same.mono _ _ _
   | exact LeO.none _
   | refine LeO.ite ?_ ?_
   | refine LeO.bind ?_ (fun _ => ?_)
theorem toponymlaw17_OidOrder.mono : ∀ a0 a1 a2 k, LeO (toponymlaw17_OidOrder.f k a0 a1 a2) (toponymlaw17_OidOrder.f (k + 1) a0 a1 a2) := by
 intro a0 a1 a2 k
 have ih0 := toponymlaw17_OidOrder.mono_l k
 unfold toponymlaw17_OidOrder.f
 repeat' first
   | (with_reducible exact ih0 _ _ _ _)
   | (with_reducible exact oid_Cmp.mono _ _ _)
   | (with_reducible exact toponymlaw17_awake.mono _)
   | (with_reducible exact toponymlaw17_same.mono _ _ _)
   | (with_reducible exact LeO.refl _)
   | exact ih0 _ _ _ _
   | exact oid_Cmp.mono _ _ _
   | exact toponymlaw17_awake.mono _
   | exact toponymlaw17_same.mono _ _ _
   | exact LeO.none _
   | refine LeO.ite ?_ ?_
   | refine LeO.bind ?_ (fun _ => ?_)
set_option maxHeartbeats 8000000 in
set_option maxRecDepth 100000 in
theorem toponymlaw17_OidOrder.calls (k : Nat) (A0 : Option Addr) (c0 : Nat) (l0 : List Int) (A1 : Option Addr) (c1 : Nat) (l1 : List Int) (A2 : Option Addr) (c2 : Nat) (l2 : List Int) (r : Bool) (w : World) (hE : Env w) (hr0 : Kd.C (Kd.int .i64) w A0 l0.length l0) (hc0 : l0.length ≤ c0) (hr1 : Kd.C (Kd.int .i64) w A1 l1.length l1) (hc1 : l1.length ≤ c1) (hr2 : Kd.C (Kd.int .i64) w A2 l2.length l2) (hc2 : l2.length ≤ c2) (h : toponymlaw17_OidOrder.f k l0 l1 l2 = some r) (hT_ : r = true) :
  Calls Tryd.prog 7 #[.slice A0 l0.length c0, .slice A1 l1.length c1, .slice A2 l2.length c2] w fun e w' => e = .returned (.bool r) ∧ Below w.heap.size w w' := by
 have hT := aM hT_
 clear hT_
 have HE := aM hE
 clear hE
 have HR0 := aM hr0
 have HC0 := aM hc0
 clear hr0 hc0
 have HR1 := aM hr1
 have HC1 := aM hc1
 clear hr1 hc1
 have HR2 := aM hr2
 have HC2 := aM hc2
 clear hr2 hc2
 have HB := aM (Below.refl w.heap.size w)
 have H := h
 clear h
 unfold toponymlaw17_OidOrder.f at H
 have HC4 := aM H
 clear H
 go_enter Tryd.func7, Tryd.ntmps7
 go_upto_region 1 with (fail)
 go_cut [22] (fun v22 wc => ∃ (kq : Nat) (x22_3 : Bool), v22 = .bool x22_3 ∧ Aside0 (toponymlaw17_OidOrder.j0 kq l0 l1 l2 x22_3 = some r) ∧ Aside0 (kq ≤ k) ∧ Aside0 (Below w.heap.size w wc))
 case first =>
  have H := HC4.out
  clear HC4
  by_cases c5 : (l0.length : Int) > 1000
  ·rw [if_pos c5] at H
   have c5b0 : decide (1000 < (l0.length : Int)) = true := decide_eq_true c5
   have c5b1 : decide (1000 < l0.length) = true := decide_eq_true (by omega)
   clear c5
   (first | rw [c5b0] | (simp only [i64_w, i32_w]; rw [c5b0]) | skip)
   have H' := aM H
   clear H
   go_wp2
   go_meet
   case rel => exact ⟨_, (true), zP, H', ⟨by first | omega | exact Nat.le_refl _⟩, ⟨zB⟩⟩
  ·rw [if_neg c5] at H
   have c5b0 : decide (1000 < (l0.length : Int)) = false := decide_eq_false c5
   have c5b1 : decide (1000 < l0.length) = false := decide_eq_false (by omega)
   clear c5
   (first | rw [c5b0] | (simp only [i64_w, i32_w]; rw [c5b0]) | skip)
   by_cases c6 : (l1.length : Int) > 1000
   ·rw [if_pos c6] at H
    have c6b0 : decide (1000 < (l1.length : Int)) = true := decide_eq_true c6
    have c6b1 : decide (1000 < l1.length) = true := decide_eq_true (by omega)
    clear c6
    have H' := aM H
    clear H
    go_wp2
    go_meet
    case rel => exact ⟨_, (true), zP, H', ⟨by first | omega | exact Nat.le_refl _⟩, ⟨zB⟩⟩
   ·rw [if_neg c6] at H
    have c6b0 : decide (1000 < (l1.length : Int)) = false := decide_eq_false c6
    have c6b1 : decide (1000 < l1.length) = false := decide_eq_false (by omega)
    clear c6
    have H' := aM H
    clear H
    go_wp2
    go_meet
    case rel => exact ⟨_, (decide ((l2.length : Int) > 1000)), zP, H', ⟨by first | omega | exact Nat.le_refl _⟩, ⟨zB⟩⟩
 case rest =>
  clear HC4
  try clear c1
  try clear c2
  try clear p2
  try clear c5
  try clear c5b0
  try clear c5b1
  try clear c6
  try clear c6b0
  try clear c6b1
  obtain ⟨kq, x22_3, rfl, HA, HJ3, HB⟩ := hcut
  cases kq with
  | zero => exact absurd HA.out (by simp [toponymlaw17_OidOrder.j0])
  | succ kj3 =>
   have H := HA.out
   clear HA
   simp only [toponymlaw17_OidOrder.j0] at H
   by_cases c7 : x22_3 = true
   ·subst c7
    rw [if_pos rfl] at H
    obtain ⟨t250, A8, H⟩ := zO H
    obtain rfl := sI H
    go_wp2_with (first | ((with_reducible refine gate_callee (f := 9) rfl ?_); refine goesL_ (some 23) rfl rfl Tryd.func9 zK rfl #[] rfl zM ?_; (with_reducible refine (toponymlaw17_awake.calls kj3  t250 _ (zEnv HE) A8.out).mono ?_); rintro e w9 ⟨rfl, hb⟩; (try clear A8); refine ⟨_, rfl, ?_⟩; replace HB := aM (below_step zB hb); (try clear hb)))
    go_ret
    exact ⟨zE, zB⟩
   ·replace c7 := Bool.eq_false_iff.mpr c7
    subst c7
    rw [if_neg (show ¬ (false = true) by decide)] at H
    obtain ⟨t251, A10, H⟩ := zO H
    obtain ⟨t252, A11, H⟩ := zO H
    obtain ⟨t253, A12, H⟩ := zO H
    obtain ⟨t254, A13, H⟩ := zO H
    by_cases c14 : t254 = (wrap64 (-t251))
    ·rw [if_pos c14] at H
     have c14b0 : (t254 == (wrap64 (-t251))) = true := beq_iff_eq.mpr c14
     have c14b1 : (t254 != (wrap64 (-t251))) = false := bne_eq_false_iff_eq.mpr c14
     clear c14
     obtain ⟨t255, A15, H⟩ := zO H
     by_cases c16 : ((t251 == 0) == t255) = true
     ·rw [if_pos c16] at H
      have c16b0 : ((t251 == 0) == t255) = true := c16
      (try (have c16b1 : decide ((t251 == 0) = t255) = true := by simpa using c16))
      (try (have c16b2 : ((t251 == 0) == t255) = true := by simpa using c16))
      clear c16
      by_cases c17 : t251 > 0
      ·rw [if_pos c17] at H
       have c17b0 : decide (0 < t251) = true := decide_eq_true c17
       clear c17
       obtain ⟨t256, A18, H⟩ := zO H
       obtain rfl := sI H
       go_wp2_with (first | ((with_reducible refine gate_callee (f := 19) rfl ?_); refine goesL_ (some 26) rfl rfl Tryd.func19 zK rfl #[.slice A0 l0.length c0, .slice A1 l1.length c1] rfl zM ?_; (with_reducible refine (oid_Cmp.calls kj3 _ _ l0 _ _ l1 t251 _ ?side1 ?side2 ?side3 ?side4 A10.out).mono ?_); (case side1 => exact zCB HR0); (case side2 => exact HC0.out); (case side3 => exact zCB HR1); (case side4 => exact HC1.out); rintro e w' ⟨rfl, ⟨nd, rfl⟩⟩; (try clear A10); refine ⟨_, rfl, ?_⟩) | ((with_reducible refine gate_callee (f := 19) rfl ?_); refine goesL_ (some 29) rfl rfl Tryd.func19 zK rfl #[.slice A1 l1.length c1, .slice A2 l2.length c2] rfl zM ?_; (with_reducible refine (oid_Cmp.calls kj3 _ _ l1 _ _ l2 t252 _ ?side1 ?side2 ?side3 ?side4 A11.out).mono ?_); (case side1 => exact zCB HR1); (case side2 => exact HC1.out); (case side3 => exact zCB HR2); (case side4 => exact HC2.out); rintro e w' ⟨rfl, ⟨nd, rfl⟩⟩; (try clear A11); refine ⟨_, rfl, ?_⟩) | ((with_reducible refine gate_callee (f := 19) rfl ?_); refine goesL_ (some 32) rfl rfl Tryd.func19 zK rfl #[.slice A0 l0.length c0, .slice A2 l2.length c2] rfl zM ?_; (with_reducible refine (oid_Cmp.calls kj3 _ _ l0 _ _ l2 t253 _ ?side1 ?side2 ?side3 ?side4 A12.out).mono ?_); (case side1 => exact zCB HR0); (case side2 => exact HC0.out); (case side3 => exact zCB HR2); (case side4 => exact HC2.out); rintro e w' ⟨rfl, ⟨nd, rfl⟩⟩; (try clear A12); refine ⟨_, rfl, ?_⟩) | ((with_reducible refine gate_callee (f := 19) rfl ?_); refine goesL_ (some 35) rfl rfl Tryd.func19 zK rfl #[.slice A1 l1.length c1, .slice A0 l0.length c0] rfl zM ?_; (with_reducible refine (oid_Cmp.calls kj3 _ _ l1 _ _ l0 t254 _ ?side1 ?side2 ?side3 ?side4 A13.out).mono ?_); (case side1 => exact zCB HR1); (case side2 => exact HC1.out); (case side3 => exact zCB HR0); (case side4 => exact HC0.out); rintro e w' ⟨rfl, ⟨nd, rfl⟩⟩; (try clear A13); refine ⟨_, rfl, ?_⟩) | (go_at_call 14; (with_reducible refine (toponymlaw17_same.calls kj3 _ _ l0 _ _ l1 t255 _ ?side1 ?side2 ?side3 ?side4 A15.out).mono ?_); (case side1 => exact zCB HR0); (case side2 => exact HC0.out); (case side3 => exact zCB HR1); (case side4 => exact HC1.out); rintro e w' ⟨rfl, ⟨nd, rfl⟩⟩) | (go_at_call 9; (with_reducible refine (toponymlaw17_awake.calls kj3  t256 _ (zEnv HE) A18.out).mono ?_); rintro e w19 ⟨rfl, hb⟩; (try clear A18); replace HB := aM (below_step zB hb); (try clear hb)))
       go_ret
       exact ⟨zE, zB⟩
      ·rw [if_neg c17] at H
       have c17b0 : decide (0 < t251) = false := decide_eq_false c17
       clear c17
       by_cases c20 : t252 > 0
       ·rw [if_pos c20] at H
        have c20b0 : decide (0 < t252) = true := decide_eq_true c20
        clear c20
        obtain ⟨t257, A21, H⟩ := zO H
        obtain rfl := sI H
        go_wp2_with (first | ((with_reducible refine gate_callee (f := 19) rfl ?_); refine goesL_ (some 26) rfl rfl Tryd.func19 zK rfl #[.slice A0 l0.length c0, .slice A1 l1.length c1] rfl zM ?_; (with_reducible refine (oid_Cmp.calls kj3 _ _ l0 _ _ l1 t251 _ ?side1 ?side2 ?side3 ?side4 A10.out).mono ?_); (case side1 => exact zCB HR0); (case side2 => exact HC0.out); (case side3 => exact zCB HR1); (case side4 => exact HC1.out); rintro e w' ⟨rfl, ⟨nd, rfl⟩⟩; (try clear A10); refine ⟨_, rfl, ?_⟩) | ((with_reducible refine gate_callee (f := 19) rfl ?_); refine goesL_ (some 29) rfl rfl Tryd.func19 zK rfl #[.slice A1 l1.length c1, .slice A2 l2.length c2] rfl zM ?_; (with_reducible refine (oid_Cmp.calls kj3 _ _ l1 _ _ l2 t252 _ ?side1 ?side2 ?side3 ?side4 A11.out).mono ?_); (case side1 => exact zCB HR1); (case side2 => exact HC1.out); (case side3 => exact zCB HR2); (case side4 => exact HC2.out); rintro e w' ⟨rfl, ⟨nd, rfl⟩⟩; (try clear A11); refine ⟨_, rfl, ?_⟩) | ((with_reducible refine gate_callee (f := 19) rfl ?_); refine goesL_ (some 32) rfl rfl Tryd.func19 zK rfl #[.slice A0 l0.length c0, .slice A2 l2.length c2] rfl zM ?_; (with_reducible refine (oid_Cmp.calls kj3 _ _ l0 _ _ l2 t253 _ ?side1 ?side2 ?side3 ?side4 A12.out).mono ?_); (case side1 => exact zCB HR0); (case side2 => exact HC0.out); (case side3 => exact zCB HR2); (case side4 => exact HC2.out); rintro e w' ⟨rfl, ⟨nd, rfl⟩⟩; (try clear A12); refine ⟨_, rfl, ?_⟩) | ((with_reducible refine gate_callee (f := 19) rfl ?_); refine goesL_ (some 35) rfl rfl Tryd.func19 zK rfl #[.slice A1 l1.length c1, .slice A0 l0.length c0] rfl zM ?_; (with_reducible refine (oid_Cmp.calls kj3 _ _ l1 _ _ l0 t254 _ ?side1 ?side2 ?side3 ?side4 A13.out).mono ?_); (case side1 => exact zCB HR1); (case side2 => exact HC1.out); (case side3 => exact zCB HR0); (case side4 => exact HC0.out); rintro e w' ⟨rfl, ⟨nd, rfl⟩⟩; (try clear A13); refine ⟨_, rfl, ?_⟩) | (go_at_call 14; (with_reducible refine (toponymlaw17_same.calls kj3 _ _ l0 _ _ l1 t255 _ ?side1 ?side2 ?side3 ?side4 A15.out).mono ?_); (case side1 => exact zCB HR0); (case side2 => exact HC0.out); (case side3 => exact zCB HR1); (case side4 => exact HC1.out); rintro e w' ⟨rfl, ⟨nd, rfl⟩⟩) | (go_at_call 9; (with_reducible refine (toponymlaw17_awake.calls kj3  t257 _ (zEnv HE) A21.out).mono ?_); rintro e w22 ⟨rfl, hb⟩; (try clear A21); replace HB := aM (below_step zB hb); (try clear hb)))
        go_ret
        exact ⟨zE, zB⟩
       ·rw [if_neg c20] at H
        have c20b0 : decide (0 < t252) = false := decide_eq_false c20
        clear c20
        by_cases c23 : t253 ≤ 0
        ·rw [if_pos c23] at H
         have c23b0 : decide (t253 ≤ 0) = true := decide_eq_true c23
         clear c23
         obtain ⟨t258, A24, H⟩ := zO H
         obtain rfl := sI H
         go_wp2_with (first | ((with_reducible refine gate_callee (f := 19) rfl ?_); refine goesL_ (some 26) rfl rfl Tryd.func19 zK rfl #[.slice A0 l0.length c0, .slice A1 l1.length c1] rfl zM ?_; (with_reducible refine (oid_Cmp.calls kj3 _ _ l0 _ _ l1 t251 _ ?side1 ?side2 ?side3 ?side4 A10.out).mono ?_); (case side1 => exact zCB HR0); (case side2 => exact HC0.out); (case side3 => exact zCB HR1); (case side4 => exact HC1.out); rintro e w' ⟨rfl, ⟨nd, rfl⟩⟩; (try clear A10); refine ⟨_, rfl, ?_⟩) | ((with_reducible refine gate_callee (f := 19) rfl ?_); refine goesL_ (some 29) rfl rfl Tryd.func19 zK rfl #[.slice A1 l1.length c1, .slice A2 l2.length c2] rfl zM ?_; (with_reducible refine (oid_Cmp.calls kj3 _ _ l1 _ _ l2 t252 _ ?side1 ?side2 ?side3 ?side4 A11.out).mono ?_); (case side1 => exact zCB HR1); (case side2 => exact HC1.out); (case side3 => exact zCB HR2); (case side4 => exact HC2.out); rintro e w' ⟨rfl, ⟨nd, rfl⟩⟩; (try clear A11); refine ⟨_, rfl, ?_⟩) | ((with_reducible refine gate_callee (f := 19) rfl ?_); refine goesL_ (some 32) rfl rfl Tryd.func19 zK rfl #[.slice A0 l0.length c0, .slice A2 l2.length c2] rfl zM ?_; (with_reducible refine (oid_Cmp.calls kj3 _ _ l0 _ _ l2 t253 _ ?side1 ?side2 ?side3 ?side4 A12.out).mono ?_); (case side1 => exact zCB HR0); (case side2 => exact HC0.out); (case side3 => exact zCB HR2); (case side4 => exact HC2.out); rintro e w' ⟨rfl, ⟨nd, rfl⟩⟩; (try clear A12); refine ⟨_, rfl, ?_⟩) | ((with_reducible refine gate_callee (f := 19) rfl ?_); refine goesL_ (some 35) rfl rfl Tryd.func19 zK rfl #[.slice A1 l1.length c1, .slice A0 l0.length c0] rfl zM ?_; (with_reducible refine (oid_Cmp.calls kj3 _ _ l1 _ _ l0 t254 _ ?side1 ?side2 ?side3 ?side4 A13.out).mono ?_); (case side1 => exact zCB HR1); (case side2 => exact HC1.out); (case side3 => exact zCB HR0); (case side4 => exact HC0.out); rintro e w' ⟨rfl, ⟨nd, rfl⟩⟩; (try clear A13); refine ⟨_, rfl, ?_⟩) | (go_at_call 14; (with_reducible refine (toponymlaw17_same.calls kj3 _ _ l0 _ _ l1 t255 _ ?side1 ?side2 ?side3 ?side4 A15.out).mono ?_); (case side1 => exact zCB HR0); (case side2 => exact HC0.out); (case side3 => exact zCB HR1); (case side4 => exact HC1.out); rintro e w' ⟨rfl, ⟨nd, rfl⟩⟩) | (go_at_call 9; (with_reducible refine (toponymlaw17_awake.calls kj3  t258 _ (zEnv HE) A24.out).mono ?_); rintro e w25 ⟨rfl, hb⟩; (try clear A24); replace HB := aM (below_step zB hb); (try clear hb)))
         go_ret
         exact ⟨zE, zB⟩
        ·rw [if_neg c23] at H
         exact absurd ((sI H).trans hT.out) (by decide)
     ·rw [if_neg c16] at H
      have c16b0 : ((t251 == 0) == t255) = false := by simpa using c16
      (try (have c16b1 : decide ((t251 == 0) = t255) = false := by simpa using c16))
      (try (have c16b2 : ((t251 == 0) == t255) = false := by simpa using c16))
      (try (have c16b3 : ¬ ((t251 == 0) = t255) := by simpa using c16))
      clear c16
      obtain rfl := sI H
      go_wp2_with (first | ((with_reducible refine gate_callee (f := 19) rfl ?_); refine goesL_ (some 26) rfl rfl Tryd.func19 zK rfl #[.slice A0 l0.length c0, .slice A1 l1.length c1] rfl zM ?_; (with_reducible refine (oid_Cmp.calls kj3 _ _ l0 _ _ l1 t251 _ ?side1 ?side2 ?side3 ?side4 A10.out).mono ?_); (case side1 => exact zCB HR0); (case side2 => exact HC0.out); (case side3 => exact zCB HR1); (case side4 => exact HC1.out); rintro e w' ⟨rfl, ⟨nd, rfl⟩⟩; (try clear A10); refine ⟨_, rfl, ?_⟩) | ((with_reducible refine gate_callee (f := 19) rfl ?_); refine goesL_ (some 29) rfl rfl Tryd.func19 zK rfl #[.slice A1 l1.length c1, .slice A2 l2.length c2] rfl zM ?_; (with_reducible refine (oid_Cmp.calls kj3 _ _ l1 _ _ l2 t252 _ ?side1 ?side2 ?side3 ?side4 A11.out).mono ?_); (case side1 => exact zCB HR1); (case side2 => exact HC1.out); (case side3 => exact zCB HR2); (case side4 => exact HC2.out); rintro e w' ⟨rfl, ⟨nd, rfl⟩⟩; (try clear A11); refine ⟨_, rfl, ?_⟩) | ((with_reducible refine gate_callee (f := 19) rfl ?_); refine goesL_ (some 32) rfl rfl Tryd.func19 zK rfl #[.slice A0 l0.length c0, .slice A2 l2.length c2] rfl zM ?_; (with_reducible refine (oid_Cmp.calls kj3 _ _ l0 _ _ l2 t253 _ ?side1 ?side2 ?side3 ?side4 A12.out).mono ?_); (case side1 => exact zCB HR0); (case side2 => exact HC0.out); (case side3 => exact zCB HR2); (case side4 => exact HC2.out); rintro e w' ⟨rfl, ⟨nd, rfl⟩⟩; (try clear A12); refine ⟨_, rfl, ?_⟩) | ((with_reducible refine gate_callee (f := 19) rfl ?_); refine goesL_ (some 35) rfl rfl Tryd.func19 zK rfl #[.slice A1 l1.length c1, .slice A0 l0.length c0] rfl zM ?_; (with_reducible refine (oid_Cmp.calls kj3 _ _ l1 _ _ l0 t254 _ ?side1 ?side2 ?side3 ?side4 A13.out).mono ?_); (case side1 => exact zCB HR1); (case side2 => exact HC1.out); (case side3 => exact zCB HR0); (case side4 => exact HC0.out); rintro e w' ⟨rfl, ⟨nd, rfl⟩⟩; (try clear A13); refine ⟨_, rfl, ?_⟩) | (go_at_call 14; (with_reducible refine (toponymlaw17_same.calls kj3 _ _ l0 _ _ l1 t255 _ ?side1 ?side2 ?side3 ?side4 A15.out).mono ?_); (case side1 => exact zCB HR0); (case side2 => exact HC0.out); (case side3 => exact zCB HR1); (case side4 => exact HC1.out); rintro e w' ⟨rfl, ⟨nd, rfl⟩⟩))
      go_ret
      exact ⟨zE, zB⟩
    ·rw [if_neg c14] at H
     exact absurd ((sI H).trans hT.out) (by decide)
/-- THE ONE PURE STATEMENT of toponymlaw17_OidOrder: yours. -/
def toponymlaw17_OidOrder.Pure : Prop := ∀ (l0 : List Int) (l1 : List Int) (l2 : List Int), l0.length ≤ maxLen → l0.length * 8 ≤ 140737488351232 → (∀ x ∈ l0, (Lit.int .i64 x).wf = true) → l1.length ≤ maxLen → l1.length * 8 ≤ 140737488351232 → (∀ x ∈ l1, (Lit.int .i64 x).wf = true) → l2.length ≤ maxLen → l2.length * 8 ≤ 140737488351232 → (∀ x ∈ l2, (Lit.int .i64 x).wf = true) → ∃ k, toponymlaw17_OidOrder.f k l0 l1 l2 = some true
theorem toponymlaw17_OidOrder.walk (P : toponymlaw17_OidOrder.Pure) (a0 : Option Addr) (len0 cap0 : Nat) (z0 : List Int) (a1 : Option Addr) (len1 cap1 : Nat) (z1 : List Int) (a2 : Option Addr) (len2 cap2 : Nat) (z2 : List Int) (w : World) (hE : Env w) (w0 : (a0 = none ∧ len0 = 0 ∧ cap0 = 0 ∧ z0 = []) ∨ ∃ x, a0 = some x ∧ len0 ≤ cap0 ∧ cap0 ≤ maxLen ∧ z0.length = cap0 ∧ (∀ i, i < z0.length → w.cell? (x.add i) = some (.int .i64 (z0.getD i 0))) ∧ ∀ n ∈ z0, (Lit.int .i64 n).wf = true) (y0 : len0 * 8 ≤ 140737488351232) (w1 : (a1 = none ∧ len1 = 0 ∧ cap1 = 0 ∧ z1 = []) ∨ ∃ x, a1 = some x ∧ len1 ≤ cap1 ∧ cap1 ≤ maxLen ∧ z1.length = cap1 ∧ (∀ i, i < z1.length → w.cell? (x.add i) = some (.int .i64 (z1.getD i 0))) ∧ ∀ n ∈ z1, (Lit.int .i64 n).wf = true) (y1 : len1 * 8 ≤ 140737488351232) (w2 : (a2 = none ∧ len2 = 0 ∧ cap2 = 0 ∧ z2 = []) ∨ ∃ x, a2 = some x ∧ len2 ≤ cap2 ∧ cap2 ≤ maxLen ∧ z2.length = cap2 ∧ (∀ i, i < z2.length → w.cell? (x.add i) = some (.int .i64 (z2.getD i 0))) ∧ ∀ n ∈ z2, (Lit.int .i64 n).wf = true) (y2 : len2 * 8 ≤ 140737488351232) :
  Calls Tryd.prog 7 #[.slice a0 len0 cap0, .slice a1 len1 cap1, .slice a2 len2 cap2] w fun e w' => e = .returned (.bool true) ∧ Below w.heap.size w w' := by
 obtain ⟨l0, rfl, hr0, hm0, hw0, hc0⟩ := ReadsInt.ofRowC w0
 obtain ⟨l1, rfl, hr1, hm1, hw1, hc1⟩ := ReadsInt.ofRowC w1
 obtain ⟨l2, rfl, hr2, hm2, hw2, hc2⟩ := ReadsInt.ofRowC w2
 obtain ⟨k, h⟩ := P l0 l1 l2 hm0 y0 hw0 hm1 y1 hw1 hm2 y2 hw2
 refine (toponymlaw17_OidOrder.calls k _ _ l0 _ _ l1 _ _ l2 true w hE (Kd.C_of_reads (d := (0 : Int)) (h1 := fun _ => rfl) hr0) hc0 (Kd.C_of_reads (d := (0 : Int)) (h1 := fun _ => rfl) hr1) hc1 (Kd.C_of_reads (d := (0 : Int)) (h1 := fun _ => rfl) hr2) hc2 h rfl).mono ?_
 rintro e w' ⟨rfl, hd⟩
 exact ⟨rfl, hd⟩

/-! ### toponymlaw17_OidUnder: function 8 -/
mutual
def toponymlaw17_OidUnder.j0 : Nat → List Int → List Int → List Int → Bool → Option (Bool)
 | 0, _, _, _, _ => none
 | k + 1, x0, x1, x2, x20 => if x20 = true then ((toponymlaw17_awake.f k).bind fun t259 => (some t259)) else ((oid_Under.f k x0 x2).bind fun t260 => (if t260 = true then ((oid_Cmp.f k x2 x0).bind fun t261 => (if t261 > 0 then (some false) else ((oid_Cmp.f k x2 x1).bind fun t262 => (if t262 ≤ 0 then ((oid_Cmp.f k x1 x0).bind fun t263 => (if t263 ≤ 0 then ((oid_Check.f k x1).bind fun t264 => (if t264 = 0 then ((oid_Under.f k x1 x2).bind fun t265 => (toponymlaw17_OidUnder.j1 k x0 (!t265))) else (toponymlaw17_OidUnder.j1 k x0 false))) else (toponymlaw17_OidUnder.j1 k x0 false))) else (toponymlaw17_OidUnder.j1 k x0 false))))) else ((oid_Above.f k x0).bind fun t272 => (if (t272.length : Int) = 0 then ((toponymlaw17_awake.f k).bind fun t275 => (some t275)) else ((oid_Under.f k x0 t272).bind fun t276 => (if t276 = true then (if (t272.length : Int) = (wrap64 ((x0.length : Int) - 1)) then ((toponymlaw17_awake.f k).bind fun t277 => (some t277)) else (some false)) else (some false)))))))
def toponymlaw17_OidUnder.j1 : Nat → List Int → Bool → Option (Bool)
 | 0, _, _ => none
 | k + 1, x0, x49 => if x49 = true then (some false) else ((oid_Above.f k x0).bind fun t266 => (if (t266.length : Int) = 0 then ((toponymlaw17_awake.f k).bind fun t269 => (some t269)) else ((oid_Under.f k x0 t266).bind fun t270 => (if t270 = true then (if (t266.length : Int) = (wrap64 ((x0.length : Int) - 1)) then ((toponymlaw17_awake.f k).bind fun t271 => (some t271)) else (some false)) else (some false)))))
end
def toponymlaw17_OidUnder.f (k : Nat) (l0 : List Int) (l1 : List Int) (l2 : List Int) : Option (Bool) := if (l0.length : Int) > 1000 then (toponymlaw17_OidUnder.j0 k l0 l1 l2 true) else (if (l1.length : Int) > 1000 then (toponymlaw17_OidUnder.j0 k l0 l1 l2 true) else (toponymlaw17_OidUnder.j0 k l0 l1 l2 (decide ((l2.length : Int) > 1000))))
theorem toponymlaw17_OidUnder.mono_l : ∀ k, (∀ y0 y1 y2 y3, LeO (toponymlaw17_OidUnder.j0 k y0 y1 y2 y3) (toponymlaw17_OidUnder.j0 (k + 1) y0 y1 y2 y3)) ∧ (∀ y0 y1, LeO (toponymlaw17_OidUnder.j1 k y0 y1) (toponymlaw17_OidUnder.j1 (k + 1) y0 y1))
 | 0 => ⟨fun _ _ _ _ r h => by simp [toponymlaw17_OidUnder.j0] at h, fun _ _ r h => by simp [toponymlaw17_OidUnder.j1] at h⟩
 | k + 1 => by
  obtain ⟨ih0, ih1⟩ := toponymlaw17_OidUnder.mono_l k
  refine ⟨?_, ?_⟩
  ·intro y0 y1 y2 y3
   unfold toponymlaw17_OidUnder.j0
   repeat' first
   | (with_reducible exact ih0 _ _ _ _)
   | (with_reducible exact ih1 _ _)
   | (with_reducible exact oid_Above.mono _ _)
   | (with_reducible exact oid_Check.mono _ _)
   | (with_reducible exact oid_Cmp.mono _ _ _)
   | (with_reducible exact oid_Under.mono _ _ _)
   | (with_reducible exact toponymlaw17_awake.mono _)
   | (with_reducible exact LeO.refl _)
   | exact ih0 _ _ _ _
   | exact ih1 _ _
   | exact oid_Above.mono _ _
   | exact oid_Check.mono _ _
   | exact oid_Cmp.mono _ _ _
   | exact oid_Under.mono _ _ _
   | exact toponymlaw17_awake.mono _
   | exact LeO.none _
   | refine LeO.ite ?_ ?_
   | refine LeO.bind ?_ (fun _ => ?_)
  ·intro y0 y1
   unfold toponymlaw17_OidUnder.j1
   repeat' first
   | (with_reducible exact ih0 _ _ _ _)
   | (with_reducible exact ih1 _ _)
   | (with_reducible exact oid_Above.mono _ _)
   | (with_reducible exact oid_Check.mono _ _)
   | (with_reducible exact oid_Cmp.mono _ _ _)
   | (with_reducible exact oid_Under.mono _ _ _)
   | (with_reducible exact toponymlaw17_awake.mono _)
   | (with_reducible exact LeO.refl _)
   | exact ih0 _ _ _ _
   | exact ih1 _ _
   | exact oid_Above.mono _ _
   | exact oid_Check.mono _ _
   | exact oid_Cmp.mono _ _ _
   | exact oid_Under.mono _ _ _
   | exact toponymlaw17_awake.mono _
   | exact LeO.none _
   | refine LeO.ite ?_ ?_
   | refine LeO.bind ?_ (fun _ => ?_)
theorem toponymlaw17_OidUnder.mono : ∀ a0 a1 a2 k, LeO (toponymlaw17_OidUnder.f k a0 a1 a2) (toponymlaw17_OidUnder.f (k + 1) a0 a1 a2) := by
 intro a0 a1 a2 k
 obtain ⟨ih0, ih1⟩ := toponymlaw17_OidUnder.mono_l k
 unfold toponymlaw17_OidUnder.f
 repeat' first
   | (with_reducible exact ih0 _ _ _ _)
   | (with_reducible exact ih1 _ _)
   | (with_reducible exact oid_Above.mono _ _)
   | (with_reducible exact oid_Check.mono _ _)
   | (with_reducible exact oid_Cmp.mono _ _ _)
   | (with_reducible exact oid_Under.mono _ _ _)
   | (with_reducible exact toponymlaw17_awake.mono _)
   | (with_reducible exact LeO.refl _)
   | exact ih0 _ _ _ _
   | exact ih1 _ _
   | exact oid_Above.mono _ _
   | exact oid_Check.mono _ _
   | exact oid_Cmp.mono _ _ _
   | exact oid_Under.mono _ _ _
   | exact toponymlaw17_awake.mono _
   | exact LeO.none _
   | refine LeO.ite ?_ ?_
   | refine LeO.bind ?_ (fun _ => ?_)
set_option maxHeartbeats 8000000 in
set_option maxRecDepth 100000 in
theorem toponymlaw17_OidUnder.calls (k : Nat) (A0 : Option Addr) (c0 : Nat) (l0 : List Int) (A1 : Option Addr) (c1 : Nat) (l1 : List Int) (A2 : Option Addr) (c2 : Nat) (l2 : List Int) (r : Bool) (w : World) (hE : Env w) (hr0 : Kd.C (Kd.int .i64) w A0 l0.length l0) (hc0 : l0.length ≤ c0) (hr1 : Kd.C (Kd.int .i64) w A1 l1.length l1) (hc1 : l1.length ≤ c1) (hr2 : Kd.C (Kd.int .i64) w A2 l2.length l2) (hc2 : l2.length ≤ c2) (h : toponymlaw17_OidUnder.f k l0 l1 l2 = some r) (hT_ : r = true) :
  Calls Tryd.prog 8 #[.slice A0 l0.length c0, .slice A1 l1.length c1, .slice A2 l2.length c2] w fun e w' => e = .returned (.bool r) ∧ Below w.heap.size w w' := by
 have hT := aM hT_
 clear hT_
 have HE := aM hE
 clear hE
 have HR0 := aM hr0
 have HC0 := aM hc0
 clear hr0 hc0
 have HR1 := aM hr1
 have HC1 := aM hc1
 clear hr1 hc1
 have HR2 := aM hr2
 have HC2 := aM hc2
 clear hr2 hc2
 have HB := aM (Below.refl w.heap.size w)
 have H := h
 clear h
 unfold toponymlaw17_OidUnder.f at H
 have HC4 := aM H
 clear H
 go_enter Tryd.func8, Tryd.ntmps8
 go_upto_region 1 with (fail)
 go_cut [20] (fun v20 wc => ∃ (kq : Nat) (x20_3 : Bool), v20 = .bool x20_3 ∧ Aside0 (toponymlaw17_OidUnder.j0 kq l0 l1 l2 x20_3 = some r) ∧ Aside0 (kq ≤ k) ∧ Aside0 (Below w.heap.size w wc))
 case first =>
  have H := HC4.out
  clear HC4
  by_cases c5 : (l0.length : Int) > 1000
  ·rw [if_pos c5] at H
   have c5b0 : decide (1000 < (l0.length : Int)) = true := decide_eq_true c5
   have c5b1 : decide (1000 < l0.length) = true := decide_eq_true (by omega)
   clear c5
   (first | rw [c5b0] | (simp only [i64_w, i32_w]; rw [c5b0]) | skip)
   have H' := aM H
   clear H
   go_wp2
   go_meet
   case rel => exact ⟨_, (true), zP, H', ⟨by first | omega | exact Nat.le_refl _⟩, ⟨zB⟩⟩
  ·rw [if_neg c5] at H
   have c5b0 : decide (1000 < (l0.length : Int)) = false := decide_eq_false c5
   have c5b1 : decide (1000 < l0.length) = false := decide_eq_false (by omega)
   clear c5
   (first | rw [c5b0] | (simp only [i64_w, i32_w]; rw [c5b0]) | skip)
   by_cases c6 : (l1.length : Int) > 1000
   ·rw [if_pos c6] at H
    have c6b0 : decide (1000 < (l1.length : Int)) = true := decide_eq_true c6
    have c6b1 : decide (1000 < l1.length) = true := decide_eq_true (by omega)
    clear c6
    have H' := aM H
    clear H
    go_wp2
    go_meet
    case rel => exact ⟨_, (true), zP, H', ⟨by first | omega | exact Nat.le_refl _⟩, ⟨zB⟩⟩
   ·rw [if_neg c6] at H
    have c6b0 : decide (1000 < (l1.length : Int)) = false := decide_eq_false c6
    have c6b1 : decide (1000 < l1.length) = false := decide_eq_false (by omega)
    clear c6
    have H' := aM H
    clear H
    go_wp2
    go_meet
    case rel => exact ⟨_, (decide ((l2.length : Int) > 1000)), zP, H', ⟨by first | omega | exact Nat.le_refl _⟩, ⟨zB⟩⟩
 case rest =>
  clear HC4
  try clear c1
  try clear c2
  try clear p2
  try clear c5
  try clear c5b0
  try clear c5b1
  try clear c6
  try clear c6b0
  try clear c6b1
  obtain ⟨kq, x20_3, rfl, HA, HJ3, HB⟩ := hcut
  cases kq with
  | zero => exact absurd HA.out (by simp [toponymlaw17_OidUnder.j0])
  | succ kj3 =>
   have H := HA.out
   clear HA
   simp only [toponymlaw17_OidUnder.j0] at H
   by_cases c7 : x20_3 = true
   ·subst c7
    rw [if_pos rfl] at H
    obtain ⟨t259, A8, H⟩ := zO H
    obtain rfl := sI H
    go_wp2_with (first | ((with_reducible refine gate_callee (f := 9) rfl ?_); refine goesL_ (some 21) rfl rfl Tryd.func9 zK rfl #[] rfl zM ?_; (with_reducible refine (toponymlaw17_awake.calls kj3  t259 _ (zEnv HE) A8.out).mono ?_); rintro e w9 ⟨rfl, hb⟩; (try clear A8); refine ⟨_, rfl, ?_⟩; replace HB := aM (below_step zB hb); (try clear hb)))
    go_ret
    exact ⟨zE, zB⟩
   ·replace c7 := Bool.eq_false_iff.mpr c7
    subst c7
    rw [if_neg (show ¬ (false = true) by decide)] at H
    obtain ⟨t260, A10, H⟩ := zO H
    by_cases c11 : t260 = true
    ·subst c11
     rw [if_pos rfl] at H
     obtain ⟨t261, A12, H⟩ := zO H
     by_cases c13 : t261 > 0
     ·rw [if_pos c13] at H
      have c13b0 : decide (0 < t261) = true := decide_eq_true c13
      clear c13
      obtain rfl := sI H
      go_wp2_with (first | ((with_reducible refine gate_callee (f := 21) rfl ?_); refine goesL_ (some 24) rfl rfl Tryd.func21 zK rfl #[.slice A0 l0.length c0, .slice A2 l2.length c2] rfl zM ?_; (with_reducible refine (oid_Under.calls kj3 _ _ l0 _ _ l2 true _ ?side1 ?side2 ?side3 ?side4 A10.out).mono ?_); (case side1 => exact zCB HR0); (case side2 => exact HC0.out); (case side3 => exact zCB HR2); (case side4 => exact HC2.out); rintro e w' ⟨rfl, ⟨nd, rfl⟩⟩; (try clear A10); refine ⟨_, rfl, ?_⟩) | ((with_reducible refine gate_callee (f := 19) rfl ?_); refine goesL_ (some 27) rfl rfl Tryd.func19 zK rfl #[.slice A2 l2.length c2, .slice A0 l0.length c0] rfl zM ?_; (with_reducible refine (oid_Cmp.calls kj3 _ _ l2 _ _ l0 t261 _ ?side1 ?side2 ?side3 ?side4 A12.out).mono ?_); (case side1 => exact zCB HR2); (case side2 => exact HC2.out); (case side3 => exact zCB HR0); (case side4 => exact HC0.out); rintro e w' ⟨rfl, ⟨nd, rfl⟩⟩; (try clear A12); refine ⟨_, rfl, ?_⟩))
      go_ret
      exact ⟨zE, zB⟩
     ·rw [if_neg c13] at H
      have c13b0 : decide (0 < t261) = false := decide_eq_false c13
      clear c13
      have HC14 := aM H
      clear H
      go_upto_region 6 with (first | ((with_reducible refine gate_callee (f := 21) rfl ?_); refine goesL_ (some 24) rfl rfl Tryd.func21 zK rfl #[.slice A0 l0.length c0, .slice A2 l2.length c2] rfl zM ?_; (with_reducible refine (oid_Under.calls kj3 _ _ l0 _ _ l2 true _ ?side1 ?side2 ?side3 ?side4 A10.out).mono ?_); (case side1 => exact zCB HR0); (case side2 => exact HC0.out); (case side3 => exact zCB HR2); (case side4 => exact HC2.out); rintro e w' ⟨rfl, ⟨nd, rfl⟩⟩; (try clear A10); refine ⟨_, rfl, ?_⟩) | ((with_reducible refine gate_callee (f := 19) rfl ?_); refine goesL_ (some 27) rfl rfl Tryd.func19 zK rfl #[.slice A2 l2.length c2, .slice A0 l0.length c0] rfl zM ?_; (with_reducible refine (oid_Cmp.calls kj3 _ _ l2 _ _ l0 t261 _ ?side1 ?side2 ?side3 ?side4 A12.out).mono ?_); (case side1 => exact zCB HR2); (case side2 => exact HC2.out); (case side3 => exact zCB HR0); (case side4 => exact HC0.out); rintro e w' ⟨rfl, ⟨nd, rfl⟩⟩; (try clear A12); refine ⟨_, rfl, ?_⟩))
      (try simp only [Act.put, List.setIfInBounds_toArray, List.set_cons_zero, List.set_cons_succ])
      go_cut [49] (fun v49 wc => ∃ (kq : Nat) (x49_13 : Bool), v49 = .bool x49_13 ∧ Aside0 (toponymlaw17_OidUnder.j1 kq l0 x49_13 = some r) ∧ Aside0 (kq ≤ kj3) ∧ Aside0 (Below w.heap.size w wc))
      case first =>
       have H := HC14.out
       clear HC14
       obtain ⟨t262, A15, H⟩ := zO H
       by_cases c16 : t262 ≤ 0
       ·rw [if_pos c16] at H
        have c16b0 : decide (t262 ≤ 0) = true := decide_eq_true c16
        clear c16
        (first | rw [c16b0] | (simp only [i64_w, i32_w]; rw [c16b0]) | skip)
        obtain ⟨t263, A17, H⟩ := zO H
        by_cases c18 : t263 ≤ 0
        ·rw [if_pos c18] at H
         have c18b0 : decide (t263 ≤ 0) = true := decide_eq_true c18
         clear c18
         obtain ⟨t264, A19, H⟩ := zO H
         by_cases c20 : t264 = 0
         ·rw [if_pos c20] at H
          have c20b0 : (t264 == 0) = true := beq_iff_eq.mpr c20
          have c20b1 : (t264 != 0) = false := bne_eq_false_iff_eq.mpr c20
          clear c20
          obtain ⟨t265, A21, H⟩ := zO H
          have H' := aM H
          clear H
          go_wp2_with (first | ((with_reducible refine gate_callee (f := 19) rfl ?_); refine goesL_ (some 31) rfl rfl Tryd.func19 zK rfl #[.slice A2 l2.length c2, .slice A1 l1.length c1] rfl zM ?_; (with_reducible refine (oid_Cmp.calls kj3 _ _ l2 _ _ l1 t262 _ ?side1 ?side2 ?side3 ?side4 A15.out).mono ?_); (case side1 => exact zCB HR2); (case side2 => exact HC2.out); (case side3 => exact zCB HR1); (case side4 => exact HC1.out); rintro e w' ⟨rfl, ⟨nd, rfl⟩⟩; (try clear A15); refine ⟨_, rfl, ?_⟩) | (go_at_call 19; (with_reducible refine (oid_Cmp.calls kj3 _ _ l1 _ _ l0 t263 _ ?side1 ?side2 ?side3 ?side4 A17.out).mono ?_); (case side1 => exact zCB HR1); (case side2 => exact HC1.out); (case side3 => exact zCB HR0); (case side4 => exact HC0.out); rintro e w' ⟨rfl, ⟨nd, rfl⟩⟩; (try clear A17)) | (go_at_call 12; (with_reducible refine (oid_Check.calls kj3 _ _ l1 t264 _ ?side1 ?side2 A19.out).mono ?_); (case side1 => exact zCB HR1); (case side2 => exact HC1.out); rintro e w' ⟨rfl, ⟨nd, rfl⟩⟩) | (go_at_call 21; (with_reducible refine (oid_Under.calls kj3 _ _ l1 _ _ l2 t265 _ ?side1 ?side2 ?side3 ?side4 A21.out).mono ?_); (case side1 => exact zCB HR1); (case side2 => exact HC1.out); (case side3 => exact zCB HR2); (case side4 => exact HC2.out); rintro e w' ⟨rfl, ⟨nd, rfl⟩⟩; (try clear A21)))
          go_meet
          case rel => exact ⟨_, (!t265), zP, H', ⟨by have := HJ3.out; first | omega | exact Nat.le_refl _⟩, ⟨zB⟩⟩
         ·rw [if_neg c20] at H
          have c20b0 : (t264 == 0) = false := beq_eq_false_iff_ne.mpr c20
          have c20b1 : (t264 != 0) = true := bne_iff_ne.mpr c20
          have H' := aM H
          clear H
          go_wp2_with (first | ((with_reducible refine gate_callee (f := 19) rfl ?_); refine goesL_ (some 31) rfl rfl Tryd.func19 zK rfl #[.slice A2 l2.length c2, .slice A1 l1.length c1] rfl zM ?_; (with_reducible refine (oid_Cmp.calls kj3 _ _ l2 _ _ l1 t262 _ ?side1 ?side2 ?side3 ?side4 A15.out).mono ?_); (case side1 => exact zCB HR2); (case side2 => exact HC2.out); (case side3 => exact zCB HR1); (case side4 => exact HC1.out); rintro e w' ⟨rfl, ⟨nd, rfl⟩⟩; (try clear A15); refine ⟨_, rfl, ?_⟩) | (go_at_call 19; (with_reducible refine (oid_Cmp.calls kj3 _ _ l1 _ _ l0 t263 _ ?side1 ?side2 ?side3 ?side4 A17.out).mono ?_); (case side1 => exact zCB HR1); (case side2 => exact HC1.out); (case side3 => exact zCB HR0); (case side4 => exact HC0.out); rintro e w' ⟨rfl, ⟨nd, rfl⟩⟩; (try clear A17)) | (go_at_call 12; (with_reducible refine (oid_Check.calls kj3 _ _ l1 t264 _ ?side1 ?side2 A19.out).mono ?_); (case side1 => exact zCB HR1); (case side2 => exact HC1.out); rintro e w' ⟨rfl, ⟨nd, rfl⟩⟩))
          go_meet
          case rel => exact ⟨_, (false), zP, H', ⟨by have := HJ3.out; first | omega | exact Nat.le_refl _⟩, ⟨zB⟩⟩
        ·rw [if_neg c18] at H
         have c18b0 : decide (t263 ≤ 0) = false := decide_eq_false c18
         clear c18
         have H' := aM H
         clear H
         go_wp2_with (first | ((with_reducible refine gate_callee (f := 19) rfl ?_); refine goesL_ (some 31) rfl rfl Tryd.func19 zK rfl #[.slice A2 l2.length c2, .slice A1 l1.length c1] rfl zM ?_; (with_reducible refine (oid_Cmp.calls kj3 _ _ l2 _ _ l1 t262 _ ?side1 ?side2 ?side3 ?side4 A15.out).mono ?_); (case side1 => exact zCB HR2); (case side2 => exact HC2.out); (case side3 => exact zCB HR1); (case side4 => exact HC1.out); rintro e w' ⟨rfl, ⟨nd, rfl⟩⟩; (try clear A15); refine ⟨_, rfl, ?_⟩) | (go_at_call 19; (with_reducible refine (oid_Cmp.calls kj3 _ _ l1 _ _ l0 t263 _ ?side1 ?side2 ?side3 ?side4 A17.out).mono ?_); (case side1 => exact zCB HR1); (case side2 => exact HC1.out); (case side3 => exact zCB HR0); (case side4 => exact HC0.out); rintro e w' ⟨rfl, ⟨nd, rfl⟩⟩; (try clear A17)))
         go_meet
         case rel => exact ⟨_, (false), zP, H', ⟨by have := HJ3.out; first | omega | exact Nat.le_refl _⟩, ⟨zB⟩⟩
       ·rw [if_neg c16] at H
        have c16b0 : decide (t262 ≤ 0) = false := decide_eq_false c16
        clear c16
        (first | rw [c16b0] | (simp only [i64_w, i32_w]; rw [c16b0]) | skip)
        have H' := aM H
        clear H
        go_wp2_with (first | ((with_reducible refine gate_callee (f := 19) rfl ?_); refine goesL_ (some 31) rfl rfl Tryd.func19 zK rfl #[.slice A2 l2.length c2, .slice A1 l1.length c1] rfl zM ?_; (with_reducible refine (oid_Cmp.calls kj3 _ _ l2 _ _ l1 t262 _ ?side1 ?side2 ?side3 ?side4 A15.out).mono ?_); (case side1 => exact zCB HR2); (case side2 => exact HC2.out); (case side3 => exact zCB HR1); (case side4 => exact HC1.out); rintro e w' ⟨rfl, ⟨nd, rfl⟩⟩; (try clear A15); refine ⟨_, rfl, ?_⟩))
        go_meet
        case rel => exact ⟨_, (false), zP, H', ⟨by have := HJ3.out; first | omega | exact Nat.le_refl _⟩, ⟨zB⟩⟩
      case rest =>
       clear HC14
       try clear c1
       try clear c2
       try clear p2
       try clear c5
       try clear c5b0
       try clear c5b1
       try clear c6
       try clear c6b0
       try clear c6b1
       try clear p6
       try clear c7
       try clear c8
       try clear c9
       try clear c11
       try clear c13
       try clear c13b0
       try clear c16
       try clear c16b0
       try clear c18
       try clear c18b0
       try clear c19
       try clear c20
       try clear c20b0
       try clear c20b1
       try clear c21
       try clear p2
       obtain ⟨kq, x49_13, rfl, HA, HJ13, HB⟩ := hcut
       cases kq with
       | zero => exact absurd HA.out (by simp [toponymlaw17_OidUnder.j1])
       | succ kj13 =>
        have H := HA.out
        clear HA
        simp only [toponymlaw17_OidUnder.j1] at H
        by_cases c22 : x49_13 = true
        ·subst c22
         rw [if_pos rfl] at H
         obtain rfl := sI H
         go_wp2
         go_ret
         exact ⟨zE, zB⟩
        ·replace c22 := Bool.eq_false_iff.mpr c22
         subst c22
         rw [if_neg (show ¬ (false = true) by decide)] at H
         obtain ⟨t266, A23, H⟩ := zO H
         by_cases c24 : (t266.length : Int) = 0
         ·rw [if_pos c24] at H
          have c24b0 : ((t266.length : Int) == 0) = true := beq_iff_eq.mpr c24
          have c24b1 : ((t266.length : Int) != 0) = false := bne_eq_false_iff_eq.mpr c24
          clear c24
          obtain ⟨t269, A25, H⟩ := zO H
          obtain rfl := sI H
          go_wp2_with (first | ((with_reducible refine gate_callee (f := 15) rfl ?_); refine goesL_ (some 51) rfl rfl Tryd.func15 zK rfl #[.slice A0 l0.length c0] rfl zM ?_; (with_reducible refine (oid_Above.calls kj13 _ _ l0 t266 _ ?side1 ?side2 A23.out).mono ?_); (case side1 => exact zCB HR0); (case side2 => exact HC0.out); rintro e w26 ⟨v267, rfl, ho0, hb⟩; (try clear A23); refine ⟨_, rfl, ?_⟩; have n_ := zI (aM (Kd.V_lower (Kd.V_mono (ok' := fun k_ => True) ho0 (fun k_ hk_ => trivial)) (below_size zB))) (aM (below_step zB hb)); clear HB; obtain ⟨HO268, HB⟩ := n_; (try clear hb); (try clear ho0); obtain ⟨Ao27, co27, rfl⟩ := Kd.V_slice HO268.out) | (go_at_call 9; (with_reducible refine (toponymlaw17_awake.calls kj13  t269 _ (zEnv HE) A25.out).mono ?_); rintro e w28 ⟨rfl, hb⟩; (try clear A25); have n_ := zI (aM (Kd.V_below (zV HO268) hb)) (aM (below_step zB hb)); clear HO268 HB; obtain ⟨HO268, HB⟩ := n_; (try clear hb)))
          go_ret
          exact ⟨zE, zB⟩
         ·rw [if_neg c24] at H
          have c24b0 : ((t266.length : Int) == 0) = false := beq_eq_false_iff_ne.mpr c24
          have c24b1 : ((t266.length : Int) != 0) = true := bne_iff_ne.mpr c24
          have c24b2 : ¬ (t266 = []) := fun h_ => c24 (by rw [h_]; rfl)
          obtain ⟨t270, A29, H⟩ := zO H
          by_cases c30 : t270 = true
          ·subst c30
           rw [if_pos rfl] at H
           by_cases c31 : (t266.length : Int) = (wrap64 ((l0.length : Int) - 1))
           ·rw [if_pos c31] at H
            have c31b0 : ((t266.length : Int) == (wrap64 ((l0.length : Int) - 1))) = true := beq_iff_eq.mpr c31
            have c31b1 : ((t266.length : Int) != (wrap64 ((l0.length : Int) - 1))) = false := bne_eq_false_iff_eq.mpr c31
            clear c31
            obtain ⟨t271, A32, H⟩ := zO H
            obtain rfl := sI H
            go_wp2_with (first | ((with_reducible refine gate_callee (f := 15) rfl ?_); refine goesL_ (some 51) rfl rfl Tryd.func15 zK rfl #[.slice A0 l0.length c0] rfl zM ?_; (with_reducible refine (oid_Above.calls kj13 _ _ l0 t266 _ ?side1 ?side2 A23.out).mono ?_); (case side1 => exact zCB HR0); (case side2 => exact HC0.out); rintro e w33 ⟨v267, rfl, ho0, hb⟩; (try clear A23); refine ⟨_, rfl, ?_⟩; have n_ := zI (aM (Kd.V_lower (Kd.V_mono (ok' := fun k_ => True) ho0 (fun k_ hk_ => trivial)) (below_size zB))) (aM (below_step zB hb)); clear HB; obtain ⟨HO268, HB⟩ := n_; (try clear hb); (try clear ho0); obtain ⟨Ao34, co34, rfl⟩ := Kd.V_slice HO268.out) | (go_at_call 21; (with_reducible refine (oid_Under.calls kj13 _ _ l0 _ _ t266 true _ ?side1 ?side2 ?side3 ?side4 A29.out).mono ?_); (case side1 => exact zCB HR0); (case side2 => exact HC0.out); (case side3 => exact zC (Kd.V_reads' HO268.out).2.2); (case side4 => exact (Kd.V_reads' HO268.out).2.1); rintro e w' ⟨rfl, ⟨nd, rfl⟩⟩; (try clear A29)) | (go_at_call 9; (with_reducible refine (toponymlaw17_awake.calls kj13  t271 _ (zEnv HE) A32.out).mono ?_); rintro e w35 ⟨rfl, hb⟩; (try clear A32); have n_ := zI (aM (Kd.V_below (zV HO268) hb)) (aM (below_step zB hb)); clear HO268 HB; obtain ⟨HO268, HB⟩ := n_; (try clear hb)))
            go_ret
            exact ⟨zE, zB⟩
           ·rw [if_neg c31] at H
            exact absurd ((sI H).trans hT.out) (by decide)
          ·replace c30 := Bool.eq_false_iff.mpr c30
           subst c30
           rw [if_neg (show ¬ (false = true) by decide)] at H
           exact absurd ((sI H).trans hT.out) (by decide)
    ·replace c11 := Bool.eq_false_iff.mpr c11
     subst c11
     rw [if_neg (show ¬ (false = true) by decide)] at H
     obtain ⟨t272, A40, H⟩ := zO H
     by_cases c41 : (t272.length : Int) = 0
     ·rw [if_pos c41] at H
      have c41b0 : ((t272.length : Int) == 0) = true := beq_iff_eq.mpr c41
      have c41b1 : ((t272.length : Int) != 0) = false := bne_eq_false_iff_eq.mpr c41
      clear c41
      obtain ⟨t275, A42, H⟩ := zO H
      obtain rfl := sI H
      go_wp2_with (first | ((with_reducible refine gate_callee (f := 21) rfl ?_); refine goesL_ (some 24) rfl rfl Tryd.func21 zK rfl #[.slice A0 l0.length c0, .slice A2 l2.length c2] rfl zM ?_; (with_reducible refine (oid_Under.calls kj3 _ _ l0 _ _ l2 false _ ?side1 ?side2 ?side3 ?side4 A10.out).mono ?_); (case side1 => exact zCB HR0); (case side2 => exact HC0.out); (case side3 => exact zCB HR2); (case side4 => exact HC2.out); rintro e w' ⟨rfl, ⟨nd, rfl⟩⟩; (try clear A10); refine ⟨_, rfl, ?_⟩) | ((with_reducible refine gate_callee (f := 15) rfl ?_); refine goesL_ (some 51) rfl rfl Tryd.func15 zK rfl #[.slice A0 l0.length c0] rfl zM ?_; (with_reducible refine (oid_Above.calls kj3 _ _ l0 t272 _ ?side1 ?side2 A40.out).mono ?_); (case side1 => exact zCB HR0); (case side2 => exact HC0.out); rintro e w43 ⟨v273, rfl, ho0, hb⟩; (try clear A40); refine ⟨_, rfl, ?_⟩; have n_ := zI (aM (Kd.V_lower (Kd.V_mono (ok' := fun k_ => True) ho0 (fun k_ hk_ => trivial)) (below_size zB))) (aM (below_step zB hb)); clear HB; obtain ⟨HO274, HB⟩ := n_; (try clear hb); (try clear ho0); obtain ⟨Ao44, co44, rfl⟩ := Kd.V_slice HO274.out) | (go_at_call 9; (with_reducible refine (toponymlaw17_awake.calls kj3  t275 _ (zEnv HE) A42.out).mono ?_); rintro e w45 ⟨rfl, hb⟩; (try clear A42); have n_ := zI (aM (Kd.V_below (zV HO274) hb)) (aM (below_step zB hb)); clear HO274 HB; obtain ⟨HO274, HB⟩ := n_; (try clear hb)))
      go_ret
      exact ⟨zE, zB⟩
     ·rw [if_neg c41] at H
      have c41b0 : ((t272.length : Int) == 0) = false := beq_eq_false_iff_ne.mpr c41
      have c41b1 : ((t272.length : Int) != 0) = true := bne_iff_ne.mpr c41
      have c41b2 : ¬ (t272 = []) := fun h_ => c41 (by rw [h_]; rfl)
      obtain ⟨t276, A46, H⟩ := zO H
      by_cases c47 : t276 = true
      ·subst c47
       rw [if_pos rfl] at H
       by_cases c48 : (t272.length : Int) = (wrap64 ((l0.length : Int) - 1))
       ·rw [if_pos c48] at H
        have c48b0 : ((t272.length : Int) == (wrap64 ((l0.length : Int) - 1))) = true := beq_iff_eq.mpr c48
        have c48b1 : ((t272.length : Int) != (wrap64 ((l0.length : Int) - 1))) = false := bne_eq_false_iff_eq.mpr c48
        clear c48
        obtain ⟨t277, A49, H⟩ := zO H
        obtain rfl := sI H
        go_wp2_with (first | ((with_reducible refine gate_callee (f := 21) rfl ?_); refine goesL_ (some 24) rfl rfl Tryd.func21 zK rfl #[.slice A0 l0.length c0, .slice A2 l2.length c2] rfl zM ?_; (with_reducible refine (oid_Under.calls kj3 _ _ l0 _ _ l2 false _ ?side1 ?side2 ?side3 ?side4 A10.out).mono ?_); (case side1 => exact zCB HR0); (case side2 => exact HC0.out); (case side3 => exact zCB HR2); (case side4 => exact HC2.out); rintro e w' ⟨rfl, ⟨nd, rfl⟩⟩; (try clear A10); refine ⟨_, rfl, ?_⟩) | ((with_reducible refine gate_callee (f := 15) rfl ?_); refine goesL_ (some 51) rfl rfl Tryd.func15 zK rfl #[.slice A0 l0.length c0] rfl zM ?_; (with_reducible refine (oid_Above.calls kj3 _ _ l0 t272 _ ?side1 ?side2 A40.out).mono ?_); (case side1 => exact zCB HR0); (case side2 => exact HC0.out); rintro e w50 ⟨v273, rfl, ho0, hb⟩; (try clear A40); refine ⟨_, rfl, ?_⟩; have n_ := zI (aM (Kd.V_lower (Kd.V_mono (ok' := fun k_ => True) ho0 (fun k_ hk_ => trivial)) (below_size zB))) (aM (below_step zB hb)); clear HB; obtain ⟨HO274, HB⟩ := n_; (try clear hb); (try clear ho0); obtain ⟨Ao51, co51, rfl⟩ := Kd.V_slice HO274.out) | (go_at_call 21; (with_reducible refine (oid_Under.calls kj3 _ _ l0 _ _ t272 true _ ?side1 ?side2 ?side3 ?side4 A46.out).mono ?_); (case side1 => exact zCB HR0); (case side2 => exact HC0.out); (case side3 => exact zC (Kd.V_reads' HO274.out).2.2); (case side4 => exact (Kd.V_reads' HO274.out).2.1); rintro e w' ⟨rfl, ⟨nd, rfl⟩⟩; (try clear A46)) | (go_at_call 9; (with_reducible refine (toponymlaw17_awake.calls kj3  t277 _ (zEnv HE) A49.out).mono ?_); rintro e w52 ⟨rfl, hb⟩; (try clear A49); have n_ := zI (aM (Kd.V_below (zV HO274) hb)) (aM (below_step zB hb)); clear HO274 HB; obtain ⟨HO274, HB⟩ := n_; (try clear hb)))
        go_ret
        exact ⟨zE, zB⟩
       ·rw [if_neg c48] at H
        exact absurd ((sI H).trans hT.out) (by decide)
      ·replace c47 := Bool.eq_false_iff.mpr c47
       subst c47
       rw [if_neg (show ¬ (false = true) by decide)] at H
       exact absurd ((sI H).trans hT.out) (by decide)
/-- THE ONE PURE STATEMENT of toponymlaw17_OidUnder: yours. -/
def toponymlaw17_OidUnder.Pure : Prop := ∀ (l0 : List Int) (l1 : List Int) (l2 : List Int), l0.length ≤ maxLen → l0.length * 8 ≤ 140737488351232 → (∀ x ∈ l0, (Lit.int .i64 x).wf = true) → l1.length ≤ maxLen → l1.length * 8 ≤ 140737488351232 → (∀ x ∈ l1, (Lit.int .i64 x).wf = true) → l2.length ≤ maxLen → l2.length * 8 ≤ 140737488351232 → (∀ x ∈ l2, (Lit.int .i64 x).wf = true) → ∃ k, toponymlaw17_OidUnder.f k l0 l1 l2 = some true
theorem toponymlaw17_OidUnder.walk (P : toponymlaw17_OidUnder.Pure) (a0 : Option Addr) (len0 cap0 : Nat) (z0 : List Int) (a1 : Option Addr) (len1 cap1 : Nat) (z1 : List Int) (a2 : Option Addr) (len2 cap2 : Nat) (z2 : List Int) (w : World) (hE : Env w) (w0 : (a0 = none ∧ len0 = 0 ∧ cap0 = 0 ∧ z0 = []) ∨ ∃ x, a0 = some x ∧ len0 ≤ cap0 ∧ cap0 ≤ maxLen ∧ z0.length = cap0 ∧ (∀ i, i < z0.length → w.cell? (x.add i) = some (.int .i64 (z0.getD i 0))) ∧ ∀ n ∈ z0, (Lit.int .i64 n).wf = true) (y0 : len0 * 8 ≤ 140737488351232) (w1 : (a1 = none ∧ len1 = 0 ∧ cap1 = 0 ∧ z1 = []) ∨ ∃ x, a1 = some x ∧ len1 ≤ cap1 ∧ cap1 ≤ maxLen ∧ z1.length = cap1 ∧ (∀ i, i < z1.length → w.cell? (x.add i) = some (.int .i64 (z1.getD i 0))) ∧ ∀ n ∈ z1, (Lit.int .i64 n).wf = true) (y1 : len1 * 8 ≤ 140737488351232) (w2 : (a2 = none ∧ len2 = 0 ∧ cap2 = 0 ∧ z2 = []) ∨ ∃ x, a2 = some x ∧ len2 ≤ cap2 ∧ cap2 ≤ maxLen ∧ z2.length = cap2 ∧ (∀ i, i < z2.length → w.cell? (x.add i) = some (.int .i64 (z2.getD i 0))) ∧ ∀ n ∈ z2, (Lit.int .i64 n).wf = true) (y2 : len2 * 8 ≤ 140737488351232) :
  Calls Tryd.prog 8 #[.slice a0 len0 cap0, .slice a1 len1 cap1, .slice a2 len2 cap2] w fun e w' => e = .returned (.bool true) ∧ Below w.heap.size w w' := by
 obtain ⟨l0, rfl, hr0, hm0, hw0, hc0⟩ := ReadsInt.ofRowC w0
 obtain ⟨l1, rfl, hr1, hm1, hw1, hc1⟩ := ReadsInt.ofRowC w1
 obtain ⟨l2, rfl, hr2, hm2, hw2, hc2⟩ := ReadsInt.ofRowC w2
 obtain ⟨k, h⟩ := P l0 l1 l2 hm0 y0 hw0 hm1 y1 hw1 hm2 y2 hw2
 refine (toponymlaw17_OidUnder.calls k _ _ l0 _ _ l1 _ _ l2 true w hE (Kd.C_of_reads (d := (0 : Int)) (h1 := fun _ => rfl) hr0) hc0 (Kd.C_of_reads (d := (0 : Int)) (h1 := fun _ => rfl) hr1) hc1 (Kd.C_of_reads (d := (0 : Int)) (h1 := fun _ => rfl) hr2) hc2 h rfl).mono ?_
 rintro e w' ⟨rfl, hd⟩
 exact ⟨rfl, hd⟩

end Go.Proofs.YtmnfdoldoomcgaaDoor.P
