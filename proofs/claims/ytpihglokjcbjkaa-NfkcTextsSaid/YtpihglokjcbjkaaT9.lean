-- Printed by wip/mk.py (this session's driver over the kit's print) and from wip/manual.
import Derived.Test.YtpihglokjcbjkaaT0
import Derived.Test.YtpihglokjcbjkaaT6
import Derived.Test.YtpihglokjcbjkaaT7
namespace Go.Proofs.Ytpihglokjcbjkaa.P
open Go.RowKit Go.Proofs.YtpihglokjcbjkaaW.PrintWords Go.Proofs.YtpihglokjcbjkaaW.PrintLast Go.Proofs.YtpihglokjcbjkaaW.PrintMore
attribute [local go_sem] max2_int min2_int max_two min_two max_three min_three max_four min_four   -- for this text's walks alone
set_option linter.unusedVariables false
set_option linter.unusedSimpArgs false

/-! ### toponymref06_Runs: function 37 -/
def toponymref06_Runs.l0 : Nat → List Int → List (List Int) → List Int → Int → Option ((List (List Int)))
 | 0, _, _, _, _ => none
 | k + 1, x0, x3, x4, x5 => if x5 < (x0.length : Int) then (if 0 ≤ x5 then ((toponymref03_Class.f k (rd x0 x5)).bind fun t403 => (if t403 = 0 then (if (x4.length : Int) > 0 then (if x3.length < 5864062014805 then (if ([] : List Int).length < 35184372088832 then (toponymref06_Runs.l0 k x0 (x3 ++ [x4]) (([] : List Int) ++ [rd x0 x5]) (wrap64 (x5 + 1))) else (none)) else (none)) else (if x4.length < 35184372088832 then (toponymref06_Runs.l0 k x0 x3 (x4 ++ [rd x0 x5]) (wrap64 (x5 + 1))) else (none))) else (if x4.length < 35184372088832 then (toponymref06_Runs.l0 k x0 x3 (x4 ++ [rd x0 x5]) (wrap64 (x5 + 1))) else (none)))) else (none)) else (if (x4.length : Int) > 0 then (if x3.length < 5864062014805 then (some (x3 ++ [x4])) else (none)) else (some x3))
def toponymref06_Runs.f (k : Nat) (l0 : List Int) : Option ((List (List Int))) := toponymref06_Runs.l0 k l0 ([] : List (List Int)) ([] : List Int) 0
theorem toponymref06_Runs.mono_l : ∀ k, (∀ y0 y1 y2 y3, LeO (toponymref06_Runs.l0 k y0 y1 y2 y3) (toponymref06_Runs.l0 (k + 1) y0 y1 y2 y3))
 | 0 => fun _ _ _ _ r h => by simp [toponymref06_Runs.l0] at h
 | k + 1 => by
  have ih0 := toponymref06_Runs.mono_l k
  ·intro y0 y1 y2 y3
   unfold toponymref06_Runs.l0
   repeat' first
   | (with_reducible exact ih0 _ _ _ _)
   | (with_reducible exact toponymref03_Class.mono _ _)
   | (with_reducible exact LeO.refl _)
   | exact ih0 _ _ _ _
   | exact toponymref03_Class.mono _ _
   | exact LeO.none _
   | refine LeO.ite ?_ ?_
   | refine LeO.bind ?_ (fun _ => ?_)
theorem toponymref06_Runs.mono : ∀ a0 k, LeO (toponymref06_Runs.f k a0) (toponymref06_Runs.f (k + 1) a0) := by
 intro a0 k
 have ih0 := toponymref06_Runs.mono_l k
 unfold toponymref06_Runs.f
 repeat' first
   | (with_reducible exact ih0 _ _ _ _)
   | (with_reducible exact toponymref03_Class.mono _ _)
   | (with_reducible exact LeO.refl _)
   | exact ih0 _ _ _ _
   | exact toponymref03_Class.mono _ _
   | exact LeO.none _
   | refine LeO.ite ?_ ?_
   | refine LeO.bind ?_ (fun _ => ?_)
set_option maxHeartbeats 8000000 in
set_option maxRecDepth 100000 in
theorem toponymref06_Runs.calls (k : Nat) (A0 : Option Addr) (c0 : Nat) (l0 : List Int) (r : List (List Int)) (w : World) (hr0 : Kd.C (Kd.int .i32) w A0 l0.length l0) (hc0 : l0.length ≤ c0) (h : toponymref06_Runs.f k l0 = some r) :
  Calls Try.prog 37 #[.slice A0 l0.length c0] w fun e w' => ∃ v0_ : Value, e = .returned (v0_) ∧ Kd.S (Kd.slice 21 (Kd.int .i32)) 22 w' w.heap.size (fun _ => True) v0_ r ∧ Below w.heap.size w w' := by
 have HR0 := aM hr0
 have HC0 := aM hc0
 clear hr0 hc0
 have HB := aM (Below.refl w.heap.size w)
 have H : (toponymref06_Runs.l0 k l0 ([] : List (List Int)) ([] : List Int) 0) = some r := h
 clear h
 have H' := aM H
 clear H
 go_enter Try.func37, Try.ntmps37
 go_wp2
 go_loopg [3, 4, 5] k (fun kq v3 v4 v5 w' => ∃ (x3_1 : List (List Int)) (x4_1 : List Int) (x5_1 : Int), v5 = .int .i64 x5_1 ∧ Aside0 (toponymref06_Runs.l0 kq l0 x3_1 x4_1 x5_1 = some r) ∧ Aside0 (kq ≤ k) ∧ Aside0 (Kd.S (Kd.slice 21 (Kd.int .i32)) 22 w' w.heap.size (fun k_ => some k_ ≠ (v4 : Value).ownBlock) v3 x3_1) ∧ Aside0 (Kd.R (Kd.int .i32) 21 w' w.heap.size (fun _ => True) v4 x4_1) ∧ Aside0 (Below w.heap.size w w'))
 case atStart => exact ⟨(([] : List (List Int))), (([] : List Int)), (0), zP, H', ⟨Nat.le_refl _⟩, ⟨by first | exact Kd.S_nil _ _ _ _ _ | exact Kd.N_nil _ _ _ _ _ | exact Kd.V_nil _ _ _ _ _ | exact Kd.Q_nil _ _ _ _ _ | exact Kd.R_nil _ _ _ _ _⟩, ⟨zL⟩, ⟨zB⟩⟩
 case round =>
  clear H'
  obtain ⟨x3_1, x4_1, x5_1, rfl, HA, HK1, HO_3, HO_4, HB⟩ := hrel
  cases gk with
  | zero => exact absurd HA.out (by simp [toponymref06_Runs.l0])
  | succ k1 =>
   have H := HA.out
   clear HA
   simp only [toponymref06_Runs.l0] at H
   by_cases c2 : x5_1 < (l0.length : Int)
   ·rw [if_pos c2] at H
    have c2b0 : decide (x5_1 < (l0.length : Int)) = true := decide_eq_true c2
    clear c2
    by_cases c3 : 0 ≤ x5_1
    ·rw [if_pos c3] at H
     have c3b0 : decide (0 ≤ x5_1) = true := decide_eq_true c3
     clear c3
     obtain ⟨t403, A4, H⟩ := zO H
     by_cases c5 : t403 = 0
     ·rw [if_pos c5] at H
      have c5b0 : (t403 == 0) = true := beq_iff_eq.mpr c5
      have c5b1 : (t403 != 0) = false := bne_eq_false_iff_eq.mpr c5
      clear c5
      by_cases c6 : (x4_1.length : Int) > 0
      ·rw [if_pos c6] at H
       have c6b0 : decide (0 < (x4_1.length : Int)) = true := decide_eq_true c6
       have c6b1 : decide (0 < x4_1.length) = true := decide_eq_true (by omega)
       clear c6
       by_cases c7 : x3_1.length < 5864062014805
       ·rw [if_pos c7] at H
        have LMc7 := aM c7
        clear c7
        obtain ⟨y404, hy404⟩ : ∃ y_ : List (List Int), y_ = (x3_1 ++ [x4_1]) := ⟨_, rfl⟩
        replace H : (if ([] : List Int).length < 35184372088832 then (toponymref06_Runs.l0 k1 l0 y404 (([] : List Int) ++ [rd l0 x5_1]) (wrap64 (x5_1 + 1))) else (none)) = some r := zY hy404 H
        have Ny404 := aM hy404
        clear hy404
        by_cases c8 : ([] : List Int).length < 35184372088832
        ·rw [if_pos c8] at H
         have LMc8 := aM c8
         clear c8
         obtain ⟨y408, hy408⟩ : ∃ y_ : List Int, y_ = (([] : List Int) ++ [rd l0 x5_1]) := ⟨_, rfl⟩
         replace H : (toponymref06_Runs.l0 k1 l0 y404 y408 (wrap64 (x5_1 + 1))) = some r := zY hy408 H
         have Ny408 := aM hy408
         clear hy408
         have H' := aM H
         clear H
         have p402 : 0 ≤ (x5_1 : Int) := zoA
         have q402 : x5_1 < (l0.length : Int) := zoA
         obtain ⟨ad402, e402, hx402_0⟩ := Kd.at_int HR0.out x5_1 p402 q402
         cases e402
         replace hx402_0 := (HB.out.cell (World.block_lt_of_cell? w _ hx402_0)).trans hx402_0
         replace p402 := eq_true p402
         replace q402 := eq_true q402
         go_wp2_with (first | ((with_reducible refine gate_callee (f := 34) rfl ?_); refine goesL_ (some 16) rfl rfl Try.func34 zK rfl #[.int .i32 (rd l0 x5_1)] rfl zM ?_; (with_reducible refine (toponymref03_Class.calls k1 (rd l0 x5_1) t403 _ A4.out).mono ?_); rintro e w9 ⟨rfl, hb⟩; refine ⟨_, rfl, ?_⟩; have n_ := zI (aM (Kd.S_below (zS HO_3) hb)) (zI (aM (Kd.R_below (zR HO_4) hb)) (aM (below_step zB hb))); clear HO_3 HO_4 HB; obtain ⟨HO_3, HO_4, HB⟩ := n_; (try clear hb); (try clear hk); obtain ⟨Ao10, co10, rfl⟩ := Kd.R_slice HO_4.out) | ((with_reducible refine gate_builtin (b := .append) (xs := #[.tmp 23, .tmp 25]) rfl ?_); (try (refine gate_guard (by rfl) ?_; dsimp only)); at_builtin; refine Kd.S_append (Kd.slice 21 (Kd.int .i32)) (w0 := w) w.heap.size rfl (.tmp 23) (.tmp 25) 56 22 (.slice none 0 0) 24 rfl Try.underlying56 info22 rfl (by decide) (by omega) u3 x3_1 x4_1 [.slice Ao10 x4_1.length co10] (fun _ => True) (fun k_ => some k_ = (.slice Ao10 x4_1.length co10 : Value).ownBlock) rfl rfl ?aP (fun k_ hk_ => ((Kd.R_mono (ok' := fun k_ => ((fun _ => True)) k_ ∧ some k_ ≠ (u3 : Value).ownBlock) (Kd.R_apart' (HO_4.out) (Kd.S_typed HO_3.out) (by decide)) (fun k_ hk => ⟨trivial, hk.2⟩))).1 k_ hk_.symm) ?aF ?aO ?aB ?aS ?aL ?_; (case aP => exact Kd.M_row (Kd.R_mono (Kd.R_tight rfl (Kd.R_mono (ok' := fun k_ => ((fun _ => True)) k_ ∧ some k_ ≠ (u3 : Value).ownBlock) (Kd.R_apart' (HO_4.out) (Kd.S_typed HO_3.out) (by decide)) (fun k_ hk => ⟨trivial, hk.2⟩))) (fun _ h_ => h_))); (case aB => exact zB); (case aF => exact (fun _ _ => trivial)); (case aO => exact (by (with_reducible repeat (first | apply Kd.S_alloc | apply Kd.S_drewN | apply Kd.S_drew)); exact Kd.S_mono HO_3.out (fun k_ hk => ⟨trivial, fun e_ => hk e_⟩))); (case aS => exact (below_size zB)); (case aL => have := LMc7.out; omega); intro v405 w11 ho hb hg hat; rw [← Ny404.out] at ho; have n_ := zI (aM (hb)) (aM (ho)); clear HB HO_3 HO_4; obtain ⟨HB, HO406⟩ := n_; clear ho hb hg hat; have p407 : 0 ≤ (x5_1 : Int) := zoA; have q407 : x5_1 < (l0.length : Int) := zoA; obtain ⟨ad407, e407, hx407_0⟩ := Kd.at_int HR0.out x5_1 p407 q407; obtain rfl : ad402 = ad407 := (by injection e407); replace hx407_0 := (HB.out.cell (World.block_lt_of_cell? w _ hx407_0)).trans hx407_0; replace p407 := eq_true p407; replace q407 := eq_true q407) | ((with_reducible refine gate_builtin (b := .append) (xs := #[.tmp 27, .tmp 32]) rfl ?_); (try (refine gate_guard (by rfl) ?_; dsimp only)); at_builtin; refine Kd.R_append (Kd.int .i32) (w0 := w) w.heap.size rfl (.tmp 27) (.tmp 32) 22 21 (.int .i32 0) 4 rfl Try.underlying22 info21 rfl (by decide) (by omega) (.slice none 0 0) ([] : List Int) (rd l0 x5_1) [.int .i32 (rd l0 x5_1)] (fun _ => True) (fun _ => False) rfl rfl ?aP (fun _ hk => hk.elim) ?aF ?aO ?aB ?aS ?aL ?_; (case aP => exact rfl); (case aB => exact zB); (case aF => exact (fun _ _ => trivial)); (case aO => exact ((Kd.R_nil _ _ _ _ (fun _ => True)))); (case aS => exact (below_size zB)); (case aL => have := LMc8.out; omega); intro v409 w12 ho hb hg hat; rw [← Ny408.out] at ho; have n_ := zI (aM (Kd.S_after (Kd.S_apart_nil (zS HO406)) hg hat)) (zI (aM (hb)) (aM (ho))); clear HO406 HB; obtain ⟨HO406, HB, HO410⟩ := n_; clear ho hb hg hat))
         go_roundg k1
         case measure => have := HK1.out; omega
         case rel => exact ⟨(y404), (y408), (wrap64 (x5_1 + 1)), zP, H', ⟨by have := HK1.out; omega⟩, ⟨by (with_reducible repeat (first | apply Kd.S_alloc | apply Kd.S_drewN | apply Kd.S_drew)); exact Kd.S_mono HO406.out (fun _ hk => hk.2)⟩, ⟨zR HO410⟩, ⟨zB⟩⟩
        ·rw [if_neg c8] at H
         exact absurd H (by simp)
       ·rw [if_neg c7] at H
        exact absurd H (by simp)
      ·rw [if_neg c6] at H
       have c6b0 : decide (0 < (x4_1.length : Int)) = false := decide_eq_false c6
       have c6b1 : decide (0 < x4_1.length) = false := decide_eq_false (by omega)
       clear c6
       by_cases c13 : x4_1.length < 35184372088832
       ·rw [if_pos c13] at H
        have LMc13 := aM c13
        clear c13
        obtain ⟨y412, hy412⟩ : ∃ y_ : List Int, y_ = (x4_1 ++ [rd l0 x5_1]) := ⟨_, rfl⟩
        replace H : (toponymref06_Runs.l0 k1 l0 x3_1 y412 (wrap64 (x5_1 + 1))) = some r := zY hy412 H
        have Ny412 := aM hy412
        clear hy412
        have H' := aM H
        clear H
        have p402 : 0 ≤ (x5_1 : Int) := zoA
        have q402 : x5_1 < (l0.length : Int) := zoA
        obtain ⟨ad402, e402, hx402_0⟩ := Kd.at_int HR0.out x5_1 p402 q402
        cases e402
        replace hx402_0 := (HB.out.cell (World.block_lt_of_cell? w _ hx402_0)).trans hx402_0
        replace p402 := eq_true p402
        replace q402 := eq_true q402
        go_wp2_with (first | ((with_reducible refine gate_callee (f := 34) rfl ?_); refine goesL_ (some 16) rfl rfl Try.func34 zK rfl #[.int .i32 (rd l0 x5_1)] rfl zM ?_; (with_reducible refine (toponymref03_Class.calls k1 (rd l0 x5_1) t403 _ A4.out).mono ?_); rintro e w14 ⟨rfl, hb⟩; refine ⟨_, rfl, ?_⟩; have n_ := zI (aM (Kd.S_below (zS HO_3) hb)) (zI (aM (Kd.R_below (zR HO_4) hb)) (aM (below_step zB hb))); clear HO_3 HO_4 HB; obtain ⟨HO_3, HO_4, HB⟩ := n_; (try clear hb); (try clear hk); obtain ⟨Ao15, co15, rfl⟩ := Kd.R_slice HO_4.out; have p411 : 0 ≤ (x5_1 : Int) := zoA; have q411 : x5_1 < (l0.length : Int) := zoA; obtain ⟨ad411, e411, hx411_0⟩ := Kd.at_int HR0.out x5_1 p411 q411; obtain rfl : ad402 = ad411 := (by injection e411); replace hx411_0 := (HB.out.cell (World.block_lt_of_cell? w _ hx411_0)).trans hx411_0; replace p411 := eq_true p411; replace q411 := eq_true q411) | ((with_reducible refine gate_builtin (b := .append) (xs := #[.tmp 27, .tmp 32]) rfl ?_); (try (refine gate_guard (by rfl) ?_; dsimp only)); at_builtin; refine Kd.R_append (Kd.int .i32) (w0 := w) w.heap.size rfl (.tmp 27) (.tmp 32) 22 21 (.int .i32 0) 4 rfl Try.underlying22 info21 rfl (by decide) (by omega) (.slice Ao15 x4_1.length co15) x4_1 (rd l0 x5_1) [.int .i32 (rd l0 x5_1)] (fun _ => True) (fun _ => False) rfl rfl ?aP (fun _ hk => hk.elim) ?aF ?aO ?aB ?aS ?aL ?_; (case aP => exact rfl); (case aB => exact zB); (case aF => exact (fun _ _ => trivial)); (case aO => exact (zR HO_4)); (case aS => exact (below_size zB)); (case aL => have := LMc13.out; omega); intro v413 w16 ho hb hg hat; rw [← Ny412.out] at ho; have n_ := zI (aM (Kd.S_after (ok := (fun _ => True)) (by (with_reducible repeat (first | apply Kd.S_alloc | apply Kd.S_drewN | apply Kd.S_drew)); exact Kd.S_mono HO_3.out (fun _ hk => ⟨trivial, hk⟩)) hg hat)) (zI (aM (hb)) (aM (ho))); clear HO_3 HB HO_4; obtain ⟨HO_3, HB, HO414⟩ := n_; clear ho hb hg hat))
        go_roundg k1
        case measure => have := HK1.out; omega
        case rel => exact ⟨(x3_1), (y412), (wrap64 (x5_1 + 1)), zP, H', ⟨by have := HK1.out; omega⟩, ⟨by (with_reducible repeat (first | apply Kd.S_alloc | apply Kd.S_drewN | apply Kd.S_drew)); exact Kd.S_mono HO_3.out (fun _ hk => hk.2)⟩, ⟨zR HO414⟩, ⟨zB⟩⟩
       ·rw [if_neg c13] at H
        exact absurd H (by simp)
     ·rw [if_neg c5] at H
      have c5b0 : (t403 == 0) = false := beq_eq_false_iff_ne.mpr c5
      have c5b1 : (t403 != 0) = true := bne_iff_ne.mpr c5
      by_cases c17 : x4_1.length < 35184372088832
      ·rw [if_pos c17] at H
       have LMc17 := aM c17
       clear c17
       obtain ⟨y416, hy416⟩ : ∃ y_ : List Int, y_ = (x4_1 ++ [rd l0 x5_1]) := ⟨_, rfl⟩
       replace H : (toponymref06_Runs.l0 k1 l0 x3_1 y416 (wrap64 (x5_1 + 1))) = some r := zY hy416 H
       have Ny416 := aM hy416
       clear hy416
       have H' := aM H
       clear H
       have p402 : 0 ≤ (x5_1 : Int) := zoA
       have q402 : x5_1 < (l0.length : Int) := zoA
       obtain ⟨ad402, e402, hx402_0⟩ := Kd.at_int HR0.out x5_1 p402 q402
       cases e402
       replace hx402_0 := (HB.out.cell (World.block_lt_of_cell? w _ hx402_0)).trans hx402_0
       replace p402 := eq_true p402
       replace q402 := eq_true q402
       go_wp2_with (first | ((with_reducible refine gate_callee (f := 34) rfl ?_); refine goesL_ (some 16) rfl rfl Try.func34 zK rfl #[.int .i32 (rd l0 x5_1)] rfl zM ?_; (with_reducible refine (toponymref03_Class.calls k1 (rd l0 x5_1) t403 _ A4.out).mono ?_); rintro e w18 ⟨rfl, hb⟩; refine ⟨_, rfl, ?_⟩; have n_ := zI (aM (Kd.S_below (zS HO_3) hb)) (zI (aM (Kd.R_below (zR HO_4) hb)) (aM (below_step zB hb))); clear HO_3 HO_4 HB; obtain ⟨HO_3, HO_4, HB⟩ := n_; (try clear hb); (try clear hk); have p415 : 0 ≤ (x5_1 : Int) := zoA; have q415 : x5_1 < (l0.length : Int) := zoA; obtain ⟨ad415, e415, hx415_0⟩ := Kd.at_int HR0.out x5_1 p415 q415; obtain rfl : ad402 = ad415 := (by injection e415); replace hx415_0 := (HB.out.cell (World.block_lt_of_cell? w _ hx415_0)).trans hx415_0; replace p415 := eq_true p415; replace q415 := eq_true q415) | ((with_reducible refine gate_builtin (b := .append) (xs := #[.tmp 27, .tmp 32]) rfl ?_); (try (refine gate_guard (by rfl) ?_; dsimp only)); at_builtin; refine Kd.R_append (Kd.int .i32) (w0 := w) w.heap.size rfl (.tmp 27) (.tmp 32) 22 21 (.int .i32 0) 4 rfl Try.underlying22 info21 rfl (by decide) (by omega) u4 x4_1 (rd l0 x5_1) [.int .i32 (rd l0 x5_1)] (fun _ => True) (fun _ => False) rfl rfl ?aP (fun _ hk => hk.elim) ?aF ?aO ?aB ?aS ?aL ?_; (case aP => exact rfl); (case aB => exact zB); (case aF => exact (fun _ _ => trivial)); (case aO => exact (zR HO_4)); (case aS => exact (below_size zB)); (case aL => have := LMc17.out; omega); intro v417 w19 ho hb hg hat; rw [← Ny416.out] at ho; have n_ := zI (aM (Kd.S_after (ok := (fun _ => True)) (by (with_reducible repeat (first | apply Kd.S_alloc | apply Kd.S_drewN | apply Kd.S_drew)); exact Kd.S_mono HO_3.out (fun _ hk => ⟨trivial, hk⟩)) hg hat)) (zI (aM (hb)) (aM (ho))); clear HO_3 HB HO_4; obtain ⟨HO_3, HB, HO418⟩ := n_; clear ho hb hg hat))
       go_roundg k1
       case measure => have := HK1.out; omega
       case rel => exact ⟨(x3_1), (y416), (wrap64 (x5_1 + 1)), zP, H', ⟨by have := HK1.out; omega⟩, ⟨by (with_reducible repeat (first | apply Kd.S_alloc | apply Kd.S_drewN | apply Kd.S_drew)); exact Kd.S_mono HO_3.out (fun _ hk => hk.2)⟩, ⟨zR HO418⟩, ⟨zB⟩⟩
      ·rw [if_neg c17] at H
       exact absurd H (by simp)
    ·rw [if_neg c3] at H
     exact absurd H (by simp)
   ·rw [if_neg c2] at H
    have c2b0 : decide (x5_1 < (l0.length : Int)) = false := decide_eq_false c2
    clear c2
    by_cases c20 : (x4_1.length : Int) > 0
    ·rw [if_pos c20] at H
     have c20b0 : decide (0 < (x4_1.length : Int)) = true := decide_eq_true c20
     have c20b1 : decide (0 < x4_1.length) = true := decide_eq_true (by omega)
     clear c20
     by_cases c21 : x3_1.length < 5864062014805
     ·rw [if_pos c21] at H
      have LMc21 := aM c21
      clear c21
      obtain ⟨y419, hy419⟩ : ∃ y_ : List (List Int), y_ = (x3_1 ++ [x4_1]) := ⟨_, rfl⟩
      replace H : (some y419) = some r := zY hy419 H
      have Ny419 := aM hy419
      clear hy419
      obtain rfl := sI H
      obtain ⟨Ao22, co22, eo22⟩ := Kd.R_slice HO_4.out
      subst eo22
      go_wp2_with (first | ((with_reducible refine gate_builtin (b := .append) (xs := #[.tmp 37, .tmp 39]) rfl ?_); (try (refine gate_guard (by rfl) ?_; dsimp only)); at_builtin; refine Kd.S_append (Kd.slice 21 (Kd.int .i32)) (w0 := w) w.heap.size rfl (.tmp 37) (.tmp 39) 56 22 (.slice none 0 0) 24 rfl Try.underlying56 info22 rfl (by decide) (by omega) u3 x3_1 x4_1 [.slice Ao22 x4_1.length co22] (fun _ => True) (fun k_ => some k_ = (.slice Ao22 x4_1.length co22 : Value).ownBlock) rfl rfl ?aP (fun k_ hk_ => ((Kd.R_mono (ok' := fun k_ => ((fun _ => True)) k_ ∧ some k_ ≠ (u3 : Value).ownBlock) (Kd.R_apart' (HO_4.out) (Kd.S_typed HO_3.out) (by decide)) (fun k_ hk => ⟨trivial, hk.2⟩))).1 k_ hk_.symm) ?aF ?aO ?aB ?aS ?aL ?_; (case aP => exact Kd.M_row (Kd.R_mono (Kd.R_tight rfl (Kd.R_mono (ok' := fun k_ => ((fun _ => True)) k_ ∧ some k_ ≠ (u3 : Value).ownBlock) (Kd.R_apart' (HO_4.out) (Kd.S_typed HO_3.out) (by decide)) (fun k_ hk => ⟨trivial, hk.2⟩))) (fun _ h_ => h_))); (case aB => exact zB); (case aF => exact (fun _ _ => trivial)); (case aO => exact (by (with_reducible repeat (first | apply Kd.S_alloc | apply Kd.S_drewN | apply Kd.S_drew)); exact Kd.S_mono HO_3.out (fun k_ hk => ⟨trivial, fun e_ => hk e_⟩))); (case aS => exact (below_size zB)); (case aL => have := LMc21.out; omega); intro v420 w23 ho hb hg hat; rw [← Ny419.out] at ho; have n_ := zI (aM (hb)) (aM (ho)); clear HB HO_3 HO_4; obtain ⟨HB, HO421⟩ := n_; clear ho hb hg hat))
      go_ret
      exact ⟨_, zE, zS HO421, zB⟩
     ·rw [if_neg c21] at H
      exact absurd H (by simp)
    ·rw [if_neg c20] at H
     have c20b0 : decide (0 < (x4_1.length : Int)) = false := decide_eq_false c20
     have c20b1 : decide (0 < x4_1.length) = false := decide_eq_false (by omega)
     clear c20
     obtain rfl := sI H
     obtain ⟨Ao24, co24, eo24⟩ := Kd.R_slice HO_4.out
     subst eo24
     go_wp2
     go_ret
     exact ⟨_, zE, by (with_reducible repeat (first | apply Kd.S_alloc | apply Kd.S_drewN | apply Kd.S_drew)); exact Kd.S_mono HO_3.out (fun _ hk => trivial), zB⟩

/-! ### toponymref06_step: function 38 -/
def toponymref06_step.f (a0 : Int) : Option (Int) := if a0 = 0 then (some 8) else (if a0 = 8 then (some 194) else (if a0 = 202 then (some 18) else (if a0 = 220 then (some 10) else (some 1))))
set_option maxHeartbeats 8000000 in
set_option maxRecDepth 100000 in
theorem toponymref06_step.calls (a0 : Int) (r : Int) (w : World) (h : toponymref06_step.f a0 = some r) :
  Calls Try.prog 38 #[.int .i64 a0] w fun e w' => e = .returned (.int .i64 r) ∧ Drawn0 w w' := by
 have H : (if a0 = 0 then (some 8) else (if a0 = 8 then (some 194) else (if a0 = 202 then (some 18) else (if a0 = 220 then (some 10) else (some 1))))) = some r := h
 clear h
 by_cases c2 : a0 = 0
 ·rw [if_pos c2] at H
  have c2b0 : (a0 == 0) = true := beq_iff_eq.mpr c2
  have c2b1 : (a0 != 0) = false := bne_eq_false_iff_eq.mpr c2
  clear c2
  obtain rfl := sI H
  go_enter Try.func38, Try.ntmps38
  go_wp2
  go_ret
  exact ⟨zP, zD⟩
 ·rw [if_neg c2] at H
  have c2b0 : (a0 == 0) = false := beq_eq_false_iff_ne.mpr c2
  have c2b1 : (a0 != 0) = true := bne_iff_ne.mpr c2
  by_cases c3 : a0 = 8
  ·rw [if_pos c3] at H
   have c3b0 : (a0 == 8) = true := beq_iff_eq.mpr c3
   have c3b1 : (a0 != 8) = false := bne_eq_false_iff_eq.mpr c3
   clear c3
   obtain rfl := sI H
   go_enter Try.func38, Try.ntmps38
   go_wp2
   go_ret
   exact ⟨zP, zD⟩
  ·rw [if_neg c3] at H
   have c3b0 : (a0 == 8) = false := beq_eq_false_iff_ne.mpr c3
   have c3b1 : (a0 != 8) = true := bne_iff_ne.mpr c3
   by_cases c4 : a0 = 202
   ·rw [if_pos c4] at H
    have c4b0 : (a0 == 202) = true := beq_iff_eq.mpr c4
    have c4b1 : (a0 != 202) = false := bne_eq_false_iff_eq.mpr c4
    clear c4
    obtain rfl := sI H
    go_enter Try.func38, Try.ntmps38
    go_wp2
    go_ret
    exact ⟨zP, zD⟩
   ·rw [if_neg c4] at H
    have c4b0 : (a0 == 202) = false := beq_eq_false_iff_ne.mpr c4
    have c4b1 : (a0 != 202) = true := bne_iff_ne.mpr c4
    by_cases c5 : a0 = 220
    ·rw [if_pos c5] at H
     have c5b0 : (a0 == 220) = true := beq_iff_eq.mpr c5
     have c5b1 : (a0 != 220) = false := bne_eq_false_iff_eq.mpr c5
     clear c5
     obtain rfl := sI H
     go_enter Try.func38, Try.ntmps38
     go_wp2
     go_ret
     exact ⟨zP, zD⟩
    ·rw [if_neg c5] at H
     have c5b0 : (a0 == 220) = false := beq_eq_false_iff_ne.mpr c5
     have c5b1 : (a0 != 220) = true := bne_iff_ne.mpr c5
     obtain rfl := sI H
     go_enter Try.func38, Try.ntmps38
     go_wp2
     go_ret
     exact ⟨zP, zD⟩

/-! ### toponymref06_Order: function 20 -/
mutual
def toponymref06_Order.l0 : Nat → List (List Int) → List Int → Int → Option (List Int)
 | 0, _, _, _ => none
 | k + 1, x3, x4, x5 => if x5 < (x3.length : Int) then (toponymref06_Order.l1 k x3 x4 x5 0) else (some x4)
def toponymref06_Order.l1 : Nat → List (List Int) → List Int → Int → Int → Option (List Int)
 | 0, _, _, _, _ => none
 | k + 1, x3, x4, x5, x6 => if x6 ≤ 230 then (toponymref06_Order.l2 k x3 x4 x5 x6 0) else (toponymref06_Order.l0 k x3 x4 (wrap64 (x5 + 1)))
def toponymref06_Order.l2 : Nat → List (List Int) → List Int → Int → Int → Int → Option (List Int)
 | 0, _, _, _, _, _ => none
 | k + 1, x3, x4, x5, x6, x7 => if 0 ≤ x5 then (if x5 < (x3.length : Int) then (if x7 < ((rd_L1 x3 x5).length : Int) then (if 0 ≤ x7 then ((toponymref03_Class.f k (rd (rd_L1 x3 x5) x7)).bind fun t428 => (if t428 = x6 then (if x4.length < 35184372088832 then (toponymref06_Order.l2 k x3 (x4 ++ [rd (rd_L1 x3 x5) x7]) x5 x6 (wrap64 (x7 + 1))) else (none)) else (toponymref06_Order.l2 k x3 x4 x5 x6 (wrap64 (x7 + 1))))) else (none)) else ((toponymref06_step.f x6).bind fun t434 => (toponymref06_Order.l1 k x3 x4 x5 (wrap64 (x6 + t434))))) else (none)) else (none)
end
def toponymref06_Order.f (k : Nat) (l0 : List Int) : Option (List Int) := (toponymref06_Runs.f k l0).bind fun t422 => (toponymref06_Order.l0 k t422 ([] : List Int) 0)
theorem toponymref06_Order.mono_l : ∀ k, (∀ y0 y1 y2, LeO (toponymref06_Order.l0 k y0 y1 y2) (toponymref06_Order.l0 (k + 1) y0 y1 y2)) ∧ (∀ y0 y1 y2 y3, LeO (toponymref06_Order.l1 k y0 y1 y2 y3) (toponymref06_Order.l1 (k + 1) y0 y1 y2 y3)) ∧ (∀ y0 y1 y2 y3 y4, LeO (toponymref06_Order.l2 k y0 y1 y2 y3 y4) (toponymref06_Order.l2 (k + 1) y0 y1 y2 y3 y4))
 | 0 => ⟨fun _ _ _ r h => by simp [toponymref06_Order.l0] at h, fun _ _ _ _ r h => by simp [toponymref06_Order.l1] at h, fun _ _ _ _ _ r h => by simp [toponymref06_Order.l2] at h⟩
 | k + 1 => by
  obtain ⟨ih0, ih1, ih2⟩ := toponymref06_Order.mono_l k
  refine ⟨?_, ?_, ?_⟩
  ·intro y0 y1 y2
   unfold toponymref06_Order.l0
   repeat' first
   | (with_reducible exact ih0 _ _ _)
   | (with_reducible exact ih1 _ _ _ _)
   | (with_reducible exact ih2 _ _ _ _ _)
   | (with_reducible exact toponymref03_Class.mono _ _)
   | (with_reducible exact toponymref06_Runs.mono _ _)
   | (with_reducible exact LeO.refl _)
   | exact ih0 _ _ _
   | exact ih1 _ _ _ _
   | exact ih2 _ _ _ _ _
   | exact toponymref03_Class.mono _ _
   | exact toponymref06_Runs.mono _ _
   | exact LeO.none _
   | refine LeO.ite ?_ ?_
   | refine LeO.bind ?_ (fun _ => ?_)
  ·intro y0 y1 y2 y3
   unfold toponymref06_Order.l1
   repeat' first
   | (with_reducible exact ih0 _ _ _)
   | (with_reducible exact ih1 _ _ _ _)
   | (with_reducible exact ih2 _ _ _ _ _)
   | (with_reducible exact toponymref03_Class.mono _ _)
   | (with_reducible exact toponymref06_Runs.mono _ _)
   | (with_reducible exact LeO.refl _)
   | exact ih0 _ _ _
   | exact ih1 _ _ _ _
   | exact ih2 _ _ _ _ _
   | exact toponymref03_Class.mono _ _
   | exact toponymref06_Runs.mono _ _
   | exact LeO.none _
   | refine LeO.ite ?_ ?_
   | refine LeO.bind ?_ (fun _ => ?_)
  ·intro y0 y1 y2 y3 y4
   unfold toponymref06_Order.l2
   repeat' first
   | (with_reducible exact ih0 _ _ _)
   | (with_reducible exact ih1 _ _ _ _)
   | (with_reducible exact ih2 _ _ _ _ _)
   | (with_reducible exact toponymref03_Class.mono _ _)
   | (with_reducible exact toponymref06_Runs.mono _ _)
   | (with_reducible exact LeO.refl _)
   | exact ih0 _ _ _
   | exact ih1 _ _ _ _
   | exact ih2 _ _ _ _ _
   | exact toponymref03_Class.mono _ _
   | exact toponymref06_Runs.mono _ _
   | exact LeO.none _
   | refine LeO.ite ?_ ?_
   | refine LeO.bind ?_ (fun _ => ?_)
theorem toponymref06_Order.mono : ∀ a0 k, LeO (toponymref06_Order.f k a0) (toponymref06_Order.f (k + 1) a0) := by
 intro a0 k
 obtain ⟨ih0, ih1, ih2⟩ := toponymref06_Order.mono_l k
 unfold toponymref06_Order.f
 repeat' first
   | (with_reducible exact ih0 _ _ _)
   | (with_reducible exact ih1 _ _ _ _)
   | (with_reducible exact ih2 _ _ _ _ _)
   | (with_reducible exact toponymref03_Class.mono _ _)
   | (with_reducible exact toponymref06_Runs.mono _ _)
   | (with_reducible exact LeO.refl _)
   | exact ih0 _ _ _
   | exact ih1 _ _ _ _
   | exact ih2 _ _ _ _ _
   | exact toponymref03_Class.mono _ _
   | exact toponymref06_Runs.mono _ _
   | exact LeO.none _
   | refine LeO.ite ?_ ?_
   | refine LeO.bind ?_ (fun _ => ?_)
set_option maxHeartbeats 8000000 in
set_option maxRecDepth 100000 in
theorem toponymref06_Order.calls (k : Nat) (A0 : Option Addr) (c0 : Nat) (l0 : List Int) (r : List Int) (w : World) (hr0 : Kd.C (Kd.int .i32) w A0 l0.length l0) (hc0 : l0.length ≤ c0) (h : toponymref06_Order.f k l0 = some r) :
  Calls Try.prog 20 #[.slice A0 l0.length c0] w fun e w' => ∃ v0_ : Value, e = .returned (v0_) ∧ Kd.R (Kd.int .i32) 21 w' w.heap.size (fun _ => True) v0_ r ∧ Below w.heap.size w w' := by
 have HR0 := aM hr0
 have HC0 := aM hc0
 clear hr0 hc0
 have HB := aM (Below.refl w.heap.size w)
 have H : ((toponymref06_Runs.f k l0).bind fun t422 => (toponymref06_Order.l0 k t422 ([] : List Int) 0)) = some r := h
 clear h
 obtain ⟨t422, A2, H⟩ := zO H
 have H' := aM H
 clear H
 go_enter Try.func20, Try.ntmps20
 go_wp2_with (first | ((with_reducible refine gate_callee (f := 37) rfl ?_); refine goesL_ (some 9) rfl rfl Try.func37 zK rfl #[.slice A0 l0.length c0] rfl zM ?_; (with_reducible refine (toponymref06_Runs.calls k _ _ l0 t422 _ ?side1 ?side2 A2.out).mono ?_); (case side1 => exact zC HR0.out); (case side2 => exact HC0.out); rintro e w3 ⟨v423, rfl, ho0, hb⟩; refine ⟨_, rfl, ?_⟩; have n_ := zI (aM (Kd.S_lower ho0 (below_size zB))) (aM (below_step zB hb)); clear HB; obtain ⟨HO424, HB⟩ := n_; (try clear hb); (try clear ho0)))
 go_loopg [4, 5] k (fun kq v4 v5 w' => ∃ (x4_1 : List Int) (x5_1 : Int), v5 = .int .i64 x5_1 ∧ Aside0 (toponymref06_Order.l0 kq t422 x4_1 x5_1 = some r) ∧ Aside0 (kq ≤ k) ∧ Aside0 (Kd.S (Kd.slice 21 (Kd.int .i32)) 22 w' w.heap.size (fun k_ => some k_ ≠ (v4 : Value).ownBlock) v423 t422) ∧ Aside0 (Kd.R (Kd.int .i32) 21 w' w.heap.size (fun _ => True) v4 x4_1) ∧ Aside0 (Below w.heap.size w w'))
 case atStart => exact ⟨(([] : List Int)), (0), zP, H', ⟨Nat.le_refl _⟩, ⟨by (with_reducible repeat (first | apply Kd.S_alloc | apply Kd.S_drewN | apply Kd.S_drew)); exact Kd.S_mono HO424.out (fun _ hk => (by simp [Value.ownBlock]))⟩, ⟨zL⟩, ⟨zB⟩⟩
 case round =>
  clear H'
  try clear c2
  try clear p2
  try clear c3
  obtain ⟨x4_1, x5_1, rfl, HA, HK1, HO_3, HO_4, HB⟩ := hrel
  cases gk with
  | zero => exact absurd HA.out (by simp [toponymref06_Order.l0])
  | succ k1 =>
   have H := HA.out
   clear HA
   simp only [toponymref06_Order.l0] at H
   by_cases c4 : x5_1 < (t422.length : Int)
   ·rw [if_pos c4] at H
    have c4b0 : decide (x5_1 < (t422.length : Int)) = true := decide_eq_true c4
    clear c4
    have H' := aM H
    clear H
    obtain ⟨Ao5, co5, eo5⟩ := Kd.S_slice HO_3.out
    subst eo5
    go_wp2
    go_loopg [4, 6] k1 (fun kq v4 v6 w' => ∃ (x4_2 : List Int) (x6_2 : Int), v6 = .int .i64 x6_2 ∧ Aside0 (toponymref06_Order.l1 kq t422 x4_2 x5_1 x6_2 = some r) ∧ Aside0 (kq ≤ k1) ∧ Aside0 (Kd.S (Kd.slice 21 (Kd.int .i32)) 22 w' w.heap.size (fun k_ => some k_ ≠ (v4 : Value).ownBlock) (.slice Ao5 t422.length co5) t422) ∧ Aside0 (Kd.R (Kd.int .i32) 21 w' w.heap.size (fun _ => True) v4 x4_2) ∧ Aside0 (Below w.heap.size w w'))
    case atStart => exact ⟨(x4_1), (0), zP, H', ⟨Nat.le_refl _⟩, ⟨zS HO_3⟩, ⟨zR HO_4⟩, ⟨zB⟩⟩
    case round =>
     clear H'
     try clear c2
     try clear p2
     try clear c3
     try clear c4
     try clear c4b0
     try clear p2
     obtain ⟨x4_2, x6_2, rfl, HA, HK2, HO_3, HO_4, HB⟩ := hrel
     cases gk with
     | zero => exact absurd HA.out (by simp [toponymref06_Order.l1])
     | succ k2 =>
      have H := HA.out
      clear HA
      simp only [toponymref06_Order.l1] at H
      by_cases c6 : x6_2 ≤ 230
      ·rw [if_pos c6] at H
       have c6b0 : decide (x6_2 ≤ 230) = true := decide_eq_true c6
       clear c6
       have H' := aM H
       clear H
       go_wp2
       go_loopg [4, 7] k2 (fun kq v4 v7 w' => ∃ (x4_3 : List Int) (x7_3 : Int), v7 = .int .i64 x7_3 ∧ Aside0 (toponymref06_Order.l2 kq t422 x4_3 x5_1 x6_2 x7_3 = some r) ∧ Aside0 (kq ≤ k2) ∧ Aside0 (Kd.S (Kd.slice 21 (Kd.int .i32)) 22 w' w.heap.size (fun k_ => some k_ ≠ (v4 : Value).ownBlock) (.slice Ao5 t422.length co5) t422) ∧ Aside0 (Kd.R (Kd.int .i32) 21 w' w.heap.size (fun _ => True) v4 x4_3) ∧ Aside0 (Below w.heap.size w w'))
       case atStart => exact ⟨(x4_2), (0), zP, H', ⟨Nat.le_refl _⟩, ⟨zS HO_3⟩, ⟨zR HO_4⟩, ⟨zB⟩⟩
       case round =>
        clear H'
        try clear c2
        try clear p2
        try clear c3
        try clear c4
        try clear c4b0
        try clear c6
        try clear c6b0
        try clear p2
        obtain ⟨x4_3, x7_3, rfl, HA, HK3, HO_3, HO_4, HB⟩ := hrel
        cases gk with
        | zero => exact absurd HA.out (by simp [toponymref06_Order.l2])
        | succ k3 =>
         have H := HA.out
         clear HA
         simp only [toponymref06_Order.l2] at H
         by_cases c7 : 0 ≤ x5_1
         ·rw [if_pos c7] at H
          have c7b0 : decide (0 ≤ x5_1) = true := decide_eq_true c7
          clear c7
          by_cases c8 : x5_1 < (t422.length : Int)
          ·rw [if_pos c8] at H
           have c8b0 : decide (x5_1 < (t422.length : Int)) = true := decide_eq_true c8
           clear c8
           by_cases c9 : x7_3 < ((rd_L1 t422 x5_1).length : Int)
           ·rw [if_pos c9] at H
            have c9b0 : decide (x7_3 < ((rd_L1 t422 x5_1).length : Int)) = true := decide_eq_true c9
            clear c9
            by_cases c10 : 0 ≤ x7_3
            ·rw [if_pos c10] at H
             have c10b0 : decide (0 ≤ x7_3) = true := decide_eq_true c10
             clear c10
             obtain ⟨t428, A11, H⟩ := zO H
             by_cases c12 : t428 = x6_2
             ·rw [if_pos c12] at H
              have c12b0 : (t428 == x6_2) = true := beq_iff_eq.mpr c12
              have c12b1 : (t428 != x6_2) = false := bne_eq_false_iff_eq.mpr c12
              clear c12
              by_cases c13 : x4_3.length < 35184372088832
              ·rw [if_pos c13] at H
               have LMc13 := aM c13
               clear c13
               obtain ⟨y431, hy431⟩ : ∃ y_ : List Int, y_ = (x4_3 ++ [rd (rd_L1 t422 x5_1) x7_3]) := ⟨_, rfl⟩
               replace H : (toponymref06_Order.l2 k3 t422 y431 x5_1 x6_2 (wrap64 (x7_3 + 1))) = some r := zY hy431 H
               have Ny431 := aM hy431
               clear hy431
               have H' := aM H
               clear H
               have p425 : 0 ≤ (x5_1 : Int) := zoA
               have q425 : x5_1 < (t422.length : Int) := zoA
               obtain ⟨ad425, A425_0, c425_0, e425, hx425_0, hl425_0, hi425_0⟩ := at_L1 (Kd.S_reads' HO_3.out).2.2 x5_1 p425 q425
               cases e425
               obtain ⟨ce425, hce425, hMe425, hcc425⟩ := Kd.S_get HO_3.out [] x5_1 p425 (by first | exact q425 | exact zoA | (have e_ := (Kd.S_reads' HO_3.out).1; omega))
               obtain ⟨ve425_0, rfl, ge425_0⟩ := hMe425
               have hv425_0 := hcc425 0 _ rfl
               rw [Nat.add_zero, show ((Kd.slice 21 (Kd.int .i32))).sz = 1 from rfl, Nat.mul_one] at hv425_0
               replace hv425_0 := sI (hv425_0.symm.trans hx425_0)
               rw [hv425_0] at ge425_0
               have HL425_0 := aM (show Kd.R (Kd.int .i32) 21 _ _ _ _ (rd_L1 t422 x5_1) from ge425_0)
               clear hv425_0 ge425_0
               clear hcc425 hce425
               have HR425_0 := aM hi425_0
               have HC425_0 := aM hl425_0
               clear hi425_0 hl425_0
               replace p425 := eq_true p425
               replace q425 := eq_true q425
               have p426 : 0 ≤ (x5_1 : Int) := zoA
               have q426 : x5_1 < (t422.length : Int) := zoA
               obtain ⟨ad426, A426_0, c426_0, e426, hx426_0, hl426_0, hi426_0⟩ := at_L1 (Kd.S_reads' HO_3.out).2.2 x5_1 p426 q426
               obtain rfl : ad425 = ad426 := (by injection e426)
               obtain ⟨ce426, hce426, hMe426, hcc426⟩ := Kd.S_get HO_3.out [] x5_1 p426 (by first | exact q426 | exact zoA | (have e_ := (Kd.S_reads' HO_3.out).1; omega))
               obtain ⟨ve426_0, rfl, ge426_0⟩ := hMe426
               have hv426_0 := hcc426 0 _ rfl
               rw [Nat.add_zero, show ((Kd.slice 21 (Kd.int .i32))).sz = 1 from rfl, Nat.mul_one] at hv426_0
               replace hv426_0 := sI (hv426_0.symm.trans hx426_0)
               rw [hv426_0] at ge426_0
               have HL426_0 := aM (show Kd.R (Kd.int .i32) 21 _ _ _ _ (rd_L1 t422 x5_1) from ge426_0)
               clear hv426_0 ge426_0
               clear hcc426 hce426
               have HR426_0 := aM hi426_0
               have HC426_0 := aM hl426_0
               clear hi426_0 hl426_0
               replace p426 := eq_true p426
               replace q426 := eq_true q426
               have ea_ := sI (hx425_0.symm.trans hx426_0)
               injection ea_ with ea_ en_ ec_
               subst ea_
               subst ec_
               clear en_
               have p427 : 0 ≤ (x7_3 : Int) := zoA
               have q427 : x7_3 < ((rd_L1 t422 x5_1).length : Int) := zoA
               obtain ⟨ad427, e427, hx427_0⟩ := Kd.at_int (by repeat (first | (with_reducible exact HR426_0.out) | (with_reducible refine Kd.C_alloc ?_ _) | (with_reducible refine Kd.C_drewN ?_ _) | (with_reducible refine Kd.C_drew ?_) | exact HR426_0.out)) x7_3 p427 q427
               cases e427
               replace p427 := eq_true p427
               replace q427 := eq_true q427
               go_wp2_with (first | ((with_reducible refine gate_callee (f := 34) rfl ?_); refine goesL_ (some 38) rfl rfl Try.func34 zK rfl #[.int .i32 (rd (rd_L1 t422 x5_1) x7_3)] rfl zM ?_; (with_reducible refine (toponymref03_Class.calls k3 (rd (rd_L1 t422 x5_1) x7_3) t428 _ A11.out).mono ?_); rintro e w14 ⟨rfl, hb⟩; refine ⟨_, rfl, ?_⟩; have n_ := zI (aM (Kd.S_below (zS HO_3) hb)) (zI (aM (Kd.R_below (zR HO_4) hb)) (zI (aM (Kd.R_below (zR HL425_0) hb)) (zI (aM (Kd.R_below (zR HL426_0) hb)) (zI (aM (Kd.C_below (by repeat (first | (with_reducible exact HR425_0.out) | (with_reducible refine Kd.C_alloc ?_ _) | (with_reducible refine Kd.C_drewN ?_ _) | (with_reducible refine Kd.C_drew ?_) | exact HR425_0.out)) hb)) (zI (aM (Kd.C_below (by repeat (first | (with_reducible exact HR426_0.out) | (with_reducible refine Kd.C_alloc ?_ _) | (with_reducible refine Kd.C_drewN ?_ _) | (with_reducible refine Kd.C_drew ?_) | exact HR426_0.out)) hb)) (aM (below_step zB hb))))))); clear HO_3 HO_4 HL425_0 HL426_0 HR425_0 HR426_0 HB; obtain ⟨HO_3, HO_4, HL425_0, HL426_0, HR425_0, HR426_0, HB⟩ := n_; (try clear hb); (try clear hk); have p429 : 0 ≤ (x5_1 : Int) := zoA; have q429 : x5_1 < (t422.length : Int) := zoA; obtain ⟨ad429, A429_0, c429_0, e429, hx429_0, hl429_0, hi429_0⟩ := at_L1 (Kd.S_reads' HO_3.out).2.2 x5_1 p429 q429; obtain rfl : ad425 = ad429 := (by injection e429); obtain ⟨ce429, hce429, hMe429, hcc429⟩ := Kd.S_get HO_3.out [] x5_1 p429 (by first | exact q429 | exact zoA | (have e_ := (Kd.S_reads' HO_3.out).1; omega)); obtain ⟨ve429_0, rfl, ge429_0⟩ := hMe429; have hv429_0 := hcc429 0 _ rfl; rw [Nat.add_zero, show ((Kd.slice 21 (Kd.int .i32))).sz = 1 from rfl, Nat.mul_one] at hv429_0; replace hv429_0 := sI (hv429_0.symm.trans hx429_0); rw [hv429_0] at ge429_0; have HL429_0 := aM (show Kd.R (Kd.int .i32) 21 _ _ _ _ (rd_L1 t422 x5_1) from ge429_0); clear hv429_0 ge429_0; clear hcc429 hce429; have HR429_0 := aM hi429_0; have HC429_0 := aM hl429_0; clear hi429_0 hl429_0; replace p429 := eq_true p429; replace q429 := eq_true q429; have p430 : 0 ≤ (x7_3 : Int) := zoA; have q430 : x7_3 < ((rd_L1 t422 x5_1).length : Int) := zoA; obtain ⟨ad430, e430, hx430_0⟩ := Kd.at_int (by repeat (first | (with_reducible exact HR429_0.out) | (with_reducible refine Kd.C_alloc ?_ _) | (with_reducible refine Kd.C_drewN ?_ _) | (with_reducible refine Kd.C_drew ?_) | exact HR429_0.out)) x7_3 p430 q430; cases e430; replace p430 := eq_true p430; replace q430 := eq_true q430) | ((with_reducible refine gate_builtin (b := .append) (xs := #[.tmp 41, .tmp 49]) rfl ?_); at_builtin; refine Kd.R_append (Kd.int .i32) (w0 := w) w.heap.size rfl (.tmp 41) (.tmp 49) 22 21 (.int .i32 0) 4 rfl Try.underlying22 info21 rfl (by decide) (by omega) u4 x4_3 (rd (rd_L1 t422 x5_1) x7_3) [.int .i32 (rd (rd_L1 t422 x5_1) x7_3)] (fun _ => True) (fun _ => False) rfl rfl ?aP (fun _ hk => hk.elim) ?aF ?aO ?aB ?aS ?aL ?_; (case aP => exact rfl); (case aB => exact zB); (case aF => exact (fun _ _ => trivial)); (case aO => exact (zR HO_4)); (case aS => exact (below_size zB)); (case aL => have := LMc13.out; omega); intro v432 w15 ho hb hg hat; rw [← Ny431.out] at ho; have n_ := zI (aM (Kd.S_after (ok := (fun _ => True)) (by (with_reducible repeat (first | apply Kd.S_alloc | apply Kd.S_drewN | apply Kd.S_drew)); exact Kd.S_mono HO_3.out (fun _ hk => ⟨trivial, hk⟩)) hg hat)) (zI (aM (Kd.R_after (ok := (fun k_ => some k_ ≠ (.slice (some ad425) t422.length co5 : Value).ownBlock)) (by (with_reducible repeat (first | apply Kd.R_alloc | apply Kd.R_drewN | apply Kd.R_drew)); exact Kd.R_mono HL425_0.out (fun _ hk => ⟨hk.2, hk.1⟩)) hg hat)) (zI (aM (Kd.R_after (ok := (fun k_ => some k_ ≠ (.slice (some ad425) t422.length co5 : Value).ownBlock)) (by (with_reducible repeat (first | apply Kd.R_alloc | apply Kd.R_drewN | apply Kd.R_drew)); exact Kd.R_mono HL426_0.out (fun _ hk => ⟨hk.2, hk.1⟩)) hg hat)) (zI (aM (Kd.R_after (ok := (fun k_ => some k_ ≠ (.slice (some ad425) t422.length co5 : Value).ownBlock)) (by (with_reducible repeat (first | apply Kd.R_alloc | apply Kd.R_drewN | apply Kd.R_drew)); exact Kd.R_mono HL429_0.out (fun _ hk => ⟨hk.2, hk.1⟩)) hg hat)) (zI (aM (hb)) (aM (ho)))))); clear HO_3 HL425_0 HL426_0 HL429_0 HB HO_4; obtain ⟨HO_3, HL425_0, HL426_0, HL429_0, HB, HO433⟩ := n_; clear ho hb hg hat))
               go_roundg k3
               case measure => have := HK1.out; have := HK2.out; have := HK3.out; omega
               case rel => exact ⟨(y431), (wrap64 (x7_3 + 1)), zP, H', ⟨by have := HK1.out; have := HK2.out; have := HK3.out; omega⟩, ⟨by (with_reducible repeat (first | apply Kd.S_alloc | apply Kd.S_drewN | apply Kd.S_drew)); exact Kd.S_mono HO_3.out (fun _ hk => hk.2)⟩, ⟨zR HO433⟩, ⟨zB⟩⟩
              ·rw [if_neg c13] at H
               exact absurd H (by simp)
             ·rw [if_neg c12] at H
              have c12b0 : (t428 == x6_2) = false := beq_eq_false_iff_ne.mpr c12
              have c12b1 : (t428 != x6_2) = true := bne_iff_ne.mpr c12
              have H' := aM H
              clear H
              have p425 : 0 ≤ (x5_1 : Int) := zoA
              have q425 : x5_1 < (t422.length : Int) := zoA
              obtain ⟨ad425, A425_0, c425_0, e425, hx425_0, hl425_0, hi425_0⟩ := at_L1 (Kd.S_reads' HO_3.out).2.2 x5_1 p425 q425
              cases e425
              obtain ⟨ce425, hce425, hMe425, hcc425⟩ := Kd.S_get HO_3.out [] x5_1 p425 (by first | exact q425 | exact zoA | (have e_ := (Kd.S_reads' HO_3.out).1; omega))
              obtain ⟨ve425_0, rfl, ge425_0⟩ := hMe425
              have hv425_0 := hcc425 0 _ rfl
              rw [Nat.add_zero, show ((Kd.slice 21 (Kd.int .i32))).sz = 1 from rfl, Nat.mul_one] at hv425_0
              replace hv425_0 := sI (hv425_0.symm.trans hx425_0)
              rw [hv425_0] at ge425_0
              have HL425_0 := aM (show Kd.R (Kd.int .i32) 21 _ _ _ _ (rd_L1 t422 x5_1) from ge425_0)
              clear hv425_0 ge425_0
              clear hcc425 hce425
              have HR425_0 := aM hi425_0
              have HC425_0 := aM hl425_0
              clear hi425_0 hl425_0
              replace p425 := eq_true p425
              replace q425 := eq_true q425
              have p426 : 0 ≤ (x5_1 : Int) := zoA
              have q426 : x5_1 < (t422.length : Int) := zoA
              obtain ⟨ad426, A426_0, c426_0, e426, hx426_0, hl426_0, hi426_0⟩ := at_L1 (Kd.S_reads' HO_3.out).2.2 x5_1 p426 q426
              obtain rfl : ad425 = ad426 := (by injection e426)
              obtain ⟨ce426, hce426, hMe426, hcc426⟩ := Kd.S_get HO_3.out [] x5_1 p426 (by first | exact q426 | exact zoA | (have e_ := (Kd.S_reads' HO_3.out).1; omega))
              obtain ⟨ve426_0, rfl, ge426_0⟩ := hMe426
              have hv426_0 := hcc426 0 _ rfl
              rw [Nat.add_zero, show ((Kd.slice 21 (Kd.int .i32))).sz = 1 from rfl, Nat.mul_one] at hv426_0
              replace hv426_0 := sI (hv426_0.symm.trans hx426_0)
              rw [hv426_0] at ge426_0
              have HL426_0 := aM (show Kd.R (Kd.int .i32) 21 _ _ _ _ (rd_L1 t422 x5_1) from ge426_0)
              clear hv426_0 ge426_0
              clear hcc426 hce426
              have HR426_0 := aM hi426_0
              have HC426_0 := aM hl426_0
              clear hi426_0 hl426_0
              replace p426 := eq_true p426
              replace q426 := eq_true q426
              have ea_ := sI (hx425_0.symm.trans hx426_0)
              injection ea_ with ea_ en_ ec_
              subst ea_
              subst ec_
              clear en_
              have p427 : 0 ≤ (x7_3 : Int) := zoA
              have q427 : x7_3 < ((rd_L1 t422 x5_1).length : Int) := zoA
              obtain ⟨ad427, e427, hx427_0⟩ := Kd.at_int (by repeat (first | (with_reducible exact HR426_0.out) | (with_reducible refine Kd.C_alloc ?_ _) | (with_reducible refine Kd.C_drewN ?_ _) | (with_reducible refine Kd.C_drew ?_) | exact HR426_0.out)) x7_3 p427 q427
              cases e427
              replace p427 := eq_true p427
              replace q427 := eq_true q427
              go_wp2_with (first | ((with_reducible refine gate_callee (f := 34) rfl ?_); refine goesL_ (some 38) rfl rfl Try.func34 zK rfl #[.int .i32 (rd (rd_L1 t422 x5_1) x7_3)] rfl zM ?_; (with_reducible refine (toponymref03_Class.calls k3 (rd (rd_L1 t422 x5_1) x7_3) t428 _ A11.out).mono ?_); rintro e w16 ⟨rfl, hb⟩; refine ⟨_, rfl, ?_⟩; have n_ := zI (aM (Kd.S_below (zS HO_3) hb)) (zI (aM (Kd.R_below (zR HO_4) hb)) (zI (aM (Kd.R_below (zR HL425_0) hb)) (zI (aM (Kd.R_below (zR HL426_0) hb)) (zI (aM (Kd.C_below (by repeat (first | (with_reducible exact HR425_0.out) | (with_reducible refine Kd.C_alloc ?_ _) | (with_reducible refine Kd.C_drewN ?_ _) | (with_reducible refine Kd.C_drew ?_) | exact HR425_0.out)) hb)) (zI (aM (Kd.C_below (by repeat (first | (with_reducible exact HR426_0.out) | (with_reducible refine Kd.C_alloc ?_ _) | (with_reducible refine Kd.C_drewN ?_ _) | (with_reducible refine Kd.C_drew ?_) | exact HR426_0.out)) hb)) (aM (below_step zB hb))))))); clear HO_3 HO_4 HL425_0 HL426_0 HR425_0 HR426_0 HB; obtain ⟨HO_3, HO_4, HL425_0, HL426_0, HR425_0, HR426_0, HB⟩ := n_; (try clear hb)))
              go_roundg k3
              case measure => have := HK1.out; have := HK2.out; have := HK3.out; omega
              case rel => exact ⟨(x4_3), (wrap64 (x7_3 + 1)), zP, H', ⟨by have := HK1.out; have := HK2.out; have := HK3.out; omega⟩, ⟨zS HO_3⟩, ⟨zR HO_4⟩, ⟨zB⟩⟩
            ·rw [if_neg c10] at H
             exact absurd H (by simp)
           ·rw [if_neg c9] at H
            have c9b0 : decide (x7_3 < ((rd_L1 t422 x5_1).length : Int)) = false := decide_eq_false c9
            clear c9
            obtain ⟨t434, A17, H⟩ := zO H
            have H' := aM H
            clear H
            have p425 : 0 ≤ (x5_1 : Int) := zoA
            have q425 : x5_1 < (t422.length : Int) := zoA
            obtain ⟨ad425, A425_0, c425_0, e425, hx425_0, hl425_0, hi425_0⟩ := at_L1 (Kd.S_reads' HO_3.out).2.2 x5_1 p425 q425
            cases e425
            obtain ⟨ce425, hce425, hMe425, hcc425⟩ := Kd.S_get HO_3.out [] x5_1 p425 (by first | exact q425 | exact zoA | (have e_ := (Kd.S_reads' HO_3.out).1; omega))
            obtain ⟨ve425_0, rfl, ge425_0⟩ := hMe425
            have hv425_0 := hcc425 0 _ rfl
            rw [Nat.add_zero, show ((Kd.slice 21 (Kd.int .i32))).sz = 1 from rfl, Nat.mul_one] at hv425_0
            replace hv425_0 := sI (hv425_0.symm.trans hx425_0)
            rw [hv425_0] at ge425_0
            have HL425_0 := aM (show Kd.R (Kd.int .i32) 21 _ _ _ _ (rd_L1 t422 x5_1) from ge425_0)
            clear hv425_0 ge425_0
            clear hcc425 hce425
            have HR425_0 := aM hi425_0
            have HC425_0 := aM hl425_0
            clear hi425_0 hl425_0
            replace p425 := eq_true p425
            replace q425 := eq_true q425
            go_wp2_with (first | ((with_reducible refine gate_callee (f := 38) rfl ?_); refine goesL_ (some 20) rfl rfl Try.func38 zK rfl #[.int .i64 x6_2] rfl zM ?_; (with_reducible refine (toponymref06_step.calls x6_2 t434 _ A17.out).mono ?_); rintro e w' ⟨rfl, ⟨nd, rfl⟩⟩; refine ⟨_, rfl, ?_⟩))
            go_roundg k3
            case measure => have := HK1.out; have := HK2.out; have := HK3.out; omega
            case rel => exact ⟨(x4_3), (wrap64 (x6_2 + t434)), zP, H', ⟨by have := HK1.out; have := HK2.out; have := HK3.out; omega⟩, ⟨zS HO_3⟩, ⟨zR HO_4⟩, ⟨zB⟩⟩
          ·rw [if_neg c8] at H
           exact absurd H (by simp)
         ·rw [if_neg c7] at H
          exact absurd H (by simp)
      ·rw [if_neg c6] at H
       have c6b0 : decide (x6_2 ≤ 230) = false := decide_eq_false c6
       clear c6
       have H' := aM H
       clear H
       go_wp2
       go_roundg k2
       case measure => have := HK1.out; have := HK2.out; omega
       case rel => exact ⟨(x4_2), (wrap64 (x5_1 + 1)), zP, H', ⟨by have := HK1.out; have := HK2.out; omega⟩, ⟨zS HO_3⟩, ⟨zR HO_4⟩, ⟨zB⟩⟩
   ·rw [if_neg c4] at H
    have c4b0 : decide (x5_1 < (t422.length : Int)) = false := decide_eq_false c4
    clear c4
    obtain rfl := sI H
    obtain ⟨Ao18, co18, eo18⟩ := Kd.S_slice HO_3.out
    subst eo18
    go_wp2
    go_ret
    exact ⟨_, zE, zR HO_4, zB⟩

/-! ### toponymref04_Apart: function 58 -/
def toponymref04_Apart.f (a0 : Int) : Option (List Int) := (toponymref04_Syllable.f a0).bind fun t435 => (if t435 = true then (if (Int.tmod (wrap32 (a0 - 44032)) 28) = 0 then (some (([wrap32 (4352 + (wrap32 (Int.tdiv (wrap32 (a0 - 44032)) 588))), wrap32 (4449 + (Int.tmod (wrap32 (Int.tdiv (wrap32 (a0 - 44032)) 28)) 21))] : List Int))) else (some (([wrap32 (4352 + (wrap32 (Int.tdiv (wrap32 (a0 - 44032)) 588))), wrap32 (4449 + (Int.tmod (wrap32 (Int.tdiv (wrap32 (a0 - 44032)) 28)) 21)), wrap32 (4519 + (Int.tmod (wrap32 (a0 - 44032)) 28))] : List Int)))) else (some (([a0] : List Int))))
set_option maxHeartbeats 8000000 in
set_option maxRecDepth 100000 in
theorem toponymref04_Apart.calls (a0 : Int) (r : List Int) (w : World) (h : toponymref04_Apart.f a0 = some r) :
  Calls Try.prog 58 #[.int .i32 a0] w fun e w' => ∃ v0_ : Value, e = .returned (v0_) ∧ Kd.R (Kd.int .i32) 21 w' w.heap.size (fun _ => True) v0_ r ∧ Below w.heap.size w w' := by
 have HB := aM (Below.refl w.heap.size w)
 have H : ((toponymref04_Syllable.f a0).bind fun t435 => (if t435 = true then (if (Int.tmod (wrap32 (a0 - 44032)) 28) = 0 then (some (([wrap32 (4352 + (wrap32 (Int.tdiv (wrap32 (a0 - 44032)) 588))), wrap32 (4449 + (Int.tmod (wrap32 (Int.tdiv (wrap32 (a0 - 44032)) 28)) 21))] : List Int))) else (some (([wrap32 (4352 + (wrap32 (Int.tdiv (wrap32 (a0 - 44032)) 588))), wrap32 (4449 + (Int.tmod (wrap32 (Int.tdiv (wrap32 (a0 - 44032)) 28)) 21)), wrap32 (4519 + (Int.tmod (wrap32 (a0 - 44032)) 28))] : List Int)))) else (some (([a0] : List Int))))) = some r := h
 clear h
 obtain ⟨t435, A2, H⟩ := zO H
 by_cases c3 : t435 = true
 ·subst c3
  rw [if_pos rfl] at H
  by_cases c4 : (Int.tmod (wrap32 (a0 - 44032)) 28) = 0
  ·rw [if_pos c4] at H
   have c4b0 : ((Int.tmod (wrap32 (a0 - 44032)) 28) == 0) = true := beq_iff_eq.mpr c4
   have c4b1 : ((Int.tmod (wrap32 (a0 - 44032)) 28) != 0) = false := bne_eq_false_iff_eq.mpr c4
   clear c4
   obtain ⟨y436, hy436⟩ : ∃ y_ : List Int, y_ = (([wrap32 (4352 + (wrap32 (Int.tdiv (wrap32 (a0 - 44032)) 588))), wrap32 (4449 + (Int.tmod (wrap32 (Int.tdiv (wrap32 (a0 - 44032)) 28)) 21))] : List Int)) := ⟨_, rfl⟩
   replace H : (some y436) = some r := zY hy436 H
   have Ny436 := aM hy436
   clear hy436
   obtain rfl := sI H
   go_enter Try.func58, Try.ntmps58
   go_wp2_with (first | ((with_reducible refine gate_callee (f := 57) rfl ?_); refine goesL_ (some 7) rfl rfl Try.func57 zK rfl #[.int .i32 a0] rfl zM ?_; (with_reducible refine (toponymref04_Syllable.calls a0 true _ A2.out).mono ?_); rintro e w' ⟨rfl, ⟨nd, rfl⟩⟩; refine ⟨_, rfl, ?_⟩) | ((with_reducible refine gate_dst (N := 27) rfl ?_); refine Kd.R_lit (Kd.int .i32) _ 21 ?hg (N := 27) ?hd (xs := ([wrap32 (4352 + (wrap32 (Int.tdiv (wrap32 (a0 - 44032)) 588))), wrap32 (4449 + (Int.tmod (wrap32 (Int.tdiv (wrap32 (a0 - 44032)) 28)) 21))] : List Int)) (inner := [.int .i32 (wrap32 (4352 + (wrap32 (Int.tdiv (wrap32 (a0 - 44032)) 588)))), .int .i32 (wrap32 (4449 + (Int.tmod (wrap32 (Int.tdiv (wrap32 (a0 - 44032)) 28)) 21)))]) (ok := fun _ => True) (okp := fun _ => True) ?hr ?hp (fun _ hk => hk) trivial (Below.refl _ _) (Nat.le_refl _) (by simp) ?_; (case hd => rfl); (case hg => rfl); (case hr => first | (go_simp; done) | (go_simp; rfl)); (case hp => exact (Reps.one (show Kd.M (Kd.int .i32) _ _ _ (wrap32 (4352 + (wrap32 (Int.tdiv (wrap32 (a0 - 44032)) 588)))) [.int .i32 (wrap32 (4352 + (wrap32 (Int.tdiv (wrap32 (a0 - 44032)) 588))))] from rfl) (Reps.one (show Kd.M (Kd.int .i32) _ _ _ (wrap32 (4449 + (Int.tmod (wrap32 (Int.tdiv (wrap32 (a0 - 44032)) 28)) 21))) [.int .i32 (wrap32 (4449 + (Int.tmod (wrap32 (Int.tdiv (wrap32 (a0 - 44032)) 28)) 21)))] from rfl) (Reps.none _ _)))); intro v437 w5 ho6 hb hg_ hnew_; clear hg_ hnew_; (first | rw [← Ny436.out] at ho6 | (simp only [Int.reduceToNat] at ho6; rw [← Ny436.out] at ho6)); have n_ := zI (aM (Kd.R_lower ho6 (below_size zB))) (aM (below_step zB hb)); clear HB; obtain ⟨HO438, HB⟩ := n_; clear hb ho6))
   go_ret
   exact ⟨_, zE, zR HO438, zB⟩
  ·rw [if_neg c4] at H
   have c4b0 : ((Int.tmod (wrap32 (a0 - 44032)) 28) == 0) = false := beq_eq_false_iff_ne.mpr c4
   have c4b1 : ((Int.tmod (wrap32 (a0 - 44032)) 28) != 0) = true := bne_iff_ne.mpr c4
   obtain ⟨y439, hy439⟩ : ∃ y_ : List Int, y_ = (([wrap32 (4352 + (wrap32 (Int.tdiv (wrap32 (a0 - 44032)) 588))), wrap32 (4449 + (Int.tmod (wrap32 (Int.tdiv (wrap32 (a0 - 44032)) 28)) 21)), wrap32 (4519 + (Int.tmod (wrap32 (a0 - 44032)) 28))] : List Int)) := ⟨_, rfl⟩
   replace H : (some y439) = some r := zY hy439 H
   have Ny439 := aM hy439
   clear hy439
   obtain rfl := sI H
   go_enter Try.func58, Try.ntmps58
   go_wp2_with (first | ((with_reducible refine gate_callee (f := 57) rfl ?_); refine goesL_ (some 7) rfl rfl Try.func57 zK rfl #[.int .i32 a0] rfl zM ?_; (with_reducible refine (toponymref04_Syllable.calls a0 true _ A2.out).mono ?_); rintro e w' ⟨rfl, ⟨nd, rfl⟩⟩; refine ⟨_, rfl, ?_⟩) | ((with_reducible refine gate_dst (N := 34) rfl ?_); refine Kd.R_lit (Kd.int .i32) _ 21 ?hg (N := 34) ?hd (xs := ([wrap32 (4352 + (wrap32 (Int.tdiv (wrap32 (a0 - 44032)) 588))), wrap32 (4449 + (Int.tmod (wrap32 (Int.tdiv (wrap32 (a0 - 44032)) 28)) 21)), wrap32 (4519 + (Int.tmod (wrap32 (a0 - 44032)) 28))] : List Int)) (inner := [.int .i32 (wrap32 (4352 + (wrap32 (Int.tdiv (wrap32 (a0 - 44032)) 588)))), .int .i32 (wrap32 (4449 + (Int.tmod (wrap32 (Int.tdiv (wrap32 (a0 - 44032)) 28)) 21))), .int .i32 (wrap32 (4519 + (Int.tmod (wrap32 (a0 - 44032)) 28)))]) (ok := fun _ => True) (okp := fun _ => True) ?hr ?hp (fun _ hk => hk) trivial (Below.refl _ _) (Nat.le_refl _) (by simp) ?_; (case hd => rfl); (case hg => rfl); (case hr => first | (go_simp; done) | (go_simp; rfl)); (case hp => exact (Reps.one (show Kd.M (Kd.int .i32) _ _ _ (wrap32 (4352 + (wrap32 (Int.tdiv (wrap32 (a0 - 44032)) 588)))) [.int .i32 (wrap32 (4352 + (wrap32 (Int.tdiv (wrap32 (a0 - 44032)) 588))))] from rfl) (Reps.one (show Kd.M (Kd.int .i32) _ _ _ (wrap32 (4449 + (Int.tmod (wrap32 (Int.tdiv (wrap32 (a0 - 44032)) 28)) 21))) [.int .i32 (wrap32 (4449 + (Int.tmod (wrap32 (Int.tdiv (wrap32 (a0 - 44032)) 28)) 21)))] from rfl) (Reps.one (show Kd.M (Kd.int .i32) _ _ _ (wrap32 (4519 + (Int.tmod (wrap32 (a0 - 44032)) 28))) [.int .i32 (wrap32 (4519 + (Int.tmod (wrap32 (a0 - 44032)) 28)))] from rfl) (Reps.none _ _))))); intro v440 w7 ho8 hb hg_ hnew_; clear hg_ hnew_; (first | rw [← Ny439.out] at ho8 | (simp only [Int.reduceToNat] at ho8; rw [← Ny439.out] at ho8)); have n_ := zI (aM (Kd.R_lower ho8 (below_size zB))) (aM (below_step zB hb)); clear HB; obtain ⟨HO441, HB⟩ := n_; clear hb ho8))
   go_ret
   exact ⟨_, zE, zR HO441, zB⟩
 ·replace c3 := Bool.eq_false_iff.mpr c3
  subst c3
  rw [if_neg (show ¬ (false = true) by decide)] at H
  obtain ⟨y442, hy442⟩ : ∃ y_ : List Int, y_ = (([a0] : List Int)) := ⟨_, rfl⟩
  replace H : (some y442) = some r := zY hy442 H
  have Ny442 := aM hy442
  clear hy442
  obtain rfl := sI H
  go_enter Try.func58, Try.ntmps58
  go_wp2_with (first | ((with_reducible refine gate_callee (f := 57) rfl ?_); refine goesL_ (some 7) rfl rfl Try.func57 zK rfl #[.int .i32 a0] rfl zM ?_; (with_reducible refine (toponymref04_Syllable.calls a0 false _ A2.out).mono ?_); rintro e w' ⟨rfl, ⟨nd, rfl⟩⟩; refine ⟨_, rfl, ?_⟩) | ((with_reducible refine gate_dst (N := 10) rfl ?_); refine Kd.R_lit (Kd.int .i32) _ 21 ?hg (N := 10) ?hd (xs := ([a0] : List Int)) (inner := [.int .i32 a0]) (ok := fun _ => True) (okp := fun _ => True) ?hr ?hp (fun _ hk => hk) trivial (Below.refl _ _) (Nat.le_refl _) (by simp) ?_; (case hd => rfl); (case hg => rfl); (case hr => first | (go_simp; done) | (go_simp; rfl)); (case hp => exact (Reps.one (show Kd.M (Kd.int .i32) _ _ _ a0 [.int .i32 a0] from rfl) (Reps.none _ _))); intro v443 w9 ho10 hb hg_ hnew_; clear hg_ hnew_; (first | rw [← Ny442.out] at ho10 | (simp only [Int.reduceToNat] at ho10; rw [← Ny442.out] at ho10)); have n_ := zI (aM (Kd.R_lower ho10 (below_size zB))) (aM (below_step zB hb)); clear HB; obtain ⟨HO444, HB⟩ := n_; clear hb ho10))
  go_ret
  exact ⟨_, zE, zR HO444, zB⟩

/-! ### toponymref05_Pair: function 59 -/
mutual
def toponymref05_Pair.l0 : Nat → Int → List (S89) → Int → Option (Int × Int × Bool)
 | 0, _, _, _ => none
 | k + 1, x0, x5, x6 => if x6 < (x5.length : Int) then (toponymref05_Pair.l1 k x0 x5 x6 0) else (some (0, 0, false))
def toponymref05_Pair.l1 : Nat → Int → List (S89) → Int → Int → Option (Int × Int × Bool)
 | 0, _, _, _, _ => none
 | k + 1, x0, x5, x6, x7 => if 0 ≤ x6 then (if x6 < (x5.length : Int) then (if (wrap64 (x7 + 1)) < (((rd_T89 x5 x6).f1).length : Int) then (if 0 ≤ x7 then (if x7 < (((rd_T89 x5 x6).f1).length : Int) then (if (rd ((rd_T89 x5 x6).f1) x7) = x0 then (if 0 ≤ (wrap64 (x7 + 1)) then (some ((rd_T89 x5 x6).f0, rd ((rd_T89 x5 x6).f1) (wrap64 (x7 + 1)), true)) else (none)) else (toponymref05_Pair.l1 k x0 x5 x6 (wrap64 (x7 + 2)))) else (none)) else (none)) else (toponymref05_Pair.l0 k x0 x5 (wrap64 (x6 + 1)))) else (none)) else (none)
end
def toponymref05_Pair.f (k : Nat) (a0 : Int) : Option (Int × Int × Bool) := (toponymref05_Bases.f).bind fun t445 => (toponymref05_Pair.l0 k a0 t445 0)
theorem toponymref05_Pair.mono_l : ∀ k, (∀ y0 y1 y2, LeO (toponymref05_Pair.l0 k y0 y1 y2) (toponymref05_Pair.l0 (k + 1) y0 y1 y2)) ∧ (∀ y0 y1 y2 y3, LeO (toponymref05_Pair.l1 k y0 y1 y2 y3) (toponymref05_Pair.l1 (k + 1) y0 y1 y2 y3))
 | 0 => ⟨fun _ _ _ r h => by simp [toponymref05_Pair.l0] at h, fun _ _ _ _ r h => by simp [toponymref05_Pair.l1] at h⟩
 | k + 1 => by
  obtain ⟨ih0, ih1⟩ := toponymref05_Pair.mono_l k
  refine ⟨?_, ?_⟩
  ·intro y0 y1 y2
   unfold toponymref05_Pair.l0
   repeat' first
   | (with_reducible exact ih0 _ _ _)
   | (with_reducible exact ih1 _ _ _ _)
   | (with_reducible exact LeO.refl _)
   | exact ih0 _ _ _
   | exact ih1 _ _ _ _
   | exact LeO.none _
   | refine LeO.ite ?_ ?_
   | refine LeO.bind ?_ (fun _ => ?_)
  ·intro y0 y1 y2 y3
   unfold toponymref05_Pair.l1
   repeat' first
   | (with_reducible exact ih0 _ _ _)
   | (with_reducible exact ih1 _ _ _ _)
   | (with_reducible exact LeO.refl _)
   | exact ih0 _ _ _
   | exact ih1 _ _ _ _
   | exact LeO.none _
   | refine LeO.ite ?_ ?_
   | refine LeO.bind ?_ (fun _ => ?_)
theorem toponymref05_Pair.mono : ∀ a0 k, LeO (toponymref05_Pair.f k a0) (toponymref05_Pair.f (k + 1) a0) := by
 intro a0 k
 obtain ⟨ih0, ih1⟩ := toponymref05_Pair.mono_l k
 unfold toponymref05_Pair.f
 repeat' first
   | (with_reducible exact ih0 _ _ _)
   | (with_reducible exact ih1 _ _ _ _)
   | (with_reducible exact LeO.refl _)
   | exact ih0 _ _ _
   | exact ih1 _ _ _ _
   | exact LeO.none _
   | refine LeO.ite ?_ ?_
   | refine LeO.bind ?_ (fun _ => ?_)
set_option maxHeartbeats 8000000 in
set_option maxRecDepth 100000 in
theorem toponymref05_Pair.calls (k : Nat) (a0 : Int) (r1 : Int) (r2 : Int) (r3 : Bool) (w : World) (h : toponymref05_Pair.f k a0 = some (r1, r2, r3)) :
  Calls Try.prog 59 #[.int .i32 a0] w fun e w' => e = .returned (.tuple #[.int .i32 r1, .int .i32 r2, .bool r3]) ∧ Below w.heap.size w w' := by
 have HB := aM (Below.refl w.heap.size w)
 have H : ((toponymref05_Bases.f).bind fun t445 => (toponymref05_Pair.l0 k a0 t445 0)) = some (r1, r2, r3) := h
 clear h
 obtain ⟨t445, A2, H⟩ := zO H
 have H' := aM H
 clear H
 go_enter Try.func59, Try.ntmps59
 go_wp2_with (first | (go_at_call 75; (with_reducible refine (toponymref05_Bases.calls  t445 _ A2.out).mono ?_); rintro e w3 ⟨v446, rfl, ho0, hb⟩; have n_ := zI (aM (Kd.N_lower (Kd.N_mono (ok' := fun k_ => True) ho0 (fun k_ hk_ => trivial)) (below_size zB))) (aM (below_step zB hb)); clear HB; obtain ⟨HO447, HB⟩ := n_; (try clear hb); (try clear ho0)))
 repeat (go_quiet (first | (go_at_call 75; (with_reducible refine (toponymref05_Bases.calls  t445 _ A2.out).mono ?_); rintro e w3 ⟨v446, rfl, ho0, hb⟩; have n_ := zI (aM (Kd.N_lower (Kd.N_mono (ok' := fun k_ => True) ho0 (fun k_ hk_ => trivial)) (below_size zB))) (aM (below_step zB hb)); clear HB; obtain ⟨HO447, HB⟩ := n_; (try clear hb); (try clear ho0))); try go_wp2_with (first | (go_at_call 75; (with_reducible refine (toponymref05_Bases.calls  t445 _ A2.out).mono ?_); rintro e w3 ⟨v446, rfl, ho0, hb⟩; have n_ := zI (aM (Kd.N_lower (Kd.N_mono (ok' := fun k_ => True) ho0 (fun k_ hk_ => trivial)) (below_size zB))) (aM (below_step zB hb)); clear HB; obtain ⟨HO447, HB⟩ := n_; (try clear hb); (try clear ho0))))
 go_loopg [6] k (fun kq v6 w' => ∃ (x6_1 : Int), v6 = .int .i64 x6_1 ∧ Aside0 (toponymref05_Pair.l0 kq a0 t445 x6_1 = some (r1, r2, r3)) ∧ Aside0 (kq ≤ k) ∧ Aside0 (Kd.N k89 89 w' w.heap.size (fun _ => True) v446 t445) ∧ Aside0 (Below w.heap.size w w'))
 case atStart => exact ⟨(0), zP, H', ⟨Nat.le_refl _⟩, ⟨zN HO447⟩, ⟨zB⟩⟩
 case round =>
  clear H'
  try clear p2
  obtain ⟨x6_1, rfl, HA, HK1, HO_5, HB⟩ := hrel
  cases gk with
  | zero => exact absurd HA.out (by simp [toponymref05_Pair.l0])
  | succ k1 =>
   have H := HA.out
   clear HA
   simp only [toponymref05_Pair.l0] at H
   by_cases c4 : x6_1 < (t445.length : Int)
   ·rw [if_pos c4] at H
    have c4b0 : decide (x6_1 < (t445.length : Int)) = true := decide_eq_true c4
    clear c4
    have H' := aM H
    clear H
    obtain ⟨Ao5, co5, eo5⟩ := Kd.N_slice HO_5.out
    subst eo5
    go_wp2
    repeat (go_quiet (fail); try go_wp2)
    go_loopg [7] k1 (fun kq v7 w' => ∃ (x7_2 : Int), v7 = .int .i64 x7_2 ∧ Aside0 (toponymref05_Pair.l1 kq a0 t445 x6_1 x7_2 = some (r1, r2, r3)) ∧ Aside0 (kq ≤ k1) ∧ Aside0 (Kd.N k89 89 w' w.heap.size (fun _ => True) (.slice Ao5 t445.length co5) t445) ∧ Aside0 (Below w.heap.size w w'))
    case atStart => exact ⟨(0), zP, H', ⟨Nat.le_refl _⟩, ⟨zN HO_5⟩, ⟨zB⟩⟩
    case round =>
     clear H'
     try clear p2
     try clear c4
     try clear c4b0
     try clear c5
     try clear p2
     obtain ⟨x7_2, rfl, HA, HK2, HO_5, HB⟩ := hrel
     cases gk with
     | zero => exact absurd HA.out (by simp [toponymref05_Pair.l1])
     | succ k2 =>
      have H := HA.out
      clear HA
      simp only [toponymref05_Pair.l1] at H
      by_cases c6 : 0 ≤ x6_1
      ·rw [if_pos c6] at H
       have c6b0 : decide (0 ≤ x6_1) = true := decide_eq_true c6
       clear c6
       by_cases c7 : x6_1 < (t445.length : Int)
       ·rw [if_pos c7] at H
        have c7b0 : decide (x6_1 < (t445.length : Int)) = true := decide_eq_true c7
        clear c7
        by_cases c8 : (wrap64 (x7_2 + 1)) < (((rd_T89 t445 x6_1).f1).length : Int)
        ·rw [if_pos c8] at H
         have c8b0 : decide ((wrap64 (x7_2 + 1)) < (((rd_T89 t445 x6_1).f1).length : Int)) = true := decide_eq_true c8
         clear c8
         by_cases c9 : 0 ≤ x7_2
         ·rw [if_pos c9] at H
          have c9b0 : decide (0 ≤ x7_2) = true := decide_eq_true c9
          clear c9
          by_cases c10 : x7_2 < (((rd_T89 t445 x6_1).f1).length : Int)
          ·rw [if_pos c10] at H
           have c10b0 : decide (x7_2 < (((rd_T89 t445 x6_1).f1).length : Int)) = true := decide_eq_true c10
           clear c10
           by_cases c11 : (rd ((rd_T89 t445 x6_1).f1) x7_2) = a0
           ·rw [if_pos c11] at H
            have c11b0 : ((rd ((rd_T89 t445 x6_1).f1) x7_2) == a0) = true := beq_iff_eq.mpr c11
            have c11b1 : ((rd ((rd_T89 t445 x6_1).f1) x7_2) != a0) = false := bne_eq_false_iff_eq.mpr c11
            clear c11
            obtain ⟨ji12, hji12⟩ : ∃ j_ : Int, (wrap64 (x7_2 + 1)) = j_ := ⟨_, rfl⟩
            replace H : (if 0 ≤ (ji12) then (some ((rd_T89 t445 x6_1).f0, rd ((rd_T89 t445 x6_1).f1) (ji12), true)) else (none)) = some (r1, r2, r3) := by first | (rw [hji12] at H; exact H) | (simp only [hji12] at H ⊢; exact H)
            (try rw [hji12] at c8b0)
            have hji12w : (IntKind.i64.wrap (x7_2 + 1)) = ji12 := (i64_w _).trans hji12
            by_cases c13 : 0 ≤ (ji12)
            ·rw [if_pos c13] at H
             have c13b0 : decide (0 ≤ (ji12)) = true := decide_eq_true c13
             clear c13
             simp only [Option.some.injEq, Prod.mk.injEq] at H
             obtain ⟨rfl, rfl, rfl⟩ := H
             have p448 : 0 ≤ (x6_1 : Int) := zoA
             have q448 : x6_1 < (t445.length : Int) := zoA
             obtain ⟨ad448, A448_1, c448_1, e448, hx448_0, hx448_1, hl448_1, hi448_1⟩ := at_T89 (Kd.N_reads' HO_5.out).2.2 x6_1 p448 q448
             cases e448
             obtain ⟨ce448, hce448, hMe448, hcc448⟩ := Kd.N_get HO_5.out z89 x6_1 p448 (by first | exact q448 | exact zoA | (have e_ := (Kd.N_reads' HO_5.out).1; omega))
             obtain ⟨ua448_1, uc448_1, rfl, ul448_1, ge448_1⟩ := k89_openF hMe448
             have hv448_1 := hcc448 1 _ rfl
             rw [add_field _ _ 1 (by omega)] at hv448_1
             replace hv448_1 := sI (hv448_1.symm.trans hx448_1)
             injection hv448_1 with hva_ hvn_ hvc_
             rw [hva_] at ge448_1
             rw [hvc_] at ul448_1
             have HL448_1 := aM (show Kd.V (Kd.int .i32) 21 _ w.heap.size _ _ ((rd_T89 t445 x6_1).f1) from Kd.V_mk ul448_1 ge448_1)
             clear hva_ hvn_ hvc_ ge448_1 ul448_1
             clear hcc448 hce448
             have HR448_1 := aM hi448_1
             have HC448_1 := aM hl448_1
             clear hi448_1 hl448_1
             replace p448 := eq_true p448
             replace q448 := eq_true q448
             have p449 : 0 ≤ (x6_1 : Int) := zoA
             have q449 : x6_1 < (t445.length : Int) := zoA
             obtain ⟨ad449, A449_1, c449_1, e449, hx449_0, hx449_1, hl449_1, hi449_1⟩ := at_T89 (Kd.N_reads' HO_5.out).2.2 x6_1 p449 q449
             obtain rfl : ad448 = ad449 := (by injection e449)
             obtain ⟨ce449, hce449, hMe449, hcc449⟩ := Kd.N_get HO_5.out z89 x6_1 p449 (by first | exact q449 | exact zoA | (have e_ := (Kd.N_reads' HO_5.out).1; omega))
             obtain ⟨ua449_1, uc449_1, rfl, ul449_1, ge449_1⟩ := k89_openF hMe449
             have hv449_1 := hcc449 1 _ rfl
             rw [add_field _ _ 1 (by omega)] at hv449_1
             replace hv449_1 := sI (hv449_1.symm.trans hx449_1)
             injection hv449_1 with hva_ hvn_ hvc_
             rw [hva_] at ge449_1
             rw [hvc_] at ul449_1
             have HL449_1 := aM (show Kd.V (Kd.int .i32) 21 _ w.heap.size _ _ ((rd_T89 t445 x6_1).f1) from Kd.V_mk ul449_1 ge449_1)
             clear hva_ hvn_ hvc_ ge449_1 ul449_1
             clear hcc449 hce449
             have HR449_1 := aM hi449_1
             have HC449_1 := aM hl449_1
             clear hi449_1 hl449_1
             replace p449 := eq_true p449
             replace q449 := eq_true q449
             have ea_ := sI (hx448_1.symm.trans hx449_1)
             injection ea_ with ea_ en_ ec_
             subst ea_
             subst ec_
             clear en_
             have p450 : 0 ≤ (x7_2 : Int) := zoA
             have q450 : x7_2 < (((rd_T89 t445 x6_1).f1).length : Int) := zoA
             obtain ⟨ad450, e450, hx450_0⟩ := Kd.at_int (by repeat (first | (with_reducible exact HR449_1.out) | (with_reducible refine Kd.C_alloc ?_ _) | (with_reducible refine Kd.C_drewN ?_ _) | (with_reducible refine Kd.C_drew ?_) | exact HR449_1.out)) x7_2 p450 q450
             cases e450
             replace p450 := eq_true p450
             replace q450 := eq_true q450
             have p451 : 0 ≤ (x6_1 : Int) := zoA
             have q451 : x6_1 < (t445.length : Int) := zoA
             obtain ⟨ad451, A451_1, c451_1, e451, hx451_0, hx451_1, hl451_1, hi451_1⟩ := at_T89 (Kd.N_reads' HO_5.out).2.2 x6_1 p451 q451
             obtain rfl : ad448 = ad451 := (by injection e451)
             obtain ⟨ce451, hce451, hMe451, hcc451⟩ := Kd.N_get HO_5.out z89 x6_1 p451 (by first | exact q451 | exact zoA | (have e_ := (Kd.N_reads' HO_5.out).1; omega))
             obtain ⟨ua451_1, uc451_1, rfl, ul451_1, ge451_1⟩ := k89_openF hMe451
             have hv451_1 := hcc451 1 _ rfl
             rw [add_field _ _ 1 (by omega)] at hv451_1
             replace hv451_1 := sI (hv451_1.symm.trans hx451_1)
             injection hv451_1 with hva_ hvn_ hvc_
             rw [hva_] at ge451_1
             rw [hvc_] at ul451_1
             have HL451_1 := aM (show Kd.V (Kd.int .i32) 21 _ w.heap.size _ _ ((rd_T89 t445 x6_1).f1) from Kd.V_mk ul451_1 ge451_1)
             clear hva_ hvn_ hvc_ ge451_1 ul451_1
             clear hcc451 hce451
             have HR451_1 := aM hi451_1
             have HC451_1 := aM hl451_1
             clear hi451_1 hl451_1
             replace p451 := eq_true p451
             replace q451 := eq_true q451
             have ea_ := sI (hx448_1.symm.trans hx451_1)
             injection ea_ with ea_ en_ ec_
             subst ea_
             subst ec_
             clear en_
             have p452 : 0 ≤ (x6_1 : Int) := zoA
             have q452 : x6_1 < (t445.length : Int) := zoA
             obtain ⟨ad452, A452_1, c452_1, e452, hx452_0, hx452_1, hl452_1, hi452_1⟩ := at_T89 (Kd.N_reads' HO_5.out).2.2 x6_1 p452 q452
             obtain rfl : ad448 = ad452 := (by injection e452)
             obtain ⟨ce452, hce452, hMe452, hcc452⟩ := Kd.N_get HO_5.out z89 x6_1 p452 (by first | exact q452 | exact zoA | (have e_ := (Kd.N_reads' HO_5.out).1; omega))
             obtain ⟨ua452_1, uc452_1, rfl, ul452_1, ge452_1⟩ := k89_openF hMe452
             have hv452_1 := hcc452 1 _ rfl
             rw [add_field _ _ 1 (by omega)] at hv452_1
             replace hv452_1 := sI (hv452_1.symm.trans hx452_1)
             injection hv452_1 with hva_ hvn_ hvc_
             rw [hva_] at ge452_1
             rw [hvc_] at ul452_1
             have HL452_1 := aM (show Kd.V (Kd.int .i32) 21 _ w.heap.size _ _ ((rd_T89 t445 x6_1).f1) from Kd.V_mk ul452_1 ge452_1)
             clear hva_ hvn_ hvc_ ge452_1 ul452_1
             clear hcc452 hce452
             have HR452_1 := aM hi452_1
             have HC452_1 := aM hl452_1
             clear hi452_1 hl452_1
             replace p452 := eq_true p452
             replace q452 := eq_true q452
             have ea_ := sI (hx448_1.symm.trans hx452_1)
             injection ea_ with ea_ en_ ec_
             subst ea_
             subst ec_
             clear en_
             have p453 : 0 ≤ ((ji12) : Int) := zoA
             have q453 : (ji12) < (((rd_T89 t445 x6_1).f1).length : Int) := zoA
             obtain ⟨ad453, e453, hx453_0⟩ := Kd.at_int (by repeat (first | (with_reducible exact HR452_1.out) | (with_reducible refine Kd.C_alloc ?_ _) | (with_reducible refine Kd.C_drewN ?_ _) | (with_reducible refine Kd.C_drew ?_) | exact HR452_1.out)) (ji12) p453 q453
             cases e453
             replace p453 := eq_true p453
             replace q453 := eq_true q453
             go_wp2
             repeat (go_quiet (fail); try go_wp2)
             go_ret3
             exact ⟨by first | rfl | (simp [errW_none, errW_some] <;> rfl) | (simp only [← hji12]; first | rfl | (simp [errW_none, errW_some] <;> rfl)) | (simp [*, errW_none, errW_some] <;> rfl), zB⟩
            ·rw [if_neg c13] at H
             exact absurd H (by simp)
           ·rw [if_neg c11] at H
            have c11b0 : ((rd ((rd_T89 t445 x6_1).f1) x7_2) == a0) = false := beq_eq_false_iff_ne.mpr c11
            have c11b1 : ((rd ((rd_T89 t445 x6_1).f1) x7_2) != a0) = true := bne_iff_ne.mpr c11
            have H' := aM H
            clear H
            have p448 : 0 ≤ (x6_1 : Int) := zoA
            have q448 : x6_1 < (t445.length : Int) := zoA
            obtain ⟨ad448, A448_1, c448_1, e448, hx448_0, hx448_1, hl448_1, hi448_1⟩ := at_T89 (Kd.N_reads' HO_5.out).2.2 x6_1 p448 q448
            cases e448
            obtain ⟨ce448, hce448, hMe448, hcc448⟩ := Kd.N_get HO_5.out z89 x6_1 p448 (by first | exact q448 | exact zoA | (have e_ := (Kd.N_reads' HO_5.out).1; omega))
            obtain ⟨ua448_1, uc448_1, rfl, ul448_1, ge448_1⟩ := k89_openF hMe448
            have hv448_1 := hcc448 1 _ rfl
            rw [add_field _ _ 1 (by omega)] at hv448_1
            replace hv448_1 := sI (hv448_1.symm.trans hx448_1)
            injection hv448_1 with hva_ hvn_ hvc_
            rw [hva_] at ge448_1
            rw [hvc_] at ul448_1
            have HL448_1 := aM (show Kd.V (Kd.int .i32) 21 _ w.heap.size _ _ ((rd_T89 t445 x6_1).f1) from Kd.V_mk ul448_1 ge448_1)
            clear hva_ hvn_ hvc_ ge448_1 ul448_1
            clear hcc448 hce448
            have HR448_1 := aM hi448_1
            have HC448_1 := aM hl448_1
            clear hi448_1 hl448_1
            replace p448 := eq_true p448
            replace q448 := eq_true q448
            have p449 : 0 ≤ (x6_1 : Int) := zoA
            have q449 : x6_1 < (t445.length : Int) := zoA
            obtain ⟨ad449, A449_1, c449_1, e449, hx449_0, hx449_1, hl449_1, hi449_1⟩ := at_T89 (Kd.N_reads' HO_5.out).2.2 x6_1 p449 q449
            obtain rfl : ad448 = ad449 := (by injection e449)
            obtain ⟨ce449, hce449, hMe449, hcc449⟩ := Kd.N_get HO_5.out z89 x6_1 p449 (by first | exact q449 | exact zoA | (have e_ := (Kd.N_reads' HO_5.out).1; omega))
            obtain ⟨ua449_1, uc449_1, rfl, ul449_1, ge449_1⟩ := k89_openF hMe449
            have hv449_1 := hcc449 1 _ rfl
            rw [add_field _ _ 1 (by omega)] at hv449_1
            replace hv449_1 := sI (hv449_1.symm.trans hx449_1)
            injection hv449_1 with hva_ hvn_ hvc_
            rw [hva_] at ge449_1
            rw [hvc_] at ul449_1
            have HL449_1 := aM (show Kd.V (Kd.int .i32) 21 _ w.heap.size _ _ ((rd_T89 t445 x6_1).f1) from Kd.V_mk ul449_1 ge449_1)
            clear hva_ hvn_ hvc_ ge449_1 ul449_1
            clear hcc449 hce449
            have HR449_1 := aM hi449_1
            have HC449_1 := aM hl449_1
            clear hi449_1 hl449_1
            replace p449 := eq_true p449
            replace q449 := eq_true q449
            have ea_ := sI (hx448_1.symm.trans hx449_1)
            injection ea_ with ea_ en_ ec_
            subst ea_
            subst ec_
            clear en_
            have p450 : 0 ≤ (x7_2 : Int) := zoA
            have q450 : x7_2 < (((rd_T89 t445 x6_1).f1).length : Int) := zoA
            obtain ⟨ad450, e450, hx450_0⟩ := Kd.at_int (by repeat (first | (with_reducible exact HR449_1.out) | (with_reducible refine Kd.C_alloc ?_ _) | (with_reducible refine Kd.C_drewN ?_ _) | (with_reducible refine Kd.C_drew ?_) | exact HR449_1.out)) x7_2 p450 q450
            cases e450
            replace p450 := eq_true p450
            replace q450 := eq_true q450
            go_wp2
            repeat (go_quiet (fail); try go_wp2)
            go_roundg k2
            case measure => have := HK1.out; have := HK2.out; omega
            case rel => exact ⟨(wrap64 (x7_2 + 2)), zP, H', ⟨by have := HK1.out; have := HK2.out; omega⟩, ⟨zN HO_5⟩, ⟨zB⟩⟩
          ·rw [if_neg c10] at H
           exact absurd H (by simp)
         ·rw [if_neg c9] at H
          exact absurd H (by simp)
        ·rw [if_neg c8] at H
         have c8b0 : decide ((wrap64 (x7_2 + 1)) < (((rd_T89 t445 x6_1).f1).length : Int)) = false := decide_eq_false c8
         clear c8
         have H' := aM H
         clear H
         have p448 : 0 ≤ (x6_1 : Int) := zoA
         have q448 : x6_1 < (t445.length : Int) := zoA
         obtain ⟨ad448, A448_1, c448_1, e448, hx448_0, hx448_1, hl448_1, hi448_1⟩ := at_T89 (Kd.N_reads' HO_5.out).2.2 x6_1 p448 q448
         cases e448
         obtain ⟨ce448, hce448, hMe448, hcc448⟩ := Kd.N_get HO_5.out z89 x6_1 p448 (by first | exact q448 | exact zoA | (have e_ := (Kd.N_reads' HO_5.out).1; omega))
         obtain ⟨ua448_1, uc448_1, rfl, ul448_1, ge448_1⟩ := k89_openF hMe448
         have hv448_1 := hcc448 1 _ rfl
         rw [add_field _ _ 1 (by omega)] at hv448_1
         replace hv448_1 := sI (hv448_1.symm.trans hx448_1)
         injection hv448_1 with hva_ hvn_ hvc_
         rw [hva_] at ge448_1
         rw [hvc_] at ul448_1
         have HL448_1 := aM (show Kd.V (Kd.int .i32) 21 _ w.heap.size _ _ ((rd_T89 t445 x6_1).f1) from Kd.V_mk ul448_1 ge448_1)
         clear hva_ hvn_ hvc_ ge448_1 ul448_1
         clear hcc448 hce448
         have HR448_1 := aM hi448_1
         have HC448_1 := aM hl448_1
         clear hi448_1 hl448_1
         replace p448 := eq_true p448
         replace q448 := eq_true q448
         go_wp2
         repeat (go_quiet (fail); try go_wp2)
         go_roundg k2
         case measure => have := HK1.out; have := HK2.out; omega
         case rel => exact ⟨(wrap64 (x6_1 + 1)), zP, H', ⟨by have := HK1.out; have := HK2.out; omega⟩, ⟨zN HO_5⟩, ⟨zB⟩⟩
       ·rw [if_neg c7] at H
        exact absurd H (by simp)
      ·rw [if_neg c6] at H
       exact absurd H (by simp)
   ·rw [if_neg c4] at H
    have c4b0 : decide (x6_1 < (t445.length : Int)) = false := decide_eq_false c4
    clear c4
    simp only [Option.some.injEq, Prod.mk.injEq] at H
    obtain ⟨rfl, rfl, rfl⟩ := H
    obtain ⟨Ao14, co14, eo14⟩ := Kd.N_slice HO_5.out
    subst eo14
    go_wp2
    repeat (go_quiet (fail); try go_wp2)
    go_ret3
    exact ⟨zE, zB⟩

/-! ### toponymref05_Single: function 60 -/
def toponymref05_Single.f (a0 : Int) : Option (Int × Bool) := if (wrap64 (a0)) = 8192 then (some (8194, true)) else (if (wrap64 (a0)) = 8193 then (some (8195, true)) else (if (wrap64 (a0)) = 8486 then (some (937, true)) else (if (wrap64 (a0)) = 8490 then (some (75, true)) else (if (wrap64 (a0)) = 8491 then (some (197, true)) else (some (0, false))))))
set_option maxHeartbeats 8000000 in
set_option maxRecDepth 100000 in
theorem toponymref05_Single.calls (a0 : Int) (r1 : Int) (r2 : Bool) (w : World) (h : toponymref05_Single.f a0 = some (r1, r2)) :
  Calls Try.prog 60 #[.int .i32 a0] w fun e w' => e = .returned (.tuple #[.int .i32 r1, .bool r2]) ∧ Drawn0 w w' := by
 have H : (if (wrap64 (a0)) = 8192 then (some (8194, true)) else (if (wrap64 (a0)) = 8193 then (some (8195, true)) else (if (wrap64 (a0)) = 8486 then (some (937, true)) else (if (wrap64 (a0)) = 8490 then (some (75, true)) else (if (wrap64 (a0)) = 8491 then (some (197, true)) else (some (0, false))))))) = some (r1, r2) := h
 clear h
 by_cases c2 : (wrap64 (a0)) = 8192
 ·rw [if_pos c2] at H
  have c2b0 : ((wrap64 (a0)) == 8192) = true := beq_iff_eq.mpr c2
  have c2b1 : ((wrap64 (a0)) != 8192) = false := bne_eq_false_iff_eq.mpr c2
  clear c2
  simp only [Option.some.injEq, Prod.mk.injEq] at H
  obtain ⟨rfl, rfl⟩ := H
  go_enter Try.func60, Try.ntmps60
  go_wp2
  go_ret2
  exact ⟨zP, zD⟩
 ·rw [if_neg c2] at H
  have c2b0 : ((wrap64 (a0)) == 8192) = false := beq_eq_false_iff_ne.mpr c2
  have c2b1 : ((wrap64 (a0)) != 8192) = true := bne_iff_ne.mpr c2
  by_cases c3 : (wrap64 (a0)) = 8193
  ·rw [if_pos c3] at H
   have c3b0 : ((wrap64 (a0)) == 8193) = true := beq_iff_eq.mpr c3
   have c3b1 : ((wrap64 (a0)) != 8193) = false := bne_eq_false_iff_eq.mpr c3
   clear c3
   simp only [Option.some.injEq, Prod.mk.injEq] at H
   obtain ⟨rfl, rfl⟩ := H
   go_enter Try.func60, Try.ntmps60
   go_wp2
   go_ret2
   exact ⟨zP, zD⟩
  ·rw [if_neg c3] at H
   have c3b0 : ((wrap64 (a0)) == 8193) = false := beq_eq_false_iff_ne.mpr c3
   have c3b1 : ((wrap64 (a0)) != 8193) = true := bne_iff_ne.mpr c3
   by_cases c4 : (wrap64 (a0)) = 8486
   ·rw [if_pos c4] at H
    have c4b0 : ((wrap64 (a0)) == 8486) = true := beq_iff_eq.mpr c4
    have c4b1 : ((wrap64 (a0)) != 8486) = false := bne_eq_false_iff_eq.mpr c4
    clear c4
    simp only [Option.some.injEq, Prod.mk.injEq] at H
    obtain ⟨rfl, rfl⟩ := H
    go_enter Try.func60, Try.ntmps60
    go_wp2
    go_ret2
    exact ⟨zP, zD⟩
   ·rw [if_neg c4] at H
    have c4b0 : ((wrap64 (a0)) == 8486) = false := beq_eq_false_iff_ne.mpr c4
    have c4b1 : ((wrap64 (a0)) != 8486) = true := bne_iff_ne.mpr c4
    by_cases c5 : (wrap64 (a0)) = 8490
    ·rw [if_pos c5] at H
     have c5b0 : ((wrap64 (a0)) == 8490) = true := beq_iff_eq.mpr c5
     have c5b1 : ((wrap64 (a0)) != 8490) = false := bne_eq_false_iff_eq.mpr c5
     clear c5
     simp only [Option.some.injEq, Prod.mk.injEq] at H
     obtain ⟨rfl, rfl⟩ := H
     go_enter Try.func60, Try.ntmps60
     go_wp2
     go_ret2
     exact ⟨zP, zD⟩
    ·rw [if_neg c5] at H
     have c5b0 : ((wrap64 (a0)) == 8490) = false := beq_eq_false_iff_ne.mpr c5
     have c5b1 : ((wrap64 (a0)) != 8490) = true := bne_iff_ne.mpr c5
     by_cases c6 : (wrap64 (a0)) = 8491
     ·rw [if_pos c6] at H
      have c6b0 : ((wrap64 (a0)) == 8491) = true := beq_iff_eq.mpr c6
      have c6b1 : ((wrap64 (a0)) != 8491) = false := bne_eq_false_iff_eq.mpr c6
      clear c6
      simp only [Option.some.injEq, Prod.mk.injEq] at H
      obtain ⟨rfl, rfl⟩ := H
      go_enter Try.func60, Try.ntmps60
      go_wp2
      go_ret2
      exact ⟨zP, zD⟩
     ·rw [if_neg c6] at H
      have c6b0 : ((wrap64 (a0)) == 8491) = false := beq_eq_false_iff_ne.mpr c6
      have c6b1 : ((wrap64 (a0)) != 8491) = true := bne_iff_ne.mpr c6
      simp only [Option.some.injEq, Prod.mk.injEq] at H
      obtain ⟨rfl, rfl⟩ := H
      go_enter Try.func60, Try.ntmps60
      go_wp2
      go_ret2
      exact ⟨zP, zD⟩

/-! ### toponymref05_roman: function 76 -/
def toponymref05_roman.f : Nat → Int → Int → Int → Int → Option (List Int)
 | 0, _, _, _, _ => none
 | k + 1, a0, a1, a2, a3 => if a0 ≥ 10 then ((some (([a3] : List Int) : List Int)).bind fun y454 => ((toponymref05_roman.f k (wrap64 (a0 - 10)) a1 a2 a3).bind fun t457 => (if y454.length + t457.length < 35184372088832 then (some (y454 ++ t457)) else (none)))) else (if a0 = 9 then (some (([a1, a3] : List Int))) else (if a0 ≥ 5 then ((some (([a2] : List Int) : List Int)).bind fun y466 => ((toponymref05_roman.f k (wrap64 (a0 - 5)) a1 a2 a3).bind fun t469 => (if y466.length + t469.length < 35184372088832 then (some (y466 ++ t469)) else (none)))) else (if a0 = 4 then (some (([a1, a2] : List Int))) else (if a0 ≥ 1 then ((some (([a1] : List Int) : List Int)).bind fun y478 => ((toponymref05_roman.f k (wrap64 (a0 - 1)) a1 a2 a3).bind fun t481 => (if y478.length + t481.length < 35184372088832 then (some (y478 ++ t481)) else (none)))) else (some ([] : List Int))))))
theorem toponymref05_roman.mono_l : ∀ k, (∀ y0 y1 y2 y3, LeO (toponymref05_roman.f k y0 y1 y2 y3) (toponymref05_roman.f (k + 1) y0 y1 y2 y3))
 | 0 => fun _ _ _ _ r h => by simp [toponymref05_roman.f] at h
 | k + 1 => by
  have ih0 := toponymref05_roman.mono_l k
  ·intro y0 y1 y2 y3
   unfold toponymref05_roman.f
   repeat' first
   | (with_reducible exact ih0 _ _ _ _)
   | (with_reducible exact LeO.refl _)
   | exact ih0 _ _ _ _
   | exact LeO.none _
   | refine LeO.ite ?_ ?_
   | refine LeO.bind ?_ (fun _ => ?_)
theorem toponymref05_roman.mono : ∀ a0 a1 a2 a3 k, LeO (toponymref05_roman.f k a0 a1 a2 a3) (toponymref05_roman.f (k + 1) a0 a1 a2 a3) := by
 intro a0 a1 a2 a3 k
 have ih0 := toponymref05_roman.mono_l k
 exact ih0 a0 a1 a2 a3
set_option maxHeartbeats 8000000 in
set_option maxRecDepth 100000 in
theorem toponymref05_roman.calls (k : Nat) : ∀ (a0 : Int) (a1 : Int) (a2 : Int) (a3 : Int) (r : List Int) (w : World) (h : toponymref05_roman.f k a0 a1 a2 a3 = some r),
  Calls Try.prog 76 #[.int .i64 a0, .int .i32 a1, .int .i32 a2, .int .i32 a3] w fun e w' => ∃ v0_ : Value, e = .returned (v0_) ∧ Kd.R (Kd.int .i32) 21 w' w.heap.size (fun _ => True) v0_ r ∧ Below w.heap.size w w' := by
 induction k using Nat.strongRecOn with
 | _ k ih =>
 intro a0 a1 a2 a3 r w h
 cases k with
 | zero => exact absurd h (by simp [toponymref05_roman.f])
 | succ k =>
 simp only [toponymref05_roman.f] at h
 have HB := aM (Below.refl w.heap.size w)
 have H : (if a0 ≥ 10 then ((some (([a3] : List Int) : List Int)).bind fun y454 => ((toponymref05_roman.f k (wrap64 (a0 - 10)) a1 a2 a3).bind fun t457 => (if y454.length + t457.length < 35184372088832 then (some (y454 ++ t457)) else (none)))) else (if a0 = 9 then (some (([a1, a3] : List Int))) else (if a0 ≥ 5 then ((some (([a2] : List Int) : List Int)).bind fun y466 => ((toponymref05_roman.f k (wrap64 (a0 - 5)) a1 a2 a3).bind fun t469 => (if y466.length + t469.length < 35184372088832 then (some (y466 ++ t469)) else (none)))) else (if a0 = 4 then (some (([a1, a2] : List Int))) else (if a0 ≥ 1 then ((some (([a1] : List Int) : List Int)).bind fun y478 => ((toponymref05_roman.f k (wrap64 (a0 - 1)) a1 a2 a3).bind fun t481 => (if y478.length + t481.length < 35184372088832 then (some (y478 ++ t481)) else (none)))) else (some ([] : List Int))))))) = some r := h
 clear h
 by_cases c5 : a0 ≥ 10
 ·rw [if_pos c5] at H
  have c5b0 : decide (10 ≤ a0) = true := decide_eq_true c5
  clear c5
  obtain ⟨y454, hy454⟩ : ∃ y_ : List Int, y_ = (([a3] : List Int)) := ⟨_, rfl⟩
  replace H : ((toponymref05_roman.f k (wrap64 (a0 - 10)) a1 a2 a3).bind fun t457 => (if y454.length + t457.length < 35184372088832 then (some (y454 ++ t457)) else (none))) = some r := zY hy454 H
  have Ny454 := aM hy454
  clear hy454
  obtain ⟨t457, A6, H⟩ := zO H
  by_cases c7 : y454.length + t457.length < 35184372088832
  ·rw [if_pos c7] at H
   have LMc7 := aM c7
   clear c7
   obtain ⟨y460, hy460⟩ : ∃ y_ : List Int, y_ = (y454 ++ t457) := ⟨_, rfl⟩
   replace H : (some y460) = some r := zY hy460 H
   have Ny460 := aM hy460
   clear hy460
   obtain rfl := sI H
   go_enter Try.func76, Try.ntmps76
   go_wp2_with (first | ((with_reducible refine gate_dst (N := 13) rfl ?_); refine Kd.R_lit (Kd.int .i32) _ 21 ?hg (N := 13) ?hd (xs := ([a3] : List Int)) (inner := [.int .i32 a3]) (ok := fun _ => True) (okp := fun _ => True) ?hr ?hp (fun _ hk => hk) trivial (Below.refl _ _) (Nat.le_refl _) (by simp) ?_; (case hd => rfl); (case hg => rfl); (case hr => first | (go_simp; done) | (go_simp; rfl)); (case hp => exact (Reps.one (show Kd.M (Kd.int .i32) _ _ _ a3 [.int .i32 a3] from rfl) (Reps.none _ _))); intro v455 w8 ho9 hb hg_ hnew_; clear hg_ hnew_; (first | rw [← Ny454.out] at ho9 | (simp only [Int.reduceToNat] at ho9; rw [← Ny454.out] at ho9)); have n_ := zI (aM (Kd.R_lower ho9 (below_size zB))) (aM (below_step zB hb)); clear HB; obtain ⟨HO456, HB⟩ := n_; clear hb ho9) | ((with_reducible refine gate_callee (f := 76) rfl ?_); refine goesL_ (some 19) rfl rfl Try.func76 zK rfl #[.int .i64 (wrap64 (a0 - 10)), .int .i32 a1, .int .i32 a2, .int .i32 a3] rfl zM ?_; (with_reducible refine (ih k (by omega) (wrap64 (a0 - 10)) a1 a2 a3 t457 _ A6.out).mono ?_); rintro e w10 ⟨v458, rfl, ho0, hb⟩; refine ⟨_, rfl, ?_⟩; have n_ := zI (aM (Kd.R_elder' (zR HO456) (Kd.R_base ho0) hb)) (zI (aM (Kd.R_lower (Kd.R_new' ho0 (Kd.R_lt (zR HO456))) (below_size zB))) (aM (below_step zB hb))); clear HO456 HB; obtain ⟨HO456, HO459, HB⟩ := n_; (try clear hb); (try clear hk); (try clear ho0); obtain ⟨Ao12, co12, rfl⟩ := Kd.R_slice HO459.out) | ((with_reducible refine gate_builtin (b := .append) (xs := #[.tmp 13, .tmp 19]) rfl ?_); at_builtin; refine Kd.R_append_rows (Kd.int .i32) (w0 := w) w.heap.size rfl (.tmp 13) (.tmp 19) 22 21 (.int .i32 0) 4 rfl Try.underlying22 info21 rfl (by decide) (by omega) v455 y454 t457 _ _ _ (fun k_ => some k_ ≠ (.slice Ao12 t457.length co12 : Value).ownBlock) (fun _ => False) rfl rfl ?aO ?aR (fun _ _ h => h) (fun _ h => h.elim) ?aF ?aB ?aS ?aL ?_; (case aR => repeat (first | exact (Kd.R_reads' HO459.out).2.2 | (with_reducible refine Kd.C_alloc ?_ _) | (with_reducible refine Kd.C_drewN ?_ _) | (with_reducible refine Kd.C_drew ?_))); (case aB => exact zB); (case aF => exact (fun k_ hk => Kd.fresh' (Kd.R_lt (zR HO459)) k_ hk)); (case aO => exact (by (with_reducible repeat (first | apply Kd.R_alloc | apply Kd.R_drewN | apply Kd.R_drew)); exact Kd.R_mono HO456.out (fun _ hk => hk.2))); (case aS => exact (below_size zB)); (case aL => have := LMc7.out; omega); intro v461 w11 ho hb hg hat; rw [← Ny460.out] at ho; have n_ := zI (aM (Kd.R_after (ok := (fun _ => True)) (zR HO459) hg hat)) (zI (aM (hb)) (aM (ho))); clear HO459 HB HO456; obtain ⟨HO459, HB, HO462⟩ := n_; clear ho hb hg hat))
   go_ret
   exact ⟨_, zE, by (with_reducible repeat (first | apply Kd.R_alloc | apply Kd.R_drewN | apply Kd.R_drew)); exact Kd.R_mono HO462.out (fun _ hk => trivial), zB⟩
  ·rw [if_neg c7] at H
   exact absurd H (by simp)
 ·rw [if_neg c5] at H
  have c5b0 : decide (10 ≤ a0) = false := decide_eq_false c5
  clear c5
  by_cases c13 : a0 = 9
  ·rw [if_pos c13] at H
   have c13b0 : (a0 == 9) = true := beq_iff_eq.mpr c13
   have c13b1 : (a0 != 9) = false := bne_eq_false_iff_eq.mpr c13
   clear c13
   obtain ⟨y463, hy463⟩ : ∃ y_ : List Int, y_ = (([a1, a3] : List Int)) := ⟨_, rfl⟩
   replace H : (some y463) = some r := zY hy463 H
   have Ny463 := aM hy463
   clear hy463
   obtain rfl := sI H
   go_enter Try.func76, Try.ntmps76
   go_wp2_with (first | ((with_reducible refine gate_dst (N := 26) rfl ?_); refine Kd.R_lit (Kd.int .i32) _ 21 ?hg (N := 26) ?hd (xs := ([a1, a3] : List Int)) (inner := [.int .i32 a1, .int .i32 a3]) (ok := fun _ => True) (okp := fun _ => True) ?hr ?hp (fun _ hk => hk) trivial (Below.refl _ _) (Nat.le_refl _) (by simp) ?_; (case hd => rfl); (case hg => rfl); (case hr => first | (go_simp; done) | (go_simp; rfl)); (case hp => exact (Reps.one (show Kd.M (Kd.int .i32) _ _ _ a1 [.int .i32 a1] from rfl) (Reps.one (show Kd.M (Kd.int .i32) _ _ _ a3 [.int .i32 a3] from rfl) (Reps.none _ _)))); intro v464 w14 ho15 hb hg_ hnew_; clear hg_ hnew_; (first | rw [← Ny463.out] at ho15 | (simp only [Int.reduceToNat] at ho15; rw [← Ny463.out] at ho15)); have n_ := zI (aM (Kd.R_lower ho15 (below_size zB))) (aM (below_step zB hb)); clear HB; obtain ⟨HO465, HB⟩ := n_; clear hb ho15))
   go_ret
   exact ⟨_, zE, zR HO465, zB⟩
  ·rw [if_neg c13] at H
   have c13b0 : (a0 == 9) = false := beq_eq_false_iff_ne.mpr c13
   have c13b1 : (a0 != 9) = true := bne_iff_ne.mpr c13
   by_cases c16 : a0 ≥ 5
   ·rw [if_pos c16] at H
    have c16b0 : decide (5 ≤ a0) = true := decide_eq_true c16
    clear c16
    obtain ⟨y466, hy466⟩ : ∃ y_ : List Int, y_ = (([a2] : List Int)) := ⟨_, rfl⟩
    replace H : ((toponymref05_roman.f k (wrap64 (a0 - 5)) a1 a2 a3).bind fun t469 => (if y466.length + t469.length < 35184372088832 then (some (y466 ++ t469)) else (none))) = some r := zY hy466 H
    have Ny466 := aM hy466
    clear hy466
    obtain ⟨t469, A17, H⟩ := zO H
    by_cases c18 : y466.length + t469.length < 35184372088832
    ·rw [if_pos c18] at H
     have LMc18 := aM c18
     clear c18
     obtain ⟨y472, hy472⟩ : ∃ y_ : List Int, y_ = (y466 ++ t469) := ⟨_, rfl⟩
     replace H : (some y472) = some r := zY hy472 H
     have Ny472 := aM hy472
     clear hy472
     obtain rfl := sI H
     go_enter Try.func76, Try.ntmps76
     go_wp2_with (first | ((with_reducible refine gate_dst (N := 31) rfl ?_); refine Kd.R_lit (Kd.int .i32) _ 21 ?hg (N := 31) ?hd (xs := ([a2] : List Int)) (inner := [.int .i32 a2]) (ok := fun _ => True) (okp := fun _ => True) ?hr ?hp (fun _ hk => hk) trivial (Below.refl _ _) (Nat.le_refl _) (by simp) ?_; (case hd => rfl); (case hg => rfl); (case hr => first | (go_simp; done) | (go_simp; rfl)); (case hp => exact (Reps.one (show Kd.M (Kd.int .i32) _ _ _ a2 [.int .i32 a2] from rfl) (Reps.none _ _))); intro v467 w19 ho20 hb hg_ hnew_; clear hg_ hnew_; (first | rw [← Ny466.out] at ho20 | (simp only [Int.reduceToNat] at ho20; rw [← Ny466.out] at ho20)); have n_ := zI (aM (Kd.R_lower ho20 (below_size zB))) (aM (below_step zB hb)); clear HB; obtain ⟨HO468, HB⟩ := n_; clear hb ho20) | ((with_reducible refine gate_callee (f := 76) rfl ?_); refine goesL_ (some 37) rfl rfl Try.func76 zK rfl #[.int .i64 (wrap64 (a0 - 5)), .int .i32 a1, .int .i32 a2, .int .i32 a3] rfl zM ?_; (with_reducible refine (ih k (by omega) (wrap64 (a0 - 5)) a1 a2 a3 t469 _ A17.out).mono ?_); rintro e w21 ⟨v470, rfl, ho0, hb⟩; refine ⟨_, rfl, ?_⟩; have n_ := zI (aM (Kd.R_elder' (zR HO468) (Kd.R_base ho0) hb)) (zI (aM (Kd.R_lower (Kd.R_new' ho0 (Kd.R_lt (zR HO468))) (below_size zB))) (aM (below_step zB hb))); clear HO468 HB; obtain ⟨HO468, HO471, HB⟩ := n_; (try clear hb); (try clear hk); (try clear ho0); obtain ⟨Ao23, co23, rfl⟩ := Kd.R_slice HO471.out) | ((with_reducible refine gate_builtin (b := .append) (xs := #[.tmp 31, .tmp 37]) rfl ?_); at_builtin; refine Kd.R_append_rows (Kd.int .i32) (w0 := w) w.heap.size rfl (.tmp 31) (.tmp 37) 22 21 (.int .i32 0) 4 rfl Try.underlying22 info21 rfl (by decide) (by omega) v467 y466 t469 _ _ _ (fun k_ => some k_ ≠ (.slice Ao23 t469.length co23 : Value).ownBlock) (fun _ => False) rfl rfl ?aO ?aR (fun _ _ h => h) (fun _ h => h.elim) ?aF ?aB ?aS ?aL ?_; (case aR => repeat (first | exact (Kd.R_reads' HO471.out).2.2 | (with_reducible refine Kd.C_alloc ?_ _) | (with_reducible refine Kd.C_drewN ?_ _) | (with_reducible refine Kd.C_drew ?_))); (case aB => exact zB); (case aF => exact (fun k_ hk => Kd.fresh' (Kd.R_lt (zR HO471)) k_ hk)); (case aO => exact (by (with_reducible repeat (first | apply Kd.R_alloc | apply Kd.R_drewN | apply Kd.R_drew)); exact Kd.R_mono HO468.out (fun _ hk => hk.2))); (case aS => exact (below_size zB)); (case aL => have := LMc18.out; omega); intro v473 w22 ho hb hg hat; rw [← Ny472.out] at ho; have n_ := zI (aM (Kd.R_after (ok := (fun _ => True)) (zR HO471) hg hat)) (zI (aM (hb)) (aM (ho))); clear HO471 HB HO468; obtain ⟨HO471, HB, HO474⟩ := n_; clear ho hb hg hat))
     go_ret
     exact ⟨_, zE, by (with_reducible repeat (first | apply Kd.R_alloc | apply Kd.R_drewN | apply Kd.R_drew)); exact Kd.R_mono HO474.out (fun _ hk => trivial), zB⟩
    ·rw [if_neg c18] at H
     exact absurd H (by simp)
   ·rw [if_neg c16] at H
    have c16b0 : decide (5 ≤ a0) = false := decide_eq_false c16
    clear c16
    by_cases c24 : a0 = 4
    ·rw [if_pos c24] at H
     have c24b0 : (a0 == 4) = true := beq_iff_eq.mpr c24
     have c24b1 : (a0 != 4) = false := bne_eq_false_iff_eq.mpr c24
     clear c24
     obtain ⟨y475, hy475⟩ : ∃ y_ : List Int, y_ = (([a1, a2] : List Int)) := ⟨_, rfl⟩
     replace H : (some y475) = some r := zY hy475 H
     have Ny475 := aM hy475
     clear hy475
     obtain rfl := sI H
     go_enter Try.func76, Try.ntmps76
     go_wp2_with (first | ((with_reducible refine gate_dst (N := 44) rfl ?_); refine Kd.R_lit (Kd.int .i32) _ 21 ?hg (N := 44) ?hd (xs := ([a1, a2] : List Int)) (inner := [.int .i32 a1, .int .i32 a2]) (ok := fun _ => True) (okp := fun _ => True) ?hr ?hp (fun _ hk => hk) trivial (Below.refl _ _) (Nat.le_refl _) (by simp) ?_; (case hd => rfl); (case hg => rfl); (case hr => first | (go_simp; done) | (go_simp; rfl)); (case hp => exact (Reps.one (show Kd.M (Kd.int .i32) _ _ _ a1 [.int .i32 a1] from rfl) (Reps.one (show Kd.M (Kd.int .i32) _ _ _ a2 [.int .i32 a2] from rfl) (Reps.none _ _)))); intro v476 w25 ho26 hb hg_ hnew_; clear hg_ hnew_; (first | rw [← Ny475.out] at ho26 | (simp only [Int.reduceToNat] at ho26; rw [← Ny475.out] at ho26)); have n_ := zI (aM (Kd.R_lower ho26 (below_size zB))) (aM (below_step zB hb)); clear HB; obtain ⟨HO477, HB⟩ := n_; clear hb ho26))
     go_ret
     exact ⟨_, zE, zR HO477, zB⟩
    ·rw [if_neg c24] at H
     have c24b0 : (a0 == 4) = false := beq_eq_false_iff_ne.mpr c24
     have c24b1 : (a0 != 4) = true := bne_iff_ne.mpr c24
     by_cases c27 : a0 ≥ 1
     ·rw [if_pos c27] at H
      have c27b0 : decide (1 ≤ a0) = true := decide_eq_true c27
      clear c27
      obtain ⟨y478, hy478⟩ : ∃ y_ : List Int, y_ = (([a1] : List Int)) := ⟨_, rfl⟩
      replace H : ((toponymref05_roman.f k (wrap64 (a0 - 1)) a1 a2 a3).bind fun t481 => (if y478.length + t481.length < 35184372088832 then (some (y478 ++ t481)) else (none))) = some r := zY hy478 H
      have Ny478 := aM hy478
      clear hy478
      obtain ⟨t481, A28, H⟩ := zO H
      by_cases c29 : y478.length + t481.length < 35184372088832
      ·rw [if_pos c29] at H
       have LMc29 := aM c29
       clear c29
       obtain ⟨y484, hy484⟩ : ∃ y_ : List Int, y_ = (y478 ++ t481) := ⟨_, rfl⟩
       replace H : (some y484) = some r := zY hy484 H
       have Ny484 := aM hy484
       clear hy484
       obtain rfl := sI H
       go_enter Try.func76, Try.ntmps76
       go_wp2_with (first | ((with_reducible refine gate_dst (N := 49) rfl ?_); refine Kd.R_lit (Kd.int .i32) _ 21 ?hg (N := 49) ?hd (xs := ([a1] : List Int)) (inner := [.int .i32 a1]) (ok := fun _ => True) (okp := fun _ => True) ?hr ?hp (fun _ hk => hk) trivial (Below.refl _ _) (Nat.le_refl _) (by simp) ?_; (case hd => rfl); (case hg => rfl); (case hr => first | (go_simp; done) | (go_simp; rfl)); (case hp => exact (Reps.one (show Kd.M (Kd.int .i32) _ _ _ a1 [.int .i32 a1] from rfl) (Reps.none _ _))); intro v479 w30 ho31 hb hg_ hnew_; clear hg_ hnew_; (first | rw [← Ny478.out] at ho31 | (simp only [Int.reduceToNat] at ho31; rw [← Ny478.out] at ho31)); have n_ := zI (aM (Kd.R_lower ho31 (below_size zB))) (aM (below_step zB hb)); clear HB; obtain ⟨HO480, HB⟩ := n_; clear hb ho31) | ((with_reducible refine gate_callee (f := 76) rfl ?_); refine goesL_ (some 55) rfl rfl Try.func76 zK rfl #[.int .i64 (wrap64 (a0 - 1)), .int .i32 a1, .int .i32 a2, .int .i32 a3] rfl zM ?_; (with_reducible refine (ih k (by omega) (wrap64 (a0 - 1)) a1 a2 a3 t481 _ A28.out).mono ?_); rintro e w32 ⟨v482, rfl, ho0, hb⟩; refine ⟨_, rfl, ?_⟩; have n_ := zI (aM (Kd.R_elder' (zR HO480) (Kd.R_base ho0) hb)) (zI (aM (Kd.R_lower (Kd.R_new' ho0 (Kd.R_lt (zR HO480))) (below_size zB))) (aM (below_step zB hb))); clear HO480 HB; obtain ⟨HO480, HO483, HB⟩ := n_; (try clear hb); (try clear hk); (try clear ho0); obtain ⟨Ao34, co34, rfl⟩ := Kd.R_slice HO483.out) | ((with_reducible refine gate_builtin (b := .append) (xs := #[.tmp 49, .tmp 55]) rfl ?_); at_builtin; refine Kd.R_append_rows (Kd.int .i32) (w0 := w) w.heap.size rfl (.tmp 49) (.tmp 55) 22 21 (.int .i32 0) 4 rfl Try.underlying22 info21 rfl (by decide) (by omega) v479 y478 t481 _ _ _ (fun k_ => some k_ ≠ (.slice Ao34 t481.length co34 : Value).ownBlock) (fun _ => False) rfl rfl ?aO ?aR (fun _ _ h => h) (fun _ h => h.elim) ?aF ?aB ?aS ?aL ?_; (case aR => repeat (first | exact (Kd.R_reads' HO483.out).2.2 | (with_reducible refine Kd.C_alloc ?_ _) | (with_reducible refine Kd.C_drewN ?_ _) | (with_reducible refine Kd.C_drew ?_))); (case aB => exact zB); (case aF => exact (fun k_ hk => Kd.fresh' (Kd.R_lt (zR HO483)) k_ hk)); (case aO => exact (by (with_reducible repeat (first | apply Kd.R_alloc | apply Kd.R_drewN | apply Kd.R_drew)); exact Kd.R_mono HO480.out (fun _ hk => hk.2))); (case aS => exact (below_size zB)); (case aL => have := LMc29.out; omega); intro v485 w33 ho hb hg hat; rw [← Ny484.out] at ho; have n_ := zI (aM (Kd.R_after (ok := (fun _ => True)) (zR HO483) hg hat)) (zI (aM (hb)) (aM (ho))); clear HO483 HB HO480; obtain ⟨HO483, HB, HO486⟩ := n_; clear ho hb hg hat))
       go_ret
       exact ⟨_, zE, by (with_reducible repeat (first | apply Kd.R_alloc | apply Kd.R_drewN | apply Kd.R_drew)); exact Kd.R_mono HO486.out (fun _ hk => trivial), zB⟩
      ·rw [if_neg c29] at H
       exact absurd H (by simp)
     ·rw [if_neg c27] at H
      have c27b0 : decide (1 ≤ a0) = false := decide_eq_false c27
      clear c27
      obtain rfl := sI H
      go_enter Try.func76, Try.ntmps76
      go_wp2
      go_ret
      exact ⟨_, zE, zL, zB⟩

end Go.Proofs.Ytpihglokjcbjkaa.P
