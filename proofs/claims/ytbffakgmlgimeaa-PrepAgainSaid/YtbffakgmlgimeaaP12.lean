-- Printed by wip/mk.py (this session's driver over the kit's print) and from wip/manual.
import Derived.Test.YtbffakgmlgimeaaP0
import Derived.Test.YtbffakgmlgimeaaP1
import Derived.Test.YtbffakgmlgimeaaP5
import Derived.Test.YtbffakgmlgimeaaP9
import Derived.Test.YtbffakgmlgimeaaP11
namespace Go.Proofs.Ytbffakgmlgimeaa.P
open Go.RowKit Go.Proofs.YtbffakgmlgimeaaW.PrintWords Go.Proofs.YtbffakgmlgimeaaW.PrintLast Go.Proofs.YtbffakgmlgimeaaW.PrintMore
attribute [local go_sem] max2_int min2_int max_two min_two max_three min_three max_four min_four   -- for this text's walks alone
set_option linter.unusedVariables false
set_option linter.unusedSimpArgs false

/-! ### toponymlaw12_PrepSame: function 4 -/
mutual
def toponymlaw12_PrepSame.j0 : Nat → Int → ByteArray → Bool → Option (Bool)
 | 0, _, _, _ => none
 | k + 1, x0, x1, x20 => if x20 = true then ((toponymlaw12_awake.f k).bind fun t468 => (some t468)) else (toponymlaw12_PrepSame.l0 k x0 x1 0)
def toponymlaw12_PrepSame.l0 : Nat → Int → ByteArray → Int → Option (Bool)
 | 0, _, _, _ => none
 | k + 1, x0, x1, x5 => if x5 < (x1.size : Int) then (if 0 ≤ x5 then (if (bt x1 x5) ≥ 128 then ((toponymlaw12_awake.f k).bind fun t469 => (some t469)) else (if (bt x1 x5) < 32 then ((toponymlaw12_awake.f k).bind fun t470 => (some t470)) else (toponymlaw12_PrepSame.l0 k x0 x1 (wrap64 (x5 + 1))))) else (none)) else ((toponymlaw12_spaced.f k x1).bind fun t471 => ((prep_Same.f k x0 (([x1, t471] : List ByteArray))).bind fun bt475 => ((toponymlaw12_upper.f x1).bind fun t477 => ((toponymlaw12_upper.f x1).bind fun t478 => ((toponymlaw12_spaced.f k t478).bind fun t479 => ((prep_Same.f k 2 (([x1, t477, t479] : List ByteArray))).bind fun bt483 => (if bt475.1 = true then (if bt475.2 = 0 then (if bt483.1 = true then (if bt483.2 = 0 then ((toponymlaw12_awake.f k).bind fun t485 => (some t485)) else (some false)) else (some false)) else (some false)) else (some false))))))))
end
def toponymlaw12_PrepSame.f (k : Nat) (a0 : Int) (a1 : ByteArray) : Option (Bool) := if (a1.size : Int) > 150 then (toponymlaw12_PrepSame.j0 k a0 a1 true) else (if a0 < 1 then (toponymlaw12_PrepSame.j0 k a0 a1 true) else (toponymlaw12_PrepSame.j0 k a0 a1 (decide (a0 > 4))))
theorem toponymlaw12_PrepSame.mono_l : ∀ k, (∀ y0 y1 y2, LeO (toponymlaw12_PrepSame.j0 k y0 y1 y2) (toponymlaw12_PrepSame.j0 (k + 1) y0 y1 y2)) ∧ (∀ y0 y1 y2, LeO (toponymlaw12_PrepSame.l0 k y0 y1 y2) (toponymlaw12_PrepSame.l0 (k + 1) y0 y1 y2))
 | 0 => ⟨fun _ _ _ r h => by simp [toponymlaw12_PrepSame.j0] at h, fun _ _ _ r h => by simp [toponymlaw12_PrepSame.l0] at h⟩
 | k + 1 => by
  obtain ⟨ih0, ih1⟩ := toponymlaw12_PrepSame.mono_l k
  refine ⟨?_, ?_⟩
  ·intro y0 y1 y2
   unfold toponymlaw12_PrepSame.j0
   repeat' first
   | (with_reducible exact ih0 _ _ _)
   | (with_reducible exact ih1 _ _ _)
   | (with_reducible exact prep_Same.mono _ _ _)
   | (with_reducible exact toponymlaw12_awake.mono _)
   | (with_reducible exact toponymlaw12_spaced.mono _ _)
   | (with_reducible exact LeO.refl _)
   | exact ih0 _ _ _
   | exact ih1 _ _ _
   | exact prep_Same.mono _ _ _
   | exact toponymlaw12_awake.mono _
   | exact toponymlaw12_spaced.mono _ _
   | exact LeO.none _
   | refine LeO.ite ?_ ?_
   | refine LeO.bind ?_ (fun _ => ?_)
  ·intro y0 y1 y2
   unfold toponymlaw12_PrepSame.l0
   repeat' first
   | (with_reducible exact ih0 _ _ _)
   | (with_reducible exact ih1 _ _ _)
   | (with_reducible exact prep_Same.mono _ _ _)
   | (with_reducible exact toponymlaw12_awake.mono _)
   | (with_reducible exact toponymlaw12_spaced.mono _ _)
   | (with_reducible exact LeO.refl _)
   | exact ih0 _ _ _
   | exact ih1 _ _ _
   | exact prep_Same.mono _ _ _
   | exact toponymlaw12_awake.mono _
   | exact toponymlaw12_spaced.mono _ _
   | exact LeO.none _
   | refine LeO.ite ?_ ?_
   | refine LeO.bind ?_ (fun _ => ?_)
theorem toponymlaw12_PrepSame.mono : ∀ a0 a1 k, LeO (toponymlaw12_PrepSame.f k a0 a1) (toponymlaw12_PrepSame.f (k + 1) a0 a1) := by
 intro a0 a1 k
 obtain ⟨ih0, ih1⟩ := toponymlaw12_PrepSame.mono_l k
 unfold toponymlaw12_PrepSame.f
 repeat' first
   | (with_reducible exact ih0 _ _ _)
   | (with_reducible exact ih1 _ _ _)
   | (with_reducible exact prep_Same.mono _ _ _)
   | (with_reducible exact toponymlaw12_awake.mono _)
   | (with_reducible exact toponymlaw12_spaced.mono _ _)
   | (with_reducible exact LeO.refl _)
   | exact ih0 _ _ _
   | exact ih1 _ _ _
   | exact prep_Same.mono _ _ _
   | exact toponymlaw12_awake.mono _
   | exact toponymlaw12_spaced.mono _ _
   | exact LeO.none _
   | refine LeO.ite ?_ ?_
   | refine LeO.bind ?_ (fun _ => ?_)
set_option maxHeartbeats 8000000 in
set_option maxRecDepth 100000 in
theorem toponymlaw12_PrepSame.calls (k : Nat) (a0 : Int) (a1 : ByteArray) (r : Bool) (w : World) (h : toponymlaw12_PrepSame.f k a0 a1 = some r) (hT_ : r = true) :
  Calls Try.prog 4 #[.int .i64 a0, .string a1] w fun e w' => e = .returned (.bool r) ∧ Below w.heap.size w w' := by
 have hT := aM hT_
 clear hT_
 have HB := aM (Below.refl w.heap.size w)
 have H := h
 clear h
 unfold toponymlaw12_PrepSame.f at H
 have HC3 := aM H
 clear H
 go_enter Try.func4, Try.ntmps4
 go_upto_region 1 with (fail)
 go_cut [20] (fun v20 wc => ∃ (kq : Nat) (x20_2 : Bool), v20 = .bool x20_2 ∧ Aside0 (toponymlaw12_PrepSame.j0 kq a0 a1 x20_2 = some r) ∧ Aside0 (kq ≤ k) ∧ Aside0 (Below w.heap.size w wc))
 case first =>
  have H := HC3.out
  clear HC3
  by_cases c4 : (a1.size : Int) > 150
  ·rw [if_pos c4] at H
   have c4b0 : decide (150 < (a1.size : Int)) = true := decide_eq_true c4
   have c4b1 : decide (150 < a1.size) = true := decide_eq_true (by omega)
   clear c4
   (first | rw [c4b0] | (simp only [i64_w, i32_w]; rw [c4b0]) | skip)
   have H' := aM H
   clear H
   go_wp2
   go_meet
   case rel => exact ⟨_, (true), zP, H', ⟨by first | omega | exact Nat.le_refl _⟩, ⟨zB⟩⟩
  ·rw [if_neg c4] at H
   have c4b0 : decide (150 < (a1.size : Int)) = false := decide_eq_false c4
   have c4b1 : decide (150 < a1.size) = false := decide_eq_false (by omega)
   clear c4
   (first | rw [c4b0] | (simp only [i64_w, i32_w]; rw [c4b0]) | skip)
   by_cases c5 : a0 < 1
   ·rw [if_pos c5] at H
    have c5b0 : decide (a0 < 1) = true := decide_eq_true c5
    clear c5
    have H' := aM H
    clear H
    go_wp2
    go_meet
    case rel => exact ⟨_, (true), zP, H', ⟨by first | omega | exact Nat.le_refl _⟩, ⟨zB⟩⟩
   ·rw [if_neg c5] at H
    have c5b0 : decide (a0 < 1) = false := decide_eq_false c5
    clear c5
    have H' := aM H
    clear H
    go_wp2
    go_meet
    case rel => exact ⟨_, (decide (a0 > 4)), zP, H', ⟨by first | omega | exact Nat.le_refl _⟩, ⟨zB⟩⟩
 case rest =>
  clear HC3
  try clear p2
  try clear c4
  try clear c4b0
  try clear c4b1
  try clear c5
  try clear c5b0
  obtain ⟨kq, x20_2, rfl, HA, HJ2, HB⟩ := hcut
  cases kq with
  | zero => exact absurd HA.out (by simp [toponymlaw12_PrepSame.j0])
  | succ kj2 =>
   have H := HA.out
   clear HA
   simp only [toponymlaw12_PrepSame.j0] at H
   by_cases c6 : x20_2 = true
   ·subst c6
    rw [if_pos rfl] at H
    obtain ⟨t468, A7, H⟩ := zO H
    obtain rfl := sI H
    go_wp2_with (first | ((with_reducible refine gate_callee (f := 6) rfl ?_); refine goesL_ (some 21) rfl rfl Try.func6 zK rfl #[] rfl zM ?_; (with_reducible refine (toponymlaw12_awake.calls kj2  t468 _ A7.out).mono ?_); rintro e w8 ⟨rfl, hb⟩; (try clear A7); refine ⟨_, rfl, ?_⟩; replace HB := aM (below_step zB hb); (try clear hb)))
    go_ret
    exact ⟨zE, zB⟩
   ·replace c6 := Bool.eq_false_iff.mpr c6
    subst c6
    rw [if_neg (show ¬ (false = true) by decide)] at H
    have H' := aM H
    clear H
    go_wp2
    go_loopg [5] kj2 (fun kq v5 w' => ∃ (x5_2 : Int), v5 = .int .i64 x5_2 ∧ Aside0 (toponymlaw12_PrepSame.l0 kq a0 a1 x5_2 = some r) ∧ Aside0 (kq ≤ kj2) ∧ Aside0 (Below w.heap.size w w'))
    case atStart => exact ⟨(0), zP, H', ⟨Nat.le_refl _⟩, ⟨zB⟩⟩
    case round =>
     clear H'
     try clear p2
     try clear c4
     try clear c4b0
     try clear c4b1
     try clear c5
     try clear c5b0
     try clear c6
     try clear p2
     obtain ⟨x5_2, rfl, HA, HK2, HB⟩ := hrel
     cases gk with
     | zero => exact absurd HA.out (by simp [toponymlaw12_PrepSame.l0])
     | succ k2 =>
      have H := HA.out
      clear HA
      simp only [toponymlaw12_PrepSame.l0] at H
      by_cases c9 : x5_2 < (a1.size : Int)
      ·rw [if_pos c9] at H
       have c9b0 : decide (x5_2 < (a1.size : Int)) = true := decide_eq_true c9
       clear c9
       by_cases c10 : 0 ≤ x5_2
       ·rw [if_pos c10] at H
        have c10b0 : decide (0 ≤ x5_2) = true := decide_eq_true c10
        clear c10
        by_cases c12 : (bt a1 x5_2) ≥ 128
        ·rw [if_pos c12] at H
         have c12b0 : decide (128 ≤ (bt a1 x5_2)) = true := decide_eq_true c12
         clear c12
         obtain ⟨t469, A13, H⟩ := zO H
         obtain rfl := sI H
         have p11 : 0 ≤ (x5_2 : Int) := zoA
         have q11 : x5_2 < (a1.size : Int) := zoA
         have hx11 := bt_at a1 x5_2
         replace p11 := eq_true p11
         replace q11 := eq_true q11
         go_wp2_with (first | ((with_reducible refine gate_callee (f := 6) rfl ?_); refine goesL_ (some 38) rfl rfl Try.func6 zK rfl #[] rfl zM ?_; (with_reducible refine (toponymlaw12_awake.calls k2  t469 _ A13.out).mono ?_); rintro e w14 ⟨rfl, hb⟩; (try clear A13); refine ⟨_, rfl, ?_⟩; replace HB := aM (below_step zB hb); (try clear hb)))
         go_ret
         exact ⟨zE, zB⟩
        ·rw [if_neg c12] at H
         have c12b0 : decide (128 ≤ (bt a1 x5_2)) = false := decide_eq_false c12
         clear c12
         by_cases c16 : (bt a1 x5_2) < 32
         ·rw [if_pos c16] at H
          have c16b0 : decide ((bt a1 x5_2) < 32) = true := decide_eq_true c16
          clear c16
          obtain ⟨t470, A17, H⟩ := zO H
          obtain rfl := sI H
          have p11 : 0 ≤ (x5_2 : Int) := zoA
          have q11 : x5_2 < (a1.size : Int) := zoA
          have hx11 := bt_at a1 x5_2
          replace p11 := eq_true p11
          replace q11 := eq_true q11
          have p15 : 0 ≤ (x5_2 : Int) := zoA
          have q15 : x5_2 < (a1.size : Int) := zoA
          have hx15 := bt_at a1 x5_2
          replace p15 := eq_true p15
          replace q15 := eq_true q15
          go_wp2_with (first | ((with_reducible refine gate_callee (f := 6) rfl ?_); refine goesL_ (some 38) rfl rfl Try.func6 zK rfl #[] rfl zM ?_; (with_reducible refine (toponymlaw12_awake.calls k2  t470 _ A17.out).mono ?_); rintro e w18 ⟨rfl, hb⟩; (try clear A17); refine ⟨_, rfl, ?_⟩; replace HB := aM (below_step zB hb); (try clear hb)))
          go_ret
          exact ⟨zE, zB⟩
         ·rw [if_neg c16] at H
          have c16b0 : decide ((bt a1 x5_2) < 32) = false := decide_eq_false c16
          clear c16
          have H' := aM H
          clear H
          have p11 : 0 ≤ (x5_2 : Int) := zoA
          have q11 : x5_2 < (a1.size : Int) := zoA
          have hx11 := bt_at a1 x5_2
          replace p11 := eq_true p11
          replace q11 := eq_true q11
          have p15 : 0 ≤ (x5_2 : Int) := zoA
          have q15 : x5_2 < (a1.size : Int) := zoA
          have hx15 := bt_at a1 x5_2
          replace p15 := eq_true p15
          replace q15 := eq_true q15
          go_wp2
          go_roundg k2
          case measure => have := HJ2.out; have := HK2.out; omega
          case rel => exact ⟨(wrap64 (x5_2 + 1)), zP, H', ⟨by have := HJ2.out; have := HK2.out; omega⟩, ⟨zB⟩⟩
       ·rw [if_neg c10] at H
        exact absurd H (by simp)
      ·rw [if_neg c9] at H
       have c9b0 : decide (x5_2 < (a1.size : Int)) = false := decide_eq_false c9
       clear c9
       obtain ⟨t471, A19, H⟩ := zO H
       obtain ⟨y472, hy472⟩ : ∃ y_ : List ByteArray, y_ = (([a1, t471] : List ByteArray)) := ⟨_, rfl⟩
       replace H : ((prep_Same.f k2 a0 y472).bind fun bt475 => ((toponymlaw12_upper.f a1).bind fun t477 => ((toponymlaw12_upper.f a1).bind fun t478 => ((toponymlaw12_spaced.f k2 t478).bind fun t479 => ((prep_Same.f k2 2 (([a1, t477, t479] : List ByteArray))).bind fun bt483 => (if bt475.1 = true then (if bt475.2 = 0 then (if bt483.1 = true then (if bt483.2 = 0 then ((toponymlaw12_awake.f k2).bind fun t485 => (some t485)) else (some false)) else (some false)) else (some false)) else (some false))))))) = some r := zY hy472 H
       have Ny472 := aM hy472
       clear hy472
       obtain ⟨⟨t475, t476⟩, A20, H⟩ := zO H
       try dsimp only at H
       obtain ⟨t477, A21, H⟩ := zO H
       obtain ⟨t478, A22, H⟩ := zO H
       obtain ⟨t479, A23, H⟩ := zO H
       obtain ⟨y480, hy480⟩ : ∃ y_ : List ByteArray, y_ = (([a1, t477, t479] : List ByteArray)) := ⟨_, rfl⟩
       replace H : ((prep_Same.f k2 2 y480).bind fun bt483 => (if t475 = true then (if t476 = 0 then (if bt483.1 = true then (if bt483.2 = 0 then ((toponymlaw12_awake.f k2).bind fun t485 => (some t485)) else (some false)) else (some false)) else (some false)) else (some false))) = some r := zY hy480 H
       have Ny480 := aM hy480
       clear hy480
       obtain ⟨⟨t483, t484⟩, A24, H⟩ := zO H
       try dsimp only at H
       by_cases c25 : t475 = true
       ·subst c25
        rw [if_pos rfl] at H
        by_cases c26 : t476 = 0
        ·rw [if_pos c26] at H
         have c26b0 : (t476 == 0) = true := beq_iff_eq.mpr c26
         have c26b1 : (t476 != 0) = false := bne_eq_false_iff_eq.mpr c26
         clear c26
         by_cases c27 : t483 = true
         ·subst c27
          rw [if_pos rfl] at H
          by_cases c28 : t484 = 0
          ·rw [if_pos c28] at H
           have c28b0 : (t484 == 0) = true := beq_iff_eq.mpr c28
           have c28b1 : (t484 != 0) = false := bne_eq_false_iff_eq.mpr c28
           clear c28
           obtain ⟨t485, A29, H⟩ := zO H
           obtain rfl := sI H
           go_wp2_with (first | ((with_reducible refine gate_callee (f := 10) rfl ?_); refine goesL_ (some 43) rfl rfl Try.func10 zK rfl #[.string a1] rfl zM ?_; (with_reducible refine (toponymlaw12_spaced.calls k2 a1 t471 _ A19.out).mono ?_); rintro e w' ⟨rfl, ⟨nd, rfl⟩⟩; (try clear A19); refine ⟨_, rfl, ?_⟩) | ((with_reducible refine gate_dst (N := 44) rfl ?_); refine Kd.R_lit Kd.string _ 9 ?hg (N := 44) ?hd (xs := ([a1, t471] : List ByteArray)) (inner := [.string a1, .string t471]) (ok := fun _ => True) (okp := fun _ => True) ?hr ?hp (fun _ hk => hk) trivial (Below.refl _ _) (Nat.le_refl _) (by simp) ?_; (case hd => rfl); (case hg => rfl); (case hr => first | (go_simp; done) | (go_simp; rfl)); (case hp => exact (Reps.one (show Kd.M Kd.string _ _ _ a1 [.string a1] from rfl) (Reps.one (show Kd.M Kd.string _ _ _ t471 [.string t471] from rfl) (Reps.none _ _)))); intro v473 w30 ho31 hb hg_ hnew_; clear hg_ hnew_; (first | rw [← Ny472.out] at ho31 | (simp only [Int.reduceToNat] at ho31; rw [← Ny472.out] at ho31)); have n_ := zI (aM (Kd.R_lower ho31 (below_size zB))) (aM (below_step zB hb)); clear HB; obtain ⟨HO474, HB⟩ := n_; clear hb ho31; obtain ⟨Ao32, co32, rfl⟩ := Kd.R_slice HO474.out) | ((with_reducible refine gate_callee (f := 9) rfl ?_); refine goesL_ (some 45) rfl rfl Try.func9 zK rfl #[.int .i64 a0, .slice Ao32 y472.length co32] rfl zM ?_; (with_reducible refine (prep_Same.calls k2 a0 _ _ y472 true t476 _ ?side1 ?side2 A20.out).mono ?_); (case side1 => exact zC (Kd.R_reads' HO474.out).2.2); (case side2 => exact (Kd.R_reads' HO474.out).2.1); rintro e w33 ⟨rfl, hb⟩; (try clear A20); refine ⟨_, rfl, ?_⟩; have n_ := zI (aM (Kd.R_below (zR HO474) hb)) (aM (below_step zB hb)); clear HO474 HB; obtain ⟨HO474, HB⟩ := n_; (try clear hb); (try clear hk)) | ((with_reducible refine gate_callee (f := 11) rfl ?_); refine goesL_ (some 51) rfl rfl Try.func11 zK rfl #[.string a1] rfl zM ?_; (with_reducible refine (toponymlaw12_upper.calls a1 t477 _ A21.out).mono ?_); rintro e w34 ⟨rfl, hb⟩; (try clear A21); refine ⟨_, rfl, ?_⟩; have n_ := zI (aM (Kd.R_below (zR HO474) hb)) (aM (below_step zB hb)); clear HO474 HB; obtain ⟨HO474, HB⟩ := n_; (try clear hb); (try clear hk)) | ((with_reducible refine gate_callee (f := 11) rfl ?_); refine goesL_ (some 53) rfl rfl Try.func11 zK rfl #[.string a1] rfl zM ?_; (with_reducible refine (toponymlaw12_upper.calls a1 t478 _ A22.out).mono ?_); rintro e w35 ⟨rfl, hb⟩; (try clear A22); refine ⟨_, rfl, ?_⟩; have n_ := zI (aM (Kd.R_below (zR HO474) hb)) (aM (below_step zB hb)); clear HO474 HB; obtain ⟨HO474, HB⟩ := n_; (try clear hb); (try clear hk)) | ((with_reducible refine gate_callee (f := 10) rfl ?_); refine goesL_ (some 54) rfl rfl Try.func10 zK rfl #[.string t478] rfl zM ?_; (with_reducible refine (toponymlaw12_spaced.calls k2 t478 t479 _ A23.out).mono ?_); rintro e w' ⟨rfl, ⟨nd, rfl⟩⟩; (try clear A23); refine ⟨_, rfl, ?_⟩) | ((with_reducible refine gate_dst (N := 55) rfl ?_); refine Kd.R_lit Kd.string _ 9 ?hg (N := 55) ?hd (xs := ([a1, t477, t479] : List ByteArray)) (inner := [.string a1, .string t477, .string t479]) (ok := fun _ => True) (okp := fun _ => True) ?hr ?hp (fun _ hk => hk) trivial (Below.refl _ _) (Nat.le_refl _) (by simp) ?_; (case hd => rfl); (case hg => rfl); (case hr => first | (go_simp; done) | (go_simp; rfl)); (case hp => exact (Reps.one (show Kd.M Kd.string _ _ _ a1 [.string a1] from rfl) (Reps.one (show Kd.M Kd.string _ _ _ t477 [.string t477] from rfl) (Reps.one (show Kd.M Kd.string _ _ _ t479 [.string t479] from rfl) (Reps.none _ _))))); intro v481 w36 ho37 hb hg_ hnew_; clear hg_ hnew_; (first | rw [← Ny480.out] at ho37 | (simp only [Int.reduceToNat] at ho37; rw [← Ny480.out] at ho37)); have n_ := zI (aM (Kd.R_elder' (zR HO474) (Kd.R_base ho37) hb)) (zI (aM (Kd.R_lower (Kd.R_new' ho37 (Kd.R_lt (zR HO474))) (below_size zB))) (aM (below_step zB hb))); clear HO474 HB; obtain ⟨HO474, HO482, HB⟩ := n_; clear hb ho37; obtain ⟨Ao38, co38, rfl⟩ := Kd.R_slice HO482.out) | ((with_reducible refine gate_callee (f := 9) rfl ?_); refine goesL_ (some 56) rfl rfl Try.func9 zK rfl #[.int .i64 2, .slice Ao38 y480.length co38] rfl zM ?_; (with_reducible refine (prep_Same.calls k2 2 _ _ y480 true t484 _ ?side1 ?side2 A24.out).mono ?_); (case side1 => exact zC (Kd.R_reads' HO482.out).2.2); (case side2 => exact (Kd.R_reads' HO482.out).2.1); rintro e w39 ⟨rfl, hb⟩; (try clear A24); refine ⟨_, rfl, ?_⟩; have n_ := zI (aM (Kd.R_below (zR HO474) hb)) (zI (aM (Kd.R_below (zR HO482) hb)) (aM (below_step zB hb))); clear HO474 HO482 HB; obtain ⟨HO474, HO482, HB⟩ := n_; (try clear hb); (try clear hk)) | (go_at_call 6; (with_reducible refine (toponymlaw12_awake.calls k2  t485 _ A29.out).mono ?_); rintro e w40 ⟨rfl, hb⟩; (try clear A29); have n_ := zI (aM (Kd.R_below (zR HO474) hb)) (zI (aM (Kd.R_below (zR HO482) hb)) (aM (below_step zB hb))); clear HO474 HO482 HB; obtain ⟨HO474, HO482, HB⟩ := n_; (try clear hb); (try clear hk)))
           go_ret
           exact ⟨zE, zB⟩
          ·rw [if_neg c28] at H
           exact absurd ((sI H).trans hT.out) (by decide)
         ·replace c27 := Bool.eq_false_iff.mpr c27
          subst c27
          rw [if_neg (show ¬ (false = true) by decide)] at H
          exact absurd ((sI H).trans hT.out) (by decide)
        ·rw [if_neg c26] at H
         exact absurd ((sI H).trans hT.out) (by decide)
       ·replace c25 := Bool.eq_false_iff.mpr c25
        subst c25
        rw [if_neg (show ¬ (false = true) by decide)] at H
        exact absurd ((sI H).trans hT.out) (by decide)
/-- THE ONE PURE STATEMENT of toponymlaw12_PrepSame: yours. -/
def toponymlaw12_PrepSame.Pure : Prop := ∀ (a0 : Int) (a1 : ByteArray), (Lit.int .i64 a0).wf = true → a1.size ≤ 140737488351232 → ∃ k, toponymlaw12_PrepSame.f k a0 a1 = some true
theorem toponymlaw12_PrepSame.walk (P : toponymlaw12_PrepSame.Pure) (a0 : Int) (a1 : ByteArray) (w : World) (w0 : (Lit.int .i64 a0).wf = true) (w1 : a1.size ≤ 140737488351232) :
  Calls Try.prog 4 #[.int .i64 a0, .string a1] w fun e w' => e = .returned (.bool true) ∧ Below w.heap.size w w' := by
 obtain ⟨k, h⟩ := P a0 a1 w0 w1
 refine (toponymlaw12_PrepSame.calls k a0 a1 true w h rfl).mono ?_
 rintro e w' ⟨rfl, hd⟩
 exact ⟨rfl, hd⟩

/-! ### guard_Text: function 12 -/
def guard_Text.f (k : Nat) (a0 : ByteArray) : Option (Int × Int) := (utf_Runes.f k a0).bind fun bt486 => (if bt486.2.2 = 0 then ((guard_Check.f k bt486.1).bind fun bt491 => (if 0 ≤ bt491.1 then (if bt491.1 ≤ (bt486.1.length : Int) then ((utf_Encode.f k (bt486.1.take (bt491.1 : Int).toNat)).bind fun bt497 => (some ((bt497.1.size : Int), bt491.2))) else (none)) else (none))) else (some (bt486.2.1, bt486.2.2)))
theorem guard_Text.mono : ∀ a0 k, LeO (guard_Text.f k a0) (guard_Text.f (k + 1) a0) := by
 intro a0 k
 unfold guard_Text.f
 repeat' first
   | (with_reducible exact guard_Check.mono _ _)
   | (with_reducible exact utf_Encode.mono _ _)
   | (with_reducible exact utf_Runes.mono _ _)
   | (with_reducible exact LeO.refl _)
   | exact guard_Check.mono _ _
   | exact utf_Encode.mono _ _
   | exact utf_Runes.mono _ _
   | exact LeO.none _
   | refine LeO.ite ?_ ?_
   | refine LeO.bind ?_ (fun _ => ?_)
set_option maxHeartbeats 8000000 in
set_option maxRecDepth 100000 in
theorem guard_Text.calls (k : Nat) (a0 : ByteArray) (r1 : Int) (r2 : Int) (w : World) (h : guard_Text.f k a0 = some (r1, r2)) :
  Calls Try.prog 12 #[.string a0] w fun e w' => e = .returned (.tuple #[.int .i64 r1, .int .i64 r2]) ∧ Below w.heap.size w w' := by
 have HB := aM (Below.refl w.heap.size w)
 have H := h
 clear h
 unfold guard_Text.f at H
 obtain ⟨⟨t486, t487, t488⟩, A2, H⟩ := zO H
 try dsimp only at H
 by_cases c3 : t488 = 0
 ·rw [if_pos c3] at H
  have c3b0 : (t488 == 0) = true := beq_iff_eq.mpr c3
  have c3b1 : (t488 != 0) = false := bne_eq_false_iff_eq.mpr c3
  clear c3
  obtain ⟨⟨t491, t492⟩, A4, H⟩ := zO H
  try dsimp only at H
  by_cases c5 : 0 ≤ t491
  ·rw [if_pos c5] at H
   have c5b0 := eq_true c5
   have c5b1 : decide (0 ≤ t491) = true := decide_eq_true c5
   clear c5
   by_cases c6 : t491 ≤ (t486.length : Int)
   ·rw [if_pos c6] at H
    have c6b0 := eq_true c6
    have c6b1 : decide (t491 ≤ (t486.length : Int)) = true := decide_eq_true c6
    clear c6
    obtain ⟨y493, hy493⟩ : ∃ y_ : List Int, y_ = (t486.take (t491 : Int).toNat) := ⟨_, rfl⟩
    replace H : ((utf_Encode.f k y493).bind fun bt497 => (some ((bt497.1.size : Int), t492))) = some (r1, r2) := zY hy493 H
    have Ny493 := aM hy493
    clear hy493
    obtain ⟨⟨t497, t498⟩, A7, H⟩ := zO H
    try dsimp only at H
    simp only [Option.some.injEq, Prod.mk.injEq] at H
    obtain ⟨rfl, rfl⟩ := H
    go_enter Try.func12, Try.ntmps12
    go_wp2_with (first | ((with_reducible refine gate_callee (f := 15) rfl ?_); refine goesL_ (some 12) rfl rfl Try.func15 zK rfl #[.string a0] rfl zM ?_; (with_reducible refine (utf_Runes.calls k a0 t486 t487 t488 _ A2.out).mono ?_); rintro e w8 ⟨v489, rfl, ho0, hb⟩; refine ⟨_, rfl, ?_⟩; have n_ := zI (aM (Kd.R_lower ho0 (below_size zB))) (aM (below_step zB hb)); clear HB; obtain ⟨HO490, HB⟩ := n_; (try clear hb); (try clear ho0); obtain ⟨Ao9, co9, rfl⟩ := Kd.R_slice HO490.out) | ((with_reducible refine gate_callee (f := 19) rfl ?_); refine goesL_ (some 22) rfl rfl Try.func19 zK rfl #[.slice Ao9 t486.length co9] rfl zM ?_; (with_reducible refine (guard_Check.calls k _ _ t486 t491 t492 _ ?side1 ?side2 A4.out).mono ?_); (case side1 => exact zC (Kd.R_reads' HO490.out).2.2); (case side2 => exact (Kd.R_reads' HO490.out).2.1); rintro e w10 ⟨rfl, hb⟩; refine ⟨_, rfl, ?_⟩; have n_ := zI (aM (Kd.R_below (zR HO490) hb)) (aM (below_step zB hb)); clear HO490 HB; obtain ⟨HO490, HB⟩ := n_; (try clear hb); have q11 : (t491 : Int) ≤ ((t486.length : Int) : Int) := zoA; obtain ⟨i011, hi011, _, hsz11, _⟩ := info_parts info21; have hroom11 : t486.length ≤ co9 := (Kd.R_reads' HO490.out).2.1; have hC11 : Kd.C (Kd.int .i32) _ Ao9 t486.length t486 := (Kd.R_reads' HO490.out).2.2; have hcut11 := cut_to (P := Try.prog) 34 21 .i64 Try.underlying34 hi011 Ao9 t486.length co9 t491 (zoA) q11 hroom11; have hr11 := Kd.C_take (m := (t491 : Int).toNat) hC11 (by omega); have hy11 : y493.length = (t491 : Int).toNat := (by rw [Ny493.out, List.length_take]; omega); rw [← Ny493.out] at hr11; rw [← hy11] at hcut11; have HR496 := aM hr11; have HC496 := aM (show y493.length ≤ co9 from by omega); clear hr11 hC11 hroom11 hi011 hsz11; have KY11 := aM hy11; clear hy11; have KL11 := aM (show (t491 : Int).toNat ≤ t486.length from by omega); replace q11 := eq_true q11) | ((with_reducible refine gate_callee (f := 17) rfl ?_); refine goesL_ (some 29) rfl rfl Try.func17 zK rfl #[.slice Ao9 y493.length co9] rfl zM ?_; (with_reducible refine (utf_Encode.calls k _ _ y493 t497 t498 _ ?side1 ?side2 A7.out).mono ?_); (case side1 => repeat (first | exact (by repeat (first | (with_reducible exact HR496.out) | (with_reducible refine Kd.C_alloc ?_ _) | (with_reducible refine Kd.C_drewN ?_ _) | (with_reducible refine Kd.C_drew ?_) | exact HR496.out)) | (with_reducible refine Kd.C_alloc ?_ _) | (with_reducible refine Kd.C_drewN ?_ _) | (with_reducible refine Kd.C_drew ?_))); (case side2 => exact HC496.out); rintro e w12 ⟨rfl, hb⟩; refine ⟨_, rfl, ?_⟩; have n_ := zI (aM (Kd.R_below (zR HO490) hb)) (zI (aM (Kd.C_below (by repeat (first | (with_reducible exact HR496.out) | (with_reducible refine Kd.C_alloc ?_ _) | (with_reducible refine Kd.C_drewN ?_ _) | (with_reducible refine Kd.C_drew ?_) | exact HR496.out)) hb)) (aM (below_step zB hb))); clear HO490 HR496 HB; obtain ⟨HO490, HR496, HB⟩ := n_; (try clear hb)))
    go_ret2
    exact ⟨zE, zB⟩
   ·rw [if_neg c6] at H
    exact absurd H (by simp)
  ·rw [if_neg c5] at H
   exact absurd H (by simp)
 ·rw [if_neg c3] at H
  have c3b0 : (t488 == 0) = false := beq_eq_false_iff_ne.mpr c3
  have c3b1 : (t488 != 0) = true := bne_iff_ne.mpr c3
  simp only [Option.some.injEq, Prod.mk.injEq] at H
  obtain ⟨rfl, rfl⟩ := H
  go_enter Try.func12, Try.ntmps12
  go_wp2_with (first | ((with_reducible refine gate_callee (f := 15) rfl ?_); refine goesL_ (some 12) rfl rfl Try.func15 zK rfl #[.string a0] rfl zM ?_; (with_reducible refine (utf_Runes.calls k a0 t486 t487 t488 _ A2.out).mono ?_); rintro e w13 ⟨v489, rfl, ho0, hb⟩; refine ⟨_, rfl, ?_⟩; have n_ := zI (aM (Kd.R_lower ho0 (below_size zB))) (aM (below_step zB hb)); clear HB; obtain ⟨HO490, HB⟩ := n_; (try clear hb); (try clear ho0)))
  go_ret2
  exact ⟨zE, zB⟩

/-! ### nfkc_Text: function 13 -/
def nfkc_Text.f (k : Nat) (a0 : Bool) (a1 : ByteArray) : Option (ByteArray × Int) := (utf_Runes.f k a1).bind fun bt499 => (if bt499.2.2 = 0 then ((nfkc_Runes.f k a0 bt499.1).bind fun t504 => ((utf_Encode.f k t504).bind fun bt507 => (some (bt507.1, bt507.2)))) else (some ((⟨#[]⟩ : ByteArray), bt499.2.2)))
theorem nfkc_Text.mono : ∀ a0 a1 k, LeO (nfkc_Text.f k a0 a1) (nfkc_Text.f (k + 1) a0 a1) := by
 intro a0 a1 k
 unfold nfkc_Text.f
 repeat' first
   | (with_reducible exact nfkc_Runes.mono _ _ _)
   | (with_reducible exact utf_Encode.mono _ _)
   | (with_reducible exact utf_Runes.mono _ _)
   | (with_reducible exact LeO.refl _)
   | exact nfkc_Runes.mono _ _ _
   | exact utf_Encode.mono _ _
   | exact utf_Runes.mono _ _
   | exact LeO.none _
   | refine LeO.ite ?_ ?_
   | refine LeO.bind ?_ (fun _ => ?_)
set_option maxHeartbeats 8000000 in
set_option maxRecDepth 100000 in
theorem nfkc_Text.calls (k : Nat) (a0 : Bool) (a1 : ByteArray) (r1 : ByteArray) (r2 : Int) (w : World) (h : nfkc_Text.f k a0 a1 = some (r1, r2)) :
  Calls Try.prog 13 #[.bool a0, .string a1] w fun e w' => e = .returned (.tuple #[.string r1, .int .i64 r2]) ∧ Below w.heap.size w w' := by
 have HB := aM (Below.refl w.heap.size w)
 have H := h
 clear h
 unfold nfkc_Text.f at H
 obtain ⟨⟨t499, t500, t501⟩, A3, H⟩ := zO H
 try dsimp only at H
 by_cases c4 : t501 = 0
 ·rw [if_pos c4] at H
  have c4b0 : (t501 == 0) = true := beq_iff_eq.mpr c4
  have c4b1 : (t501 != 0) = false := bne_eq_false_iff_eq.mpr c4
  clear c4
  obtain ⟨t504, A5, H⟩ := zO H
  obtain ⟨⟨t507, t508⟩, A6, H⟩ := zO H
  try dsimp only at H
  simp only [Option.some.injEq, Prod.mk.injEq] at H
  obtain ⟨rfl, rfl⟩ := H
  go_enter Try.func13, Try.ntmps13
  go_wp2_with (first | ((with_reducible refine gate_callee (f := 15) rfl ?_); refine goesL_ (some 11) rfl rfl Try.func15 zK rfl #[.string a1] rfl zM ?_; (with_reducible refine (utf_Runes.calls k a1 t499 t500 t501 _ A3.out).mono ?_); rintro e w7 ⟨v502, rfl, ho0, hb⟩; refine ⟨_, rfl, ?_⟩; have n_ := zI (aM (Kd.R_lower ho0 (below_size zB))) (aM (below_step zB hb)); clear HB; obtain ⟨HO503, HB⟩ := n_; (try clear hb); (try clear ho0); obtain ⟨Ao8, co8, rfl⟩ := Kd.R_slice HO503.out) | ((with_reducible refine gate_callee (f := 20) rfl ?_); refine goesL_ (some 20) rfl rfl Try.func20 zK rfl #[.bool a0, .slice Ao8 t499.length co8] rfl zM ?_; (with_reducible refine (nfkc_Runes.calls k a0 _ _ t499 t504 _ ?side1 ?side2 A5.out).mono ?_); (case side1 => exact zC (Kd.R_reads' HO503.out).2.2); (case side2 => exact (Kd.R_reads' HO503.out).2.1); rintro e w9 ⟨v505, rfl, ho0, hb⟩; refine ⟨_, rfl, ?_⟩; have n_ := zI (aM (Kd.R_elder' (zR HO503) (Kd.R_base ho0) hb)) (zI (aM (Kd.R_lower (Kd.R_new' ho0 (Kd.R_lt (zR HO503))) (below_size zB))) (aM (below_step zB hb))); clear HO503 HB; obtain ⟨HO503, HO506, HB⟩ := n_; (try clear hb); (try clear ho0); obtain ⟨Ao10, co10, rfl⟩ := Kd.R_slice HO506.out) | ((with_reducible refine gate_callee (f := 17) rfl ?_); refine goesL_ (some 21) rfl rfl Try.func17 zK rfl #[.slice Ao10 t504.length co10] rfl zM ?_; (with_reducible refine (utf_Encode.calls k _ _ t504 t507 t508 _ ?side1 ?side2 A6.out).mono ?_); (case side1 => exact zC (Kd.R_reads' HO506.out).2.2); (case side2 => exact (Kd.R_reads' HO506.out).2.1); rintro e w11 ⟨rfl, hb⟩; refine ⟨_, rfl, ?_⟩; have n_ := zI (aM (Kd.R_below (zR HO503) hb)) (zI (aM (Kd.R_below (zR HO506) hb)) (aM (below_step zB hb))); clear HO503 HO506 HB; obtain ⟨HO503, HO506, HB⟩ := n_; (try clear hb)))
  go_ret2
  exact ⟨zE, zB⟩
 ·rw [if_neg c4] at H
  have c4b0 : (t501 == 0) = false := beq_eq_false_iff_ne.mpr c4
  have c4b1 : (t501 != 0) = true := bne_iff_ne.mpr c4
  simp only [Option.some.injEq, Prod.mk.injEq] at H
  obtain ⟨rfl, rfl⟩ := H
  go_enter Try.func13, Try.ntmps13
  go_wp2_with (first | ((with_reducible refine gate_callee (f := 15) rfl ?_); refine goesL_ (some 11) rfl rfl Try.func15 zK rfl #[.string a1] rfl zM ?_; (with_reducible refine (utf_Runes.calls k a1 t499 t500 t501 _ A3.out).mono ?_); rintro e w12 ⟨v502, rfl, ho0, hb⟩; refine ⟨_, rfl, ?_⟩; have n_ := zI (aM (Kd.R_lower ho0 (below_size zB))) (aM (below_step zB hb)); clear HB; obtain ⟨HO503, HB⟩ := n_; (try clear hb); (try clear ho0)))
  go_ret2
  exact ⟨zE, zB⟩

/-! ### toponymlaw12_PrepShort: function 5 -/
def toponymlaw12_PrepShort.f (k : Nat) (a0 : Int) (a1 : ByteArray) : Option (Bool) := if (a1.size : Int) > 300 then ((toponymlaw12_awake.f k).bind fun t509 => (some t509)) else ((prep_Value.f k a0 a1).bind fun bt510 => (if bt510.2 = 0 then ((guard_Text.f k bt510.1).bind fun bt512 => ((nfkc_Text.f k true bt510.1).bind fun bt514 => (if (bt510.1.size : Int) ≤ (wrap64 ((wrap64 (3 * (a1.size : Int))) + 2)) then (if bt512.2 = 0 then (if bt514.1.toList = bt510.1.toList then (if bt514.2 = 0 then ((toponymlaw12_awake.f k).bind fun t516 => (some t516)) else (some false)) else (some false)) else (some false)) else (some false)))) else ((toponymlaw12_awake.f k).bind fun t517 => (some t517))))
theorem toponymlaw12_PrepShort.mono : ∀ a0 a1 k, LeO (toponymlaw12_PrepShort.f k a0 a1) (toponymlaw12_PrepShort.f (k + 1) a0 a1) := by
 intro a0 a1 k
 unfold toponymlaw12_PrepShort.f
 repeat' first
   | (with_reducible exact guard_Text.mono _ _)
   | (with_reducible exact nfkc_Text.mono _ _ _)
   | (with_reducible exact prep_Value.mono _ _ _)
   | (with_reducible exact toponymlaw12_awake.mono _)
   | (with_reducible exact LeO.refl _)
   | exact guard_Text.mono _ _
   | exact nfkc_Text.mono _ _ _
   | exact prep_Value.mono _ _ _
   | exact toponymlaw12_awake.mono _
   | exact LeO.none _
   | refine LeO.ite ?_ ?_
   | refine LeO.bind ?_ (fun _ => ?_)
set_option maxHeartbeats 8000000 in
set_option maxRecDepth 100000 in
theorem toponymlaw12_PrepShort.calls (k : Nat) (a0 : Int) (a1 : ByteArray) (r : Bool) (w : World) (h : toponymlaw12_PrepShort.f k a0 a1 = some r) (hT_ : r = true) :
  Calls Try.prog 5 #[.int .i64 a0, .string a1] w fun e w' => e = .returned (.bool r) ∧ Below w.heap.size w w' := by
 have hT := aM hT_
 clear hT_
 have HB := aM (Below.refl w.heap.size w)
 have H := h
 clear h
 unfold toponymlaw12_PrepShort.f at H
 by_cases c3 : (a1.size : Int) > 300
 ·rw [if_pos c3] at H
  have c3b0 : decide (300 < (a1.size : Int)) = true := decide_eq_true c3
  have c3b1 : decide (300 < a1.size) = true := decide_eq_true (by omega)
  clear c3
  obtain ⟨t509, A4, H⟩ := zO H
  obtain rfl := sI H
  go_enter Try.func5, Try.ntmps5
  go_wp2_with (first | ((with_reducible refine gate_callee (f := 6) rfl ?_); refine goesL_ (some 14) rfl rfl Try.func6 zK rfl #[] rfl zM ?_; (with_reducible refine (toponymlaw12_awake.calls k  t509 _ A4.out).mono ?_); rintro e w5 ⟨rfl, hb⟩; (try clear A4); refine ⟨_, rfl, ?_⟩; replace HB := aM (below_step zB hb); (try clear hb)))
  go_ret
  exact ⟨zE, zB⟩
 ·rw [if_neg c3] at H
  have c3b0 : decide (300 < (a1.size : Int)) = false := decide_eq_false c3
  have c3b1 : decide (300 < a1.size) = false := decide_eq_false (by omega)
  clear c3
  obtain ⟨⟨t510, t511⟩, A6, H⟩ := zO H
  try dsimp only at H
  by_cases c7 : t511 = 0
  ·rw [if_pos c7] at H
   have c7b0 : (t511 == 0) = true := beq_iff_eq.mpr c7
   have c7b1 : (t511 != 0) = false := bne_eq_false_iff_eq.mpr c7
   clear c7
   obtain ⟨⟨t512, t513⟩, A8, H⟩ := zO H
   try dsimp only at H
   obtain ⟨⟨t514, t515⟩, A9, H⟩ := zO H
   try dsimp only at H
   by_cases c10 : (t510.size : Int) ≤ (wrap64 ((wrap64 (3 * (a1.size : Int))) + 2))
   ·rw [if_pos c10] at H
    have c10b0 : decide ((t510.size : Int) ≤ (wrap64 ((wrap64 (3 * (a1.size : Int))) + 2))) = true := decide_eq_true c10
    clear c10
    by_cases c11 : t513 = 0
    ·rw [if_pos c11] at H
     have c11b0 : (t513 == 0) = true := beq_iff_eq.mpr c11
     have c11b1 : (t513 != 0) = false := bne_eq_false_iff_eq.mpr c11
     clear c11
     by_cases c12 : t514.toList = t510.toList
     ·rw [if_pos c12] at H
      have c12b0 : (t514.toList == t510.toList) = true := beq_iff_eq.mpr c12
      have c12b1 : (t514.toList != t510.toList) = false := bne_eq_false_iff_eq.mpr c12
      clear c12
      by_cases c13 : t515 = 0
      ·rw [if_pos c13] at H
       have c13b0 : (t515 == 0) = true := beq_iff_eq.mpr c13
       have c13b1 : (t515 != 0) = false := bne_eq_false_iff_eq.mpr c13
       clear c13
       obtain ⟨t516, A14, H⟩ := zO H
       obtain rfl := sI H
       go_enter Try.func5, Try.ntmps5
       go_wp2_with (first | ((with_reducible refine gate_callee (f := 7) rfl ?_); refine goesL_ (some 18) rfl rfl Try.func7 zK rfl #[.int .i64 a0, .string a1] rfl zM ?_; (with_reducible refine (prep_Value.calls k a0 a1 t510 t511 _ A6.out).mono ?_); rintro e w15 ⟨rfl, hb⟩; refine ⟨_, rfl, ?_⟩; replace HB := aM (below_step zB hb); (try clear hb)) | ((with_reducible refine gate_callee (f := 12) rfl ?_); refine goesL_ (some 26) rfl rfl Try.func12 zK rfl #[.string t510] rfl zM ?_; (with_reducible refine (guard_Text.calls k t510 t512 t513 _ A8.out).mono ?_); rintro e w16 ⟨rfl, hb⟩; refine ⟨_, rfl, ?_⟩; replace HB := aM (below_step zB hb); (try clear hb)) | ((with_reducible refine gate_callee (f := 13) rfl ?_); refine goesL_ (some 31) rfl rfl Try.func13 zK rfl #[.bool true, .string t510] rfl zM ?_; (with_reducible refine (nfkc_Text.calls k true t510 t514 t515 _ A9.out).mono ?_); rintro e w17 ⟨rfl, hb⟩; refine ⟨_, rfl, ?_⟩; replace HB := aM (below_step zB hb); (try clear hb)) | (go_at_call 6; (with_reducible refine (toponymlaw12_awake.calls k  t516 _ A14.out).mono ?_); rintro e w18 ⟨rfl, hb⟩; (try clear A14); replace HB := aM (below_step zB hb); (try clear hb)))
       go_ret
       exact ⟨zE, zB⟩
      ·rw [if_neg c13] at H
       exact absurd ((sI H).trans hT.out) (by decide)
     ·rw [if_neg c12] at H
      exact absurd ((sI H).trans hT.out) (by decide)
    ·rw [if_neg c11] at H
     exact absurd ((sI H).trans hT.out) (by decide)
   ·rw [if_neg c10] at H
    exact absurd ((sI H).trans hT.out) (by decide)
  ·rw [if_neg c7] at H
   have c7b0 : (t511 == 0) = false := beq_eq_false_iff_ne.mpr c7
   have c7b1 : (t511 != 0) = true := bne_iff_ne.mpr c7
   obtain ⟨t517, A31, H⟩ := zO H
   obtain rfl := sI H
   go_enter Try.func5, Try.ntmps5
   go_wp2_with (first | ((with_reducible refine gate_callee (f := 7) rfl ?_); refine goesL_ (some 18) rfl rfl Try.func7 zK rfl #[.int .i64 a0, .string a1] rfl zM ?_; (with_reducible refine (prep_Value.calls k a0 a1 t510 t511 _ A6.out).mono ?_); rintro e w32 ⟨rfl, hb⟩; refine ⟨_, rfl, ?_⟩; replace HB := aM (below_step zB hb); (try clear hb)) | ((with_reducible refine gate_callee (f := 6) rfl ?_); refine goesL_ (some 23) rfl rfl Try.func6 zK rfl #[] rfl zM ?_; (with_reducible refine (toponymlaw12_awake.calls k  t517 _ A31.out).mono ?_); rintro e w33 ⟨rfl, hb⟩; (try clear A31); refine ⟨_, rfl, ?_⟩; replace HB := aM (below_step zB hb); (try clear hb)))
   go_ret
   exact ⟨zE, zB⟩

/-- THE ONE PURE STATEMENT of toponymlaw12_PrepShort: yours. -/
def toponymlaw12_PrepShort.Pure : Prop := ∀ (a0 : Int) (a1 : ByteArray), (Lit.int .i64 a0).wf = true → a1.size ≤ 140737488351232 → ∃ k, toponymlaw12_PrepShort.f k a0 a1 = some true
theorem toponymlaw12_PrepShort.walk (P : toponymlaw12_PrepShort.Pure) (a0 : Int) (a1 : ByteArray) (w : World) (w0 : (Lit.int .i64 a0).wf = true) (w1 : a1.size ≤ 140737488351232) :
  Calls Try.prog 5 #[.int .i64 a0, .string a1] w fun e w' => e = .returned (.bool true) ∧ Below w.heap.size w w' := by
 obtain ⟨k, h⟩ := P a0 a1 w0 w1
 refine (toponymlaw12_PrepShort.calls k a0 a1 true w h rfl).mono ?_
 rintro e w' ⟨rfl, hd⟩
 exact ⟨rfl, hd⟩

end Go.Proofs.Ytbffakgmlgimeaa.P
