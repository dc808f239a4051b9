-- Printed by wip/mk.py (this session's driver over the kit's print) and from wip/manual.
import Derived.Test.YtdgnekknmpfepaaGreatDoorP0
import Derived.Test.YtdgnekknmpfepaaGreatDoorP1
import Derived.Test.YtdgnekknmpfepaaGreatDoorP8
namespace Go.Proofs.YtdgnekknmpfepaaGreatDoor.P
open Go.RowKit Go.Proofs.YtdgnekknmpfepaaGreatDoorW.PrintWords Go.Proofs.YtdgnekknmpfepaaGreatDoorW.PrintLast Go.Proofs.YtdgnekknmpfepaaGreatDoorW.PrintMore
attribute [local go_sem] run_store_float run_store_complex max2_int min2_int max_two min_two max_three min_three max_four min_four   -- for this text's walks alone
set_option linter.unusedVariables false
set_option linter.unusedSimpArgs false

/-! ### toponymlaw19_SyntaxExact: function 3 -/
def toponymlaw19_SyntaxExact.l0 : Nat → ByteArray → Bool → List Int → Int → Int → Option (Bool)
 | 0, _, _, _, _, _ => none
 | k + 1, x0, x3, x24, x25, x26 => if x26 < x25 then (if 0 ≤ x26 then (if x26 < (x24.length : Int) then ((syntax_Check.f k (rd x24 x26) x0).bind fun t376 => (if t376 = 0 then (if x3 = true then (toponymlaw19_SyntaxExact.l0 k x0 x3 x24 x25 (wrap64 (x26 + 1))) else (some false)) else (toponymlaw19_SyntaxExact.l0 k x0 x3 x24 x25 (wrap64 (x26 + 1))))) else (none)) else (none)) else (if x3 = true then (if x0.toList = ([] : List UInt8) then ((syntax_Check.f k 5 x0).bind fun t377 => (if t377 = 0 then ((toponymlaw19_awake.f k).bind fun t378 => (some t378)) else (some false))) else ((syntax_Check.f k 1 x0).bind fun t379 => (if t379 = 0 then ((syntax_Check.f k 5 x0).bind fun t380 => (if t380 = 0 then ((toponymlaw19_awake.f k).bind fun t381 => (some t381)) else (some false))) else (some false)))) else ((syntax_Check.f k 5 x0).bind fun t382 => (if t382 = 0 then ((toponymlaw19_awake.f k).bind fun t383 => (some t383)) else (some false))))
def toponymlaw19_SyntaxExact.f (k : Nat) (a0 : ByteArray) : Option (Bool) := if (a0.size : Int) > 400 then ((syntax_Fits.f k a0).bind fun t366 => (if (t366.length : Int) = 0 then ((syntax_Check.f k 5 a0).bind fun t369 => (if t369 = 3 then ((toponymlaw19_awake.f k).bind fun t370 => (some t370)) else (some false))) else (some false))) else ((syntax_Check.f k 2 a0).bind fun t371 => ((some (([4, 7, 8, 3, 9, 10] : List Int) : List Int)).bind fun y372 => (toponymlaw19_SyntaxExact.l0 k a0 (t371 == 0) y372 (y372.length : Int) 0)))
theorem toponymlaw19_SyntaxExact.mono_l : ∀ k, (∀ y0 y1 y2 y3 y4, LeO (toponymlaw19_SyntaxExact.l0 k y0 y1 y2 y3 y4) (toponymlaw19_SyntaxExact.l0 (k + 1) y0 y1 y2 y3 y4))
 | 0 => fun _ _ _ _ _ r h => by simp [toponymlaw19_SyntaxExact.l0] at h
 | k + 1 => by
  have ih0 := toponymlaw19_SyntaxExact.mono_l k
  ·intro y0 y1 y2 y3 y4
   unfold toponymlaw19_SyntaxExact.l0
   repeat' first
   | (with_reducible exact ih0 _ _ _ _ _)
   | (with_reducible exact syntax_Check.mono _ _ _)
   | (with_reducible exact syntax_Fits.mono _ _)
   | (with_reducible exact toponymlaw19_awake.mono _)
   | (with_reducible exact LeO.refl _)
   | exact ih0 _ _ _ _ _
   | exact syntax_Check.mono _ _ _
   | exact syntax_Fits.mono _ _
   | exact toponymlaw19_awake.mono _
   | exact LeO.none _
   | refine LeO.ite ?_ ?_
   | refine LeO.bind ?_ (fun _ => ?_)
theorem toponymlaw19_SyntaxExact.mono : ∀ a0 k, LeO (toponymlaw19_SyntaxExact.f k a0) (toponymlaw19_SyntaxExact.f (k + 1) a0) := by
 intro a0 k
 have ih0 := toponymlaw19_SyntaxExact.mono_l k
 unfold toponymlaw19_SyntaxExact.f
 repeat' first
   | (with_reducible exact ih0 _ _ _ _ _)
   | (with_reducible exact syntax_Check.mono _ _ _)
   | (with_reducible exact syntax_Fits.mono _ _)
   | (with_reducible exact toponymlaw19_awake.mono _)
   | (with_reducible exact LeO.refl _)
   | exact ih0 _ _ _ _ _
   | exact syntax_Check.mono _ _ _
   | exact syntax_Fits.mono _ _
   | exact toponymlaw19_awake.mono _
   | exact LeO.none _
   | refine LeO.ite ?_ ?_
   | refine LeO.bind ?_ (fun _ => ?_)
set_option maxHeartbeats 8000000 in
set_option maxRecDepth 100000 in
theorem toponymlaw19_SyntaxExact.calls (k : Nat) (a0 : ByteArray) (r : Bool) (w : World) (hE : Env w) (h : toponymlaw19_SyntaxExact.f k a0 = some r) (hT_ : r = true) :
  Calls Tryz.prog 3 #[.string a0] w fun e w' => e = .returned (.bool r) ∧ Below w.heap.size w w' := by
 have hT := aM hT_
 clear hT_
 have HE := aM hE
 clear hE
 have HB := aM (Below.refl w.heap.size w)
 have H := h
 clear h
 unfold toponymlaw19_SyntaxExact.f at H
 by_cases c2 : (a0.size : Int) > 400
 ·rw [if_pos c2] at H
  have c2b0 : decide (400 < (a0.size : Int)) = true := decide_eq_true c2
  have c2b1 : decide (400 < a0.size) = true := decide_eq_true (by omega)
  clear c2
  obtain ⟨t366, A3, H⟩ := zO H
  by_cases c4 : (t366.length : Int) = 0
  ·rw [if_pos c4] at H
   have c4b0 : ((t366.length : Int) == 0) = true := beq_iff_eq.mpr c4
   have c4b1 : ((t366.length : Int) != 0) = false := bne_eq_false_iff_eq.mpr c4
   clear c4
   obtain ⟨t369, A5, H⟩ := zO H
   by_cases c6 : t369 = 3
   ·rw [if_pos c6] at H
    have c6b0 : (t369 == 3) = true := beq_iff_eq.mpr c6
    have c6b1 : (t369 != 3) = false := bne_eq_false_iff_eq.mpr c6
    clear c6
    obtain ⟨t370, A7, H⟩ := zO H
    obtain rfl := sI H
    go_enter Tryz.func3, Tryz.ntmps3
    go_wp2_with (first | ((with_reducible refine gate_callee (f := 7) rfl ?_); refine goesL_ (some 10) rfl rfl Tryz.func7 zK rfl #[.string a0] rfl zM ?_; (with_reducible refine (syntax_Fits.calls k a0 t366 _ (zEnv HE) A3.out).mono ?_); rintro e w8 ⟨v367, rfl, ho0, hb⟩; refine ⟨_, rfl, ?_⟩; have n_ := zI (aM (Kd.R_lower ho0 (below_size zB))) (aM (below_step zB hb)); clear HB; obtain ⟨HO368, HB⟩ := n_; (try clear hb); (try clear ho0); obtain ⟨Ao9, co9, rfl⟩ := Kd.R_slice HO368.out) | (go_at_call 8; (with_reducible refine (syntax_Check.calls k 5 a0 t369 _ (zEnv HE) A5.out).mono ?_); rintro e w10 ⟨rfl, hb⟩; (try clear A5); have n_ := zI (aM (Kd.R_below (zR HO368) hb)) (aM (below_step zB hb)); clear HO368 HB; obtain ⟨HO368, HB⟩ := n_; (try clear hb)) | (go_at_call 9; (with_reducible refine (toponymlaw19_awake.calls k  t370 _ (zEnv HE) A7.out).mono ?_); rintro e w11 ⟨rfl, hb⟩; (try clear A7); have n_ := zI (aM (Kd.R_below (zR HO368) hb)) (aM (below_step zB hb)); clear HO368 HB; obtain ⟨HO368, HB⟩ := n_; (try clear hb)))
    go_ret
    exact ⟨zE, zB⟩
   ·rw [if_neg c6] at H
    exact absurd ((sI H).trans hT.out) (by decide)
  ·rw [if_neg c4] at H
   exact absurd ((sI H).trans hT.out) (by decide)
 ·rw [if_neg c2] at H
  have c2b0 : decide (400 < (a0.size : Int)) = false := decide_eq_false c2
  have c2b1 : decide (400 < a0.size) = false := decide_eq_false (by omega)
  clear c2
  obtain ⟨t371, A17, H⟩ := zO H
  obtain ⟨b3_, hb3_⟩ : ∃ b_ : Bool, (t371 == 0) = b_ := ⟨_, rfl⟩
  rw [hb3_] at H
  obtain ⟨y372, hy372⟩ : ∃ y_ : List Int, y_ = (([4, 7, 8, 3, 9, 10] : List Int)) := ⟨_, rfl⟩
  replace H : (toponymlaw19_SyntaxExact.l0 k a0 b3_ y372 (y372.length : Int) 0) = some r := zY hy372 H
  have Ny372 := aM hy372
  clear hy372
  have H' := aM H
  clear H
  go_enter Tryz.func3, Tryz.ntmps3
  go_wp2_with (first | ((with_reducible refine gate_callee (f := 8) rfl ?_); refine goesL_ (some 22) rfl rfl Tryz.func8 zK rfl #[.int .i64 2, .string a0] rfl zM ?_; (with_reducible refine (syntax_Check.calls k 2 a0 t371 _ (zEnv HE) A17.out).mono ?_); rintro e w18 ⟨rfl, hb⟩; (try clear A17); refine ⟨_, rfl, ?_⟩; replace HB := aM (below_step zB hb); (try clear hb); (try clear hk)) | ((with_reducible refine gate_dst (N := 24) rfl ?_); refine Kd.R_lit (Kd.int .i64) _ 3 ?hg (N := 24) ?hd (xs := ([4, 7, 8, 3, 9, 10] : List Int)) (inner := [.int .i64 4, .int .i64 7, .int .i64 8, .int .i64 3, .int .i64 9, .int .i64 10]) (ok := fun _ => True) (okp := fun _ => True) ?hr ?hp (fun _ hk => hk) trivial (Below.refl _ _) (Nat.le_refl _) (by simp) ?_; (case hd => rfl); (case hg => rfl); (case hr => first | (go_simp; done) | (go_simp; rfl)); (case hp => exact (Reps.one (show Kd.M (Kd.int .i64) _ _ _ 4 [.int .i64 4] from rfl) (Reps.one (show Kd.M (Kd.int .i64) _ _ _ 7 [.int .i64 7] from rfl) (Reps.one (show Kd.M (Kd.int .i64) _ _ _ 8 [.int .i64 8] from rfl) (Reps.one (show Kd.M (Kd.int .i64) _ _ _ 3 [.int .i64 3] from rfl) (Reps.one (show Kd.M (Kd.int .i64) _ _ _ 9 [.int .i64 9] from rfl) (Reps.one (show Kd.M (Kd.int .i64) _ _ _ 10 [.int .i64 10] from rfl) (Reps.none _ _)))))))); intro v373 w19 ho20 hb hg_ hnew_; clear hg_ hnew_; (first | rw [← Ny372.out] at ho20 | (simp only [Int.reduceToNat] at ho20; rw [← Ny372.out] at ho20)); have n_ := zI (aM (Kd.R_lower ho20 (below_size zB))) (aM (below_step zB hb)); clear HB; obtain ⟨HO374, HB⟩ := n_; clear hb ho20; obtain ⟨Ao21, co21, rfl⟩ := Kd.R_slice HO374.out))
  clear hb3_
  go_loopg [26] k (fun kq v26 w' => ∃ (x26_1 : Int), v26 = .int .i64 x26_1 ∧ Aside0 (toponymlaw19_SyntaxExact.l0 kq a0 b3_ y372 (y372.length : Int) x26_1 = some r) ∧ Aside0 (kq ≤ k) ∧ Aside0 (Kd.R (Kd.int .i64) 3 w' w.heap.size (fun _ => True) (.slice Ao21 y372.length co21) y372) ∧ Aside0 (Below w.heap.size w w'))
  case atStart => exact ⟨(0), zP, H', ⟨Nat.le_refl _⟩, ⟨zR HO374⟩, ⟨zB⟩⟩
  case round =>
   clear H'
   try clear c2
   try clear c2b0
   try clear c2b1
   try clear p2
   try clear c3
   try clear c4
   try clear c4b0
   try clear c4b1
   try clear c4b2
   try clear c6
   try clear c6b0
   try clear c6b1
   try clear c7
   try clear c8
   obtain ⟨x26_1, rfl, HA, HK1, HO_24, HB⟩ := hrel
   cases gk with
   | zero => exact absurd HA.out (by simp [toponymlaw19_SyntaxExact.l0])
   | succ k1 =>
    have H := HA.out
    clear HA
    simp only [toponymlaw19_SyntaxExact.l0] at H
    by_cases c22 : x26_1 < (y372.length : Int)
    ·rw [if_pos c22] at H
     have c22b0 : decide (x26_1 < (y372.length : Int)) = true := decide_eq_true c22
     clear c22
     by_cases c23 : 0 ≤ x26_1
     ·rw [if_pos c23] at H
      have c23b0 : decide (0 ≤ x26_1) = true := decide_eq_true c23
      clear c23
      by_cases c24 : x26_1 < (y372.length : Int)
      ·rw [if_pos c24] at H
       have c24b0 : decide (x26_1 < (y372.length : Int)) = true := decide_eq_true c24
       clear c24
       obtain ⟨t376, A25, H⟩ := zO H
       by_cases c26 : t376 = 0
       ·rw [if_pos c26] at H
        have c26b0 : (t376 == 0) = true := beq_iff_eq.mpr c26
        have c26b1 : (t376 != 0) = false := bne_eq_false_iff_eq.mpr c26
        clear c26
        by_cases c27 : b3_ = true
        ·subst c27
         rw [if_pos rfl] at H
         have H' := aM H
         clear H
         have p375 : 0 ≤ (x26_1 : Int) := zoA
         have q375 : x26_1 < (y372.length : Int) := zoA
         obtain ⟨ad375, e375, hx375_0⟩ := Kd.at_int (Kd.R_reads' HO_24.out).2.2 x26_1 p375 q375
         cases e375
         replace p375 := eq_true p375
         replace q375 := eq_true q375
         go_wp2_with (first | ((with_reducible refine gate_callee (f := 8) rfl ?_); refine goesL_ (some 32) rfl rfl Tryz.func8 zK rfl #[.int .i64 (rd y372 x26_1), .string a0] rfl zM ?_; (with_reducible refine (syntax_Check.calls k1 (rd y372 x26_1) a0 t376 _ (zEnv HE) A25.out).mono ?_); rintro e w28 ⟨rfl, hb⟩; (try clear A25); refine ⟨_, rfl, ?_⟩; have n_ := zI (aM (Kd.R_below (zR HO_24) hb)) (aM (below_step zB hb)); clear HO_24 HB; obtain ⟨HO_24, HB⟩ := n_; (try clear hb)))
         go_roundg k1
         case measure => have := HK1.out; omega
         case rel => exact ⟨(wrap64 (x26_1 + 1)), zP, H', ⟨by have := HK1.out; omega⟩, ⟨zR HO_24⟩, ⟨zB⟩⟩
        ·replace c27 := Bool.eq_false_iff.mpr c27
         subst c27
         rw [if_neg (show ¬ (false = true) by decide)] at H
         exact absurd ((sI H).trans hT.out) (by decide)
       ·rw [if_neg c26] at H
        have c26b0 : (t376 == 0) = false := beq_eq_false_iff_ne.mpr c26
        have c26b1 : (t376 != 0) = true := bne_iff_ne.mpr c26
        have H' := aM H
        clear H
        have p375 : 0 ≤ (x26_1 : Int) := zoA
        have q375 : x26_1 < (y372.length : Int) := zoA
        obtain ⟨ad375, e375, hx375_0⟩ := Kd.at_int (Kd.R_reads' HO_24.out).2.2 x26_1 p375 q375
        cases e375
        replace p375 := eq_true p375
        replace q375 := eq_true q375
        go_wp2_with (first | ((with_reducible refine gate_callee (f := 8) rfl ?_); refine goesL_ (some 32) rfl rfl Tryz.func8 zK rfl #[.int .i64 (rd y372 x26_1), .string a0] rfl zM ?_; (with_reducible refine (syntax_Check.calls k1 (rd y372 x26_1) a0 t376 _ (zEnv HE) A25.out).mono ?_); rintro e w30 ⟨rfl, hb⟩; (try clear A25); refine ⟨_, rfl, ?_⟩; have n_ := zI (aM (Kd.R_below (zR HO_24) hb)) (aM (below_step zB hb)); clear HO_24 HB; obtain ⟨HO_24, HB⟩ := n_; (try clear hb)))
        go_roundg k1
        case measure => have := HK1.out; omega
        case rel => exact ⟨(wrap64 (x26_1 + 1)), zP, H', ⟨by have := HK1.out; omega⟩, ⟨zR HO_24⟩, ⟨zB⟩⟩
      ·rw [if_neg c24] at H
       exact absurd H (by simp)
     ·rw [if_neg c23] at H
      exact absurd H (by simp)
    ·rw [if_neg c22] at H
     have c22b0 : decide (x26_1 < (y372.length : Int)) = false := decide_eq_false c22
     clear c22
     by_cases c31 : b3_ = true
     ·subst c31
      rw [if_pos rfl] at H
      by_cases c32 : a0.toList = ([] : List UInt8)
      ·rw [if_pos c32] at H
       have c32b0 : (a0.toList == ([] : List UInt8)) = true := beq_iff_eq.mpr c32
       have c32b1 : (a0.toList != ([] : List UInt8)) = false := bne_eq_false_iff_eq.mpr c32
       clear c32
       obtain ⟨t377, A33, H⟩ := zO H
       by_cases c34 : t377 = 0
       ·rw [if_pos c34] at H
        have c34b0 : (t377 == 0) = true := beq_iff_eq.mpr c34
        have c34b1 : (t377 != 0) = false := bne_eq_false_iff_eq.mpr c34
        clear c34
        obtain ⟨t378, A35, H⟩ := zO H
        obtain rfl := sI H
        go_wp2_with (first | (go_at_call 8; (with_reducible refine (syntax_Check.calls k1 5 a0 t377 _ (zEnv HE) A33.out).mono ?_); rintro e w36 ⟨rfl, hb⟩; (try clear A33); have n_ := zI (aM (Kd.R_below (zR HO_24) hb)) (aM (below_step zB hb)); clear HO_24 HB; obtain ⟨HO_24, HB⟩ := n_; (try clear hb)) | (go_at_call 9; (with_reducible refine (toponymlaw19_awake.calls k1  t378 _ (zEnv HE) A35.out).mono ?_); rintro e w37 ⟨rfl, hb⟩; (try clear A35); have n_ := zI (aM (Kd.R_below (zR HO_24) hb)) (aM (below_step zB hb)); clear HO_24 HB; obtain ⟨HO_24, HB⟩ := n_; (try clear hb)))
        go_ret
        exact ⟨zE, zB⟩
       ·rw [if_neg c34] at H
        exact absurd ((sI H).trans hT.out) (by decide)
      ·rw [if_neg c32] at H
       have c32b0 : (a0.toList == ([] : List UInt8)) = false := beq_eq_false_iff_ne.mpr c32
       have c32b1 : (a0.toList != ([] : List UInt8)) = true := bne_iff_ne.mpr c32
       obtain ⟨t379, A39, H⟩ := zO H
       by_cases c40 : t379 = 0
       ·rw [if_pos c40] at H
        have c40b0 : (t379 == 0) = true := beq_iff_eq.mpr c40
        have c40b1 : (t379 != 0) = false := bne_eq_false_iff_eq.mpr c40
        clear c40
        obtain ⟨t380, A41, H⟩ := zO H
        by_cases c42 : t380 = 0
        ·rw [if_pos c42] at H
         have c42b0 : (t380 == 0) = true := beq_iff_eq.mpr c42
         have c42b1 : (t380 != 0) = false := bne_eq_false_iff_eq.mpr c42
         clear c42
         obtain ⟨t381, A43, H⟩ := zO H
         obtain rfl := sI H
         go_wp2_with (first | (go_at_call 8; (with_reducible refine (syntax_Check.calls k1 1 a0 t379 _ (zEnv HE) A39.out).mono ?_); rintro e w44 ⟨rfl, hb⟩; (try clear A39); have n_ := zI (aM (Kd.R_below (zR HO_24) hb)) (aM (below_step zB hb)); clear HO_24 HB; obtain ⟨HO_24, HB⟩ := n_; (try clear hb)) | (go_at_call 8; (with_reducible refine (syntax_Check.calls k1 5 a0 t380 _ (zEnv HE) A41.out).mono ?_); rintro e w45 ⟨rfl, hb⟩; (try clear A41); have n_ := zI (aM (Kd.R_below (zR HO_24) hb)) (aM (below_step zB hb)); clear HO_24 HB; obtain ⟨HO_24, HB⟩ := n_; (try clear hb)) | (go_at_call 9; (with_reducible refine (toponymlaw19_awake.calls k1  t381 _ (zEnv HE) A43.out).mono ?_); rintro e w46 ⟨rfl, hb⟩; (try clear A43); have n_ := zI (aM (Kd.R_below (zR HO_24) hb)) (aM (below_step zB hb)); clear HO_24 HB; obtain ⟨HO_24, HB⟩ := n_; (try clear hb)))
         go_ret
         exact ⟨zE, zB⟩
        ·rw [if_neg c42] at H
         exact absurd ((sI H).trans hT.out) (by decide)
       ·rw [if_neg c40] at H
        exact absurd ((sI H).trans hT.out) (by decide)
     ·replace c31 := Bool.eq_false_iff.mpr c31
      subst c31
      rw [if_neg (show ¬ (false = true) by decide)] at H
      obtain ⟨t382, A50, H⟩ := zO H
      by_cases c51 : t382 = 0
      ·rw [if_pos c51] at H
       have c51b0 : (t382 == 0) = true := beq_iff_eq.mpr c51
       have c51b1 : (t382 != 0) = false := bne_eq_false_iff_eq.mpr c51
       clear c51
       obtain ⟨t383, A52, H⟩ := zO H
       obtain rfl := sI H
       go_wp2_with (first | (go_at_call 8; (with_reducible refine (syntax_Check.calls k1 5 a0 t382 _ (zEnv HE) A50.out).mono ?_); rintro e w53 ⟨rfl, hb⟩; (try clear A50); have n_ := zI (aM (Kd.R_below (zR HO_24) hb)) (aM (below_step zB hb)); clear HO_24 HB; obtain ⟨HO_24, HB⟩ := n_; (try clear hb)) | (go_at_call 9; (with_reducible refine (toponymlaw19_awake.calls k1  t383 _ (zEnv HE) A52.out).mono ?_); rintro e w54 ⟨rfl, hb⟩; (try clear A52); have n_ := zI (aM (Kd.R_below (zR HO_24) hb)) (aM (below_step zB hb)); clear HO_24 HB; obtain ⟨HO_24, HB⟩ := n_; (try clear hb)))
       go_ret
       exact ⟨zE, zB⟩
      ·rw [if_neg c51] at H
       exact absurd ((sI H).trans hT.out) (by decide)
/-- THE ONE PURE STATEMENT of toponymlaw19_SyntaxExact: yours. -/
def toponymlaw19_SyntaxExact.Pure : Prop := ∀ (a0 : ByteArray), a0.size ≤ 140737488351232 → ∃ k, toponymlaw19_SyntaxExact.f k a0 = some true
theorem toponymlaw19_SyntaxExact.walk (P : toponymlaw19_SyntaxExact.Pure) (a0 : ByteArray) (w : World) (hE : Env w) (w0 : a0.size ≤ 140737488351232) :
  Calls Tryz.prog 3 #[.string a0] w fun e w' => e = .returned (.bool true) ∧ Below w.heap.size w w' := by
 obtain ⟨k, h⟩ := P a0 w0
 refine (toponymlaw19_SyntaxExact.calls k a0 true w hE h rfl).mono ?_
 rintro e w' ⟨rfl, hd⟩
 exact ⟨rfl, hd⟩

end Go.Proofs.YtdgnekknmpfepaaGreatDoor.P
