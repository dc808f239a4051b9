-- Printed by wip/mk.py (this session's driver over the kit's print) and from wip/manual.
import Derived.Test.YtpihglokjcbjkaaT0
import Derived.Test.YtpihglokjcbjkaaT5
import Derived.Test.YtpihglokjcbjkaaT11
namespace Go.Proofs.Ytpihglokjcbjkaa.P
open Go.RowKit Go.Proofs.YtpihglokjcbjkaaW.PrintWords Go.Proofs.YtpihglokjcbjkaaW.PrintLast Go.Proofs.YtpihglokjcbjkaaW.PrintMore
attribute [local go_sem] max2_int min2_int max_two min_two max_three min_three max_four min_four   -- for this text's walks alone
set_option linter.unusedVariables false
set_option linter.unusedSimpArgs false

/-! ### toponymref01_Decode: function 45 -/
mutual
def toponymref01_Decode.j0 : Nat → ByteArray → Int → Bool → Option (Int × Int × Int)
 | 0, _, _, _ => none
 | k + 1, x0, x1, x16 => if x16 = true then (some (0, 0, 2)) else (toponymref01_Decode.l0 k x0 x1 1)
def toponymref01_Decode.l0 : Nat → ByteArray → Int → Int → Option (Int × Int × Int)
 | 0, _, _, _ => none
 | k + 1, x0, x1, x7 => if x7 ≤ 4 then (toponymref01_Decode.j2 k x0 x1 x7 (decide ((wrap64 (x1 + x7)) ≤ (x0.size : Int)))) else (toponymref01_Decode.j2 k x0 x1 x7 false)
def toponymref01_Decode.j2 : Nat → ByteArray → Int → Int → Bool → Option (Int × Int × Int)
 | 0, _, _, _, _ => none
 | k + 1, x0, x1, x7, x26 => if x26 = true then (if 0 ≤ x1 then (if x1 ≤ (wrap64 (x1 + x7)) then (if (wrap64 (x1 + x7)) ≤ (x0.size : Int) then ((toponymref01_guess.f k (x0.extract (x1 : Int).toNat ((wrap64 (x1 + x7)) : Int).toNat)).bind fun t666 => ((toponymref01_Point.f t666).bind fun t667 => (if t667 = true then ((toponymref01_one.f t666).bind fun t668 => (if t668.toList = (x0.extract (x1 : Int).toNat ((wrap64 (x1 + x7)) : Int).toNat).toList then (some (t666, wrap64 (x1 + x7), 0)) else (toponymref01_Decode.l0 k x0 x1 (wrap64 (x7 + 1))))) else (toponymref01_Decode.l0 k x0 x1 (wrap64 (x7 + 1)))))) else (none)) else (none)) else (none)) else (some (0, 0, 10))
end
def toponymref01_Decode.f (k : Nat) (a0 : ByteArray) (a1 : Int) : Option (Int × Int × Int) := if a1 < 0 then (toponymref01_Decode.j0 k a0 a1 true) else (toponymref01_Decode.j0 k a0 a1 (decide (a1 ≥ (a0.size : Int))))
theorem toponymref01_Decode.mono_l : ∀ k, (∀ y0 y1 y2, LeO (toponymref01_Decode.j0 k y0 y1 y2) (toponymref01_Decode.j0 (k + 1) y0 y1 y2)) ∧ (∀ y0 y1 y2, LeO (toponymref01_Decode.l0 k y0 y1 y2) (toponymref01_Decode.l0 (k + 1) y0 y1 y2)) ∧ (∀ y0 y1 y2 y3, LeO (toponymref01_Decode.j2 k y0 y1 y2 y3) (toponymref01_Decode.j2 (k + 1) y0 y1 y2 y3))
 | 0 => ⟨fun _ _ _ r h => by simp [toponymref01_Decode.j0] at h, fun _ _ _ r h => by simp [toponymref01_Decode.l0] at h, fun _ _ _ _ r h => by simp [toponymref01_Decode.j2] at h⟩
 | k + 1 => by
  obtain ⟨ih0, ih1, ih2⟩ := toponymref01_Decode.mono_l k
  refine ⟨?_, ?_, ?_⟩
  ·intro y0 y1 y2
   unfold toponymref01_Decode.j0
   repeat' first
   | (with_reducible exact ih0 _ _ _)
   | (with_reducible exact ih1 _ _ _)
   | (with_reducible exact ih2 _ _ _ _)
   | (with_reducible exact toponymref01_guess.mono _ _)
   | (with_reducible exact LeO.refl _)
   | exact ih0 _ _ _
   | exact ih1 _ _ _
   | exact ih2 _ _ _ _
   | exact toponymref01_guess.mono _ _
   | exact LeO.none _
   | refine LeO.ite ?_ ?_
   | refine LeO.bind ?_ (fun _ => ?_)
  ·intro y0 y1 y2
   unfold toponymref01_Decode.l0
   repeat' first
   | (with_reducible exact ih0 _ _ _)
   | (with_reducible exact ih1 _ _ _)
   | (with_reducible exact ih2 _ _ _ _)
   | (with_reducible exact toponymref01_guess.mono _ _)
   | (with_reducible exact LeO.refl _)
   | exact ih0 _ _ _
   | exact ih1 _ _ _
   | exact ih2 _ _ _ _
   | exact toponymref01_guess.mono _ _
   | exact LeO.none _
   | refine LeO.ite ?_ ?_
   | refine LeO.bind ?_ (fun _ => ?_)
  ·intro y0 y1 y2 y3
   unfold toponymref01_Decode.j2
   repeat' first
   | (with_reducible exact ih0 _ _ _)
   | (with_reducible exact ih1 _ _ _)
   | (with_reducible exact ih2 _ _ _ _)
   | (with_reducible exact toponymref01_guess.mono _ _)
   | (with_reducible exact LeO.refl _)
   | exact ih0 _ _ _
   | exact ih1 _ _ _
   | exact ih2 _ _ _ _
   | exact toponymref01_guess.mono _ _
   | exact LeO.none _
   | refine LeO.ite ?_ ?_
   | refine LeO.bind ?_ (fun _ => ?_)
theorem toponymref01_Decode.mono : ∀ a0 a1 k, LeO (toponymref01_Decode.f k a0 a1) (toponymref01_Decode.f (k + 1) a0 a1) := by
 intro a0 a1 k
 obtain ⟨ih0, ih1, ih2⟩ := toponymref01_Decode.mono_l k
 unfold toponymref01_Decode.f
 repeat' first
   | (with_reducible exact ih0 _ _ _)
   | (with_reducible exact ih1 _ _ _)
   | (with_reducible exact ih2 _ _ _ _)
   | (with_reducible exact toponymref01_guess.mono _ _)
   | (with_reducible exact LeO.refl _)
   | exact ih0 _ _ _
   | exact ih1 _ _ _
   | exact ih2 _ _ _ _
   | exact toponymref01_guess.mono _ _
   | exact LeO.none _
   | refine LeO.ite ?_ ?_
   | refine LeO.bind ?_ (fun _ => ?_)
def toponymref01_Decode.T7 : Bool × List (List Nat × List Nat) := (true, [([], []), ([0], [0]), ([1, 1], [1]), ([2], [2]), ([3, 2, 2], [2, 3]), ([2], [2]), ([2], [2]), ([2], [2]), ([2], [2]), ([7, 8, 2], [2, 7, 8]), ([5, 6, 9, 2], [2, 5, 6, 9]), ([4, 10, 2], [2, 4, 10]), ([2, 11], [2, 11])])
def toponymref01_Decode.B7 : List Nat := [0, 1, 3, 7, 15, 7, 7, 7, 7, 391, 999, 2047, 4095]
theorem toponymref01_Decode.tab7 : rtab .any (opsOf Try.f45 7) = toponymref01_Decode.T7 := zK
theorem toponymref01_Decode.bits7 : waitsOk toponymref01_Decode.T7.2 toponymref01_Decode.B7 = true := zK
set_option maxHeartbeats 8000000 in
set_option maxRecDepth 100000 in
theorem toponymref01_Decode.calls (k : Nat) (a0 : ByteArray) (a1 : Int) (r1 : Int) (r2 : Int) (r3 : Int) (w : World) (h : toponymref01_Decode.f k a0 a1 = some (r1, r2, r3)) :
  Calls Try.prog 45 #[.string a0, .int .i64 a1] w fun e w' => e = .returned (.tuple #[.int .i32 r1, .int .i64 r2, .int .i64 r3]) ∧ Below w.heap.size w w' := by
 have HB := aM (Below.refl w.heap.size w)
 have H : (if a1 < 0 then (toponymref01_Decode.j0 k a0 a1 true) else (toponymref01_Decode.j0 k a0 a1 (decide (a1 ≥ (a0.size : Int))))) = some (r1, r2, r3) := h
 clear h
 have HC3 := aM H
 clear H
 go_enter Try.func45, Try.ntmps45
 go_upto_region 1 with (fail)
 go_cut [16] (fun v16 wc => ∃ (kq : Nat) (x16_2 : Bool), v16 = .bool x16_2 ∧ Aside0 (toponymref01_Decode.j0 kq a0 a1 x16_2 = some (r1, r2, r3)) ∧ Aside0 (kq ≤ k) ∧ Aside0 (Below w.heap.size w wc))
 case first =>
  have H := HC3.out
  clear HC3
  by_cases c4 : a1 < 0
  ·rw [if_pos c4] at H
   have c4b0 : decide (a1 < 0) = true := decide_eq_true c4
   clear c4
   (first | rw [c4b0] | (simp only [i64_w, i32_w]; rw [c4b0]) | skip)
   have H' := aM H
   clear H
   go_wp2
   go_meet
   case rel => exact ⟨_, (true), zP, H', ⟨by first | omega | exact Nat.le_refl _⟩, ⟨zB⟩⟩
  ·rw [if_neg c4] at H
   have c4b0 : decide (a1 < 0) = false := decide_eq_false c4
   clear c4
   (first | rw [c4b0] | (simp only [i64_w, i32_w]; rw [c4b0]) | skip)
   have H' := aM H
   clear H
   go_wp2
   go_meet
   case rel => exact ⟨_, (decide (a1 ≥ (a0.size : Int))), zP, H', ⟨by first | omega | exact Nat.le_refl _⟩, ⟨zB⟩⟩
 case rest =>
  clear HC3
  try clear p2
  try clear c4
  try clear c4b0
  obtain ⟨kq, x16_2, rfl, HA, HJ2, HB⟩ := hcut
  cases kq with
  | zero => exact absurd HA.out (by simp [toponymref01_Decode.j0])
  | succ kj2 =>
   have H := HA.out
   clear HA
   simp only [toponymref01_Decode.j0] at H
   by_cases c5 : x16_2 = true
   ·subst c5
    rw [if_pos rfl] at H
    simp only [Option.some.injEq, Prod.mk.injEq] at H
    obtain ⟨rfl, rfl, rfl⟩ := H
    go_wp2
    go_ret3
    exact ⟨zE, zB⟩
   ·replace c5 := Bool.eq_false_iff.mpr c5
    subst c5
    rw [if_neg (show ¬ (false = true) by decide)] at H
    have H' := aM H
    clear H
    go_wp2
    go_loopg [7] kj2 (fun kq v7 w' => ∃ (x7_2 : Int), v7 = .int .i64 x7_2 ∧ Aside0 (toponymref01_Decode.l0 kq a0 a1 x7_2 = some (r1, r2, r3)) ∧ Aside0 (kq ≤ kj2) ∧ Aside0 (Below w.heap.size w w'))
    case atStart => exact ⟨(1), zP, H', ⟨Nat.le_refl _⟩, ⟨zB⟩⟩
    case round =>
     clear H'
     try clear p2
     try clear c4
     try clear c4b0
     try clear c5
     try clear p2
     obtain ⟨x7_2, rfl, HA, HK2, HB⟩ := hrel
     cases gk with
     | zero => exact absurd HA.out (by simp [toponymref01_Decode.l0])
     | succ k2 =>
      have H := HA.out
      clear HA
      simp only [toponymref01_Decode.l0] at H
      have HC6 := aM H
      clear H
      go_upto_region 4 with (fail)
      go_cut [26] (fun v26 wc => ∃ (kq : Nat) (x26_5 : Bool), v26 = .bool x26_5 ∧ Aside0 (toponymref01_Decode.j2 kq a0 a1 x7_2 x26_5 = some (r1, r2, r3)) ∧ Aside0 (kq ≤ k2) ∧ Aside0 (Below w.heap.size w wc))
      case first =>
       have H := HC6.out
       clear HC6
       by_cases c7 : x7_2 ≤ 4
       ·rw [if_pos c7] at H
        have c7b0 : decide (x7_2 ≤ 4) = true := decide_eq_true c7
        clear c7
        (first | rw [c7b0] | (simp only [i64_w, i32_w]; rw [c7b0]) | skip)
        have H' := aM H
        clear H
        go_wp2
        go_meet
        case rel => exact ⟨_, (decide ((wrap64 (a1 + x7_2)) ≤ (a0.size : Int))), zP, H', ⟨by have := HJ2.out; have := HK2.out; first | omega | exact Nat.le_refl _⟩, ⟨zB⟩⟩
       ·rw [if_neg c7] at H
        have c7b0 : decide (x7_2 ≤ 4) = false := decide_eq_false c7
        clear c7
        (first | rw [c7b0] | (simp only [i64_w, i32_w]; rw [c7b0]) | skip)
        have H' := aM H
        clear H
        go_wp2
        go_meet
        case rel => exact ⟨_, (false), zP, H', ⟨by have := HJ2.out; have := HK2.out; first | omega | exact Nat.le_refl _⟩, ⟨zB⟩⟩
      case rest =>
       clear HC6
       try clear p2
       try clear c4
       try clear c4b0
       try clear c5
       try clear p6
       try clear c7
       try clear c7b0
       try clear p2
       obtain ⟨kq, x26_5, rfl, HA, HJ5, HB⟩ := hcut
       cases kq with
       | zero => exact absurd HA.out (by simp [toponymref01_Decode.j2])
       | succ kj5 =>
        have H := HA.out
        clear HA
        simp only [toponymref01_Decode.j2] at H
        by_cases c8 : x26_5 = true
        ·subst c8
         rw [if_pos rfl] at H
         by_cases c9 : 0 ≤ a1
         ·rw [if_pos c9] at H
          have c9b0 := eq_true c9
          have c9b1 : decide (0 ≤ a1) = true := decide_eq_true c9
          clear c9
          by_cases c10 : a1 ≤ (wrap64 (a1 + x7_2))
          ·rw [if_pos c10] at H
           have c10b0 := eq_true c10
           have c10b1 : decide (a1 ≤ (wrap64 (a1 + x7_2))) = true := decide_eq_true c10
           by_cases c11 : (wrap64 (a1 + x7_2)) ≤ (a0.size : Int)
           ·rw [if_pos c11] at H
            have c11b0 := eq_true c11
            have c11b1 : decide ((wrap64 (a1 + x7_2)) ≤ (a0.size : Int)) = true := decide_eq_true c11
            obtain ⟨t666, A12, H⟩ := zO H
            obtain ⟨t667, A13, H⟩ := zO H
            by_cases c14 : t667 = true
            ·subst c14
             rw [if_pos rfl] at H
             obtain ⟨t668, A15, H⟩ := zO H
             have c16b0 := eq_true (zoA : 0 ≤ a1)
             have c17b0 := eq_true (zoA : a1 ≤ (wrap64 (a1 + x7_2)))
             have c18b0 := eq_true (zoA : (wrap64 (a1 + x7_2)) ≤ (a0.size : Int))
             by_cases c19 : t668.toList = (a0.extract (a1 : Int).toNat ((wrap64 (a1 + x7_2)) : Int).toNat).toList
             ·rw [if_pos c19] at H
              have c19b0 : (t668.toList == (a0.extract (a1 : Int).toNat ((wrap64 (a1 + x7_2)) : Int).toNat).toList) = true := beq_iff_eq.mpr c19
              have c19b1 : (t668.toList != (a0.extract (a1 : Int).toNat ((wrap64 (a1 + x7_2)) : Int).toNat).toList) = false := bne_eq_false_iff_eq.mpr c19
              clear c19
              simp only [Option.some.injEq, Prod.mk.injEq] at H
              obtain ⟨rfl, rfl, rfl⟩ := H
              try go_wp2_with (first | ((with_reducible refine gate_callee (f := 66) rfl ?_); refine goesL_ (some 35) rfl rfl Try.func66 zK rfl #[.string (a0.extract (a1 : Int).toNat ((wrap64 (a1 + x7_2)) : Int).toNat)] rfl zM ?_; (with_reducible refine (toponymref01_guess.calls kj5 (a0.extract (a1 : Int).toNat ((wrap64 (a1 + x7_2)) : Int).toNat) t666 _ A12.out).mono ?_); rintro e w' ⟨rfl, ⟨nd, rfl⟩⟩; refine ⟨_, rfl, ?_⟩))
              (try (rw [drewN_self wc]; generalize hq_ : World.drewN wc _ = wc; have n0_ : Aside0 (Below w.heap.size w wc) := ⟨by rw [← hq_]; exact zB⟩; clear HB hq_; have HB := n0_; clear n0_))
              have n0_ := aM (bD HB.out)
              clear HB
              have HB := n0_
              clear n0_
              refine start_ (n := 13) (S := fun w' => True) (ds := []) #[false, false, false, false, false, false, false, false, false, false, false, false, false] zK rfl rfl trivial (fun hHeld => ?_); refine with_tabW toponymref01_Decode.tab7 toponymref01_Decode.bits7 (fun HT_ HW_ => ?_)
              generalize wc.drew = w20 at HB hHeld ⊢
              refine pure_ (i := 0) (N := some 36) (v := ?_) (a' := ?_) #[true, false, false, false, false, false, false, false, false, false, false, false, false] rfl rfl (any_of HT_.out zK) (fun _ _ _ h => h) (Or.inl ⟨by rfl, ?_⟩) ?_ ?_
              rotate_left
              ·intro w'
               go_simp
               with_reducible rfl
              rotate_left
              ·simp only [Act.put, List.setIfInBounds_toArray, List.set_cons_zero, List.set_cons_succ, i64_w, i32_w]
               rfl
              refine one_ (i := 1) (N := some 37) #[true, true, false, false, false, false, false, false, false, false, false, false, false] rfl rfl (one_of HT_.out zK) (by decide) (fun K hK => ?_)
              refine goes_ Try.func46 zK rfl #[.int .i32 t666] (by rfl) rfl rfl zM ?_
              with_reducible refine (toponymref01_Point.calls t666 true _ A13.out).mono ?_
              rintro e w' ⟨rfl, ⟨nd, rfl⟩⟩
              refine ⟨_, rfl, ?_⟩
              refine hK.out _ _ trivial (fun hHeld => ?_)
              clear hK K
              refine norm_ (a' := ?_) ?_ ?_
              rotate_left
              ·show Act.put _ (some 37) _ = _
               simp only [Act.put, List.setIfInBounds_toArray, List.set_cons_zero, List.set_cons_succ, i64_w, i32_w]
               rfl
              refine pure_ (i := 2) (N := some 38) (v := ?_) (a' := ?_) #[true, true, true, false, false, false, false, false, false, false, false, false, false] rfl rfl (any_of HT_.out zK) (fun _ _ _ h => h) (Or.inl ⟨by rfl, ?_⟩) ?_ ?_
              rotate_left
              ·intro w'
               go_simp
               with_reducible rfl
              rotate_left
              ·simp only [Act.put, List.setIfInBounds_toArray, List.set_cons_zero, List.set_cons_succ, i64_w, i32_w]
               rfl
              refine pure_ (i := 3) (N := some 39) (v := ?_) (a' := ?_) #[true, true, true, true, false, false, false, false, false, false, false, false, false] rfl rfl (any_of HT_.out zK) (fun _ _ _ h => h) (Or.inl ⟨by rfl, ?_⟩) ?_ ?_
              rotate_left
              ·intro w'
               go_simp
               with_reducible rfl
              rotate_left
              ·simp only [Act.put, List.setIfInBounds_toArray, List.set_cons_zero, List.set_cons_succ, i64_w, i32_w]
               rfl
              refine pure_ (i := 5) (N := some 41) (v := ?_) (a' := ?_) #[true, true, true, true, false, true, false, false, false, false, false, false, false] rfl rfl (any_of HT_.out zK) (fun _ _ _ h => h) (Or.inl ⟨by rfl, ?_⟩) ?_ ?_
              rotate_left
              ·intro w'
               go_simp
               with_reducible rfl
              rotate_left
              ·simp only [Act.put, List.setIfInBounds_toArray, List.set_cons_zero, List.set_cons_succ, i64_w, i32_w]
               rfl
              refine pure_ (i := 6) (N := some 42) (v := ?_) (a' := ?_) #[true, true, true, true, false, true, true, false, false, false, false, false, false] rfl rfl (any_of HT_.out zK) (fun _ _ _ h => h) (Or.inl ⟨by rfl, ?_⟩) ?_ ?_
              rotate_left
              ·intro w'
               go_simp
               with_reducible rfl
              rotate_left
              ·simp only [Act.put, List.setIfInBounds_toArray, List.set_cons_zero, List.set_cons_succ, i64_w, i32_w]
               rfl
              refine pure_ (i := 7) (N := some 43) (v := ?_) (a' := ?_) #[true, true, true, true, false, true, true, true, false, false, false, false, false] rfl rfl (any_of HT_.out zK) (fun _ _ _ h => h) (Or.inl ⟨by rfl, ?_⟩) ?_ ?_
              rotate_left
              ·intro w'
               go_simp
               with_reducible rfl
              rotate_left
              ·simp only [Act.put, List.setIfInBounds_toArray, List.set_cons_zero, List.set_cons_succ, i64_w, i32_w]
               rfl
              refine pure_ (i := 8) (N := some 44) (v := ?_) (a' := ?_) #[true, true, true, true, false, true, true, true, true, false, false, false, false] rfl rfl (any_of HT_.out zK) (fun _ _ _ h => h) (Or.inl ⟨by rfl, ?_⟩) ?_ ?_
              rotate_left
              ·intro w'
               go_simp
               with_reducible rfl
              rotate_left
              ·simp only [Act.put, List.setIfInBounds_toArray, List.set_cons_zero, List.set_cons_succ, i64_w, i32_w]
               rfl
              refine pure_ (i := 9) (N := some 45) (v := ?_) (a' := ?_) #[true, true, true, true, false, true, true, true, true, true, false, false, false] rfl rfl (any_of HT_.out zK) (fun _ _ _ h => h) (Or.inl ⟨by rfl, ?_⟩) ?_ ?_
              rotate_left
              ·intro w'
               go_simp
               with_reducible rfl
              rotate_left
              ·simp only [Act.put, List.setIfInBounds_toArray, List.set_cons_zero, List.set_cons_succ, i64_w, i32_w]
               rfl
              refine pure_ (i := 10) (N := some 46) (v := ?_) (a' := ?_) #[true, true, true, true, false, true, true, true, true, true, true, false, false] rfl rfl (any_of HT_.out zK) (fun _ _ _ h => h) (Or.inl ⟨by rfl, ?_⟩) ?_ ?_
              rotate_left
              ·intro w'
               go_simp
               with_reducible rfl
              rotate_left
              ·simp only [Act.put, List.setIfInBounds_toArray, List.set_cons_zero, List.set_cons_succ, i64_w, i32_w]
               rfl
              refine one_ (i := 4) (N := some 40) #[true, true, true, true, true, true, true, true, true, true, true, false, false] rfl rfl (one_of HT_.out zK) (by decide) (fun K hK => ?_)
              refine goes_ Try.func47 zK rfl #[.int .i32 t666] (by rfl) rfl rfl zM ?_
              with_reducible refine (toponymref01_one.calls t666 t668 _ A15.out).mono ?_
              rintro e w21 ⟨rfl, hb⟩
              refine ⟨_, rfl, ?_⟩
              have n0_ := aM (below_step zB hb)
              clear HB
              have HB := n0_
              clear n0_
              (try clear hb)
              (try clear hb2)
              (try clear hk)
              (try clear hi)
              refine hK.out _ _ trivial (fun hHeld => ?_)
              clear hK K
              refine norm_ (a' := ?_) ?_ ?_
              rotate_left
              ·show Act.put _ (some 40) _ = _
               simp only [Act.put, List.setIfInBounds_toArray, List.set_cons_zero, List.set_cons_succ, i64_w, i32_w]
               rfl
              refine pure_ (i := 11) (N := some 47) (v := ?_) (a' := ?_) #[true, true, true, true, true, true, true, true, true, true, true, true, false] rfl rfl (any_of HT_.out zK) (fun _ _ _ h => h) (Or.inl ⟨by rfl, ?_⟩) ?_ ?_
              rotate_left
              ·intro w'
               go_simp
               with_reducible rfl
              rotate_left
              ·simp only [Act.put, List.setIfInBounds_toArray, List.set_cons_zero, List.set_cons_succ, i64_w, i32_w]
               rfl
              refine pure_ (i := 12) (N := some 48) (v := ?_) (a' := ?_) #[true, true, true, true, true, true, true, true, true, true, true, true, true] rfl rfl (any_of HT_.out zK) (fun _ _ _ h => h) (Or.inl ⟨by rfl, ?_⟩) ?_ ?_
              rotate_left
              ·intro w'
               go_simp
               with_reducible rfl
              rotate_left
              ·simp only [Act.put, List.setIfInBounds_toArray, List.set_cons_zero, List.set_cons_succ, i64_w, i32_w]
               rfl
              refine done_ (done_of HT_.out zK) ?_
              try go_wp2
              go_ret3
              exact ⟨zE, zB⟩
             ·rw [if_neg c19] at H
              have c19b0 : (t668.toList == (a0.extract (a1 : Int).toNat ((wrap64 (a1 + x7_2)) : Int).toNat).toList) = false := beq_eq_false_iff_ne.mpr c19
              have c19b1 : (t668.toList != (a0.extract (a1 : Int).toNat ((wrap64 (a1 + x7_2)) : Int).toNat).toList) = true := bne_iff_ne.mpr c19
              have H' := aM H
              clear H
              try go_wp2_with (first | ((with_reducible refine gate_callee (f := 66) rfl ?_); refine goesL_ (some 35) rfl rfl Try.func66 zK rfl #[.string (a0.extract (a1 : Int).toNat ((wrap64 (a1 + x7_2)) : Int).toNat)] rfl zM ?_; (with_reducible refine (toponymref01_guess.calls kj5 (a0.extract (a1 : Int).toNat ((wrap64 (a1 + x7_2)) : Int).toNat) t666 _ A12.out).mono ?_); rintro e w' ⟨rfl, ⟨nd, rfl⟩⟩; refine ⟨_, rfl, ?_⟩))
              (try (rw [drewN_self wc]; generalize hq_ : World.drewN wc _ = wc; have n0_ : Aside0 (Below w.heap.size w wc) := ⟨by rw [← hq_]; exact zB⟩; clear HB hq_; have HB := n0_; clear n0_))
              have n0_ := aM (bD HB.out)
              clear HB
              have HB := n0_
              clear n0_
              refine start_ (n := 13) (S := fun w' => True) (ds := []) #[false, false, false, false, false, false, false, false, false, false, false, false, false] zK rfl rfl trivial (fun hHeld => ?_); refine with_tabW toponymref01_Decode.tab7 toponymref01_Decode.bits7 (fun HT_ HW_ => ?_)
              generalize wc.drew = w22 at HB hHeld ⊢
              refine pure_ (i := 0) (N := some 36) (v := ?_) (a' := ?_) #[true, false, false, false, false, false, false, false, false, false, false, false, false] rfl rfl (any_of HT_.out zK) (fun _ _ _ h => h) (Or.inl ⟨by rfl, ?_⟩) ?_ ?_
              rotate_left
              ·intro w'
               go_simp
               with_reducible rfl
              rotate_left
              ·simp only [Act.put, List.setIfInBounds_toArray, List.set_cons_zero, List.set_cons_succ, i64_w, i32_w]
               rfl
              refine one_ (i := 1) (N := some 37) #[true, true, false, false, false, false, false, false, false, false, false, false, false] rfl rfl (one_of HT_.out zK) (by decide) (fun K hK => ?_)
              refine goes_ Try.func46 zK rfl #[.int .i32 t666] (by rfl) rfl rfl zM ?_
              with_reducible refine (toponymref01_Point.calls t666 true _ A13.out).mono ?_
              rintro e w' ⟨rfl, ⟨nd, rfl⟩⟩
              refine ⟨_, rfl, ?_⟩
              refine hK.out _ _ trivial (fun hHeld => ?_)
              clear hK K
              refine norm_ (a' := ?_) ?_ ?_
              rotate_left
              ·show Act.put _ (some 37) _ = _
               simp only [Act.put, List.setIfInBounds_toArray, List.set_cons_zero, List.set_cons_succ, i64_w, i32_w]
               rfl
              refine pure_ (i := 2) (N := some 38) (v := ?_) (a' := ?_) #[true, true, true, false, false, false, false, false, false, false, false, false, false] rfl rfl (any_of HT_.out zK) (fun _ _ _ h => h) (Or.inl ⟨by rfl, ?_⟩) ?_ ?_
              rotate_left
              ·intro w'
               go_simp
               with_reducible rfl
              rotate_left
              ·simp only [Act.put, List.setIfInBounds_toArray, List.set_cons_zero, List.set_cons_succ, i64_w, i32_w]
               rfl
              refine pure_ (i := 3) (N := some 39) (v := ?_) (a' := ?_) #[true, true, true, true, false, false, false, false, false, false, false, false, false] rfl rfl (any_of HT_.out zK) (fun _ _ _ h => h) (Or.inl ⟨by rfl, ?_⟩) ?_ ?_
              rotate_left
              ·intro w'
               go_simp
               with_reducible rfl
              rotate_left
              ·simp only [Act.put, List.setIfInBounds_toArray, List.set_cons_zero, List.set_cons_succ, i64_w, i32_w]
               rfl
              refine pure_ (i := 5) (N := some 41) (v := ?_) (a' := ?_) #[true, true, true, true, false, true, false, false, false, false, false, false, false] rfl rfl (any_of HT_.out zK) (fun _ _ _ h => h) (Or.inl ⟨by rfl, ?_⟩) ?_ ?_
              rotate_left
              ·intro w'
               go_simp
               with_reducible rfl
              rotate_left
              ·simp only [Act.put, List.setIfInBounds_toArray, List.set_cons_zero, List.set_cons_succ, i64_w, i32_w]
               rfl
              refine pure_ (i := 6) (N := some 42) (v := ?_) (a' := ?_) #[true, true, true, true, false, true, true, false, false, false, false, false, false] rfl rfl (any_of HT_.out zK) (fun _ _ _ h => h) (Or.inl ⟨by rfl, ?_⟩) ?_ ?_
              rotate_left
              ·intro w'
               go_simp
               with_reducible rfl
              rotate_left
              ·simp only [Act.put, List.setIfInBounds_toArray, List.set_cons_zero, List.set_cons_succ, i64_w, i32_w]
               rfl
              refine pure_ (i := 7) (N := some 43) (v := ?_) (a' := ?_) #[true, true, true, true, false, true, true, true, false, false, false, false, false] rfl rfl (any_of HT_.out zK) (fun _ _ _ h => h) (Or.inl ⟨by rfl, ?_⟩) ?_ ?_
              rotate_left
              ·intro w'
               go_simp
               with_reducible rfl
              rotate_left
              ·simp only [Act.put, List.setIfInBounds_toArray, List.set_cons_zero, List.set_cons_succ, i64_w, i32_w]
               rfl
              refine pure_ (i := 8) (N := some 44) (v := ?_) (a' := ?_) #[true, true, true, true, false, true, true, true, true, false, false, false, false] rfl rfl (any_of HT_.out zK) (fun _ _ _ h => h) (Or.inl ⟨by rfl, ?_⟩) ?_ ?_
              rotate_left
              ·intro w'
               go_simp
               with_reducible rfl
              rotate_left
              ·simp only [Act.put, List.setIfInBounds_toArray, List.set_cons_zero, List.set_cons_succ, i64_w, i32_w]
               rfl
              refine pure_ (i := 9) (N := some 45) (v := ?_) (a' := ?_) #[true, true, true, true, false, true, true, true, true, true, false, false, false] rfl rfl (any_of HT_.out zK) (fun _ _ _ h => h) (Or.inl ⟨by rfl, ?_⟩) ?_ ?_
              rotate_left
              ·intro w'
               go_simp
               with_reducible rfl
              rotate_left
              ·simp only [Act.put, List.setIfInBounds_toArray, List.set_cons_zero, List.set_cons_succ, i64_w, i32_w]
               rfl
              refine pure_ (i := 10) (N := some 46) (v := ?_) (a' := ?_) #[true, true, true, true, false, true, true, true, true, true, true, false, false] rfl rfl (any_of HT_.out zK) (fun _ _ _ h => h) (Or.inl ⟨by rfl, ?_⟩) ?_ ?_
              rotate_left
              ·intro w'
               go_simp
               with_reducible rfl
              rotate_left
              ·simp only [Act.put, List.setIfInBounds_toArray, List.set_cons_zero, List.set_cons_succ, i64_w, i32_w]
               rfl
              refine one_ (i := 4) (N := some 40) #[true, true, true, true, true, true, true, true, true, true, true, false, false] rfl rfl (one_of HT_.out zK) (by decide) (fun K hK => ?_)
              refine goes_ Try.func47 zK rfl #[.int .i32 t666] (by rfl) rfl rfl zM ?_
              with_reducible refine (toponymref01_one.calls t666 t668 _ A15.out).mono ?_
              rintro e w23 ⟨rfl, hb⟩
              refine ⟨_, rfl, ?_⟩
              have n0_ := aM (below_step zB hb)
              clear HB
              have HB := n0_
              clear n0_
              (try clear hb)
              (try clear hb2)
              (try clear hk)
              (try clear hi)
              refine hK.out _ _ trivial (fun hHeld => ?_)
              clear hK K
              refine norm_ (a' := ?_) ?_ ?_
              rotate_left
              ·show Act.put _ (some 40) _ = _
               simp only [Act.put, List.setIfInBounds_toArray, List.set_cons_zero, List.set_cons_succ, i64_w, i32_w]
               rfl
              refine pure_ (i := 11) (N := some 47) (v := ?_) (a' := ?_) #[true, true, true, true, true, true, true, true, true, true, true, true, false] rfl rfl (any_of HT_.out zK) (fun _ _ _ h => h) (Or.inl ⟨by rfl, ?_⟩) ?_ ?_
              rotate_left
              ·intro w'
               go_simp
               with_reducible rfl
              rotate_left
              ·simp only [Act.put, List.setIfInBounds_toArray, List.set_cons_zero, List.set_cons_succ, i64_w, i32_w]
               rfl
              refine pure_ (i := 12) (N := some 48) (v := ?_) (a' := ?_) #[true, true, true, true, true, true, true, true, true, true, true, true, true] rfl rfl (any_of HT_.out zK) (fun _ _ _ h => h) (Or.inl ⟨by rfl, ?_⟩) ?_ ?_
              rotate_left
              ·intro w'
               go_simp
               with_reducible rfl
              rotate_left
              ·simp only [Act.put, List.setIfInBounds_toArray, List.set_cons_zero, List.set_cons_succ, i64_w, i32_w]
               rfl
              refine done_ (done_of HT_.out zK) ?_
              try go_wp2
              go_roundg kj5
              case measure => have := HJ2.out; have := HK2.out; have := HJ5.out; omega
              case rel => exact ⟨(wrap64 (x7_2 + 1)), zP, H', ⟨by have := HJ2.out; have := HK2.out; have := HJ5.out; omega⟩, ⟨zB⟩⟩
            ·replace c14 := Bool.eq_false_iff.mpr c14
             subst c14
             rw [if_neg (show ¬ (false = true) by decide)] at H
             have H' := aM H
             clear H
             try go_wp2_with (first | ((with_reducible refine gate_callee (f := 66) rfl ?_); refine goesL_ (some 35) rfl rfl Try.func66 zK rfl #[.string (a0.extract (a1 : Int).toNat ((wrap64 (a1 + x7_2)) : Int).toNat)] rfl zM ?_; (with_reducible refine (toponymref01_guess.calls kj5 (a0.extract (a1 : Int).toNat ((wrap64 (a1 + x7_2)) : Int).toNat) t666 _ A12.out).mono ?_); rintro e w' ⟨rfl, ⟨nd, rfl⟩⟩; refine ⟨_, rfl, ?_⟩))
             (try (rw [drewN_self wc]; generalize hq_ : World.drewN wc _ = wc; have n0_ : Aside0 (Below w.heap.size w wc) := ⟨by rw [← hq_]; exact zB⟩; clear HB hq_; have HB := n0_; clear n0_))
             have n0_ := aM (bD HB.out)
             clear HB
             have HB := n0_
             clear n0_
             refine start_ (n := 13) (S := fun w' => True) (ds := []) #[false, false, false, false, false, false, false, false, false, false, false, false, false] zK rfl rfl trivial (fun hHeld => ?_); refine with_tabW toponymref01_Decode.tab7 toponymref01_Decode.bits7 (fun HT_ HW_ => ?_)
             generalize wc.drew = w24 at HB hHeld ⊢
             refine pure_ (i := 0) (N := some 36) (v := ?_) (a' := ?_) #[true, false, false, false, false, false, false, false, false, false, false, false, false] rfl rfl (any_of HT_.out zK) (fun _ _ _ h => h) (Or.inl ⟨by rfl, ?_⟩) ?_ ?_
             rotate_left
             ·intro w'
              go_simp
              with_reducible rfl
             rotate_left
             ·simp only [Act.put, List.setIfInBounds_toArray, List.set_cons_zero, List.set_cons_succ, i64_w, i32_w]
              rfl
             refine one_ (i := 1) (N := some 37) #[true, true, false, false, false, false, false, false, false, false, false, false, false] rfl rfl (one_of HT_.out zK) (by decide) (fun K hK => ?_)
             refine goes_ Try.func46 zK rfl #[.int .i32 t666] (by rfl) rfl rfl zM ?_
             with_reducible refine (toponymref01_Point.calls t666 false _ A13.out).mono ?_
             rintro e w' ⟨rfl, ⟨nd, rfl⟩⟩
             refine ⟨_, rfl, ?_⟩
             refine hK.out _ _ trivial (fun hHeld => ?_)
             clear hK K
             refine norm_ (a' := ?_) ?_ ?_
             rotate_left
             ·show Act.put _ (some 37) _ = _
              simp only [Act.put, List.setIfInBounds_toArray, List.set_cons_zero, List.set_cons_succ, i64_w, i32_w]
              rfl
             refine pure_ (i := 2) (N := some 38) (v := ?_) (a' := ?_) #[true, true, true, false, false, false, false, false, false, false, false, false, false] rfl rfl (any_of HT_.out zK) (fun _ _ _ h => h) (Or.inl ⟨by rfl, ?_⟩) ?_ ?_
             rotate_left
             ·intro w'
              go_simp
              with_reducible rfl
             rotate_left
             ·simp only [Act.put, List.setIfInBounds_toArray, List.set_cons_zero, List.set_cons_succ, i64_w, i32_w]
              rfl
             refine pure_ (i := 3) (N := some 39) (v := undef) (a' := ?_) #[true, true, true, true, false, false, false, false, false, false, false, false, false] rfl rfl (any_of HT_.out zK) (fun _ _ _ h => h) (Or.inr ⟨by rfl, rfl⟩) ?_ ?_
             rotate_left
             ·simp only [Act.put, List.setIfInBounds_toArray, List.set_cons_zero, List.set_cons_succ, i64_w, i32_w]
              rfl
             refine pure_ (i := 4) (N := some 40) (v := undef) (a' := ?_) #[true, true, true, true, true, false, false, false, false, false, false, false, false] rfl rfl (any_of HT_.out zK) (fun _ _ _ h => h) (Or.inr ⟨by rfl, rfl⟩) ?_ ?_
             rotate_left
             ·simp only [Act.put, List.setIfInBounds_toArray, List.set_cons_zero, List.set_cons_succ, i64_w, i32_w]
              rfl
             refine pure_ (i := 5) (N := some 41) (v := undef) (a' := ?_) #[true, true, true, true, true, true, false, false, false, false, false, false, false] rfl rfl (any_of HT_.out zK) (fun _ _ _ h => h) (Or.inr ⟨by rfl, rfl⟩) ?_ ?_
             rotate_left
             ·simp only [Act.put, List.setIfInBounds_toArray, List.set_cons_zero, List.set_cons_succ, i64_w, i32_w]
              rfl
             refine pure_ (i := 6) (N := some 42) (v := undef) (a' := ?_) #[true, true, true, true, true, true, true, false, false, false, false, false, false] rfl rfl (any_of HT_.out zK) (fun _ _ _ h => h) (Or.inr ⟨by rfl, rfl⟩) ?_ ?_
             rotate_left
             ·simp only [Act.put, List.setIfInBounds_toArray, List.set_cons_zero, List.set_cons_succ, i64_w, i32_w]
              rfl
             refine pure_ (i := 7) (N := some 43) (v := undef) (a' := ?_) #[true, true, true, true, true, true, true, true, false, false, false, false, false] rfl rfl (any_of HT_.out zK) (fun _ _ _ h => h) (Or.inr ⟨by rfl, rfl⟩) ?_ ?_
             rotate_left
             ·simp only [Act.put, List.setIfInBounds_toArray, List.set_cons_zero, List.set_cons_succ, i64_w, i32_w]
              rfl
             refine pure_ (i := 8) (N := some 44) (v := undef) (a' := ?_) #[true, true, true, true, true, true, true, true, true, false, false, false, false] rfl rfl (any_of HT_.out zK) (fun _ _ _ h => h) (Or.inr ⟨by rfl, rfl⟩) ?_ ?_
             rotate_left
             ·simp only [Act.put, List.setIfInBounds_toArray, List.set_cons_zero, List.set_cons_succ, i64_w, i32_w]
              rfl
             refine pure_ (i := 9) (N := some 45) (v := undef) (a' := ?_) #[true, true, true, true, true, true, true, true, true, true, false, false, false] rfl rfl (any_of HT_.out zK) (fun _ _ _ h => h) (Or.inr ⟨by rfl, rfl⟩) ?_ ?_
             rotate_left
             ·simp only [Act.put, List.setIfInBounds_toArray, List.set_cons_zero, List.set_cons_succ, i64_w, i32_w]
              rfl
             refine pure_ (i := 10) (N := some 46) (v := undef) (a' := ?_) #[true, true, true, true, true, true, true, true, true, true, true, false, false] rfl rfl (any_of HT_.out zK) (fun _ _ _ h => h) (Or.inr ⟨by rfl, rfl⟩) ?_ ?_
             rotate_left
             ·simp only [Act.put, List.setIfInBounds_toArray, List.set_cons_zero, List.set_cons_succ, i64_w, i32_w]
              rfl
             refine pure_ (i := 11) (N := some 47) (v := undef) (a' := ?_) #[true, true, true, true, true, true, true, true, true, true, true, true, false] rfl rfl (any_of HT_.out zK) (fun _ _ _ h => h) (Or.inr ⟨by rfl, rfl⟩) ?_ ?_
             rotate_left
             ·simp only [Act.put, List.setIfInBounds_toArray, List.set_cons_zero, List.set_cons_succ, i64_w, i32_w]
              rfl
             refine pure_ (i := 12) (N := some 48) (v := ?_) (a' := ?_) #[true, true, true, true, true, true, true, true, true, true, true, true, true] rfl rfl (any_of HT_.out zK) (fun _ _ _ h => h) (Or.inl ⟨by rfl, ?_⟩) ?_ ?_
             rotate_left
             ·intro w'
              go_simp
              with_reducible rfl
             rotate_left
             ·simp only [Act.put, List.setIfInBounds_toArray, List.set_cons_zero, List.set_cons_succ, i64_w, i32_w]
              rfl
             refine done_ (done_of HT_.out zK) ?_
             try go_wp2
             go_roundg kj5
             case measure => have := HJ2.out; have := HK2.out; have := HJ5.out; omega
             case rel => exact ⟨(wrap64 (x7_2 + 1)), zP, H', ⟨by have := HJ2.out; have := HK2.out; have := HJ5.out; omega⟩, ⟨zB⟩⟩
           ·rw [if_neg c11] at H
            exact absurd H (by simp)
          ·rw [if_neg c10] at H
           exact absurd H (by simp)
         ·rw [if_neg c9] at H
          exact absurd H (by simp)
        ·replace c8 := Bool.eq_false_iff.mpr c8
         subst c8
         rw [if_neg (show ¬ (false = true) by decide)] at H
         simp only [Option.some.injEq, Prod.mk.injEq] at H
         obtain ⟨rfl, rfl, rfl⟩ := H
         go_wp2
         go_ret3
         exact ⟨zE, zB⟩

/-! ### toponymref01_Runes: function 28 -/
def toponymref01_Runes.l0 : Nat → ByteArray → List Int → Int → Option (List Int × Int × Int)
 | 0, _, _, _ => none
 | k + 1, x0, x5, x6 => if x6 < (x0.size : Int) then ((toponymref01_Decode.f k x0 x6).bind fun bt669 => (if bt669.2.2 = 0 then (if x5.length < 35184372088832 then (toponymref01_Runes.l0 k x0 (x5 ++ [bt669.1]) bt669.2.1) else (none)) else (some (([] : List Int), x6, bt669.2.2)))) else (some (x5, x6, 0))
def toponymref01_Runes.f (k : Nat) (a0 : ByteArray) : Option (List Int × Int × Int) := toponymref01_Runes.l0 k a0 ([] : List Int) 0
theorem toponymref01_Runes.mono_l : ∀ k, (∀ y0 y1 y2, LeO (toponymref01_Runes.l0 k y0 y1 y2) (toponymref01_Runes.l0 (k + 1) y0 y1 y2))
 | 0 => fun _ _ _ r h => by simp [toponymref01_Runes.l0] at h
 | k + 1 => by
  have ih0 := toponymref01_Runes.mono_l k
  ·intro y0 y1 y2
   unfold toponymref01_Runes.l0
   repeat' first
   | (with_reducible exact ih0 _ _ _)
   | (with_reducible exact toponymref01_Decode.mono _ _ _)
   | (with_reducible exact LeO.refl _)
   | exact ih0 _ _ _
   | exact toponymref01_Decode.mono _ _ _
   | exact LeO.none _
   | refine LeO.ite ?_ ?_
   | refine LeO.bind ?_ (fun _ => ?_)
theorem toponymref01_Runes.mono : ∀ a0 k, LeO (toponymref01_Runes.f k a0) (toponymref01_Runes.f (k + 1) a0) := by
 intro a0 k
 have ih0 := toponymref01_Runes.mono_l k
 unfold toponymref01_Runes.f
 repeat' first
   | (with_reducible exact ih0 _ _ _)
   | (with_reducible exact toponymref01_Decode.mono _ _ _)
   | (with_reducible exact LeO.refl _)
   | exact ih0 _ _ _
   | exact toponymref01_Decode.mono _ _ _
   | exact LeO.none _
   | refine LeO.ite ?_ ?_
   | refine LeO.bind ?_ (fun _ => ?_)
set_option maxHeartbeats 8000000 in
set_option maxRecDepth 100000 in
theorem toponymref01_Runes.calls (k : Nat) (a0 : ByteArray) (r1 : List Int) (r2 : Int) (r3 : Int) (w : World) (h : toponymref01_Runes.f k a0 = some (r1, r2, r3)) :
  Calls Try.prog 28 #[.string a0] w fun e w' => ∃ v0_ : Value, e = .returned (.tuple #[v0_, .int .i64 r2, .int .i64 r3]) ∧ Kd.R (Kd.int .i32) 21 w' w.heap.size (fun _ => True) v0_ r1 ∧ Below w.heap.size w w' := by
 have HB := aM (Below.refl w.heap.size w)
 have H : (toponymref01_Runes.l0 k a0 ([] : List Int) 0) = some (r1, r2, r3) := h
 clear h
 have H' := aM H
 clear H
 go_enter Try.func28, Try.ntmps28
 go_wp2
 go_loopg [5, 6] k (fun kq v5 v6 w' => ∃ (x5_1 : List Int) (x6_1 : Int), v6 = .int .i64 x6_1 ∧ Aside0 (toponymref01_Runes.l0 kq a0 x5_1 x6_1 = some (r1, r2, r3)) ∧ Aside0 (kq ≤ k) ∧ Aside0 (Kd.R (Kd.int .i32) 21 w' w.heap.size (fun _ => True) v5 x5_1) ∧ Aside0 (Below w.heap.size w w'))
 case atStart => exact ⟨(([] : List Int)), (0), zP, H', ⟨Nat.le_refl _⟩, ⟨zL⟩, ⟨zB⟩⟩
 case round =>
  clear H'
  obtain ⟨x5_1, x6_1, rfl, HA, HK1, HO_5, HB⟩ := hrel
  cases gk with
  | zero => exact absurd HA.out (by simp [toponymref01_Runes.l0])
  | succ k1 =>
   have H := HA.out
   clear HA
   simp only [toponymref01_Runes.l0] at H
   by_cases c2 : x6_1 < (a0.size : Int)
   ·rw [if_pos c2] at H
    have c2b0 : decide (x6_1 < (a0.size : Int)) = true := decide_eq_true c2
    clear c2
    obtain ⟨⟨t669, t670, t671⟩, A3, H⟩ := zO H
    try dsimp only at H
    by_cases c4 : t671 = 0
    ·rw [if_pos c4] at H
     have c4b0 : (t671 == 0) = true := beq_iff_eq.mpr c4
     have c4b1 : (t671 != 0) = false := bne_eq_false_iff_eq.mpr c4
     clear c4
     by_cases c5 : x5_1.length < 35184372088832
     ·rw [if_pos c5] at H
      have LMc5 := aM c5
      clear c5
      obtain ⟨y672, hy672⟩ : ∃ y_ : List Int, y_ = (x5_1 ++ [t669]) := ⟨_, rfl⟩
      replace H : (toponymref01_Runes.l0 k1 a0 y672 t670) = some (r1, r2, r3) := zY hy672 H
      have Ny672 := aM hy672
      clear hy672
      have H' := aM H
      clear H
      go_wp2_with (first | ((with_reducible refine gate_callee (f := 45) rfl ?_); refine goesL_ (some 17) rfl rfl Try.func45 zK rfl #[.string a0, .int .i64 x6_1] rfl zM ?_; (with_reducible refine (toponymref01_Decode.calls k1 a0 x6_1 t669 t670 t671 _ A3.out).mono ?_); rintro e w6 ⟨rfl, hb⟩; refine ⟨_, rfl, ?_⟩; have n_ := zI (aM (Kd.R_below (zR HO_5) hb)) (aM (below_step zB hb)); clear HO_5 HB; obtain ⟨HO_5, HB⟩ := n_; (try clear hb); (try clear hk)) | ((with_reducible refine gate_builtin (b := .append) (xs := #[.tmp 25, .tmp 27]) rfl ?_); at_builtin; refine Kd.R_append (Kd.int .i32) (w0 := w) w.heap.size rfl (.tmp 25) (.tmp 27) 22 21 (.int .i32 0) 4 rfl Try.underlying22 info21 rfl (by decide) (by omega) u5 x5_1 t669 [.int .i32 t669] (fun _ => True) (fun _ => False) rfl rfl ?aP (fun _ hk => hk.elim) ?aF ?aO ?aB ?aS ?aL ?_; (case aP => exact rfl); (case aB => exact zB); (case aF => exact (fun _ _ => trivial)); (case aO => exact (zR HO_5)); (case aS => exact (below_size zB)); (case aL => have := LMc5.out; omega); intro v673 w7 ho hb hg hat; rw [← Ny672.out] at ho; have n_ := zI (aM (hb)) (aM (ho)); clear HB HO_5; obtain ⟨HB, HO674⟩ := n_; clear ho hb hg hat))
      go_roundg k1
      case measure => have := HK1.out; omega
      case rel => exact ⟨(y672), (t670), zP, H', ⟨by have := HK1.out; omega⟩, ⟨zR HO674⟩, ⟨zB⟩⟩
     ·rw [if_neg c5] at H
      exact absurd H (by simp)
    ·rw [if_neg c4] at H
     have c4b0 : (t671 == 0) = false := beq_eq_false_iff_ne.mpr c4
     have c4b1 : (t671 != 0) = true := bne_iff_ne.mpr c4
     simp only [Option.some.injEq, Prod.mk.injEq] at H
     obtain ⟨rfl, rfl, rfl⟩ := H
     go_wp2_with (first | ((with_reducible refine gate_callee (f := 45) rfl ?_); refine goesL_ (some 17) rfl rfl Try.func45 zK rfl #[.string a0, .int .i64 x6_1] rfl zM ?_; (with_reducible refine (toponymref01_Decode.calls k1 a0 x6_1 t669 t670 t671 _ A3.out).mono ?_); rintro e w8 ⟨rfl, hb⟩; refine ⟨_, rfl, ?_⟩; have n_ := zI (aM (Kd.R_below (zR HO_5) hb)) (aM (below_step zB hb)); clear HO_5 HB; obtain ⟨HO_5, HB⟩ := n_; (try clear hb)))
     go_ret3
     exact ⟨_, zE, zL, zB⟩
   ·rw [if_neg c2] at H
    have c2b0 : decide (x6_1 < (a0.size : Int)) = false := decide_eq_false c2
    clear c2
    simp only [Option.some.injEq, Prod.mk.injEq] at H
    obtain ⟨rfl, rfl, rfl⟩ := H
    go_wp2
    go_ret3
    exact ⟨_, zE, zR HO_5, zB⟩

/-! ### toponymref01_Encode: function 29 -/
def toponymref01_Encode.l0 : Nat → List Int → ByteArray → Int → Option (ByteArray × Int)
 | 0, _, _, _ => none
 | k + 1, x0, x4, x5 => if x5 < (x0.length : Int) then (if 0 ≤ x5 then ((toponymref01_Point.f (rd x0 x5)).bind fun t676 => (if t676 = true then ((toponymref01_one.f (rd x0 x5)).bind fun t678 => (if x4.size + t678.size ≤ 9223372036854775807 then (toponymref01_Encode.l0 k x0 (x4 ++ t678) (wrap64 (x5 + 1))) else (none))) else (some ((⟨#[]⟩ : ByteArray), 10)))) else (none)) else (some (x4, 0))
def toponymref01_Encode.f (k : Nat) (l0 : List Int) : Option (ByteArray × Int) := toponymref01_Encode.l0 k l0 (⟨#[]⟩ : ByteArray) 0
theorem toponymref01_Encode.mono_l : ∀ k, (∀ y0 y1 y2, LeO (toponymref01_Encode.l0 k y0 y1 y2) (toponymref01_Encode.l0 (k + 1) y0 y1 y2))
 | 0 => fun _ _ _ r h => by simp [toponymref01_Encode.l0] at h
 | k + 1 => by
  have ih0 := toponymref01_Encode.mono_l k
  ·intro y0 y1 y2
   unfold toponymref01_Encode.l0
   repeat' first
   | (with_reducible exact ih0 _ _ _)
   | (with_reducible exact LeO.refl _)
   | exact ih0 _ _ _
   | exact LeO.none _
   | refine LeO.ite ?_ ?_
   | refine LeO.bind ?_ (fun _ => ?_)
theorem toponymref01_Encode.mono : ∀ a0 k, LeO (toponymref01_Encode.f k a0) (toponymref01_Encode.f (k + 1) a0) := by
 intro a0 k
 have ih0 := toponymref01_Encode.mono_l k
 unfold toponymref01_Encode.f
 repeat' first
   | (with_reducible exact ih0 _ _ _)
   | (with_reducible exact LeO.refl _)
   | exact ih0 _ _ _
   | exact LeO.none _
   | refine LeO.ite ?_ ?_
   | refine LeO.bind ?_ (fun _ => ?_)
set_option maxHeartbeats 8000000 in
set_option maxRecDepth 100000 in
theorem toponymref01_Encode.calls (k : Nat) (A0 : Option Addr) (c0 : Nat) (l0 : List Int) (r1 : ByteArray) (r2 : Int) (w : World) (hr0 : Kd.C (Kd.int .i32) w A0 l0.length l0) (hc0 : l0.length ≤ c0) (h : toponymref01_Encode.f k l0 = some (r1, r2)) :
  Calls Try.prog 29 #[.slice A0 l0.length c0] w fun e w' => e = .returned (.tuple #[.string r1, .int .i64 r2]) ∧ Below w.heap.size w w' := by
 have HR0 := aM hr0
 have HC0 := aM hc0
 clear hr0 hc0
 have HB := aM (Below.refl w.heap.size w)
 have H : (toponymref01_Encode.l0 k l0 (⟨#[]⟩ : ByteArray) 0) = some (r1, r2) := h
 clear h
 have H' := aM H
 clear H
 go_enter Try.func29, Try.ntmps29
 go_wp2
 go_loopg [4, 5] k (fun kq v4 v5 w' => ∃ (x4_1 : ByteArray) (x5_1 : Int), v4 = .string x4_1 ∧ v5 = .int .i64 x5_1 ∧ Aside0 (toponymref01_Encode.l0 kq l0 x4_1 x5_1 = some (r1, r2)) ∧ Aside0 (kq ≤ k) ∧ Aside0 (Below w.heap.size w w'))
 case atStart => exact ⟨((⟨#[]⟩ : ByteArray)), (0), zP, zP, H', ⟨Nat.le_refl _⟩, ⟨zB⟩⟩
 case round =>
  clear H'
  obtain ⟨x4_1, x5_1, rfl, rfl, HA, HK1, HB⟩ := hrel
  cases gk with
  | zero => exact absurd HA.out (by simp [toponymref01_Encode.l0])
  | succ k1 =>
   have H := HA.out
   clear HA
   simp only [toponymref01_Encode.l0] at H
   by_cases c2 : x5_1 < (l0.length : Int)
   ·rw [if_pos c2] at H
    have c2b0 : decide (x5_1 < (l0.length : Int)) = true := decide_eq_true c2
    clear c2
    by_cases c3 : 0 ≤ x5_1
    ·rw [if_pos c3] at H
     have c3b0 : decide (0 ≤ x5_1) = true := decide_eq_true c3
     clear c3
     obtain ⟨t676, A4, H⟩ := zO H
     by_cases c5 : t676 = true
     ·subst c5
      rw [if_pos rfl] at H
      obtain ⟨t678, A6, H⟩ := zO H
      by_cases c7 : x4_1.size + t678.size ≤ 9223372036854775807
      ·rw [if_pos c7] at H
       have c7b0 := eq_true c7
       have c7b1 : decide (x4_1.size + t678.size ≤ 9223372036854775807) = true := decide_eq_true c7
       try have c7b2 : (9223372036854775807 < x4_1.size + t678.size) = False := eq_false (Nat.not_lt.2 c7)
       have H' := aM H
       clear H
       have p675 : 0 ≤ (x5_1 : Int) := zoA
       have q675 : x5_1 < (l0.length : Int) := zoA
       obtain ⟨ad675, e675, hx675_0⟩ := Kd.at_int HR0.out x5_1 p675 q675
       cases e675
       replace hx675_0 := (HB.out.cell (World.block_lt_of_cell? w _ hx675_0)).trans hx675_0
       replace p675 := eq_true p675
       replace q675 := eq_true q675
       go_wp2_with (first | ((with_reducible refine gate_callee (f := 46) rfl ?_); refine goesL_ (some 16) rfl rfl Try.func46 zK rfl #[.int .i32 (rd l0 x5_1)] rfl zM ?_; (with_reducible refine (toponymref01_Point.calls (rd l0 x5_1) true _ A4.out).mono ?_); rintro e w' ⟨rfl, ⟨nd, rfl⟩⟩; refine ⟨_, rfl, ?_⟩; have p677 : 0 ≤ (x5_1 : Int) := zoA; have q677 : x5_1 < (l0.length : Int) := zoA; obtain ⟨ad677, e677, hx677_0⟩ := Kd.at_int HR0.out x5_1 p677 q677; obtain rfl : ad675 = ad677 := (by injection e677); replace hx677_0 := (HB.out.cell (World.block_lt_of_cell? w _ hx677_0)).trans hx677_0; replace p677 := eq_true p677; replace q677 := eq_true q677) | ((with_reducible refine gate_callee (f := 47) rfl ?_); refine goesL_ (some 23) rfl rfl Try.func47 zK rfl #[.int .i32 (rd l0 x5_1)] rfl zM ?_; (with_reducible refine (toponymref01_one.calls (rd l0 x5_1) t678 _ A6.out).mono ?_); rintro e w8 ⟨rfl, hb⟩; refine ⟨_, rfl, ?_⟩; replace HB := aM (below_step zB hb); (try clear hb)))
       go_roundg k1
       case measure => have := HK1.out; omega
       case rel => exact ⟨(x4_1 ++ t678), (wrap64 (x5_1 + 1)), zP, zP, H', ⟨by have := HK1.out; omega⟩, ⟨zB⟩⟩
      ·rw [if_neg c7] at H
       exact absurd H (by simp)
     ·replace c5 := Bool.eq_false_iff.mpr c5
      subst c5
      rw [if_neg (show ¬ (false = true) by decide)] at H
      simp only [Option.some.injEq, Prod.mk.injEq] at H
      obtain ⟨rfl, rfl⟩ := H
      have p675 : 0 ≤ (x5_1 : Int) := zoA
      have q675 : x5_1 < (l0.length : Int) := zoA
      obtain ⟨ad675, e675, hx675_0⟩ := Kd.at_int HR0.out x5_1 p675 q675
      cases e675
      replace hx675_0 := (HB.out.cell (World.block_lt_of_cell? w _ hx675_0)).trans hx675_0
      replace p675 := eq_true p675
      replace q675 := eq_true q675
      go_wp2_with (first | ((with_reducible refine gate_callee (f := 46) rfl ?_); refine goesL_ (some 16) rfl rfl Try.func46 zK rfl #[.int .i32 (rd l0 x5_1)] rfl zM ?_; (with_reducible refine (toponymref01_Point.calls (rd l0 x5_1) false _ A4.out).mono ?_); rintro e w' ⟨rfl, ⟨nd, rfl⟩⟩; refine ⟨_, rfl, ?_⟩))
      go_ret2
      exact ⟨zE, zB⟩
    ·rw [if_neg c3] at H
     exact absurd H (by simp)
   ·rw [if_neg c2] at H
    have c2b0 : decide (x5_1 < (l0.length : Int)) = false := decide_eq_false c2
    clear c2
    simp only [Option.some.injEq, Prod.mk.injEq] at H
    obtain ⟨rfl, rfl⟩ := H
    go_wp2
    go_ret2
    exact ⟨zE, zB⟩

/-! ### toponymref08_Text: function 14 -/
def toponymref08_Text.f (k : Nat) (a0 : Bool) (a1 : ByteArray) : Option (ByteArray × Int) := (toponymref01_Runes.f k a1).bind fun bt679 => (if bt679.2.2 = 0 then ((toponymref08_Runes.f k a0 bt679.1).bind fun t684 => ((toponymref01_Encode.f k t684).bind fun bt687 => (some (bt687.1, bt687.2)))) else (some ((⟨#[]⟩ : ByteArray), bt679.2.2)))
theorem toponymref08_Text.mono : ∀ a0 a1 k, LeO (toponymref08_Text.f k a0 a1) (toponymref08_Text.f (k + 1) a0 a1) := by
 intro a0 a1 k
 unfold toponymref08_Text.f
 repeat' first
   | (with_reducible exact toponymref01_Encode.mono _ _)
   | (with_reducible exact toponymref01_Runes.mono _ _)
   | (with_reducible exact toponymref08_Runes.mono _ _ _)
   | (with_reducible exact LeO.refl _)
   | exact toponymref01_Encode.mono _ _
   | exact toponymref01_Runes.mono _ _
   | exact toponymref08_Runes.mono _ _ _
   | exact LeO.none _
   | refine LeO.ite ?_ ?_
   | refine LeO.bind ?_ (fun _ => ?_)
set_option maxHeartbeats 8000000 in
set_option maxRecDepth 100000 in
theorem toponymref08_Text.calls (k : Nat) (a0 : Bool) (a1 : ByteArray) (r1 : ByteArray) (r2 : Int) (w : World) (h : toponymref08_Text.f k a0 a1 = some (r1, r2)) :
  Calls Try.prog 14 #[.bool a0, .string a1] w fun e w' => e = .returned (.tuple #[.string r1, .int .i64 r2]) ∧ Below w.heap.size w w' := by
 have HB := aM (Below.refl w.heap.size w)
 have H : ((toponymref01_Runes.f k a1).bind fun bt679 => (if bt679.2.2 = 0 then ((toponymref08_Runes.f k a0 bt679.1).bind fun t684 => ((toponymref01_Encode.f k t684).bind fun bt687 => (some (bt687.1, bt687.2)))) else (some ((⟨#[]⟩ : ByteArray), bt679.2.2)))) = some (r1, r2) := h
 clear h
 obtain ⟨⟨t679, t680, t681⟩, A3, H⟩ := zO H
 try dsimp only at H
 by_cases c4 : t681 = 0
 ·rw [if_pos c4] at H
  have c4b0 : (t681 == 0) = true := beq_iff_eq.mpr c4
  have c4b1 : (t681 != 0) = false := bne_eq_false_iff_eq.mpr c4
  clear c4
  obtain ⟨t684, A5, H⟩ := zO H
  obtain ⟨⟨t687, t688⟩, A6, H⟩ := zO H
  try dsimp only at H
  simp only [Option.some.injEq, Prod.mk.injEq] at H
  obtain ⟨rfl, rfl⟩ := H
  go_enter Try.func14, Try.ntmps14
  go_wp2_with (first | ((with_reducible refine gate_callee (f := 28) rfl ?_); refine goesL_ (some 11) rfl rfl Try.func28 zK rfl #[.string a1] rfl zM ?_; (with_reducible refine (toponymref01_Runes.calls k a1 t679 t680 t681 _ A3.out).mono ?_); rintro e w7 ⟨v682, rfl, ho0, hb⟩; refine ⟨_, rfl, ?_⟩; have n_ := zI (aM (Kd.R_lower ho0 (below_size zB))) (aM (below_step zB hb)); clear HB; obtain ⟨HO683, HB⟩ := n_; (try clear hb); (try clear ho0); obtain ⟨Ao8, co8, rfl⟩ := Kd.R_slice HO683.out) | ((with_reducible refine gate_callee (f := 9) rfl ?_); refine goesL_ (some 20) rfl rfl Try.func9 zK rfl #[.bool a0, .slice Ao8 t679.length co8] rfl zM ?_; (with_reducible refine (toponymref08_Runes.calls k a0 _ _ t679 t684 _ ?side1 ?side2 A5.out).mono ?_); (case side1 => exact zC (Kd.R_reads' HO683.out).2.2); (case side2 => exact (Kd.R_reads' HO683.out).2.1); rintro e w9 ⟨v685, rfl, ho0, hb⟩; refine ⟨_, rfl, ?_⟩; have n_ := zI (aM (Kd.R_elder' (zR HO683) (Kd.R_base ho0) hb)) (zI (aM (Kd.R_lower (Kd.R_new' ho0 (Kd.R_lt (zR HO683))) (below_size zB))) (aM (below_step zB hb))); clear HO683 HB; obtain ⟨HO683, HO686, HB⟩ := n_; (try clear hb); (try clear ho0); obtain ⟨Ao10, co10, rfl⟩ := Kd.R_slice HO686.out) | ((with_reducible refine gate_callee (f := 29) rfl ?_); refine goesL_ (some 21) rfl rfl Try.func29 zK rfl #[.slice Ao10 t684.length co10] rfl zM ?_; (with_reducible refine (toponymref01_Encode.calls k _ _ t684 t687 t688 _ ?side1 ?side2 A6.out).mono ?_); (case side1 => exact zC (Kd.R_reads' HO686.out).2.2); (case side2 => exact (Kd.R_reads' HO686.out).2.1); rintro e w11 ⟨rfl, hb⟩; refine ⟨_, rfl, ?_⟩; have n_ := zI (aM (Kd.R_below (zR HO683) hb)) (zI (aM (Kd.R_below (zR HO686) hb)) (aM (below_step zB hb))); clear HO683 HO686 HB; obtain ⟨HO683, HO686, HB⟩ := n_; (try clear hb)))
  go_ret2
  exact ⟨zE, zB⟩
 ·rw [if_neg c4] at H
  have c4b0 : (t681 == 0) = false := beq_eq_false_iff_ne.mpr c4
  have c4b1 : (t681 != 0) = true := bne_iff_ne.mpr c4
  simp only [Option.some.injEq, Prod.mk.injEq] at H
  obtain ⟨rfl, rfl⟩ := H
  go_enter Try.func14, Try.ntmps14
  go_wp2_with (first | ((with_reducible refine gate_callee (f := 28) rfl ?_); refine goesL_ (some 11) rfl rfl Try.func28 zK rfl #[.string a1] rfl zM ?_; (with_reducible refine (toponymref01_Runes.calls k a1 t679 t680 t681 _ A3.out).mono ?_); rintro e w12 ⟨v682, rfl, ho0, hb⟩; refine ⟨_, rfl, ?_⟩; have n_ := zI (aM (Kd.R_lower ho0 (below_size zB))) (aM (below_step zB hb)); clear HB; obtain ⟨HO683, HB⟩ := n_; (try clear hb); (try clear ho0)))
  go_ret2
  exact ⟨zE, zB⟩

/-! ### toponymref08_Same: function 16 -/
def toponymref08_Same.f (k : Nat) (a0 : Bool) (a1 : ByteArray) (a2 : ByteArray) : Option (Bool × Int) := (toponymref08_Text.f k a0 a1).bind fun bt689 => ((toponymref08_Text.f k a0 a2).bind fun bt691 => (if bt689.2 = 0 then (if bt691.2 = 0 then (some ((bt689.1.toList == bt691.1.toList), 0)) else (some (false, bt691.2))) else (some (false, bt689.2))))
theorem toponymref08_Same.mono : ∀ a0 a1 a2 k, LeO (toponymref08_Same.f k a0 a1 a2) (toponymref08_Same.f (k + 1) a0 a1 a2) := by
 intro a0 a1 a2 k
 unfold toponymref08_Same.f
 repeat' first
   | (with_reducible exact toponymref08_Text.mono _ _ _)
   | (with_reducible exact LeO.refl _)
   | exact toponymref08_Text.mono _ _ _
   | exact LeO.none _
   | refine LeO.ite ?_ ?_
   | refine LeO.bind ?_ (fun _ => ?_)
set_option maxHeartbeats 8000000 in
set_option maxRecDepth 100000 in
theorem toponymref08_Same.calls (k : Nat) (a0 : Bool) (a1 : ByteArray) (a2 : ByteArray) (r1 : Bool) (r2 : Int) (w : World) (h : toponymref08_Same.f k a0 a1 a2 = some (r1, r2)) :
  Calls Try.prog 16 #[.bool a0, .string a1, .string a2] w fun e w' => e = .returned (.tuple #[.bool r1, .int .i64 r2]) ∧ Below w.heap.size w w' := by
 have HB := aM (Below.refl w.heap.size w)
 have H : ((toponymref08_Text.f k a0 a1).bind fun bt689 => ((toponymref08_Text.f k a0 a2).bind fun bt691 => (if bt689.2 = 0 then (if bt691.2 = 0 then (some ((bt689.1.toList == bt691.1.toList), 0)) else (some (false, bt691.2))) else (some (false, bt689.2))))) = some (r1, r2) := h
 clear h
 obtain ⟨⟨t689, t690⟩, A4, H⟩ := zO H
 try dsimp only at H
 obtain ⟨⟨t691, t692⟩, A5, H⟩ := zO H
 try dsimp only at H
 by_cases c6 : t690 = 0
 ·rw [if_pos c6] at H
  have c6b0 : (t690 == 0) = true := beq_iff_eq.mpr c6
  have c6b1 : (t690 != 0) = false := bne_eq_false_iff_eq.mpr c6
  clear c6
  by_cases c7 : t692 = 0
  ·rw [if_pos c7] at H
   have c7b0 : (t692 == 0) = true := beq_iff_eq.mpr c7
   have c7b1 : (t692 != 0) = false := bne_eq_false_iff_eq.mpr c7
   clear c7
   simp only [Option.some.injEq, Prod.mk.injEq] at H
   obtain ⟨rfl, rfl⟩ := H
   go_enter Try.func16, Try.ntmps16
   go_wp2_with (first | ((with_reducible refine gate_callee (f := 14) rfl ?_); refine goesL_ (some 15) rfl rfl Try.func14 zK rfl #[.bool a0, .string a1] rfl zM ?_; (with_reducible refine (toponymref08_Text.calls k a0 a1 t689 t690 _ A4.out).mono ?_); rintro e w8 ⟨rfl, hb⟩; (try clear A4); refine ⟨_, rfl, ?_⟩; replace HB := aM (below_step zB hb); (try clear hb)) | ((with_reducible refine gate_callee (f := 14) rfl ?_); refine goesL_ (some 21) rfl rfl Try.func14 zK rfl #[.bool a0, .string a2] rfl zM ?_; (with_reducible refine (toponymref08_Text.calls k a0 a2 t691 t692 _ A5.out).mono ?_); rintro e w9 ⟨rfl, hb⟩; (try clear A5); refine ⟨_, rfl, ?_⟩; replace HB := aM (below_step zB hb); (try clear hb)))
   go_ret2
   exact ⟨zE, zB⟩
  ·rw [if_neg c7] at H
   have c7b0 : (t692 == 0) = false := beq_eq_false_iff_ne.mpr c7
   have c7b1 : (t692 != 0) = true := bne_iff_ne.mpr c7
   simp only [Option.some.injEq, Prod.mk.injEq] at H
   obtain ⟨rfl, rfl⟩ := H
   go_enter Try.func16, Try.ntmps16
   go_wp2_with (first | ((with_reducible refine gate_callee (f := 14) rfl ?_); refine goesL_ (some 15) rfl rfl Try.func14 zK rfl #[.bool a0, .string a1] rfl zM ?_; (with_reducible refine (toponymref08_Text.calls k a0 a1 t689 t690 _ A4.out).mono ?_); rintro e w10 ⟨rfl, hb⟩; (try clear A4); refine ⟨_, rfl, ?_⟩; replace HB := aM (below_step zB hb); (try clear hb)) | ((with_reducible refine gate_callee (f := 14) rfl ?_); refine goesL_ (some 21) rfl rfl Try.func14 zK rfl #[.bool a0, .string a2] rfl zM ?_; (with_reducible refine (toponymref08_Text.calls k a0 a2 t691 t692 _ A5.out).mono ?_); rintro e w11 ⟨rfl, hb⟩; (try clear A5); refine ⟨_, rfl, ?_⟩; replace HB := aM (below_step zB hb); (try clear hb)))
   go_ret2
   exact ⟨zE, zB⟩
 ·rw [if_neg c6] at H
  have c6b0 : (t690 == 0) = false := beq_eq_false_iff_ne.mpr c6
  have c6b1 : (t690 != 0) = true := bne_iff_ne.mpr c6
  simp only [Option.some.injEq, Prod.mk.injEq] at H
  obtain ⟨rfl, rfl⟩ := H
  go_enter Try.func16, Try.ntmps16
  go_wp2_with (first | ((with_reducible refine gate_callee (f := 14) rfl ?_); refine goesL_ (some 15) rfl rfl Try.func14 zK rfl #[.bool a0, .string a1] rfl zM ?_; (with_reducible refine (toponymref08_Text.calls k a0 a1 t689 t690 _ A4.out).mono ?_); rintro e w12 ⟨rfl, hb⟩; (try clear A4); refine ⟨_, rfl, ?_⟩; replace HB := aM (below_step zB hb); (try clear hb)) | ((with_reducible refine gate_callee (f := 14) rfl ?_); refine goesL_ (some 21) rfl rfl Try.func14 zK rfl #[.bool a0, .string a2] rfl zM ?_; (with_reducible refine (toponymref08_Text.calls k a0 a2 t691 t692 _ A5.out).mono ?_); rintro e w13 ⟨rfl, hb⟩; (try clear A5); refine ⟨_, rfl, ?_⟩; replace HB := aM (below_step zB hb); (try clear hb)))
  go_ret2
  exact ⟨zE, zB⟩

/-! ### toponymlaw08_NfkcTexts: function 4 -/
def toponymlaw08_NfkcTexts.j0 : Nat → Bool → ByteArray → ByteArray → Bool → Option (Bool)
 | 0, _, _, _, _ => none
 | k + 1, x0, x1, x2, x22 => if x22 = true then ((toponymlaw08_awake.f k).bind fun t693 => (some t693)) else ((nfkc_Text.f k x0 x1).bind fun bt694 => ((toponymref08_Text.f k x0 x1).bind fun bt696 => ((nfkc_Same.f k x0 x1 x2).bind fun bt698 => ((toponymref08_Same.f k x0 x1 x2).bind fun bt700 => (if bt694.1.toList = bt696.1.toList then (if bt694.2 = bt696.2 then (if (bt698.1 == bt700.1) = true then (if bt698.2 = bt700.2 then ((toponymlaw08_awake.f k).bind fun t702 => (some t702)) else (some false)) else (some false)) else (some false)) else (some false))))))
def toponymlaw08_NfkcTexts.f (k : Nat) (a0 : Bool) (a1 : ByteArray) (a2 : ByteArray) : Option (Bool) := if (a1.size : Int) > 300 then (toponymlaw08_NfkcTexts.j0 k a0 a1 a2 true) else (toponymlaw08_NfkcTexts.j0 k a0 a1 a2 (decide ((a2.size : Int) > 300)))
theorem toponymlaw08_NfkcTexts.mono_l : ∀ k, (∀ y0 y1 y2 y3, LeO (toponymlaw08_NfkcTexts.j0 k y0 y1 y2 y3) (toponymlaw08_NfkcTexts.j0 (k + 1) y0 y1 y2 y3))
 | 0 => fun _ _ _ _ r h => by simp [toponymlaw08_NfkcTexts.j0] at h
 | k + 1 => by
  have ih0 := toponymlaw08_NfkcTexts.mono_l k
  ·intro y0 y1 y2 y3
   unfold toponymlaw08_NfkcTexts.j0
   repeat' first
   | (with_reducible exact ih0 _ _ _ _)
   | (with_reducible exact nfkc_Same.mono _ _ _ _)
   | (with_reducible exact nfkc_Text.mono _ _ _)
   | (with_reducible exact toponymlaw08_awake.mono _)
   | (with_reducible exact toponymref08_Same.mono _ _ _ _)
   | (with_reducible exact toponymref08_Text.mono _ _ _)
   | (with_reducible exact LeO.refl _)
   | exact ih0 _ _ _ _
   | exact nfkc_Same.mono _ _ _ _
   | exact nfkc_Text.mono _ _ _
   | exact toponymlaw08_awake.mono _
   | exact toponymref08_Same.mono _ _ _ _
   | exact toponymref08_Text.mono _ _ _
   | exact LeO.none _
   | refine LeO.ite ?_ ?_
   | refine LeO.bind ?_ (fun _ => ?_)
theorem toponymlaw08_NfkcTexts.mono : ∀ a0 a1 a2 k, LeO (toponymlaw08_NfkcTexts.f k a0 a1 a2) (toponymlaw08_NfkcTexts.f (k + 1) a0 a1 a2) := by
 intro a0 a1 a2 k
 have ih0 := toponymlaw08_NfkcTexts.mono_l k
 unfold toponymlaw08_NfkcTexts.f
 repeat' first
   | (with_reducible exact ih0 _ _ _ _)
   | (with_reducible exact nfkc_Same.mono _ _ _ _)
   | (with_reducible exact nfkc_Text.mono _ _ _)
   | (with_reducible exact toponymlaw08_awake.mono _)
   | (with_reducible exact toponymref08_Same.mono _ _ _ _)
   | (with_reducible exact toponymref08_Text.mono _ _ _)
   | (with_reducible exact LeO.refl _)
   | exact ih0 _ _ _ _
   | exact nfkc_Same.mono _ _ _ _
   | exact nfkc_Text.mono _ _ _
   | exact toponymlaw08_awake.mono _
   | exact toponymref08_Same.mono _ _ _ _
   | exact toponymref08_Text.mono _ _ _
   | exact LeO.none _
   | refine LeO.ite ?_ ?_
   | refine LeO.bind ?_ (fun _ => ?_)
set_option maxHeartbeats 8000000 in
set_option maxRecDepth 100000 in
theorem toponymlaw08_NfkcTexts.calls (k : Nat) (a0 : Bool) (a1 : ByteArray) (a2 : ByteArray) (r : Bool) (w : World) (h : toponymlaw08_NfkcTexts.f k a0 a1 a2 = some r) (hT_ : r = true) :
  Calls Try.prog 4 #[.bool a0, .string a1, .string a2] w fun e w' => e = .returned (.bool r) ∧ Below w.heap.size w w' := by
 have hT := aM hT_
 clear hT_
 have HB := aM (Below.refl w.heap.size w)
 have H : (if (a1.size : Int) > 300 then (toponymlaw08_NfkcTexts.j0 k a0 a1 a2 true) else (toponymlaw08_NfkcTexts.j0 k a0 a1 a2 (decide ((a2.size : Int) > 300)))) = some r := h
 clear h
 have HC4 := aM H
 clear H
 go_enter Try.func4, Try.ntmps4
 go_upto_region 1 with (fail)
 go_cut [22] (fun v22 wc => ∃ (kq : Nat) (x22_3 : Bool), v22 = .bool x22_3 ∧ Aside0 (toponymlaw08_NfkcTexts.j0 kq a0 a1 a2 x22_3 = some r) ∧ Aside0 (kq ≤ k) ∧ Aside0 (Below w.heap.size w wc))
 case first =>
  have H := HC4.out
  clear HC4
  by_cases c5 : (a1.size : Int) > 300
  ·rw [if_pos c5] at H
   have c5b0 : decide (300 < (a1.size : Int)) = true := decide_eq_true c5
   have c5b1 : decide (300 < a1.size) = true := decide_eq_true (by omega)
   clear c5
   (first | rw [c5b0] | (simp only [i64_w, i32_w]; rw [c5b0]) | skip)
   have H' := aM H
   clear H
   go_wp2
   go_meet
   case rel => exact ⟨_, (true), zP, H', ⟨by first | omega | exact Nat.le_refl _⟩, ⟨zB⟩⟩
  ·rw [if_neg c5] at H
   have c5b0 : decide (300 < (a1.size : Int)) = false := decide_eq_false c5
   have c5b1 : decide (300 < a1.size) = false := decide_eq_false (by omega)
   clear c5
   (first | rw [c5b0] | (simp only [i64_w, i32_w]; rw [c5b0]) | skip)
   have H' := aM H
   clear H
   go_wp2
   go_meet
   case rel => exact ⟨_, (decide ((a2.size : Int) > 300)), zP, H', ⟨by first | omega | exact Nat.le_refl _⟩, ⟨zB⟩⟩
 case rest =>
  clear HC4
  try clear p2
  try clear c4
  try clear c5
  try clear c5b0
  try clear c5b1
  obtain ⟨kq, x22_3, rfl, HA, HJ3, HB⟩ := hcut
  cases kq with
  | zero => exact absurd HA.out (by simp [toponymlaw08_NfkcTexts.j0])
  | succ kj3 =>
   have H := HA.out
   clear HA
   simp only [toponymlaw08_NfkcTexts.j0] at H
   by_cases c6 : x22_3 = true
   ·subst c6
    rw [if_pos rfl] at H
    obtain ⟨t693, A7, H⟩ := zO H
    obtain rfl := sI H
    go_wp2_with (first | ((with_reducible refine gate_callee (f := 8) rfl ?_); refine goesL_ (some 23) rfl rfl Try.func8 zK rfl #[] rfl zM ?_; (with_reducible refine (toponymlaw08_awake.calls kj3  t693 _ A7.out).mono ?_); rintro e w8 ⟨rfl, hb⟩; (try clear A7); refine ⟨_, rfl, ?_⟩; replace HB := aM (below_step zB hb); (try clear hb)))
    go_ret
    exact ⟨zE, zB⟩
   ·replace c6 := Bool.eq_false_iff.mpr c6
    subst c6
    rw [if_neg (show ¬ (false = true) by decide)] at H
    obtain ⟨⟨t694, t695⟩, A9, H⟩ := zO H
    try dsimp only at H
    obtain ⟨⟨t696, t697⟩, A10, H⟩ := zO H
    try dsimp only at H
    obtain ⟨⟨t698, t699⟩, A11, H⟩ := zO H
    try dsimp only at H
    obtain ⟨⟨t700, t701⟩, A12, H⟩ := zO H
    try dsimp only at H
    by_cases c13 : t694.toList = t696.toList
    ·rw [if_pos c13] at H
     have c13b0 : (t694.toList == t696.toList) = true := beq_iff_eq.mpr c13
     have c13b1 : (t694.toList != t696.toList) = false := bne_eq_false_iff_eq.mpr c13
     clear c13
     by_cases c14 : t695 = t697
     ·rw [if_pos c14] at H
      have c14b0 : (t695 == t697) = true := beq_iff_eq.mpr c14
      have c14b1 : (t695 != t697) = false := bne_eq_false_iff_eq.mpr c14
      clear c14
      by_cases c15 : (t698 == t700) = true
      ·rw [if_pos c15] at H
       have c15b0 : (t698 == t700) = true := c15
       (try (have c15b1 : decide (t698 = t700) = true := by simpa using c15))
       (try (have c15b2 : (t698 == t700) = true := by simpa using c15))
       clear c15
       by_cases c16 : t699 = t701
       ·rw [if_pos c16] at H
        have c16b0 : (t699 == t701) = true := beq_iff_eq.mpr c16
        have c16b1 : (t699 != t701) = false := bne_eq_false_iff_eq.mpr c16
        clear c16
        obtain ⟨t702, A17, H⟩ := zO H
        obtain rfl := sI H
        go_wp2_with (first | ((with_reducible refine gate_callee (f := 13) rfl ?_); refine goesL_ (some 27) rfl rfl Try.func13 zK rfl #[.bool a0, .string a1] rfl zM ?_; (with_reducible refine (nfkc_Text.calls kj3 a0 a1 t694 t695 _ A9.out).mono ?_); rintro e w18 ⟨rfl, hb⟩; refine ⟨_, rfl, ?_⟩; replace HB := aM (below_step zB hb); (try clear hb)) | ((with_reducible refine gate_callee (f := 14) rfl ?_); refine goesL_ (some 33) rfl rfl Try.func14 zK rfl #[.bool a0, .string a1] rfl zM ?_; (with_reducible refine (toponymref08_Text.calls kj3 a0 a1 t696 t697 _ A10.out).mono ?_); rintro e w19 ⟨rfl, hb⟩; refine ⟨_, rfl, ?_⟩; replace HB := aM (below_step zB hb); (try clear hb)) | ((with_reducible refine gate_callee (f := 15) rfl ?_); refine goesL_ (some 40) rfl rfl Try.func15 zK rfl #[.bool a0, .string a1, .string a2] rfl zM ?_; (with_reducible refine (nfkc_Same.calls kj3 a0 a1 a2 t698 t699 _ A11.out).mono ?_); rintro e w20 ⟨rfl, hb⟩; refine ⟨_, rfl, ?_⟩; replace HB := aM (below_step zB hb); (try clear hb)) | ((with_reducible refine gate_callee (f := 16) rfl ?_); refine goesL_ (some 47) rfl rfl Try.func16 zK rfl #[.bool a0, .string a1, .string a2] rfl zM ?_; (with_reducible refine (toponymref08_Same.calls kj3 a0 a1 a2 t700 t701 _ A12.out).mono ?_); rintro e w21 ⟨rfl, hb⟩; refine ⟨_, rfl, ?_⟩; replace HB := aM (below_step zB hb); (try clear hb)) | (go_at_call 8; (with_reducible refine (toponymlaw08_awake.calls kj3  t702 _ A17.out).mono ?_); rintro e w22 ⟨rfl, hb⟩; (try clear A17); replace HB := aM (below_step zB hb); (try clear hb)))
        go_ret
        exact ⟨zE, zB⟩
       ·rw [if_neg c16] at H
        exact absurd ((sI H).trans hT.out) (by decide)
      ·rw [if_neg c15] at H
       have c15b0 : (t698 == t700) = false := by simpa using c15
       (try (have c15b1 : decide (t698 = t700) = false := by simpa using c15))
       (try (have c15b2 : (t698 == t700) = false := by simpa using c15))
       (try (have c15b3 : ¬ (t698 = t700) := by simpa using c15))
       clear c15
       obtain rfl := sI H
       go_wp2_with (first | ((with_reducible refine gate_callee (f := 13) rfl ?_); refine goesL_ (some 27) rfl rfl Try.func13 zK rfl #[.bool a0, .string a1] rfl zM ?_; (with_reducible refine (nfkc_Text.calls kj3 a0 a1 t694 t695 _ A9.out).mono ?_); rintro e w27 ⟨rfl, hb⟩; refine ⟨_, rfl, ?_⟩; replace HB := aM (below_step zB hb); (try clear hb)) | ((with_reducible refine gate_callee (f := 14) rfl ?_); refine goesL_ (some 33) rfl rfl Try.func14 zK rfl #[.bool a0, .string a1] rfl zM ?_; (with_reducible refine (toponymref08_Text.calls kj3 a0 a1 t696 t697 _ A10.out).mono ?_); rintro e w28 ⟨rfl, hb⟩; refine ⟨_, rfl, ?_⟩; replace HB := aM (below_step zB hb); (try clear hb)) | ((with_reducible refine gate_callee (f := 15) rfl ?_); refine goesL_ (some 40) rfl rfl Try.func15 zK rfl #[.bool a0, .string a1, .string a2] rfl zM ?_; (with_reducible refine (nfkc_Same.calls kj3 a0 a1 a2 t698 t699 _ A11.out).mono ?_); rintro e w29 ⟨rfl, hb⟩; refine ⟨_, rfl, ?_⟩; replace HB := aM (below_step zB hb); (try clear hb)) | ((with_reducible refine gate_callee (f := 16) rfl ?_); refine goesL_ (some 47) rfl rfl Try.func16 zK rfl #[.bool a0, .string a1, .string a2] rfl zM ?_; (with_reducible refine (toponymref08_Same.calls kj3 a0 a1 a2 t700 t701 _ A12.out).mono ?_); rintro e w30 ⟨rfl, hb⟩; refine ⟨_, rfl, ?_⟩; replace HB := aM (below_step zB hb); (try clear hb)))
       go_ret
       exact ⟨zE, zB⟩
     ·rw [if_neg c14] at H
      exact absurd ((sI H).trans hT.out) (by decide)
    ·rw [if_neg c13] at H
     exact absurd ((sI H).trans hT.out) (by decide)
/-- THE ONE PURE STATEMENT of toponymlaw08_NfkcTexts: yours. -/
def toponymlaw08_NfkcTexts.Pure : Prop := ∀ (a0 : Bool) (a1 : ByteArray) (a2 : ByteArray), a1.size ≤ 140737488351232 → a2.size ≤ 140737488351232 → ∃ k, toponymlaw08_NfkcTexts.f k a0 a1 a2 = some true
theorem toponymlaw08_NfkcTexts.walk (P : toponymlaw08_NfkcTexts.Pure) (a0 : Bool) (a1 : ByteArray) (a2 : ByteArray) (w : World) (w1 : a1.size ≤ 140737488351232) (w2 : a2.size ≤ 140737488351232) :
  Calls Try.prog 4 #[.bool a0, .string a1, .string a2] w fun e w' => e = .returned (.bool true) ∧ Below w.heap.size w w' := by
 obtain ⟨k, h⟩ := P a0 a1 a2 w1 w2
 refine (toponymlaw08_NfkcTexts.calls k a0 a1 a2 true w h rfl).mono ?_
 rintro e w' ⟨rfl, hd⟩
 exact ⟨rfl, hd⟩

end Go.Proofs.Ytpihglokjcbjkaa.P
