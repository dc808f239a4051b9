-- Printed by wip/mk.py (this session's driver over the kit's print) and from wip/manual.
import Derived.Test.YtpihglokjcbjkaaT0
namespace Go.Proofs.Ytpihglokjcbjkaa.P
open Go.RowKit Go.Proofs.YtpihglokjcbjkaaW.PrintWords Go.Proofs.YtpihglokjcbjkaaW.PrintLast Go.Proofs.YtpihglokjcbjkaaW.PrintMore
attribute [local go_sem] max2_int min2_int max_two min_two max_three min_three max_four min_four   -- for this text's walks alone
set_option linter.unusedVariables false
set_option linter.unusedSimpArgs false

/-! ### decomp_Single: function 52 -/
def decomp_Single.j0 : Nat → Int → Int → Bool → Option (Int × Bool)
 | 0, _, _, _ => none
 | k + 1, x0, x4, x5 => if x5 = true then (some (wrap32 (x0 + 2), true)) else (if x4 = 8486 then (some (937, true)) else (if x4 = 8490 then (some (75, true)) else (if x4 = 8491 then (some (197, true)) else (some (0, false)))))
def decomp_Single.f (k : Nat) (a0 : Int) : Option (Int × Bool) := if a0 = 8192 then (decomp_Single.j0 k a0 a0 (a0 == 8192)) else (decomp_Single.j0 k a0 a0 (a0 == 8193))
theorem decomp_Single.mono_l : ∀ k, (∀ y0 y1 y2, LeO (decomp_Single.j0 k y0 y1 y2) (decomp_Single.j0 (k + 1) y0 y1 y2))
 | 0 => fun _ _ _ r h => by simp [decomp_Single.j0] at h
 | k + 1 => by
  have ih0 := decomp_Single.mono_l k
  ·intro y0 y1 y2
   unfold decomp_Single.j0
   repeat' first
   | (with_reducible exact ih0 _ _ _)
   | (with_reducible exact LeO.refl _)
   | exact ih0 _ _ _
   | exact LeO.none _
   | refine LeO.ite ?_ ?_
   | refine LeO.bind ?_ (fun _ => ?_)
theorem decomp_Single.mono : ∀ a0 k, LeO (decomp_Single.f k a0) (decomp_Single.f (k + 1) a0) := by
 intro a0 k
 have ih0 := decomp_Single.mono_l k
 unfold decomp_Single.f
 repeat' first
   | (with_reducible exact ih0 _ _ _)
   | (with_reducible exact LeO.refl _)
   | exact ih0 _ _ _
   | exact LeO.none _
   | refine LeO.ite ?_ ?_
   | refine LeO.bind ?_ (fun _ => ?_)
set_option maxHeartbeats 8000000 in
set_option maxRecDepth 100000 in
theorem decomp_Single.calls (k : Nat) (a0 : Int) (r1 : Int) (r2 : Bool) (w : World) (h : decomp_Single.f k a0 = some (r1, r2)) :
  Calls Try.prog 52 #[.int .i32 a0] w fun e w' => e = .returned (.tuple #[.int .i32 r1, .bool r2]) ∧ Drawn0 w w' := by
 have H : (if a0 = 8192 then (decomp_Single.j0 k a0 a0 (a0 == 8192)) else (decomp_Single.j0 k a0 a0 (a0 == 8193))) = some (r1, r2) := h
 clear h
 have HC2 := aM H
 clear H
 go_enter Try.func52, Try.ntmps52
 go_upto_if 5 with (fail)
 go_cut [5] (fun v5 wc => ∃ (kq : Nat) (x5_1 : Bool), v5 = .bool x5_1 ∧ Aside0 (decomp_Single.j0 kq a0 a0 x5_1 = some (r1, r2)) ∧ Aside0 (kq ≤ k) ∧ Drawn0 w wc)
 case first =>
  have H := HC2.out
  clear HC2
  by_cases c3 : a0 = 8192
  ·rw [if_pos c3] at H
   have c3b0 : (a0 == 8192) = true := beq_iff_eq.mpr c3
   have c3b1 : (a0 != 8192) = false := bne_eq_false_iff_eq.mpr c3
   clear c3
   (first | rw [c3b0] | (simp only [i64_w, i32_w]; rw [c3b0]) | skip)
   have H' := aM H
   clear H
   go_wp2
   go_meet
   case rel => exact ⟨_, ((a0 == 8192)), zP, H', ⟨by first | omega | exact Nat.le_refl _⟩, zD⟩
  ·rw [if_neg c3] at H
   have c3b0 : (a0 == 8192) = false := beq_eq_false_iff_ne.mpr c3
   have c3b1 : (a0 != 8192) = true := bne_iff_ne.mpr c3
   (first | rw [c3b0] | (simp only [i64_w, i32_w]; rw [c3b0]) | skip)
   have H' := aM H
   clear H
   go_wp2
   go_meet
   case rel => exact ⟨_, ((a0 == 8193)), zP, H', ⟨by first | omega | exact Nat.le_refl _⟩, zD⟩
 case rest =>
  clear HC2
  try clear p2
  try clear c3
  try clear c3b0
  try clear c3b1
  obtain ⟨kq, x5_1, rfl, HA, HJ1, ⟨mc1, rfl⟩⟩ := hcut
  cases kq with
  | zero => exact absurd HA.out (by simp [decomp_Single.j0])
  | succ kj1 =>
   have H := HA.out
   clear HA
   simp only [decomp_Single.j0] at H
   by_cases c4 : x5_1 = true
   ·subst c4
    rw [if_pos rfl] at H
    simp only [Option.some.injEq, Prod.mk.injEq] at H
    obtain ⟨rfl, rfl⟩ := H
    go_wp2
    go_ret2
    exact ⟨zP, zD⟩
   ·replace c4 := Bool.eq_false_iff.mpr c4
    subst c4
    rw [if_neg (show ¬ (false = true) by decide)] at H
    by_cases c5 : a0 = 8486
    ·rw [if_pos c5] at H
     have c5b0 : (a0 == 8486) = true := beq_iff_eq.mpr c5
     have c5b1 : (a0 != 8486) = false := bne_eq_false_iff_eq.mpr c5
     clear c5
     simp only [Option.some.injEq, Prod.mk.injEq] at H
     obtain ⟨rfl, rfl⟩ := H
     go_wp2
     go_ret2
     exact ⟨zP, zD⟩
    ·rw [if_neg c5] at H
     have c5b0 : (a0 == 8486) = false := beq_eq_false_iff_ne.mpr c5
     have c5b1 : (a0 != 8486) = true := bne_iff_ne.mpr c5
     by_cases c6 : a0 = 8490
     ·rw [if_pos c6] at H
      have c6b0 : (a0 == 8490) = true := beq_iff_eq.mpr c6
      have c6b1 : (a0 != 8490) = false := bne_eq_false_iff_eq.mpr c6
      clear c6
      simp only [Option.some.injEq, Prod.mk.injEq] at H
      obtain ⟨rfl, rfl⟩ := H
      go_wp2
      go_ret2
      exact ⟨zP, zD⟩
     ·rw [if_neg c6] at H
      have c6b0 : (a0 == 8490) = false := beq_eq_false_iff_ne.mpr c6
      have c6b1 : (a0 != 8490) = true := bne_iff_ne.mpr c6
      by_cases c7 : a0 = 8491
      ·rw [if_pos c7] at H
       have c7b0 : (a0 == 8491) = true := beq_iff_eq.mpr c7
       have c7b1 : (a0 != 8491) = false := bne_eq_false_iff_eq.mpr c7
       clear c7
       simp only [Option.some.injEq, Prod.mk.injEq] at H
       obtain ⟨rfl, rfl⟩ := H
       go_wp2
       go_ret2
       exact ⟨zP, zD⟩
      ·rw [if_neg c7] at H
       have c7b0 : (a0 == 8491) = false := beq_eq_false_iff_ne.mpr c7
       have c7b1 : (a0 != 8491) = true := bne_iff_ne.mpr c7
       simp only [Option.some.injEq, Prod.mk.injEq] at H
       obtain ⟨rfl, rfl⟩ := H
       go_wp2
       go_ret2
       exact ⟨zP, zD⟩

/-! ### decomp_latin: function 68 -/
def decomp_latin.j0 : Nat → Int → Int → Bool → Option (ByteArray)
 | 0, _, _, _ => none
 | k + 1, x0, x3, x10 => if x10 = true then (some (strOfNums (([(wrap32 (x0 - 128)) % 256] : List Int)))) else (if x3 = 180 then (some (⟨#[32, 204, 129]⟩ : ByteArray)) else (if x3 = 181 then (some (⟨#[206, 188]⟩ : ByteArray)) else (if x3 = 184 then (some (⟨#[32, 204, 167]⟩ : ByteArray)) else (if x3 = 185 then (some (⟨#[49]⟩ : ByteArray)) else (if x3 = 186 then (some (⟨#[111]⟩ : ByteArray)) else (if x3 = 188 then (some (⟨#[49, 226, 129, 132, 52]⟩ : ByteArray)) else (if x3 = 189 then (some (⟨#[49, 226, 129, 132, 50]⟩ : ByteArray)) else (if x3 = 190 then (some (⟨#[51, 226, 129, 132, 52]⟩ : ByteArray)) else (if x3 = 306 then (some (⟨#[73, 74]⟩ : ByteArray)) else (if x3 = 307 then (some (⟨#[105, 106]⟩ : ByteArray)) else (if x3 = 319 then (some (⟨#[76, 194, 183]⟩ : ByteArray)) else (if x3 = 320 then (some (⟨#[108, 194, 183]⟩ : ByteArray)) else (if x3 = 329 then (some (⟨#[202, 188, 110]⟩ : ByteArray)) else (if x3 = 383 then (some (⟨#[115]⟩ : ByteArray)) else (some (⟨#[]⟩ : ByteArray))))))))))))))))
def decomp_latin.f (k : Nat) (a0 : Int) : Option (ByteArray) := if a0 = 168 then (some (⟨#[32, 204, 136]⟩ : ByteArray)) else (if a0 = 170 then (some (⟨#[97]⟩ : ByteArray)) else (if a0 = 175 then (some (⟨#[32, 204, 132]⟩ : ByteArray)) else (if a0 = 178 then (decomp_latin.j0 k a0 a0 (a0 == 178)) else (decomp_latin.j0 k a0 a0 (a0 == 179)))))
theorem decomp_latin.mono_l : ∀ k, (∀ y0 y1 y2, LeO (decomp_latin.j0 k y0 y1 y2) (decomp_latin.j0 (k + 1) y0 y1 y2))
 | 0 => fun _ _ _ r h => by simp [decomp_latin.j0] at h
 | k + 1 => by
  have ih0 := decomp_latin.mono_l k
  ·intro y0 y1 y2
   unfold decomp_latin.j0
   repeat' first
   | (with_reducible exact ih0 _ _ _)
   | (with_reducible exact LeO.refl _)
   | exact ih0 _ _ _
   | exact LeO.none _
   | refine LeO.ite ?_ ?_
   | refine LeO.bind ?_ (fun _ => ?_)
theorem decomp_latin.mono : ∀ a0 k, LeO (decomp_latin.f k a0) (decomp_latin.f (k + 1) a0) := by
 intro a0 k
 have ih0 := decomp_latin.mono_l k
 unfold decomp_latin.f
 repeat' first
   | (with_reducible exact ih0 _ _ _)
   | (with_reducible exact LeO.refl _)
   | exact ih0 _ _ _
   | exact LeO.none _
   | refine LeO.ite ?_ ?_
   | refine LeO.bind ?_ (fun _ => ?_)
set_option maxHeartbeats 8000000 in
set_option maxRecDepth 100000 in
theorem decomp_latin.calls (k : Nat) (a0 : Int) (r : ByteArray) (w : World) (h : decomp_latin.f k a0 = some r) :
  Calls Try.prog 68 #[.int .i32 a0] w fun e w' => e = .returned (.string r) ∧ Below w.heap.size w w' := by
 have HB := aM (Below.refl w.heap.size w)
 have H : (if a0 = 168 then (some (⟨#[32, 204, 136]⟩ : ByteArray)) else (if a0 = 170 then (some (⟨#[97]⟩ : ByteArray)) else (if a0 = 175 then (some (⟨#[32, 204, 132]⟩ : ByteArray)) else (if a0 = 178 then (decomp_latin.j0 k a0 a0 (a0 == 178)) else (decomp_latin.j0 k a0 a0 (a0 == 179)))))) = some r := h
 clear h
 by_cases c2 : a0 = 168
 ·rw [if_pos c2] at H
  have c2b0 : (a0 == 168) = true := beq_iff_eq.mpr c2
  have c2b1 : (a0 != 168) = false := bne_eq_false_iff_eq.mpr c2
  clear c2
  obtain rfl := sI H
  go_enter Try.func68, Try.ntmps68
  go_wp2
  go_ret
  exact ⟨zE, zB⟩
 ·rw [if_neg c2] at H
  have c2b0 : (a0 == 168) = false := beq_eq_false_iff_ne.mpr c2
  have c2b1 : (a0 != 168) = true := bne_iff_ne.mpr c2
  by_cases c3 : a0 = 170
  ·rw [if_pos c3] at H
   have c3b0 : (a0 == 170) = true := beq_iff_eq.mpr c3
   have c3b1 : (a0 != 170) = false := bne_eq_false_iff_eq.mpr c3
   clear c3
   obtain rfl := sI H
   go_enter Try.func68, Try.ntmps68
   go_wp2
   go_ret
   exact ⟨zE, zB⟩
  ·rw [if_neg c3] at H
   have c3b0 : (a0 == 170) = false := beq_eq_false_iff_ne.mpr c3
   have c3b1 : (a0 != 170) = true := bne_iff_ne.mpr c3
   by_cases c4 : a0 = 175
   ·rw [if_pos c4] at H
    have c4b0 : (a0 == 175) = true := beq_iff_eq.mpr c4
    have c4b1 : (a0 != 175) = false := bne_eq_false_iff_eq.mpr c4
    clear c4
    obtain rfl := sI H
    go_enter Try.func68, Try.ntmps68
    go_wp2
    go_ret
    exact ⟨zE, zB⟩
   ·rw [if_neg c4] at H
    have c4b0 : (a0 == 175) = false := beq_eq_false_iff_ne.mpr c4
    have c4b1 : (a0 != 175) = true := bne_iff_ne.mpr c4
    have HC5 := aM H
    clear H
    go_enter Try.func68, Try.ntmps68
    go_upto_if 10 with (fail)
    go_cut [10] (fun v10 wc => ∃ (kq : Nat) (x10_4 : Bool), v10 = .bool x10_4 ∧ Aside0 (decomp_latin.j0 kq a0 a0 x10_4 = some r) ∧ Aside0 (kq ≤ k) ∧ Aside0 (Below w.heap.size w wc))
    case first =>
     have H := HC5.out
     clear HC5
     by_cases c6 : a0 = 178
     ·rw [if_pos c6] at H
      have c6b0 : (a0 == 178) = true := beq_iff_eq.mpr c6
      have c6b1 : (a0 != 178) = false := bne_eq_false_iff_eq.mpr c6
      clear c6
      (first | rw [c6b0] | (simp only [i64_w, i32_w]; rw [c6b0]) | skip)
      have H' := aM H
      clear H
      go_wp2
      go_meet
      case rel => exact ⟨_, ((a0 == 178)), zP, H', ⟨by first | omega | exact Nat.le_refl _⟩, ⟨zB⟩⟩
     ·rw [if_neg c6] at H
      have c6b0 : (a0 == 178) = false := beq_eq_false_iff_ne.mpr c6
      have c6b1 : (a0 != 178) = true := bne_iff_ne.mpr c6
      (first | rw [c6b0] | (simp only [i64_w, i32_w]; rw [c6b0]) | skip)
      have H' := aM H
      clear H
      go_wp2
      go_meet
      case rel => exact ⟨_, ((a0 == 179)), zP, H', ⟨by first | omega | exact Nat.le_refl _⟩, ⟨zB⟩⟩
    case rest =>
     clear HC5
     try clear c2
     try clear c2b0
     try clear c2b1
     try clear p2
     try clear c3
     try clear c3b0
     try clear c3b1
     try clear c4
     try clear c4b0
     try clear c4b1
     try clear c6
     try clear c6b0
     try clear c6b1
     obtain ⟨kq, x10_4, rfl, HA, HJ4, HB⟩ := hcut
     cases kq with
     | zero => exact absurd HA.out (by simp [decomp_latin.j0])
     | succ kj4 =>
      have H := HA.out
      clear HA
      simp only [decomp_latin.j0] at H
      by_cases c7 : x10_4 = true
      ·subst c7
       rw [if_pos rfl] at H
       obtain ⟨y114, hy114⟩ : ∃ y_ : List Int, y_ = (([(wrap32 (a0 - 128)) % 256] : List Int)) := ⟨_, rfl⟩
       replace H : (some (strOfNums y114)) = some r := zY hy114 H
       have Ny114 := aM hy114
       clear hy114
       obtain rfl := sI H
       go_wp2_with (first | ((with_reducible refine gate_dst (N := 16) rfl ?_); refine Kd.R_lit (Kd.int .u8) _ 5 ?hg (N := 16) ?hd (xs := ([(wrap32 (a0 - 128)) % 256] : List Int)) (inner := [.int .u8 ((wrap32 (a0 - 128)) % 256)]) (ok := fun _ => True) (okp := fun _ => True) ?hr ?hp (fun _ hk => hk) trivial (Below.refl _ _) (Nat.le_refl _) (by simp) ?_; (case hd => rfl); (case hg => rfl); (case hr => first | (go_simp; done) | (go_simp; rfl)); (case hp => exact (Reps.one (show Kd.M (Kd.int .u8) _ _ _ ((wrap32 (a0 - 128)) % 256) [.int .u8 ((wrap32 (a0 - 128)) % 256)] from rfl) (Reps.none _ _))); intro v115 w8 ho9 hb hg_ hnew_; clear hg_ hnew_; (first | rw [← Ny114.out] at ho9 | (simp only [Int.reduceToNat] at ho9; rw [← Ny114.out] at ho9)); have n_ := zI (aM (Kd.R_lower ho9 (below_size zB))) (aM (below_step zB hb)); clear HB; obtain ⟨HO116, HB⟩ := n_; clear hb ho9; have hcv10 := own_string (P := Try.prog) Try.underlying63 Try.underlying5 Try.underlying9 (Kd.own_of_R HO116.out)))
       go_ret
       exact ⟨zE, zB⟩
      ·replace c7 := Bool.eq_false_iff.mpr c7
       subst c7
       rw [if_neg (show ¬ (false = true) by decide)] at H
       by_cases c11 : a0 = 180
       ·rw [if_pos c11] at H
        have c11b0 : (a0 == 180) = true := beq_iff_eq.mpr c11
        have c11b1 : (a0 != 180) = false := bne_eq_false_iff_eq.mpr c11
        clear c11
        obtain rfl := sI H
        go_wp2
        go_ret
        exact ⟨zE, zB⟩
       ·rw [if_neg c11] at H
        have c11b0 : (a0 == 180) = false := beq_eq_false_iff_ne.mpr c11
        have c11b1 : (a0 != 180) = true := bne_iff_ne.mpr c11
        by_cases c12 : a0 = 181
        ·rw [if_pos c12] at H
         have c12b0 : (a0 == 181) = true := beq_iff_eq.mpr c12
         have c12b1 : (a0 != 181) = false := bne_eq_false_iff_eq.mpr c12
         clear c12
         obtain rfl := sI H
         go_wp2
         go_ret
         exact ⟨zE, zB⟩
        ·rw [if_neg c12] at H
         have c12b0 : (a0 == 181) = false := beq_eq_false_iff_ne.mpr c12
         have c12b1 : (a0 != 181) = true := bne_iff_ne.mpr c12
         by_cases c13 : a0 = 184
         ·rw [if_pos c13] at H
          have c13b0 : (a0 == 184) = true := beq_iff_eq.mpr c13
          have c13b1 : (a0 != 184) = false := bne_eq_false_iff_eq.mpr c13
          clear c13
          obtain rfl := sI H
          go_wp2
          go_ret
          exact ⟨zE, zB⟩
         ·rw [if_neg c13] at H
          have c13b0 : (a0 == 184) = false := beq_eq_false_iff_ne.mpr c13
          have c13b1 : (a0 != 184) = true := bne_iff_ne.mpr c13
          by_cases c14 : a0 = 185
          ·rw [if_pos c14] at H
           have c14b0 : (a0 == 185) = true := beq_iff_eq.mpr c14
           have c14b1 : (a0 != 185) = false := bne_eq_false_iff_eq.mpr c14
           clear c14
           obtain rfl := sI H
           go_wp2
           go_ret
           exact ⟨zE, zB⟩
          ·rw [if_neg c14] at H
           have c14b0 : (a0 == 185) = false := beq_eq_false_iff_ne.mpr c14
           have c14b1 : (a0 != 185) = true := bne_iff_ne.mpr c14
           by_cases c15 : a0 = 186
           ·rw [if_pos c15] at H
            have c15b0 : (a0 == 186) = true := beq_iff_eq.mpr c15
            have c15b1 : (a0 != 186) = false := bne_eq_false_iff_eq.mpr c15
            clear c15
            obtain rfl := sI H
            go_wp2
            go_ret
            exact ⟨zE, zB⟩
           ·rw [if_neg c15] at H
            have c15b0 : (a0 == 186) = false := beq_eq_false_iff_ne.mpr c15
            have c15b1 : (a0 != 186) = true := bne_iff_ne.mpr c15
            by_cases c16 : a0 = 188
            ·rw [if_pos c16] at H
             have c16b0 : (a0 == 188) = true := beq_iff_eq.mpr c16
             have c16b1 : (a0 != 188) = false := bne_eq_false_iff_eq.mpr c16
             clear c16
             obtain rfl := sI H
             go_wp2
             go_ret
             exact ⟨zE, zB⟩
            ·rw [if_neg c16] at H
             have c16b0 : (a0 == 188) = false := beq_eq_false_iff_ne.mpr c16
             have c16b1 : (a0 != 188) = true := bne_iff_ne.mpr c16
             by_cases c17 : a0 = 189
             ·rw [if_pos c17] at H
              have c17b0 : (a0 == 189) = true := beq_iff_eq.mpr c17
              have c17b1 : (a0 != 189) = false := bne_eq_false_iff_eq.mpr c17
              clear c17
              obtain rfl := sI H
              go_wp2
              go_ret
              exact ⟨zE, zB⟩
             ·rw [if_neg c17] at H
              have c17b0 : (a0 == 189) = false := beq_eq_false_iff_ne.mpr c17
              have c17b1 : (a0 != 189) = true := bne_iff_ne.mpr c17
              by_cases c18 : a0 = 190
              ·rw [if_pos c18] at H
               have c18b0 : (a0 == 190) = true := beq_iff_eq.mpr c18
               have c18b1 : (a0 != 190) = false := bne_eq_false_iff_eq.mpr c18
               clear c18
               obtain rfl := sI H
               go_wp2
               go_ret
               exact ⟨zE, zB⟩
              ·rw [if_neg c18] at H
               have c18b0 : (a0 == 190) = false := beq_eq_false_iff_ne.mpr c18
               have c18b1 : (a0 != 190) = true := bne_iff_ne.mpr c18
               by_cases c19 : a0 = 306
               ·rw [if_pos c19] at H
                have c19b0 : (a0 == 306) = true := beq_iff_eq.mpr c19
                have c19b1 : (a0 != 306) = false := bne_eq_false_iff_eq.mpr c19
                clear c19
                obtain rfl := sI H
                go_wp2
                go_ret
                exact ⟨zE, zB⟩
               ·rw [if_neg c19] at H
                have c19b0 : (a0 == 306) = false := beq_eq_false_iff_ne.mpr c19
                have c19b1 : (a0 != 306) = true := bne_iff_ne.mpr c19
                by_cases c20 : a0 = 307
                ·rw [if_pos c20] at H
                 have c20b0 : (a0 == 307) = true := beq_iff_eq.mpr c20
                 have c20b1 : (a0 != 307) = false := bne_eq_false_iff_eq.mpr c20
                 clear c20
                 obtain rfl := sI H
                 go_wp2
                 go_ret
                 exact ⟨zE, zB⟩
                ·rw [if_neg c20] at H
                 have c20b0 : (a0 == 307) = false := beq_eq_false_iff_ne.mpr c20
                 have c20b1 : (a0 != 307) = true := bne_iff_ne.mpr c20
                 by_cases c21 : a0 = 319
                 ·rw [if_pos c21] at H
                  have c21b0 : (a0 == 319) = true := beq_iff_eq.mpr c21
                  have c21b1 : (a0 != 319) = false := bne_eq_false_iff_eq.mpr c21
                  clear c21
                  obtain rfl := sI H
                  go_wp2
                  go_ret
                  exact ⟨zE, zB⟩
                 ·rw [if_neg c21] at H
                  have c21b0 : (a0 == 319) = false := beq_eq_false_iff_ne.mpr c21
                  have c21b1 : (a0 != 319) = true := bne_iff_ne.mpr c21
                  by_cases c22 : a0 = 320
                  ·rw [if_pos c22] at H
                   have c22b0 : (a0 == 320) = true := beq_iff_eq.mpr c22
                   have c22b1 : (a0 != 320) = false := bne_eq_false_iff_eq.mpr c22
                   clear c22
                   obtain rfl := sI H
                   go_wp2
                   go_ret
                   exact ⟨zE, zB⟩
                  ·rw [if_neg c22] at H
                   have c22b0 : (a0 == 320) = false := beq_eq_false_iff_ne.mpr c22
                   have c22b1 : (a0 != 320) = true := bne_iff_ne.mpr c22
                   by_cases c23 : a0 = 329
                   ·rw [if_pos c23] at H
                    have c23b0 : (a0 == 329) = true := beq_iff_eq.mpr c23
                    have c23b1 : (a0 != 329) = false := bne_eq_false_iff_eq.mpr c23
                    clear c23
                    obtain rfl := sI H
                    go_wp2
                    go_ret
                    exact ⟨zE, zB⟩
                   ·rw [if_neg c23] at H
                    have c23b0 : (a0 == 329) = false := beq_eq_false_iff_ne.mpr c23
                    have c23b1 : (a0 != 329) = true := bne_iff_ne.mpr c23
                    by_cases c24 : a0 = 383
                    ·rw [if_pos c24] at H
                     have c24b0 : (a0 == 383) = true := beq_iff_eq.mpr c24
                     have c24b1 : (a0 != 383) = false := bne_eq_false_iff_eq.mpr c24
                     clear c24
                     obtain rfl := sI H
                     go_wp2
                     go_ret
                     exact ⟨zE, zB⟩
                    ·rw [if_neg c24] at H
                     have c24b0 : (a0 == 383) = false := beq_eq_false_iff_ne.mpr c24
                     have c24b1 : (a0 != 383) = true := bne_iff_ne.mpr c24
                     obtain rfl := sI H
                     go_wp2
                     go_ret
                     exact ⟨zE, zB⟩

/-! ### decomp_list: function 69, by hand (decomp.list.tpl) -/
theorem info21l : (Try.prog.info? 21).map (fun i => (i.zero, i.size, i.bytes)) = some (some (.int .i32 0), 1, 4) := by kernel_rfl
def decomp_list.l0 : Nat → ByteArray → List Int → Nat → Option (List Int)
  | 0, _, _, _ => none
  | k + 1, x0, x3, pos => if pos < x0.size then (if x3.length < 35184372088832 then decomp_list.l0 k x0 (x3 ++ [((Utf8.decode x0 pos).1 : Int)]) (pos + (Utf8.decode x0 pos).2) else none) else some x3
def decomp_list.f (k : Nat) (a0 : ByteArray) : Option (List Int) := decomp_list.l0 k a0 [] 0
theorem decomp_list.mono_l : ∀ k, (∀ y0 y1 y2, LeO (decomp_list.l0 k y0 y1 y2) (decomp_list.l0 (k + 1) y0 y1 y2))
  | 0 => fun _ _ _ r h => by simp [decomp_list.l0] at h
  | k + 1 => by
    have ih0 := decomp_list.mono_l k
    intro y0 y1 y2
    unfold decomp_list.l0
    repeat' first
      | exact ih0 _ _ _
      | exact LeO.refl _
      | refine LeO.ite ?_ ?_
theorem decomp_list.mono : ∀ a0 k, LeO (decomp_list.f k a0) (decomp_list.f (k + 1) a0) := fun a0 k => decomp_list.mono_l k _ _ _
set_option maxHeartbeats 8000000 in
set_option maxRecDepth 100000 in
theorem decomp_list.calls (k : Nat) (a0 : ByteArray) (r : List Int) (w : World) (h : decomp_list.f k a0 = some r) :
    Calls Try.prog 69 #[.string a0] w fun e w' => ∃ v0_ : Value, e = .returned (v0_) ∧ Kd.R (Kd.int .i32) 21 w' w.heap.size (fun _ => True) (v0_) (r) ∧ Below w.heap.size w w' := by
  have H' := Aside0.mk h
  clear h
  go_enter Try.func69, Try.ntmps69
  go_wp2
  go_loopg [3] k (fun kq v3 W => ∃ (x3 : List Int) (pos : Nat), Aside0 (decomp_list.l0 kq a0 x3 pos = some r) ∧ Aside0 (kq ≤ k) ∧ Aside0 (W.heap[w.heap.size]? = some (.stringIter a0 pos)) ∧ Aside0 (Kd.R (Kd.int .i32) 21 W w.heap.size (fun k_ => k_ ≠ w.heap.size) v3 x3) ∧ Aside0 (Below w.heap.size w W))
  case atStart => exact ⟨[], 0, H', ⟨Nat.le_refl _⟩, ⟨World.iter_heap _ _ _⟩, ⟨Kd.R_nil _ _ _ _ _⟩, ⟨below_alloc (Below.refl _ _) _⟩⟩
  case round =>
    clear H'
    obtain ⟨x3, pos, HA, HK, HI, HO, HB⟩ := hrel
    cases gk with
    | zero => exact absurd HA.out (by simp [decomp_list.l0])
    | succ k1 =>
      have H := HA.out
      clear HA
      simp only [decomp_list.l0] at H
      by_cases d1 : pos < a0.size
      · rw [if_pos d1] at H
        by_cases d2 : x3.length < 35184372088832
        · rw [if_pos d2] at H
          have H' := Aside0.mk H
          have LM := Aside0.mk d2
          clear H d2
          have hnx := fun ty => Lib.run_next_any_at (P := Try.prog) wr w.heap.size a0 pos ty HI.out d1
          clear d1
          obtain ⟨W2, hW2⟩ : ∃ W2, wr.iterAt w.heap.size a0 (pos + (Utf8.decode a0 pos).2) = W2 := ⟨_, rfl⟩
          rw [hW2] at hnx
          have HI2 := Aside0.mk (show W2.heap[w.heap.size]? = some (.stringIter a0 (pos + (Utf8.decode a0 pos).2)) from by rw [← hW2]; exact Lib.iterAt_heap _ _ _ _ _ HI.out)
          have HO2 := Aside0.mk (show Kd.R (Kd.int .i32) 21 W2 w.heap.size (fun k_ => k_ ≠ w.heap.size) _ x3 from by rw [← hW2]; exact Kd.R_step HO.out (fun k hk _ => Lib.iterAt_other _ _ _ _ _ hk))
          have HB2 := Aside0.mk (show Below w.heap.size w W2 from by rw [← hW2]; exact Lib.below_iterAt HB.out (Nat.le_refl _) _ _)
          have HZ := Aside0.mk (show w.heap.size < W2.heap.size from (Array.getElem?_eq_some_iff.1 HI2.out).1)
          clear hW2 HI HO HB
          obtain ⟨Ao, co, eo⟩ := Kd.R_slice HO2.out
          subst eo
          go_wp2_with ((with_reducible refine gate_builtin (b := .append) (xs := #[.tmp 11, .tmp 13]) rfl ?_); at_builtin; refine Kd.R_append (Kd.int .i32) (w0 := w) w.heap.size rfl (.tmp 11) (.tmp 13) 22 21 (.int .i32 0) 4 rfl Try.underlying22 info21l rfl (by decide) (by omega) (.slice Ao x3.length co) x3 (((Utf8.decode a0 pos).1 : Nat) : Int) [.int .i32 (((Utf8.decode a0 pos).1 : Nat) : Int)] (fun k_ => k_ ≠ w.heap.size) (fun _ => False) rfl rfl ?aP (fun _ hk => hk.elim) ?aF ?aO ?aB ?aS ?aL ?_; (case aP => exact rfl); (case aB => exact HB2.out); (case aF => exact (fun k_ hk => by have := HZ.out; omega)); (case aO => exact HO2.out); (case aS => exact HB2.out.size); (case aL => have := LM.out; omega); intro v14 w14 ho hb hg hat; have HI3 := Aside0.mk (show w14.heap[w.heap.size]? = some (.stringIter a0 (pos + (Utf8.decode a0 pos).2)) from by rw [hg.block _ HZ.out (fun e => HO2.out.1 _ e.symm rfl)]; exact HI2.out); have HO3 := Aside0.mk ho; have HB3 := Aside0.mk hb; clear HO2 HB2 HI2 HZ ho hb hg hat)
          go_roundg k1
          case measure => have := HK.out; omega
          case rel => exact ⟨_, _, H', ⟨by have := HK.out; omega⟩, HI3, HO3, HB3⟩
        · rw [if_neg d2] at H
          cases H
      · rw [if_neg d1] at H
        obtain rfl := Option.some.inj H
        clear H
        have hnx := fun ty => Lib.run_next_end_at (P := Try.prog) wr w.heap.size a0 pos ty HI.out d1
        clear d1
        go_wp2
        go_ret
        exact ⟨_, rfl, Kd.R_mono HO.out (fun _ _ => trivial), HB.out⟩

/-! ### decomp_within: function 70 -/
def decomp_within.f (a0 : Int) (a1 : Int) (a2 : Int) : Option (Bool) := if a0 ≥ a1 then (some (decide (a0 ≤ a2))) else (some false)
set_option maxHeartbeats 8000000 in
set_option maxRecDepth 100000 in
theorem decomp_within.calls (a0 : Int) (a1 : Int) (a2 : Int) (r : Bool) (w : World) (h : decomp_within.f a0 a1 a2 = some r) :
  Calls Try.prog 70 #[.int .i32 a0, .int .i32 a1, .int .i32 a2] w fun e w' => e = .returned (.bool r) ∧ Drawn0 w w' := by
 have H : (if a0 ≥ a1 then (some (decide (a0 ≤ a2))) else (some false)) = some r := h
 clear h
 by_cases c4 : a0 ≥ a1
 ·rw [if_pos c4] at H
  have c4b0 : decide (a1 ≤ a0) = true := decide_eq_true c4
  clear c4
  obtain rfl := sI H
  go_enter Try.func70, Try.ntmps70
  go_wp2
  go_ret
  exact ⟨zP, zD⟩
 ·rw [if_neg c4] at H
  have c4b0 : decide (a1 ≤ a0) = false := decide_eq_false c4
  clear c4
  obtain rfl := sI H
  go_enter Try.func70, Try.ntmps70
  go_wp2
  go_ret
  exact ⟨zP, zD⟩

/-! ### decomp_numbers: function 71 -/
def decomp_numbers.f (a0 : Bool) : Option (List ByteArray) := if a0 = true then (some (([(⟨#[105]⟩ : ByteArray), (⟨#[105, 105]⟩ : ByteArray), (⟨#[105, 105, 105]⟩ : ByteArray), (⟨#[105, 118]⟩ : ByteArray), (⟨#[118]⟩ : ByteArray), (⟨#[118, 105]⟩ : ByteArray), (⟨#[118, 105, 105]⟩ : ByteArray), (⟨#[118, 105, 105, 105]⟩ : ByteArray), (⟨#[105, 120]⟩ : ByteArray), (⟨#[120]⟩ : ByteArray), (⟨#[120, 105]⟩ : ByteArray), (⟨#[120, 105, 105]⟩ : ByteArray)] : List ByteArray))) else (some (([(⟨#[73]⟩ : ByteArray), (⟨#[73, 73]⟩ : ByteArray), (⟨#[73, 73, 73]⟩ : ByteArray), (⟨#[73, 86]⟩ : ByteArray), (⟨#[86]⟩ : ByteArray), (⟨#[86, 73]⟩ : ByteArray), (⟨#[86, 73, 73]⟩ : ByteArray), (⟨#[86, 73, 73, 73]⟩ : ByteArray), (⟨#[73, 88]⟩ : ByteArray), (⟨#[88]⟩ : ByteArray), (⟨#[88, 73]⟩ : ByteArray), (⟨#[88, 73, 73]⟩ : ByteArray)] : List ByteArray)))
set_option maxHeartbeats 8000000 in
set_option maxRecDepth 100000 in
theorem decomp_numbers.calls (a0 : Bool) (r : List ByteArray) (w : World) (h : decomp_numbers.f a0 = some r) :
  Calls Try.prog 71 #[.bool a0] w fun e w' => ∃ v0_ : Value, e = .returned (v0_) ∧ Kd.R Kd.string 9 w' w.heap.size (fun _ => True) v0_ r ∧ Below w.heap.size w w' := by
 have HB := aM (Below.refl w.heap.size w)
 have H : (if a0 = true then (some (([(⟨#[105]⟩ : ByteArray), (⟨#[105, 105]⟩ : ByteArray), (⟨#[105, 105, 105]⟩ : ByteArray), (⟨#[105, 118]⟩ : ByteArray), (⟨#[118]⟩ : ByteArray), (⟨#[118, 105]⟩ : ByteArray), (⟨#[118, 105, 105]⟩ : ByteArray), (⟨#[118, 105, 105, 105]⟩ : ByteArray), (⟨#[105, 120]⟩ : ByteArray), (⟨#[120]⟩ : ByteArray), (⟨#[120, 105]⟩ : ByteArray), (⟨#[120, 105, 105]⟩ : ByteArray)] : List ByteArray))) else (some (([(⟨#[73]⟩ : ByteArray), (⟨#[73, 73]⟩ : ByteArray), (⟨#[73, 73, 73]⟩ : ByteArray), (⟨#[73, 86]⟩ : ByteArray), (⟨#[86]⟩ : ByteArray), (⟨#[86, 73]⟩ : ByteArray), (⟨#[86, 73, 73]⟩ : ByteArray), (⟨#[86, 73, 73, 73]⟩ : ByteArray), (⟨#[73, 88]⟩ : ByteArray), (⟨#[88]⟩ : ByteArray), (⟨#[88, 73]⟩ : ByteArray), (⟨#[88, 73, 73]⟩ : ByteArray)] : List ByteArray)))) = some r := h
 clear h
 by_cases c2 : a0 = true
 ·subst c2
  rw [if_pos rfl] at H
  obtain ⟨y117, hy117⟩ : ∃ y_ : List ByteArray, y_ = (([(⟨#[105]⟩ : ByteArray), (⟨#[105, 105]⟩ : ByteArray), (⟨#[105, 105, 105]⟩ : ByteArray), (⟨#[105, 118]⟩ : ByteArray), (⟨#[118]⟩ : ByteArray), (⟨#[118, 105]⟩ : ByteArray), (⟨#[118, 105, 105]⟩ : ByteArray), (⟨#[118, 105, 105, 105]⟩ : ByteArray), (⟨#[105, 120]⟩ : ByteArray), (⟨#[120]⟩ : ByteArray), (⟨#[120, 105]⟩ : ByteArray), (⟨#[120, 105, 105]⟩ : ByteArray)] : List ByteArray)) := ⟨_, rfl⟩
  replace H : (some y117) = some r := zY hy117 H
  have Ny117 := aM hy117
  clear hy117
  obtain rfl := sI H
  go_enter Try.func71, Try.ntmps71
  go_wp2_with (first | ((with_reducible refine gate_dst (N := 4) rfl ?_); refine Kd.R_lit Kd.string _ 9 ?hg (N := 4) ?hd (xs := ([(⟨#[105]⟩ : ByteArray), (⟨#[105, 105]⟩ : ByteArray), (⟨#[105, 105, 105]⟩ : ByteArray), (⟨#[105, 118]⟩ : ByteArray), (⟨#[118]⟩ : ByteArray), (⟨#[118, 105]⟩ : ByteArray), (⟨#[118, 105, 105]⟩ : ByteArray), (⟨#[118, 105, 105, 105]⟩ : ByteArray), (⟨#[105, 120]⟩ : ByteArray), (⟨#[120]⟩ : ByteArray), (⟨#[120, 105]⟩ : ByteArray), (⟨#[120, 105, 105]⟩ : ByteArray)] : List ByteArray)) (inner := [.string (⟨#[105]⟩ : ByteArray), .string (⟨#[105, 105]⟩ : ByteArray), .string (⟨#[105, 105, 105]⟩ : ByteArray), .string (⟨#[105, 118]⟩ : ByteArray), .string (⟨#[118]⟩ : ByteArray), .string (⟨#[118, 105]⟩ : ByteArray), .string (⟨#[118, 105, 105]⟩ : ByteArray), .string (⟨#[118, 105, 105, 105]⟩ : ByteArray), .string (⟨#[105, 120]⟩ : ByteArray), .string (⟨#[120]⟩ : ByteArray), .string (⟨#[120, 105]⟩ : ByteArray), .string (⟨#[120, 105, 105]⟩ : ByteArray)]) (ok := fun _ => True) (okp := fun _ => True) ?hr ?hp (fun _ hk => hk) trivial (Below.refl _ _) (Nat.le_refl _) (by simp) ?_; (case hd => rfl); (case hg => rfl); (case hr => first | (go_simp; done) | (go_simp; rfl)); (case hp => exact (Reps.one (show Kd.M Kd.string _ _ _ (⟨#[105]⟩ : ByteArray) [.string (⟨#[105]⟩ : ByteArray)] from rfl) (Reps.one (show Kd.M Kd.string _ _ _ (⟨#[105, 105]⟩ : ByteArray) [.string (⟨#[105, 105]⟩ : ByteArray)] from rfl) (Reps.one (show Kd.M Kd.string _ _ _ (⟨#[105, 105, 105]⟩ : ByteArray) [.string (⟨#[105, 105, 105]⟩ : ByteArray)] from rfl) (Reps.one (show Kd.M Kd.string _ _ _ (⟨#[105, 118]⟩ : ByteArray) [.string (⟨#[105, 118]⟩ : ByteArray)] from rfl) (Reps.one (show Kd.M Kd.string _ _ _ (⟨#[118]⟩ : ByteArray) [.string (⟨#[118]⟩ : ByteArray)] from rfl) (Reps.one (show Kd.M Kd.string _ _ _ (⟨#[118, 105]⟩ : ByteArray) [.string (⟨#[118, 105]⟩ : ByteArray)] from rfl) (Reps.one (show Kd.M Kd.string _ _ _ (⟨#[118, 105, 105]⟩ : ByteArray) [.string (⟨#[118, 105, 105]⟩ : ByteArray)] from rfl) (Reps.one (show Kd.M Kd.string _ _ _ (⟨#[118, 105, 105, 105]⟩ : ByteArray) [.string (⟨#[118, 105, 105, 105]⟩ : ByteArray)] from rfl) (Reps.one (show Kd.M Kd.string _ _ _ (⟨#[105, 120]⟩ : ByteArray) [.string (⟨#[105, 120]⟩ : ByteArray)] from rfl) (Reps.one (show Kd.M Kd.string _ _ _ (⟨#[120]⟩ : ByteArray) [.string (⟨#[120]⟩ : ByteArray)] from rfl) (Reps.one (show Kd.M Kd.string _ _ _ (⟨#[120, 105]⟩ : ByteArray) [.string (⟨#[120, 105]⟩ : ByteArray)] from rfl) (Reps.one (show Kd.M Kd.string _ _ _ (⟨#[120, 105, 105]⟩ : ByteArray) [.string (⟨#[120, 105, 105]⟩ : ByteArray)] from rfl) (Reps.none _ _)))))))))))))); intro v118 w3 ho4 hb hg_ hnew_; clear hg_ hnew_; (first | rw [← Ny117.out] at ho4 | (simp only [Int.reduceToNat] at ho4; rw [← Ny117.out] at ho4)); have n_ := zI (aM (Kd.R_lower ho4 (below_size zB))) (aM (below_step zB hb)); clear HB; obtain ⟨HO119, HB⟩ := n_; clear hb ho4))
  go_ret
  exact ⟨_, zE, zR HO119, zB⟩
 ·replace c2 := Bool.eq_false_iff.mpr c2
  subst c2
  rw [if_neg (show ¬ (false = true) by decide)] at H
  obtain ⟨y120, hy120⟩ : ∃ y_ : List ByteArray, y_ = (([(⟨#[73]⟩ : ByteArray), (⟨#[73, 73]⟩ : ByteArray), (⟨#[73, 73, 73]⟩ : ByteArray), (⟨#[73, 86]⟩ : ByteArray), (⟨#[86]⟩ : ByteArray), (⟨#[86, 73]⟩ : ByteArray), (⟨#[86, 73, 73]⟩ : ByteArray), (⟨#[86, 73, 73, 73]⟩ : ByteArray), (⟨#[73, 88]⟩ : ByteArray), (⟨#[88]⟩ : ByteArray), (⟨#[88, 73]⟩ : ByteArray), (⟨#[88, 73, 73]⟩ : ByteArray)] : List ByteArray)) := ⟨_, rfl⟩
  replace H : (some y120) = some r := zY hy120 H
  have Ny120 := aM hy120
  clear hy120
  obtain rfl := sI H
  go_enter Try.func71, Try.ntmps71
  go_wp2_with (first | ((with_reducible refine gate_dst (N := 5) rfl ?_); refine Kd.R_lit Kd.string _ 9 ?hg (N := 5) ?hd (xs := ([(⟨#[73]⟩ : ByteArray), (⟨#[73, 73]⟩ : ByteArray), (⟨#[73, 73, 73]⟩ : ByteArray), (⟨#[73, 86]⟩ : ByteArray), (⟨#[86]⟩ : ByteArray), (⟨#[86, 73]⟩ : ByteArray), (⟨#[86, 73, 73]⟩ : ByteArray), (⟨#[86, 73, 73, 73]⟩ : ByteArray), (⟨#[73, 88]⟩ : ByteArray), (⟨#[88]⟩ : ByteArray), (⟨#[88, 73]⟩ : ByteArray), (⟨#[88, 73, 73]⟩ : ByteArray)] : List ByteArray)) (inner := [.string (⟨#[73]⟩ : ByteArray), .string (⟨#[73, 73]⟩ : ByteArray), .string (⟨#[73, 73, 73]⟩ : ByteArray), .string (⟨#[73, 86]⟩ : ByteArray), .string (⟨#[86]⟩ : ByteArray), .string (⟨#[86, 73]⟩ : ByteArray), .string (⟨#[86, 73, 73]⟩ : ByteArray), .string (⟨#[86, 73, 73, 73]⟩ : ByteArray), .string (⟨#[73, 88]⟩ : ByteArray), .string (⟨#[88]⟩ : ByteArray), .string (⟨#[88, 73]⟩ : ByteArray), .string (⟨#[88, 73, 73]⟩ : ByteArray)]) (ok := fun _ => True) (okp := fun _ => True) ?hr ?hp (fun _ hk => hk) trivial (Below.refl _ _) (Nat.le_refl _) (by simp) ?_; (case hd => rfl); (case hg => rfl); (case hr => first | (go_simp; done) | (go_simp; rfl)); (case hp => exact (Reps.one (show Kd.M Kd.string _ _ _ (⟨#[73]⟩ : ByteArray) [.string (⟨#[73]⟩ : ByteArray)] from rfl) (Reps.one (show Kd.M Kd.string _ _ _ (⟨#[73, 73]⟩ : ByteArray) [.string (⟨#[73, 73]⟩ : ByteArray)] from rfl) (Reps.one (show Kd.M Kd.string _ _ _ (⟨#[73, 73, 73]⟩ : ByteArray) [.string (⟨#[73, 73, 73]⟩ : ByteArray)] from rfl) (Reps.one (show Kd.M Kd.string _ _ _ (⟨#[73, 86]⟩ : ByteArray) [.string (⟨#[73, 86]⟩ : ByteArray)] from rfl) (Reps.one (show Kd.M Kd.string _ _ _ (⟨#[86]⟩ : ByteArray) [.string (⟨#[86]⟩ : ByteArray)] from rfl) (Reps.one (show Kd.M Kd.string _ _ _ (⟨#[86, 73]⟩ : ByteArray) [.string (⟨#[86, 73]⟩ : ByteArray)] from rfl) (Reps.one (show Kd.M Kd.string _ _ _ (⟨#[86, 73, 73]⟩ : ByteArray) [.string (⟨#[86, 73, 73]⟩ : ByteArray)] from rfl) (Reps.one (show Kd.M Kd.string _ _ _ (⟨#[86, 73, 73, 73]⟩ : ByteArray) [.string (⟨#[86, 73, 73, 73]⟩ : ByteArray)] from rfl) (Reps.one (show Kd.M Kd.string _ _ _ (⟨#[73, 88]⟩ : ByteArray) [.string (⟨#[73, 88]⟩ : ByteArray)] from rfl) (Reps.one (show Kd.M Kd.string _ _ _ (⟨#[88]⟩ : ByteArray) [.string (⟨#[88]⟩ : ByteArray)] from rfl) (Reps.one (show Kd.M Kd.string _ _ _ (⟨#[88, 73]⟩ : ByteArray) [.string (⟨#[88, 73]⟩ : ByteArray)] from rfl) (Reps.one (show Kd.M Kd.string _ _ _ (⟨#[88, 73, 73]⟩ : ByteArray) [.string (⟨#[88, 73, 73]⟩ : ByteArray)] from rfl) (Reps.none _ _)))))))))))))); intro v121 w5 ho6 hb hg_ hnew_; clear hg_ hnew_; (first | rw [← Ny120.out] at ho6 | (simp only [Int.reduceToNat] at ho6; rw [← Ny120.out] at ho6)); have n_ := zI (aM (Kd.R_lower ho6 (below_size zB))) (aM (below_step zB hb)); clear HB; obtain ⟨HO122, HB⟩ := n_; clear hb ho6))
  go_ret
  exact ⟨_, zE, zR HO122, zB⟩

/-! ### decomp_Loose: function 53 -/
mutual
def decomp_Loose.j0 : Nat → Int → Bool → Option (List Int)
 | 0, _, _ => none
 | k + 1, x0, x3 => if x3 = true then ((decomp_latin.f k x0).bind fun t124 => ((decomp_list.f k t124).bind fun t125 => (some t125))) else (if x0 = 160 then (decomp_Loose.j1 k x0 true) else ((decomp_within.f x0 8194 8202).bind fun t128 => (if t128 = true then (decomp_Loose.j1 k x0 true) else (if x0 = 8239 then (decomp_Loose.j1 k x0 true) else (if x0 = 8287 then (decomp_Loose.j1 k x0 true) else (decomp_Loose.j1 k x0 (x0 == 12288)))))))
def decomp_Loose.j1 : Nat → Int → Bool → Option (List Int)
 | 0, _, _ => none
 | k + 1, x0, x14 => if x14 = true then (some (([32] : List Int))) else (if x0 = 8209 then (some (([8208] : List Int))) else (if x0 = 8304 then (decomp_Loose.j2 k x0 true) else ((decomp_within.f x0 8308 8313).bind fun t135 => (decomp_Loose.j2 k x0 t135))))
def decomp_Loose.j2 : Nat → Int → Bool → Option (List Int)
 | 0, _, _ => none
 | k + 1, x0, x38 => if x38 = true then (some (([wrap32 ((wrap32 (x0 - 8304)) + 48)] : List Int))) else ((decomp_within.f x0 8320 8329).bind fun t139 => (if t139 = true then (some (([wrap32 ((wrap32 (x0 - 8320)) + 48)] : List Int))) else ((decomp_within.f x0 8544 8555).bind fun t143 => (if t143 = true then ((decomp_numbers.f false).bind fun t144 => (if 0 ≤ (wrap32 (x0 - 8544)) then (if (wrap32 (x0 - 8544)) < (t144.length : Int) then ((decomp_list.f k (rdOf ByteArray.empty t144 (wrap32 (x0 - 8544)))).bind fun t148 => (some t148)) else (none)) else (none))) else ((decomp_within.f x0 8560 8571).bind fun t151 => (if t151 = true then ((decomp_numbers.f true).bind fun t152 => (if 0 ≤ (wrap32 (x0 - 8560)) then (if (wrap32 (x0 - 8560)) < (t152.length : Int) then ((decomp_list.f k (rdOf ByteArray.empty t152 (wrap32 (x0 - 8560)))).bind fun t156 => (some t156)) else (none)) else (none))) else ((decomp_within.f x0 64256 64261).bind fun t159 => (if t159 = true then ((some (([(⟨#[102, 102]⟩ : ByteArray), (⟨#[102, 105]⟩ : ByteArray), (⟨#[102, 108]⟩ : ByteArray), (⟨#[102, 102, 105]⟩ : ByteArray), (⟨#[102, 102, 108]⟩ : ByteArray), (⟨#[197, 191, 116]⟩ : ByteArray)] : List ByteArray) : List ByteArray)).bind fun y160 => (if 0 ≤ (wrap32 (x0 - 64256)) then (if (wrap32 (x0 - 64256)) < (y160.length : Int) then ((decomp_list.f k (rdOf ByteArray.empty y160 (wrap32 (x0 - 64256)))).bind fun t164 => (some t164)) else (none)) else (none))) else ((decomp_within.f x0 65281 65374).bind fun t167 => (if t167 = true then (some (([wrap32 ((wrap32 (x0 - 65281)) + 33)] : List Int))) else (some ([] : List Int))))))))))))
end
def decomp_Loose.f (k : Nat) (a0 : Int) : Option (List Int) := if a0 < 384 then ((decomp_latin.f k a0).bind fun t123 => (decomp_Loose.j0 k a0 (t123.toList != ([] : List UInt8)))) else (decomp_Loose.j0 k a0 false)
theorem decomp_Loose.mono_l : ∀ k, (∀ y0 y1, LeO (decomp_Loose.j0 k y0 y1) (decomp_Loose.j0 (k + 1) y0 y1)) ∧ (∀ y0 y1, LeO (decomp_Loose.j1 k y0 y1) (decomp_Loose.j1 (k + 1) y0 y1)) ∧ (∀ y0 y1, LeO (decomp_Loose.j2 k y0 y1) (decomp_Loose.j2 (k + 1) y0 y1))
 | 0 => ⟨fun _ _ r h => by simp [decomp_Loose.j0] at h, fun _ _ r h => by simp [decomp_Loose.j1] at h, fun _ _ r h => by simp [decomp_Loose.j2] at h⟩
 | k + 1 => by
  obtain ⟨ih0, ih1, ih2⟩ := decomp_Loose.mono_l k
  refine ⟨?_, ?_, ?_⟩
  ·intro y0 y1
   unfold decomp_Loose.j0
   repeat' first
   | (with_reducible exact ih0 _ _)
   | (with_reducible exact ih1 _ _)
   | (with_reducible exact ih2 _ _)
   | (with_reducible exact decomp_latin.mono _ _)
   | (with_reducible exact decomp_list.mono _ _)
   | (with_reducible exact LeO.refl _)
   | exact ih0 _ _
   | exact ih1 _ _
   | exact ih2 _ _
   | exact decomp_latin.mono _ _
   | exact decomp_list.mono _ _
   | exact LeO.none _
   | refine LeO.ite ?_ ?_
   | refine LeO.bind ?_ (fun _ => ?_)
  ·intro y0 y1
   unfold decomp_Loose.j1
   repeat' first
   | (with_reducible exact ih0 _ _)
   | (with_reducible exact ih1 _ _)
   | (with_reducible exact ih2 _ _)
   | (with_reducible exact decomp_latin.mono _ _)
   | (with_reducible exact decomp_list.mono _ _)
   | (with_reducible exact LeO.refl _)
   | exact ih0 _ _
   | exact ih1 _ _
   | exact ih2 _ _
   | exact decomp_latin.mono _ _
   | exact decomp_list.mono _ _
   | exact LeO.none _
   | refine LeO.ite ?_ ?_
   | refine LeO.bind ?_ (fun _ => ?_)
  ·intro y0 y1
   unfold decomp_Loose.j2
   repeat' first
   | (with_reducible exact ih0 _ _)
   | (with_reducible exact ih1 _ _)
   | (with_reducible exact ih2 _ _)
   | (with_reducible exact decomp_latin.mono _ _)
   | (with_reducible exact decomp_list.mono _ _)
   | (with_reducible exact LeO.refl _)
   | exact ih0 _ _
   | exact ih1 _ _
   | exact ih2 _ _
   | exact decomp_latin.mono _ _
   | exact decomp_list.mono _ _
   | exact LeO.none _
   | refine LeO.ite ?_ ?_
   | refine LeO.bind ?_ (fun _ => ?_)
theorem decomp_Loose.mono : ∀ a0 k, LeO (decomp_Loose.f k a0) (decomp_Loose.f (k + 1) a0) := by
 intro a0 k
 obtain ⟨ih0, ih1, ih2⟩ := decomp_Loose.mono_l k
 unfold decomp_Loose.f
 repeat' first
   | (with_reducible exact ih0 _ _)
   | (with_reducible exact ih1 _ _)
   | (with_reducible exact ih2 _ _)
   | (with_reducible exact decomp_latin.mono _ _)
   | (with_reducible exact decomp_list.mono _ _)
   | (with_reducible exact LeO.refl _)
   | exact ih0 _ _
   | exact ih1 _ _
   | exact ih2 _ _
   | exact decomp_latin.mono _ _
   | exact decomp_list.mono _ _
   | exact LeO.none _
   | refine LeO.ite ?_ ?_
   | refine LeO.bind ?_ (fun _ => ?_)
set_option maxHeartbeats 8000000 in
set_option maxRecDepth 100000 in
theorem decomp_Loose.calls (k : Nat) (a0 : Int) (r : List Int) (w : World) (h : decomp_Loose.f k a0 = some r) :
  Calls Try.prog 53 #[.int .i32 a0] w fun e w' => ∃ v0_ : Value, e = .returned (v0_) ∧ Kd.R (Kd.int .i32) 21 w' w.heap.size (fun _ => True) v0_ r ∧ Below w.heap.size w w' := by
 have HB := aM (Below.refl w.heap.size w)
 have H : (if a0 < 384 then ((decomp_latin.f k a0).bind fun t123 => (decomp_Loose.j0 k a0 (t123.toList != ([] : List UInt8)))) else (decomp_Loose.j0 k a0 false)) = some r := h
 clear h
 have HC2 := aM H
 clear H
 go_enter Try.func53, Try.ntmps53
 go_upto_region 1 with (fail)
 go_cut [3] (fun v3 wc => ∃ (kq : Nat) (x3_1 : Bool), v3 = .bool x3_1 ∧ Aside0 (decomp_Loose.j0 kq a0 x3_1 = some r) ∧ Aside0 (kq ≤ k) ∧ Aside0 (Below w.heap.size w wc))
 case first =>
  have H := HC2.out
  clear HC2
  by_cases c3 : a0 < 384
  ·rw [if_pos c3] at H
   have c3b0 : decide (a0 < 384) = true := decide_eq_true c3
   clear c3
   (first | rw [c3b0] | (simp only [i64_w, i32_w]; rw [c3b0]) | skip)
   obtain ⟨t123, A4, H⟩ := zO H
   have H' := aM H
   clear H
   go_wp2_with (first | (go_at_call 68; (with_reducible refine (decomp_latin.calls k a0 t123 _ A4.out).mono ?_); rintro e w5 ⟨rfl, hb⟩; (try clear A4); replace HB := aM (below_step zB hb); (try clear hb)))
   go_meet
   case rel => exact ⟨_, ((t123.toList != ([] : List UInt8))), (by first | rfl | (simp; done) | (simp [*]; done) | (cases t123.toList <;> rfl)), H', ⟨by first | omega | exact Nat.le_refl _⟩, ⟨zB⟩⟩
  ·rw [if_neg c3] at H
   have c3b0 : decide (a0 < 384) = false := decide_eq_false c3
   clear c3
   (first | rw [c3b0] | (simp only [i64_w, i32_w]; rw [c3b0]) | skip)
   have H' := aM H
   clear H
   go_wp2
   go_meet
   case rel => exact ⟨_, (false), zP, H', ⟨by first | omega | exact Nat.le_refl _⟩, ⟨zB⟩⟩
 case rest =>
  clear HC2
  try clear p2
  try clear c3
  try clear c3b0
  try clear c5
  obtain ⟨kq, x3_1, rfl, HA, HJ1, HB⟩ := hcut
  cases kq with
  | zero => exact absurd HA.out (by simp [decomp_Loose.j0])
  | succ kj1 =>
   have H := HA.out
   clear HA
   simp only [decomp_Loose.j0] at H
   by_cases c6 : x3_1 = true
   ·subst c6
    rw [if_pos rfl] at H
    obtain ⟨t124, A7, H⟩ := zO H
    obtain ⟨t125, A8, H⟩ := zO H
    obtain rfl := sI H
    go_wp2_with (first | ((with_reducible refine gate_callee (f := 68) rfl ?_); refine goesL_ (some 12) rfl rfl Try.func68 zK rfl #[.int .i32 a0] rfl zM ?_; (with_reducible refine (decomp_latin.calls kj1 a0 t124 _ A7.out).mono ?_); rintro e w9 ⟨rfl, hb⟩; (try clear A7); refine ⟨_, rfl, ?_⟩; replace HB := aM (below_step zB hb); (try clear hb)) | ((with_reducible refine gate_callee (f := 69) rfl ?_); refine goesL_ (some 13) rfl rfl Try.func69 zK rfl #[.string t124] rfl zM ?_; (with_reducible refine (decomp_list.calls kj1 t124 t125 _ A8.out).mono ?_); rintro e w10 ⟨v126, rfl, ho0, hb⟩; (try clear A8); refine ⟨_, rfl, ?_⟩; have n_ := zI (aM (Kd.R_lower ho0 (below_size zB))) (aM (below_step zB hb)); clear HB; obtain ⟨HO127, HB⟩ := n_; (try clear hb); (try clear ho0)))
    go_ret
    exact ⟨_, zE, zR HO127, zB⟩
   ·replace c6 := Bool.eq_false_iff.mpr c6
    subst c6
    rw [if_neg (show ¬ (false = true) by decide)] at H
    have HC11 := aM H
    clear H
    go_upto_region 3 with (fail)
    go_cut [14] (fun v14 wc => ∃ (kq : Nat) (x14_10 : Bool), v14 = .bool x14_10 ∧ Aside0 (decomp_Loose.j1 kq a0 x14_10 = some r) ∧ Aside0 (kq ≤ kj1) ∧ Aside0 (Below w.heap.size w wc))
    case first =>
     have H := HC11.out
     clear HC11
     by_cases c12 : a0 = 160
     ·rw [if_pos c12] at H
      have c12b0 : (a0 == 160) = true := beq_iff_eq.mpr c12
      have c12b1 : (a0 != 160) = false := bne_eq_false_iff_eq.mpr c12
      clear c12
      (first | rw [c12b0] | (simp only [i64_w, i32_w]; rw [c12b0]) | skip)
      have H' := aM H
      clear H
      go_wp2
      go_meet
      case rel => exact ⟨_, (true), zP, H', ⟨by have := HJ1.out; first | omega | exact Nat.le_refl _⟩, ⟨zB⟩⟩
     ·rw [if_neg c12] at H
      have c12b0 : (a0 == 160) = false := beq_eq_false_iff_ne.mpr c12
      have c12b1 : (a0 != 160) = true := bne_iff_ne.mpr c12
      (first | rw [c12b0] | (simp only [i64_w, i32_w]; rw [c12b0]) | skip)
      obtain ⟨t128, A13, H⟩ := zO H
      by_cases c14 : t128 = true
      ·subst c14
       rw [if_pos rfl] at H
       have H' := aM H
       clear H
       go_wp2_with (first | (go_at_call 70; (with_reducible refine (decomp_within.calls a0 8194 8202 true _ A13.out).mono ?_); rintro e w' ⟨rfl, ⟨nd, rfl⟩⟩; (try clear A13)))
       go_meet
       case rel => exact ⟨_, (true), zP, H', ⟨by have := HJ1.out; first | omega | exact Nat.le_refl _⟩, ⟨zB⟩⟩
      ·replace c14 := Bool.eq_false_iff.mpr c14
       subst c14
       rw [if_neg (show ¬ (false = true) by decide)] at H
       by_cases c15 : a0 = 8239
       ·rw [if_pos c15] at H
        have c15b0 : (a0 == 8239) = true := beq_iff_eq.mpr c15
        have c15b1 : (a0 != 8239) = false := bne_eq_false_iff_eq.mpr c15
        clear c15
        have H' := aM H
        clear H
        go_wp2_with (first | (go_at_call 70; (with_reducible refine (decomp_within.calls a0 8194 8202 false _ A13.out).mono ?_); rintro e w' ⟨rfl, ⟨nd, rfl⟩⟩; (try clear A13)))
        go_meet
        case rel => exact ⟨_, (true), zP, H', ⟨by have := HJ1.out; first | omega | exact Nat.le_refl _⟩, ⟨zB⟩⟩
       ·rw [if_neg c15] at H
        have c15b0 : (a0 == 8239) = false := beq_eq_false_iff_ne.mpr c15
        have c15b1 : (a0 != 8239) = true := bne_iff_ne.mpr c15
        by_cases c16 : a0 = 8287
        ·rw [if_pos c16] at H
         have c16b0 : (a0 == 8287) = true := beq_iff_eq.mpr c16
         have c16b1 : (a0 != 8287) = false := bne_eq_false_iff_eq.mpr c16
         clear c16
         have H' := aM H
         clear H
         go_wp2_with (first | (go_at_call 70; (with_reducible refine (decomp_within.calls a0 8194 8202 false _ A13.out).mono ?_); rintro e w' ⟨rfl, ⟨nd, rfl⟩⟩; (try clear A13)))
         go_meet
         case rel => exact ⟨_, (true), zP, H', ⟨by have := HJ1.out; first | omega | exact Nat.le_refl _⟩, ⟨zB⟩⟩
        ·rw [if_neg c16] at H
         have c16b0 : (a0 == 8287) = false := beq_eq_false_iff_ne.mpr c16
         have c16b1 : (a0 != 8287) = true := bne_iff_ne.mpr c16
         have H' := aM H
         clear H
         go_wp2_with (first | (go_at_call 70; (with_reducible refine (decomp_within.calls a0 8194 8202 false _ A13.out).mono ?_); rintro e w' ⟨rfl, ⟨nd, rfl⟩⟩; (try clear A13)))
         go_meet
         case rel => exact ⟨_, ((a0 == 12288)), zP, H', ⟨by have := HJ1.out; first | omega | exact Nat.le_refl _⟩, ⟨zB⟩⟩
    case rest =>
     clear HC11
     try clear c1
     try clear p2
     try clear c3
     try clear c3b0
     try clear c5
     try clear c6
     try clear c12
     try clear c12b0
     try clear c12b1
     try clear c14
     try clear c15
     try clear c15b0
     try clear c15b1
     try clear c16
     try clear c16b0
     try clear c16b1
     try clear p2
     obtain ⟨kq, x14_10, rfl, HA, HJ10, HB⟩ := hcut
     cases kq with
     | zero => exact absurd HA.out (by simp [decomp_Loose.j1])
     | succ kj10 =>
      have H := HA.out
      clear HA
      simp only [decomp_Loose.j1] at H
      by_cases c17 : x14_10 = true
      ·subst c17
       rw [if_pos rfl] at H
       obtain ⟨y129, hy129⟩ : ∃ y_ : List Int, y_ = (([32] : List Int)) := ⟨_, rfl⟩
       replace H : (some y129) = some r := zY hy129 H
       have Ny129 := aM hy129
       clear hy129
       obtain rfl := sI H
       go_wp2_with (first | ((with_reducible refine gate_dst (N := 33) rfl ?_); refine Kd.R_lit (Kd.int .i32) _ 21 ?hg (N := 33) ?hd (xs := ([32] : List Int)) (inner := [.int .i32 32]) (ok := fun _ => True) (okp := fun _ => True) ?hr ?hp (fun _ hk => hk) trivial (Below.refl _ _) (Nat.le_refl _) (by simp) ?_; (case hd => rfl); (case hg => rfl); (case hr => first | (go_simp; done) | (go_simp; rfl)); (case hp => exact (Reps.one (show Kd.M (Kd.int .i32) _ _ _ 32 [.int .i32 32] from rfl) (Reps.none _ _))); intro v130 w18 ho19 hb hg_ hnew_; clear hg_ hnew_; (first | rw [← Ny129.out] at ho19 | (simp only [Int.reduceToNat] at ho19; rw [← Ny129.out] at ho19)); have n_ := zI (aM (Kd.R_lower ho19 (below_size zB))) (aM (below_step zB hb)); clear HB; obtain ⟨HO131, HB⟩ := n_; clear hb ho19))
       go_ret
       exact ⟨_, zE, zR HO131, zB⟩
      ·replace c17 := Bool.eq_false_iff.mpr c17
       subst c17
       rw [if_neg (show ¬ (false = true) by decide)] at H
       by_cases c20 : a0 = 8209
       ·rw [if_pos c20] at H
        have c20b0 : (a0 == 8209) = true := beq_iff_eq.mpr c20
        have c20b1 : (a0 != 8209) = false := bne_eq_false_iff_eq.mpr c20
        clear c20
        obtain ⟨y132, hy132⟩ : ∃ y_ : List Int, y_ = (([8208] : List Int)) := ⟨_, rfl⟩
        replace H : (some y132) = some r := zY hy132 H
        have Ny132 := aM hy132
        clear hy132
        obtain rfl := sI H
        go_wp2_with (first | ((with_reducible refine gate_dst (N := 37) rfl ?_); refine Kd.R_lit (Kd.int .i32) _ 21 ?hg (N := 37) ?hd (xs := ([8208] : List Int)) (inner := [.int .i32 8208]) (ok := fun _ => True) (okp := fun _ => True) ?hr ?hp (fun _ hk => hk) trivial (Below.refl _ _) (Nat.le_refl _) (by simp) ?_; (case hd => rfl); (case hg => rfl); (case hr => first | (go_simp; done) | (go_simp; rfl)); (case hp => exact (Reps.one (show Kd.M (Kd.int .i32) _ _ _ 8208 [.int .i32 8208] from rfl) (Reps.none _ _))); intro v133 w21 ho22 hb hg_ hnew_; clear hg_ hnew_; (first | rw [← Ny132.out] at ho22 | (simp only [Int.reduceToNat] at ho22; rw [← Ny132.out] at ho22)); have n_ := zI (aM (Kd.R_lower ho22 (below_size zB))) (aM (below_step zB hb)); clear HB; obtain ⟨HO134, HB⟩ := n_; clear hb ho22))
        go_ret
        exact ⟨_, zE, zR HO134, zB⟩
       ·rw [if_neg c20] at H
        have c20b0 : (a0 == 8209) = false := beq_eq_false_iff_ne.mpr c20
        have c20b1 : (a0 != 8209) = true := bne_iff_ne.mpr c20
        have HC23 := aM H
        clear H
        go_upto_region 7 with (fail)
        go_cut [38] (fun v38 wc => ∃ (kq : Nat) (x38_22 : Bool), v38 = .bool x38_22 ∧ Aside0 (decomp_Loose.j2 kq a0 x38_22 = some r) ∧ Aside0 (kq ≤ kj10) ∧ Aside0 (Below w.heap.size w wc))
        case first =>
         have H := HC23.out
         clear HC23
         by_cases c24 : a0 = 8304
         ·rw [if_pos c24] at H
          have c24b0 : (a0 == 8304) = true := beq_iff_eq.mpr c24
          have c24b1 : (a0 != 8304) = false := bne_eq_false_iff_eq.mpr c24
          clear c24
          (first | rw [c24b0] | (simp only [i64_w, i32_w]; rw [c24b0]) | skip)
          have H' := aM H
          clear H
          go_wp2
          go_meet
          case rel => exact ⟨_, (true), zP, H', ⟨by have := HJ1.out; have := HJ10.out; first | omega | exact Nat.le_refl _⟩, ⟨zB⟩⟩
         ·rw [if_neg c24] at H
          have c24b0 : (a0 == 8304) = false := beq_eq_false_iff_ne.mpr c24
          have c24b1 : (a0 != 8304) = true := bne_iff_ne.mpr c24
          (first | rw [c24b0] | (simp only [i64_w, i32_w]; rw [c24b0]) | skip)
          obtain ⟨t135, A25, H⟩ := zO H
          have H' := aM H
          clear H
          go_wp2_with (first | (go_at_call 70; (with_reducible refine (decomp_within.calls a0 8308 8313 t135 _ A25.out).mono ?_); rintro e w' ⟨rfl, ⟨nd, rfl⟩⟩; (try clear A25)))
          go_meet
          case rel => exact ⟨_, (t135), zP, H', ⟨by have := HJ1.out; have := HJ10.out; first | omega | exact Nat.le_refl _⟩, ⟨zB⟩⟩
        case rest =>
         clear HC23
         try clear c1
         try clear c2
         try clear p2
         try clear c3
         try clear c3b0
         try clear c5
         try clear c6
         try clear c12
         try clear c12b0
         try clear c12b1
         try clear c14
         try clear c15
         try clear c15b0
         try clear c15b1
         try clear c16
         try clear c16b0
         try clear c16b1
         try clear c17
         try clear c20
         try clear c20b0
         try clear c20b1
         try clear c24
         try clear c24b0
         try clear c24b1
         try clear p2
         obtain ⟨kq, x38_22, rfl, HA, HJ22, HB⟩ := hcut
         cases kq with
         | zero => exact absurd HA.out (by simp [decomp_Loose.j2])
         | succ kj22 =>
          have H := HA.out
          clear HA
          simp only [decomp_Loose.j2] at H
          by_cases c26 : x38_22 = true
          ·subst c26
           rw [if_pos rfl] at H
           obtain ⟨y136, hy136⟩ : ∃ y_ : List Int, y_ = (([wrap32 ((wrap32 (a0 - 8304)) + 48)] : List Int)) := ⟨_, rfl⟩
           replace H : (some y136) = some r := zY hy136 H
           have Ny136 := aM hy136
           clear hy136
           obtain rfl := sI H
           go_wp2_with (first | ((with_reducible refine gate_dst (N := 48) rfl ?_); refine Kd.R_lit (Kd.int .i32) _ 21 ?hg (N := 48) ?hd (xs := ([wrap32 ((wrap32 (a0 - 8304)) + 48)] : List Int)) (inner := [.int .i32 (wrap32 ((wrap32 (a0 - 8304)) + 48))]) (ok := fun _ => True) (okp := fun _ => True) ?hr ?hp (fun _ hk => hk) trivial (Below.refl _ _) (Nat.le_refl _) (by simp) ?_; (case hd => rfl); (case hg => rfl); (case hr => first | (go_simp; done) | (go_simp; rfl)); (case hp => exact (Reps.one (show Kd.M (Kd.int .i32) _ _ _ (wrap32 ((wrap32 (a0 - 8304)) + 48)) [.int .i32 (wrap32 ((wrap32 (a0 - 8304)) + 48))] from rfl) (Reps.none _ _))); intro v137 w27 ho28 hb hg_ hnew_; clear hg_ hnew_; (first | rw [← Ny136.out] at ho28 | (simp only [Int.reduceToNat] at ho28; rw [← Ny136.out] at ho28)); have n_ := zI (aM (Kd.R_lower ho28 (below_size zB))) (aM (below_step zB hb)); clear HB; obtain ⟨HO138, HB⟩ := n_; clear hb ho28))
           go_ret
           exact ⟨_, zE, zR HO138, zB⟩
          ·replace c26 := Bool.eq_false_iff.mpr c26
           subst c26
           rw [if_neg (show ¬ (false = true) by decide)] at H
           obtain ⟨t139, A29, H⟩ := zO H
           by_cases c30 : t139 = true
           ·subst c30
            rw [if_pos rfl] at H
            obtain ⟨y140, hy140⟩ : ∃ y_ : List Int, y_ = (([wrap32 ((wrap32 (a0 - 8320)) + 48)] : List Int)) := ⟨_, rfl⟩
            replace H : (some y140) = some r := zY hy140 H
            have Ny140 := aM hy140
            clear hy140
            obtain rfl := sI H
            go_wp2_with (first | ((with_reducible refine gate_callee (f := 70) rfl ?_); refine goesL_ (some 51) rfl rfl Try.func70 zK rfl #[.int .i32 a0, .int .i32 8320, .int .i32 8329] rfl zM ?_; (with_reducible refine (decomp_within.calls a0 8320 8329 true _ A29.out).mono ?_); rintro e w' ⟨rfl, ⟨nd, rfl⟩⟩; (try clear A29); refine ⟨_, rfl, ?_⟩) | ((with_reducible refine gate_dst (N := 55) rfl ?_); refine Kd.R_lit (Kd.int .i32) _ 21 ?hg (N := 55) ?hd (xs := ([wrap32 ((wrap32 (a0 - 8320)) + 48)] : List Int)) (inner := [.int .i32 (wrap32 ((wrap32 (a0 - 8320)) + 48))]) (ok := fun _ => True) (okp := fun _ => True) ?hr ?hp (fun _ hk => hk) trivial (Below.refl _ _) (Nat.le_refl _) (by simp) ?_; (case hd => rfl); (case hg => rfl); (case hr => first | (go_simp; done) | (go_simp; rfl)); (case hp => exact (Reps.one (show Kd.M (Kd.int .i32) _ _ _ (wrap32 ((wrap32 (a0 - 8320)) + 48)) [.int .i32 (wrap32 ((wrap32 (a0 - 8320)) + 48))] from rfl) (Reps.none _ _))); intro v141 w31 ho32 hb hg_ hnew_; clear hg_ hnew_; (first | rw [← Ny140.out] at ho32 | (simp only [Int.reduceToNat] at ho32; rw [← Ny140.out] at ho32)); have n_ := zI (aM (Kd.R_lower ho32 (below_size zB))) (aM (below_step zB hb)); clear HB; obtain ⟨HO142, HB⟩ := n_; clear hb ho32))
            go_ret
            exact ⟨_, zE, zR HO142, zB⟩
           ·replace c30 := Bool.eq_false_iff.mpr c30
            subst c30
            rw [if_neg (show ¬ (false = true) by decide)] at H
            obtain ⟨t143, A33, H⟩ := zO H
            by_cases c34 : t143 = true
            ·subst c34
             rw [if_pos rfl] at H
             obtain ⟨t144, A35, H⟩ := zO H
             obtain ⟨ji36, hji36⟩ : ∃ j_ : Int, (wrap32 (a0 - 8544)) = j_ := ⟨_, rfl⟩
             replace H : (if 0 ≤ (ji36) then (if (ji36) < (t144.length : Int) then ((decomp_list.f kj22 (rdOf ByteArray.empty t144 (ji36))).bind fun t148 => (some t148)) else (none)) else (none)) = some r := by first | (rw [hji36] at H; exact H) | (simp only [hji36] at H ⊢; exact H)
             (try rw [hji36] at A29)
             (try rw [hji36] at A33)
             (try rw [hji36] at A35)
             have hji36w : (IntKind.i32.wrap (a0 - 8544)) = ji36 := (i32_w _).trans hji36
             by_cases c37 : 0 ≤ (ji36)
             ·rw [if_pos c37] at H
              have c37b0 : decide (0 ≤ (ji36)) = true := decide_eq_true c37
              clear c37
              by_cases c38 : (ji36) < (t144.length : Int)
              ·rw [if_pos c38] at H
               have c38b0 : decide ((ji36) < (t144.length : Int)) = true := decide_eq_true c38
               clear c38
               obtain ⟨t148, A39, H⟩ := zO H
               obtain rfl := sI H
               go_wp2_with (first | ((with_reducible refine gate_callee (f := 70) rfl ?_); refine goesL_ (some 51) rfl rfl Try.func70 zK rfl #[.int .i32 a0, .int .i32 8320, .int .i32 8329] rfl zM ?_; (with_reducible refine (decomp_within.calls a0 8320 8329 false _ A29.out).mono ?_); rintro e w' ⟨rfl, ⟨nd, rfl⟩⟩; (try clear A29); refine ⟨_, rfl, ?_⟩) | ((with_reducible refine gate_callee (f := 70) rfl ?_); refine goesL_ (some 58) rfl rfl Try.func70 zK rfl #[.int .i32 a0, .int .i32 8544, .int .i32 8555] rfl zM ?_; (with_reducible refine (decomp_within.calls a0 8544 8555 true _ A33.out).mono ?_); rintro e w' ⟨rfl, ⟨nd, rfl⟩⟩; (try clear A33); refine ⟨_, rfl, ?_⟩) | ((with_reducible refine gate_callee (f := 71) rfl ?_); refine goesL_ (some 59) rfl rfl Try.func71 zK rfl #[.bool false] rfl zM ?_; (with_reducible refine (decomp_numbers.calls false t144 _ A35.out).mono ?_); rintro e w40 ⟨v145, rfl, ho0, hb⟩; (try clear A35); refine ⟨_, rfl, ?_⟩; have n_ := zI (aM (Kd.R_lower ho0 (below_size zB))) (aM (below_step zB hb)); clear HB; obtain ⟨HO146, HB⟩ := n_; (try clear hb); (try clear ho0); obtain ⟨Ao41, co41, rfl⟩ := Kd.R_slice HO146.out; have p147 : 0 ≤ ((ji36) : Int) := zoA; have q147 : (ji36) < (t144.length : Int) := zoA; obtain ⟨ad147, e147, hx147_0⟩ := Kd.at_string (Kd.R_reads' HO146.out).2.2 (ji36) p147 q147; cases e147; replace p147 := eq_true p147; replace q147 := eq_true q147) | ((with_reducible refine gate_callee (f := 69) rfl ?_); refine goesL_ (some 64) rfl rfl Try.func69 zK rfl #[.string (rdOf ByteArray.empty t144 (ji36))] rfl (by (try simp only [List.map_toArray, List.map_cons, List.map_nil]); first | done | (simp only [hji36]; rfl) | rfl | (simp only [List.length_drop, List.length_take]; rfl)) ?_; (with_reducible refine (decomp_list.calls kj22 (rdOf ByteArray.empty t144 (ji36)) t148 _ A39.out).mono ?_); rintro e w42 ⟨v149, rfl, ho0, hb⟩; (try clear A39); refine ⟨_, rfl, ?_⟩; have n_ := zI (aM (Kd.R_below (zR HO146) hb)) (zI (aM (Kd.R_lower ho0 (below_size zB))) (aM (below_step zB hb))); clear HO146 HB; obtain ⟨HO146, HO150, HB⟩ := n_; (try clear hb); (try clear ho0)))
               go_ret
               exact ⟨_, by first | rfl | (simp [errW_none, errW_some] <;> rfl) | (simp only [← hji36]; first | rfl | (simp [errW_none, errW_some] <;> rfl)) | (simp [*, errW_none, errW_some] <;> rfl), zR HO150, zB⟩
              ·rw [if_neg c38] at H
               exact absurd H (by simp)
             ·rw [if_neg c37] at H
              exact absurd H (by simp)
            ·replace c34 := Bool.eq_false_iff.mpr c34
             subst c34
             rw [if_neg (show ¬ (false = true) by decide)] at H
             obtain ⟨t151, A43, H⟩ := zO H
             by_cases c44 : t151 = true
             ·subst c44
              rw [if_pos rfl] at H
              obtain ⟨t152, A45, H⟩ := zO H
              obtain ⟨ji46, hji46⟩ : ∃ j_ : Int, (wrap32 (a0 - 8560)) = j_ := ⟨_, rfl⟩
              replace H : (if 0 ≤ (ji46) then (if (ji46) < (t152.length : Int) then ((decomp_list.f kj22 (rdOf ByteArray.empty t152 (ji46))).bind fun t156 => (some t156)) else (none)) else (none)) = some r := by first | (rw [hji46] at H; exact H) | (simp only [hji46] at H ⊢; exact H)
              (try rw [hji46] at A29)
              (try rw [hji46] at A33)
              (try rw [hji46] at A43)
              (try rw [hji46] at A45)
              have hji46w : (IntKind.i32.wrap (a0 - 8560)) = ji46 := (i32_w _).trans hji46
              by_cases c47 : 0 ≤ (ji46)
              ·rw [if_pos c47] at H
               have c47b0 : decide (0 ≤ (ji46)) = true := decide_eq_true c47
               clear c47
               by_cases c48 : (ji46) < (t152.length : Int)
               ·rw [if_pos c48] at H
                have c48b0 : decide ((ji46) < (t152.length : Int)) = true := decide_eq_true c48
                clear c48
                obtain ⟨t156, A49, H⟩ := zO H
                obtain rfl := sI H
                go_wp2_with (first | ((with_reducible refine gate_callee (f := 70) rfl ?_); refine goesL_ (some 51) rfl rfl Try.func70 zK rfl #[.int .i32 a0, .int .i32 8320, .int .i32 8329] rfl zM ?_; (with_reducible refine (decomp_within.calls a0 8320 8329 false _ A29.out).mono ?_); rintro e w' ⟨rfl, ⟨nd, rfl⟩⟩; (try clear A29); refine ⟨_, rfl, ?_⟩) | ((with_reducible refine gate_callee (f := 70) rfl ?_); refine goesL_ (some 58) rfl rfl Try.func70 zK rfl #[.int .i32 a0, .int .i32 8544, .int .i32 8555] rfl zM ?_; (with_reducible refine (decomp_within.calls a0 8544 8555 false _ A33.out).mono ?_); rintro e w' ⟨rfl, ⟨nd, rfl⟩⟩; (try clear A33); refine ⟨_, rfl, ?_⟩) | ((with_reducible refine gate_callee (f := 70) rfl ?_); refine goesL_ (some 67) rfl rfl Try.func70 zK rfl #[.int .i32 a0, .int .i32 8560, .int .i32 8571] rfl zM ?_; (with_reducible refine (decomp_within.calls a0 8560 8571 true _ A43.out).mono ?_); rintro e w' ⟨rfl, ⟨nd, rfl⟩⟩; (try clear A43); refine ⟨_, rfl, ?_⟩) | ((with_reducible refine gate_callee (f := 71) rfl ?_); refine goesL_ (some 68) rfl rfl Try.func71 zK rfl #[.bool true] rfl zM ?_; (with_reducible refine (decomp_numbers.calls true t152 _ A45.out).mono ?_); rintro e w50 ⟨v153, rfl, ho0, hb⟩; (try clear A45); refine ⟨_, rfl, ?_⟩; have n_ := zI (aM (Kd.R_lower ho0 (below_size zB))) (aM (below_step zB hb)); clear HB; obtain ⟨HO154, HB⟩ := n_; (try clear hb); (try clear ho0); obtain ⟨Ao51, co51, rfl⟩ := Kd.R_slice HO154.out; have p155 : 0 ≤ ((ji46) : Int) := zoA; have q155 : (ji46) < (t152.length : Int) := zoA; obtain ⟨ad155, e155, hx155_0⟩ := Kd.at_string (Kd.R_reads' HO154.out).2.2 (ji46) p155 q155; cases e155; replace p155 := eq_true p155; replace q155 := eq_true q155) | ((with_reducible refine gate_callee (f := 69) rfl ?_); refine goesL_ (some 73) rfl rfl Try.func69 zK rfl #[.string (rdOf ByteArray.empty t152 (ji46))] rfl (by (try simp only [List.map_toArray, List.map_cons, List.map_nil]); first | done | (simp only [hji46]; rfl) | rfl | (simp only [List.length_drop, List.length_take]; rfl)) ?_; (with_reducible refine (decomp_list.calls kj22 (rdOf ByteArray.empty t152 (ji46)) t156 _ A49.out).mono ?_); rintro e w52 ⟨v157, rfl, ho0, hb⟩; (try clear A49); refine ⟨_, rfl, ?_⟩; have n_ := zI (aM (Kd.R_below (zR HO154) hb)) (zI (aM (Kd.R_lower ho0 (below_size zB))) (aM (below_step zB hb))); clear HO154 HB; obtain ⟨HO154, HO158, HB⟩ := n_; (try clear hb); (try clear ho0)))
                go_ret
                exact ⟨_, by first | rfl | (simp [errW_none, errW_some] <;> rfl) | (simp only [← hji46]; first | rfl | (simp [errW_none, errW_some] <;> rfl)) | (simp [*, errW_none, errW_some] <;> rfl), zR HO158, zB⟩
               ·rw [if_neg c48] at H
                exact absurd H (by simp)
              ·rw [if_neg c47] at H
               exact absurd H (by simp)
             ·replace c44 := Bool.eq_false_iff.mpr c44
              subst c44
              rw [if_neg (show ¬ (false = true) by decide)] at H
              obtain ⟨t159, A53, H⟩ := zO H
              by_cases c54 : t159 = true
              ·subst c54
               rw [if_pos rfl] at H
               obtain ⟨y160, hy160⟩ : ∃ y_ : List ByteArray, y_ = (([(⟨#[102, 102]⟩ : ByteArray), (⟨#[102, 105]⟩ : ByteArray), (⟨#[102, 108]⟩ : ByteArray), (⟨#[102, 102, 105]⟩ : ByteArray), (⟨#[102, 102, 108]⟩ : ByteArray), (⟨#[197, 191, 116]⟩ : ByteArray)] : List ByteArray)) := ⟨_, rfl⟩
               replace H : (if 0 ≤ (wrap32 (a0 - 64256)) then (if (wrap32 (a0 - 64256)) < (y160.length : Int) then ((decomp_list.f kj22 (rdOf ByteArray.empty y160 (wrap32 (a0 - 64256)))).bind fun t164 => (some t164)) else (none)) else (none)) = some r := zY hy160 H
               have Ny160 := aM hy160
               clear hy160
               obtain ⟨ji55, hji55⟩ : ∃ j_ : Int, (wrap32 (a0 - 64256)) = j_ := ⟨_, rfl⟩
               replace H : (if 0 ≤ (ji55) then (if (ji55) < (y160.length : Int) then ((decomp_list.f kj22 (rdOf ByteArray.empty y160 (ji55))).bind fun t164 => (some t164)) else (none)) else (none)) = some r := by first | (rw [hji55] at H; exact H) | (simp only [hji55] at H ⊢; exact H)
               (try rw [hji55] at A29)
               (try rw [hji55] at A33)
               (try rw [hji55] at A43)
               (try rw [hji55] at A53)
               have hji55w : (IntKind.i32.wrap (a0 - 64256)) = ji55 := (i32_w _).trans hji55
               by_cases c56 : 0 ≤ (ji55)
               ·rw [if_pos c56] at H
                have c56b0 : decide (0 ≤ (ji55)) = true := decide_eq_true c56
                clear c56
                by_cases c57 : (ji55) < (y160.length : Int)
                ·rw [if_pos c57] at H
                 have c57b0 : decide ((ji55) < (y160.length : Int)) = true := decide_eq_true c57
                 clear c57
                 obtain ⟨t164, A58, H⟩ := zO H
                 obtain rfl := sI H
                 go_wp2_with (first | ((with_reducible refine gate_callee (f := 70) rfl ?_); refine goesL_ (some 51) rfl rfl Try.func70 zK rfl #[.int .i32 a0, .int .i32 8320, .int .i32 8329] rfl zM ?_; (with_reducible refine (decomp_within.calls a0 8320 8329 false _ A29.out).mono ?_); rintro e w' ⟨rfl, ⟨nd, rfl⟩⟩; (try clear A29); refine ⟨_, rfl, ?_⟩) | ((with_reducible refine gate_callee (f := 70) rfl ?_); refine goesL_ (some 58) rfl rfl Try.func70 zK rfl #[.int .i32 a0, .int .i32 8544, .int .i32 8555] rfl zM ?_; (with_reducible refine (decomp_within.calls a0 8544 8555 false _ A33.out).mono ?_); rintro e w' ⟨rfl, ⟨nd, rfl⟩⟩; (try clear A33); refine ⟨_, rfl, ?_⟩) | ((with_reducible refine gate_callee (f := 70) rfl ?_); refine goesL_ (some 67) rfl rfl Try.func70 zK rfl #[.int .i32 a0, .int .i32 8560, .int .i32 8571] rfl zM ?_; (with_reducible refine (decomp_within.calls a0 8560 8571 false _ A43.out).mono ?_); rintro e w' ⟨rfl, ⟨nd, rfl⟩⟩; (try clear A43); refine ⟨_, rfl, ?_⟩) | ((with_reducible refine gate_callee (f := 70) rfl ?_); refine goesL_ (some 76) rfl rfl Try.func70 zK rfl #[.int .i32 a0, .int .i32 64256, .int .i32 64261] rfl zM ?_; (with_reducible refine (decomp_within.calls a0 64256 64261 true _ A53.out).mono ?_); rintro e w' ⟨rfl, ⟨nd, rfl⟩⟩; (try clear A53); refine ⟨_, rfl, ?_⟩) | ((with_reducible refine gate_dst (N := 77) rfl ?_); refine Kd.R_lit Kd.string _ 9 ?hg (N := 77) ?hd (xs := ([(⟨#[102, 102]⟩ : ByteArray), (⟨#[102, 105]⟩ : ByteArray), (⟨#[102, 108]⟩ : ByteArray), (⟨#[102, 102, 105]⟩ : ByteArray), (⟨#[102, 102, 108]⟩ : ByteArray), (⟨#[197, 191, 116]⟩ : ByteArray)] : List ByteArray)) (inner := [.string (⟨#[102, 102]⟩ : ByteArray), .string (⟨#[102, 105]⟩ : ByteArray), .string (⟨#[102, 108]⟩ : ByteArray), .string (⟨#[102, 102, 105]⟩ : ByteArray), .string (⟨#[102, 102, 108]⟩ : ByteArray), .string (⟨#[197, 191, 116]⟩ : ByteArray)]) (ok := fun _ => True) (okp := fun _ => True) ?hr ?hp (fun _ hk => hk) trivial (Below.refl _ _) (Nat.le_refl _) (by simp) ?_; (case hd => rfl); (case hg => rfl); (case hr => first | (go_simp; done) | (go_simp; rfl)); (case hp => exact (Reps.one (show Kd.M Kd.string _ _ _ (⟨#[102, 102]⟩ : ByteArray) [.string (⟨#[102, 102]⟩ : ByteArray)] from rfl) (Reps.one (show Kd.M Kd.string _ _ _ (⟨#[102, 105]⟩ : ByteArray) [.string (⟨#[102, 105]⟩ : ByteArray)] from rfl) (Reps.one (show Kd.M Kd.string _ _ _ (⟨#[102, 108]⟩ : ByteArray) [.string (⟨#[102, 108]⟩ : ByteArray)] from rfl) (Reps.one (show Kd.M Kd.string _ _ _ (⟨#[102, 102, 105]⟩ : ByteArray) [.string (⟨#[102, 102, 105]⟩ : ByteArray)] from rfl) (Reps.one (show Kd.M Kd.string _ _ _ (⟨#[102, 102, 108]⟩ : ByteArray) [.string (⟨#[102, 102, 108]⟩ : ByteArray)] from rfl) (Reps.one (show Kd.M Kd.string _ _ _ (⟨#[197, 191, 116]⟩ : ByteArray) [.string (⟨#[197, 191, 116]⟩ : ByteArray)] from rfl) (Reps.none _ _)))))))); intro v161 w59 ho60 hb hg_ hnew_; clear hg_ hnew_; (first | rw [← Ny160.out] at ho60 | (simp only [Int.reduceToNat] at ho60; rw [← Ny160.out] at ho60)); have n_ := zI (aM (Kd.R_lower ho60 (below_size zB))) (aM (below_step zB hb)); clear HB; obtain ⟨HO162, HB⟩ := n_; clear hb ho60; obtain ⟨Ao61, co61, rfl⟩ := Kd.R_slice HO162.out; have p163 : 0 ≤ ((ji55) : Int) := zoA; have q163 : (ji55) < (y160.length : Int) := zoA; obtain ⟨ad163, e163, hx163_0⟩ := Kd.at_string (Kd.R_reads' HO162.out).2.2 (ji55) p163 q163; cases e163; replace p163 := eq_true p163; replace q163 := eq_true q163) | ((with_reducible refine gate_callee (f := 69) rfl ?_); refine goesL_ (some 82) rfl rfl Try.func69 zK rfl #[.string (rdOf ByteArray.empty y160 (ji55))] rfl (by (try simp only [List.map_toArray, List.map_cons, List.map_nil]); first | done | (simp only [hji55]; rfl) | rfl | (simp only [List.length_drop, List.length_take]; rfl)) ?_; (with_reducible refine (decomp_list.calls kj22 (rdOf ByteArray.empty y160 (ji55)) t164 _ A58.out).mono ?_); rintro e w62 ⟨v165, rfl, ho0, hb⟩; (try clear A58); refine ⟨_, rfl, ?_⟩; have n_ := zI (aM (Kd.R_below (zR HO162) hb)) (zI (aM (Kd.R_lower ho0 (below_size zB))) (aM (below_step zB hb))); clear HO162 HB; obtain ⟨HO162, HO166, HB⟩ := n_; (try clear hb); (try clear hk); (try clear ho0)))
                 go_ret
                 exact ⟨_, by first | rfl | (simp [errW_none, errW_some] <;> rfl) | (simp only [← hji55]; first | rfl | (simp [errW_none, errW_some] <;> rfl)) | (simp [*, errW_none, errW_some] <;> rfl), zR HO166, zB⟩
                ·rw [if_neg c57] at H
                 exact absurd H (by simp)
               ·rw [if_neg c56] at H
                exact absurd H (by simp)
              ·replace c54 := Bool.eq_false_iff.mpr c54
               subst c54
               rw [if_neg (show ¬ (false = true) by decide)] at H
               obtain ⟨t167, A63, H⟩ := zO H
               by_cases c64 : t167 = true
               ·subst c64
                rw [if_pos rfl] at H
                obtain ⟨y168, hy168⟩ : ∃ y_ : List Int, y_ = (([wrap32 ((wrap32 (a0 - 65281)) + 33)] : List Int)) := ⟨_, rfl⟩
                replace H : (some y168) = some r := zY hy168 H
                have Ny168 := aM hy168
                clear hy168
                obtain rfl := sI H
                go_wp2_with (first | ((with_reducible refine gate_callee (f := 70) rfl ?_); refine goesL_ (some 51) rfl rfl Try.func70 zK rfl #[.int .i32 a0, .int .i32 8320, .int .i32 8329] rfl zM ?_; (with_reducible refine (decomp_within.calls a0 8320 8329 false _ A29.out).mono ?_); rintro e w' ⟨rfl, ⟨nd, rfl⟩⟩; (try clear A29); refine ⟨_, rfl, ?_⟩) | ((with_reducible refine gate_callee (f := 70) rfl ?_); refine goesL_ (some 58) rfl rfl Try.func70 zK rfl #[.int .i32 a0, .int .i32 8544, .int .i32 8555] rfl zM ?_; (with_reducible refine (decomp_within.calls a0 8544 8555 false _ A33.out).mono ?_); rintro e w' ⟨rfl, ⟨nd, rfl⟩⟩; (try clear A33); refine ⟨_, rfl, ?_⟩) | ((with_reducible refine gate_callee (f := 70) rfl ?_); refine goesL_ (some 67) rfl rfl Try.func70 zK rfl #[.int .i32 a0, .int .i32 8560, .int .i32 8571] rfl zM ?_; (with_reducible refine (decomp_within.calls a0 8560 8571 false _ A43.out).mono ?_); rintro e w' ⟨rfl, ⟨nd, rfl⟩⟩; (try clear A43); refine ⟨_, rfl, ?_⟩) | ((with_reducible refine gate_callee (f := 70) rfl ?_); refine goesL_ (some 76) rfl rfl Try.func70 zK rfl #[.int .i32 a0, .int .i32 64256, .int .i32 64261] rfl zM ?_; (with_reducible refine (decomp_within.calls a0 64256 64261 false _ A53.out).mono ?_); rintro e w' ⟨rfl, ⟨nd, rfl⟩⟩; (try clear A53); refine ⟨_, rfl, ?_⟩) | ((with_reducible refine gate_callee (f := 70) rfl ?_); refine goesL_ (some 85) rfl rfl Try.func70 zK rfl #[.int .i32 a0, .int .i32 65281, .int .i32 65374] rfl zM ?_; (with_reducible refine (decomp_within.calls a0 65281 65374 true _ A63.out).mono ?_); rintro e w' ⟨rfl, ⟨nd, rfl⟩⟩; (try clear A63); refine ⟨_, rfl, ?_⟩) | ((with_reducible refine gate_dst (N := 89) rfl ?_); refine Kd.R_lit (Kd.int .i32) _ 21 ?hg (N := 89) ?hd (xs := ([wrap32 ((wrap32 (a0 - 65281)) + 33)] : List Int)) (inner := [.int .i32 (wrap32 ((wrap32 (a0 - 65281)) + 33))]) (ok := fun _ => True) (okp := fun _ => True) ?hr ?hp (fun _ hk => hk) trivial (Below.refl _ _) (Nat.le_refl _) (by simp) ?_; (case hd => rfl); (case hg => rfl); (case hr => first | (go_simp; done) | (go_simp; rfl)); (case hp => exact (Reps.one (show Kd.M (Kd.int .i32) _ _ _ (wrap32 ((wrap32 (a0 - 65281)) + 33)) [.int .i32 (wrap32 ((wrap32 (a0 - 65281)) + 33))] from rfl) (Reps.none _ _))); intro v169 w65 ho66 hb hg_ hnew_; clear hg_ hnew_; (first | rw [← Ny168.out] at ho66 | (simp only [Int.reduceToNat] at ho66; rw [← Ny168.out] at ho66)); have n_ := zI (aM (Kd.R_lower ho66 (below_size zB))) (aM (below_step zB hb)); clear HB; obtain ⟨HO170, HB⟩ := n_; clear hb ho66))
                go_ret
                exact ⟨_, zE, zR HO170, zB⟩
               ·replace c64 := Bool.eq_false_iff.mpr c64
                subst c64
                rw [if_neg (show ¬ (false = true) by decide)] at H
                obtain rfl := sI H
                go_wp2_with (first | ((with_reducible refine gate_callee (f := 70) rfl ?_); refine goesL_ (some 51) rfl rfl Try.func70 zK rfl #[.int .i32 a0, .int .i32 8320, .int .i32 8329] rfl zM ?_; (with_reducible refine (decomp_within.calls a0 8320 8329 false _ A29.out).mono ?_); rintro e w' ⟨rfl, ⟨nd, rfl⟩⟩; (try clear A29); refine ⟨_, rfl, ?_⟩) | ((with_reducible refine gate_callee (f := 70) rfl ?_); refine goesL_ (some 58) rfl rfl Try.func70 zK rfl #[.int .i32 a0, .int .i32 8544, .int .i32 8555] rfl zM ?_; (with_reducible refine (decomp_within.calls a0 8544 8555 false _ A33.out).mono ?_); rintro e w' ⟨rfl, ⟨nd, rfl⟩⟩; (try clear A33); refine ⟨_, rfl, ?_⟩) | ((with_reducible refine gate_callee (f := 70) rfl ?_); refine goesL_ (some 67) rfl rfl Try.func70 zK rfl #[.int .i32 a0, .int .i32 8560, .int .i32 8571] rfl zM ?_; (with_reducible refine (decomp_within.calls a0 8560 8571 false _ A43.out).mono ?_); rintro e w' ⟨rfl, ⟨nd, rfl⟩⟩; (try clear A43); refine ⟨_, rfl, ?_⟩) | ((with_reducible refine gate_callee (f := 70) rfl ?_); refine goesL_ (some 76) rfl rfl Try.func70 zK rfl #[.int .i32 a0, .int .i32 64256, .int .i32 64261] rfl zM ?_; (with_reducible refine (decomp_within.calls a0 64256 64261 false _ A53.out).mono ?_); rintro e w' ⟨rfl, ⟨nd, rfl⟩⟩; (try clear A53); refine ⟨_, rfl, ?_⟩) | ((with_reducible refine gate_callee (f := 70) rfl ?_); refine goesL_ (some 85) rfl rfl Try.func70 zK rfl #[.int .i32 a0, .int .i32 65281, .int .i32 65374] rfl zM ?_; (with_reducible refine (decomp_within.calls a0 65281 65374 false _ A63.out).mono ?_); rintro e w' ⟨rfl, ⟨nd, rfl⟩⟩; (try clear A63); refine ⟨_, rfl, ?_⟩))
                go_ret
                exact ⟨_, zE, zL, zB⟩


end Go.Proofs.Ytpihglokjcbjkaa.P
