-- Printed by wip/mk.py (this session's driver over the kit's print) and from wip/manual.
import Derived.Test.YtncppcjobimilaaT0
import Derived.Test.YtncppcjobimilaaT3
import Derived.Test.YtncppcjobimilaaT5
import Derived.Test.YtncppcjobimilaaT6
namespace Go.Proofs.Ytncppcjobimilaa.P
open Go.RowKit Go.Proofs.YtncppcjobimilaaW.PrintWords Go.Proofs.YtncppcjobimilaaW.PrintLast Go.Proofs.YtncppcjobimilaaW.PrintMore
attribute [local go_sem] max2_int min2_int max_two min_two max_three min_three max_four min_four   -- for this text's walks alone
set_option linter.unusedVariables false
set_option linter.unusedSimpArgs false

/-! ### nfkc_Runes: function 29 -/
def nfkc_Runes.f (k : Nat) (a0 : Bool) (l1 : List Int) : Option (List Int) := (nfkc_plain.f k l1).bind fun t263 => (if t263 = true then ((slices_Clone_rune_rune.f l1).bind fun t264 => (some t264)) else ((decomp_All.f k a0 l1).bind fun t267 => ((arrange_Order.f k t267).bind fun t270 => ((compose_All.f k t270).bind fun t273 => (some t273)))))
theorem nfkc_Runes.mono : ∀ a0 a1 k, LeO (nfkc_Runes.f k a0 a1) (nfkc_Runes.f (k + 1) a0 a1) := by
 intro a0 a1 k
 unfold nfkc_Runes.f
 repeat' first
   | (with_reducible exact arrange_Order.mono _ _)
   | (with_reducible exact compose_All.mono _ _)
   | (with_reducible exact decomp_All.mono _ _ _)
   | (with_reducible exact nfkc_plain.mono _ _)
   | (with_reducible exact LeO.refl _)
   | exact arrange_Order.mono _ _
   | exact compose_All.mono _ _
   | exact decomp_All.mono _ _ _
   | exact nfkc_plain.mono _ _
   | exact LeO.none _
   | refine LeO.ite ?_ ?_
   | refine LeO.bind ?_ (fun _ => ?_)
set_option maxHeartbeats 8000000 in
set_option maxRecDepth 100000 in
theorem nfkc_Runes.calls (k : Nat) (a0 : Bool) (A1 : Option Addr) (c1 : Nat) (l1 : List Int) (r : List Int) (w : World) (hr1 : Kd.C (Kd.int .i32) w A1 l1.length l1) (hc1 : l1.length ≤ c1) (h : nfkc_Runes.f k a0 l1 = some r) :
  Calls Try.prog 29 #[.bool a0, .slice A1 l1.length c1] w fun e w' => ∃ v0_ : Value, e = .returned (v0_) ∧ Kd.R (Kd.int .i32) 21 w' w.heap.size (fun _ => True) v0_ r ∧ Below w.heap.size w w' := by
 have HR1 := aM hr1
 have HC1 := aM hc1
 clear hr1 hc1
 have HB := aM (Below.refl w.heap.size w)
 have H := h
 clear h
 unfold nfkc_Runes.f at H
 obtain ⟨t263, A3, H⟩ := zO H
 by_cases c4 : t263 = true
 ·subst c4
  rw [if_pos rfl] at H
  obtain ⟨t264, A5, H⟩ := zO H
  obtain rfl := sI H
  go_enter Try.func29, Try.ntmps29
  go_wp2_with (first | ((with_reducible refine gate_callee (f := 41) rfl ?_); refine goesL_ (some 7) rfl rfl Try.func41 zK rfl #[.slice A1 l1.length c1] rfl zM ?_; (with_reducible refine (nfkc_plain.calls k _ _ l1 true _ ?side1 ?side2 A3.out).mono ?_); (case side1 => exact zC HR1.out); (case side2 => exact HC1.out); rintro e w' ⟨rfl, ⟨nd, rfl⟩⟩; refine ⟨_, rfl, ?_⟩) | ((with_reducible refine gate_callee (f := 42) rfl ?_); refine goesL_ (some 9) rfl rfl Try.func42 zK rfl #[.slice A1 l1.length c1] rfl zM ?_; (with_reducible refine (slices_Clone_rune_rune.calls _ _ l1 t264 _ ?side1 ?side2 A5.out).mono ?_); (case side1 => exact zC HR1.out); (case side2 => exact HC1.out); rintro e w6 ⟨v265, rfl, ho0, hb⟩; refine ⟨_, rfl, ?_⟩; have n_ := zI (aM (Kd.R_lower ho0 (below_size zB))) (aM (below_step zB hb)); clear HB; obtain ⟨HO266, HB⟩ := n_; (try clear hb); (try clear ho0)))
  go_ret
  exact ⟨_, zE, zR HO266, zB⟩
 ·replace c4 := Bool.eq_false_iff.mpr c4
  subst c4
  rw [if_neg (show ¬ (false = true) by decide)] at H
  obtain ⟨t267, A7, H⟩ := zO H
  obtain ⟨t270, A8, H⟩ := zO H
  obtain ⟨t273, A9, H⟩ := zO H
  obtain rfl := sI H
  go_enter Try.func29, Try.ntmps29
  go_wp2_with (first | ((with_reducible refine gate_callee (f := 41) rfl ?_); refine goesL_ (some 7) rfl rfl Try.func41 zK rfl #[.slice A1 l1.length c1] rfl zM ?_; (with_reducible refine (nfkc_plain.calls k _ _ l1 false _ ?side1 ?side2 A3.out).mono ?_); (case side1 => exact zC HR1.out); (case side2 => exact HC1.out); rintro e w' ⟨rfl, ⟨nd, rfl⟩⟩; refine ⟨_, rfl, ?_⟩) | ((with_reducible refine gate_callee (f := 43) rfl ?_); refine goesL_ (some 12) rfl rfl Try.func43 zK rfl #[.bool a0, .slice A1 l1.length c1] rfl zM ?_; (with_reducible refine (decomp_All.calls k a0 _ _ l1 t267 _ ?side1 ?side2 A7.out).mono ?_); (case side1 => exact zC HR1.out); (case side2 => exact HC1.out); rintro e w10 ⟨v268, rfl, ho0, hb⟩; refine ⟨_, rfl, ?_⟩; have n_ := zI (aM (Kd.R_lower ho0 (below_size zB))) (aM (below_step zB hb)); clear HB; obtain ⟨HO269, HB⟩ := n_; (try clear hb); (try clear ho0); obtain ⟨Ao11, co11, rfl⟩ := Kd.R_slice HO269.out) | ((with_reducible refine gate_callee (f := 45) rfl ?_); refine goesL_ (some 14) rfl rfl Try.func45 zK rfl #[.slice Ao11 t267.length co11] rfl zM ?_; (with_reducible refine (arrange_Order.calls k _ _ t267 t270 _ ?side1 ?side2 A8.out).mono ?_); (case side1 => exact zC (Kd.R_reads' HO269.out).2.2); (case side2 => exact (Kd.R_reads' HO269.out).2.1); rintro e w12 ⟨v271, rfl, ho0, hb⟩; refine ⟨_, rfl, ?_⟩; have n_ := zI (aM (Kd.R_elder' (zR HO269) (Kd.R_base ho0) hb)) (zI (aM (Kd.R_lower (Kd.R_new' ho0 (Kd.R_lt (zR HO269))) (below_size zB))) (aM (below_step zB hb))); clear HO269 HB; obtain ⟨HO269, HO272, HB⟩ := n_; (try clear hb); (try clear ho0); obtain ⟨Ao13, co13, rfl⟩ := Kd.R_slice HO272.out) | ((with_reducible refine gate_callee (f := 44) rfl ?_); refine goesL_ (some 15) rfl rfl Try.func44 zK rfl #[.slice Ao13 t270.length co13] rfl zM ?_; (with_reducible refine (compose_All.calls k _ _ t270 t273 _ ?side1 ?side2 A9.out).mono ?_); (case side1 => exact zC (Kd.R_reads' HO272.out).2.2); (case side2 => exact (Kd.R_reads' HO272.out).2.1); rintro e w14 ⟨v274, rfl, ho0, hb⟩; refine ⟨_, rfl, ?_⟩; have n_ := zI (aM (Kd.R_elder' (zR HO269) (Kd.R_base ho0) hb)) (zI (aM (Kd.R_elder' (zR HO272) (Kd.R_base ho0) hb)) (zI (aM (Kd.R_lower (Kd.R_new' (Kd.R_new' ho0 (Kd.R_lt (zR HO269))) (Kd.R_lt (zR HO272))) (below_size zB))) (aM (below_step zB hb)))); clear HO269 HO272 HB; obtain ⟨HO269, HO272, HO275, HB⟩ := n_; (try clear hb); (try clear ho0)))
  go_ret
  exact ⟨_, zE, by (with_reducible repeat (first | apply Kd.R_alloc | apply Kd.R_drewN | apply Kd.R_drew)); exact Kd.R_mono HO275.out (fun _ hk => trivial), zB⟩

/-! ### slices_Index_int_int: function 85 -/
def slices_Index_int_int.l0 : Nat → List Int → Int → Int → Int → Option (Int)
 | 0, _, _, _, _ => none
 | k + 1, x0, x1, x7, x8 => if x8 < x7 then (if 0 ≤ x8 then (if x8 < (x0.length : Int) then (if x1 = (rd x0 x8) then (some x8) else (slices_Index_int_int.l0 k x0 x1 x7 (wrap64 (x8 + 1)))) else (none)) else (none)) else (some (-1))
def slices_Index_int_int.f (k : Nat) (l0 : List Int) (a1 : Int) : Option (Int) := slices_Index_int_int.l0 k l0 a1 (l0.length : Int) 0
theorem slices_Index_int_int.mono_l : ∀ k, (∀ y0 y1 y2 y3, LeO (slices_Index_int_int.l0 k y0 y1 y2 y3) (slices_Index_int_int.l0 (k + 1) y0 y1 y2 y3))
 | 0 => fun _ _ _ _ r h => by simp [slices_Index_int_int.l0] at h
 | k + 1 => by
  have ih0 := slices_Index_int_int.mono_l k
  ·intro y0 y1 y2 y3
   unfold slices_Index_int_int.l0
   repeat' first
   | (with_reducible exact ih0 _ _ _ _)
   | (with_reducible exact LeO.refl _)
   | exact ih0 _ _ _ _
   | exact LeO.none _
   | refine LeO.ite ?_ ?_
   | refine LeO.bind ?_ (fun _ => ?_)
theorem slices_Index_int_int.mono : ∀ a0 a1 k, LeO (slices_Index_int_int.f k a0 a1) (slices_Index_int_int.f (k + 1) a0 a1) := by
 intro a0 a1 k
 have ih0 := slices_Index_int_int.mono_l k
 unfold slices_Index_int_int.f
 repeat' first
   | (with_reducible exact ih0 _ _ _ _)
   | (with_reducible exact LeO.refl _)
   | exact ih0 _ _ _ _
   | exact LeO.none _
   | refine LeO.ite ?_ ?_
   | refine LeO.bind ?_ (fun _ => ?_)
set_option maxHeartbeats 8000000 in
set_option maxRecDepth 100000 in
theorem slices_Index_int_int.calls (k : Nat) (A0 : Option Addr) (c0 : Nat) (l0 : List Int) (a1 : Int) (r : Int) (w : World) (hr0 : Kd.C (Kd.int .i64) w A0 l0.length l0) (hc0 : l0.length ≤ c0) (h : slices_Index_int_int.f k l0 a1 = some r) :
  Calls Try.prog 85 #[.slice A0 l0.length c0, .int .i64 a1] w fun e w' => e = .returned (.int .i64 r) ∧ Drawn0 w w' := by
 have HR0 := aM hr0
 have HC0 := aM hc0
 clear hr0 hc0
 have H := h
 clear h
 unfold slices_Index_int_int.f at H
 have H' := aM H
 clear H
 go_enter Try.func85, Try.ntmps85
 go_wp2
 go_loopg [8] k (fun kq v8 w' => ∃ (x8_1 : Int), v8 = .int .i64 x8_1 ∧ Aside0 (slices_Index_int_int.l0 kq l0 a1 (l0.length : Int) x8_1 = some r) ∧ Aside0 (kq ≤ k) ∧ Drawn0 w w')
 case atStart => exact ⟨(0), zP, H', ⟨Nat.le_refl _⟩, zD⟩
 case round =>
  clear H'
  try clear p2
  obtain ⟨x8_1, rfl, HA, HK1, ⟨m1, rfl⟩⟩ := hrel
  cases gk with
  | zero => exact absurd HA.out (by simp [slices_Index_int_int.l0])
  | succ k1 =>
   have H := HA.out
   clear HA
   simp only [slices_Index_int_int.l0] at H
   by_cases c3 : x8_1 < (l0.length : Int)
   ·rw [if_pos c3] at H
    have c3b0 : decide (x8_1 < (l0.length : Int)) = true := decide_eq_true c3
    clear c3
    by_cases c4 : 0 ≤ x8_1
    ·rw [if_pos c4] at H
     have c4b0 : decide (0 ≤ x8_1) = true := decide_eq_true c4
     clear c4
     by_cases c5 : x8_1 < (l0.length : Int)
     ·rw [if_pos c5] at H
      have c5b0 : decide (x8_1 < (l0.length : Int)) = true := decide_eq_true c5
      clear c5
      by_cases c6 : a1 = (rd l0 x8_1)
      ·rw [if_pos c6] at H
       have c6b0 : (a1 == (rd l0 x8_1)) = true := beq_iff_eq.mpr c6
       have c6b1 : (a1 != (rd l0 x8_1)) = false := bne_eq_false_iff_eq.mpr c6
       clear c6
       obtain rfl := sI H
       have p276 : 0 ≤ (x8_1 : Int) := zoA
       have q276 : x8_1 < (l0.length : Int) := zoA
       obtain ⟨ad276, e276, hx276_0⟩ := Kd.at_int HR0.out x8_1 p276 q276
       cases e276
       replace p276 := eq_true p276
       replace q276 := eq_true q276
       go_wp2
       go_ret
       exact ⟨zP, zD⟩
      ·rw [if_neg c6] at H
       have c6b0 : (a1 == (rd l0 x8_1)) = false := beq_eq_false_iff_ne.mpr c6
       have c6b1 : (a1 != (rd l0 x8_1)) = true := bne_iff_ne.mpr c6
       have H' := aM H
       clear H
       have p276 : 0 ≤ (x8_1 : Int) := zoA
       have q276 : x8_1 < (l0.length : Int) := zoA
       obtain ⟨ad276, e276, hx276_0⟩ := Kd.at_int HR0.out x8_1 p276 q276
       cases e276
       replace p276 := eq_true p276
       replace q276 := eq_true q276
       go_wp2
       go_roundg k1
       case measure => have := HK1.out; omega
       case rel => exact ⟨(wrap64 (x8_1 + 1)), zP, H', ⟨by have := HK1.out; omega⟩, zD⟩
     ·rw [if_neg c5] at H
      exact absurd H (by simp)
    ·rw [if_neg c4] at H
     exact absurd H (by simp)
   ·rw [if_neg c3] at H
    have c3b0 : decide (x8_1 < (l0.length : Int)) = false := decide_eq_false c3
    clear c3
    obtain rfl := sI H
    go_wp2
    go_ret
    exact ⟨zP, zD⟩

/-! ### slices_Contains_int_int: function 69 -/
def slices_Contains_int_int.f (k : Nat) (l0 : List Int) (a1 : Int) : Option (Bool) := (slices_Index_int_int.f k l0 a1).bind fun t277 => (some (decide (t277 ≥ 0)))
theorem slices_Contains_int_int.mono : ∀ a0 a1 k, LeO (slices_Contains_int_int.f k a0 a1) (slices_Contains_int_int.f (k + 1) a0 a1) := by
 intro a0 a1 k
 unfold slices_Contains_int_int.f
 repeat' first
   | (with_reducible exact slices_Index_int_int.mono _ _ _)
   | (with_reducible exact LeO.refl _)
   | exact slices_Index_int_int.mono _ _ _
   | exact LeO.none _
   | refine LeO.ite ?_ ?_
   | refine LeO.bind ?_ (fun _ => ?_)
set_option maxHeartbeats 8000000 in
set_option maxRecDepth 100000 in
theorem slices_Contains_int_int.calls (k : Nat) (A0 : Option Addr) (c0 : Nat) (l0 : List Int) (a1 : Int) (r : Bool) (w : World) (hr0 : Kd.C (Kd.int .i64) w A0 l0.length l0) (hc0 : l0.length ≤ c0) (h : slices_Contains_int_int.f k l0 a1 = some r) :
  Calls Try.prog 69 #[.slice A0 l0.length c0, .int .i64 a1] w fun e w' => e = .returned (.bool r) ∧ Drawn0 w w' := by
 have HR0 := aM hr0
 have HC0 := aM hc0
 clear hr0 hc0
 have H := h
 clear h
 unfold slices_Contains_int_int.f at H
 obtain ⟨t277, A3, H⟩ := zO H
 obtain rfl := sI H
 go_enter Try.func69, Try.ntmps69
 go_wp2_with (first | ((with_reducible refine gate_callee (f := 85) rfl ?_); refine goesL_ (some 7) rfl rfl Try.func85 zK rfl #[.slice A0 l0.length c0, .int .i64 a1] rfl zM ?_; (with_reducible refine (slices_Index_int_int.calls k _ _ l0 a1 t277 _ ?side1 ?side2 A3.out).mono ?_); (case side1 => exact zC HR0.out); (case side2 => exact HC0.out); rintro e w' ⟨rfl, ⟨nd, rfl⟩⟩; refine ⟨_, rfl, ?_⟩))
 go_ret
 exact ⟨zP, zD⟩

/-! ### chars_letter: function 86, by hand (chars.letter.tpl) -/
def chars_letter.f (a0 : Int) : Option (Bool) := some (((((((((((((((((((((((((((((((decide (65 ≤ a0) && decide (a0 ≤ 90)) || (decide (97 ≤ a0) && decide (a0 ≤ 122))) || (a0 == 170)) || (a0 == 181)) || (a0 == 186)) || (decide (192 ≤ a0) && decide (a0 ≤ 214))) || (decide (216 ≤ a0) && decide (a0 ≤ 246))) || (decide (248 ≤ a0) && decide (a0 ≤ 383))) || (a0 == 700)) || (a0 == 902)) || (decide (904 ≤ a0) && decide (a0 ≤ 906))) || (a0 == 908)) || (decide (910 ≤ a0) && decide (a0 ≤ 929))) || (decide (931 ≤ a0) && decide (a0 ≤ 974))) || (a0 == 1025)) || (decide (1040 ≤ a0) && decide (a0 ≤ 1103))) || (a0 == 1105)) || (decide (1488 ≤ a0) && decide (a0 ≤ 1514))) || (decide (4352 ≤ a0) && decide (a0 ≤ 4370))) || (decide (4449 ≤ a0) && decide (a0 ≤ 4469))) || (decide (4520 ≤ a0) && decide (a0 ≤ 4546))) || (a0 == 8486)) || (decide (8490 ≤ a0) && decide (a0 ≤ 8491))) || (decide (8544 ≤ a0) && decide (a0 ≤ 8555))) || (decide (8560 ≤ a0) && decide (a0 ≤ 8571))) || (decide (12353 ≤ a0) && decide (a0 ≤ 12436))) || (decide (19968 ≤ a0) && decide (a0 ≤ 20223))) || (decide (44032 ≤ a0) && decide (a0 ≤ 55203))) || (decide (64256 ≤ a0) && decide (a0 ≤ 64261))) || (decide (65313 ≤ a0) && decide (a0 ≤ 65338))) || (decide (65345 ≤ a0) && decide (a0 ≤ 65370)))
set_option maxHeartbeats 8000000 in
set_option maxRecDepth 100000 in
theorem chars_letter.calls (a0 : Int) (r : Bool) (w : World) (h : chars_letter.f a0 = some r) :
    Calls Try.prog 86 #[.int .i32 a0] w fun e w' => e = .returned (.bool r) ∧ Drawn0 w w' := by
  obtain rfl := Option.some.inj h
  clear h
  go_enter Try.func86, Try.ntmps86
  refine wp_seq ?_
  refine wp_region_lit ?_
  refine wpList_step fun K0 hK0 => ?_
  refine hK0 _ _ ?_
  refine wpList_nil ?_
  show Code.wp _ _ _ _ _
  refine wp_seq ?_
  refine wp_region_lit ?_
  refine cl_first (N := 213) (j := 2) (r := a0) rfl rfl rfl (by decide) (by decide) ?_
  intro tm hc
  refine cl_range hc (i := 6) (j := 9) rfl rfl (by decide) (by decide) (by decide) ?_
  clear hc tm
  intro tm hc
  refine cl_one Try.underlying21 hc (i := 14) rfl (by decide) (by decide) (by decide) ?_
  clear hc tm
  intro tm hc
  refine cl_one Try.underlying21 hc (i := 18) rfl (by decide) (by decide) (by decide) ?_
  clear hc tm
  intro tm hc
  refine cl_one Try.underlying21 hc (i := 22) rfl (by decide) (by decide) (by decide) ?_
  clear hc tm
  intro tm hc
  refine cl_range hc (i := 26) (j := 29) rfl rfl (by decide) (by decide) (by decide) ?_
  clear hc tm
  intro tm hc
  refine cl_range hc (i := 34) (j := 37) rfl rfl (by decide) (by decide) (by decide) ?_
  clear hc tm
  intro tm hc
  refine cl_range hc (i := 42) (j := 45) rfl rfl (by decide) (by decide) (by decide) ?_
  clear hc tm
  intro tm hc
  refine cl_one Try.underlying21 hc (i := 50) rfl (by decide) (by decide) (by decide) ?_
  clear hc tm
  intro tm hc
  refine cl_one Try.underlying21 hc (i := 54) rfl (by decide) (by decide) (by decide) ?_
  clear hc tm
  intro tm hc
  refine cl_range hc (i := 58) (j := 61) rfl rfl (by decide) (by decide) (by decide) ?_
  clear hc tm
  intro tm hc
  refine cl_one Try.underlying21 hc (i := 66) rfl (by decide) (by decide) (by decide) ?_
  clear hc tm
  intro tm hc
  refine cl_range hc (i := 70) (j := 73) rfl rfl (by decide) (by decide) (by decide) ?_
  clear hc tm
  intro tm hc
  refine cl_range hc (i := 78) (j := 81) rfl rfl (by decide) (by decide) (by decide) ?_
  clear hc tm
  intro tm hc
  refine cl_one Try.underlying21 hc (i := 86) rfl (by decide) (by decide) (by decide) ?_
  clear hc tm
  intro tm hc
  refine cl_range hc (i := 90) (j := 93) rfl rfl (by decide) (by decide) (by decide) ?_
  clear hc tm
  intro tm hc
  refine cl_one Try.underlying21 hc (i := 98) rfl (by decide) (by decide) (by decide) ?_
  clear hc tm
  intro tm hc
  refine cl_range hc (i := 102) (j := 105) rfl rfl (by decide) (by decide) (by decide) ?_
  clear hc tm
  intro tm hc
  refine cl_range hc (i := 110) (j := 113) rfl rfl (by decide) (by decide) (by decide) ?_
  clear hc tm
  intro tm hc
  refine cl_range hc (i := 118) (j := 121) rfl rfl (by decide) (by decide) (by decide) ?_
  clear hc tm
  intro tm hc
  refine cl_range hc (i := 126) (j := 129) rfl rfl (by decide) (by decide) (by decide) ?_
  clear hc tm
  intro tm hc
  refine cl_one Try.underlying21 hc (i := 134) rfl (by decide) (by decide) (by decide) ?_
  clear hc tm
  intro tm hc
  refine cl_range hc (i := 138) (j := 141) rfl rfl (by decide) (by decide) (by decide) ?_
  clear hc tm
  intro tm hc
  refine cl_range hc (i := 146) (j := 149) rfl rfl (by decide) (by decide) (by decide) ?_
  clear hc tm
  intro tm hc
  refine cl_range hc (i := 154) (j := 157) rfl rfl (by decide) (by decide) (by decide) ?_
  clear hc tm
  intro tm hc
  refine cl_range hc (i := 162) (j := 165) rfl rfl (by decide) (by decide) (by decide) ?_
  clear hc tm
  intro tm hc
  refine cl_range hc (i := 170) (j := 173) rfl rfl (by decide) (by decide) (by decide) ?_
  clear hc tm
  intro tm hc
  refine cl_range hc (i := 178) (j := 181) rfl rfl (by decide) (by decide) (by decide) ?_
  clear hc tm
  intro tm hc
  refine cl_range hc (i := 186) (j := 189) rfl rfl (by decide) (by decide) (by decide) ?_
  clear hc tm
  intro tm hc
  refine cl_range hc (i := 194) (j := 197) rfl rfl (by decide) (by decide) (by decide) ?_
  clear hc tm
  intro tm hc
  refine cl_range hc (i := 202) (j := 205) rfl rfl (by decide) (by decide) (by decide) ?_
  clear hc tm
  intro tm hc
  refine st_assign ?_
  rw [hc.acc]
  refine wpList_nil ?_
  show Code.wp _ _ _ _ _
  refine wp_ret ?_
  refine bodyPost_ret (results_tmp rfl _ _ _) rfl ?_
  refine ⟨?_, Drawn0.refl _⟩
  show Ending.returned ((tm.setIfInBounds 2 _).getD 2 undef) = _
  rw [getD_set_same _ _ _ (by rw [hc.size]; decide)]

end Go.Proofs.Ytncppcjobimilaa.P
