-- Printed by wip/mk.py (this session's driver over the kit's print) and from wip/manual.
import Derived.Test.YtbffakgmlgimeaaP0
import Derived.Test.YtbffakgmlgimeaaP1
import Derived.Test.YtbffakgmlgimeaaP5
import Derived.Test.YtbffakgmlgimeaaP9
import Derived.Test.YtbffakgmlgimeaaP10
namespace Go.Proofs.Ytbffakgmlgimeaa.P
open Go.RowKit Go.Proofs.YtbffakgmlgimeaaW.PrintWords Go.Proofs.YtbffakgmlgimeaaW.PrintLast Go.Proofs.YtbffakgmlgimeaaW.PrintMore
attribute [local go_sem] max2_int min2_int max_two min_two max_three min_three max_four min_four   -- for this text's walks alone
set_option linter.unusedVariables false
set_option linter.unusedSimpArgs false

/-! ### prep_Steps: function 16 -/
def prep_Steps.j0 : Nat → Int → List Int → Option (List Int × Int)
 | 0, _, _ => none
 | k + 1, x0, x6 => (nfkc_Runes.f k true x6).bind fun t403 => ((guard_Check.f k t403).bind fun bt406 => (if bt406.2 = 0 then (if x0 = 3 then ((blanks_Numeric.f k t403).bind fun t408 => ((nfkc_Runes.f k true t408).bind fun t411 => (some (t411, 0)))) else (if x0 = 4 then ((blanks_Phone.f k t403).bind fun t414 => ((nfkc_Runes.f k true t414).bind fun t417 => (some (t417, 0)))) else ((blanks_Value.f k t403).bind fun t420 => (some (t420, 0))))) else (some (([] : List Int), bt406.2))))
def prep_Steps.f (k : Nat) (a0 : Int) (l1 : List Int) : Option (List Int × Int) := (prep_known.f a0).bind fun t396 => (if t396 = true then (if a0 = 2 then ((fold_Map.f k true l1).bind fun t397 => (prep_Steps.j0 k a0 t397)) else ((fold_Map.f k (a0 == 4) l1).bind fun t400 => (prep_Steps.j0 k a0 t400))) else (some (([] : List Int), 2)))
theorem prep_Steps.mono_l : ∀ k, (∀ y0 y1, LeO (prep_Steps.j0 k y0 y1) (prep_Steps.j0 (k + 1) y0 y1))
 | 0 => fun _ _ r h => by simp [prep_Steps.j0] at h
 | k + 1 => by
  have ih0 := prep_Steps.mono_l k
  ·intro y0 y1
   unfold prep_Steps.j0
   repeat' first
   | (with_reducible exact ih0 _ _)
   | (with_reducible exact blanks_Numeric.mono _ _)
   | (with_reducible exact blanks_Phone.mono _ _)
   | (with_reducible exact blanks_Value.mono _ _)
   | (with_reducible exact fold_Map.mono _ _ _)
   | (with_reducible exact guard_Check.mono _ _)
   | (with_reducible exact nfkc_Runes.mono _ _ _)
   | (with_reducible exact LeO.refl _)
   | exact ih0 _ _
   | exact blanks_Numeric.mono _ _
   | exact blanks_Phone.mono _ _
   | exact blanks_Value.mono _ _
   | exact fold_Map.mono _ _ _
   | exact guard_Check.mono _ _
   | exact nfkc_Runes.mono _ _ _
   | exact LeO.none _
   | refine LeO.ite ?_ ?_
   | refine LeO.bind ?_ (fun _ => ?_)
theorem prep_Steps.mono : ∀ a0 a1 k, LeO (prep_Steps.f k a0 a1) (prep_Steps.f (k + 1) a0 a1) := by
 intro a0 a1 k
 have ih0 := prep_Steps.mono_l k
 unfold prep_Steps.f
 repeat' first
   | (with_reducible exact ih0 _ _)
   | (with_reducible exact blanks_Numeric.mono _ _)
   | (with_reducible exact blanks_Phone.mono _ _)
   | (with_reducible exact blanks_Value.mono _ _)
   | (with_reducible exact fold_Map.mono _ _ _)
   | (with_reducible exact guard_Check.mono _ _)
   | (with_reducible exact nfkc_Runes.mono _ _ _)
   | (with_reducible exact LeO.refl _)
   | exact ih0 _ _
   | exact blanks_Numeric.mono _ _
   | exact blanks_Phone.mono _ _
   | exact blanks_Value.mono _ _
   | exact fold_Map.mono _ _ _
   | exact guard_Check.mono _ _
   | exact nfkc_Runes.mono _ _ _
   | exact LeO.none _
   | refine LeO.ite ?_ ?_
   | refine LeO.bind ?_ (fun _ => ?_)
set_option maxHeartbeats 8000000 in
set_option maxRecDepth 100000 in
theorem prep_Steps.calls (k : Nat) (a0 : Int) (A1 : Option Addr) (c1 : Nat) (l1 : List Int) (r1 : List Int) (r2 : Int) (w : World) (hr1 : Kd.C (Kd.int .i32) w A1 l1.length l1) (hc1 : l1.length ≤ c1) (h : prep_Steps.f k a0 l1 = some (r1, r2)) :
  Calls Try.prog 16 #[.int .i64 a0, .slice A1 l1.length c1] w fun e w' => ∃ v0_ : Value, e = .returned (.tuple #[v0_, .int .i64 r2]) ∧ Kd.R (Kd.int .i32) 21 w' w.heap.size (fun _ => True) v0_ r1 ∧ Below w.heap.size w w' := by
 have HR1 := aM hr1
 have HC1 := aM hc1
 clear hr1 hc1
 have HB := aM (Below.refl w.heap.size w)
 have H := h
 clear h
 unfold prep_Steps.f at H
 obtain ⟨t396, A3, H⟩ := zO H
 by_cases c4 : t396 = true
 ·subst c4
  rw [if_pos rfl] at H
  have HC5 := aM H
  clear H
  go_enter Try.func16, Try.ntmps16
  go_upto_region 3 with (first | ((with_reducible refine gate_callee (f := 14) rfl ?_); refine goesL_ (some 10) rfl rfl Try.func14 zK rfl #[.int .i64 a0] rfl zM ?_; (with_reducible refine (prep_known.calls a0 true _ A3.out).mono ?_); rintro e w' ⟨rfl, ⟨nd, rfl⟩⟩; refine ⟨_, rfl, ?_⟩))
  (try simp only [Act.put, List.setIfInBounds_toArray, List.set_cons_zero, List.set_cons_succ])
  go_cut [6] (fun v6 wc => ∃ (kq : Nat) (x6_4 : List Int), Aside0 (prep_Steps.j0 kq a0 x6_4 = some (r1, r2)) ∧ Aside0 (kq ≤ k) ∧ Aside0 (Kd.R (Kd.int .i32) 21 wc w.heap.size (fun _ => True) v6 x6_4) ∧ Aside0 (Below w.heap.size w wc))
  case first =>
   have H := HC5.out
   clear HC5
   by_cases c6 : a0 = 2
   ·rw [if_pos c6] at H
    have c6b0 : (a0 == 2) = true := beq_iff_eq.mpr c6
    have c6b1 : (a0 != 2) = false := bne_eq_false_iff_eq.mpr c6
    clear c6
    (first | rw [c6b0] | (simp only [i64_w, i32_w]; rw [c6b0]) | skip)
    obtain ⟨t397, A7, H⟩ := zO H
    have H' := aM H
    clear H
    go_wp2_with (first | ((with_reducible refine gate_callee (f := 22) rfl ?_); refine goesL_ (some 19) rfl rfl Try.func22 zK rfl #[.bool true, .slice A1 l1.length c1] rfl zM ?_; (with_reducible refine (fold_Map.calls k true _ _ l1 t397 _ ?side1 ?side2 A7.out).mono ?_); (case side1 => exact zCB HR1); (case side2 => exact HC1.out); rintro e w8 ⟨v398, rfl, ho0, hb⟩; (try clear A7); refine ⟨_, rfl, ?_⟩; have n_ := zI (aM (Kd.R_lower ho0 (below_size zB))) (aM (below_step zB hb)); clear HB; obtain ⟨HO399, HB⟩ := n_; (try clear hb); (try clear ho0)))
    go_meet
    case rel => exact ⟨_, (t397), H', ⟨by first | omega | exact Nat.le_refl _⟩, ⟨zR HO399⟩, ⟨zB⟩⟩
   ·rw [if_neg c6] at H
    have c6b0 : (a0 == 2) = false := beq_eq_false_iff_ne.mpr c6
    have c6b1 : (a0 != 2) = true := bne_iff_ne.mpr c6
    (first | rw [c6b0] | (simp only [i64_w, i32_w]; rw [c6b0]) | skip)
    obtain ⟨t400, A9, H⟩ := zO H
    have H' := aM H
    clear H
    go_wp2_with (first | ((with_reducible refine gate_callee (f := 22) rfl ?_); refine goesL_ (some 19) rfl rfl Try.func22 zK rfl #[.bool (a0 == 4), .slice A1 l1.length c1] rfl zM ?_; (with_reducible refine (fold_Map.calls k (a0 == 4) _ _ l1 t400 _ ?side1 ?side2 A9.out).mono ?_); (case side1 => exact zCB HR1); (case side2 => exact HC1.out); rintro e w10 ⟨v401, rfl, ho0, hb⟩; (try clear A9); refine ⟨_, rfl, ?_⟩; have n_ := zI (aM (Kd.R_lower ho0 (below_size zB))) (aM (below_step zB hb)); clear HB; obtain ⟨HO402, HB⟩ := n_; (try clear hb); (try clear ho0)))
    go_meet
    case rel => exact ⟨_, (t400), H', ⟨by first | omega | exact Nat.le_refl _⟩, ⟨zR HO402⟩, ⟨zB⟩⟩
  case rest =>
   clear HC5
   try clear c1
   try clear c2
   try clear p2
   try clear c4
   try clear c6
   try clear c6b0
   try clear c6b1
   obtain ⟨kq, x6_4, HA, HJ4, HO_6, HB⟩ := hcut
   cases kq with
   | zero => exact absurd HA.out (by simp [prep_Steps.j0])
   | succ kj4 =>
    have H := HA.out
    clear HA
    simp only [prep_Steps.j0] at H
    obtain ⟨t403, A11, H⟩ := zO H
    obtain ⟨⟨t406, t407⟩, A12, H⟩ := zO H
    try dsimp only at H
    by_cases c13 : t407 = 0
    ·rw [if_pos c13] at H
     have c13b0 : (t407 == 0) = true := beq_iff_eq.mpr c13
     have c13b1 : (t407 != 0) = false := bne_eq_false_iff_eq.mpr c13
     clear c13
     by_cases c14 : a0 = 3
     ·rw [if_pos c14] at H
      have c14b0 : (a0 == 3) = true := beq_iff_eq.mpr c14
      have c14b1 : (a0 != 3) = false := bne_eq_false_iff_eq.mpr c14
      clear c14
      obtain ⟨t408, A15, H⟩ := zO H
      obtain ⟨t411, A16, H⟩ := zO H
      simp only [Option.some.injEq, Prod.mk.injEq] at H
      obtain ⟨rfl, rfl⟩ := H
      obtain ⟨Ao17, co17, eo17⟩ := Kd.R_slice HO_6.out
      subst eo17
      go_wp2_with (first | ((with_reducible refine gate_callee (f := 20) rfl ?_); refine goesL_ (some 21) rfl rfl Try.func20 zK rfl #[.bool true, .slice Ao17 x6_4.length co17] rfl zM ?_; (with_reducible refine (nfkc_Runes.calls kj4 true _ _ x6_4 t403 _ ?side1 ?side2 A11.out).mono ?_); (case side1 => exact zC (Kd.R_reads' HO_6.out).2.2); (case side2 => exact (Kd.R_reads' HO_6.out).2.1); rintro e w18 ⟨v404, rfl, ho0, hb⟩; (try clear A11); refine ⟨_, rfl, ?_⟩; have n_ := zI (aM (Kd.R_elder' (zR HO_6) (Kd.R_base ho0) hb)) (zI (aM (Kd.R_lower (Kd.R_new' ho0 (Kd.R_lt (zR HO_6))) (below_size zB))) (aM (below_step zB hb))); clear HO_6 HB; obtain ⟨HO_6, HO405, HB⟩ := n_; (try clear hb); (try clear ho0); obtain ⟨Ao19, co19, rfl⟩ := Kd.R_slice HO405.out) | ((with_reducible refine gate_callee (f := 19) rfl ?_); refine goesL_ (some 24) rfl rfl Try.func19 zK rfl #[.slice Ao19 t403.length co19] rfl zM ?_; (with_reducible refine (guard_Check.calls kj4 _ _ t403 t406 t407 _ ?side1 ?side2 A12.out).mono ?_); (case side1 => exact zC (Kd.R_reads' HO405.out).2.2); (case side2 => exact (Kd.R_reads' HO405.out).2.1); rintro e w20 ⟨rfl, hb⟩; refine ⟨_, rfl, ?_⟩; have n_ := zI (aM (Kd.R_below (zR HO_6) hb)) (zI (aM (Kd.R_below (zR HO405) hb)) (aM (below_step zB hb))); clear HO_6 HO405 HB; obtain ⟨HO_6, HO405, HB⟩ := n_; (try clear hb)) | ((with_reducible refine gate_callee (f := 23) rfl ?_); refine goesL_ (some 36) rfl rfl Try.func23 zK rfl #[.slice Ao19 t403.length co19] rfl zM ?_; (with_reducible refine (blanks_Numeric.calls kj4 _ _ t403 t408 _ ?side1 ?side2 A15.out).mono ?_); (case side1 => exact zC (Kd.R_reads' HO405.out).2.2); (case side2 => exact (Kd.R_reads' HO405.out).2.1); rintro e w21 ⟨v409, rfl, ho0, hb⟩; refine ⟨_, rfl, ?_⟩; have n_ := zI (aM (Kd.R_elder' (zR HO_6) (Kd.R_base ho0) hb)) (zI (aM (Kd.R_elder' (zR HO405) (Kd.R_base ho0) hb)) (zI (aM (Kd.R_lower (Kd.R_new' (Kd.R_new' ho0 (Kd.R_lt (zR HO_6))) (Kd.R_lt (zR HO405))) (below_size zB))) (aM (below_step zB hb)))); clear HO_6 HO405 HB; obtain ⟨HO_6, HO405, HO410, HB⟩ := n_; (try clear hb); (try clear ho0); obtain ⟨Ao22, co22, rfl⟩ := Kd.R_slice HO410.out) | ((with_reducible refine gate_callee (f := 20) rfl ?_); refine goesL_ (some 37) rfl rfl Try.func20 zK rfl #[.bool true, .slice Ao22 t408.length co22] rfl zM ?_; (with_reducible refine (nfkc_Runes.calls kj4 true _ _ t408 t411 _ ?side1 ?side2 A16.out).mono ?_); (case side1 => exact zC (Kd.R_reads' HO410.out).2.2); (case side2 => exact (Kd.R_reads' HO410.out).2.1); rintro e w23 ⟨v412, rfl, ho0, hb⟩; (try clear A16); refine ⟨_, rfl, ?_⟩; have n_ := zI (aM (Kd.R_elder' (zR HO_6) (Kd.R_base ho0) hb)) (zI (aM (Kd.R_elder' (zR HO405) (Kd.R_base ho0) hb)) (zI (aM (Kd.R_elder' (zR HO410) (Kd.R_base ho0) hb)) (zI (aM (Kd.R_lower (Kd.R_new' (Kd.R_new' (Kd.R_new' ho0 (Kd.R_lt (zR HO_6))) (Kd.R_lt (zR HO405))) (Kd.R_lt (zR HO410))) (below_size zB))) (aM (below_step zB hb))))); clear HO_6 HO405 HO410 HB; obtain ⟨HO_6, HO405, HO410, HO413, HB⟩ := n_; (try clear hb); (try clear ho0)))
      go_ret2
      exact ⟨_, zE, by (with_reducible repeat (first | apply Kd.R_alloc | apply Kd.R_drewN | apply Kd.R_drew)); exact Kd.R_mono HO413.out (fun _ hk => trivial), zB⟩
     ·rw [if_neg c14] at H
      have c14b0 : (a0 == 3) = false := beq_eq_false_iff_ne.mpr c14
      have c14b1 : (a0 != 3) = true := bne_iff_ne.mpr c14
      by_cases c24 : a0 = 4
      ·rw [if_pos c24] at H
       have c24b0 : (a0 == 4) = true := beq_iff_eq.mpr c24
       have c24b1 : (a0 != 4) = false := bne_eq_false_iff_eq.mpr c24
       clear c24
       obtain ⟨t414, A25, H⟩ := zO H
       obtain ⟨t417, A26, H⟩ := zO H
       simp only [Option.some.injEq, Prod.mk.injEq] at H
       obtain ⟨rfl, rfl⟩ := H
       obtain ⟨Ao27, co27, eo27⟩ := Kd.R_slice HO_6.out
       subst eo27
       go_wp2_with (first | ((with_reducible refine gate_callee (f := 20) rfl ?_); refine goesL_ (some 21) rfl rfl Try.func20 zK rfl #[.bool true, .slice Ao27 x6_4.length co27] rfl zM ?_; (with_reducible refine (nfkc_Runes.calls kj4 true _ _ x6_4 t403 _ ?side1 ?side2 A11.out).mono ?_); (case side1 => exact zC (Kd.R_reads' HO_6.out).2.2); (case side2 => exact (Kd.R_reads' HO_6.out).2.1); rintro e w28 ⟨v404, rfl, ho0, hb⟩; (try clear A11); refine ⟨_, rfl, ?_⟩; have n_ := zI (aM (Kd.R_elder' (zR HO_6) (Kd.R_base ho0) hb)) (zI (aM (Kd.R_lower (Kd.R_new' ho0 (Kd.R_lt (zR HO_6))) (below_size zB))) (aM (below_step zB hb))); clear HO_6 HB; obtain ⟨HO_6, HO405, HB⟩ := n_; (try clear hb); (try clear ho0); obtain ⟨Ao29, co29, rfl⟩ := Kd.R_slice HO405.out) | ((with_reducible refine gate_callee (f := 19) rfl ?_); refine goesL_ (some 24) rfl rfl Try.func19 zK rfl #[.slice Ao29 t403.length co29] rfl zM ?_; (with_reducible refine (guard_Check.calls kj4 _ _ t403 t406 t407 _ ?side1 ?side2 A12.out).mono ?_); (case side1 => exact zC (Kd.R_reads' HO405.out).2.2); (case side2 => exact (Kd.R_reads' HO405.out).2.1); rintro e w30 ⟨rfl, hb⟩; refine ⟨_, rfl, ?_⟩; have n_ := zI (aM (Kd.R_below (zR HO_6) hb)) (zI (aM (Kd.R_below (zR HO405) hb)) (aM (below_step zB hb))); clear HO_6 HO405 HB; obtain ⟨HO_6, HO405, HB⟩ := n_; (try clear hb)) | ((with_reducible refine gate_callee (f := 24) rfl ?_); refine goesL_ (some 41) rfl rfl Try.func24 zK rfl #[.slice Ao29 t403.length co29] rfl zM ?_; (with_reducible refine (blanks_Phone.calls kj4 _ _ t403 t414 _ ?side1 ?side2 A25.out).mono ?_); (case side1 => exact zC (Kd.R_reads' HO405.out).2.2); (case side2 => exact (Kd.R_reads' HO405.out).2.1); rintro e w31 ⟨v415, rfl, ho0, hb⟩; refine ⟨_, rfl, ?_⟩; have n_ := zI (aM (Kd.R_elder' (zR HO_6) (Kd.R_base ho0) hb)) (zI (aM (Kd.R_elder' (zR HO405) (Kd.R_base ho0) hb)) (zI (aM (Kd.R_lower (Kd.R_new' (Kd.R_new' ho0 (Kd.R_lt (zR HO_6))) (Kd.R_lt (zR HO405))) (below_size zB))) (aM (below_step zB hb)))); clear HO_6 HO405 HB; obtain ⟨HO_6, HO405, HO416, HB⟩ := n_; (try clear hb); (try clear ho0); obtain ⟨Ao32, co32, rfl⟩ := Kd.R_slice HO416.out) | ((with_reducible refine gate_callee (f := 20) rfl ?_); refine goesL_ (some 42) rfl rfl Try.func20 zK rfl #[.bool true, .slice Ao32 t414.length co32] rfl zM ?_; (with_reducible refine (nfkc_Runes.calls kj4 true _ _ t414 t417 _ ?side1 ?side2 A26.out).mono ?_); (case side1 => exact zC (Kd.R_reads' HO416.out).2.2); (case side2 => exact (Kd.R_reads' HO416.out).2.1); rintro e w33 ⟨v418, rfl, ho0, hb⟩; (try clear A26); refine ⟨_, rfl, ?_⟩; have n_ := zI (aM (Kd.R_elder' (zR HO_6) (Kd.R_base ho0) hb)) (zI (aM (Kd.R_elder' (zR HO405) (Kd.R_base ho0) hb)) (zI (aM (Kd.R_elder' (zR HO416) (Kd.R_base ho0) hb)) (zI (aM (Kd.R_lower (Kd.R_new' (Kd.R_new' (Kd.R_new' ho0 (Kd.R_lt (zR HO_6))) (Kd.R_lt (zR HO405))) (Kd.R_lt (zR HO416))) (below_size zB))) (aM (below_step zB hb))))); clear HO_6 HO405 HO416 HB; obtain ⟨HO_6, HO405, HO416, HO419, HB⟩ := n_; (try clear hb); (try clear ho0)))
       go_ret2
       exact ⟨_, zE, by (with_reducible repeat (first | apply Kd.R_alloc | apply Kd.R_drewN | apply Kd.R_drew)); exact Kd.R_mono HO419.out (fun _ hk => trivial), zB⟩
      ·rw [if_neg c24] at H
       have c24b0 : (a0 == 4) = false := beq_eq_false_iff_ne.mpr c24
       have c24b1 : (a0 != 4) = true := bne_iff_ne.mpr c24
       obtain ⟨t420, A34, H⟩ := zO H
       simp only [Option.some.injEq, Prod.mk.injEq] at H
       obtain ⟨rfl, rfl⟩ := H
       obtain ⟨Ao35, co35, eo35⟩ := Kd.R_slice HO_6.out
       subst eo35
       go_wp2_with (first | ((with_reducible refine gate_callee (f := 20) rfl ?_); refine goesL_ (some 21) rfl rfl Try.func20 zK rfl #[.bool true, .slice Ao35 x6_4.length co35] rfl zM ?_; (with_reducible refine (nfkc_Runes.calls kj4 true _ _ x6_4 t403 _ ?side1 ?side2 A11.out).mono ?_); (case side1 => exact zC (Kd.R_reads' HO_6.out).2.2); (case side2 => exact (Kd.R_reads' HO_6.out).2.1); rintro e w36 ⟨v404, rfl, ho0, hb⟩; (try clear A11); refine ⟨_, rfl, ?_⟩; have n_ := zI (aM (Kd.R_elder' (zR HO_6) (Kd.R_base ho0) hb)) (zI (aM (Kd.R_lower (Kd.R_new' ho0 (Kd.R_lt (zR HO_6))) (below_size zB))) (aM (below_step zB hb))); clear HO_6 HB; obtain ⟨HO_6, HO405, HB⟩ := n_; (try clear hb); (try clear ho0); obtain ⟨Ao37, co37, rfl⟩ := Kd.R_slice HO405.out) | ((with_reducible refine gate_callee (f := 19) rfl ?_); refine goesL_ (some 24) rfl rfl Try.func19 zK rfl #[.slice Ao37 t403.length co37] rfl zM ?_; (with_reducible refine (guard_Check.calls kj4 _ _ t403 t406 t407 _ ?side1 ?side2 A12.out).mono ?_); (case side1 => exact zC (Kd.R_reads' HO405.out).2.2); (case side2 => exact (Kd.R_reads' HO405.out).2.1); rintro e w38 ⟨rfl, hb⟩; refine ⟨_, rfl, ?_⟩; have n_ := zI (aM (Kd.R_below (zR HO_6) hb)) (zI (aM (Kd.R_below (zR HO405) hb)) (aM (below_step zB hb))); clear HO_6 HO405 HB; obtain ⟨HO_6, HO405, HB⟩ := n_; (try clear hb)) | ((with_reducible refine gate_callee (f := 25) rfl ?_); refine goesL_ (some 32) rfl rfl Try.func25 zK rfl #[.slice Ao37 t403.length co37] rfl zM ?_; (with_reducible refine (blanks_Value.calls kj4 _ _ t403 t420 _ ?side1 ?side2 A34.out).mono ?_); (case side1 => exact zC (Kd.R_reads' HO405.out).2.2); (case side2 => exact (Kd.R_reads' HO405.out).2.1); rintro e w39 ⟨v421, rfl, ho0, hb⟩; refine ⟨_, rfl, ?_⟩; have n_ := zI (aM (Kd.R_elder' (zR HO_6) (Kd.R_base ho0) hb)) (zI (aM (Kd.R_elder' (zR HO405) (Kd.R_base ho0) hb)) (zI (aM (Kd.R_lower (Kd.R_new' (Kd.R_new' ho0 (Kd.R_lt (zR HO_6))) (Kd.R_lt (zR HO405))) (below_size zB))) (aM (below_step zB hb)))); clear HO_6 HO405 HB; obtain ⟨HO_6, HO405, HO422, HB⟩ := n_; (try clear hb); (try clear ho0)))
       go_ret2
       exact ⟨_, zE, by (with_reducible repeat (first | apply Kd.R_alloc | apply Kd.R_drewN | apply Kd.R_drew)); exact Kd.R_mono HO422.out (fun _ hk => trivial), zB⟩
    ·rw [if_neg c13] at H
     have c13b0 : (t407 == 0) = false := beq_eq_false_iff_ne.mpr c13
     have c13b1 : (t407 != 0) = true := bne_iff_ne.mpr c13
     simp only [Option.some.injEq, Prod.mk.injEq] at H
     obtain ⟨rfl, rfl⟩ := H
     obtain ⟨Ao40, co40, eo40⟩ := Kd.R_slice HO_6.out
     subst eo40
     go_wp2_with (first | ((with_reducible refine gate_callee (f := 20) rfl ?_); refine goesL_ (some 21) rfl rfl Try.func20 zK rfl #[.bool true, .slice Ao40 x6_4.length co40] rfl zM ?_; (with_reducible refine (nfkc_Runes.calls kj4 true _ _ x6_4 t403 _ ?side1 ?side2 A11.out).mono ?_); (case side1 => exact zC (Kd.R_reads' HO_6.out).2.2); (case side2 => exact (Kd.R_reads' HO_6.out).2.1); rintro e w41 ⟨v404, rfl, ho0, hb⟩; (try clear A11); refine ⟨_, rfl, ?_⟩; have n_ := zI (aM (Kd.R_elder' (zR HO_6) (Kd.R_base ho0) hb)) (zI (aM (Kd.R_lower (Kd.R_new' ho0 (Kd.R_lt (zR HO_6))) (below_size zB))) (aM (below_step zB hb))); clear HO_6 HB; obtain ⟨HO_6, HO405, HB⟩ := n_; (try clear hb); (try clear ho0); obtain ⟨Ao42, co42, rfl⟩ := Kd.R_slice HO405.out) | ((with_reducible refine gate_callee (f := 19) rfl ?_); refine goesL_ (some 24) rfl rfl Try.func19 zK rfl #[.slice Ao42 t403.length co42] rfl zM ?_; (with_reducible refine (guard_Check.calls kj4 _ _ t403 t406 t407 _ ?side1 ?side2 A12.out).mono ?_); (case side1 => exact zC (Kd.R_reads' HO405.out).2.2); (case side2 => exact (Kd.R_reads' HO405.out).2.1); rintro e w43 ⟨rfl, hb⟩; refine ⟨_, rfl, ?_⟩; have n_ := zI (aM (Kd.R_below (zR HO_6) hb)) (zI (aM (Kd.R_below (zR HO405) hb)) (aM (below_step zB hb))); clear HO_6 HO405 HB; obtain ⟨HO_6, HO405, HB⟩ := n_; (try clear hb)))
     go_ret2
     exact ⟨_, zE, zL, zB⟩
 ·replace c4 := Bool.eq_false_iff.mpr c4
  subst c4
  rw [if_neg (show ¬ (false = true) by decide)] at H
  simp only [Option.some.injEq, Prod.mk.injEq] at H
  obtain ⟨rfl, rfl⟩ := H
  go_enter Try.func16, Try.ntmps16
  go_wp2_with (first | ((with_reducible refine gate_callee (f := 14) rfl ?_); refine goesL_ (some 10) rfl rfl Try.func14 zK rfl #[.int .i64 a0] rfl zM ?_; (with_reducible refine (prep_known.calls a0 false _ A3.out).mono ?_); rintro e w' ⟨rfl, ⟨nd, rfl⟩⟩; refine ⟨_, rfl, ?_⟩))
  go_ret2
  exact ⟨_, zE, zL, zB⟩

/-! ### utf_Encode: function 17 -/
mutual
def utf_Encode.l0 : Nat → List Int → List Int → Int → Int → Option (ByteArray × Int)
 | 0, _, _, _, _ => none
 | k + 1, x4, x9, x10, x11 => if x11 < x10 then (if 0 ≤ x11 then (if x11 < (x9.length : Int) then ((utf_Length.f (rd x9 x11)).bind fun t424 => (if t424 = 0 then (some ((⟨#[]⟩ : ByteArray), 10)) else (if 0 ≤ t424 then (if t424 < 5 then (if 0 ≤ (IntKind.u64.wrap (wrap64 (6 * (wrap64 (t424 - 1))))) then (if x4.length < 140737488355328 then (utf_Encode.l1 k (x4 ++ [Go.bits .or .u8 (bt (⟨#[0, 0, 192, 224, 240]⟩ : ByteArray) t424) ((shr .i32 (rd x9 x11) (IntKind.u64.wrap (wrap64 (6 * (wrap64 (t424 - 1)))))) % 256)]) (rd x9 x11) (wrap64 (t424 - 2)) x9 x10 x11) else (none)) else (none)) else (none)) else (none)))) else (none)) else (none)) else (some (strOfNums x4, 0))
def utf_Encode.l1 : Nat → List Int → Int → Int → List Int → Int → Int → Option (ByteArray × Int)
 | 0, _, _, _, _, _, _ => none
 | k + 1, x4, x6, x8, x9, x10, x11 => if x8 ≥ 0 then (if 0 ≤ (IntKind.u64.wrap (wrap64 (6 * x8))) then (if x4.length < 140737488355328 then (utf_Encode.l1 k (x4 ++ [Go.bits .or .u8 128 (Go.bits .and .u8 ((shr .i32 x6 (IntKind.u64.wrap (wrap64 (6 * x8)))) % 256) 63)]) x6 (wrap64 (x8 - 1)) x9 x10 x11) else (none)) else (none)) else (utf_Encode.l0 k x4 x9 x10 (wrap64 (x11 + 1)))
end
def utf_Encode.f (k : Nat) (l0 : List Int) : Option (ByteArray × Int) := utf_Encode.l0 k ([] : List Int) l0 (l0.length : Int) 0
theorem utf_Encode.mono_l : ∀ k, (∀ y0 y1 y2 y3, LeO (utf_Encode.l0 k y0 y1 y2 y3) (utf_Encode.l0 (k + 1) y0 y1 y2 y3)) ∧ (∀ y0 y1 y2 y3 y4 y5, LeO (utf_Encode.l1 k y0 y1 y2 y3 y4 y5) (utf_Encode.l1 (k + 1) y0 y1 y2 y3 y4 y5))
 | 0 => ⟨fun _ _ _ _ r h => by simp [utf_Encode.l0] at h, fun _ _ _ _ _ _ r h => by simp [utf_Encode.l1] at h⟩
 | k + 1 => by
  obtain ⟨ih0, ih1⟩ := utf_Encode.mono_l k
  refine ⟨?_, ?_⟩
  ·intro y0 y1 y2 y3
   unfold utf_Encode.l0
   repeat' first
   | (with_reducible exact ih0 _ _ _ _)
   | (with_reducible exact ih1 _ _ _ _ _ _)
   | (with_reducible exact LeO.refl _)
   | exact ih0 _ _ _ _
   | exact ih1 _ _ _ _ _ _
   | exact LeO.none _
   | refine LeO.ite ?_ ?_
   | refine LeO.bind ?_ (fun _ => ?_)
  ·intro y0 y1 y2 y3 y4 y5
   unfold utf_Encode.l1
   repeat' first
   | (with_reducible exact ih0 _ _ _ _)
   | (with_reducible exact ih1 _ _ _ _ _ _)
   | (with_reducible exact LeO.refl _)
   | exact ih0 _ _ _ _
   | exact ih1 _ _ _ _ _ _
   | exact LeO.none _
   | refine LeO.ite ?_ ?_
   | refine LeO.bind ?_ (fun _ => ?_)
theorem utf_Encode.mono : ∀ a0 k, LeO (utf_Encode.f k a0) (utf_Encode.f (k + 1) a0) := by
 intro a0 k
 obtain ⟨ih0, ih1⟩ := utf_Encode.mono_l k
 unfold utf_Encode.f
 repeat' first
   | (with_reducible exact ih0 _ _ _ _)
   | (with_reducible exact ih1 _ _ _ _ _ _)
   | (with_reducible exact LeO.refl _)
   | exact ih0 _ _ _ _
   | exact ih1 _ _ _ _ _ _
   | exact LeO.none _
   | refine LeO.ite ?_ ?_
   | refine LeO.bind ?_ (fun _ => ?_)
set_option maxHeartbeats 8000000 in
set_option maxRecDepth 100000 in
theorem utf_Encode.calls (k : Nat) (A0 : Option Addr) (c0 : Nat) (l0 : List Int) (r1 : ByteArray) (r2 : Int) (w : World) (hr0 : Kd.C (Kd.int .i32) w A0 l0.length l0) (hc0 : l0.length ≤ c0) (h : utf_Encode.f k l0 = some (r1, r2)) :
  Calls Try.prog 17 #[.slice A0 l0.length c0] w fun e w' => e = .returned (.tuple #[.string r1, .int .i64 r2]) ∧ Below w.heap.size w w' := by
 have HR0 := aM hr0
 have HC0 := aM hc0
 clear hr0 hc0
 have HB := aM (Below.refl w.heap.size w)
 have H := h
 clear h
 unfold utf_Encode.f at H
 have H' := aM H
 clear H
 go_enter Try.func17, Try.ntmps17
 go_wp2
 go_loopg [4, 11] k (fun kq v4 v11 w' => ∃ (x4_1 : List Int) (x11_1 : Int), v11 = .int .i64 x11_1 ∧ Aside0 (utf_Encode.l0 kq x4_1 l0 (l0.length : Int) x11_1 = some (r1, r2)) ∧ Aside0 (kq ≤ k) ∧ Aside0 (Kd.R (Kd.int .u8) 5 w' w.heap.size (fun _ => True) v4 x4_1) ∧ Aside0 (Below w.heap.size w w'))
 case atStart => exact ⟨(([] : List Int)), (0), zP, H', ⟨Nat.le_refl _⟩, ⟨zL⟩, ⟨zB⟩⟩
 case round =>
  clear H'
  try clear c1
  obtain ⟨x4_1, x11_1, rfl, HA, HK1, HO_4, HB⟩ := hrel
  cases gk with
  | zero => exact absurd HA.out (by simp [utf_Encode.l0])
  | succ k1 =>
   have H := HA.out
   clear HA
   simp only [utf_Encode.l0] at H
   by_cases c2 : x11_1 < (l0.length : Int)
   ·rw [if_pos c2] at H
    have c2b0 : decide (x11_1 < (l0.length : Int)) = true := decide_eq_true c2
    clear c2
    by_cases c3 : 0 ≤ x11_1
    ·rw [if_pos c3] at H
     have c3b0 : decide (0 ≤ x11_1) = true := decide_eq_true c3
     clear c3
     by_cases c4 : x11_1 < (l0.length : Int)
     ·rw [if_pos c4] at H
      have c4b0 : decide (x11_1 < (l0.length : Int)) = true := decide_eq_true c4
      clear c4
      obtain ⟨t424, A5, H⟩ := zO H
      by_cases c6 : t424 = 0
      ·rw [if_pos c6] at H
       have c6b0 : (t424 == 0) = true := beq_iff_eq.mpr c6
       have c6b1 : (t424 != 0) = false := bne_eq_false_iff_eq.mpr c6
       clear c6
       simp only [Option.some.injEq, Prod.mk.injEq] at H
       obtain ⟨rfl, rfl⟩ := H
       have p423 : 0 ≤ (x11_1 : Int) := zoA
       have q423 : x11_1 < (l0.length : Int) := zoA
       obtain ⟨ad423, e423, hx423_0⟩ := Kd.at_int HR0.out x11_1 p423 q423
       cases e423
       replace hx423_0 := (HB.out.cell (World.block_lt_of_cell? w _ hx423_0)).trans hx423_0
       replace p423 := eq_true p423
       replace q423 := eq_true q423
       go_wp2_with (first | ((with_reducible refine gate_callee (f := 26) rfl ?_); refine goesL_ (some 16) rfl rfl Try.func26 zK rfl #[.int .i32 (rd l0 x11_1)] rfl zM ?_; (with_reducible refine (utf_Length.calls (rd l0 x11_1) t424 _ A5.out).mono ?_); rintro e w' ⟨rfl, ⟨nd, rfl⟩⟩; refine ⟨_, rfl, ?_⟩))
       go_ret2
       exact ⟨zE, zB⟩
      ·rw [if_neg c6] at H
       have c6b0 : (t424 == 0) = false := beq_eq_false_iff_ne.mpr c6
       have c6b1 : (t424 != 0) = true := bne_iff_ne.mpr c6
       by_cases c7 : 0 ≤ t424
       ·rw [if_pos c7] at H
        have c7b0 : decide (0 ≤ t424) = true := decide_eq_true c7
        clear c7
        by_cases c8 : t424 < 5
        ·rw [if_pos c8] at H
         have c8b0 : decide (t424 < 5) = true := decide_eq_true c8
         clear c8
         obtain ⟨ji10, hji10⟩ : ∃ j_ : Int, (IntKind.u64.wrap (wrap64 (6 * (wrap64 (t424 - 1))))) = j_ := ⟨_, rfl⟩
         replace H : (if 0 ≤ (ji10) then (if x4_1.length < 140737488355328 then (utf_Encode.l1 k1 (x4_1 ++ [Go.bits .or .u8 (bt (⟨#[0, 0, 192, 224, 240]⟩ : ByteArray) t424) ((shr .i32 (rd l0 x11_1) (ji10)) % 256)]) (rd l0 x11_1) (wrap64 (t424 - 2)) l0 (l0.length : Int) x11_1) else (none)) else (none)) = some (r1, r2) := by first | (rw [hji10] at H; exact H) | (simp only [hji10] at H ⊢; exact H)
         (try rw [hji10] at A5)
         by_cases c11 : 0 ≤ (ji10)
         ·rw [if_pos c11] at H
          have c11b0 := eq_true c11
          have c11b1 : decide (0 ≤ (ji10)) = true := decide_eq_true c11
          clear c11
          obtain ⟨ji12, hji12⟩ : ∃ j_ : Int, (shr .i32 (rd l0 x11_1) (ji10)) = j_ := ⟨_, rfl⟩
          replace H : (if x4_1.length < 140737488355328 then (utf_Encode.l1 k1 (x4_1 ++ [Go.bits .or .u8 (bt (⟨#[0, 0, 192, 224, 240]⟩ : ByteArray) t424) ((ji12) % 256)]) (rd l0 x11_1) (wrap64 (t424 - 2)) l0 (l0.length : Int) x11_1) else (none)) = some (r1, r2) := by first | (rw [hji12] at H; exact H) | (simp only [hji12] at H ⊢; exact H)
          (try rw [hji12] at A5)
          have hji12_ : ((rd l0 x11_1) / 2 ^ min (ji10).toNat 32) = ji12 := hji12
          have hji12z : (ji10) ≤ 32 → ((rd l0 x11_1) / 2 ^ (ji10).toNat) = ji12 := shr_small hji12
          by_cases c13 : x4_1.length < 140737488355328
          ·rw [if_pos c13] at H
           have LMc13 := aM c13
           clear c13
           obtain ⟨y425, hy425⟩ : ∃ y_ : List Int, y_ = (x4_1 ++ [Go.bits .or .u8 (bt (⟨#[0, 0, 192, 224, 240]⟩ : ByteArray) t424) ((ji12) % 256)]) := ⟨_, rfl⟩
           replace H : (utf_Encode.l1 k1 y425 (rd l0 x11_1) (wrap64 (t424 - 2)) l0 (l0.length : Int) x11_1) = some (r1, r2) := zY hy425 H
           have Ny425 := aM hy425
           clear hy425
           have H' := aM H
           clear H
           have p423 : 0 ≤ (x11_1 : Int) := zoA
           have q423 : x11_1 < (l0.length : Int) := zoA
           obtain ⟨ad423, e423, hx423_0⟩ := Kd.at_int HR0.out x11_1 p423 q423
           cases e423
           replace hx423_0 := (HB.out.cell (World.block_lt_of_cell? w _ hx423_0)).trans hx423_0
           replace p423 := eq_true p423
           replace q423 := eq_true q423
           go_wp2_with (first | ((with_reducible refine gate_callee (f := 26) rfl ?_); refine goesL_ (some 16) rfl rfl Try.func26 zK rfl #[.int .i32 (rd l0 x11_1)] rfl zM ?_; (with_reducible refine (utf_Length.calls (rd l0 x11_1) t424 _ A5.out).mono ?_); rintro e w' ⟨rfl, ⟨nd, rfl⟩⟩; refine ⟨_, rfl, ?_⟩; have p9 : 0 ≤ (t424 : Int) := zoA; have q9 : t424 < (5 : Int) := zoA; have hx9 := bt_at (⟨#[0, 0, 192, 224, 240]⟩ : ByteArray) t424; replace p9 := eq_true p9; replace q9 := eq_true q9) | ((with_reducible refine gate_builtin (b := .append) (xs := #[.tmp 19, .tmp 30]) rfl ?_); at_builtin; refine Kd.R_append (Kd.int .u8) (w0 := w) w.heap.size rfl (.tmp 19) (.tmp 30) 42 5 (.int .u8 0) 1 rfl Try.underlying42 info5 rfl (by decide) (by omega) u4 x4_1 (Go.bits .or .u8 (bt (⟨#[0, 0, 192, 224, 240]⟩ : ByteArray) t424) ((ji12) % 256)) [.int .u8 (Go.bits .or .u8 (bt (⟨#[0, 0, 192, 224, 240]⟩ : ByteArray) t424) ((ji12) % 256))] (fun _ => True) (fun _ => False) rfl rfl ?aP (fun _ hk => hk.elim) ?aF ?aO ?aB ?aS ?aL ?_; (case aP => exact rfl); (case aB => exact zB); (case aF => exact (fun _ _ => trivial)); (case aO => exact (zR HO_4)); (case aS => exact (below_size zB)); (case aL => have := LMc13.out; omega); intro v426 w14 ho hb hg hat; rw [← Ny425.out] at ho; have n_ := zI (aM (hb)) (aM (ho)); clear HB HO_4; obtain ⟨HB, HO427⟩ := n_; clear ho hb hg hat))
           go_loopg [4, 8] k1 (fun kq v4 v8 w' => ∃ (x4_2 : List Int) (x8_2 : Int), v8 = .int .i64 x8_2 ∧ Aside0 (utf_Encode.l1 kq x4_2 (rd l0 x11_1) x8_2 l0 (l0.length : Int) x11_1 = some (r1, r2)) ∧ Aside0 (kq ≤ k1) ∧ Aside0 (Kd.R (Kd.int .u8) 5 w' w.heap.size (fun _ => True) v4 x4_2) ∧ Aside0 (Below w.heap.size w w'))
           case atStart => exact ⟨(y425), (wrap64 (t424 - 2)), zP, H', ⟨Nat.le_refl _⟩, ⟨zR HO427⟩, ⟨zB⟩⟩
           case round =>
            clear H'
            try clear c1
            try clear c2
            try clear c2b0
            try clear p2
            try clear c3
            try clear c3b0
            try clear c4
            try clear c4b0
            try clear p4
            try clear q4
            try clear hx4
            try clear c6
            try clear c6b0
            try clear c6b1
            try clear p6
            try clear c7
            try clear c7b0
            try clear c8
            try clear c8b0
            try clear p9
            try clear q9
            try clear hx9
            try clear c11
            try clear c11b0
            try clear c11b1
            try clear c13
            try clear hx423_0
            try clear p423
            try clear p9
            try clear q423
            try clear q9
            obtain ⟨x4_2, x8_2, rfl, HA, HK2, HO_4, HB⟩ := hrel
            cases gk with
            | zero => exact absurd HA.out (by simp [utf_Encode.l1])
            | succ k2 =>
             have H := HA.out
             clear HA
             simp only [utf_Encode.l1] at H
             by_cases c15 : x8_2 ≥ 0
             ·rw [if_pos c15] at H
              have c15b0 : decide (0 ≤ x8_2) = true := decide_eq_true c15
              clear c15
              obtain ⟨ji16, hji16⟩ : ∃ j_ : Int, (IntKind.u64.wrap (wrap64 (6 * x8_2))) = j_ := ⟨_, rfl⟩
              replace H : (if 0 ≤ (ji16) then (if x4_2.length < 140737488355328 then (utf_Encode.l1 k2 (x4_2 ++ [Go.bits .or .u8 128 (Go.bits .and .u8 ((shr .i32 (rd l0 x11_1) (ji16)) % 256) 63)]) (rd l0 x11_1) (wrap64 (x8_2 - 1)) l0 (l0.length : Int) x11_1) else (none)) else (none)) = some (r1, r2) := by first | (rw [hji16] at H; exact H) | (simp only [hji16] at H ⊢; exact H)
              by_cases c17 : 0 ≤ (ji16)
              ·rw [if_pos c17] at H
               have c17b0 := eq_true c17
               have c17b1 : decide (0 ≤ (ji16)) = true := decide_eq_true c17
               clear c17
               obtain ⟨ji18, hji18⟩ : ∃ j_ : Int, (shr .i32 (rd l0 x11_1) (ji16)) = j_ := ⟨_, rfl⟩
               replace H : (if x4_2.length < 140737488355328 then (utf_Encode.l1 k2 (x4_2 ++ [Go.bits .or .u8 128 (Go.bits .and .u8 ((ji18) % 256) 63)]) (rd l0 x11_1) (wrap64 (x8_2 - 1)) l0 (l0.length : Int) x11_1) else (none)) = some (r1, r2) := by first | (rw [hji18] at H; exact H) | (simp only [hji18] at H ⊢; exact H)
               have hji18_ : ((rd l0 x11_1) / 2 ^ min (ji16).toNat 32) = ji18 := hji18
               have hji18z : (ji16) ≤ 32 → ((rd l0 x11_1) / 2 ^ (ji16).toNat) = ji18 := shr_small hji18
               by_cases c19 : x4_2.length < 140737488355328
               ·rw [if_pos c19] at H
                have LMc19 := aM c19
                clear c19
                obtain ⟨y428, hy428⟩ : ∃ y_ : List Int, y_ = (x4_2 ++ [Go.bits .or .u8 128 (Go.bits .and .u8 ((ji18) % 256) 63)]) := ⟨_, rfl⟩
                replace H : (utf_Encode.l1 k2 y428 (rd l0 x11_1) (wrap64 (x8_2 - 1)) l0 (l0.length : Int) x11_1) = some (r1, r2) := zY hy428 H
                rw [or_and_63] at hy428
                have Ny428 := aM hy428
                clear hy428
                have H' := aM H
                clear H
                go_wp2_with (first | ((with_reducible refine gate_builtin (b := .append) (xs := #[.tmp 38, .tmp 47]) rfl ?_); at_builtin; refine Kd.R_append (Kd.int .u8) (w0 := w) w.heap.size rfl (.tmp 38) (.tmp 47) 42 5 (.int .u8 0) 1 rfl Try.underlying42 info5 rfl (by decide) (by omega) u4 x4_2 ((128 + ji18 % 64)) [.int .u8 ((128 + ji18 % 64))] (fun _ => True) (fun _ => False) rfl rfl ?aP (fun _ hk => hk.elim) ?aF ?aO ?aB ?aS ?aL ?_; (case aP => exact rfl); (case aB => exact zB); (case aF => exact (fun _ _ => trivial)); (case aO => exact (zR HO_4)); (case aS => exact (below_size zB)); (case aL => have := LMc19.out; omega); intro v429 w20 ho hb hg hat; rw [← Ny428.out] at ho; have n_ := zI (aM (hb)) (aM (ho)); clear HB HO_4; obtain ⟨HB, HO430⟩ := n_; clear ho hb hg hat))
                go_roundg k2
                case measure => have := HK1.out; have := HK2.out; omega
                case rel => exact ⟨(y428), (wrap64 (x8_2 - 1)), zP, H', ⟨by have := HK1.out; have := HK2.out; omega⟩, ⟨zR HO430⟩, ⟨zB⟩⟩
               ·rw [if_neg c19] at H
                exact absurd H (by simp)
              ·rw [if_neg c17] at H
               exact absurd H (by simp)
             ·rw [if_neg c15] at H
              have c15b0 : decide (0 ≤ x8_2) = false := decide_eq_false c15
              clear c15
              have H' := aM H
              clear H
              go_wp2
              go_roundg k2
              case measure => have := HK1.out; have := HK2.out; omega
              case rel => exact ⟨(x4_2), (wrap64 (x11_1 + 1)), zP, H', ⟨by have := HK1.out; have := HK2.out; omega⟩, ⟨zR HO_4⟩, ⟨zB⟩⟩
          ·rw [if_neg c13] at H
           exact absurd H (by simp)
         ·rw [if_neg c11] at H
          exact absurd H (by simp)
        ·rw [if_neg c8] at H
         exact absurd H (by simp)
       ·rw [if_neg c7] at H
        exact absurd H (by simp)
     ·rw [if_neg c4] at H
      exact absurd H (by simp)
    ·rw [if_neg c3] at H
     exact absurd H (by simp)
   ·rw [if_neg c2] at H
    have c2b0 : decide (x11_1 < (l0.length : Int)) = false := decide_eq_false c2
    clear c2
    simp only [Option.some.injEq, Prod.mk.injEq] at H
    obtain ⟨rfl, rfl⟩ := H
    have hcv21 := own_string (P := Try.prog) Try.underlying42 Try.underlying5 Try.underlying9 (Kd.own_of_R HO_4.out)
    go_wp2
    go_ret2
    exact ⟨zE, zB⟩

/-! ### prep_Value: function 7 -/
def prep_Value.f (k : Nat) (a0 : Int) (a1 : ByteArray) : Option (ByteArray × Int) := (prep_known.f a0).bind fun t431 => (if t431 = true then (if (a1.size : Int) > 1202 then (some ((⟨#[]⟩ : ByteArray), 3)) else ((utf_Runes.f k a1).bind fun bt432 => (if bt432.2.2 = 0 then ((prep_Steps.f k a0 bt432.1).bind fun bt437 => (if bt437.2 = 0 then ((utf_Encode.f k bt437.1).bind fun bt441 => (some (bt441.1, bt441.2))) else (some ((⟨#[]⟩ : ByteArray), bt437.2)))) else (some ((⟨#[]⟩ : ByteArray), bt432.2.2))))) else (some ((⟨#[]⟩ : ByteArray), 2)))
theorem prep_Value.mono : ∀ a0 a1 k, LeO (prep_Value.f k a0 a1) (prep_Value.f (k + 1) a0 a1) := by
 intro a0 a1 k
 unfold prep_Value.f
 repeat' first
   | (with_reducible exact prep_Steps.mono _ _ _)
   | (with_reducible exact utf_Encode.mono _ _)
   | (with_reducible exact utf_Runes.mono _ _)
   | (with_reducible exact LeO.refl _)
   | exact prep_Steps.mono _ _ _
   | exact utf_Encode.mono _ _
   | exact utf_Runes.mono _ _
   | exact LeO.none _
   | refine LeO.ite ?_ ?_
   | refine LeO.bind ?_ (fun _ => ?_)
set_option maxHeartbeats 8000000 in
set_option maxRecDepth 100000 in
theorem prep_Value.calls (k : Nat) (a0 : Int) (a1 : ByteArray) (r1 : ByteArray) (r2 : Int) (w : World) (h : prep_Value.f k a0 a1 = some (r1, r2)) :
  Calls Try.prog 7 #[.int .i64 a0, .string a1] w fun e w' => e = .returned (.tuple #[.string r1, .int .i64 r2]) ∧ Below w.heap.size w w' := by
 have HB := aM (Below.refl w.heap.size w)
 have H := h
 clear h
 unfold prep_Value.f at H
 obtain ⟨t431, A3, H⟩ := zO H
 by_cases c4 : t431 = true
 ·subst c4
  rw [if_pos rfl] at H
  by_cases c5 : (a1.size : Int) > 1202
  ·rw [if_pos c5] at H
   have c5b0 : decide (1202 < (a1.size : Int)) = true := decide_eq_true c5
   have c5b1 : decide (1202 < a1.size) = true := decide_eq_true (by omega)
   clear c5
   simp only [Option.some.injEq, Prod.mk.injEq] at H
   obtain ⟨rfl, rfl⟩ := H
   go_enter Try.func7, Try.ntmps7
   go_wp2_with (first | ((with_reducible refine gate_callee (f := 14) rfl ?_); refine goesL_ (some 12) rfl rfl Try.func14 zK rfl #[.int .i64 a0] rfl zM ?_; (with_reducible refine (prep_known.calls a0 true _ A3.out).mono ?_); rintro e w' ⟨rfl, ⟨nd, rfl⟩⟩; refine ⟨_, rfl, ?_⟩))
   go_ret2
   exact ⟨zE, zB⟩
  ·rw [if_neg c5] at H
   have c5b0 : decide (1202 < (a1.size : Int)) = false := decide_eq_false c5
   have c5b1 : decide (1202 < a1.size) = false := decide_eq_false (by omega)
   clear c5
   obtain ⟨⟨t432, t433, t434⟩, A6, H⟩ := zO H
   try dsimp only at H
   by_cases c7 : t434 = 0
   ·rw [if_pos c7] at H
    have c7b0 : (t434 == 0) = true := beq_iff_eq.mpr c7
    have c7b1 : (t434 != 0) = false := bne_eq_false_iff_eq.mpr c7
    clear c7
    obtain ⟨⟨t437, t438⟩, A8, H⟩ := zO H
    try dsimp only at H
    by_cases c9 : t438 = 0
    ·rw [if_pos c9] at H
     have c9b0 : (t438 == 0) = true := beq_iff_eq.mpr c9
     have c9b1 : (t438 != 0) = false := bne_eq_false_iff_eq.mpr c9
     clear c9
     obtain ⟨⟨t441, t442⟩, A10, H⟩ := zO H
     try dsimp only at H
     simp only [Option.some.injEq, Prod.mk.injEq] at H
     obtain ⟨rfl, rfl⟩ := H
     go_enter Try.func7, Try.ntmps7
     go_wp2_with (first | ((with_reducible refine gate_callee (f := 14) rfl ?_); refine goesL_ (some 12) rfl rfl Try.func14 zK rfl #[.int .i64 a0] rfl zM ?_; (with_reducible refine (prep_known.calls a0 true _ A3.out).mono ?_); rintro e w' ⟨rfl, ⟨nd, rfl⟩⟩; refine ⟨_, rfl, ?_⟩) | ((with_reducible refine gate_callee (f := 15) rfl ?_); refine goesL_ (some 20) rfl rfl Try.func15 zK rfl #[.string a1] rfl zM ?_; (with_reducible refine (utf_Runes.calls k a1 t432 t433 t434 _ A6.out).mono ?_); rintro e w11 ⟨v435, rfl, ho0, hb⟩; refine ⟨_, rfl, ?_⟩; have n_ := zI (aM (Kd.R_lower ho0 (below_size zB))) (aM (below_step zB hb)); clear HB; obtain ⟨HO436, HB⟩ := n_; (try clear hb); (try clear ho0); obtain ⟨Ao12, co12, rfl⟩ := Kd.R_slice HO436.out) | ((with_reducible refine gate_callee (f := 16) rfl ?_); refine goesL_ (some 30) rfl rfl Try.func16 zK rfl #[.int .i64 a0, .slice Ao12 t432.length co12] rfl zM ?_; (with_reducible refine (prep_Steps.calls k a0 _ _ t432 t437 t438 _ ?side1 ?side2 A8.out).mono ?_); (case side1 => exact zC (Kd.R_reads' HO436.out).2.2); (case side2 => exact (Kd.R_reads' HO436.out).2.1); rintro e w13 ⟨v439, rfl, ho0, hb⟩; refine ⟨_, rfl, ?_⟩; have n_ := zI (aM (Kd.R_elder' (zR HO436) (Kd.R_base ho0) hb)) (zI (aM (Kd.R_lower (Kd.R_new' ho0 (Kd.R_lt (zR HO436))) (below_size zB))) (aM (below_step zB hb))); clear HO436 HB; obtain ⟨HO436, HO440, HB⟩ := n_; (try clear hb); (try clear ho0); obtain ⟨Ao14, co14, rfl⟩ := Kd.R_slice HO440.out) | ((with_reducible refine gate_callee (f := 17) rfl ?_); refine goesL_ (some 37) rfl rfl Try.func17 zK rfl #[.slice Ao14 t437.length co14] rfl zM ?_; (with_reducible refine (utf_Encode.calls k _ _ t437 t441 t442 _ ?side1 ?side2 A10.out).mono ?_); (case side1 => exact zC (Kd.R_reads' HO440.out).2.2); (case side2 => exact (Kd.R_reads' HO440.out).2.1); rintro e w15 ⟨rfl, hb⟩; refine ⟨_, rfl, ?_⟩; have n_ := zI (aM (Kd.R_below (zR HO436) hb)) (zI (aM (Kd.R_below (zR HO440) hb)) (aM (below_step zB hb))); clear HO436 HO440 HB; obtain ⟨HO436, HO440, HB⟩ := n_; (try clear hb)))
     go_ret2
     exact ⟨zE, zB⟩
    ·rw [if_neg c9] at H
     have c9b0 : (t438 == 0) = false := beq_eq_false_iff_ne.mpr c9
     have c9b1 : (t438 != 0) = true := bne_iff_ne.mpr c9
     simp only [Option.some.injEq, Prod.mk.injEq] at H
     obtain ⟨rfl, rfl⟩ := H
     go_enter Try.func7, Try.ntmps7
     go_wp2_with (first | ((with_reducible refine gate_callee (f := 14) rfl ?_); refine goesL_ (some 12) rfl rfl Try.func14 zK rfl #[.int .i64 a0] rfl zM ?_; (with_reducible refine (prep_known.calls a0 true _ A3.out).mono ?_); rintro e w' ⟨rfl, ⟨nd, rfl⟩⟩; refine ⟨_, rfl, ?_⟩) | ((with_reducible refine gate_callee (f := 15) rfl ?_); refine goesL_ (some 20) rfl rfl Try.func15 zK rfl #[.string a1] rfl zM ?_; (with_reducible refine (utf_Runes.calls k a1 t432 t433 t434 _ A6.out).mono ?_); rintro e w16 ⟨v435, rfl, ho0, hb⟩; refine ⟨_, rfl, ?_⟩; have n_ := zI (aM (Kd.R_lower ho0 (below_size zB))) (aM (below_step zB hb)); clear HB; obtain ⟨HO436, HB⟩ := n_; (try clear hb); (try clear ho0); obtain ⟨Ao17, co17, rfl⟩ := Kd.R_slice HO436.out) | ((with_reducible refine gate_callee (f := 16) rfl ?_); refine goesL_ (some 30) rfl rfl Try.func16 zK rfl #[.int .i64 a0, .slice Ao17 t432.length co17] rfl zM ?_; (with_reducible refine (prep_Steps.calls k a0 _ _ t432 t437 t438 _ ?side1 ?side2 A8.out).mono ?_); (case side1 => exact zC (Kd.R_reads' HO436.out).2.2); (case side2 => exact (Kd.R_reads' HO436.out).2.1); rintro e w18 ⟨v439, rfl, ho0, hb⟩; refine ⟨_, rfl, ?_⟩; have n_ := zI (aM (Kd.R_elder' (zR HO436) (Kd.R_base ho0) hb)) (zI (aM (Kd.R_lower (Kd.R_new' ho0 (Kd.R_lt (zR HO436))) (below_size zB))) (aM (below_step zB hb))); clear HO436 HB; obtain ⟨HO436, HO440, HB⟩ := n_; (try clear hb); (try clear ho0)))
     go_ret2
     exact ⟨zE, zB⟩
   ·rw [if_neg c7] at H
    have c7b0 : (t434 == 0) = false := beq_eq_false_iff_ne.mpr c7
    have c7b1 : (t434 != 0) = true := bne_iff_ne.mpr c7
    simp only [Option.some.injEq, Prod.mk.injEq] at H
    obtain ⟨rfl, rfl⟩ := H
    go_enter Try.func7, Try.ntmps7
    go_wp2_with (first | ((with_reducible refine gate_callee (f := 14) rfl ?_); refine goesL_ (some 12) rfl rfl Try.func14 zK rfl #[.int .i64 a0] rfl zM ?_; (with_reducible refine (prep_known.calls a0 true _ A3.out).mono ?_); rintro e w' ⟨rfl, ⟨nd, rfl⟩⟩; refine ⟨_, rfl, ?_⟩) | ((with_reducible refine gate_callee (f := 15) rfl ?_); refine goesL_ (some 20) rfl rfl Try.func15 zK rfl #[.string a1] rfl zM ?_; (with_reducible refine (utf_Runes.calls k a1 t432 t433 t434 _ A6.out).mono ?_); rintro e w19 ⟨v435, rfl, ho0, hb⟩; refine ⟨_, rfl, ?_⟩; have n_ := zI (aM (Kd.R_lower ho0 (below_size zB))) (aM (below_step zB hb)); clear HB; obtain ⟨HO436, HB⟩ := n_; (try clear hb); (try clear ho0)))
    go_ret2
    exact ⟨zE, zB⟩
 ·replace c4 := Bool.eq_false_iff.mpr c4
  subst c4
  rw [if_neg (show ¬ (false = true) by decide)] at H
  simp only [Option.some.injEq, Prod.mk.injEq] at H
  obtain ⟨rfl, rfl⟩ := H
  go_enter Try.func7, Try.ntmps7
  go_wp2_with (first | ((with_reducible refine gate_callee (f := 14) rfl ?_); refine goesL_ (some 12) rfl rfl Try.func14 zK rfl #[.int .i64 a0] rfl zM ?_; (with_reducible refine (prep_known.calls a0 false _ A3.out).mono ?_); rintro e w' ⟨rfl, ⟨nd, rfl⟩⟩; refine ⟨_, rfl, ?_⟩))
  go_ret2
  exact ⟨zE, zB⟩

/-! ### prep_Prepared: function 8 -/
def prep_Prepared.f (k : Nat) (a0 : Int) (a1 : ByteArray) : Option (Bool) := (prep_Value.f k a0 a1).bind fun bt443 => (if bt443.2 = 0 then (some (bt443.1.toList == a1.toList)) else (some false))
theorem prep_Prepared.mono : ∀ a0 a1 k, LeO (prep_Prepared.f k a0 a1) (prep_Prepared.f (k + 1) a0 a1) := by
 intro a0 a1 k
 unfold prep_Prepared.f
 repeat' first
   | (with_reducible exact prep_Value.mono _ _ _)
   | (with_reducible exact LeO.refl _)
   | exact prep_Value.mono _ _ _
   | exact LeO.none _
   | refine LeO.ite ?_ ?_
   | refine LeO.bind ?_ (fun _ => ?_)
set_option maxHeartbeats 8000000 in
set_option maxRecDepth 100000 in
theorem prep_Prepared.calls (k : Nat) (a0 : Int) (a1 : ByteArray) (r : Bool) (w : World) (h : prep_Prepared.f k a0 a1 = some r) :
  Calls Try.prog 8 #[.int .i64 a0, .string a1] w fun e w' => e = .returned (.bool r) ∧ Below w.heap.size w w' := by
 have HB := aM (Below.refl w.heap.size w)
 have H := h
 clear h
 unfold prep_Prepared.f at H
 obtain ⟨⟨t443, t444⟩, A3, H⟩ := zO H
 try dsimp only at H
 by_cases c4 : t444 = 0
 ·rw [if_pos c4] at H
  have c4b0 : (t444 == 0) = true := beq_iff_eq.mpr c4
  have c4b1 : (t444 != 0) = false := bne_eq_false_iff_eq.mpr c4
  clear c4
  obtain rfl := sI H
  go_enter Try.func8, Try.ntmps8
  go_wp2_with (first | ((with_reducible refine gate_callee (f := 7) rfl ?_); refine goesL_ (some 10) rfl rfl Try.func7 zK rfl #[.int .i64 a0, .string a1] rfl zM ?_; (with_reducible refine (prep_Value.calls k a0 a1 t443 t444 _ A3.out).mono ?_); rintro e w5 ⟨rfl, hb⟩; refine ⟨_, rfl, ?_⟩; replace HB := aM (below_step zB hb); (try clear hb)))
  go_ret
  exact ⟨zE, zB⟩
 ·rw [if_neg c4] at H
  have c4b0 : (t444 == 0) = false := beq_eq_false_iff_ne.mpr c4
  have c4b1 : (t444 != 0) = true := bne_iff_ne.mpr c4
  obtain rfl := sI H
  go_enter Try.func8, Try.ntmps8
  go_wp2_with (first | ((with_reducible refine gate_callee (f := 7) rfl ?_); refine goesL_ (some 10) rfl rfl Try.func7 zK rfl #[.int .i64 a0, .string a1] rfl zM ?_; (with_reducible refine (prep_Value.calls k a0 a1 t443 t444 _ A3.out).mono ?_); rintro e w6 ⟨rfl, hb⟩; refine ⟨_, rfl, ?_⟩; replace HB := aM (below_step zB hb); (try clear hb)))
  go_ret
  exact ⟨zE, zB⟩

/-! ### prep_Same: function 9, by hand (prep.Same.tpl) -/
section
variable {P : Program} {ops : Array Oper} {Q : Exit → Act → World → Prop}
theorem run_free {oi : Oper} {a : Act} {w : World} {x : Tmp} {f : FuncId} {fr : Array Value} {fn : Func} {xs : Array Operand} {ts : Array TypeId} (hx : a.eval (.tmp x) = .func (.func f) #[] fr) (hf : P.funcs[f]? = some fn) (hname : (fn.name == "runtime.NumGoroutine") = false) (hb : fn.body.isSome = true) (args : Array Value)
    (hop : oi.op = .call { callee := .value (.tmp x), args := xs, argTypes := ts }) (hargs : xs.map a.eval ++ fr = args) : (execOp a.eval oi).run P w = .ok (.enter f args) w := by
  have he := enters_ hf hname hb args w
  unfold execOp
  simp [hop, resolve, Deferred.ofValue, invoke, hx, hargs, he]
theorem goesLF_ {rest : List Oper} {oi : Oper} {a : Act} {w : World} (N : Option Tmp) {x : Tmp} {f : FuncId} {fr : Array Value} (hx : a.eval (.tmp x) = .func (.func f) #[] fr) (hd : oi.dst = N) (hg : oi.guard = none) {fn : Func} {xs : Array Operand} {ts : Array TypeId} (hf : P.funcs[f]? = some fn) (hname : (fn.name == "runtime.NumGoroutine") = false) (hb : fn.body.isSome = true) (args : Array Value)
    (hop : oi.op = .call { callee := .value (.tmp x), args := xs, argTypes := ts }) (hargs : xs.map a.eval ++ fr = args)
    (h : Calls P f args w fun e w' => ∃ v, e = .returned v ∧ wpList P ops Q rest (a.put N v) w') : wpList P ops Q (oi :: rest) a w := by
  refine wpList_plain hg fun K hK => ?_
  unfold Oper.wp
  rw [run_free hx hf hname hb args hop hargs, Oper.upon_enter]
  refine h.mono fun e w'' hh => ?_
  obtain ⟨v, rfl, hk⟩ := hh
  subst hd
  exact hK _ _ hk
end
def prep_Same.g (k : Nat) (way : Int) : List ByteArray → Int → Bool → ByteArray → Option (Bool × Int)
  | [], _, same, _ => some (same, 0)
  | s :: r, i, same, first => (prep_Value.f k way s).bind fun t => if t.2 = 0 then prep_Same.g k way r (i + 1) (same && (t.1.toList == (if i = 0 then t.1 else first).toList)) (if i = 0 then t.1 else first) else some (false, t.2)
def prep_Same.f (k : Nat) (a0 : Int) (l1 : List ByteArray) : Option (Bool × Int) := (prep_known.f a0).bind fun b => if b = true then prep_Same.g k a0 l1 0 true ⟨#[]⟩ else some (false, 2)
theorem prep_Same.mono_g (k : Nat) (way : Int) : ∀ l i same first, LeO (prep_Same.g k way l i same first) (prep_Same.g (k + 1) way l i same first)
  | [], _, _, _ => LeO.refl _
  | s :: r, i, same, first => LeO.bind (prep_Value.mono _ _ _) (fun t => by
    split
    · exact prep_Same.mono_g k way r _ _ _
    · exact LeO.refl _)
theorem prep_Same.mono : ∀ a0 l1 k, LeO (prep_Same.f k a0 l1) (prep_Same.f (k + 1) a0 l1) := by
  intro a0 l1 k
  unfold prep_Same.f
  refine LeO.bind (LeO.refl _) (fun b => ?_)
  split
  · exact prep_Same.mono_g k a0 l1 _ _ _
  · exact LeO.refl _
set_option maxHeartbeats 8000000 in
set_option maxRecDepth 100000 in
theorem prep_Same.in (k : Nat) (way i : Int) (s first F : ByteArray) (same : Bool) (g2 g6 g7 : Nat) (t2 t6 t7 : TypeId) (r1 : ByteArray) (r2 : Int) (w0 w : World) (h2 : w.heap[g2]? = some (.cells #[.int .i64 way] t2 (0, 0))) (h6 : w.heap[g6]? = some (.cells #[.bool same] t6 (0, 0))) (h7 : w.heap[g7]? = some (.cells #[.string first] t7 (0, 0)))
    (n26 : g2 ≠ g6) (n27 : g2 ≠ g7) (n67 : g6 ≠ g7) (HB : Below w0.heap.size w0 w) (H6 : w0.heap.size ≤ g6) (H7 : w0.heap.size ≤ g7) (h : prep_Value.f k way s = some (r1, r2)) (hF : F = if i = 0 then r1 else first) :
    Calls Try.prog 18 #[.int .i64 i, .string s, .pointer (some ⟨g2, 0, none⟩), .pointer (some ⟨g7, 0, none⟩), .pointer (some ⟨g6, 0, none⟩)] w fun e w' => e = .returned (.int .i64 r2) ∧ w'.heap[g2]? = some (.cells #[.int .i64 way] t2 (0, 0)) ∧ w'.heap[g6]? = some (.cells #[.bool (same && (r1.toList == F.toList))] t6 (0, 0)) ∧ w'.heap[g7]? = some (.cells #[.string F] t7 (0, 0)) ∧ Below w0.heap.size w0 w' := by
  have c2 : w.cell? ⟨g2, 0, none⟩ = some (.int .i64 way) := blk_cell h2 0
  have HS := Aside0.mk (fun (w' : World) => prep_Value.calls k way s r1 r2 w' h)
  have key := Aside0.mk (fun (w1 : World) (hb : Below w.heap.size w w1) => (show w1.heap[g2]? = some (.cells #[.int .i64 way] t2 (0, 0)) ∧ w1.heap[g6]? = some (.cells #[.bool same] t6 (0, 0)) ∧ w1.heap[g7]? = some (.cells #[.string first] t7 (0, 0)) ∧ Below w0.heap.size w0 w1 from
    ⟨(hb.block g2 (blk_lt h2)).trans h2, (hb.block g6 (blk_lt h6)).trans h6, (hb.block g7 (blk_lt h7)).trans h7, below_step HB hb⟩))
  have N26 := Aside0.mk n26
  have N27 := Aside0.mk n27
  have N67 := Aside0.mk n67
  have G6 := Aside0.mk H6
  have G7 := Aside0.mk H7
  have HF := Aside0.mk hF
  clear h h2 h6 h7 n26 n27 n67 HB H6 H7 hF
  by_cases i0 : i = 0
  · have b1 : decide (i = 0) = true := decide_eq_true i0
    have b2 : (i == 0) = true := by simp [i0]
    have eF : F = r1 := by rw [HF.out, if_pos i0]
    subst eF
    subst i0
    cases same
    all_goals
      go_enter Try.func18, Try.ntmps18
      go_wp2_with (first | ((with_reducible refine gate_callee (f := 7) rfl ?_); refine goesL_ (some 13) rfl rfl Try.func7 zK rfl #[.int .i64 way, .string s] rfl zM ?_; (with_reducible refine (HS.out _).mono ?_); rintro e w1 ⟨rfl, hb⟩; refine ⟨_, rfl, ?_⟩; have hk := key.out w1 hb; have K2 := Aside0.mk hk.1; have K6 := Aside0.mk hk.2.1; have K7 := Aside0.mk hk.2.2.1; have KB := Aside0.mk hk.2.2.2; have f7 : w1.frozen? ⟨g7, 0, none⟩ = false := blk_frozen K7.out 0; have j7 : w1.cell? ⟨g7, 0, none⟩ = some (.string first) := blk_cell K7.out 0; have L6 := Aside0.mk ((Below.heap_setCell w1 ⟨g7, 0, none⟩ (.string F) g6 N67.out).trans K6.out); have L7 := Aside0.mk (blk_set K7.out 0 (.string F)); have l6 := (blk_cell L6.out 0); have l7 := blk_cell L7.out 0; have q6 := blk_frozen L6.out 0; have L2 := Aside0.mk ((Below.heap_setCell w1 ⟨g7, 0, none⟩ (.string F) g2 N27.out).trans K2.out); have LB := Aside0.mk (below_set (v := .string F) (j := 0) KB.out G7.out); simp only [List.getElem?_toArray, List.getElem?_cons_zero, List.setIfInBounds_toArray, List.set_cons_zero] at l6 l7; clear hk hb))
      go_ret
      refine ⟨rfl, (Below.heap_setCell _ ⟨g6, 0, none⟩ _ g2 N26.out).trans L2.out, ?_, (Below.heap_setCell _ ⟨g6, 0, none⟩ _ g7 (Ne.symm N67.out)).trans L7.out, below_set LB.out G6.out⟩
      first | (have := blk_set L6.out 0 (.bool (F.toList == F.toList)); first | exact this | (simpa using this)) | (have := blk_set L6.out 0 (.bool false); first | exact this | (simpa using this))
  · have b1 : decide (i = 0) = false := decide_eq_false i0
    have b2 : (i == 0) = false := by simp [i0]
    have eF : F = first := by rw [HF.out, if_neg i0]
    subst eF
    clear i0
    cases same
    all_goals
      go_enter Try.func18, Try.ntmps18
      go_wp2_with (first | ((with_reducible refine gate_callee (f := 7) rfl ?_); refine goesL_ (some 13) rfl rfl Try.func7 zK rfl #[.int .i64 way, .string s] rfl zM ?_; (with_reducible refine (HS.out _).mono ?_); rintro e w1 ⟨rfl, hb⟩; refine ⟨_, rfl, ?_⟩; have hk := key.out w1 hb; have K2 := Aside0.mk hk.1; have K6 := Aside0.mk hk.2.1; have K7 := Aside0.mk hk.2.2.1; have KB := Aside0.mk hk.2.2.2; have l6 := blk_cell K6.out 0; have l7 := blk_cell K7.out 0; have q6 := blk_frozen K6.out 0; simp only [List.getElem?_toArray, List.getElem?_cons_zero] at l6 l7; clear hk hb))
      go_ret
      refine ⟨rfl, (Below.heap_setCell _ ⟨g6, 0, none⟩ _ g2 N26.out).trans K2.out, ?_, (Below.heap_setCell _ ⟨g6, 0, none⟩ _ g7 (Ne.symm N67.out)).trans K7.out, below_set KB.out G6.out⟩
      first | (have := blk_set K6.out 0 (.bool (r1.toList == F.toList)); first | exact this | (simpa using this)) | (have := blk_set K6.out 0 (.bool false); first | exact this | (simpa using this))
theorem below_n {B : Nat} {w w1 : World} (h : Below B w w1) (n : Nat) : Below B w (w1.drewN n) := pw_below_drewN h n
set_option maxHeartbeats 8000000 in
set_option maxRecDepth 100000 in
theorem prep_Same.calls (k : Nat) (a0 : Int) (A1 : Option Addr) (c1 : Nat) (l1 : List ByteArray) (r1 : Bool) (r2 : Int) (w : World) (hr1 : Kd.C Kd.string w A1 l1.length l1) (hc1 : l1.length ≤ c1) (h : prep_Same.f k a0 l1 = some (r1, r2)) :
    Calls Try.prog 9 #[.int .i64 a0, .slice A1 l1.length c1] w fun e w' => e = .returned (.tuple #[.bool r1, .int .i64 r2]) ∧ Below w.heap.size w w' := by
  have hlen : l1.length ≤ 9223372036854775807 := hr1.2.1
  unfold prep_Same.f at h
  obtain ⟨b, h1, h⟩ := Option.bind_eq_some_iff.mp h
  have HR := Aside0.mk hr1
  have H1 := Aside0.mk h1
  have HL := Aside0.mk hlen
  clear hr1 h1 hlen hc1
  cases b with
  | false =>
    simp only [Bool.false_eq_true, if_false, Option.some.injEq, Prod.mk.injEq] at h
    obtain ⟨rfl, rfl⟩ := h
    go_enter Try.func9, Try.ntmps9
    go_wp2_with (first | ((with_reducible refine gate_dst (N := 2) rfl ?_); refine box_event ?hg (N := 2) ?hd (cs := #[.int .i64 a0]) (t := 3) ?hr ?_; (case hd => rfl); (case hg => rfl); (case hr => first | (go_simp; done) | (go_simp; rfl)); intro g2 hg2 w1 hbox hb; have HB1 := Aside0.mk hb; have K1 := Aside0.mk hbox; have G2 := Aside0.mk hg2; have j2 := (blk_cell hbox 0 : w1.cell? ⟨g2, 0, none⟩ = some (.int .i64 a0)); clear hb hbox hg2) | ((with_reducible refine gate_callee (f := 14) rfl ?_); refine goesL_ (some 13) rfl rfl Try.func14 zK rfl #[.int .i64 a0] rfl zM ?_; (with_reducible refine (prep_known.calls a0 false _ H1.out).mono ?_); rintro e w' ⟨rfl, ⟨nd, rfl⟩⟩; refine ⟨_, rfl, ?_⟩))
    go_ret2
    exact ⟨by first | rfl | (simp; done) | (simp [*]; done), by repeat (first | exact HB1.out | apply below_n)⟩
  | true =>
    simp only [if_true] at h
    have H := Aside0.mk h
    clear h
    go_enter Try.func9, Try.ntmps9
    go_wp2_with (first | ((with_reducible refine gate_dst (N := 2) rfl ?_); refine box_event ?hg (N := 2) ?hd (cs := #[.int .i64 a0]) (t := 3) ?hr ?_; (case hd => rfl); (case hg => rfl); (case hr => first | (go_simp; done) | (go_simp; rfl)); intro g2 hg2 w1 hbox hb; have HB1 := Aside0.mk hb; have K1 := Aside0.mk hbox; have G2 := Aside0.mk hg2; have j2 := (blk_cell hbox 0 : w1.cell? ⟨g2, 0, none⟩ = some (.int .i64 a0)); clear hb hbox hg2) | ((with_reducible refine gate_callee (f := 14) rfl ?_); refine goesL_ (some 13) rfl rfl Try.func14 zK rfl #[.int .i64 a0] rfl zM ?_; (with_reducible refine (prep_known.calls a0 true _ H1.out).mono ?_); rintro e w' ⟨rfl, ⟨nd, rfl⟩⟩; refine ⟨_, rfl, ?_⟩) | ((with_reducible refine gate_dst (N := 6) rfl ?_); refine box_event ?hg (N := 6) ?hd (cs := #[.bool false]) (t := 4) ?hr ?_; (case hd => rfl); (case hg => rfl); (case hr => first | (go_simp; done) | (go_simp; rfl)); intro g6 hg6 w2 hbox hb; have S1 : Aside0 (w.heap.size ≤ g6) := Aside0.mk (by have := HB1.out.size; have e_ := hg6; simp only [World.drewN, Array.size] at e_; first | omega | (rw [hg6]; exact HB1.out.size)); have K2 := Aside0.mk ((hb.block g2 (blk_lt K1.out)).trans K1.out); have N26 := Aside0.mk (show g2 ≠ g6 from by rw [hg6]; exact Nat.ne_of_lt (blk_lt K1.out)); have HB2 := Aside0.mk (below_step (by exact below_n HB1.out _) hb); have K6 := Aside0.mk hbox; clear hb hbox hg6) | ((with_reducible refine gate_dst (N := 7) rfl ?_); refine box_event ?hg (N := 7) ?hd (cs := #[.string ⟨#[]⟩]) (t := 9) ?hr ?_; (case hd => rfl); (case hg => rfl); (case hr => first | (go_simp; done) | (go_simp; rfl)); intro g7 hg7 w3 hbox hb; have S7 : Aside0 (w.heap.size ≤ g7) := Aside0.mk (by rw [hg7]; exact HB2.out.size); have K3 := Aside0.mk ((hb.block g2 (blk_lt K2.out)).trans K2.out); have N27 := Aside0.mk (show g2 ≠ g7 from by rw [hg7]; exact Nat.ne_of_lt (blk_lt K2.out)); have N67 := Aside0.mk (show g6 ≠ g7 from by rw [hg7]; exact Nat.ne_of_lt (blk_lt K6.out)); have K63 := Aside0.mk ((hb.block g6 (blk_lt K6.out)).trans K6.out); have HB3 := Aside0.mk (below_step HB2.out hb); have K7 := Aside0.mk hbox; clear hb hbox hg7; have f6 := (blk_frozen K63.out 0 : w3.frozen? ⟨g6, 0, none⟩ = false); have j6 := (blk_cell K63.out 0 : w3.cell? ⟨g6, 0, none⟩ = some (.bool false)); have L7 := Aside0.mk ((Below.heap_setCell w3 ⟨g6, 0, none⟩ (.bool true) g7 (Ne.symm N67.out)).trans K7.out); have f7 := (blk_frozen L7.out 0 : (w3.setCell ⟨g6, 0, none⟩ (.bool true)).frozen? ⟨g7, 0, none⟩ = false); have j7 := (blk_cell L7.out 0 : (w3.setCell ⟨g6, 0, none⟩ (.bool true)).cell? ⟨g7, 0, none⟩ = some (.string ⟨#[]⟩))))
    have J2 := Aside0.mk ((Below.heap_setCell (w3.setCell ⟨g6, 0, none⟩ (.bool true)) ⟨g7, 0, none⟩ (.string ⟨#[]⟩) g2 N27.out).trans ((Below.heap_setCell w3 ⟨g6, 0, none⟩ (.bool true) g2 N26.out).trans K3.out))
    have J6 := Aside0.mk ((Below.heap_setCell (w3.setCell ⟨g6, 0, none⟩ (.bool true)) ⟨g7, 0, none⟩ (.string ⟨#[]⟩) g6 N67.out).trans (blk_set K63.out 0 (.bool true)))
    have J7 := Aside0.mk (blk_set L7.out 0 (.string ⟨#[]⟩))
    have JB := Aside0.mk (below_set (v := .string ⟨#[]⟩) (j := 0) (below_set (v := .bool true) (j := 0) HB3.out S1.out) S7.out)
    generalize ((w3.setCell ⟨g6, 0, none⟩ (.bool true)).setCell ⟨g7, 0, none⟩ (.string ⟨#[]⟩)) = w4 at J2 J6 J7 JB ⊢
    clear K1 K2 K3 K6 K63 K7 L7 HB1 HB2 HB3 j2 f6 j6 f7 j7
    go_loopg [18] (l1.length + 1) (fun kq v18 w' => ∃ (x18 : Int) (same : Bool) (first : ByteArray), v18 = .int .i64 x18 ∧ Aside0 (0 ≤ x18 ∧ x18 ≤ l1.length ∧ kq + x18.toNat = l1.length + 1) ∧ Aside0 (prep_Same.g k a0 (l1.drop x18.toNat) x18 same first = some (r1, r2)) ∧ Aside0 (w'.heap[g2]? = some (.cells #[.int .i64 a0] 3 (0, 0))) ∧ Aside0 (w'.heap[g6]? = some (.cells #[.bool same] 4 (0, 0))) ∧ Aside0 (w'.heap[g7]? = some (.cells #[.string first] 9 (0, 0))) ∧ Aside0 (Below w.heap.size w w'))
    case atStart => exact ⟨0, true, ⟨#[]⟩, rfl, ⟨by simp⟩, ⟨by simpa using H.out⟩, J2, ⟨by simpa using J6.out⟩, ⟨by simpa using J7.out⟩, JB⟩
    case round =>
      obtain ⟨x18, same, first, rfl, HX, HA, I2, I6, I7, IB⟩ := hrel
      clear J2 J6 J7 JB H
      have hx := HX.out
      obtain ⟨p0, p1, p2⟩ := hx
      cases gk with
      | zero => omega
      | succ k1 =>
        clear HX
        by_cases c : x18 < (l1.length : Int)
        · have cb : decide (x18 < (l1.length : Int)) = true := decide_eq_true c
          have hC := Kd.C_below HR.out IB.out
          obtain ⟨ad, e_, hx0⟩ := Kd.at_string hC x18 p0 c
          cases e_
          have hi : x18.toNat < l1.length := by omega
          have hq0 : rdOf ByteArray.empty l1 x18 = l1[x18.toNat] := by
            unfold rdOf
            rw [List.getD_eq_getElem?_getD, List.getElem?_eq_getElem hi]
            rfl
          have hdr : l1.drop x18.toNat = l1[x18.toNat] :: l1.drop (x18 + 1).toNat := by
            rw [show (x18 + 1).toNat = x18.toNat + 1 by omega]
            exact List.drop_eq_getElem_cons hi
          have hA := HA.out
          clear HA
          rw [hdr, prep_Same.g] at hA
          rw [hq0] at hx0
          revert hA hx0
          generalize l1[x18.toNat] = q
          intro hx0 hA
          clear hq0 hdr hi hC
          obtain ⟨⟨x1, x2⟩, hv, hA⟩ := Option.bind_eq_some_iff.mp hA
          have HC := Aside0.mk (fun (w' : World) h2 h6 h7 HB => prep_Same.in k a0 x18 q first (if x18 = 0 then x1 else first) same g2 g6 g7 3 4 9 x1 x2 w w' h2 h6 h7 N26.out N27.out N67.out HB S1.out S7.out hv rfl)
          have HQ := Aside0.mk hA
          clear hA hv
          by_cases cx : x2 = 0
          · have hA := HQ.out
            dsimp only at hA
            rw [if_pos cx] at hA
            have HA := Aside0.mk hA
            subst cx
            have h81 := HL.out
            have p17 : 0 ≤ x18 + 1 := by omega
            have q17 : x18 + 1 ≤ (l1.length : Int) := by omega
            have s17 : k1 + (x18 + 1).toNat = l1.length + 1 := by omega
            have r17 : x18 ≤ 9223372036854775806 := by omega
            have HP := Aside0.mk (And.intro p17 (And.intro q17 s17))
            clear hA HQ p17 q17 s17
            go_wp2_with (first | (with_reducible refine gate_dst (N := 99) rfl ?_))
            refine (HC.out _ I2.out I6.out I7.out IB.out).mono ?_
            rintro e w5 ⟨rfl, h2_, h6_, h7_, hb_⟩
            have I2' := Aside0.mk h2_
            have I6' := Aside0.mk h6_
            have I7' := Aside0.mk h7_
            have IB' := Aside0.mk hb_
            clear h2_ h6_ h7_ hb_ I2 I6 I7 IB
            go_wp2_with (first | (with_reducible refine gate_dst (N := 99) rfl ?_))
            go_roundg k1
            case measure => have := HP.out; omega
            case rel => exact ⟨x18 + 1, _, _, zP, ⟨HP.out⟩, HA, I2', I6', I7', IB'⟩
          · have hA := HQ.out
            dsimp only at hA
            rw [if_neg cx, Option.some.injEq, Prod.mk.injEq] at hA
            obtain ⟨rfl, rfl⟩ := hA
            have d1 : (x2 == 0) = false := beq_eq_false_iff_ne.mpr cx
            have d2 : (x2 != 0) = true := bne_iff_ne.mpr cx
            clear HQ cx
            go_wp2_with (first | (with_reducible refine gate_dst (N := 99) rfl ?_))
            refine (HC.out _ I2.out I6.out I7.out IB.out).mono ?_
            rintro e w5 ⟨rfl, h2_, h6_, h7_, hb_⟩
            have I2' := Aside0.mk h2_
            have I6' := Aside0.mk h6_
            have I7' := Aside0.mk h7_
            have IB' := Aside0.mk hb_
            clear h2_ h6_ h7_ hb_ I2 I6 I7 IB
            go_wp2_with (first | (with_reducible refine gate_dst (N := 99) rfl ?_))
            go_ret2
            exact ⟨by first | rfl | (simp; done) | (simp [*]; done), IB'.out⟩
        · have cb : decide (x18 < (l1.length : Int)) = false := decide_eq_false c
          have hA := HA.out
          rw [List.drop_eq_nil_of_le (by omega), prep_Same.g, Option.some.injEq, Prod.mk.injEq] at hA
          obtain ⟨rfl, rfl⟩ := hA
          have j6 := (blk_cell I6.out 0 : wr.cell? ⟨g6, 0, none⟩ = some (.bool same))
          go_wp2
          go_ret2
          exact ⟨by first | rfl | (simp; done) | (simp [*]; done), by repeat (first | exact IB.out | apply below_n)⟩

/-! ### toponymlaw12_awake: function 6 -/
def toponymlaw12_awake.f (k : Nat)  : Option (Bool) := (prep_Value.f k 2 (⟨#[70, 117, 195, 159, 103, 195, 132, 110, 103, 101, 114, 194, 160, 32, 90, 111, 110, 101]⟩ : ByteArray)).bind fun bt445 => ((prep_Value.f k 1 (⟨#[239, 172, 129]⟩ : ByteArray)).bind fun bt447 => ((prep_Value.f k 3 (⟨#[49, 32, 50]⟩ : ByteArray)).bind fun bt449 => ((prep_Value.f k 2 (⟨#[238, 128, 128]⟩ : ByteArray)).bind fun bt451 => ((prep_Same.f k 4 (([(⟨#[43, 49, 32, 50, 45, 51]⟩ : ByteArray), (⟨#[43, 49, 50, 51]⟩ : ByteArray)] : List ByteArray))).bind fun bt456 => (if bt445.1.toList = ([32, 102, 117, 115, 115, 103, 195, 164, 110, 103, 101, 114, 32, 32, 122, 111, 110, 101, 32] : List UInt8) then (if bt445.2 = 0 then (if bt447.1.toList = ([32, 102, 105, 32] : List UInt8) then (if bt447.2 = 0 then (if bt449.1.toList = ([49, 50] : List UInt8) then (if bt449.2 = 0 then (if bt451.2 = 30 then (if bt456.1 = true then (if bt456.2 = 0 then ((prep_Prepared.f k 2 (⟨#[32, 97, 32]⟩ : ByteArray)).bind fun t458 => (if t458 = true then ((prep_Prepared.f k 2 (⟨#[97]⟩ : ByteArray)).bind fun t459 => (some (!t459))) else (some false))) else (some false)) else (some false)) else (some false)) else (some false)) else (some false)) else (some false)) else (some false)) else (some false)) else (some false))))))
theorem toponymlaw12_awake.mono : ∀ k, LeO (toponymlaw12_awake.f k ) (toponymlaw12_awake.f (k + 1) ) := by
 intro  k
 unfold toponymlaw12_awake.f
 repeat' first
   | (with_reducible exact prep_Prepared.mono _ _ _)
   | (with_reducible exact prep_Same.mono _ _ _)
   | (with_reducible exact prep_Value.mono _ _ _)
   | (with_reducible exact LeO.refl _)
   | exact prep_Prepared.mono _ _ _
   | exact prep_Same.mono _ _ _
   | exact prep_Value.mono _ _ _
   | exact LeO.none _
   | refine LeO.ite ?_ ?_
   | refine LeO.bind ?_ (fun _ => ?_)
set_option maxHeartbeats 8000000 in
set_option maxRecDepth 100000 in
theorem toponymlaw12_awake.calls (k : Nat)  (r : Bool) (w : World) (h : toponymlaw12_awake.f k  = some r) :
  Calls Try.prog 6 #[] w fun e w' => e = .returned (.bool r) ∧ Below w.heap.size w w' := by
 have hT := aM (yes_of toponymlaw12_awake.mono (n := 100) (by decide +kernel) h)
 have HB := aM (Below.refl w.heap.size w)
 have H := h
 clear h
 unfold toponymlaw12_awake.f at H
 obtain ⟨⟨t445, t446⟩, A1, H⟩ := zO H
 try dsimp only at H
 obtain ⟨⟨t447, t448⟩, A2, H⟩ := zO H
 try dsimp only at H
 obtain ⟨⟨t449, t450⟩, A3, H⟩ := zO H
 try dsimp only at H
 obtain ⟨⟨t451, t452⟩, A4, H⟩ := zO H
 try dsimp only at H
 obtain ⟨y453, hy453⟩ : ∃ y_ : List ByteArray, y_ = (([(⟨#[43, 49, 32, 50, 45, 51]⟩ : ByteArray), (⟨#[43, 49, 50, 51]⟩ : ByteArray)] : List ByteArray)) := ⟨_, rfl⟩
 replace H : ((prep_Same.f k 4 y453).bind fun bt456 => (if t445.toList = ([32, 102, 117, 115, 115, 103, 195, 164, 110, 103, 101, 114, 32, 32, 122, 111, 110, 101, 32] : List UInt8) then (if t446 = 0 then (if t447.toList = ([32, 102, 105, 32] : List UInt8) then (if t448 = 0 then (if t449.toList = ([49, 50] : List UInt8) then (if t450 = 0 then (if t452 = 30 then (if bt456.1 = true then (if bt456.2 = 0 then ((prep_Prepared.f k 2 (⟨#[32, 97, 32]⟩ : ByteArray)).bind fun t458 => (if t458 = true then ((prep_Prepared.f k 2 (⟨#[97]⟩ : ByteArray)).bind fun t459 => (some (!t459))) else (some false))) else (some false)) else (some false)) else (some false)) else (some false)) else (some false)) else (some false)) else (some false)) else (some false)) else (some false))) = some r := zY hy453 H
 have Ny453 := aM hy453
 clear hy453
 obtain ⟨⟨t456, t457⟩, A5, H⟩ := zO H
 try dsimp only at H
 by_cases c6 : t445.toList = ([32, 102, 117, 115, 115, 103, 195, 164, 110, 103, 101, 114, 32, 32, 122, 111, 110, 101, 32] : List UInt8)
 ·rw [if_pos c6] at H
  have c6b0 : (t445.toList == ([32, 102, 117, 115, 115, 103, 195, 164, 110, 103, 101, 114, 32, 32, 122, 111, 110, 101, 32] : List UInt8)) = true := beq_iff_eq.mpr c6
  have c6b1 : (t445.toList != ([32, 102, 117, 115, 115, 103, 195, 164, 110, 103, 101, 114, 32, 32, 122, 111, 110, 101, 32] : List UInt8)) = false := bne_eq_false_iff_eq.mpr c6
  clear c6
  by_cases c7 : t446 = 0
  ·rw [if_pos c7] at H
   have c7b0 : (t446 == 0) = true := beq_iff_eq.mpr c7
   have c7b1 : (t446 != 0) = false := bne_eq_false_iff_eq.mpr c7
   clear c7
   by_cases c8 : t447.toList = ([32, 102, 105, 32] : List UInt8)
   ·rw [if_pos c8] at H
    have c8b0 : (t447.toList == ([32, 102, 105, 32] : List UInt8)) = true := beq_iff_eq.mpr c8
    have c8b1 : (t447.toList != ([32, 102, 105, 32] : List UInt8)) = false := bne_eq_false_iff_eq.mpr c8
    clear c8
    by_cases c9 : t448 = 0
    ·rw [if_pos c9] at H
     have c9b0 : (t448 == 0) = true := beq_iff_eq.mpr c9
     have c9b1 : (t448 != 0) = false := bne_eq_false_iff_eq.mpr c9
     clear c9
     by_cases c10 : t449.toList = ([49, 50] : List UInt8)
     ·rw [if_pos c10] at H
      have c10b0 : (t449.toList == ([49, 50] : List UInt8)) = true := beq_iff_eq.mpr c10
      have c10b1 : (t449.toList != ([49, 50] : List UInt8)) = false := bne_eq_false_iff_eq.mpr c10
      clear c10
      by_cases c11 : t450 = 0
      ·rw [if_pos c11] at H
       have c11b0 : (t450 == 0) = true := beq_iff_eq.mpr c11
       have c11b1 : (t450 != 0) = false := bne_eq_false_iff_eq.mpr c11
       clear c11
       by_cases c12 : t452 = 30
       ·rw [if_pos c12] at H
        have c12b0 : (t452 == 30) = true := beq_iff_eq.mpr c12
        have c12b1 : (t452 != 30) = false := bne_eq_false_iff_eq.mpr c12
        clear c12
        by_cases c13 : t456 = true
        ·subst c13
         rw [if_pos rfl] at H
         by_cases c14 : t457 = 0
         ·rw [if_pos c14] at H
          have c14b0 : (t457 == 0) = true := beq_iff_eq.mpr c14
          have c14b1 : (t457 != 0) = false := bne_eq_false_iff_eq.mpr c14
          clear c14
          obtain ⟨t458, A15, H⟩ := zO H
          by_cases c16 : t458 = true
          ·subst c16
           rw [if_pos rfl] at H
           obtain ⟨t459, A17, H⟩ := zO H
           obtain rfl := sI H
           go_enter Try.func6, Try.ntmps6
           go_wp2_with (first | ((with_reducible refine gate_callee (f := 7) rfl ?_); refine goesL_ (some 12) rfl rfl Try.func7 zK rfl #[.int .i64 2, .string (⟨#[70, 117, 195, 159, 103, 195, 132, 110, 103, 101, 114, 194, 160, 32, 90, 111, 110, 101]⟩ : ByteArray)] rfl zM ?_; (with_reducible refine (prep_Value.calls k 2 (⟨#[70, 117, 195, 159, 103, 195, 132, 110, 103, 101, 114, 194, 160, 32, 90, 111, 110, 101]⟩ : ByteArray) t445 t446 _ A1.out).mono ?_); rintro e w18 ⟨rfl, hb⟩; (try clear A1); refine ⟨_, rfl, ?_⟩; replace HB := aM (below_step zB hb); (try clear hb); (try clear hk)) | ((with_reducible refine gate_callee (f := 7) rfl ?_); refine goesL_ (some 16) rfl rfl Try.func7 zK rfl #[.int .i64 1, .string (⟨#[239, 172, 129]⟩ : ByteArray)] rfl zM ?_; (with_reducible refine (prep_Value.calls k 1 (⟨#[239, 172, 129]⟩ : ByteArray) t447 t448 _ A2.out).mono ?_); rintro e w19 ⟨rfl, hb⟩; (try clear A2); refine ⟨_, rfl, ?_⟩; replace HB := aM (below_step zB hb); (try clear hb); (try clear hk)) | ((with_reducible refine gate_callee (f := 7) rfl ?_); refine goesL_ (some 20) rfl rfl Try.func7 zK rfl #[.int .i64 3, .string (⟨#[49, 32, 50]⟩ : ByteArray)] rfl zM ?_; (with_reducible refine (prep_Value.calls k 3 (⟨#[49, 32, 50]⟩ : ByteArray) t449 t450 _ A3.out).mono ?_); rintro e w20 ⟨rfl, hb⟩; (try clear A3); refine ⟨_, rfl, ?_⟩; replace HB := aM (below_step zB hb); (try clear hb); (try clear hk)) | ((with_reducible refine gate_callee (f := 7) rfl ?_); refine goesL_ (some 24) rfl rfl Try.func7 zK rfl #[.int .i64 2, .string (⟨#[238, 128, 128]⟩ : ByteArray)] rfl zM ?_; (with_reducible refine (prep_Value.calls k 2 (⟨#[238, 128, 128]⟩ : ByteArray) t451 t452 _ A4.out).mono ?_); rintro e w21 ⟨rfl, hb⟩; (try clear A4); refine ⟨_, rfl, ?_⟩; replace HB := aM (below_step zB hb); (try clear hb); (try clear hk)) | ((with_reducible refine gate_dst (N := 28) rfl ?_); refine Kd.R_lit Kd.string _ 9 ?hg (N := 28) ?hd (xs := ([(⟨#[43, 49, 32, 50, 45, 51]⟩ : ByteArray), (⟨#[43, 49, 50, 51]⟩ : ByteArray)] : List ByteArray)) (inner := [.string (⟨#[43, 49, 32, 50, 45, 51]⟩ : ByteArray), .string (⟨#[43, 49, 50, 51]⟩ : ByteArray)]) (ok := fun _ => True) (okp := fun _ => True) ?hr ?hp (fun _ hk => hk) trivial (Below.refl _ _) (Nat.le_refl _) (by simp) ?_; (case hd => rfl); (case hg => rfl); (case hr => first | (go_simp; done) | (go_simp; rfl)); (case hp => exact (Reps.one (show Kd.M Kd.string _ _ _ (⟨#[43, 49, 32, 50, 45, 51]⟩ : ByteArray) [.string (⟨#[43, 49, 32, 50, 45, 51]⟩ : ByteArray)] from rfl) (Reps.one (show Kd.M Kd.string _ _ _ (⟨#[43, 49, 50, 51]⟩ : ByteArray) [.string (⟨#[43, 49, 50, 51]⟩ : ByteArray)] from rfl) (Reps.none _ _)))); intro v454 w22 ho23 hb hg_ hnew_; clear hg_ hnew_; (first | rw [← Ny453.out] at ho23 | (simp only [Int.reduceToNat] at ho23; rw [← Ny453.out] at ho23)); have n_ := zI (aM (Kd.R_lower ho23 (below_size zB))) (aM (below_step zB hb)); clear HB; obtain ⟨HO455, HB⟩ := n_; clear hb ho23; obtain ⟨Ao24, co24, rfl⟩ := Kd.R_slice HO455.out) | ((with_reducible refine gate_callee (f := 9) rfl ?_); refine goesL_ (some 29) rfl rfl Try.func9 zK rfl #[.int .i64 4, .slice Ao24 y453.length co24] rfl zM ?_; (with_reducible refine (prep_Same.calls k 4 _ _ y453 true t457 _ ?side1 ?side2 A5.out).mono ?_); (case side1 => exact zC (Kd.R_reads' HO455.out).2.2); (case side2 => exact (Kd.R_reads' HO455.out).2.1); rintro e w25 ⟨rfl, hb⟩; refine ⟨_, rfl, ?_⟩; have n_ := zI (aM (Kd.R_below (zR HO455) hb)) (aM (below_step zB hb)); clear HO455 HB; obtain ⟨HO455, HB⟩ := n_; (try clear hb); (try clear hk)) | (go_at_call 8; (with_reducible refine (prep_Prepared.calls k 2 (⟨#[32, 97, 32]⟩ : ByteArray) true _ A15.out).mono ?_); rintro e w26 ⟨rfl, hb⟩; (try clear A15); have n_ := zI (aM (Kd.R_below (zR HO455) hb)) (aM (below_step zB hb)); clear HO455 HB; obtain ⟨HO455, HB⟩ := n_; (try clear hb); (try clear hk)) | (go_at_call 8; (with_reducible refine (prep_Prepared.calls k 2 (⟨#[97]⟩ : ByteArray) t459 _ A17.out).mono ?_); rintro e w27 ⟨rfl, hb⟩; (try clear A17); have n_ := zI (aM (Kd.R_below (zR HO455) hb)) (aM (below_step zB hb)); clear HO455 HB; obtain ⟨HO455, HB⟩ := n_; (try clear hb); (try clear hk)))
           go_ret
           exact ⟨zE, zB⟩
          ·replace c16 := Bool.eq_false_iff.mpr c16
           subst c16
           rw [if_neg (show ¬ (false = true) by decide)] at H
           exact absurd ((sI H).trans hT.out) (by decide)
         ·rw [if_neg c14] at H
          exact absurd ((sI H).trans hT.out) (by decide)
        ·replace c13 := Bool.eq_false_iff.mpr c13
         subst c13
         rw [if_neg (show ¬ (false = true) by decide)] at H
         exact absurd ((sI H).trans hT.out) (by decide)
       ·rw [if_neg c12] at H
        exact absurd ((sI H).trans hT.out) (by decide)
      ·rw [if_neg c11] at H
       exact absurd ((sI H).trans hT.out) (by decide)
     ·rw [if_neg c10] at H
      exact absurd ((sI H).trans hT.out) (by decide)
    ·rw [if_neg c9] at H
     exact absurd ((sI H).trans hT.out) (by decide)
   ·rw [if_neg c8] at H
    exact absurd ((sI H).trans hT.out) (by decide)
  ·rw [if_neg c7] at H
   exact absurd ((sI H).trans hT.out) (by decide)
 ·rw [if_neg c6] at H
  exact absurd ((sI H).trans hT.out) (by decide)
/-! ### toponymlaw12_PrepAgain: function 3 -/
def toponymlaw12_PrepAgain.f (k : Nat) (a0 : Int) (a1 : ByteArray) : Option (Bool) := if (a1.size : Int) > 300 then ((toponymlaw12_awake.f k).bind fun t460 => (some t460)) else ((prep_Value.f k a0 a1).bind fun bt461 => (if bt461.2 = 0 then ((prep_Value.f k a0 bt461.1).bind fun bt463 => (if bt463.1.toList = bt461.1.toList then (if bt463.2 = 0 then ((prep_Prepared.f k a0 bt461.1).bind fun t465 => (if t465 = true then ((toponymlaw12_awake.f k).bind fun t466 => (some t466)) else (some false))) else (some false)) else (some false))) else (if bt461.1.toList = ([] : List UInt8) then ((toponymlaw12_awake.f k).bind fun t467 => (some t467)) else (some false))))
theorem toponymlaw12_PrepAgain.mono : ∀ a0 a1 k, LeO (toponymlaw12_PrepAgain.f k a0 a1) (toponymlaw12_PrepAgain.f (k + 1) a0 a1) := by
 intro a0 a1 k
 unfold toponymlaw12_PrepAgain.f
 repeat' first
   | (with_reducible exact prep_Prepared.mono _ _ _)
   | (with_reducible exact prep_Value.mono _ _ _)
   | (with_reducible exact toponymlaw12_awake.mono _)
   | (with_reducible exact LeO.refl _)
   | exact prep_Prepared.mono _ _ _
   | exact prep_Value.mono _ _ _
   | exact toponymlaw12_awake.mono _
   | exact LeO.none _
   | refine LeO.ite ?_ ?_
   | refine LeO.bind ?_ (fun _ => ?_)
set_option maxHeartbeats 8000000 in
set_option maxRecDepth 100000 in
theorem toponymlaw12_PrepAgain.calls (k : Nat) (a0 : Int) (a1 : ByteArray) (r : Bool) (w : World) (h : toponymlaw12_PrepAgain.f k a0 a1 = some r) (hT_ : r = true) :
  Calls Try.prog 3 #[.int .i64 a0, .string a1] w fun e w' => e = .returned (.bool r) ∧ Below w.heap.size w w' := by
 have hT := aM hT_
 clear hT_
 have HB := aM (Below.refl w.heap.size w)
 have H := h
 clear h
 unfold toponymlaw12_PrepAgain.f at H
 by_cases c3 : (a1.size : Int) > 300
 ·rw [if_pos c3] at H
  have c3b0 : decide (300 < (a1.size : Int)) = true := decide_eq_true c3
  have c3b1 : decide (300 < a1.size) = true := decide_eq_true (by omega)
  clear c3
  obtain ⟨t460, A4, H⟩ := zO H
  obtain rfl := sI H
  go_enter Try.func3, Try.ntmps3
  go_wp2_with (first | ((with_reducible refine gate_callee (f := 6) rfl ?_); refine goesL_ (some 12) rfl rfl Try.func6 zK rfl #[] rfl zM ?_; (with_reducible refine (toponymlaw12_awake.calls k  t460 _ A4.out).mono ?_); rintro e w5 ⟨rfl, hb⟩; (try clear A4); refine ⟨_, rfl, ?_⟩; replace HB := aM (below_step zB hb); (try clear hb)))
  go_ret
  exact ⟨zE, zB⟩
 ·rw [if_neg c3] at H
  have c3b0 : decide (300 < (a1.size : Int)) = false := decide_eq_false c3
  have c3b1 : decide (300 < a1.size) = false := decide_eq_false (by omega)
  clear c3
  obtain ⟨⟨t461, t462⟩, A6, H⟩ := zO H
  try dsimp only at H
  by_cases c7 : t462 = 0
  ·rw [if_pos c7] at H
   have c7b0 : (t462 == 0) = true := beq_iff_eq.mpr c7
   have c7b1 : (t462 != 0) = false := bne_eq_false_iff_eq.mpr c7
   clear c7
   obtain ⟨⟨t463, t464⟩, A8, H⟩ := zO H
   try dsimp only at H
   by_cases c9 : t463.toList = t461.toList
   ·rw [if_pos c9] at H
    have c9b0 : (t463.toList == t461.toList) = true := beq_iff_eq.mpr c9
    have c9b1 : (t463.toList != t461.toList) = false := bne_eq_false_iff_eq.mpr c9
    clear c9
    by_cases c10 : t464 = 0
    ·rw [if_pos c10] at H
     have c10b0 : (t464 == 0) = true := beq_iff_eq.mpr c10
     have c10b1 : (t464 != 0) = false := bne_eq_false_iff_eq.mpr c10
     clear c10
     obtain ⟨t465, A11, H⟩ := zO H
     by_cases c12 : t465 = true
     ·subst c12
      rw [if_pos rfl] at H
      obtain ⟨t466, A13, H⟩ := zO H
      obtain rfl := sI H
      go_enter Try.func3, Try.ntmps3
      go_wp2_with (first | ((with_reducible refine gate_callee (f := 7) rfl ?_); refine goesL_ (some 16) rfl rfl Try.func7 zK rfl #[.int .i64 a0, .string a1] rfl zM ?_; (with_reducible refine (prep_Value.calls k a0 a1 t461 t462 _ A6.out).mono ?_); rintro e w14 ⟨rfl, hb⟩; (try clear A6); refine ⟨_, rfl, ?_⟩; replace HB := aM (below_step zB hb); (try clear hb)) | ((with_reducible refine gate_callee (f := 7) rfl ?_); refine goesL_ (some 29) rfl rfl Try.func7 zK rfl #[.int .i64 a0, .string t461] rfl zM ?_; (with_reducible refine (prep_Value.calls k a0 t461 t463 t464 _ A8.out).mono ?_); rintro e w15 ⟨rfl, hb⟩; (try clear A8); refine ⟨_, rfl, ?_⟩; replace HB := aM (below_step zB hb); (try clear hb)) | (go_at_call 8; (with_reducible refine (prep_Prepared.calls k a0 t461 true _ A11.out).mono ?_); rintro e w16 ⟨rfl, hb⟩; replace HB := aM (below_step zB hb); (try clear hb)) | (go_at_call 6; (with_reducible refine (toponymlaw12_awake.calls k  t466 _ A13.out).mono ?_); rintro e w17 ⟨rfl, hb⟩; (try clear A13); replace HB := aM (below_step zB hb); (try clear hb)))
      go_ret
      exact ⟨zE, zB⟩
     ·replace c12 := Bool.eq_false_iff.mpr c12
      subst c12
      rw [if_neg (show ¬ (false = true) by decide)] at H
      exact absurd ((sI H).trans hT.out) (by decide)
    ·rw [if_neg c10] at H
     exact absurd ((sI H).trans hT.out) (by decide)
   ·rw [if_neg c9] at H
    exact absurd ((sI H).trans hT.out) (by decide)
  ·rw [if_neg c7] at H
   have c7b0 : (t462 == 0) = false := beq_eq_false_iff_ne.mpr c7
   have c7b1 : (t462 != 0) = true := bne_iff_ne.mpr c7
   by_cases c25 : t461.toList = ([] : List UInt8)
   ·rw [if_pos c25] at H
    have c25b0 : (t461.toList == ([] : List UInt8)) = true := beq_iff_eq.mpr c25
    have c25b1 : (t461.toList != ([] : List UInt8)) = false := bne_eq_false_iff_eq.mpr c25
    clear c25
    obtain ⟨t467, A26, H⟩ := zO H
    obtain rfl := sI H
    go_enter Try.func3, Try.ntmps3
    go_wp2_with (first | ((with_reducible refine gate_callee (f := 7) rfl ?_); refine goesL_ (some 16) rfl rfl Try.func7 zK rfl #[.int .i64 a0, .string a1] rfl zM ?_; (with_reducible refine (prep_Value.calls k a0 a1 t461 t462 _ A6.out).mono ?_); rintro e w27 ⟨rfl, hb⟩; (try clear A6); refine ⟨_, rfl, ?_⟩; replace HB := aM (below_step zB hb); (try clear hb)) | (go_at_call 6; (with_reducible refine (toponymlaw12_awake.calls k  t467 _ A26.out).mono ?_); rintro e w28 ⟨rfl, hb⟩; (try clear A26); replace HB := aM (below_step zB hb); (try clear hb)))
    go_ret
    exact ⟨zE, zB⟩
   ·rw [if_neg c25] at H
    exact absurd ((sI H).trans hT.out) (by decide)
/-- THE ONE PURE STATEMENT of toponymlaw12_PrepAgain: yours. -/
def toponymlaw12_PrepAgain.Pure : Prop := ∀ (a0 : Int) (a1 : ByteArray), (Lit.int .i64 a0).wf = true → a1.size ≤ 140737488351232 → ∃ k, toponymlaw12_PrepAgain.f k a0 a1 = some true
theorem toponymlaw12_PrepAgain.walk (P : toponymlaw12_PrepAgain.Pure) (a0 : Int) (a1 : ByteArray) (w : World) (w0 : (Lit.int .i64 a0).wf = true) (w1 : a1.size ≤ 140737488351232) :
  Calls Try.prog 3 #[.int .i64 a0, .string a1] w fun e w' => e = .returned (.bool true) ∧ Below w.heap.size w w' := by
 obtain ⟨k, h⟩ := P a0 a1 w0 w1
 refine (toponymlaw12_PrepAgain.calls k a0 a1 true w h rfl).mono ?_
 rintro e w' ⟨rfl, hd⟩
 exact ⟨rfl, hd⟩

/-! ### toponymlaw12_spaced: function 10 -/
def toponymlaw12_spaced.l0 : Nat → ByteArray → ByteArray → Int → Option (ByteArray)
 | 0, _, _, _ => none
 | k + 1, x0, x3, x4 => if x4 < (x0.size : Int) then (if 0 ≤ x4 then (if (bt x0 x4) = 32 then (if x3.size + 5 ≤ 9223372036854775807 then (toponymlaw12_spaced.l0 k x0 (x3 ++ (⟨#[194, 160, 226, 128, 131]⟩ : ByteArray)) (wrap64 (x4 + 1))) else (none)) else (if x4 ≤ (wrap64 (x4 + 1)) then (if (wrap64 (x4 + 1)) ≤ (x0.size : Int) then (if x3.size + (x0.extract (x4 : Int).toNat ((wrap64 (x4 + 1)) : Int).toNat).size ≤ 9223372036854775807 then (toponymlaw12_spaced.l0 k x0 (x3 ++ (x0.extract (x4 : Int).toNat ((wrap64 (x4 + 1)) : Int).toNat)) (wrap64 (x4 + 1))) else (none)) else (none)) else (none))) else (none)) else (if x3.size + 3 ≤ 9223372036854775807 then (some (x3 ++ (⟨#[226, 128, 139]⟩ : ByteArray))) else (none))
def toponymlaw12_spaced.f (k : Nat) (a0 : ByteArray) : Option (ByteArray) := toponymlaw12_spaced.l0 k a0 (⟨#[194, 173]⟩ : ByteArray) 0
theorem toponymlaw12_spaced.mono_l : ∀ k, (∀ y0 y1 y2, LeO (toponymlaw12_spaced.l0 k y0 y1 y2) (toponymlaw12_spaced.l0 (k + 1) y0 y1 y2))
 | 0 => fun _ _ _ r h => by simp [toponymlaw12_spaced.l0] at h
 | k + 1 => by
  have ih0 := toponymlaw12_spaced.mono_l k
  ·intro y0 y1 y2
   unfold toponymlaw12_spaced.l0
   repeat' first
   | (with_reducible exact ih0 _ _ _)
   | (with_reducible exact LeO.refl _)
   | exact ih0 _ _ _
   | exact LeO.none _
   | refine LeO.ite ?_ ?_
   | refine LeO.bind ?_ (fun _ => ?_)
theorem toponymlaw12_spaced.mono : ∀ a0 k, LeO (toponymlaw12_spaced.f k a0) (toponymlaw12_spaced.f (k + 1) a0) := by
 intro a0 k
 have ih0 := toponymlaw12_spaced.mono_l k
 unfold toponymlaw12_spaced.f
 repeat' first
   | (with_reducible exact ih0 _ _ _)
   | (with_reducible exact LeO.refl _)
   | exact ih0 _ _ _
   | exact LeO.none _
   | refine LeO.ite ?_ ?_
   | refine LeO.bind ?_ (fun _ => ?_)
set_option maxHeartbeats 8000000 in
set_option maxRecDepth 100000 in
theorem toponymlaw12_spaced.calls (k : Nat) (a0 : ByteArray) (r : ByteArray) (w : World) (h : toponymlaw12_spaced.f k a0 = some r) :
  Calls Try.prog 10 #[.string a0] w fun e w' => e = .returned (.string r) ∧ Drawn0 w w' := by
 have H := h
 clear h
 unfold toponymlaw12_spaced.f at H
 have H' := aM H
 clear H
 go_enter Try.func10, Try.ntmps10
 go_wp2
 go_loopg [3, 4] k (fun kq v3 v4 w' => ∃ (x3_1 : ByteArray) (x4_1 : Int), v3 = .string x3_1 ∧ v4 = .int .i64 x4_1 ∧ Aside0 (toponymlaw12_spaced.l0 kq a0 x3_1 x4_1 = some r) ∧ Aside0 (kq ≤ k) ∧ Drawn0 w w')
 case atStart => exact ⟨((⟨#[194, 173]⟩ : ByteArray)), (0), zP, zP, H', ⟨Nat.le_refl _⟩, zD⟩
 case round =>
  clear H'
  try clear c1
  obtain ⟨x3_1, x4_1, rfl, rfl, HA, HK1, ⟨m1, rfl⟩⟩ := hrel
  cases gk with
  | zero => exact absurd HA.out (by simp [toponymlaw12_spaced.l0])
  | succ k1 =>
   have H := HA.out
   clear HA
   simp only [toponymlaw12_spaced.l0] at H
   by_cases c2 : x4_1 < (a0.size : Int)
   ·rw [if_pos c2] at H
    have c2b0 : decide (x4_1 < (a0.size : Int)) = true := decide_eq_true c2
    clear c2
    by_cases c3 : 0 ≤ x4_1
    ·rw [if_pos c3] at H
     have c3b0 : decide (0 ≤ x4_1) = true := decide_eq_true c3
     clear c3
     by_cases c5 : (bt a0 x4_1) = 32
     ·rw [if_pos c5] at H
      have c5b0 : ((bt a0 x4_1) == 32) = true := beq_iff_eq.mpr c5
      have c5b1 : ((bt a0 x4_1) != 32) = false := bne_eq_false_iff_eq.mpr c5
      clear c5
      by_cases c6 : x3_1.size + 5 ≤ 9223372036854775807
      ·rw [if_pos c6] at H
       have c6b0 := eq_true c6
       have c6b1 : decide (x3_1.size + 5 ≤ 9223372036854775807) = true := decide_eq_true c6
       try have c6b2 : (9223372036854775807 < x3_1.size + 5) = False := eq_false (Nat.not_lt.2 c6)
       have H' := aM H
       clear H
       have p4 : 0 ≤ (x4_1 : Int) := zoA
       have q4 : x4_1 < (a0.size : Int) := zoA
       have hx4 := bt_at a0 x4_1
       replace p4 := eq_true p4
       replace q4 := eq_true q4
       go_wp2
       go_roundg k1
       case measure => have := HK1.out; omega
       case rel => exact ⟨(x3_1 ++ (⟨#[194, 160, 226, 128, 131]⟩ : ByteArray)), (wrap64 (x4_1 + 1)), zP, zP, H', ⟨by have := HK1.out; omega⟩, zD⟩
      ·rw [if_neg c6] at H
       exact absurd H (by simp)
     ·rw [if_neg c5] at H
      have c5b0 : ((bt a0 x4_1) == 32) = false := beq_eq_false_iff_ne.mpr c5
      have c5b1 : ((bt a0 x4_1) != 32) = true := bne_iff_ne.mpr c5
      have c7b0 := eq_true (zoA : 0 ≤ x4_1)
      by_cases c8 : x4_1 ≤ (wrap64 (x4_1 + 1))
      ·rw [if_pos c8] at H
       have c8b0 := eq_true c8
       have c8b1 : decide (x4_1 ≤ (wrap64 (x4_1 + 1))) = true := decide_eq_true c8
       by_cases c9 : (wrap64 (x4_1 + 1)) ≤ (a0.size : Int)
       ·rw [if_pos c9] at H
        have c9b0 := eq_true c9
        have c9b1 : decide ((wrap64 (x4_1 + 1)) ≤ (a0.size : Int)) = true := decide_eq_true c9
        by_cases c10 : x3_1.size + (a0.extract (x4_1 : Int).toNat ((wrap64 (x4_1 + 1)) : Int).toNat).size ≤ 9223372036854775807
        ·rw [if_pos c10] at H
         have c10b0 := eq_true c10
         have c10b1 : decide (x3_1.size + (a0.extract (x4_1 : Int).toNat ((wrap64 (x4_1 + 1)) : Int).toNat).size ≤ 9223372036854775807) = true := decide_eq_true c10
         try have c10b2 : (9223372036854775807 < x3_1.size + (a0.extract (x4_1 : Int).toNat ((wrap64 (x4_1 + 1)) : Int).toNat).size) = False := eq_false (Nat.not_lt.2 c10)
         have H' := aM H
         clear H
         have p4 : 0 ≤ (x4_1 : Int) := zoA
         have q4 : x4_1 < (a0.size : Int) := zoA
         have hx4 := bt_at a0 x4_1
         replace p4 := eq_true p4
         replace q4 := eq_true q4
         go_wp2
         go_roundg k1
         case measure => have := HK1.out; omega
         case rel => exact ⟨(x3_1 ++ (a0.extract (x4_1 : Int).toNat ((wrap64 (x4_1 + 1)) : Int).toNat)), (wrap64 (x4_1 + 1)), zP, zP, H', ⟨by have := HK1.out; omega⟩, zD⟩
        ·rw [if_neg c10] at H
         exact absurd H (by simp)
       ·rw [if_neg c9] at H
        exact absurd H (by simp)
      ·rw [if_neg c8] at H
       exact absurd H (by simp)
    ·rw [if_neg c3] at H
     exact absurd H (by simp)
   ·rw [if_neg c2] at H
    have c2b0 : decide (x4_1 < (a0.size : Int)) = false := decide_eq_false c2
    clear c2
    by_cases c11 : x3_1.size + 3 ≤ 9223372036854775807
    ·rw [if_pos c11] at H
     have c11b0 := eq_true c11
     have c11b1 : decide (x3_1.size + 3 ≤ 9223372036854775807) = true := decide_eq_true c11
     try have c11b2 : (9223372036854775807 < x3_1.size + 3) = False := eq_false (Nat.not_lt.2 c11)
     obtain rfl := sI H
     go_wp2
     go_ret
     exact ⟨zP, zD⟩
    ·rw [if_neg c11] at H
     exact absurd H (by simp)

/-! ### toponymlaw12_upper: function 11, by hand (toponymlaw12.upper.tpl) -/
def upb (c : Int) : Int := if 97 ≤ c ∧ c ≤ 122 then c - 32 else c
def numsOf (s : ByteArray) : List Int := s.data.toList.map fun b => (b.toNat : Int)
def toponymlaw12_upper.f (a0 : ByteArray) : Option ByteArray := if a0.size ≤ 1000000 then some (strOfNums ((numsOf a0).map upb)) else none
theorem nums_len (s : ByteArray) : (numsOf s).length = s.size := (List.length_map ..).trans rfl
structure URow (w : World) (g : Nat) (t : TypeId) (n : Nat) (xs : List Int) : Prop where mk :: (out : ∃ cs m, w.heap[g]? = some (.cells cs t (m, m + 1)) ∧ n ≤ m ∧ n ≤ cs.size ∧ xs.length = n ∧ ∀ j, j < n → cs[j]? = some (.int .u8 (xs.getD j 0)))
theorem URow.cell {w : World} {g : Nat} {t : TypeId} {n : Nat} {xs : List Int} (h : URow w g t n xs) {j : Nat} (hj : j < n) : w.cell? ⟨g, j, none⟩ = some (.int .u8 (xs.getD j 0)) ∧ w.frozen? ⟨g, j, none⟩ = false := by
  obtain ⟨cs, m, hg, h1, h2, h3, h4⟩ := h.out
  refine ⟨(cell_of_row w g j cs t _ hg).trans (h4 j hj), ?_⟩
  simp [World.frozen?, hg]
  omega
theorem URow.put {w : World} {g : Nat} {t : TypeId} {n : Nat} {xs : List Int} (h : URow w g t n xs) {j : Nat} (hj : j < n) (v : Int) : URow (w.setCell ⟨g, j, none⟩ (.int .u8 v)) g t n (xs.set j v) := by
  obtain ⟨cs, m, hg, h1, h2, h3, h4⟩ := h.out
  refine ⟨⟨cs.setIfInBounds j (.int .u8 v), m, by simp [World.setCell, Array.getElem?_modify, hg], h1, by simpa using h2, by simpa using h3, fun i hi => ?_⟩⟩
  rw [Array.getElem?_setIfInBounds]
  by_cases c : j = i
  · subst c
    rw [if_pos rfl, if_pos (by omega)]
    simp [List.getD_eq_getElem?_getD, List.getElem?_set, h3, hj]
  · rw [if_neg c, h4 i hi]
    simp [List.getD_eq_getElem?_getD, List.getElem?_set, c]
theorem URow.below {w w1 : World} {g : Nat} {t : TypeId} {n : Nat} {xs : List Int} (h : URow w g t n xs) (hb : Below w.heap.size w w1) : URow w1 g t n xs := by
  obtain ⟨cs, m, hg, h1⟩ := h.out
  exact ⟨⟨cs, m, (hb.block g (blk_lt hg)).trans hg, h1⟩⟩
theorem URow.made (w : World) (t : TypeId) (s : ByteArray) : URow (Lib.bytesWorld w t s) w.heap.size t s.size (numsOf s) := by
  have hn : (numsOf s).length = s.size := nums_len s
  refine ⟨⟨_, _, Lib.bytesWorld_at_new w t s, ?_, ?_, hn, fun j hj => ?_⟩⟩
  · simp only [Lib.bytesCells, Array.size_append, Array.size_map]
    exact Nat.le_add_right _ _
  · simp only [Lib.bytesCells, Array.size_append, Array.size_map]
    exact Nat.le_add_right _ _
  · have h1 := Lib.bytesWorld_cell w t s j hj
    rw [cell_of_row _ _ _ _ _ _ (Lib.bytesWorld_at_new w t s)] at h1
    rw [h1]
    have hj' : j < s.data.toList.length := hj
    simp only [numsOf, List.getD_eq_getElem?_getD, List.getElem?_map, List.getElem?_eq_getElem hj', Option.map_some, Option.getD_some]
theorem bw_below (w : World) (e : TypeId) (s : ByteArray) : Below w.heap.size w (Lib.bytesWorld w e s) :=
  ⟨rfl, rfl, rfl, by rw [Lib.bytesWorld_size]; omega, fun k hk => Lib.bytesWorld_at_old w e s k hk⟩
theorem up_step (xs : List Int) (i : Nat) (h : i < xs.length) : (((xs.take i).map upb ++ xs.drop i).set i (upb (xs.getD i 0))) = (xs.take (i + 1)).map upb ++ xs.drop (i + 1) := by
  have hl : ((xs.take i).map upb).length = i := by simp; omega
  rw [List.set_append_right _ _ (by omega), hl, Nat.sub_self, List.drop_eq_getElem_cons h, List.set_cons_zero, List.take_succ_eq_append_getElem h, List.map_append, List.append_assoc, List.getD_eq_getElem?_getD, List.getElem?_eq_getElem h]
  rfl
theorem up_same (xs : List Int) (i : Nat) (h : i < xs.length) (e : upb (xs.getD i 0) = xs.getD i 0) : ((xs.take i).map upb ++ xs.drop i) = (xs.take (i + 1)).map upb ++ xs.drop (i + 1) := by
  rw [← up_step xs i h, e]
  have hl : ((xs.take i).map upb).length = i := by simp; omega
  rw [List.set_append_right _ _ (by omega), hl, Nat.sub_self, List.drop_eq_getElem_cons h, List.set_cons_zero]
  simp [List.getD_eq_getElem?_getD, List.getElem?_eq_getElem h]
theorem up_get (xs : List Int) (i : Nat) (h : i < xs.length) : ((xs.take i).map upb ++ xs.drop i).getD i 0 = xs.getD i 0 := by
  have hl : ((xs.take i).map upb).length = i := by simp; omega
  rw [List.getD_eq_getElem?_getD, List.getD_eq_getElem?_getD, List.getElem?_append_right (by omega), hl, Nat.sub_self, List.getElem?_drop, Nat.add_zero]
theorem nums_byte (s : ByteArray) (i : Nat) : 0 ≤ (numsOf s).getD i 0 ∧ (numsOf s).getD i 0 < 256 := by
  unfold numsOf
  rw [List.getD_eq_getElem?_getD, List.getElem?_map]
  cases s.data.toList[i]? with
  | none => simp
  | some b =>
    have := b.toNat_lt
    simp only [Option.map_some, Option.getD_some]
    omega
section
variable {P : Program} {ops : Array Oper} {Q : Exit → Act → World → Prop}
theorem conv_event {rest : List Oper} {o : Oper} {a : Act} {W w1 : World} {v : Value} (hgd : o.guard = none) (hrun : (execOp a.eval o).run P W = .ok (.value v) w1) (h : wpList P ops Q rest (a.put o.dst v) w1) : wpList P ops Q (o :: rest) a W := Kd.event_run hgd hrun h
end
set_option maxHeartbeats 8000000 in
set_option maxRecDepth 100000 in
theorem toponymlaw12_upper.calls (a0 : ByteArray) (r : ByteArray) (w : World) (h : toponymlaw12_upper.f a0 = some r) :
    Calls Try.prog 11 #[.string a0] w fun e w' => e = .returned (.string r) ∧ Below w.heap.size w w' := by
  unfold toponymlaw12_upper.f at h
  by_cases c : a0.size ≤ 1000000
  · rw [if_pos c] at h
    obtain rfl := Option.some.inj h
    have HS := Aside0.mk c
    have HN := Aside0.mk (nums_len a0)
    clear c
    go_enter Try.func11, Try.ntmps11
    go_wp2_with (first | ((with_reducible refine gate_dst (N := 6) rfl ?_); refine conv_event rfl (v := .slice (some ⟨w.heap.size, 0, none⟩) a0.size (grownCap w a0.size 0 5)) (w1 := Lib.bytesWorld w 5 a0) ?hr ?_; (case hr => go_simp; first | done | (rw [Lib.run_convert_string_bytes w _ _ 5 a0 Try.underlying9 Try.underlying42 Try.underlying5]; first | done | rfl | (simp; done)))))
    have HU := Aside0.mk (URow.made w 5 a0)
    have HB := Aside0.mk (bw_below w 5 a0)
    have HG := Aside0.mk (Nat.le_refl w.heap.size)
    generalize grownCap w a0.size 0 5 = cap
    generalize Lib.bytesWorld w 5 a0 = W0 at HU HB ⊢
    generalize hg : w.heap.size = g at HU HG ⊢
    have HG' := Aside0.mk hg
    have HXS : Aside0 (∀ j, 0 ≤ (numsOf a0).getD j 0 ∧ (numsOf a0).getD j 0 < 256) := Aside0.mk (nums_byte a0)
    clear hg
    have HN' := HN.out
    generalize hxs : numsOf a0 = xs at HU HXS HN' ⊢
    have HE := Aside0.mk hxs
    clear hxs
    clear HN
    have HN := Aside0.mk HN'
    clear HN'
    go_loopg [4] (a0.size + 1) (fun kq v4 w' => ∃ (x4 : Int), v4 = .int .i64 x4 ∧ Aside0 (0 ≤ x4 ∧ x4 ≤ a0.size ∧ kq + x4.toNat = a0.size + 1) ∧ Aside0 (URow w' g 5 a0.size ((xs.take x4.toNat).map upb ++ xs.drop x4.toNat)) ∧ Aside0 (Below w.heap.size w w'))
    case atStart => exact ⟨0, rfl, ⟨by simp⟩, ⟨by simpa using HU.out⟩, ⟨by have := HB.out; exact this⟩⟩
    case round =>
      obtain ⟨x4, rfl, HX, HA, HB⟩ := hrel
      have hx := HX.out
      obtain ⟨p0, p1, p2⟩ := hx
      have h81 := HS.out
      cases gk with
      | zero => omega
      | succ k1 =>
        clear HX
        by_cases c : x4 < (a0.size : Int)
        · have cb : decide (x4 < (a0.size : Int)) = true := decide_eq_true c
          have hi : x4.toNat < xs.length := by have := HN.out; omega
          have hin : x4.toNat < a0.size := by omega
          have hc := HA.out.cell hin
          rw [up_get xs _ hi] at hc
          obtain ⟨j1, f1⟩ := hc
          have hbnd := HXS.out x4.toNat
          have hnext := up_step xs x4.toNat hi
          have hnext2 := up_same xs x4.toNat hi
          have hput := fun v => HA.out.put hin v
          generalize xs.getD x4.toNat 0 = q at j1 hbnd hnext hnext2
          have s17 : k1 + (x4 + 1).toNat = a0.size + 1 := by omega
          have e17 : (x4 + 1).toNat = x4.toNat + 1 := by omega
          have p17 : 0 ≤ x4 + 1 := by omega
          have q17 : x4 + 1 ≤ (a0.size : Int) := by omega
          have HP := Aside0.mk (And.intro p17 (And.intro q17 s17))
          clear p17 q17 s17
          by_cases ca : 97 ≤ q
          · by_cases cc : q ≤ 122
            · have d1 : decide (97 ≤ q) = true := decide_eq_true ca
              have d2 : decide (q ≤ 122) = true := decide_eq_true cc
              have em : (q - 32) % 256 = q - 32 := by omega
              have eu : upb q = q - 32 := if_pos ⟨ca, cc⟩
              rw [eu] at hnext
              have NU := Aside0.mk (hput (q - 32))
              rw [hnext] at NU
              clear hnext hnext2 hput
              go_wp2
              have HB' := Aside0.mk (HB.out.setCell (show w.heap.size ≤ (⟨g, x4.toNat, none⟩ : Addr).block from Nat.le_of_eq HG'.out) (.int .u8 (q - 32)))
              go_roundg k1
              case measure => have := HP.out; omega
              case rel => exact ⟨x4 + 1, zP, ⟨HP.out⟩, ⟨by rw [e17]; exact NU.out⟩, HB'⟩
            · have d1 : decide (97 ≤ q) = true := decide_eq_true ca
              have d2 : decide (q ≤ 122) = false := decide_eq_false cc
              have eu : upb q = q := if_neg (fun h => cc h.2)
              have NU := HA.out
              rw [hnext2 eu] at NU
              have NU := Aside0.mk NU
              clear hnext hnext2 hput
              go_wp2
              go_roundg k1
              case measure => have := HP.out; omega
              case rel => exact ⟨x4 + 1, zP, ⟨HP.out⟩, ⟨by rw [e17]; exact NU.out⟩, HB⟩
          · have d1 : decide (97 ≤ q) = false := decide_eq_false ca
            have eu : upb q = q := if_neg (fun h => ca h.1)
            have NU := HA.out
            rw [hnext2 eu] at NU
            have NU := Aside0.mk NU
            clear hnext hnext2 hput
            go_wp2
            go_roundg k1
            case measure => have := HP.out; omega
            case rel => exact ⟨x4 + 1, zP, ⟨HP.out⟩, ⟨by rw [e17]; exact NU.out⟩, HB⟩
        · have cb : decide (x4 < (a0.size : Int)) = false := decide_eq_false c
          have hxe : x4.toNat = a0.size := by omega
          have hl := HN.out
          have hA := HA.out
          rw [hxe, List.drop_eq_nil_of_le (by omega), List.take_of_length_le (by omega), List.append_nil] at hA
          have HA := Aside0.mk hA
          clear hA hxe
          have hcv := Aside0.mk (run_convert_bytes_arg (P := Try.prog) wr 42 5 Try.underlying42 Try.underlying5 g 0 a0.size cap (xs.map upb) (by simpa using hl) (fun i hi => by rw [Nat.zero_add]; exact (HA.out.cell hi).1) 9 Try.underlying9)
          go_wp2_with (first | ((with_reducible refine gate_dst (N := 32) rfl ?_); refine conv_event rfl (v := .string (strOfNums (xs.map upb))) (w1 := wr) ?hr ?_; (case hr => go_simp; first | done | (rw [hcv.out]; first | done | rfl | (simp; done)))))
          go_ret
          exact ⟨by rw [HE.out]; rfl, HB.out⟩
  · rw [if_neg c] at h
    exact absurd h (by simp)

end Go.Proofs.Ytbffakgmlgimeaa.P
