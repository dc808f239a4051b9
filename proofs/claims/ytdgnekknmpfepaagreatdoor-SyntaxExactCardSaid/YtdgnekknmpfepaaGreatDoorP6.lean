-- Printed by wip/mk.py (this session's driver over the kit's print) and from wip/manual.
import Derived.Test.YtdgnekknmpfepaaGreatDoorP0
import Derived.Test.YtdgnekknmpfepaaGreatDoorP1
import Derived.Test.YtdgnekknmpfepaaGreatDoorP4
import Derived.Test.YtdgnekknmpfepaaGreatDoorP5
namespace Go.Proofs.YtdgnekknmpfepaaGreatDoor.P
open Go.RowKit Go.Proofs.YtdgnekknmpfepaaGreatDoorW.PrintWords Go.Proofs.YtdgnekknmpfepaaGreatDoorW.PrintLast Go.Proofs.YtdgnekknmpfepaaGreatDoorW.PrintMore
attribute [local go_sem] run_store_float run_store_complex max2_int min2_int max_two min_two max_three min_three max_four min_four   -- for this text's walks alone
set_option linter.unusedVariables false
set_option linter.unusedSimpArgs false

/-! ### prep_Steps: function 46 -/
def prep_Steps.j0 : Nat → Int → List Int → Option (List Int × Int)
 | 0, _, _ => none
 | k + 1, x0, x6 => (nfkc_Runes.f k true x6).bind fun t244 => ((guard_Check.f k t244).bind fun bt247 => (if bt247.2 = 0 then (if x0 = 3 then ((blanks_Numeric.f k t244).bind fun t249 => ((nfkc_Runes.f k true t249).bind fun t252 => (some (t252, 0)))) else (if x0 = 4 then ((blanks_Phone.f k t244).bind fun t255 => ((nfkc_Runes.f k true t255).bind fun t258 => (some (t258, 0)))) else ((blanks_Value.f k t244).bind fun t261 => (some (t261, 0))))) else (some (([] : List Int), bt247.2))))
def prep_Steps.f (k : Nat) (a0 : Int) (l1 : List Int) : Option (List Int × Int) := (prep_known.f a0).bind fun t237 => (if t237 = true then (if a0 = 2 then ((fold_Map.f k true l1).bind fun t238 => (prep_Steps.j0 k a0 t238)) else ((fold_Map.f k (a0 == 4) l1).bind fun t241 => (prep_Steps.j0 k a0 t241))) else (some (([] : List Int), 2)))
theorem prep_Steps.mono_l : ∀ k, (∀ y0 y1, LeO (prep_Steps.j0 k y0 y1) (prep_Steps.j0 (k + 1) y0 y1))
 | 0 => fun _ _ r h => by simp [prep_Steps.j0] at h
 | k + 1 => by
  have ih0 := prep_Steps.mono_l k
  ·intro y0 y1
   unfold prep_Steps.j0
   repeat' first
   | (with_reducible exact ih0 _ _)
   | (with_reducible exact blanks_Numeric.mono _ _)
   | (with_reducible exact blanks_Phone.mono _ _)
   | (with_reducible exact blanks_Value.mono _ _)
   | (with_reducible exact fold_Map.mono _ _ _)
   | (with_reducible exact guard_Check.mono _ _)
   | (with_reducible exact nfkc_Runes.mono _ _ _)
   | (with_reducible exact LeO.refl _)
   | exact ih0 _ _
   | exact blanks_Numeric.mono _ _
   | exact blanks_Phone.mono _ _
   | exact blanks_Value.mono _ _
   | exact fold_Map.mono _ _ _
   | exact guard_Check.mono _ _
   | exact nfkc_Runes.mono _ _ _
   | exact LeO.none _
   | refine LeO.ite ?_ ?_
   | refine LeO.bind ?_ (fun _ => ?_)
theorem prep_Steps.mono : ∀ a0 a1 k, LeO (prep_Steps.f k a0 a1) (prep_Steps.f (k + 1) a0 a1) := by
 intro a0 a1 k
 have ih0 := prep_Steps.mono_l k
 unfold prep_Steps.f
 repeat' first
   | (with_reducible exact ih0 _ _)
   | (with_reducible exact blanks_Numeric.mono _ _)
   | (with_reducible exact blanks_Phone.mono _ _)
   | (with_reducible exact blanks_Value.mono _ _)
   | (with_reducible exact fold_Map.mono _ _ _)
   | (with_reducible exact guard_Check.mono _ _)
   | (with_reducible exact nfkc_Runes.mono _ _ _)
   | (with_reducible exact LeO.refl _)
   | exact ih0 _ _
   | exact blanks_Numeric.mono _ _
   | exact blanks_Phone.mono _ _
   | exact blanks_Value.mono _ _
   | exact fold_Map.mono _ _ _
   | exact guard_Check.mono _ _
   | exact nfkc_Runes.mono _ _ _
   | exact LeO.none _
   | refine LeO.ite ?_ ?_
   | refine LeO.bind ?_ (fun _ => ?_)
set_option maxHeartbeats 8000000 in
set_option maxRecDepth 100000 in
theorem prep_Steps.calls (k : Nat) (a0 : Int) (A1 : Option Addr) (c1 : Nat) (l1 : List Int) (r1 : List Int) (r2 : Int) (w : World) (hr1 : Kd.C (Kd.int .i32) w A1 l1.length l1) (hc1 : l1.length ≤ c1) (h : prep_Steps.f k a0 l1 = some (r1, r2)) :
  Calls Tryz.prog 46 #[.int .i64 a0, .slice A1 l1.length c1] w fun e w' => ∃ v0_ : Value, e = .returned (.tuple #[v0_, .int .i64 r2]) ∧ Kd.R (Kd.int .i32) 21 w' w.heap.size (fun _ => True) v0_ r1 ∧ Below w.heap.size w w' := by
 have HR1 := aM hr1
 have HC1 := aM hc1
 clear hr1 hc1
 have HB := aM (Below.refl w.heap.size w)
 have H := h
 clear h
 unfold prep_Steps.f at H
 obtain ⟨t237, A3, H⟩ := zO H
 by_cases c4 : t237 = true
 ·subst c4
  rw [if_pos rfl] at H
  have HC5 := aM H
  clear H
  go_enter Tryz.func46, Tryz.ntmps46
  go_upto_region 3 with (first | ((with_reducible refine gate_callee (f := 44) rfl ?_); refine goesL_ (some 10) rfl rfl Tryz.func44 zK rfl #[.int .i64 a0] rfl zM ?_; (with_reducible refine (prep_known.calls a0 true _ A3.out).mono ?_); rintro e w' ⟨rfl, ⟨nd, rfl⟩⟩; refine ⟨_, rfl, ?_⟩))
  (try simp only [Act.put, List.setIfInBounds_toArray, List.set_cons_zero, List.set_cons_succ])
  go_cut [6] (fun v6 wc => ∃ (kq : Nat) (x6_4 : List Int), Aside0 (prep_Steps.j0 kq a0 x6_4 = some (r1, r2)) ∧ Aside0 (kq ≤ k) ∧ Aside0 (Kd.R (Kd.int .i32) 21 wc w.heap.size (fun _ => True) v6 x6_4) ∧ Aside0 (Below w.heap.size w wc))
  case first =>
   have H := HC5.out
   clear HC5
   by_cases c6 : a0 = 2
   ·rw [if_pos c6] at H
    have c6b0 : (a0 == 2) = true := beq_iff_eq.mpr c6
    have c6b1 : (a0 != 2) = false := bne_eq_false_iff_eq.mpr c6
    clear c6
    (first | rw [c6b0] | (simp only [i64_w, i32_w]; rw [c6b0]) | skip)
    obtain ⟨t238, A7, H⟩ := zO H
    have H' := aM H
    clear H
    go_wp2_with (first | ((with_reducible refine gate_callee (f := 84) rfl ?_); refine goesL_ (some 19) rfl rfl Tryz.func84 zK rfl #[.bool true, .slice A1 l1.length c1] rfl zM ?_; (with_reducible refine (fold_Map.calls k true _ _ l1 t238 _ ?side1 ?side2 A7.out).mono ?_); (case side1 => exact zCB HR1); (case side2 => exact HC1.out); rintro e w8 ⟨v239, rfl, ho0, hb⟩; (try clear A7); refine ⟨_, rfl, ?_⟩; have n_ := zI (aM (Kd.R_lower ho0 (below_size zB))) (aM (below_step zB hb)); clear HB; obtain ⟨HO240, HB⟩ := n_; (try clear hb); (try clear ho0)))
    go_meet
    case rel => exact ⟨_, (t238), H', ⟨by first | omega | exact Nat.le_refl _⟩, ⟨zR HO240⟩, ⟨zB⟩⟩
   ·rw [if_neg c6] at H
    have c6b0 : (a0 == 2) = false := beq_eq_false_iff_ne.mpr c6
    have c6b1 : (a0 != 2) = true := bne_iff_ne.mpr c6
    (first | rw [c6b0] | (simp only [i64_w, i32_w]; rw [c6b0]) | skip)
    obtain ⟨t241, A9, H⟩ := zO H
    have H' := aM H
    clear H
    go_wp2_with (first | ((with_reducible refine gate_callee (f := 84) rfl ?_); refine goesL_ (some 19) rfl rfl Tryz.func84 zK rfl #[.bool (a0 == 4), .slice A1 l1.length c1] rfl zM ?_; (with_reducible refine (fold_Map.calls k (a0 == 4) _ _ l1 t241 _ ?side1 ?side2 A9.out).mono ?_); (case side1 => exact zCB HR1); (case side2 => exact HC1.out); rintro e w10 ⟨v242, rfl, ho0, hb⟩; (try clear A9); refine ⟨_, rfl, ?_⟩; have n_ := zI (aM (Kd.R_lower ho0 (below_size zB))) (aM (below_step zB hb)); clear HB; obtain ⟨HO243, HB⟩ := n_; (try clear hb); (try clear ho0)))
    go_meet
    case rel => exact ⟨_, (t241), H', ⟨by first | omega | exact Nat.le_refl _⟩, ⟨zR HO243⟩, ⟨zB⟩⟩
  case rest =>
   clear HC5
   try clear c1
   try clear p2
   try clear c4
   try clear c6
   try clear c6b0
   try clear c6b1
   try clear c8
   obtain ⟨kq, x6_4, HA, HJ4, HO_6, HB⟩ := hcut
   cases kq with
   | zero => exact absurd HA.out (by simp [prep_Steps.j0])
   | succ kj4 =>
    have H := HA.out
    clear HA
    simp only [prep_Steps.j0] at H
    obtain ⟨t244, A11, H⟩ := zO H
    obtain ⟨⟨t247, t248⟩, A12, H⟩ := zO H
    try dsimp only at H
    by_cases c13 : t248 = 0
    ·rw [if_pos c13] at H
     have c13b0 : (t248 == 0) = true := beq_iff_eq.mpr c13
     have c13b1 : (t248 != 0) = false := bne_eq_false_iff_eq.mpr c13
     clear c13
     by_cases c14 : a0 = 3
     ·rw [if_pos c14] at H
      have c14b0 : (a0 == 3) = true := beq_iff_eq.mpr c14
      have c14b1 : (a0 != 3) = false := bne_eq_false_iff_eq.mpr c14
      clear c14
      obtain ⟨t249, A15, H⟩ := zO H
      obtain ⟨t252, A16, H⟩ := zO H
      simp only [Option.some.injEq, Prod.mk.injEq] at H
      obtain ⟨rfl, rfl⟩ := H
      obtain ⟨Ao17, co17, eo17⟩ := Kd.R_slice HO_6.out
      subst eo17
      go_wp2_with (first | ((with_reducible refine gate_callee (f := 85) rfl ?_); refine goesL_ (some 21) rfl rfl Tryz.func85 zK rfl #[.bool true, .slice Ao17 x6_4.length co17] rfl zM ?_; (with_reducible refine (nfkc_Runes.calls kj4 true _ _ x6_4 t244 _ ?side1 ?side2 A11.out).mono ?_); (case side1 => exact zC (Kd.R_reads' HO_6.out).2.2); (case side2 => exact (Kd.R_reads' HO_6.out).2.1); rintro e w18 ⟨v245, rfl, ho0, hb⟩; (try clear A11); refine ⟨_, rfl, ?_⟩; have n_ := zI (aM (Kd.R_elder' (zR HO_6) (Kd.R_base ho0) hb)) (zI (aM (Kd.R_lower (Kd.R_new' ho0 (Kd.R_lt (zR HO_6))) (below_size zB))) (aM (below_step zB hb))); clear HO_6 HB; obtain ⟨HO_6, HO246, HB⟩ := n_; (try clear hb); (try clear ho0); obtain ⟨Ao19, co19, rfl⟩ := Kd.R_slice HO246.out) | ((with_reducible refine gate_callee (f := 86) rfl ?_); refine goesL_ (some 24) rfl rfl Tryz.func86 zK rfl #[.slice Ao19 t244.length co19] rfl zM ?_; (with_reducible refine (guard_Check.calls kj4 _ _ t244 t247 t248 _ ?side1 ?side2 A12.out).mono ?_); (case side1 => exact zC (Kd.R_reads' HO246.out).2.2); (case side2 => exact (Kd.R_reads' HO246.out).2.1); rintro e w20 ⟨rfl, hb⟩; refine ⟨_, rfl, ?_⟩; have n_ := zI (aM (Kd.R_below (zR HO_6) hb)) (zI (aM (Kd.R_below (zR HO246) hb)) (aM (below_step zB hb))); clear HO_6 HO246 HB; obtain ⟨HO_6, HO246, HB⟩ := n_; (try clear hb)) | ((with_reducible refine gate_callee (f := 87) rfl ?_); refine goesL_ (some 36) rfl rfl Tryz.func87 zK rfl #[.slice Ao19 t244.length co19] rfl zM ?_; (with_reducible refine (blanks_Numeric.calls kj4 _ _ t244 t249 _ ?side1 ?side2 A15.out).mono ?_); (case side1 => exact zC (Kd.R_reads' HO246.out).2.2); (case side2 => exact (Kd.R_reads' HO246.out).2.1); rintro e w21 ⟨v250, rfl, ho0, hb⟩; refine ⟨_, rfl, ?_⟩; have n_ := zI (aM (Kd.R_elder' (zR HO_6) (Kd.R_base ho0) hb)) (zI (aM (Kd.R_elder' (zR HO246) (Kd.R_base ho0) hb)) (zI (aM (Kd.R_lower (Kd.R_new' (Kd.R_new' ho0 (Kd.R_lt (zR HO_6))) (Kd.R_lt (zR HO246))) (below_size zB))) (aM (below_step zB hb)))); clear HO_6 HO246 HB; obtain ⟨HO_6, HO246, HO251, HB⟩ := n_; (try clear hb); (try clear ho0); obtain ⟨Ao22, co22, rfl⟩ := Kd.R_slice HO251.out) | ((with_reducible refine gate_callee (f := 85) rfl ?_); refine goesL_ (some 37) rfl rfl Tryz.func85 zK rfl #[.bool true, .slice Ao22 t249.length co22] rfl zM ?_; (with_reducible refine (nfkc_Runes.calls kj4 true _ _ t249 t252 _ ?side1 ?side2 A16.out).mono ?_); (case side1 => exact zC (Kd.R_reads' HO251.out).2.2); (case side2 => exact (Kd.R_reads' HO251.out).2.1); rintro e w23 ⟨v253, rfl, ho0, hb⟩; (try clear A16); refine ⟨_, rfl, ?_⟩; have n_ := zI (aM (Kd.R_elder' (zR HO_6) (Kd.R_base ho0) hb)) (zI (aM (Kd.R_elder' (zR HO246) (Kd.R_base ho0) hb)) (zI (aM (Kd.R_elder' (zR HO251) (Kd.R_base ho0) hb)) (zI (aM (Kd.R_lower (Kd.R_new' (Kd.R_new' (Kd.R_new' ho0 (Kd.R_lt (zR HO_6))) (Kd.R_lt (zR HO246))) (Kd.R_lt (zR HO251))) (below_size zB))) (aM (below_step zB hb))))); clear HO_6 HO246 HO251 HB; obtain ⟨HO_6, HO246, HO251, HO254, HB⟩ := n_; (try clear hb); (try clear ho0)))
      go_ret2
      exact ⟨_, zE, by (with_reducible repeat (first | apply Kd.R_alloc | apply Kd.R_drewN | apply Kd.R_drew)); exact Kd.R_mono HO254.out (fun _ hk => trivial), zB⟩
     ·rw [if_neg c14] at H
      have c14b0 : (a0 == 3) = false := beq_eq_false_iff_ne.mpr c14
      have c14b1 : (a0 != 3) = true := bne_iff_ne.mpr c14
      by_cases c24 : a0 = 4
      ·rw [if_pos c24] at H
       have c24b0 : (a0 == 4) = true := beq_iff_eq.mpr c24
       have c24b1 : (a0 != 4) = false := bne_eq_false_iff_eq.mpr c24
       clear c24
       obtain ⟨t255, A25, H⟩ := zO H
       obtain ⟨t258, A26, H⟩ := zO H
       simp only [Option.some.injEq, Prod.mk.injEq] at H
       obtain ⟨rfl, rfl⟩ := H
       obtain ⟨Ao27, co27, eo27⟩ := Kd.R_slice HO_6.out
       subst eo27
       go_wp2_with (first | ((with_reducible refine gate_callee (f := 85) rfl ?_); refine goesL_ (some 21) rfl rfl Tryz.func85 zK rfl #[.bool true, .slice Ao27 x6_4.length co27] rfl zM ?_; (with_reducible refine (nfkc_Runes.calls kj4 true _ _ x6_4 t244 _ ?side1 ?side2 A11.out).mono ?_); (case side1 => exact zC (Kd.R_reads' HO_6.out).2.2); (case side2 => exact (Kd.R_reads' HO_6.out).2.1); rintro e w28 ⟨v245, rfl, ho0, hb⟩; (try clear A11); refine ⟨_, rfl, ?_⟩; have n_ := zI (aM (Kd.R_elder' (zR HO_6) (Kd.R_base ho0) hb)) (zI (aM (Kd.R_lower (Kd.R_new' ho0 (Kd.R_lt (zR HO_6))) (below_size zB))) (aM (below_step zB hb))); clear HO_6 HB; obtain ⟨HO_6, HO246, HB⟩ := n_; (try clear hb); (try clear ho0); obtain ⟨Ao29, co29, rfl⟩ := Kd.R_slice HO246.out) | ((with_reducible refine gate_callee (f := 86) rfl ?_); refine goesL_ (some 24) rfl rfl Tryz.func86 zK rfl #[.slice Ao29 t244.length co29] rfl zM ?_; (with_reducible refine (guard_Check.calls kj4 _ _ t244 t247 t248 _ ?side1 ?side2 A12.out).mono ?_); (case side1 => exact zC (Kd.R_reads' HO246.out).2.2); (case side2 => exact (Kd.R_reads' HO246.out).2.1); rintro e w30 ⟨rfl, hb⟩; refine ⟨_, rfl, ?_⟩; have n_ := zI (aM (Kd.R_below (zR HO_6) hb)) (zI (aM (Kd.R_below (zR HO246) hb)) (aM (below_step zB hb))); clear HO_6 HO246 HB; obtain ⟨HO_6, HO246, HB⟩ := n_; (try clear hb)) | ((with_reducible refine gate_callee (f := 88) rfl ?_); refine goesL_ (some 41) rfl rfl Tryz.func88 zK rfl #[.slice Ao29 t244.length co29] rfl zM ?_; (with_reducible refine (blanks_Phone.calls kj4 _ _ t244 t255 _ ?side1 ?side2 A25.out).mono ?_); (case side1 => exact zC (Kd.R_reads' HO246.out).2.2); (case side2 => exact (Kd.R_reads' HO246.out).2.1); rintro e w31 ⟨v256, rfl, ho0, hb⟩; refine ⟨_, rfl, ?_⟩; have n_ := zI (aM (Kd.R_elder' (zR HO_6) (Kd.R_base ho0) hb)) (zI (aM (Kd.R_elder' (zR HO246) (Kd.R_base ho0) hb)) (zI (aM (Kd.R_lower (Kd.R_new' (Kd.R_new' ho0 (Kd.R_lt (zR HO_6))) (Kd.R_lt (zR HO246))) (below_size zB))) (aM (below_step zB hb)))); clear HO_6 HO246 HB; obtain ⟨HO_6, HO246, HO257, HB⟩ := n_; (try clear hb); (try clear ho0); obtain ⟨Ao32, co32, rfl⟩ := Kd.R_slice HO257.out) | ((with_reducible refine gate_callee (f := 85) rfl ?_); refine goesL_ (some 42) rfl rfl Tryz.func85 zK rfl #[.bool true, .slice Ao32 t255.length co32] rfl zM ?_; (with_reducible refine (nfkc_Runes.calls kj4 true _ _ t255 t258 _ ?side1 ?side2 A26.out).mono ?_); (case side1 => exact zC (Kd.R_reads' HO257.out).2.2); (case side2 => exact (Kd.R_reads' HO257.out).2.1); rintro e w33 ⟨v259, rfl, ho0, hb⟩; (try clear A26); refine ⟨_, rfl, ?_⟩; have n_ := zI (aM (Kd.R_elder' (zR HO_6) (Kd.R_base ho0) hb)) (zI (aM (Kd.R_elder' (zR HO246) (Kd.R_base ho0) hb)) (zI (aM (Kd.R_elder' (zR HO257) (Kd.R_base ho0) hb)) (zI (aM (Kd.R_lower (Kd.R_new' (Kd.R_new' (Kd.R_new' ho0 (Kd.R_lt (zR HO_6))) (Kd.R_lt (zR HO246))) (Kd.R_lt (zR HO257))) (below_size zB))) (aM (below_step zB hb))))); clear HO_6 HO246 HO257 HB; obtain ⟨HO_6, HO246, HO257, HO260, HB⟩ := n_; (try clear hb); (try clear ho0)))
       go_ret2
       exact ⟨_, zE, by (with_reducible repeat (first | apply Kd.R_alloc | apply Kd.R_drewN | apply Kd.R_drew)); exact Kd.R_mono HO260.out (fun _ hk => trivial), zB⟩
      ·rw [if_neg c24] at H
       have c24b0 : (a0 == 4) = false := beq_eq_false_iff_ne.mpr c24
       have c24b1 : (a0 != 4) = true := bne_iff_ne.mpr c24
       obtain ⟨t261, A34, H⟩ := zO H
       simp only [Option.some.injEq, Prod.mk.injEq] at H
       obtain ⟨rfl, rfl⟩ := H
       obtain ⟨Ao35, co35, eo35⟩ := Kd.R_slice HO_6.out
       subst eo35
       go_wp2_with (first | ((with_reducible refine gate_callee (f := 85) rfl ?_); refine goesL_ (some 21) rfl rfl Tryz.func85 zK rfl #[.bool true, .slice Ao35 x6_4.length co35] rfl zM ?_; (with_reducible refine (nfkc_Runes.calls kj4 true _ _ x6_4 t244 _ ?side1 ?side2 A11.out).mono ?_); (case side1 => exact zC (Kd.R_reads' HO_6.out).2.2); (case side2 => exact (Kd.R_reads' HO_6.out).2.1); rintro e w36 ⟨v245, rfl, ho0, hb⟩; (try clear A11); refine ⟨_, rfl, ?_⟩; have n_ := zI (aM (Kd.R_elder' (zR HO_6) (Kd.R_base ho0) hb)) (zI (aM (Kd.R_lower (Kd.R_new' ho0 (Kd.R_lt (zR HO_6))) (below_size zB))) (aM (below_step zB hb))); clear HO_6 HB; obtain ⟨HO_6, HO246, HB⟩ := n_; (try clear hb); (try clear ho0); obtain ⟨Ao37, co37, rfl⟩ := Kd.R_slice HO246.out) | ((with_reducible refine gate_callee (f := 86) rfl ?_); refine goesL_ (some 24) rfl rfl Tryz.func86 zK rfl #[.slice Ao37 t244.length co37] rfl zM ?_; (with_reducible refine (guard_Check.calls kj4 _ _ t244 t247 t248 _ ?side1 ?side2 A12.out).mono ?_); (case side1 => exact zC (Kd.R_reads' HO246.out).2.2); (case side2 => exact (Kd.R_reads' HO246.out).2.1); rintro e w38 ⟨rfl, hb⟩; refine ⟨_, rfl, ?_⟩; have n_ := zI (aM (Kd.R_below (zR HO_6) hb)) (zI (aM (Kd.R_below (zR HO246) hb)) (aM (below_step zB hb))); clear HO_6 HO246 HB; obtain ⟨HO_6, HO246, HB⟩ := n_; (try clear hb)) | ((with_reducible refine gate_callee (f := 89) rfl ?_); refine goesL_ (some 32) rfl rfl Tryz.func89 zK rfl #[.slice Ao37 t244.length co37] rfl zM ?_; (with_reducible refine (blanks_Value.calls kj4 _ _ t244 t261 _ ?side1 ?side2 A34.out).mono ?_); (case side1 => exact zC (Kd.R_reads' HO246.out).2.2); (case side2 => exact (Kd.R_reads' HO246.out).2.1); rintro e w39 ⟨v262, rfl, ho0, hb⟩; refine ⟨_, rfl, ?_⟩; have n_ := zI (aM (Kd.R_elder' (zR HO_6) (Kd.R_base ho0) hb)) (zI (aM (Kd.R_elder' (zR HO246) (Kd.R_base ho0) hb)) (zI (aM (Kd.R_lower (Kd.R_new' (Kd.R_new' ho0 (Kd.R_lt (zR HO_6))) (Kd.R_lt (zR HO246))) (below_size zB))) (aM (below_step zB hb)))); clear HO_6 HO246 HB; obtain ⟨HO_6, HO246, HO263, HB⟩ := n_; (try clear hb); (try clear ho0)))
       go_ret2
       exact ⟨_, zE, by (with_reducible repeat (first | apply Kd.R_alloc | apply Kd.R_drewN | apply Kd.R_drew)); exact Kd.R_mono HO263.out (fun _ hk => trivial), zB⟩
    ·rw [if_neg c13] at H
     have c13b0 : (t248 == 0) = false := beq_eq_false_iff_ne.mpr c13
     have c13b1 : (t248 != 0) = true := bne_iff_ne.mpr c13
     simp only [Option.some.injEq, Prod.mk.injEq] at H
     obtain ⟨rfl, rfl⟩ := H
     obtain ⟨Ao40, co40, eo40⟩ := Kd.R_slice HO_6.out
     subst eo40
     go_wp2_with (first | ((with_reducible refine gate_callee (f := 85) rfl ?_); refine goesL_ (some 21) rfl rfl Tryz.func85 zK rfl #[.bool true, .slice Ao40 x6_4.length co40] rfl zM ?_; (with_reducible refine (nfkc_Runes.calls kj4 true _ _ x6_4 t244 _ ?side1 ?side2 A11.out).mono ?_); (case side1 => exact zC (Kd.R_reads' HO_6.out).2.2); (case side2 => exact (Kd.R_reads' HO_6.out).2.1); rintro e w41 ⟨v245, rfl, ho0, hb⟩; (try clear A11); refine ⟨_, rfl, ?_⟩; have n_ := zI (aM (Kd.R_elder' (zR HO_6) (Kd.R_base ho0) hb)) (zI (aM (Kd.R_lower (Kd.R_new' ho0 (Kd.R_lt (zR HO_6))) (below_size zB))) (aM (below_step zB hb))); clear HO_6 HB; obtain ⟨HO_6, HO246, HB⟩ := n_; (try clear hb); (try clear ho0); obtain ⟨Ao42, co42, rfl⟩ := Kd.R_slice HO246.out) | ((with_reducible refine gate_callee (f := 86) rfl ?_); refine goesL_ (some 24) rfl rfl Tryz.func86 zK rfl #[.slice Ao42 t244.length co42] rfl zM ?_; (with_reducible refine (guard_Check.calls kj4 _ _ t244 t247 t248 _ ?side1 ?side2 A12.out).mono ?_); (case side1 => exact zC (Kd.R_reads' HO246.out).2.2); (case side2 => exact (Kd.R_reads' HO246.out).2.1); rintro e w43 ⟨rfl, hb⟩; refine ⟨_, rfl, ?_⟩; have n_ := zI (aM (Kd.R_below (zR HO_6) hb)) (zI (aM (Kd.R_below (zR HO246) hb)) (aM (below_step zB hb))); clear HO_6 HO246 HB; obtain ⟨HO_6, HO246, HB⟩ := n_; (try clear hb)))
     go_ret2
     exact ⟨_, zE, zL, zB⟩
 ·replace c4 := Bool.eq_false_iff.mpr c4
  subst c4
  rw [if_neg (show ¬ (false = true) by decide)] at H
  simp only [Option.some.injEq, Prod.mk.injEq] at H
  obtain ⟨rfl, rfl⟩ := H
  go_enter Tryz.func46, Tryz.ntmps46
  go_wp2_with (first | ((with_reducible refine gate_callee (f := 44) rfl ?_); refine goesL_ (some 10) rfl rfl Tryz.func44 zK rfl #[.int .i64 a0] rfl zM ?_; (with_reducible refine (prep_known.calls a0 false _ A3.out).mono ?_); rintro e w' ⟨rfl, ⟨nd, rfl⟩⟩; refine ⟨_, rfl, ?_⟩))
  go_ret2
  exact ⟨_, zE, zL, zB⟩

/-! ### utf_Encode: function 47 -/
mutual
def utf_Encode.l0 : Nat → List Int → List Int → Int → Int → Option (ByteArray × Int)
 | 0, _, _, _, _ => none
 | k + 1, x4, x9, x10, x11 => if x11 < x10 then (if 0 ≤ x11 then (if x11 < (x9.length : Int) then ((utf_Length.f (rd x9 x11)).bind fun t265 => (if t265 = 0 then (some ((⟨#[]⟩ : ByteArray), 10)) else (if 0 ≤ t265 then (if t265 < 5 then (if 0 ≤ (IntKind.u64.wrap (wrap64 (6 * (wrap64 (t265 - 1))))) then (if x4.length < 140737488355328 then (utf_Encode.l1 k (x4 ++ [Go.bits .or .u8 (bt (⟨#[0, 0, 192, 224, 240]⟩ : ByteArray) t265) ((shr .i32 (rd x9 x11) (IntKind.u64.wrap (wrap64 (6 * (wrap64 (t265 - 1)))))) % 256)]) (rd x9 x11) (wrap64 (t265 - 2)) x9 x10 x11) else (none)) else (none)) else (none)) else (none)))) else (none)) else (none)) else (some (strOfNums x4, 0))
def utf_Encode.l1 : Nat → List Int → Int → Int → List Int → Int → Int → Option (ByteArray × Int)
 | 0, _, _, _, _, _, _ => none
 | k + 1, x4, x6, x8, x9, x10, x11 => if x8 ≥ 0 then (if 0 ≤ (IntKind.u64.wrap (wrap64 (6 * x8))) then (if x4.length < 140737488355328 then (utf_Encode.l1 k (x4 ++ [Go.bits .or .u8 128 (Go.bits .and .u8 ((shr .i32 x6 (IntKind.u64.wrap (wrap64 (6 * x8)))) % 256) 63)]) x6 (wrap64 (x8 - 1)) x9 x10 x11) else (none)) else (none)) else (utf_Encode.l0 k x4 x9 x10 (wrap64 (x11 + 1)))
end
def utf_Encode.f (k : Nat) (l0 : List Int) : Option (ByteArray × Int) := utf_Encode.l0 k ([] : List Int) l0 (l0.length : Int) 0
theorem utf_Encode.mono_l : ∀ k, (∀ y0 y1 y2 y3, LeO (utf_Encode.l0 k y0 y1 y2 y3) (utf_Encode.l0 (k + 1) y0 y1 y2 y3)) ∧ (∀ y0 y1 y2 y3 y4 y5, LeO (utf_Encode.l1 k y0 y1 y2 y3 y4 y5) (utf_Encode.l1 (k + 1) y0 y1 y2 y3 y4 y5))
 | 0 => ⟨fun _ _ _ _ r h => by simp [utf_Encode.l0] at h, fun _ _ _ _ _ _ r h => by simp [utf_Encode.l1] at h⟩
 | k + 1 => by
  obtain ⟨ih0, ih1⟩ := utf_Encode.mono_l k
  refine ⟨?_, ?_⟩
  ·intro y0 y1 y2 y3
   unfold utf_Encode.l0
   repeat' first
   | (with_reducible exact ih0 _ _ _ _)
   | (with_reducible exact ih1 _ _ _ _ _ _)
   | (with_reducible exact LeO.refl _)
   | exact ih0 _ _ _ _
   | exact ih1 _ _ _ _ _ _
   | exact LeO.none _
   | refine LeO.ite ?_ ?_
   | refine LeO.bind ?_ (fun _ => ?_)
  ·intro y0 y1 y2 y3 y4 y5
   unfold utf_Encode.l1
   repeat' first
   | (with_reducible exact ih0 _ _ _ _)
   | (with_reducible exact ih1 _ _ _ _ _ _)
   | (with_reducible exact LeO.refl _)
   | exact ih0 _ _ _ _
   | exact ih1 _ _ _ _ _ _
   | exact LeO.none _
   | refine LeO.ite ?_ ?_
   | refine LeO.bind ?_ (fun _ => ?_)
theorem utf_Encode.mono : ∀ a0 k, LeO (utf_Encode.f k a0) (utf_Encode.f (k + 1) a0) := by
 intro a0 k
 obtain ⟨ih0, ih1⟩ := utf_Encode.mono_l k
 unfold utf_Encode.f
 repeat' first
   | (with_reducible exact ih0 _ _ _ _)
   | (with_reducible exact ih1 _ _ _ _ _ _)
   | (with_reducible exact LeO.refl _)
   | exact ih0 _ _ _ _
   | exact ih1 _ _ _ _ _ _
   | exact LeO.none _
   | refine LeO.ite ?_ ?_
   | refine LeO.bind ?_ (fun _ => ?_)
set_option maxHeartbeats 8000000 in
set_option maxRecDepth 100000 in
theorem utf_Encode.calls (k : Nat) (A0 : Option Addr) (c0 : Nat) (l0 : List Int) (r1 : ByteArray) (r2 : Int) (w : World) (hr0 : Kd.C (Kd.int .i32) w A0 l0.length l0) (hc0 : l0.length ≤ c0) (h : utf_Encode.f k l0 = some (r1, r2)) :
  Calls Tryz.prog 47 #[.slice A0 l0.length c0] w fun e w' => e = .returned (.tuple #[.string r1, .int .i64 r2]) ∧ Below w.heap.size w w' := by
 have HR0 := aM hr0
 have HC0 := aM hc0
 clear hr0 hc0
 have HB := aM (Below.refl w.heap.size w)
 have H := h
 clear h
 unfold utf_Encode.f at H
 have H' := aM H
 clear H
 go_enter Tryz.func47, Tryz.ntmps47
 go_wp2
 go_loopg [4, 11] k (fun kq v4 v11 w' => ∃ (x4_1 : List Int) (x11_1 : Int), v11 = .int .i64 x11_1 ∧ Aside0 (utf_Encode.l0 kq x4_1 l0 (l0.length : Int) x11_1 = some (r1, r2)) ∧ Aside0 (kq ≤ k) ∧ Aside0 (Kd.R (Kd.int .u8) 5 w' w.heap.size (fun _ => True) v4 x4_1) ∧ Aside0 (Below w.heap.size w w'))
 case atStart => exact ⟨(([] : List Int)), (0), zP, H', ⟨Nat.le_refl _⟩, ⟨zL⟩, ⟨zB⟩⟩
 case round =>
  clear H'
  obtain ⟨x4_1, x11_1, rfl, HA, HK1, HO_4, HB⟩ := hrel
  cases gk with
  | zero => exact absurd HA.out (by simp [utf_Encode.l0])
  | succ k1 =>
   have H := HA.out
   clear HA
   simp only [utf_Encode.l0] at H
   by_cases c2 : x11_1 < (l0.length : Int)
   ·rw [if_pos c2] at H
    have c2b0 : decide (x11_1 < (l0.length : Int)) = true := decide_eq_true c2
    clear c2
    by_cases c3 : 0 ≤ x11_1
    ·rw [if_pos c3] at H
     have c3b0 : decide (0 ≤ x11_1) = true := decide_eq_true c3
     clear c3
     by_cases c4 : x11_1 < (l0.length : Int)
     ·rw [if_pos c4] at H
      have c4b0 : decide (x11_1 < (l0.length : Int)) = true := decide_eq_true c4
      clear c4
      obtain ⟨t265, A5, H⟩ := zO H
      by_cases c6 : t265 = 0
      ·rw [if_pos c6] at H
       have c6b0 : (t265 == 0) = true := beq_iff_eq.mpr c6
       have c6b1 : (t265 != 0) = false := bne_eq_false_iff_eq.mpr c6
       clear c6
       simp only [Option.some.injEq, Prod.mk.injEq] at H
       obtain ⟨rfl, rfl⟩ := H
       have p264 : 0 ≤ (x11_1 : Int) := zoA
       have q264 : x11_1 < (l0.length : Int) := zoA
       obtain ⟨ad264, e264, hx264_0⟩ := Kd.at_int HR0.out x11_1 p264 q264
       cases e264
       replace hx264_0 := (HB.out.cell (World.block_lt_of_cell? w _ hx264_0)).trans hx264_0
       replace p264 := eq_true p264
       replace q264 := eq_true q264
       go_wp2_with (first | ((with_reducible refine gate_callee (f := 90) rfl ?_); refine goesL_ (some 16) rfl rfl Tryz.func90 zK rfl #[.int .i32 (rd l0 x11_1)] rfl zM ?_; (with_reducible refine (utf_Length.calls (rd l0 x11_1) t265 _ A5.out).mono ?_); rintro e w' ⟨rfl, ⟨nd, rfl⟩⟩; refine ⟨_, rfl, ?_⟩))
       go_ret2
       exact ⟨zE, zB⟩
      ·rw [if_neg c6] at H
       have c6b0 : (t265 == 0) = false := beq_eq_false_iff_ne.mpr c6
       have c6b1 : (t265 != 0) = true := bne_iff_ne.mpr c6
       by_cases c7 : 0 ≤ t265
       ·rw [if_pos c7] at H
        have c7b0 : decide (0 ≤ t265) = true := decide_eq_true c7
        clear c7
        by_cases c8 : t265 < 5
        ·rw [if_pos c8] at H
         have c8b0 : decide (t265 < 5) = true := decide_eq_true c8
         clear c8
         obtain ⟨ji10, hji10⟩ : ∃ j_ : Int, (IntKind.u64.wrap (wrap64 (6 * (wrap64 (t265 - 1))))) = j_ := ⟨_, rfl⟩
         replace H : (if 0 ≤ (ji10) then (if x4_1.length < 140737488355328 then (utf_Encode.l1 k1 (x4_1 ++ [Go.bits .or .u8 (bt (⟨#[0, 0, 192, 224, 240]⟩ : ByteArray) t265) ((shr .i32 (rd l0 x11_1) (ji10)) % 256)]) (rd l0 x11_1) (wrap64 (t265 - 2)) l0 (l0.length : Int) x11_1) else (none)) else (none)) = some (r1, r2) := by first | (rw [hji10] at H; exact H) | (simp only [hji10] at H ⊢; exact H)
         (try rw [hji10] at A5)
         by_cases c11 : 0 ≤ (ji10)
         ·rw [if_pos c11] at H
          have c11b0 := eq_true c11
          have c11b1 : decide (0 ≤ (ji10)) = true := decide_eq_true c11
          clear c11
          obtain ⟨ji12, hji12⟩ : ∃ j_ : Int, (shr .i32 (rd l0 x11_1) (ji10)) = j_ := ⟨_, rfl⟩
          replace H : (if x4_1.length < 140737488355328 then (utf_Encode.l1 k1 (x4_1 ++ [Go.bits .or .u8 (bt (⟨#[0, 0, 192, 224, 240]⟩ : ByteArray) t265) ((ji12) % 256)]) (rd l0 x11_1) (wrap64 (t265 - 2)) l0 (l0.length : Int) x11_1) else (none)) = some (r1, r2) := by first | (rw [hji12] at H; exact H) | (simp only [hji12] at H ⊢; exact H)
          (try rw [hji12] at A5)
          have hji12_ : ((rd l0 x11_1) / 2 ^ min (ji10).toNat 32) = ji12 := hji12
          have hji12z : (ji10) ≤ 32 → ((rd l0 x11_1) / 2 ^ (ji10).toNat) = ji12 := shr_small hji12
          by_cases c13 : x4_1.length < 140737488355328
          ·rw [if_pos c13] at H
           have LMc13 := aM c13
           clear c13
           obtain ⟨y266, hy266⟩ : ∃ y_ : List Int, y_ = (x4_1 ++ [Go.bits .or .u8 (bt (⟨#[0, 0, 192, 224, 240]⟩ : ByteArray) t265) ((ji12) % 256)]) := ⟨_, rfl⟩
           replace H : (utf_Encode.l1 k1 y266 (rd l0 x11_1) (wrap64 (t265 - 2)) l0 (l0.length : Int) x11_1) = some (r1, r2) := zY hy266 H
           have Ny266 := aM hy266
           clear hy266
           have H' := aM H
           clear H
           have p264 : 0 ≤ (x11_1 : Int) := zoA
           have q264 : x11_1 < (l0.length : Int) := zoA
           obtain ⟨ad264, e264, hx264_0⟩ := Kd.at_int HR0.out x11_1 p264 q264
           cases e264
           replace hx264_0 := (HB.out.cell (World.block_lt_of_cell? w _ hx264_0)).trans hx264_0
           replace p264 := eq_true p264
           replace q264 := eq_true q264
           go_wp2_with (first | ((with_reducible refine gate_callee (f := 90) rfl ?_); refine goesL_ (some 16) rfl rfl Tryz.func90 zK rfl #[.int .i32 (rd l0 x11_1)] rfl zM ?_; (with_reducible refine (utf_Length.calls (rd l0 x11_1) t265 _ A5.out).mono ?_); rintro e w' ⟨rfl, ⟨nd, rfl⟩⟩; refine ⟨_, rfl, ?_⟩; have p9 : 0 ≤ (t265 : Int) := zoA; have q9 : t265 < (5 : Int) := zoA; have hx9 := bt_at (⟨#[0, 0, 192, 224, 240]⟩ : ByteArray) t265; replace p9 := eq_true p9; replace q9 := eq_true q9) | ((with_reducible refine gate_builtin (b := .append) (xs := #[.tmp 19, .tmp 30]) rfl ?_); at_builtin; refine Kd.R_append (Kd.int .u8) (w0 := w) w.heap.size rfl (.tmp 19) (.tmp 30) 119 5 (.int .u8 0) 1 rfl Tryz.underlying119 info5 rfl (by decide) (by omega) u4 x4_1 (Go.bits .or .u8 (bt (⟨#[0, 0, 192, 224, 240]⟩ : ByteArray) t265) ((ji12) % 256)) [.int .u8 (Go.bits .or .u8 (bt (⟨#[0, 0, 192, 224, 240]⟩ : ByteArray) t265) ((ji12) % 256))] (fun _ => True) (fun _ => False) rfl rfl ?aP (fun _ hk => hk.elim) ?aF ?aO ?aB ?aS ?aL ?_; (case aP => exact rfl); (case aB => exact zB); (case aF => exact (fun _ _ => trivial)); (case aO => exact (zR HO_4)); (case aS => exact (below_size zB)); (case aL => have := LMc13.out; omega); intro v267 w14 ho hb hg hat; rw [← Ny266.out] at ho; have n_ := zI (aM (hb)) (aM (ho)); clear HB HO_4; obtain ⟨HB, HO268⟩ := n_; clear ho hb hg hat))
           go_loopg [4, 8] k1 (fun kq v4 v8 w' => ∃ (x4_2 : List Int) (x8_2 : Int), v8 = .int .i64 x8_2 ∧ Aside0 (utf_Encode.l1 kq x4_2 (rd l0 x11_1) x8_2 l0 (l0.length : Int) x11_1 = some (r1, r2)) ∧ Aside0 (kq ≤ k1) ∧ Aside0 (Kd.R (Kd.int .u8) 5 w' w.heap.size (fun _ => True) v4 x4_2) ∧ Aside0 (Below w.heap.size w w'))
           case atStart => exact ⟨(y266), (wrap64 (t265 - 2)), zP, H', ⟨Nat.le_refl _⟩, ⟨zR HO268⟩, ⟨zB⟩⟩
           case round =>
            clear H'
            try clear c1
            try clear c2
            try clear c2b0
            try clear p2
            try clear q2
            try clear hx2
            try clear c3
            try clear c3b0
            try clear c4
            try clear c4b0
            try clear c6
            try clear c6b0
            try clear c6b1
            try clear p6
            try clear c7
            try clear c7b0
            try clear c8
            try clear c8b0
            try clear c9
            try clear p9
            try clear q9
            try clear hx9
            try clear c11
            try clear c11b0
            try clear c11b1
            try clear c13
            try clear hx264_0
            try clear p264
            try clear p9
            try clear q264
            try clear q9
            obtain ⟨x4_2, x8_2, rfl, HA, HK2, HO_4, HB⟩ := hrel
            cases gk with
            | zero => exact absurd HA.out (by simp [utf_Encode.l1])
            | succ k2 =>
             have H := HA.out
             clear HA
             simp only [utf_Encode.l1] at H
             by_cases c15 : x8_2 ≥ 0
             ·rw [if_pos c15] at H
              have c15b0 : decide (0 ≤ x8_2) = true := decide_eq_true c15
              clear c15
              obtain ⟨ji16, hji16⟩ : ∃ j_ : Int, (IntKind.u64.wrap (wrap64 (6 * x8_2))) = j_ := ⟨_, rfl⟩
              replace H : (if 0 ≤ (ji16) then (if x4_2.length < 140737488355328 then (utf_Encode.l1 k2 (x4_2 ++ [Go.bits .or .u8 128 (Go.bits .and .u8 ((shr .i32 (rd l0 x11_1) (ji16)) % 256) 63)]) (rd l0 x11_1) (wrap64 (x8_2 - 1)) l0 (l0.length : Int) x11_1) else (none)) else (none)) = some (r1, r2) := by first | (rw [hji16] at H; exact H) | (simp only [hji16] at H ⊢; exact H)
              by_cases c17 : 0 ≤ (ji16)
              ·rw [if_pos c17] at H
               have c17b0 := eq_true c17
               have c17b1 : decide (0 ≤ (ji16)) = true := decide_eq_true c17
               clear c17
               obtain ⟨ji18, hji18⟩ : ∃ j_ : Int, (shr .i32 (rd l0 x11_1) (ji16)) = j_ := ⟨_, rfl⟩
               replace H : (if x4_2.length < 140737488355328 then (utf_Encode.l1 k2 (x4_2 ++ [Go.bits .or .u8 128 (Go.bits .and .u8 ((ji18) % 256) 63)]) (rd l0 x11_1) (wrap64 (x8_2 - 1)) l0 (l0.length : Int) x11_1) else (none)) = some (r1, r2) := by first | (rw [hji18] at H; exact H) | (simp only [hji18] at H ⊢; exact H)
               have hji18_ : ((rd l0 x11_1) / 2 ^ min (ji16).toNat 32) = ji18 := hji18
               have hji18z : (ji16) ≤ 32 → ((rd l0 x11_1) / 2 ^ (ji16).toNat) = ji18 := shr_small hji18
               by_cases c19 : x4_2.length < 140737488355328
               ·rw [if_pos c19] at H
                have LMc19 := aM c19
                clear c19
                obtain ⟨y269, hy269⟩ : ∃ y_ : List Int, y_ = (x4_2 ++ [Go.bits .or .u8 128 (Go.bits .and .u8 ((ji18) % 256) 63)]) := ⟨_, rfl⟩
                replace H : (utf_Encode.l1 k2 y269 (rd l0 x11_1) (wrap64 (x8_2 - 1)) l0 (l0.length : Int) x11_1) = some (r1, r2) := zY hy269 H
                rw [or_and_63] at hy269
                have Ny269 := aM hy269
                clear hy269
                have H' := aM H
                clear H
                go_wp2_with (first | ((with_reducible refine gate_builtin (b := .append) (xs := #[.tmp 38, .tmp 47]) rfl ?_); at_builtin; refine Kd.R_append (Kd.int .u8) (w0 := w) w.heap.size rfl (.tmp 38) (.tmp 47) 119 5 (.int .u8 0) 1 rfl Tryz.underlying119 info5 rfl (by decide) (by omega) u4 x4_2 ((128 + ji18 % 64)) [.int .u8 ((128 + ji18 % 64))] (fun _ => True) (fun _ => False) rfl rfl ?aP (fun _ hk => hk.elim) ?aF ?aO ?aB ?aS ?aL ?_; (case aP => exact rfl); (case aB => exact zB); (case aF => exact (fun _ _ => trivial)); (case aO => exact (zR HO_4)); (case aS => exact (below_size zB)); (case aL => have := LMc19.out; omega); intro v270 w20 ho hb hg hat; rw [← Ny269.out] at ho; have n_ := zI (aM (hb)) (aM (ho)); clear HB HO_4; obtain ⟨HB, HO271⟩ := n_; clear ho hb hg hat))
                go_roundg k2
                case measure => have := HK1.out; have := HK2.out; omega
                case rel => exact ⟨(y269), (wrap64 (x8_2 - 1)), zP, H', ⟨by have := HK1.out; have := HK2.out; omega⟩, ⟨zR HO271⟩, ⟨zB⟩⟩
               ·rw [if_neg c19] at H
                exact absurd H (by simp)
              ·rw [if_neg c17] at H
               exact absurd H (by simp)
             ·rw [if_neg c15] at H
              have c15b0 : decide (0 ≤ x8_2) = false := decide_eq_false c15
              clear c15
              have H' := aM H
              clear H
              go_wp2
              go_roundg k2
              case measure => have := HK1.out; have := HK2.out; omega
              case rel => exact ⟨(x4_2), (wrap64 (x11_1 + 1)), zP, H', ⟨by have := HK1.out; have := HK2.out; omega⟩, ⟨zR HO_4⟩, ⟨zB⟩⟩
          ·rw [if_neg c13] at H
           exact absurd H (by simp)
         ·rw [if_neg c11] at H
          exact absurd H (by simp)
        ·rw [if_neg c8] at H
         exact absurd H (by simp)
       ·rw [if_neg c7] at H
        exact absurd H (by simp)
     ·rw [if_neg c4] at H
      exact absurd H (by simp)
    ·rw [if_neg c3] at H
     exact absurd H (by simp)
   ·rw [if_neg c2] at H
    have c2b0 : decide (x11_1 < (l0.length : Int)) = false := decide_eq_false c2
    clear c2
    simp only [Option.some.injEq, Prod.mk.injEq] at H
    obtain ⟨rfl, rfl⟩ := H
    have hcv21 := own_string (P := Tryz.prog) Tryz.underlying119 Tryz.underlying5 Tryz.underlying9 (Kd.own_of_R HO_4.out)
    go_wp2
    go_ret2
    exact ⟨zE, zB⟩

/-! ### prep_Value: function 25 -/
def prep_Value.f (k : Nat) (a0 : Int) (a1 : ByteArray) : Option (ByteArray × Int) := (prep_known.f a0).bind fun t272 => (if t272 = true then (if (a1.size : Int) > 1202 then (some ((⟨#[]⟩ : ByteArray), 3)) else ((utf_Runes.f k a1).bind fun bt273 => (if bt273.2.2 = 0 then ((prep_Steps.f k a0 bt273.1).bind fun bt278 => (if bt278.2 = 0 then ((utf_Encode.f k bt278.1).bind fun bt282 => (some (bt282.1, bt282.2))) else (some ((⟨#[]⟩ : ByteArray), bt278.2)))) else (some ((⟨#[]⟩ : ByteArray), bt273.2.2))))) else (some ((⟨#[]⟩ : ByteArray), 2)))
theorem prep_Value.mono : ∀ a0 a1 k, LeO (prep_Value.f k a0 a1) (prep_Value.f (k + 1) a0 a1) := by
 intro a0 a1 k
 unfold prep_Value.f
 repeat' first
   | (with_reducible exact prep_Steps.mono _ _ _)
   | (with_reducible exact utf_Encode.mono _ _)
   | (with_reducible exact utf_Runes.mono _ _)
   | (with_reducible exact LeO.refl _)
   | exact prep_Steps.mono _ _ _
   | exact utf_Encode.mono _ _
   | exact utf_Runes.mono _ _
   | exact LeO.none _
   | refine LeO.ite ?_ ?_
   | refine LeO.bind ?_ (fun _ => ?_)
set_option maxHeartbeats 8000000 in
set_option maxRecDepth 100000 in
theorem prep_Value.calls (k : Nat) (a0 : Int) (a1 : ByteArray) (r1 : ByteArray) (r2 : Int) (w : World) (h : prep_Value.f k a0 a1 = some (r1, r2)) :
  Calls Tryz.prog 25 #[.int .i64 a0, .string a1] w fun e w' => e = .returned (.tuple #[.string r1, .int .i64 r2]) ∧ Below w.heap.size w w' := by
 have HB := aM (Below.refl w.heap.size w)
 have H := h
 clear h
 unfold prep_Value.f at H
 obtain ⟨t272, A3, H⟩ := zO H
 by_cases c4 : t272 = true
 ·subst c4
  rw [if_pos rfl] at H
  by_cases c5 : (a1.size : Int) > 1202
  ·rw [if_pos c5] at H
   have c5b0 : decide (1202 < (a1.size : Int)) = true := decide_eq_true c5
   have c5b1 : decide (1202 < a1.size) = true := decide_eq_true (by omega)
   clear c5
   simp only [Option.some.injEq, Prod.mk.injEq] at H
   obtain ⟨rfl, rfl⟩ := H
   go_enter Tryz.func25, Tryz.ntmps25
   go_wp2_with (first | ((with_reducible refine gate_callee (f := 44) rfl ?_); refine goesL_ (some 12) rfl rfl Tryz.func44 zK rfl #[.int .i64 a0] rfl zM ?_; (with_reducible refine (prep_known.calls a0 true _ A3.out).mono ?_); rintro e w' ⟨rfl, ⟨nd, rfl⟩⟩; refine ⟨_, rfl, ?_⟩))
   go_ret2
   exact ⟨zE, zB⟩
  ·rw [if_neg c5] at H
   have c5b0 : decide (1202 < (a1.size : Int)) = false := decide_eq_false c5
   have c5b1 : decide (1202 < a1.size) = false := decide_eq_false (by omega)
   clear c5
   obtain ⟨⟨t273, t274, t275⟩, A6, H⟩ := zO H
   try dsimp only at H
   by_cases c7 : t275 = 0
   ·rw [if_pos c7] at H
    have c7b0 : (t275 == 0) = true := beq_iff_eq.mpr c7
    have c7b1 : (t275 != 0) = false := bne_eq_false_iff_eq.mpr c7
    clear c7
    obtain ⟨⟨t278, t279⟩, A8, H⟩ := zO H
    try dsimp only at H
    by_cases c9 : t279 = 0
    ·rw [if_pos c9] at H
     have c9b0 : (t279 == 0) = true := beq_iff_eq.mpr c9
     have c9b1 : (t279 != 0) = false := bne_eq_false_iff_eq.mpr c9
     clear c9
     obtain ⟨⟨t282, t283⟩, A10, H⟩ := zO H
     try dsimp only at H
     simp only [Option.some.injEq, Prod.mk.injEq] at H
     obtain ⟨rfl, rfl⟩ := H
     go_enter Tryz.func25, Tryz.ntmps25
     go_wp2_with (first | ((with_reducible refine gate_callee (f := 44) rfl ?_); refine goesL_ (some 12) rfl rfl Tryz.func44 zK rfl #[.int .i64 a0] rfl zM ?_; (with_reducible refine (prep_known.calls a0 true _ A3.out).mono ?_); rintro e w' ⟨rfl, ⟨nd, rfl⟩⟩; refine ⟨_, rfl, ?_⟩) | ((with_reducible refine gate_callee (f := 45) rfl ?_); refine goesL_ (some 20) rfl rfl Tryz.func45 zK rfl #[.string a1] rfl zM ?_; (with_reducible refine (utf_Runes.calls k a1 t273 t274 t275 _ A6.out).mono ?_); rintro e w11 ⟨v276, rfl, ho0, hb⟩; refine ⟨_, rfl, ?_⟩; have n_ := zI (aM (Kd.R_lower ho0 (below_size zB))) (aM (below_step zB hb)); clear HB; obtain ⟨HO277, HB⟩ := n_; (try clear hb); (try clear ho0); obtain ⟨Ao12, co12, rfl⟩ := Kd.R_slice HO277.out) | ((with_reducible refine gate_callee (f := 46) rfl ?_); refine goesL_ (some 30) rfl rfl Tryz.func46 zK rfl #[.int .i64 a0, .slice Ao12 t273.length co12] rfl zM ?_; (with_reducible refine (prep_Steps.calls k a0 _ _ t273 t278 t279 _ ?side1 ?side2 A8.out).mono ?_); (case side1 => exact zC (Kd.R_reads' HO277.out).2.2); (case side2 => exact (Kd.R_reads' HO277.out).2.1); rintro e w13 ⟨v280, rfl, ho0, hb⟩; refine ⟨_, rfl, ?_⟩; have n_ := zI (aM (Kd.R_elder' (zR HO277) (Kd.R_base ho0) hb)) (zI (aM (Kd.R_lower (Kd.R_new' ho0 (Kd.R_lt (zR HO277))) (below_size zB))) (aM (below_step zB hb))); clear HO277 HB; obtain ⟨HO277, HO281, HB⟩ := n_; (try clear hb); (try clear ho0); obtain ⟨Ao14, co14, rfl⟩ := Kd.R_slice HO281.out) | ((with_reducible refine gate_callee (f := 47) rfl ?_); refine goesL_ (some 37) rfl rfl Tryz.func47 zK rfl #[.slice Ao14 t278.length co14] rfl zM ?_; (with_reducible refine (utf_Encode.calls k _ _ t278 t282 t283 _ ?side1 ?side2 A10.out).mono ?_); (case side1 => exact zC (Kd.R_reads' HO281.out).2.2); (case side2 => exact (Kd.R_reads' HO281.out).2.1); rintro e w15 ⟨rfl, hb⟩; refine ⟨_, rfl, ?_⟩; have n_ := zI (aM (Kd.R_below (zR HO277) hb)) (zI (aM (Kd.R_below (zR HO281) hb)) (aM (below_step zB hb))); clear HO277 HO281 HB; obtain ⟨HO277, HO281, HB⟩ := n_; (try clear hb)))
     go_ret2
     exact ⟨zE, zB⟩
    ·rw [if_neg c9] at H
     have c9b0 : (t279 == 0) = false := beq_eq_false_iff_ne.mpr c9
     have c9b1 : (t279 != 0) = true := bne_iff_ne.mpr c9
     simp only [Option.some.injEq, Prod.mk.injEq] at H
     obtain ⟨rfl, rfl⟩ := H
     go_enter Tryz.func25, Tryz.ntmps25
     go_wp2_with (first | ((with_reducible refine gate_callee (f := 44) rfl ?_); refine goesL_ (some 12) rfl rfl Tryz.func44 zK rfl #[.int .i64 a0] rfl zM ?_; (with_reducible refine (prep_known.calls a0 true _ A3.out).mono ?_); rintro e w' ⟨rfl, ⟨nd, rfl⟩⟩; refine ⟨_, rfl, ?_⟩) | ((with_reducible refine gate_callee (f := 45) rfl ?_); refine goesL_ (some 20) rfl rfl Tryz.func45 zK rfl #[.string a1] rfl zM ?_; (with_reducible refine (utf_Runes.calls k a1 t273 t274 t275 _ A6.out).mono ?_); rintro e w16 ⟨v276, rfl, ho0, hb⟩; refine ⟨_, rfl, ?_⟩; have n_ := zI (aM (Kd.R_lower ho0 (below_size zB))) (aM (below_step zB hb)); clear HB; obtain ⟨HO277, HB⟩ := n_; (try clear hb); (try clear ho0); obtain ⟨Ao17, co17, rfl⟩ := Kd.R_slice HO277.out) | ((with_reducible refine gate_callee (f := 46) rfl ?_); refine goesL_ (some 30) rfl rfl Tryz.func46 zK rfl #[.int .i64 a0, .slice Ao17 t273.length co17] rfl zM ?_; (with_reducible refine (prep_Steps.calls k a0 _ _ t273 t278 t279 _ ?side1 ?side2 A8.out).mono ?_); (case side1 => exact zC (Kd.R_reads' HO277.out).2.2); (case side2 => exact (Kd.R_reads' HO277.out).2.1); rintro e w18 ⟨v280, rfl, ho0, hb⟩; refine ⟨_, rfl, ?_⟩; have n_ := zI (aM (Kd.R_elder' (zR HO277) (Kd.R_base ho0) hb)) (zI (aM (Kd.R_lower (Kd.R_new' ho0 (Kd.R_lt (zR HO277))) (below_size zB))) (aM (below_step zB hb))); clear HO277 HB; obtain ⟨HO277, HO281, HB⟩ := n_; (try clear hb); (try clear ho0)))
     go_ret2
     exact ⟨zE, zB⟩
   ·rw [if_neg c7] at H
    have c7b0 : (t275 == 0) = false := beq_eq_false_iff_ne.mpr c7
    have c7b1 : (t275 != 0) = true := bne_iff_ne.mpr c7
    simp only [Option.some.injEq, Prod.mk.injEq] at H
    obtain ⟨rfl, rfl⟩ := H
    go_enter Tryz.func25, Tryz.ntmps25
    go_wp2_with (first | ((with_reducible refine gate_callee (f := 44) rfl ?_); refine goesL_ (some 12) rfl rfl Tryz.func44 zK rfl #[.int .i64 a0] rfl zM ?_; (with_reducible refine (prep_known.calls a0 true _ A3.out).mono ?_); rintro e w' ⟨rfl, ⟨nd, rfl⟩⟩; refine ⟨_, rfl, ?_⟩) | ((with_reducible refine gate_callee (f := 45) rfl ?_); refine goesL_ (some 20) rfl rfl Tryz.func45 zK rfl #[.string a1] rfl zM ?_; (with_reducible refine (utf_Runes.calls k a1 t273 t274 t275 _ A6.out).mono ?_); rintro e w19 ⟨v276, rfl, ho0, hb⟩; refine ⟨_, rfl, ?_⟩; have n_ := zI (aM (Kd.R_lower ho0 (below_size zB))) (aM (below_step zB hb)); clear HB; obtain ⟨HO277, HB⟩ := n_; (try clear hb); (try clear ho0)))
    go_ret2
    exact ⟨zE, zB⟩
 ·replace c4 := Bool.eq_false_iff.mpr c4
  subst c4
  rw [if_neg (show ¬ (false = true) by decide)] at H
  simp only [Option.some.injEq, Prod.mk.injEq] at H
  obtain ⟨rfl, rfl⟩ := H
  go_enter Tryz.func25, Tryz.ntmps25
  go_wp2_with (first | ((with_reducible refine gate_callee (f := 44) rfl ?_); refine goesL_ (some 12) rfl rfl Tryz.func44 zK rfl #[.int .i64 a0] rfl zM ?_; (with_reducible refine (prep_known.calls a0 false _ A3.out).mono ?_); rintro e w' ⟨rfl, ⟨nd, rfl⟩⟩; refine ⟨_, rfl, ?_⟩))
  go_ret2
  exact ⟨zE, zB⟩

/-! ### syntax_span: function 26 -/
mutual
def syntax_span.l0 : Nat → ByteArray → Int → Int → Int → Int → Option (Bool × Int)
 | 0, _, _, _, _, _ => none
 | k + 1, x0, x1, x2, x8, x9 => if x9 < (x0.size : Int) then (if 0 ≤ x9 then (if (bt x0 x9) < x1 then (syntax_span.j1 k x0 x1 x2 x8 x9 (bt x0 x9) true) else (syntax_span.j1 k x0 x1 x2 x8 x9 (bt x0 x9) (decide ((bt x0 x9) > x2)))) else (none)) else (some (true, x8))
def syntax_span.j1 : Nat → ByteArray → Int → Int → Int → Int → Int → Bool → Option (Bool × Int)
 | 0, _, _, _, _, _, _, _ => none
 | k + 1, x0, x1, x2, x8, x9, x10, x27 => if x27 = true then (some (false, 0)) else (if x10 ≥ 48 then (if x10 ≤ 57 then (syntax_span.l0 k x0 x1 x2 (wrap64 (x8 + 1)) (wrap64 (x9 + 1))) else (syntax_span.l0 k x0 x1 x2 x8 (wrap64 (x9 + 1)))) else (syntax_span.l0 k x0 x1 x2 x8 (wrap64 (x9 + 1))))
end
def syntax_span.f (k : Nat) (a0 : ByteArray) (a1 : Int) (a2 : Int) : Option (Bool × Int) := syntax_span.l0 k a0 a1 a2 0 0
theorem syntax_span.mono_l : ∀ k, (∀ y0 y1 y2 y3 y4, LeO (syntax_span.l0 k y0 y1 y2 y3 y4) (syntax_span.l0 (k + 1) y0 y1 y2 y3 y4)) ∧ (∀ y0 y1 y2 y3 y4 y5 y6, LeO (syntax_span.j1 k y0 y1 y2 y3 y4 y5 y6) (syntax_span.j1 (k + 1) y0 y1 y2 y3 y4 y5 y6))
 | 0 => ⟨fun _ _ _ _ _ r h => by simp [syntax_span.l0] at h, fun _ _ _ _ _ _ _ r h => by simp [syntax_span.j1] at h⟩
 | k + 1 => by
  obtain ⟨ih0, ih1⟩ := syntax_span.mono_l k
  refine ⟨?_, ?_⟩
  ·intro y0 y1 y2 y3 y4
   unfold syntax_span.l0
   repeat' first
   | (with_reducible exact ih0 _ _ _ _ _)
   | (with_reducible exact ih1 _ _ _ _ _ _ _)
   | (with_reducible exact LeO.refl _)
   | exact ih0 _ _ _ _ _
   | exact ih1 _ _ _ _ _ _ _
   | exact LeO.none _
   | refine LeO.ite ?_ ?_
   | refine LeO.bind ?_ (fun _ => ?_)
  ·intro y0 y1 y2 y3 y4 y5 y6
   unfold syntax_span.j1
   repeat' first
   | (with_reducible exact ih0 _ _ _ _ _)
   | (with_reducible exact ih1 _ _ _ _ _ _ _)
   | (with_reducible exact LeO.refl _)
   | exact ih0 _ _ _ _ _
   | exact ih1 _ _ _ _ _ _ _
   | exact LeO.none _
   | refine LeO.ite ?_ ?_
   | refine LeO.bind ?_ (fun _ => ?_)
theorem syntax_span.mono : ∀ a0 a1 a2 k, LeO (syntax_span.f k a0 a1 a2) (syntax_span.f (k + 1) a0 a1 a2) := by
 intro a0 a1 a2 k
 obtain ⟨ih0, ih1⟩ := syntax_span.mono_l k
 unfold syntax_span.f
 repeat' first
   | (with_reducible exact ih0 _ _ _ _ _)
   | (with_reducible exact ih1 _ _ _ _ _ _ _)
   | (with_reducible exact LeO.refl _)
   | exact ih0 _ _ _ _ _
   | exact ih1 _ _ _ _ _ _ _
   | exact LeO.none _
   | refine LeO.ite ?_ ?_
   | refine LeO.bind ?_ (fun _ => ?_)
set_option maxHeartbeats 8000000 in
set_option maxRecDepth 100000 in
theorem syntax_span.calls (k : Nat) (a0 : ByteArray) (a1 : Int) (a2 : Int) (r1 : Bool) (r2 : Int) (w : World) (h : syntax_span.f k a0 a1 a2 = some (r1, r2)) :
  Calls Tryz.prog 26 #[.string a0, .int .u8 a1, .int .u8 a2] w fun e w' => e = .returned (.tuple #[.bool r1, .int .i64 r2]) ∧ Drawn0 w w' := by
 have H := h
 clear h
 unfold syntax_span.f at H
 have H' := aM H
 clear H
 go_enter Tryz.func26, Tryz.ntmps26
 go_wp2
 go_loopg [8, 9] k (fun kq v8 v9 w' => ∃ (x8_1 : Int) (x9_1 : Int), v8 = .int .i64 x8_1 ∧ v9 = .int .i64 x9_1 ∧ Aside0 (syntax_span.l0 kq a0 a1 a2 x8_1 x9_1 = some (r1, r2)) ∧ Aside0 (kq ≤ k) ∧ Drawn0 w w')
 case atStart => exact ⟨(0), (0), zP, zP, H', ⟨Nat.le_refl _⟩, zD⟩
 case round =>
  clear H'
  try clear c2
  try clear p2
  obtain ⟨x8_1, x9_1, rfl, rfl, HA, HK1, ⟨m1, rfl⟩⟩ := hrel
  cases gk with
  | zero => exact absurd HA.out (by simp [syntax_span.l0])
  | succ k1 =>
   have H := HA.out
   clear HA
   simp only [syntax_span.l0] at H
   by_cases c4 : x9_1 < (a0.size : Int)
   ·rw [if_pos c4] at H
    have c4b0 : decide (x9_1 < (a0.size : Int)) = true := decide_eq_true c4
    clear c4
    by_cases c5 : 0 ≤ x9_1
    ·rw [if_pos c5] at H
     have c5b0 : decide (0 ≤ x9_1) = true := decide_eq_true c5
     clear c5
     have HC7 := aM H
     clear H
     have p6 : 0 ≤ (x9_1 : Int) := zoA
     have q6 : x9_1 < (a0.size : Int) := zoA
     have hx6 := bt_at a0 x9_1
     replace p6 := eq_true p6
     replace q6 := eq_true q6
     go_upto_region 6 with (fail)
     go_cut [27] (fun v27 wc => ∃ (kq : Nat) (x27_6 : Bool), v27 = .bool x27_6 ∧ Aside0 (syntax_span.j1 kq a0 a1 a2 x8_1 x9_1 (bt a0 x9_1) x27_6 = some (r1, r2)) ∧ Aside0 (kq ≤ k1) ∧ Drawn0 w wc)
     case first =>
      have H := HC7.out
      clear HC7
      by_cases c8 : (bt a0 x9_1) < a1
      ·rw [if_pos c8] at H
       have c8b0 : decide ((bt a0 x9_1) < a1) = true := decide_eq_true c8
       clear c8
       (first | rw [c8b0] | (simp only [i64_w, i32_w]; rw [c8b0]) | skip)
       have H' := aM H
       clear H
       go_wp2
       go_meet
       case rel => exact ⟨_, (true), zP, H', ⟨by have := HK1.out; first | omega | exact Nat.le_refl _⟩, zD⟩
      ·rw [if_neg c8] at H
       have c8b0 : decide ((bt a0 x9_1) < a1) = false := decide_eq_false c8
       clear c8
       (first | rw [c8b0] | (simp only [i64_w, i32_w]; rw [c8b0]) | skip)
       have H' := aM H
       clear H
       go_wp2
       go_meet
       case rel => exact ⟨_, (decide ((bt a0 x9_1) > a2)), zP, H', ⟨by have := HK1.out; first | omega | exact Nat.le_refl _⟩, zD⟩
     case rest =>
      clear HC7
      try clear c2
      try clear p2
      try clear c4
      try clear c4b0
      try clear c5
      try clear c5b0
      try clear p6
      try clear q6
      try clear hx6
      try clear c8
      try clear c8b0
      try clear p2
      try clear p6
      try clear q6
      obtain ⟨kq, x27_6, rfl, HA, HJ6, ⟨mc6, rfl⟩⟩ := hcut
      cases kq with
      | zero => exact absurd HA.out (by simp [syntax_span.j1])
      | succ kj6 =>
       have H := HA.out
       clear HA
       simp only [syntax_span.j1] at H
       by_cases c9 : x27_6 = true
       ·subst c9
        rw [if_pos rfl] at H
        simp only [Option.some.injEq, Prod.mk.injEq] at H
        obtain ⟨rfl, rfl⟩ := H
        go_wp2
        go_ret2
        exact ⟨zP, zD⟩
       ·replace c9 := Bool.eq_false_iff.mpr c9
        subst c9
        rw [if_neg (show ¬ (false = true) by decide)] at H
        by_cases c10 : (bt a0 x9_1) ≥ 48
        ·rw [if_pos c10] at H
         have c10b0 : decide (48 ≤ (bt a0 x9_1)) = true := decide_eq_true c10
         clear c10
         by_cases c11 : (bt a0 x9_1) ≤ 57
         ·rw [if_pos c11] at H
          have c11b0 : decide ((bt a0 x9_1) ≤ 57) = true := decide_eq_true c11
          clear c11
          have H' := aM H
          clear H
          go_wp2
          go_roundg kj6
          case measure => have := HK1.out; have := HJ6.out; omega
          case rel => exact ⟨(wrap64 (x8_1 + 1)), (wrap64 (x9_1 + 1)), zP, zP, H', ⟨by have := HK1.out; have := HJ6.out; omega⟩, zD⟩
         ·rw [if_neg c11] at H
          have c11b0 : decide ((bt a0 x9_1) ≤ 57) = false := decide_eq_false c11
          clear c11
          have H' := aM H
          clear H
          go_wp2
          go_roundg kj6
          case measure => have := HK1.out; have := HJ6.out; omega
          case rel => exact ⟨(x8_1), (wrap64 (x9_1 + 1)), zP, zP, H', ⟨by have := HK1.out; have := HJ6.out; omega⟩, zD⟩
        ·rw [if_neg c10] at H
         have c10b0 : decide (48 ≤ (bt a0 x9_1)) = false := decide_eq_false c10
         clear c10
         have H' := aM H
         clear H
         go_wp2
         go_roundg kj6
         case measure => have := HK1.out; have := HJ6.out; omega
         case rel => exact ⟨(x8_1), (wrap64 (x9_1 + 1)), zP, zP, H', ⟨by have := HK1.out; have := HJ6.out; omega⟩, zD⟩
    ·rw [if_neg c5] at H
     exact absurd H (by simp)
   ·rw [if_neg c4] at H
    have c4b0 : decide (x9_1 < (a0.size : Int)) = false := decide_eq_false c4
    clear c4
    simp only [Option.some.injEq, Prod.mk.injEq] at H
    obtain ⟨rfl, rfl⟩ := H
    go_wp2
    go_ret2
    exact ⟨zP, zD⟩

/-! ### dn_small: function 51 -/
def dn_small.f (a0 : Int) : Option (Bool) := if a0 ≥ 97 then (some (decide (a0 ≤ 122))) else (some false)
set_option maxHeartbeats 8000000 in
set_option maxRecDepth 100000 in
theorem dn_small.calls (a0 : Int) (r : Bool) (w : World) (h : dn_small.f a0 = some r) :
  Calls Tryz.prog 51 #[.int .u8 a0] w fun e w' => e = .returned (.bool r) ∧ Drawn0 w w' := by
 have H := h
 clear h
 unfold dn_small.f at H
 by_cases c2 : a0 ≥ 97
 ·rw [if_pos c2] at H
  have c2b0 : decide (97 ≤ a0) = true := decide_eq_true c2
  clear c2
  obtain rfl := sI H
  go_enter Tryz.func51, Tryz.ntmps51
  go_wp2
  go_ret
  exact ⟨zP, zD⟩
 ·rw [if_neg c2] at H
  have c2b0 : decide (97 ≤ a0) = false := decide_eq_false c2
  clear c2
  obtain rfl := sI H
  go_enter Tryz.func51, Tryz.ntmps51
  go_wp2
  go_ret
  exact ⟨zP, zD⟩

/-! ### dn_Word: function 29 -/
mutual
def dn_Word.j0 : Nat → ByteArray → Bool → Option (Bool)
 | 0, _, _ => none
 | k + 1, x0, x17 => if x17 = true then (some false) else (dn_Word.l0 k x0 1)
def dn_Word.l0 : Nat → ByteArray → Int → Option (Bool)
 | 0, _, _ => none
 | k + 1, x0, x3 => if x3 < (x0.size : Int) then (if 0 ≤ x3 then ((dn_small.f (bt x0 x3)).bind fun t285 => (if t285 = true then (dn_Word.l0 k x0 (wrap64 (x3 + 1))) else (if (bt x0 x3) < 48 then (if (bt x0 x3) = 45 then (dn_Word.l0 k x0 (wrap64 (x3 + 1))) else (some false)) else (if (bt x0 x3) > 57 then (if (bt x0 x3) = 45 then (dn_Word.l0 k x0 (wrap64 (x3 + 1))) else (some false)) else (dn_Word.l0 k x0 (wrap64 (x3 + 1))))))) else (none)) else (some true)
end
def dn_Word.f (k : Nat) (a0 : ByteArray) : Option (Bool) := if a0.toList = ([] : List UInt8) then (dn_Word.j0 k a0 true) else (if (a0.size : Int) > 16 then (dn_Word.j0 k a0 true) else (if 0 < (a0.size : Int) then ((dn_small.f (bt a0 0)).bind fun t284 => (dn_Word.j0 k a0 (!t284))) else (none)))
theorem dn_Word.mono_l : ∀ k, (∀ y0 y1, LeO (dn_Word.j0 k y0 y1) (dn_Word.j0 (k + 1) y0 y1)) ∧ (∀ y0 y1, LeO (dn_Word.l0 k y0 y1) (dn_Word.l0 (k + 1) y0 y1))
 | 0 => ⟨fun _ _ r h => by simp [dn_Word.j0] at h, fun _ _ r h => by simp [dn_Word.l0] at h⟩
 | k + 1 => by
  obtain ⟨ih0, ih1⟩ := dn_Word.mono_l k
  refine ⟨?_, ?_⟩
  ·intro y0 y1
   unfold dn_Word.j0
   repeat' first
   | (with_reducible exact ih0 _ _)
   | (with_reducible exact ih1 _ _)
   | (with_reducible exact LeO.refl _)
   | exact ih0 _ _
   | exact ih1 _ _
   | exact LeO.none _
   | refine LeO.ite ?_ ?_
   | refine LeO.bind ?_ (fun _ => ?_)
  ·intro y0 y1
   unfold dn_Word.l0
   repeat' first
   | (with_reducible exact ih0 _ _)
   | (with_reducible exact ih1 _ _)
   | (with_reducible exact LeO.refl _)
   | exact ih0 _ _
   | exact ih1 _ _
   | exact LeO.none _
   | refine LeO.ite ?_ ?_
   | refine LeO.bind ?_ (fun _ => ?_)
theorem dn_Word.mono : ∀ a0 k, LeO (dn_Word.f k a0) (dn_Word.f (k + 1) a0) := by
 intro a0 k
 obtain ⟨ih0, ih1⟩ := dn_Word.mono_l k
 unfold dn_Word.f
 repeat' first
   | (with_reducible exact ih0 _ _)
   | (with_reducible exact ih1 _ _)
   | (with_reducible exact LeO.refl _)
   | exact ih0 _ _
   | exact ih1 _ _
   | exact LeO.none _
   | refine LeO.ite ?_ ?_
   | refine LeO.bind ?_ (fun _ => ?_)
set_option maxHeartbeats 8000000 in
set_option maxRecDepth 100000 in
theorem dn_Word.calls (k : Nat) (a0 : ByteArray) (r : Bool) (w : World) (h : dn_Word.f k a0 = some r) :
  Calls Tryz.prog 29 #[.string a0] w fun e w' => e = .returned (.bool r) ∧ Drawn0 w w' := by
 have H := h
 clear h
 unfold dn_Word.f at H
 have HC2 := aM H
 clear H
 go_enter Tryz.func29, Tryz.ntmps29
 go_upto_region 1 with (fail)
 go_cut [17] (fun v17 wc => ∃ (kq : Nat) (x17_1 : Bool), v17 = .bool x17_1 ∧ Aside0 (dn_Word.j0 kq a0 x17_1 = some r) ∧ Aside0 (kq ≤ k) ∧ Drawn0 w wc)
 case first =>
  have H := HC2.out
  clear HC2
  by_cases c3 : a0.toList = ([] : List UInt8)
  ·rw [if_pos c3] at H
   have c3b0 : (a0.toList == ([] : List UInt8)) = true := beq_iff_eq.mpr c3
   have c3b1 : (a0.toList != ([] : List UInt8)) = false := bne_eq_false_iff_eq.mpr c3
   clear c3
   (first | rw [c3b0] | (simp only [i64_w, i32_w]; rw [c3b0]) | skip)
   have H' := aM H
   clear H
   go_wp2
   go_meet
   case rel => exact ⟨_, (true), zP, H', ⟨by first | omega | exact Nat.le_refl _⟩, zD⟩
  ·rw [if_neg c3] at H
   have c3b0 : (a0.toList == ([] : List UInt8)) = false := beq_eq_false_iff_ne.mpr c3
   have c3b1 : (a0.toList != ([] : List UInt8)) = true := bne_iff_ne.mpr c3
   (first | rw [c3b0] | (simp only [i64_w, i32_w]; rw [c3b0]) | skip)
   by_cases c4 : (a0.size : Int) > 16
   ·rw [if_pos c4] at H
    have c4b0 : decide (16 < (a0.size : Int)) = true := decide_eq_true c4
    have c4b1 : decide (16 < a0.size) = true := decide_eq_true (by omega)
    clear c4
    have H' := aM H
    clear H
    go_wp2
    go_meet
    case rel => exact ⟨_, (true), zP, H', ⟨by first | omega | exact Nat.le_refl _⟩, zD⟩
   ·rw [if_neg c4] at H
    have c4b0 : decide (16 < (a0.size : Int)) = false := decide_eq_false c4
    have c4b1 : decide (16 < a0.size) = false := decide_eq_false (by omega)
    clear c4
    by_cases c5 : 0 < (a0.size : Int)
    ·rw [if_pos c5] at H
     have c5b0 : decide (0 < (a0.size : Int)) = true := decide_eq_true c5
     have c5b1 : decide (0 < a0.size) = true := decide_eq_true (by omega)
     clear c5
     obtain ⟨t284, A7, H⟩ := zO H
     have H' := aM H
     clear H
     have p6 : 0 ≤ (0 : Int) := (by omega)
     have q6 : 0 < a0.size := (by have : (0 : Int) < (a0.size : Int) := zoA; omega)
     have hx6 : ∀ h : 0 < a0.size, ((a0[0]'h).toNat : Int) = bt a0 0 := bt_at a0 0
     clear p6
     have qi6 : (0 < (a0.size : Int)) = True := eq_true (zoA)
     replace q6 := eq_true q6
     go_wp2_with (first | (go_at_call 51; (with_reducible refine (dn_small.calls (bt a0 0) t284 _ A7.out).mono ?_); rintro e w' ⟨rfl, ⟨nd, rfl⟩⟩; (try clear A7)))
     go_meet
     case rel => exact ⟨_, (!t284), zP, H', ⟨by first | omega | exact Nat.le_refl _⟩, zD⟩
    ·rw [if_neg c5] at H
     exact absurd H (by simp)
 case rest =>
  clear HC2
  try clear c2
  try clear p2
  try clear c3
  try clear c3b0
  try clear c3b1
  try clear c4
  try clear c4b0
  try clear c4b1
  try clear c5
  try clear c5b0
  try clear c5b1
  try clear p6
  try clear q6
  try clear hx6
  try clear qi6
  try clear p6
  try clear q6
  obtain ⟨kq, x17_1, rfl, HA, HJ1, ⟨mc1, rfl⟩⟩ := hcut
  cases kq with
  | zero => exact absurd HA.out (by simp [dn_Word.j0])
  | succ kj1 =>
   have H := HA.out
   clear HA
   simp only [dn_Word.j0] at H
   by_cases c8 : x17_1 = true
   ·subst c8
    rw [if_pos rfl] at H
    obtain rfl := sI H
    go_wp2
    go_ret
    exact ⟨zP, zD⟩
   ·replace c8 := Bool.eq_false_iff.mpr c8
    subst c8
    rw [if_neg (show ¬ (false = true) by decide)] at H
    have H' := aM H
    clear H
    go_wp2
    go_loopg [3] kj1 (fun kq v3 w' => ∃ (x3_2 : Int), v3 = .int .i64 x3_2 ∧ Aside0 (dn_Word.l0 kq a0 x3_2 = some r) ∧ Aside0 (kq ≤ kj1) ∧ Drawn0 w w')
    case atStart => exact ⟨(1), zP, H', ⟨Nat.le_refl _⟩, zD⟩
    case round =>
     clear H'
     try clear c1
     try clear c2
     try clear p2
     try clear c3
     try clear c3b0
     try clear c3b1
     try clear c4
     try clear c4b0
     try clear c4b1
     try clear c5
     try clear c5b0
     try clear c5b1
     try clear p6
     try clear q6
     try clear hx6
     try clear qi6
     try clear c8
     try clear p2
     try clear p6
     try clear q6
     obtain ⟨x3_2, rfl, HA, HK2, ⟨m2, rfl⟩⟩ := hrel
     cases gk with
     | zero => exact absurd HA.out (by simp [dn_Word.l0])
     | succ k2 =>
      have H := HA.out
      clear HA
      simp only [dn_Word.l0] at H
      by_cases c9 : x3_2 < (a0.size : Int)
      ·rw [if_pos c9] at H
       have c9b0 : decide (x3_2 < (a0.size : Int)) = true := decide_eq_true c9
       clear c9
       by_cases c10 : 0 ≤ x3_2
       ·rw [if_pos c10] at H
        have c10b0 : decide (0 ≤ x3_2) = true := decide_eq_true c10
        clear c10
        obtain ⟨t285, A12, H⟩ := zO H
        by_cases c13 : t285 = true
        ·subst c13
         rw [if_pos rfl] at H
         have H' := aM H
         clear H
         have p11 : 0 ≤ (x3_2 : Int) := zoA
         have q11 : x3_2 < (a0.size : Int) := zoA
         have hx11 := bt_at a0 x3_2
         replace p11 := eq_true p11
         replace q11 := eq_true q11
         go_wp2_with (first | ((with_reducible refine gate_callee (f := 51) rfl ?_); refine goesL_ (some 28) rfl rfl Tryz.func51 zK rfl #[.int .u8 (bt a0 x3_2)] rfl zM ?_; (with_reducible refine (dn_small.calls (bt a0 x3_2) true _ A12.out).mono ?_); rintro e w' ⟨rfl, ⟨nd, rfl⟩⟩; (try clear A12); refine ⟨_, rfl, ?_⟩))
         go_roundg k2
         case measure => have := HJ1.out; have := HK2.out; omega
         case rel => exact ⟨(wrap64 (x3_2 + 1)), zP, H', ⟨by have := HJ1.out; have := HK2.out; omega⟩, zD⟩
        ·replace c13 := Bool.eq_false_iff.mpr c13
         subst c13
         rw [if_neg (show ¬ (false = true) by decide)] at H
         by_cases c14 : (bt a0 x3_2) < 48
         ·rw [if_pos c14] at H
          have c14b0 : decide ((bt a0 x3_2) < 48) = true := decide_eq_true c14
          clear c14
          by_cases c15 : (bt a0 x3_2) = 45
          ·rw [if_pos c15] at H
           have c15b0 : ((bt a0 x3_2) == 45) = true := beq_iff_eq.mpr c15
           have c15b1 : ((bt a0 x3_2) != 45) = false := bne_eq_false_iff_eq.mpr c15
           clear c15
           have H' := aM H
           clear H
           have p11 : 0 ≤ (x3_2 : Int) := zoA
           have q11 : x3_2 < (a0.size : Int) := zoA
           have hx11 := bt_at a0 x3_2
           replace p11 := eq_true p11
           replace q11 := eq_true q11
           go_wp2_with (first | ((with_reducible refine gate_callee (f := 51) rfl ?_); refine goesL_ (some 28) rfl rfl Tryz.func51 zK rfl #[.int .u8 (bt a0 x3_2)] rfl zM ?_; (with_reducible refine (dn_small.calls (bt a0 x3_2) false _ A12.out).mono ?_); rintro e w' ⟨rfl, ⟨nd, rfl⟩⟩; (try clear A12); refine ⟨_, rfl, ?_⟩))
           go_roundg k2
           case measure => have := HJ1.out; have := HK2.out; omega
           case rel => exact ⟨(wrap64 (x3_2 + 1)), zP, H', ⟨by have := HJ1.out; have := HK2.out; omega⟩, zD⟩
          ·rw [if_neg c15] at H
           have c15b0 : ((bt a0 x3_2) == 45) = false := beq_eq_false_iff_ne.mpr c15
           have c15b1 : ((bt a0 x3_2) != 45) = true := bne_iff_ne.mpr c15
           obtain rfl := sI H
           have p11 : 0 ≤ (x3_2 : Int) := zoA
           have q11 : x3_2 < (a0.size : Int) := zoA
           have hx11 := bt_at a0 x3_2
           replace p11 := eq_true p11
           replace q11 := eq_true q11
           go_wp2_with (first | ((with_reducible refine gate_callee (f := 51) rfl ?_); refine goesL_ (some 28) rfl rfl Tryz.func51 zK rfl #[.int .u8 (bt a0 x3_2)] rfl zM ?_; (with_reducible refine (dn_small.calls (bt a0 x3_2) false _ A12.out).mono ?_); rintro e w' ⟨rfl, ⟨nd, rfl⟩⟩; (try clear A12); refine ⟨_, rfl, ?_⟩))
           go_ret
           exact ⟨zP, zD⟩
         ·rw [if_neg c14] at H
          have c14b0 : decide ((bt a0 x3_2) < 48) = false := decide_eq_false c14
          clear c14
          by_cases c16 : (bt a0 x3_2) > 57
          ·rw [if_pos c16] at H
           have c16b0 : decide (57 < (bt a0 x3_2)) = true := decide_eq_true c16
           clear c16
           by_cases c17 : (bt a0 x3_2) = 45
           ·rw [if_pos c17] at H
            have c17b0 : ((bt a0 x3_2) == 45) = true := beq_iff_eq.mpr c17
            have c17b1 : ((bt a0 x3_2) != 45) = false := bne_eq_false_iff_eq.mpr c17
            clear c17
            have H' := aM H
            clear H
            have p11 : 0 ≤ (x3_2 : Int) := zoA
            have q11 : x3_2 < (a0.size : Int) := zoA
            have hx11 := bt_at a0 x3_2
            replace p11 := eq_true p11
            replace q11 := eq_true q11
            go_wp2_with (first | ((with_reducible refine gate_callee (f := 51) rfl ?_); refine goesL_ (some 28) rfl rfl Tryz.func51 zK rfl #[.int .u8 (bt a0 x3_2)] rfl zM ?_; (with_reducible refine (dn_small.calls (bt a0 x3_2) false _ A12.out).mono ?_); rintro e w' ⟨rfl, ⟨nd, rfl⟩⟩; (try clear A12); refine ⟨_, rfl, ?_⟩))
            go_roundg k2
            case measure => have := HJ1.out; have := HK2.out; omega
            case rel => exact ⟨(wrap64 (x3_2 + 1)), zP, H', ⟨by have := HJ1.out; have := HK2.out; omega⟩, zD⟩
           ·rw [if_neg c17] at H
            have c17b0 : ((bt a0 x3_2) == 45) = false := beq_eq_false_iff_ne.mpr c17
            have c17b1 : ((bt a0 x3_2) != 45) = true := bne_iff_ne.mpr c17
            obtain rfl := sI H
            have p11 : 0 ≤ (x3_2 : Int) := zoA
            have q11 : x3_2 < (a0.size : Int) := zoA
            have hx11 := bt_at a0 x3_2
            replace p11 := eq_true p11
            replace q11 := eq_true q11
            go_wp2_with (first | ((with_reducible refine gate_callee (f := 51) rfl ?_); refine goesL_ (some 28) rfl rfl Tryz.func51 zK rfl #[.int .u8 (bt a0 x3_2)] rfl zM ?_; (with_reducible refine (dn_small.calls (bt a0 x3_2) false _ A12.out).mono ?_); rintro e w' ⟨rfl, ⟨nd, rfl⟩⟩; (try clear A12); refine ⟨_, rfl, ?_⟩))
            go_ret
            exact ⟨zP, zD⟩
          ·rw [if_neg c16] at H
           have c16b0 : decide (57 < (bt a0 x3_2)) = false := decide_eq_false c16
           clear c16
           have H' := aM H
           clear H
           have p11 : 0 ≤ (x3_2 : Int) := zoA
           have q11 : x3_2 < (a0.size : Int) := zoA
           have hx11 := bt_at a0 x3_2
           replace p11 := eq_true p11
           replace q11 := eq_true q11
           go_wp2_with (first | ((with_reducible refine gate_callee (f := 51) rfl ?_); refine goesL_ (some 28) rfl rfl Tryz.func51 zK rfl #[.int .u8 (bt a0 x3_2)] rfl zM ?_; (with_reducible refine (dn_small.calls (bt a0 x3_2) false _ A12.out).mono ?_); rintro e w' ⟨rfl, ⟨nd, rfl⟩⟩; (try clear A12); refine ⟨_, rfl, ?_⟩))
           go_roundg k2
           case measure => have := HJ1.out; have := HK2.out; omega
           case rel => exact ⟨(wrap64 (x3_2 + 1)), zP, H', ⟨by have := HJ1.out; have := HK2.out; omega⟩, zD⟩
       ·rw [if_neg c10] at H
        exact absurd H (by simp)
      ·rw [if_neg c9] at H
       have c9b0 : decide (x3_2 < (a0.size : Int)) = false := decide_eq_false c9
       clear c9
       obtain rfl := sI H
       go_wp2
       go_ret
       exact ⟨zP, zD⟩

/-! ### dn_Parse: function 27, by hand (dn.Parse.tpl) -/
def dn_Parse.f (a0 : ByteArray) : Option (List (List (S76)) × Int) := if a0.size > 3000 then some ([], 3) else if a0.size = 0 then some ([], 0) else if Lib.indexByte a0.data.toList 61 < 0 then some ([], 220) else none
theorem zsize (s : ByteArray) : s.toList.length = s.size := by
  rw [ByteArray.toList_eq]
  rfl
set_option maxHeartbeats 8000000 in
set_option maxRecDepth 100000 in
theorem dn_name (a0 : ByteArray) (g : Nat) (t : TypeId) (w : World) (hg : w.heap[g]? = some (.cells #[.string a0, .int .i64 0] t (0, 0))) (hi : Lib.indexByte a0.data.toList 61 < 0) :
    Calls Tryz.prog 48 #[.pointer (some ⟨g, 0, none⟩)] w fun e w' => e = .returned (.tuple #[.string ⟨#[]⟩, .bool false]) ∧ Below w.heap.size w w' := by
  have j0 : w.cell? ⟨g, 0, none⟩ = some (.string a0) := blk_cell hg 0
  have j1 : w.cell? ⟨g, 1, none⟩ = some (.int .i64 0) := blk_cell hg 1
  have HX := Aside0.mk (fun (w' : World) => Any.strings_IndexByte Tryz.lays137 a0 61 w')
  clear hg
  generalize hz : Lib.indexByte a0.data.toList 61 = z at hi
  have HZ := Aside0.mk hz
  have d1 : decide (z < 0) = true := decide_eq_true hi
  clear hz
  go_enter Tryz.func48, Tryz.ntmps48
  go_wp2
  refine start_ (n := 11) (S := fun w' => w'.cell? ⟨g, 0, none⟩ = some (.string a0) ∧ w'.cell? ⟨g, 1, none⟩ = some (.int .i64 0)) (ds := [9]) #[false, false, false, false, false, false, false, false, false, false, false] (by kernel_rfl) rfl rfl (by exact ⟨j0, j1⟩) (fun hHeld => ?_)
  have HB1 := Aside0.mk (below_drew1 (Below.refl w.heap.size w))
  generalize w.drew = w1 at HB1 hHeld ⊢
  refine pure_ (i := 0) (N := some 8) (v := ?_) (a' := ?_) #[true, false, false, false, false, false, false, false, false, false, false] rfl rfl (by kernel_rfl) (fun _ _ _ h => h) (Or.inl ⟨by rfl, ?_⟩) ?_ ?_
  rotate_left
  · intro w'
    go_simp
    with_reducible rfl
  rotate_left
  · simp only [Act.put, List.setIfInBounds_toArray, List.set_cons_zero, List.set_cons_succ, i64_w, i32_w]
    rfl
  refine pure_ (i := 1) (N := some 9) (v := ?_) (a' := ?_) #[true, true, false, false, false, false, false, false, false, false, false] rfl rfl (by kernel_rfl) (fun _ _ _ h => h) (Or.inl ⟨by rfl, ?_⟩) ?_ ?_
  rotate_left
  · intro w'
    go_simp
    with_reducible rfl
  rotate_left
  · simp only [Act.put, List.setIfInBounds_toArray, List.set_cons_zero, List.set_cons_succ, i64_w, i32_w]
    rfl
  refine pure_ (i := 2) (N := some 10) (v := ?_) (a' := ?_) #[true, true, true, false, false, false, false, false, false, false, false] rfl rfl (by kernel_rfl) (fun _ _ _ h => h) (Or.inl ⟨by rfl, ?_⟩) ?_ ?_
  rotate_left
  · intro w'
    go_simp
    with_reducible rfl
  rotate_left
  · simp only [Act.put, List.setIfInBounds_toArray, List.set_cons_zero, List.set_cons_succ, i64_w, i32_w]
    rfl
  refine take_ (i := 3) (N := some 11) (v := .string a0) (a' := ?_) #[true, true, true, true, false, false, false, false, false, false, false] rfl rfl (by kernel_rfl) (fun _ _ _ h => h) (Or.inl ⟨by rfl, ?_⟩) hHeld ?_ ?_
  · rintro w' ⟨s1, s2⟩
    go_simp
    try (with_reducible rfl)
  rotate_left
  · simp only [Act.put, List.setIfInBounds_toArray, List.set_cons_zero, List.set_cons_succ, i64_w, i32_w]
    rfl
  refine pure_ (i := 4) (N := some 12) (v := ?_) (a' := ?_) #[true, true, true, true, true, false, false, false, false, false, false] rfl rfl (by kernel_rfl) (fun _ _ _ h => h) (Or.inl ⟨by rfl, ?_⟩) ?_ ?_
  rotate_left
  · intro w'
    go_simp
    with_reducible rfl
  rotate_left
  · simp only [Act.put, List.setIfInBounds_toArray, List.set_cons_zero, List.set_cons_succ, i64_w, i32_w]
    rfl
  refine pure_ (i := 5) (N := some 13) (v := ?_) (a' := ?_) #[true, true, true, true, true, true, false, false, false, false, false] rfl rfl (by kernel_rfl) (fun _ _ _ h => h) (Or.inl ⟨by rfl, ?_⟩) ?_ ?_
  rotate_left
  · intro w'
    go_simp
    with_reducible rfl
  rotate_left
  · simp only [Act.put, List.setIfInBounds_toArray, List.set_cons_zero, List.set_cons_succ, i64_w, i32_w]
    rfl
  refine pure_ (i := 6) (N := some 14) (v := ?_) (a' := ?_) #[true, true, true, true, true, true, true, false, false, false, false] rfl rfl (by kernel_rfl) (fun _ _ _ h => h) (Or.inl ⟨by rfl, ?_⟩) ?_ ?_
  rotate_left
  · intro w'
    go_simp
    with_reducible rfl
  rotate_left
  · simp only [Act.put, List.setIfInBounds_toArray, List.set_cons_zero, List.set_cons_succ, i64_w, i32_w]
    rfl
  refine take_ (i := 7) (N := some 15) (v := .int .i64 0) (a' := ?_) #[true, true, true, true, true, true, true, true, false, false, false] rfl rfl (by kernel_rfl) (fun _ _ _ h => h) (Or.inl ⟨by rfl, ?_⟩) hHeld ?_ ?_
  · rintro w' ⟨s1, s2⟩
    go_simp
    try (with_reducible rfl)
  rotate_left
  · simp only [Act.put, List.setIfInBounds_toArray, List.set_cons_zero, List.set_cons_succ, i64_w, i32_w]
    rfl
  refine pure_ (i := 8) (N := some 16) (v := ?_) (a' := ?_) #[true, true, true, true, true, true, true, true, true, false, false] rfl rfl (by kernel_rfl) (fun _ _ _ h => h) (Or.inl ⟨by rfl, ?_⟩) ?_ ?_
  rotate_left
  · intro w'
    go_simp
    with_reducible rfl
  rotate_left
  · simp only [Act.put, List.setIfInBounds_toArray, List.set_cons_zero, List.set_cons_succ, i64_w, i32_w]
    rfl
  refine last_ (i := 9) (N := some 17) #[true, true, true, true, true, true, true, true, true, true, false] rfl rfl (by kernel_rfl) (by decide) (fun K hK => ?_)
  refine call_ (N := some 17) 91 #[.string a0, .int .u8 61] (by rfl) rfl ?hrun ?hcall
  case hrun => go_simp; done
  refine (HX.out _).mono ?_
  rintro e w3 ⟨rfl, rfl⟩
  refine ⟨_, rfl, hK.out _ _ ?_⟩
  clear hK K
  refine norm_ (by simp only [Act.put, List.setIfInBounds_toArray, List.set_cons_zero, List.set_cons_succ]; rfl) ?_
  refine pure_ (i := 10) (N := some 4) (v := ?_) (a' := ?_) #[true, true, true, true, true, true, true, true, true, true, true] rfl rfl (by kernel_rfl) (fun _ _ _ h => h) (Or.inl ⟨by rfl, ?_⟩) ?_ ?_
  rotate_left
  · intro w'
    go_simp
    with_reducible rfl
  rotate_left
  · simp only [Act.put, List.setIfInBounds_toArray, List.set_cons_zero, List.set_cons_succ, i64_w, i32_w]
    rfl
  refine done_ (by kernel_rfl) ?_
  have e61 : (Int.toNat 61).toUInt8 = 61 := rfl
  rw [e61, HZ.out]
  go_wp2
  go_ret2
  exact ⟨by first | rfl | (simp; done) | (simp [*]; done), HB1.out⟩
set_option maxHeartbeats 8000000 in
set_option maxRecDepth 100000 in
theorem dn_Parse.calls (a0 : ByteArray) (r1 : List (List (S76))) (r2 : Int) (w : World) (h : dn_Parse.f a0 = some (r1, r2)) :
    Calls Tryz.prog 27 #[.string a0] w fun e w' => ∃ v0_ : Value, e = .returned (.tuple #[v0_, .int .i64 r2]) ∧ Kd.S (Kd.slice 76 k76) 74 w' w.heap.size (fun _ => True) v0_ r1 ∧ Below w.heap.size w w' := by
  unfold dn_Parse.f at h
  by_cases c1 : a0.size > 3000
  · rw [if_pos c1] at h
    simp only [Option.some.injEq, Prod.mk.injEq] at h
    obtain ⟨rfl, rfl⟩ := h
    have b1 : decide (3000 < a0.size) = true := decide_eq_true c1
    have b2 : decide ((3000 : Int) < (a0.size : Int)) = true := decide_eq_true (by omega)
    clear c1
    go_enter Tryz.func27, Tryz.ntmps27
    go_wp2
    (repeat (go_step3; try (go_wp2)))
    (try rw [Exit.noGoto_ret])
    go_ret2
    exact ⟨_, rfl, Kd.S_nil _ _ _ _ _, by repeat (first | exact Below.refl _ _ | apply bN | apply bD)⟩
  · rw [if_neg c1] at h
    have b1 : decide (3000 < a0.size) = false := decide_eq_false c1
    have b2 : decide ((3000 : Int) < (a0.size : Int)) = false := decide_eq_false (by omega)
    by_cases c2 : a0.size = 0
    · rw [if_pos c2] at h
      simp only [Option.some.injEq, Prod.mk.injEq] at h
      obtain ⟨rfl, rfl⟩ := h
      have e0 : a0 = ⟨#[]⟩ := by
        apply ByteArray.ext
        exact Array.eq_empty_of_size_eq_zero c2
      subst e0
      clear c1 c2
      go_enter Tryz.func27, Tryz.ntmps27
      go_wp2
      (repeat (go_step3; try (go_wp2)))
      (try rw [Exit.noGoto_ret])
      go_ret2
      exact ⟨_, rfl, Kd.S_nil _ _ _ _ _, by repeat (first | exact Below.refl _ _ | apply bN | apply bD)⟩
    · rw [if_neg c2] at h
      by_cases c3 : Lib.indexByte a0.data.toList 61 < 0
      · rw [if_pos c3] at h
        simp only [Option.some.injEq, Prod.mk.injEq] at h
        obtain ⟨rfl, rfl⟩ := h
        have hne : a0.toList ≠ [] := fun e => c2 (by
          have := (zsize a0).symm.trans (congrArg List.length e)
          exact this)
        have d1 : (a0.toList == ([] : List UInt8)) = false := beq_eq_false_iff_ne.mpr hne
        have d2 : a0.toList.isEmpty = false := by simpa using hne
        have HI := Aside0.mk c3
        clear c1 c2 c3 hne
        go_enter Tryz.func27, Tryz.ntmps27
        go_wp2_with (first | ((with_reducible refine gate_dst (N := 20) rfl ?_); refine box_event ?hg (N := 20) ?hd (cs := #[.string a0, .int .i64 0]) (t := 91) ?hr ?_; (case hd => rfl); (case hg => rfl); (case hr => first | (go_simp; done) | (go_simp; rfl)); intro g hg w1 hbox hb; have HB1 := Aside0.mk hb; have K1 := Aside0.mk hbox; clear hb hbox hg))
        (repeat (go_step3; try (go_wp2_with (first | ((with_reducible refine gate_dst (N := 20) rfl ?_); refine box_event ?hg (N := 20) ?hd (cs := #[.string a0, .int .i64 0]) (t := 91) ?hr ?_; (case hd => rfl); (case hg => rfl); (case hr => first | (go_simp; done) | (go_simp; rfl)); intro g hg w1 hbox hb; have HB1 := Aside0.mk hb; have K1 := Aside0.mk hbox; clear hb hbox hg)))))
        have HNm := Aside0.mk (fun (w' : World) (hb : Below w1.heap.size w1 w') => dn_name a0 g 91 w' ((hb.block g (blk_lt K1.out)).trans K1.out) HI.out)
        go_loopg [] 1 (fun kq w' => kq = 1 ∧ Aside0 (Below w1.heap.size w1 w') ∧ Aside0 (Below w.heap.size w w'))
        case atStart => exact ⟨rfl, ⟨by repeat (first | exact Below.refl _ _ | apply bA | apply bN | apply bD)⟩, ⟨by repeat (first | exact HB1.out | apply bA | apply bN | apply bD)⟩⟩
        case round =>
          obtain ⟨_, HA, HB⟩ := hrel
          go_wp2_with (go_at_call 48; (with_reducible refine (HNm.out _ HA.out).mono ?_); rintro e w5 ⟨rfl, hb⟩; have HB5 := Aside0.mk (below_step HB.out hb); clear hb)
          (repeat (go_step3; try (go_wp2_with (go_at_call 48; (with_reducible refine (HNm.out _ HA.out).mono ?_); rintro e w5 ⟨rfl, hb⟩; have HB5 := Aside0.mk (below_step HB.out hb); clear hb))))
          (try rw [Exit.noGoto_ret])
          go_ret2
          exact ⟨_, rfl, Kd.S_nil _ _ _ _ _, by repeat (first | exact HB5.out | apply bN | apply bD)⟩
      · rw [if_neg c3] at h
        cases h

end Go.Proofs.YtdgnekknmpfepaaGreatDoor.P
