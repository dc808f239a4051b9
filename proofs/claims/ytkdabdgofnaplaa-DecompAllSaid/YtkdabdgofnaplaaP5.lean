-- Printed by wip/mk.py (this session's driver over the kit's print) and from wip/manual.
import Derived.Test.YtkdabdgofnaplaaP0
import Derived.Test.YtkdabdgofnaplaaP4
namespace Go.Proofs.Ytkdabdgofnaplaa.P
open Go.RowKit Go.Proofs.YtkdabdgofnaplaaW.PrintWords Go.Proofs.YtkdabdgofnaplaaW.PrintLast Go.Proofs.YtkdabdgofnaplaaW.PrintMore
attribute [local go_sem] max2_int min2_int max_two min_two max_three min_three max_four min_four   -- for this text's walks alone
set_option linter.unusedVariables false
set_option linter.unusedSimpArgs false

/-! ### toponymref05_few: function 29 -/
def toponymref05_few.f (a0 : Int) : Option (List Int) := if a0 = 168 then (some (([32, 776] : List Int))) else (if a0 = 170 then (some (([97] : List Int))) else (if a0 = 175 then (some (([32, 772] : List Int))) else (if a0 = 178 then (some (([50] : List Int))) else (if a0 = 179 then (some (([51] : List Int))) else (if a0 = 180 then (some (([32, 769] : List Int))) else (if a0 = 181 then (some (([956] : List Int))) else (if a0 = 184 then (some (([32, 807] : List Int))) else (if a0 = 185 then (some (([49] : List Int))) else (if a0 = 186 then (some (([111] : List Int))) else (if a0 = 188 then (some (([49, 8260, 52] : List Int))) else (if a0 = 189 then (some (([49, 8260, 50] : List Int))) else (if a0 = 190 then (some (([51, 8260, 52] : List Int))) else (if a0 = 306 then (some (([73, 74] : List Int))) else (if a0 = 307 then (some (([105, 106] : List Int))) else (if a0 = 319 then (some (([76, 183] : List Int))) else (if a0 = 320 then (some (([108, 183] : List Int))) else (if a0 = 329 then (some (([700, 110] : List Int))) else (if a0 = 383 then (some (([115] : List Int))) else ((toponymref05_ligature.f a0).bind fun t298 => (some t298))))))))))))))))))))
set_option maxHeartbeats 8000000 in
set_option maxRecDepth 100000 in
theorem toponymref05_few.calls (a0 : Int) (r : List Int) (w : World) (h : toponymref05_few.f a0 = some r) :
    Calls Try.prog 29 #[.int .i64 a0] w fun e w' => ∃ v0_ : Value, e = .returned (v0_) ∧ Kd.R (Kd.int .i32) 21 w' w.heap.size (fun _ => True) v0_ r ∧ Below w.heap.size w w' := by
  have HB := Aside0.mk (Below.refl w.heap.size w)
  have H : (if a0 = 168 then (some (([32, 776] : List Int))) else (if a0 = 170 then (some (([97] : List Int))) else (if a0 = 175 then (some (([32, 772] : List Int))) else (if a0 = 178 then (some (([50] : List Int))) else (if a0 = 179 then (some (([51] : List Int))) else (if a0 = 180 then (some (([32, 769] : List Int))) else (if a0 = 181 then (some (([956] : List Int))) else (if a0 = 184 then (some (([32, 807] : List Int))) else (if a0 = 185 then (some (([49] : List Int))) else (if a0 = 186 then (some (([111] : List Int))) else (if a0 = 188 then (some (([49, 8260, 52] : List Int))) else (if a0 = 189 then (some (([49, 8260, 50] : List Int))) else (if a0 = 190 then (some (([51, 8260, 52] : List Int))) else (if a0 = 306 then (some (([73, 74] : List Int))) else (if a0 = 307 then (some (([105, 106] : List Int))) else (if a0 = 319 then (some (([76, 183] : List Int))) else (if a0 = 320 then (some (([108, 183] : List Int))) else (if a0 = 329 then (some (([700, 110] : List Int))) else (if a0 = 383 then (some (([115] : List Int))) else ((toponymref05_ligature.f a0).bind fun t298 => (some t298))))))))))))))))))))) = some r := h
  clear h
  by_cases c2 : a0 = 168
  · rw [if_pos c2] at H
    have c2b0 : (a0 == 168) = true := beq_iff_eq.mpr c2
    have c2b1 : (a0 != 168) = false := bne_eq_false_iff_eq.mpr c2
    clear c2
    obtain ⟨y241, hy241⟩ : ∃ y_ : List Int, y_ = (([32, 776] : List Int)) := ⟨_, rfl⟩
    replace H : (some y241) = some r := by first | (rw [hy241]; with_reducible exact H) | (have H2_ := (Option.bind_some _ _).symm.trans H; rw [hy241]; with_reducible exact H2_) | (have H2_ := (Option.bind_some _ _).symm.trans H; with_reducible exact H2_) | with_reducible exact H | (rw [hy241]; exact H) | exact H
    have Ny241 := Aside0.mk hy241
    clear hy241
    obtain rfl := Option.some.inj H
    go_enter Try.func29, Try.ntmps29
    go_wp2_with (first | ((with_reducible refine gate_dst (N := 6) rfl ?_); refine Kd.R_lit (Kd.int .i32) _ 21 ?hg (N := 6) ?hd (xs := ([32, 776] : List Int)) (inner := [.int .i32 32, .int .i32 776]) (ok := fun _ => True) (okp := fun _ => True) ?hr ?hp (fun _ hk => hk) trivial (Below.refl _ _) (Nat.le_refl _) (by simp) ?_; (case hd => rfl); (case hg => rfl); (case hr => first | (go_simp; done) | (go_simp; rfl)); (case hp => exact (Reps.one (show Kd.M (Kd.int .i32) _ _ _ 32 [.int .i32 32] from rfl) (Reps.one (show Kd.M (Kd.int .i32) _ _ _ 776 [.int .i32 776] from rfl) (Reps.none _ _)))); intro v242 w3 ho4 hb hg_ hnew_; clear hg_ hnew_; (first | rw [← Ny241.out] at ho4 | (simp only [Int.reduceToNat] at ho4; rw [← Ny241.out] at ho4)); have n0_ := Aside0.mk (Kd.R_lower ho4 (below_size (by repeat (first | (with_reducible first | exact HB.out | apply below_alloc | apply pw_below_drewN | apply below_drew1) | exact HB.out)))); have n1_ := Aside0.mk (below_step (by repeat (first | (with_reducible first | exact HB.out | apply below_alloc | apply pw_below_drewN | apply below_drew1) | exact HB.out)) hb); clear HB; have HO243 := n0_; have HB := n1_; clear n0_ n1_; clear hb ho4))
    go_ret
    exact ⟨_, by first | rfl | (simp [errW_none, errW_some] <;> rfl) | (simp [*, errW_none, errW_some] <;> rfl), by (with_reducible repeat (first | apply Kd.R_alloc | apply Kd.R_drewN | apply Kd.R_drew)); exact HO243.out, by repeat (first | (with_reducible first | exact HB.out | apply below_alloc | apply pw_below_drewN | apply below_drew1) | exact HB.out)⟩
  · rw [if_neg c2] at H
    have c2b0 : (a0 == 168) = false := beq_eq_false_iff_ne.mpr c2
    have c2b1 : (a0 != 168) = true := bne_iff_ne.mpr c2
    by_cases c5 : a0 = 170
    · rw [if_pos c5] at H
      have c5b0 : (a0 == 170) = true := beq_iff_eq.mpr c5
      have c5b1 : (a0 != 170) = false := bne_eq_false_iff_eq.mpr c5
      clear c5
      obtain ⟨y244, hy244⟩ : ∃ y_ : List Int, y_ = (([97] : List Int)) := ⟨_, rfl⟩
      replace H : (some y244) = some r := by first | (rw [hy244]; with_reducible exact H) | (have H2_ := (Option.bind_some _ _).symm.trans H; rw [hy244]; with_reducible exact H2_) | (have H2_ := (Option.bind_some _ _).symm.trans H; with_reducible exact H2_) | with_reducible exact H | (rw [hy244]; exact H) | exact H
      have Ny244 := Aside0.mk hy244
      clear hy244
      obtain rfl := Option.some.inj H
      go_enter Try.func29, Try.ntmps29
      go_wp2_with (first | ((with_reducible refine gate_dst (N := 9) rfl ?_); refine Kd.R_lit (Kd.int .i32) _ 21 ?hg (N := 9) ?hd (xs := ([97] : List Int)) (inner := [.int .i32 97]) (ok := fun _ => True) (okp := fun _ => True) ?hr ?hp (fun _ hk => hk) trivial (Below.refl _ _) (Nat.le_refl _) (by simp) ?_; (case hd => rfl); (case hg => rfl); (case hr => first | (go_simp; done) | (go_simp; rfl)); (case hp => exact (Reps.one (show Kd.M (Kd.int .i32) _ _ _ 97 [.int .i32 97] from rfl) (Reps.none _ _))); intro v245 w6 ho7 hb hg_ hnew_; clear hg_ hnew_; (first | rw [← Ny244.out] at ho7 | (simp only [Int.reduceToNat] at ho7; rw [← Ny244.out] at ho7)); have n0_ := Aside0.mk (Kd.R_lower ho7 (below_size (by repeat (first | (with_reducible first | exact HB.out | apply below_alloc | apply pw_below_drewN | apply below_drew1) | exact HB.out)))); have n1_ := Aside0.mk (below_step (by repeat (first | (with_reducible first | exact HB.out | apply below_alloc | apply pw_below_drewN | apply below_drew1) | exact HB.out)) hb); clear HB; have HO246 := n0_; have HB := n1_; clear n0_ n1_; clear hb ho7))
      go_ret
      exact ⟨_, by first | rfl | (simp [errW_none, errW_some] <;> rfl) | (simp [*, errW_none, errW_some] <;> rfl), by (with_reducible repeat (first | apply Kd.R_alloc | apply Kd.R_drewN | apply Kd.R_drew)); exact HO246.out, by repeat (first | (with_reducible first | exact HB.out | apply below_alloc | apply pw_below_drewN | apply below_drew1) | exact HB.out)⟩
    · rw [if_neg c5] at H
      have c5b0 : (a0 == 170) = false := beq_eq_false_iff_ne.mpr c5
      have c5b1 : (a0 != 170) = true := bne_iff_ne.mpr c5
      by_cases c8 : a0 = 175
      · rw [if_pos c8] at H
        have c8b0 : (a0 == 175) = true := beq_iff_eq.mpr c8
        have c8b1 : (a0 != 175) = false := bne_eq_false_iff_eq.mpr c8
        clear c8
        obtain ⟨y247, hy247⟩ : ∃ y_ : List Int, y_ = (([32, 772] : List Int)) := ⟨_, rfl⟩
        replace H : (some y247) = some r := by first | (rw [hy247]; with_reducible exact H) | (have H2_ := (Option.bind_some _ _).symm.trans H; rw [hy247]; with_reducible exact H2_) | (have H2_ := (Option.bind_some _ _).symm.trans H; with_reducible exact H2_) | with_reducible exact H | (rw [hy247]; exact H) | exact H
        have Ny247 := Aside0.mk hy247
        clear hy247
        obtain rfl := Option.some.inj H
        go_enter Try.func29, Try.ntmps29
        go_wp2_with (first | ((with_reducible refine gate_dst (N := 12) rfl ?_); refine Kd.R_lit (Kd.int .i32) _ 21 ?hg (N := 12) ?hd (xs := ([32, 772] : List Int)) (inner := [.int .i32 32, .int .i32 772]) (ok := fun _ => True) (okp := fun _ => True) ?hr ?hp (fun _ hk => hk) trivial (Below.refl _ _) (Nat.le_refl _) (by simp) ?_; (case hd => rfl); (case hg => rfl); (case hr => first | (go_simp; done) | (go_simp; rfl)); (case hp => exact (Reps.one (show Kd.M (Kd.int .i32) _ _ _ 32 [.int .i32 32] from rfl) (Reps.one (show Kd.M (Kd.int .i32) _ _ _ 772 [.int .i32 772] from rfl) (Reps.none _ _)))); intro v248 w9 ho10 hb hg_ hnew_; clear hg_ hnew_; (first | rw [← Ny247.out] at ho10 | (simp only [Int.reduceToNat] at ho10; rw [← Ny247.out] at ho10)); have n0_ := Aside0.mk (Kd.R_lower ho10 (below_size (by repeat (first | (with_reducible first | exact HB.out | apply below_alloc | apply pw_below_drewN | apply below_drew1) | exact HB.out)))); have n1_ := Aside0.mk (below_step (by repeat (first | (with_reducible first | exact HB.out | apply below_alloc | apply pw_below_drewN | apply below_drew1) | exact HB.out)) hb); clear HB; have HO249 := n0_; have HB := n1_; clear n0_ n1_; clear hb ho10))
        go_ret
        exact ⟨_, by first | rfl | (simp [errW_none, errW_some] <;> rfl) | (simp [*, errW_none, errW_some] <;> rfl), by (with_reducible repeat (first | apply Kd.R_alloc | apply Kd.R_drewN | apply Kd.R_drew)); exact HO249.out, by repeat (first | (with_reducible first | exact HB.out | apply below_alloc | apply pw_below_drewN | apply below_drew1) | exact HB.out)⟩
      · rw [if_neg c8] at H
        have c8b0 : (a0 == 175) = false := beq_eq_false_iff_ne.mpr c8
        have c8b1 : (a0 != 175) = true := bne_iff_ne.mpr c8
        by_cases c11 : a0 = 178
        · rw [if_pos c11] at H
          have c11b0 : (a0 == 178) = true := beq_iff_eq.mpr c11
          have c11b1 : (a0 != 178) = false := bne_eq_false_iff_eq.mpr c11
          clear c11
          obtain ⟨y250, hy250⟩ : ∃ y_ : List Int, y_ = (([50] : List Int)) := ⟨_, rfl⟩
          replace H : (some y250) = some r := by first | (rw [hy250]; with_reducible exact H) | (have H2_ := (Option.bind_some _ _).symm.trans H; rw [hy250]; with_reducible exact H2_) | (have H2_ := (Option.bind_some _ _).symm.trans H; with_reducible exact H2_) | with_reducible exact H | (rw [hy250]; exact H) | exact H
          have Ny250 := Aside0.mk hy250
          clear hy250
          obtain rfl := Option.some.inj H
          go_enter Try.func29, Try.ntmps29
          go_wp2_with (first | ((with_reducible refine gate_dst (N := 15) rfl ?_); refine Kd.R_lit (Kd.int .i32) _ 21 ?hg (N := 15) ?hd (xs := ([50] : List Int)) (inner := [.int .i32 50]) (ok := fun _ => True) (okp := fun _ => True) ?hr ?hp (fun _ hk => hk) trivial (Below.refl _ _) (Nat.le_refl _) (by simp) ?_; (case hd => rfl); (case hg => rfl); (case hr => first | (go_simp; done) | (go_simp; rfl)); (case hp => exact (Reps.one (show Kd.M (Kd.int .i32) _ _ _ 50 [.int .i32 50] from rfl) (Reps.none _ _))); intro v251 w12 ho13 hb hg_ hnew_; clear hg_ hnew_; (first | rw [← Ny250.out] at ho13 | (simp only [Int.reduceToNat] at ho13; rw [← Ny250.out] at ho13)); have n0_ := Aside0.mk (Kd.R_lower ho13 (below_size (by repeat (first | (with_reducible first | exact HB.out | apply below_alloc | apply pw_below_drewN | apply below_drew1) | exact HB.out)))); have n1_ := Aside0.mk (below_step (by repeat (first | (with_reducible first | exact HB.out | apply below_alloc | apply pw_below_drewN | apply below_drew1) | exact HB.out)) hb); clear HB; have HO252 := n0_; have HB := n1_; clear n0_ n1_; clear hb ho13))
          go_ret
          exact ⟨_, by first | rfl | (simp [errW_none, errW_some] <;> rfl) | (simp [*, errW_none, errW_some] <;> rfl), by (with_reducible repeat (first | apply Kd.R_alloc | apply Kd.R_drewN | apply Kd.R_drew)); exact HO252.out, by repeat (first | (with_reducible first | exact HB.out | apply below_alloc | apply pw_below_drewN | apply below_drew1) | exact HB.out)⟩
        · rw [if_neg c11] at H
          have c11b0 : (a0 == 178) = false := beq_eq_false_iff_ne.mpr c11
          have c11b1 : (a0 != 178) = true := bne_iff_ne.mpr c11
          by_cases c14 : a0 = 179
          · rw [if_pos c14] at H
            have c14b0 : (a0 == 179) = true := beq_iff_eq.mpr c14
            have c14b1 : (a0 != 179) = false := bne_eq_false_iff_eq.mpr c14
            clear c14
            obtain ⟨y253, hy253⟩ : ∃ y_ : List Int, y_ = (([51] : List Int)) := ⟨_, rfl⟩
            replace H : (some y253) = some r := by first | (rw [hy253]; with_reducible exact H) | (have H2_ := (Option.bind_some _ _).symm.trans H; rw [hy253]; with_reducible exact H2_) | (have H2_ := (Option.bind_some _ _).symm.trans H; with_reducible exact H2_) | with_reducible exact H | (rw [hy253]; exact H) | exact H
            have Ny253 := Aside0.mk hy253
            clear hy253
            obtain rfl := Option.some.inj H
            go_enter Try.func29, Try.ntmps29
            go_wp2_with (first | ((with_reducible refine gate_dst (N := 18) rfl ?_); refine Kd.R_lit (Kd.int .i32) _ 21 ?hg (N := 18) ?hd (xs := ([51] : List Int)) (inner := [.int .i32 51]) (ok := fun _ => True) (okp := fun _ => True) ?hr ?hp (fun _ hk => hk) trivial (Below.refl _ _) (Nat.le_refl _) (by simp) ?_; (case hd => rfl); (case hg => rfl); (case hr => first | (go_simp; done) | (go_simp; rfl)); (case hp => exact (Reps.one (show Kd.M (Kd.int .i32) _ _ _ 51 [.int .i32 51] from rfl) (Reps.none _ _))); intro v254 w15 ho16 hb hg_ hnew_; clear hg_ hnew_; (first | rw [← Ny253.out] at ho16 | (simp only [Int.reduceToNat] at ho16; rw [← Ny253.out] at ho16)); have n0_ := Aside0.mk (Kd.R_lower ho16 (below_size (by repeat (first | (with_reducible first | exact HB.out | apply below_alloc | apply pw_below_drewN | apply below_drew1) | exact HB.out)))); have n1_ := Aside0.mk (below_step (by repeat (first | (with_reducible first | exact HB.out | apply below_alloc | apply pw_below_drewN | apply below_drew1) | exact HB.out)) hb); clear HB; have HO255 := n0_; have HB := n1_; clear n0_ n1_; clear hb ho16))
            go_ret
            exact ⟨_, by first | rfl | (simp [errW_none, errW_some] <;> rfl) | (simp [*, errW_none, errW_some] <;> rfl), by (with_reducible repeat (first | apply Kd.R_alloc | apply Kd.R_drewN | apply Kd.R_drew)); exact HO255.out, by repeat (first | (with_reducible first | exact HB.out | apply below_alloc | apply pw_below_drewN | apply below_drew1) | exact HB.out)⟩
          · rw [if_neg c14] at H
            have c14b0 : (a0 == 179) = false := beq_eq_false_iff_ne.mpr c14
            have c14b1 : (a0 != 179) = true := bne_iff_ne.mpr c14
            by_cases c17 : a0 = 180
            · rw [if_pos c17] at H
              have c17b0 : (a0 == 180) = true := beq_iff_eq.mpr c17
              have c17b1 : (a0 != 180) = false := bne_eq_false_iff_eq.mpr c17
              clear c17
              obtain ⟨y256, hy256⟩ : ∃ y_ : List Int, y_ = (([32, 769] : List Int)) := ⟨_, rfl⟩
              replace H : (some y256) = some r := by first | (rw [hy256]; with_reducible exact H) | (have H2_ := (Option.bind_some _ _).symm.trans H; rw [hy256]; with_reducible exact H2_) | (have H2_ := (Option.bind_some _ _).symm.trans H; with_reducible exact H2_) | with_reducible exact H | (rw [hy256]; exact H) | exact H
              have Ny256 := Aside0.mk hy256
              clear hy256
              obtain rfl := Option.some.inj H
              go_enter Try.func29, Try.ntmps29
              go_wp2_with (first | ((with_reducible refine gate_dst (N := 21) rfl ?_); refine Kd.R_lit (Kd.int .i32) _ 21 ?hg (N := 21) ?hd (xs := ([32, 769] : List Int)) (inner := [.int .i32 32, .int .i32 769]) (ok := fun _ => True) (okp := fun _ => True) ?hr ?hp (fun _ hk => hk) trivial (Below.refl _ _) (Nat.le_refl _) (by simp) ?_; (case hd => rfl); (case hg => rfl); (case hr => first | (go_simp; done) | (go_simp; rfl)); (case hp => exact (Reps.one (show Kd.M (Kd.int .i32) _ _ _ 32 [.int .i32 32] from rfl) (Reps.one (show Kd.M (Kd.int .i32) _ _ _ 769 [.int .i32 769] from rfl) (Reps.none _ _)))); intro v257 w18 ho19 hb hg_ hnew_; clear hg_ hnew_; (first | rw [← Ny256.out] at ho19 | (simp only [Int.reduceToNat] at ho19; rw [← Ny256.out] at ho19)); have n0_ := Aside0.mk (Kd.R_lower ho19 (below_size (by repeat (first | (with_reducible first | exact HB.out | apply below_alloc | apply pw_below_drewN | apply below_drew1) | exact HB.out)))); have n1_ := Aside0.mk (below_step (by repeat (first | (with_reducible first | exact HB.out | apply below_alloc | apply pw_below_drewN | apply below_drew1) | exact HB.out)) hb); clear HB; have HO258 := n0_; have HB := n1_; clear n0_ n1_; clear hb ho19))
              go_ret
              exact ⟨_, by first | rfl | (simp [errW_none, errW_some] <;> rfl) | (simp [*, errW_none, errW_some] <;> rfl), by (with_reducible repeat (first | apply Kd.R_alloc | apply Kd.R_drewN | apply Kd.R_drew)); exact HO258.out, by repeat (first | (with_reducible first | exact HB.out | apply below_alloc | apply pw_below_drewN | apply below_drew1) | exact HB.out)⟩
            · rw [if_neg c17] at H
              have c17b0 : (a0 == 180) = false := beq_eq_false_iff_ne.mpr c17
              have c17b1 : (a0 != 180) = true := bne_iff_ne.mpr c17
              by_cases c20 : a0 = 181
              · rw [if_pos c20] at H
                have c20b0 : (a0 == 181) = true := beq_iff_eq.mpr c20
                have c20b1 : (a0 != 181) = false := bne_eq_false_iff_eq.mpr c20
                clear c20
                obtain ⟨y259, hy259⟩ : ∃ y_ : List Int, y_ = (([956] : List Int)) := ⟨_, rfl⟩
                replace H : (some y259) = some r := by first | (rw [hy259]; with_reducible exact H) | (have H2_ := (Option.bind_some _ _).symm.trans H; rw [hy259]; with_reducible exact H2_) | (have H2_ := (Option.bind_some _ _).symm.trans H; with_reducible exact H2_) | with_reducible exact H | (rw [hy259]; exact H) | exact H
                have Ny259 := Aside0.mk hy259
                clear hy259
                obtain rfl := Option.some.inj H
                go_enter Try.func29, Try.ntmps29
                go_wp2_with (first | ((with_reducible refine gate_dst (N := 24) rfl ?_); refine Kd.R_lit (Kd.int .i32) _ 21 ?hg (N := 24) ?hd (xs := ([956] : List Int)) (inner := [.int .i32 956]) (ok := fun _ => True) (okp := fun _ => True) ?hr ?hp (fun _ hk => hk) trivial (Below.refl _ _) (Nat.le_refl _) (by simp) ?_; (case hd => rfl); (case hg => rfl); (case hr => first | (go_simp; done) | (go_simp; rfl)); (case hp => exact (Reps.one (show Kd.M (Kd.int .i32) _ _ _ 956 [.int .i32 956] from rfl) (Reps.none _ _))); intro v260 w21 ho22 hb hg_ hnew_; clear hg_ hnew_; (first | rw [← Ny259.out] at ho22 | (simp only [Int.reduceToNat] at ho22; rw [← Ny259.out] at ho22)); have n0_ := Aside0.mk (Kd.R_lower ho22 (below_size (by repeat (first | (with_reducible first | exact HB.out | apply below_alloc | apply pw_below_drewN | apply below_drew1) | exact HB.out)))); have n1_ := Aside0.mk (below_step (by repeat (first | (with_reducible first | exact HB.out | apply below_alloc | apply pw_below_drewN | apply below_drew1) | exact HB.out)) hb); clear HB; have HO261 := n0_; have HB := n1_; clear n0_ n1_; clear hb ho22))
                go_ret
                exact ⟨_, by first | rfl | (simp [errW_none, errW_some] <;> rfl) | (simp [*, errW_none, errW_some] <;> rfl), by (with_reducible repeat (first | apply Kd.R_alloc | apply Kd.R_drewN | apply Kd.R_drew)); exact HO261.out, by repeat (first | (with_reducible first | exact HB.out | apply below_alloc | apply pw_below_drewN | apply below_drew1) | exact HB.out)⟩
              · rw [if_neg c20] at H
                have c20b0 : (a0 == 181) = false := beq_eq_false_iff_ne.mpr c20
                have c20b1 : (a0 != 181) = true := bne_iff_ne.mpr c20
                by_cases c23 : a0 = 184
                · rw [if_pos c23] at H
                  have c23b0 : (a0 == 184) = true := beq_iff_eq.mpr c23
                  have c23b1 : (a0 != 184) = false := bne_eq_false_iff_eq.mpr c23
                  clear c23
                  obtain ⟨y262, hy262⟩ : ∃ y_ : List Int, y_ = (([32, 807] : List Int)) := ⟨_, rfl⟩
                  replace H : (some y262) = some r := by first | (rw [hy262]; with_reducible exact H) | (have H2_ := (Option.bind_some _ _).symm.trans H; rw [hy262]; with_reducible exact H2_) | (have H2_ := (Option.bind_some _ _).symm.trans H; with_reducible exact H2_) | with_reducible exact H | (rw [hy262]; exact H) | exact H
                  have Ny262 := Aside0.mk hy262
                  clear hy262
                  obtain rfl := Option.some.inj H
                  go_enter Try.func29, Try.ntmps29
                  go_wp2_with (first | ((with_reducible refine gate_dst (N := 27) rfl ?_); refine Kd.R_lit (Kd.int .i32) _ 21 ?hg (N := 27) ?hd (xs := ([32, 807] : List Int)) (inner := [.int .i32 32, .int .i32 807]) (ok := fun _ => True) (okp := fun _ => True) ?hr ?hp (fun _ hk => hk) trivial (Below.refl _ _) (Nat.le_refl _) (by simp) ?_; (case hd => rfl); (case hg => rfl); (case hr => first | (go_simp; done) | (go_simp; rfl)); (case hp => exact (Reps.one (show Kd.M (Kd.int .i32) _ _ _ 32 [.int .i32 32] from rfl) (Reps.one (show Kd.M (Kd.int .i32) _ _ _ 807 [.int .i32 807] from rfl) (Reps.none _ _)))); intro v263 w24 ho25 hb hg_ hnew_; clear hg_ hnew_; (first | rw [← Ny262.out] at ho25 | (simp only [Int.reduceToNat] at ho25; rw [← Ny262.out] at ho25)); have n0_ := Aside0.mk (Kd.R_lower ho25 (below_size (by repeat (first | (with_reducible first | exact HB.out | apply below_alloc | apply pw_below_drewN | apply below_drew1) | exact HB.out)))); have n1_ := Aside0.mk (below_step (by repeat (first | (with_reducible first | exact HB.out | apply below_alloc | apply pw_below_drewN | apply below_drew1) | exact HB.out)) hb); clear HB; have HO264 := n0_; have HB := n1_; clear n0_ n1_; clear hb ho25))
                  go_ret
                  exact ⟨_, by first | rfl | (simp [errW_none, errW_some] <;> rfl) | (simp [*, errW_none, errW_some] <;> rfl), by (with_reducible repeat (first | apply Kd.R_alloc | apply Kd.R_drewN | apply Kd.R_drew)); exact HO264.out, by repeat (first | (with_reducible first | exact HB.out | apply below_alloc | apply pw_below_drewN | apply below_drew1) | exact HB.out)⟩
                · rw [if_neg c23] at H
                  have c23b0 : (a0 == 184) = false := beq_eq_false_iff_ne.mpr c23
                  have c23b1 : (a0 != 184) = true := bne_iff_ne.mpr c23
                  by_cases c26 : a0 = 185
                  · rw [if_pos c26] at H
                    have c26b0 : (a0 == 185) = true := beq_iff_eq.mpr c26
                    have c26b1 : (a0 != 185) = false := bne_eq_false_iff_eq.mpr c26
                    clear c26
                    obtain ⟨y265, hy265⟩ : ∃ y_ : List Int, y_ = (([49] : List Int)) := ⟨_, rfl⟩
                    replace H : (some y265) = some r := by first | (rw [hy265]; with_reducible exact H) | (have H2_ := (Option.bind_some _ _).symm.trans H; rw [hy265]; with_reducible exact H2_) | (have H2_ := (Option.bind_some _ _).symm.trans H; with_reducible exact H2_) | with_reducible exact H | (rw [hy265]; exact H) | exact H
                    have Ny265 := Aside0.mk hy265
                    clear hy265
                    obtain rfl := Option.some.inj H
                    go_enter Try.func29, Try.ntmps29
                    go_wp2_with (first | ((with_reducible refine gate_dst (N := 30) rfl ?_); refine Kd.R_lit (Kd.int .i32) _ 21 ?hg (N := 30) ?hd (xs := ([49] : List Int)) (inner := [.int .i32 49]) (ok := fun _ => True) (okp := fun _ => True) ?hr ?hp (fun _ hk => hk) trivial (Below.refl _ _) (Nat.le_refl _) (by simp) ?_; (case hd => rfl); (case hg => rfl); (case hr => first | (go_simp; done) | (go_simp; rfl)); (case hp => exact (Reps.one (show Kd.M (Kd.int .i32) _ _ _ 49 [.int .i32 49] from rfl) (Reps.none _ _))); intro v266 w27 ho28 hb hg_ hnew_; clear hg_ hnew_; (first | rw [← Ny265.out] at ho28 | (simp only [Int.reduceToNat] at ho28; rw [← Ny265.out] at ho28)); have n0_ := Aside0.mk (Kd.R_lower ho28 (below_size (by repeat (first | (with_reducible first | exact HB.out | apply below_alloc | apply pw_below_drewN | apply below_drew1) | exact HB.out)))); have n1_ := Aside0.mk (below_step (by repeat (first | (with_reducible first | exact HB.out | apply below_alloc | apply pw_below_drewN | apply below_drew1) | exact HB.out)) hb); clear HB; have HO267 := n0_; have HB := n1_; clear n0_ n1_; clear hb ho28))
                    go_ret
                    exact ⟨_, by first | rfl | (simp [errW_none, errW_some] <;> rfl) | (simp [*, errW_none, errW_some] <;> rfl), by (with_reducible repeat (first | apply Kd.R_alloc | apply Kd.R_drewN | apply Kd.R_drew)); exact HO267.out, by repeat (first | (with_reducible first | exact HB.out | apply below_alloc | apply pw_below_drewN | apply below_drew1) | exact HB.out)⟩
                  · rw [if_neg c26] at H
                    have c26b0 : (a0 == 185) = false := beq_eq_false_iff_ne.mpr c26
                    have c26b1 : (a0 != 185) = true := bne_iff_ne.mpr c26
                    by_cases c29 : a0 = 186
                    · rw [if_pos c29] at H
                      have c29b0 : (a0 == 186) = true := beq_iff_eq.mpr c29
                      have c29b1 : (a0 != 186) = false := bne_eq_false_iff_eq.mpr c29
                      clear c29
                      obtain ⟨y268, hy268⟩ : ∃ y_ : List Int, y_ = (([111] : List Int)) := ⟨_, rfl⟩
                      replace H : (some y268) = some r := by first | (rw [hy268]; with_reducible exact H) | (have H2_ := (Option.bind_some _ _).symm.trans H; rw [hy268]; with_reducible exact H2_) | (have H2_ := (Option.bind_some _ _).symm.trans H; with_reducible exact H2_) | with_reducible exact H | (rw [hy268]; exact H) | exact H
                      have Ny268 := Aside0.mk hy268
                      clear hy268
                      obtain rfl := Option.some.inj H
                      go_enter Try.func29, Try.ntmps29
                      go_wp2_with (first | ((with_reducible refine gate_dst (N := 33) rfl ?_); refine Kd.R_lit (Kd.int .i32) _ 21 ?hg (N := 33) ?hd (xs := ([111] : List Int)) (inner := [.int .i32 111]) (ok := fun _ => True) (okp := fun _ => True) ?hr ?hp (fun _ hk => hk) trivial (Below.refl _ _) (Nat.le_refl _) (by simp) ?_; (case hd => rfl); (case hg => rfl); (case hr => first | (go_simp; done) | (go_simp; rfl)); (case hp => exact (Reps.one (show Kd.M (Kd.int .i32) _ _ _ 111 [.int .i32 111] from rfl) (Reps.none _ _))); intro v269 w30 ho31 hb hg_ hnew_; clear hg_ hnew_; (first | rw [← Ny268.out] at ho31 | (simp only [Int.reduceToNat] at ho31; rw [← Ny268.out] at ho31)); have n0_ := Aside0.mk (Kd.R_lower ho31 (below_size (by repeat (first | (with_reducible first | exact HB.out | apply below_alloc | apply pw_below_drewN | apply below_drew1) | exact HB.out)))); have n1_ := Aside0.mk (below_step (by repeat (first | (with_reducible first | exact HB.out | apply below_alloc | apply pw_below_drewN | apply below_drew1) | exact HB.out)) hb); clear HB; have HO270 := n0_; have HB := n1_; clear n0_ n1_; clear hb ho31))
                      go_ret
                      exact ⟨_, by first | rfl | (simp [errW_none, errW_some] <;> rfl) | (simp [*, errW_none, errW_some] <;> rfl), by (with_reducible repeat (first | apply Kd.R_alloc | apply Kd.R_drewN | apply Kd.R_drew)); exact HO270.out, by repeat (first | (with_reducible first | exact HB.out | apply below_alloc | apply pw_below_drewN | apply below_drew1) | exact HB.out)⟩
                    · rw [if_neg c29] at H
                      have c29b0 : (a0 == 186) = false := beq_eq_false_iff_ne.mpr c29
                      have c29b1 : (a0 != 186) = true := bne_iff_ne.mpr c29
                      by_cases c32 : a0 = 188
                      · rw [if_pos c32] at H
                        have c32b0 : (a0 == 188) = true := beq_iff_eq.mpr c32
                        have c32b1 : (a0 != 188) = false := bne_eq_false_iff_eq.mpr c32
                        clear c32
                        obtain ⟨y271, hy271⟩ : ∃ y_ : List Int, y_ = (([49, 8260, 52] : List Int)) := ⟨_, rfl⟩
                        replace H : (some y271) = some r := by first | (rw [hy271]; with_reducible exact H) | (have H2_ := (Option.bind_some _ _).symm.trans H; rw [hy271]; with_reducible exact H2_) | (have H2_ := (Option.bind_some _ _).symm.trans H; with_reducible exact H2_) | with_reducible exact H | (rw [hy271]; exact H) | exact H
                        have Ny271 := Aside0.mk hy271
                        clear hy271
                        obtain rfl := Option.some.inj H
                        go_enter Try.func29, Try.ntmps29
                        go_wp2_with (first | ((with_reducible refine gate_dst (N := 36) rfl ?_); refine Kd.R_lit (Kd.int .i32) _ 21 ?hg (N := 36) ?hd (xs := ([49, 8260, 52] : List Int)) (inner := [.int .i32 49, .int .i32 8260, .int .i32 52]) (ok := fun _ => True) (okp := fun _ => True) ?hr ?hp (fun _ hk => hk) trivial (Below.refl _ _) (Nat.le_refl _) (by simp) ?_; (case hd => rfl); (case hg => rfl); (case hr => first | (go_simp; done) | (go_simp; rfl)); (case hp => exact (Reps.one (show Kd.M (Kd.int .i32) _ _ _ 49 [.int .i32 49] from rfl) (Reps.one (show Kd.M (Kd.int .i32) _ _ _ 8260 [.int .i32 8260] from rfl) (Reps.one (show Kd.M (Kd.int .i32) _ _ _ 52 [.int .i32 52] from rfl) (Reps.none _ _))))); intro v272 w33 ho34 hb hg_ hnew_; clear hg_ hnew_; (first | rw [← Ny271.out] at ho34 | (simp only [Int.reduceToNat] at ho34; rw [← Ny271.out] at ho34)); have n0_ := Aside0.mk (Kd.R_lower ho34 (below_size (by repeat (first | (with_reducible first | exact HB.out | apply below_alloc | apply pw_below_drewN | apply below_drew1) | exact HB.out)))); have n1_ := Aside0.mk (below_step (by repeat (first | (with_reducible first | exact HB.out | apply below_alloc | apply pw_below_drewN | apply below_drew1) | exact HB.out)) hb); clear HB; have HO273 := n0_; have HB := n1_; clear n0_ n1_; clear hb ho34))
                        go_ret
                        exact ⟨_, by first | rfl | (simp [errW_none, errW_some] <;> rfl) | (simp [*, errW_none, errW_some] <;> rfl), by (with_reducible repeat (first | apply Kd.R_alloc | apply Kd.R_drewN | apply Kd.R_drew)); exact HO273.out, by repeat (first | (with_reducible first | exact HB.out | apply below_alloc | apply pw_below_drewN | apply below_drew1) | exact HB.out)⟩
                      · rw [if_neg c32] at H
                        have c32b0 : (a0 == 188) = false := beq_eq_false_iff_ne.mpr c32
                        have c32b1 : (a0 != 188) = true := bne_iff_ne.mpr c32
                        by_cases c35 : a0 = 189
                        · rw [if_pos c35] at H
                          have c35b0 : (a0 == 189) = true := beq_iff_eq.mpr c35
                          have c35b1 : (a0 != 189) = false := bne_eq_false_iff_eq.mpr c35
                          clear c35
                          obtain ⟨y274, hy274⟩ : ∃ y_ : List Int, y_ = (([49, 8260, 50] : List Int)) := ⟨_, rfl⟩
                          replace H : (some y274) = some r := by first | (rw [hy274]; with_reducible exact H) | (have H2_ := (Option.bind_some _ _).symm.trans H; rw [hy274]; with_reducible exact H2_) | (have H2_ := (Option.bind_some _ _).symm.trans H; with_reducible exact H2_) | with_reducible exact H | (rw [hy274]; exact H) | exact H
                          have Ny274 := Aside0.mk hy274
                          clear hy274
                          obtain rfl := Option.some.inj H
                          go_enter Try.func29, Try.ntmps29
                          go_wp2_with (first | ((with_reducible refine gate_dst (N := 39) rfl ?_); refine Kd.R_lit (Kd.int .i32) _ 21 ?hg (N := 39) ?hd (xs := ([49, 8260, 50] : List Int)) (inner := [.int .i32 49, .int .i32 8260, .int .i32 50]) (ok := fun _ => True) (okp := fun _ => True) ?hr ?hp (fun _ hk => hk) trivial (Below.refl _ _) (Nat.le_refl _) (by simp) ?_; (case hd => rfl); (case hg => rfl); (case hr => first | (go_simp; done) | (go_simp; rfl)); (case hp => exact (Reps.one (show Kd.M (Kd.int .i32) _ _ _ 49 [.int .i32 49] from rfl) (Reps.one (show Kd.M (Kd.int .i32) _ _ _ 8260 [.int .i32 8260] from rfl) (Reps.one (show Kd.M (Kd.int .i32) _ _ _ 50 [.int .i32 50] from rfl) (Reps.none _ _))))); intro v275 w36 ho37 hb hg_ hnew_; clear hg_ hnew_; (first | rw [← Ny274.out] at ho37 | (simp only [Int.reduceToNat] at ho37; rw [← Ny274.out] at ho37)); have n0_ := Aside0.mk (Kd.R_lower ho37 (below_size (by repeat (first | (with_reducible first | exact HB.out | apply below_alloc | apply pw_below_drewN | apply below_drew1) | exact HB.out)))); have n1_ := Aside0.mk (below_step (by repeat (first | (with_reducible first | exact HB.out | apply below_alloc | apply pw_below_drewN | apply below_drew1) | exact HB.out)) hb); clear HB; have HO276 := n0_; have HB := n1_; clear n0_ n1_; clear hb ho37))
                          go_ret
                          exact ⟨_, by first | rfl | (simp [errW_none, errW_some] <;> rfl) | (simp [*, errW_none, errW_some] <;> rfl), by (with_reducible repeat (first | apply Kd.R_alloc | apply Kd.R_drewN | apply Kd.R_drew)); exact HO276.out, by repeat (first | (with_reducible first | exact HB.out | apply below_alloc | apply pw_below_drewN | apply below_drew1) | exact HB.out)⟩
                        · rw [if_neg c35] at H
                          have c35b0 : (a0 == 189) = false := beq_eq_false_iff_ne.mpr c35
                          have c35b1 : (a0 != 189) = true := bne_iff_ne.mpr c35
                          by_cases c38 : a0 = 190
                          · rw [if_pos c38] at H
                            have c38b0 : (a0 == 190) = true := beq_iff_eq.mpr c38
                            have c38b1 : (a0 != 190) = false := bne_eq_false_iff_eq.mpr c38
                            clear c38
                            obtain ⟨y277, hy277⟩ : ∃ y_ : List Int, y_ = (([51, 8260, 52] : List Int)) := ⟨_, rfl⟩
                            replace H : (some y277) = some r := by first | (rw [hy277]; with_reducible exact H) | (have H2_ := (Option.bind_some _ _).symm.trans H; rw [hy277]; with_reducible exact H2_) | (have H2_ := (Option.bind_some _ _).symm.trans H; with_reducible exact H2_) | with_reducible exact H | (rw [hy277]; exact H) | exact H
                            have Ny277 := Aside0.mk hy277
                            clear hy277
                            obtain rfl := Option.some.inj H
                            go_enter Try.func29, Try.ntmps29
                            go_wp2_with (first | ((with_reducible refine gate_dst (N := 42) rfl ?_); refine Kd.R_lit (Kd.int .i32) _ 21 ?hg (N := 42) ?hd (xs := ([51, 8260, 52] : List Int)) (inner := [.int .i32 51, .int .i32 8260, .int .i32 52]) (ok := fun _ => True) (okp := fun _ => True) ?hr ?hp (fun _ hk => hk) trivial (Below.refl _ _) (Nat.le_refl _) (by simp) ?_; (case hd => rfl); (case hg => rfl); (case hr => first | (go_simp; done) | (go_simp; rfl)); (case hp => exact (Reps.one (show Kd.M (Kd.int .i32) _ _ _ 51 [.int .i32 51] from rfl) (Reps.one (show Kd.M (Kd.int .i32) _ _ _ 8260 [.int .i32 8260] from rfl) (Reps.one (show Kd.M (Kd.int .i32) _ _ _ 52 [.int .i32 52] from rfl) (Reps.none _ _))))); intro v278 w39 ho40 hb hg_ hnew_; clear hg_ hnew_; (first | rw [← Ny277.out] at ho40 | (simp only [Int.reduceToNat] at ho40; rw [← Ny277.out] at ho40)); have n0_ := Aside0.mk (Kd.R_lower ho40 (below_size (by repeat (first | (with_reducible first | exact HB.out | apply below_alloc | apply pw_below_drewN | apply below_drew1) | exact HB.out)))); have n1_ := Aside0.mk (below_step (by repeat (first | (with_reducible first | exact HB.out | apply below_alloc | apply pw_below_drewN | apply below_drew1) | exact HB.out)) hb); clear HB; have HO279 := n0_; have HB := n1_; clear n0_ n1_; clear hb ho40))
                            go_ret
                            exact ⟨_, by first | rfl | (simp [errW_none, errW_some] <;> rfl) | (simp [*, errW_none, errW_some] <;> rfl), by (with_reducible repeat (first | apply Kd.R_alloc | apply Kd.R_drewN | apply Kd.R_drew)); exact HO279.out, by repeat (first | (with_reducible first | exact HB.out | apply below_alloc | apply pw_below_drewN | apply below_drew1) | exact HB.out)⟩
                          · rw [if_neg c38] at H
                            have c38b0 : (a0 == 190) = false := beq_eq_false_iff_ne.mpr c38
                            have c38b1 : (a0 != 190) = true := bne_iff_ne.mpr c38
                            by_cases c41 : a0 = 306
                            · rw [if_pos c41] at H
                              have c41b0 : (a0 == 306) = true := beq_iff_eq.mpr c41
                              have c41b1 : (a0 != 306) = false := bne_eq_false_iff_eq.mpr c41
                              clear c41
                              obtain ⟨y280, hy280⟩ : ∃ y_ : List Int, y_ = (([73, 74] : List Int)) := ⟨_, rfl⟩
                              replace H : (some y280) = some r := by first | (rw [hy280]; with_reducible exact H) | (have H2_ := (Option.bind_some _ _).symm.trans H; rw [hy280]; with_reducible exact H2_) | (have H2_ := (Option.bind_some _ _).symm.trans H; with_reducible exact H2_) | with_reducible exact H | (rw [hy280]; exact H) | exact H
                              have Ny280 := Aside0.mk hy280
                              clear hy280
                              obtain rfl := Option.some.inj H
                              go_enter Try.func29, Try.ntmps29
                              go_wp2_with (first | ((with_reducible refine gate_dst (N := 45) rfl ?_); refine Kd.R_lit (Kd.int .i32) _ 21 ?hg (N := 45) ?hd (xs := ([73, 74] : List Int)) (inner := [.int .i32 73, .int .i32 74]) (ok := fun _ => True) (okp := fun _ => True) ?hr ?hp (fun _ hk => hk) trivial (Below.refl _ _) (Nat.le_refl _) (by simp) ?_; (case hd => rfl); (case hg => rfl); (case hr => first | (go_simp; done) | (go_simp; rfl)); (case hp => exact (Reps.one (show Kd.M (Kd.int .i32) _ _ _ 73 [.int .i32 73] from rfl) (Reps.one (show Kd.M (Kd.int .i32) _ _ _ 74 [.int .i32 74] from rfl) (Reps.none _ _)))); intro v281 w42 ho43 hb hg_ hnew_; clear hg_ hnew_; (first | rw [← Ny280.out] at ho43 | (simp only [Int.reduceToNat] at ho43; rw [← Ny280.out] at ho43)); have n0_ := Aside0.mk (Kd.R_lower ho43 (below_size (by repeat (first | (with_reducible first | exact HB.out | apply below_alloc | apply pw_below_drewN | apply below_drew1) | exact HB.out)))); have n1_ := Aside0.mk (below_step (by repeat (first | (with_reducible first | exact HB.out | apply below_alloc | apply pw_below_drewN | apply below_drew1) | exact HB.out)) hb); clear HB; have HO282 := n0_; have HB := n1_; clear n0_ n1_; clear hb ho43))
                              go_ret
                              exact ⟨_, by first | rfl | (simp [errW_none, errW_some] <;> rfl) | (simp [*, errW_none, errW_some] <;> rfl), by (with_reducible repeat (first | apply Kd.R_alloc | apply Kd.R_drewN | apply Kd.R_drew)); exact HO282.out, by repeat (first | (with_reducible first | exact HB.out | apply below_alloc | apply pw_below_drewN | apply below_drew1) | exact HB.out)⟩
                            · rw [if_neg c41] at H
                              have c41b0 : (a0 == 306) = false := beq_eq_false_iff_ne.mpr c41
                              have c41b1 : (a0 != 306) = true := bne_iff_ne.mpr c41
                              by_cases c44 : a0 = 307
                              · rw [if_pos c44] at H
                                have c44b0 : (a0 == 307) = true := beq_iff_eq.mpr c44
                                have c44b1 : (a0 != 307) = false := bne_eq_false_iff_eq.mpr c44
                                clear c44
                                obtain ⟨y283, hy283⟩ : ∃ y_ : List Int, y_ = (([105, 106] : List Int)) := ⟨_, rfl⟩
                                replace H : (some y283) = some r := by first | (rw [hy283]; with_reducible exact H) | (have H2_ := (Option.bind_some _ _).symm.trans H; rw [hy283]; with_reducible exact H2_) | (have H2_ := (Option.bind_some _ _).symm.trans H; with_reducible exact H2_) | with_reducible exact H | (rw [hy283]; exact H) | exact H
                                have Ny283 := Aside0.mk hy283
                                clear hy283
                                obtain rfl := Option.some.inj H
                                go_enter Try.func29, Try.ntmps29
                                go_wp2_with (first | ((with_reducible refine gate_dst (N := 48) rfl ?_); refine Kd.R_lit (Kd.int .i32) _ 21 ?hg (N := 48) ?hd (xs := ([105, 106] : List Int)) (inner := [.int .i32 105, .int .i32 106]) (ok := fun _ => True) (okp := fun _ => True) ?hr ?hp (fun _ hk => hk) trivial (Below.refl _ _) (Nat.le_refl _) (by simp) ?_; (case hd => rfl); (case hg => rfl); (case hr => first | (go_simp; done) | (go_simp; rfl)); (case hp => exact (Reps.one (show Kd.M (Kd.int .i32) _ _ _ 105 [.int .i32 105] from rfl) (Reps.one (show Kd.M (Kd.int .i32) _ _ _ 106 [.int .i32 106] from rfl) (Reps.none _ _)))); intro v284 w45 ho46 hb hg_ hnew_; clear hg_ hnew_; (first | rw [← Ny283.out] at ho46 | (simp only [Int.reduceToNat] at ho46; rw [← Ny283.out] at ho46)); have n0_ := Aside0.mk (Kd.R_lower ho46 (below_size (by repeat (first | (with_reducible first | exact HB.out | apply below_alloc | apply pw_below_drewN | apply below_drew1) | exact HB.out)))); have n1_ := Aside0.mk (below_step (by repeat (first | (with_reducible first | exact HB.out | apply below_alloc | apply pw_below_drewN | apply below_drew1) | exact HB.out)) hb); clear HB; have HO285 := n0_; have HB := n1_; clear n0_ n1_; clear hb ho46))
                                go_ret
                                exact ⟨_, by first | rfl | (simp [errW_none, errW_some] <;> rfl) | (simp [*, errW_none, errW_some] <;> rfl), by (with_reducible repeat (first | apply Kd.R_alloc | apply Kd.R_drewN | apply Kd.R_drew)); exact HO285.out, by repeat (first | (with_reducible first | exact HB.out | apply below_alloc | apply pw_below_drewN | apply below_drew1) | exact HB.out)⟩
                              · rw [if_neg c44] at H
                                have c44b0 : (a0 == 307) = false := beq_eq_false_iff_ne.mpr c44
                                have c44b1 : (a0 != 307) = true := bne_iff_ne.mpr c44
                                by_cases c47 : a0 = 319
                                · rw [if_pos c47] at H
                                  have c47b0 : (a0 == 319) = true := beq_iff_eq.mpr c47
                                  have c47b1 : (a0 != 319) = false := bne_eq_false_iff_eq.mpr c47
                                  clear c47
                                  obtain ⟨y286, hy286⟩ : ∃ y_ : List Int, y_ = (([76, 183] : List Int)) := ⟨_, rfl⟩
                                  replace H : (some y286) = some r := by first | (rw [hy286]; with_reducible exact H) | (have H2_ := (Option.bind_some _ _).symm.trans H; rw [hy286]; with_reducible exact H2_) | (have H2_ := (Option.bind_some _ _).symm.trans H; with_reducible exact H2_) | with_reducible exact H | (rw [hy286]; exact H) | exact H
                                  have Ny286 := Aside0.mk hy286
                                  clear hy286
                                  obtain rfl := Option.some.inj H
                                  go_enter Try.func29, Try.ntmps29
                                  go_wp2_with (first | ((with_reducible refine gate_dst (N := 51) rfl ?_); refine Kd.R_lit (Kd.int .i32) _ 21 ?hg (N := 51) ?hd (xs := ([76, 183] : List Int)) (inner := [.int .i32 76, .int .i32 183]) (ok := fun _ => True) (okp := fun _ => True) ?hr ?hp (fun _ hk => hk) trivial (Below.refl _ _) (Nat.le_refl _) (by simp) ?_; (case hd => rfl); (case hg => rfl); (case hr => first | (go_simp; done) | (go_simp; rfl)); (case hp => exact (Reps.one (show Kd.M (Kd.int .i32) _ _ _ 76 [.int .i32 76] from rfl) (Reps.one (show Kd.M (Kd.int .i32) _ _ _ 183 [.int .i32 183] from rfl) (Reps.none _ _)))); intro v287 w48 ho49 hb hg_ hnew_; clear hg_ hnew_; (first | rw [← Ny286.out] at ho49 | (simp only [Int.reduceToNat] at ho49; rw [← Ny286.out] at ho49)); have n0_ := Aside0.mk (Kd.R_lower ho49 (below_size (by repeat (first | (with_reducible first | exact HB.out | apply below_alloc | apply pw_below_drewN | apply below_drew1) | exact HB.out)))); have n1_ := Aside0.mk (below_step (by repeat (first | (with_reducible first | exact HB.out | apply below_alloc | apply pw_below_drewN | apply below_drew1) | exact HB.out)) hb); clear HB; have HO288 := n0_; have HB := n1_; clear n0_ n1_; clear hb ho49))
                                  go_ret
                                  exact ⟨_, by first | rfl | (simp [errW_none, errW_some] <;> rfl) | (simp [*, errW_none, errW_some] <;> rfl), by (with_reducible repeat (first | apply Kd.R_alloc | apply Kd.R_drewN | apply Kd.R_drew)); exact HO288.out, by repeat (first | (with_reducible first | exact HB.out | apply below_alloc | apply pw_below_drewN | apply below_drew1) | exact HB.out)⟩
                                · rw [if_neg c47] at H
                                  have c47b0 : (a0 == 319) = false := beq_eq_false_iff_ne.mpr c47
                                  have c47b1 : (a0 != 319) = true := bne_iff_ne.mpr c47
                                  by_cases c50 : a0 = 320
                                  · rw [if_pos c50] at H
                                    have c50b0 : (a0 == 320) = true := beq_iff_eq.mpr c50
                                    have c50b1 : (a0 != 320) = false := bne_eq_false_iff_eq.mpr c50
                                    clear c50
                                    obtain ⟨y289, hy289⟩ : ∃ y_ : List Int, y_ = (([108, 183] : List Int)) := ⟨_, rfl⟩
                                    replace H : (some y289) = some r := by first | (rw [hy289]; with_reducible exact H) | (have H2_ := (Option.bind_some _ _).symm.trans H; rw [hy289]; with_reducible exact H2_) | (have H2_ := (Option.bind_some _ _).symm.trans H; with_reducible exact H2_) | with_reducible exact H | (rw [hy289]; exact H) | exact H
                                    have Ny289 := Aside0.mk hy289
                                    clear hy289
                                    obtain rfl := Option.some.inj H
                                    go_enter Try.func29, Try.ntmps29
                                    go_wp2_with (first | ((with_reducible refine gate_dst (N := 54) rfl ?_); refine Kd.R_lit (Kd.int .i32) _ 21 ?hg (N := 54) ?hd (xs := ([108, 183] : List Int)) (inner := [.int .i32 108, .int .i32 183]) (ok := fun _ => True) (okp := fun _ => True) ?hr ?hp (fun _ hk => hk) trivial (Below.refl _ _) (Nat.le_refl _) (by simp) ?_; (case hd => rfl); (case hg => rfl); (case hr => first | (go_simp; done) | (go_simp; rfl)); (case hp => exact (Reps.one (show Kd.M (Kd.int .i32) _ _ _ 108 [.int .i32 108] from rfl) (Reps.one (show Kd.M (Kd.int .i32) _ _ _ 183 [.int .i32 183] from rfl) (Reps.none _ _)))); intro v290 w51 ho52 hb hg_ hnew_; clear hg_ hnew_; (first | rw [← Ny289.out] at ho52 | (simp only [Int.reduceToNat] at ho52; rw [← Ny289.out] at ho52)); have n0_ := Aside0.mk (Kd.R_lower ho52 (below_size (by repeat (first | (with_reducible first | exact HB.out | apply below_alloc | apply pw_below_drewN | apply below_drew1) | exact HB.out)))); have n1_ := Aside0.mk (below_step (by repeat (first | (with_reducible first | exact HB.out | apply below_alloc | apply pw_below_drewN | apply below_drew1) | exact HB.out)) hb); clear HB; have HO291 := n0_; have HB := n1_; clear n0_ n1_; clear hb ho52))
                                    go_ret
                                    exact ⟨_, by first | rfl | (simp [errW_none, errW_some] <;> rfl) | (simp [*, errW_none, errW_some] <;> rfl), by (with_reducible repeat (first | apply Kd.R_alloc | apply Kd.R_drewN | apply Kd.R_drew)); exact HO291.out, by repeat (first | (with_reducible first | exact HB.out | apply below_alloc | apply pw_below_drewN | apply below_drew1) | exact HB.out)⟩
                                  · rw [if_neg c50] at H
                                    have c50b0 : (a0 == 320) = false := beq_eq_false_iff_ne.mpr c50
                                    have c50b1 : (a0 != 320) = true := bne_iff_ne.mpr c50
                                    by_cases c53 : a0 = 329
                                    · rw [if_pos c53] at H
                                      have c53b0 : (a0 == 329) = true := beq_iff_eq.mpr c53
                                      have c53b1 : (a0 != 329) = false := bne_eq_false_iff_eq.mpr c53
                                      clear c53
                                      obtain ⟨y292, hy292⟩ : ∃ y_ : List Int, y_ = (([700, 110] : List Int)) := ⟨_, rfl⟩
                                      replace H : (some y292) = some r := by first | (rw [hy292]; with_reducible exact H) | (have H2_ := (Option.bind_some _ _).symm.trans H; rw [hy292]; with_reducible exact H2_) | (have H2_ := (Option.bind_some _ _).symm.trans H; with_reducible exact H2_) | with_reducible exact H | (rw [hy292]; exact H) | exact H
                                      have Ny292 := Aside0.mk hy292
                                      clear hy292
                                      obtain rfl := Option.some.inj H
                                      go_enter Try.func29, Try.ntmps29
                                      go_wp2_with (first | ((with_reducible refine gate_dst (N := 57) rfl ?_); refine Kd.R_lit (Kd.int .i32) _ 21 ?hg (N := 57) ?hd (xs := ([700, 110] : List Int)) (inner := [.int .i32 700, .int .i32 110]) (ok := fun _ => True) (okp := fun _ => True) ?hr ?hp (fun _ hk => hk) trivial (Below.refl _ _) (Nat.le_refl _) (by simp) ?_; (case hd => rfl); (case hg => rfl); (case hr => first | (go_simp; done) | (go_simp; rfl)); (case hp => exact (Reps.one (show Kd.M (Kd.int .i32) _ _ _ 700 [.int .i32 700] from rfl) (Reps.one (show Kd.M (Kd.int .i32) _ _ _ 110 [.int .i32 110] from rfl) (Reps.none _ _)))); intro v293 w54 ho55 hb hg_ hnew_; clear hg_ hnew_; (first | rw [← Ny292.out] at ho55 | (simp only [Int.reduceToNat] at ho55; rw [← Ny292.out] at ho55)); have n0_ := Aside0.mk (Kd.R_lower ho55 (below_size (by repeat (first | (with_reducible first | exact HB.out | apply below_alloc | apply pw_below_drewN | apply below_drew1) | exact HB.out)))); have n1_ := Aside0.mk (below_step (by repeat (first | (with_reducible first | exact HB.out | apply below_alloc | apply pw_below_drewN | apply below_drew1) | exact HB.out)) hb); clear HB; have HO294 := n0_; have HB := n1_; clear n0_ n1_; clear hb ho55))
                                      go_ret
                                      exact ⟨_, by first | rfl | (simp [errW_none, errW_some] <;> rfl) | (simp [*, errW_none, errW_some] <;> rfl), by (with_reducible repeat (first | apply Kd.R_alloc | apply Kd.R_drewN | apply Kd.R_drew)); exact HO294.out, by repeat (first | (with_reducible first | exact HB.out | apply below_alloc | apply pw_below_drewN | apply below_drew1) | exact HB.out)⟩
                                    · rw [if_neg c53] at H
                                      have c53b0 : (a0 == 329) = false := beq_eq_false_iff_ne.mpr c53
                                      have c53b1 : (a0 != 329) = true := bne_iff_ne.mpr c53
                                      by_cases c56 : a0 = 383
                                      · rw [if_pos c56] at H
                                        have c56b0 : (a0 == 383) = true := beq_iff_eq.mpr c56
                                        have c56b1 : (a0 != 383) = false := bne_eq_false_iff_eq.mpr c56
                                        clear c56
                                        obtain ⟨y295, hy295⟩ : ∃ y_ : List Int, y_ = (([115] : List Int)) := ⟨_, rfl⟩
                                        replace H : (some y295) = some r := by first | (rw [hy295]; with_reducible exact H) | (have H2_ := (Option.bind_some _ _).symm.trans H; rw [hy295]; with_reducible exact H2_) | (have H2_ := (Option.bind_some _ _).symm.trans H; with_reducible exact H2_) | with_reducible exact H | (rw [hy295]; exact H) | exact H
                                        have Ny295 := Aside0.mk hy295
                                        clear hy295
                                        obtain rfl := Option.some.inj H
                                        go_enter Try.func29, Try.ntmps29
                                        go_wp2_with (first | ((with_reducible refine gate_dst (N := 60) rfl ?_); refine Kd.R_lit (Kd.int .i32) _ 21 ?hg (N := 60) ?hd (xs := ([115] : List Int)) (inner := [.int .i32 115]) (ok := fun _ => True) (okp := fun _ => True) ?hr ?hp (fun _ hk => hk) trivial (Below.refl _ _) (Nat.le_refl _) (by simp) ?_; (case hd => rfl); (case hg => rfl); (case hr => first | (go_simp; done) | (go_simp; rfl)); (case hp => exact (Reps.one (show Kd.M (Kd.int .i32) _ _ _ 115 [.int .i32 115] from rfl) (Reps.none _ _))); intro v296 w57 ho58 hb hg_ hnew_; clear hg_ hnew_; (first | rw [← Ny295.out] at ho58 | (simp only [Int.reduceToNat] at ho58; rw [← Ny295.out] at ho58)); have n0_ := Aside0.mk (Kd.R_lower ho58 (below_size (by repeat (first | (with_reducible first | exact HB.out | apply below_alloc | apply pw_below_drewN | apply below_drew1) | exact HB.out)))); have n1_ := Aside0.mk (below_step (by repeat (first | (with_reducible first | exact HB.out | apply below_alloc | apply pw_below_drewN | apply below_drew1) | exact HB.out)) hb); clear HB; have HO297 := n0_; have HB := n1_; clear n0_ n1_; clear hb ho58))
                                        go_ret
                                        exact ⟨_, by first | rfl | (simp [errW_none, errW_some] <;> rfl) | (simp [*, errW_none, errW_some] <;> rfl), by (with_reducible repeat (first | apply Kd.R_alloc | apply Kd.R_drewN | apply Kd.R_drew)); exact HO297.out, by repeat (first | (with_reducible first | exact HB.out | apply below_alloc | apply pw_below_drewN | apply below_drew1) | exact HB.out)⟩
                                      · rw [if_neg c56] at H
                                        have c56b0 : (a0 == 383) = false := beq_eq_false_iff_ne.mpr c56
                                        have c56b1 : (a0 != 383) = true := bne_iff_ne.mpr c56
                                        replace H := Option.bind_eq_some_iff.mp H
                                        obtain ⟨t298, A590, H⟩ := H
                                        replace H : (some t298) = some r := H
                                        have A59 := Aside0.mk A590
                                        clear A590
                                        obtain rfl := Option.some.inj H
                                        go_enter Try.func29, Try.ntmps29
                                        go_wp2_with (first | ((with_reducible refine gate_callee (f := 43) rfl ?_); refine goesL_ (some 62) rfl rfl Try.func43 (by kernel_rfl) rfl #[.int .i64 a0] rfl (by (try simp only [List.map_toArray, List.map_cons, List.map_nil]); first | done | rfl | (simp only [List.length_drop, List.length_take]; rfl)) ?_; (with_reducible refine (toponymref05_ligature.calls a0 t298 _ A59.out).mono ?_); rintro e w60 ⟨v299, rfl, ho0, hb⟩; refine ⟨_, rfl, ?_⟩; have n0_ := Aside0.mk (Kd.R_lower ho0 (below_size (by repeat (first | (with_reducible first | exact HB.out | apply below_alloc | apply pw_below_drewN | apply below_drew1) | exact HB.out)))); have n1_ := Aside0.mk (below_step (by repeat (first | (with_reducible first | exact HB.out | apply below_alloc | apply pw_below_drewN | apply below_drew1) | exact HB.out)) hb); clear HB; have HO300 := n0_; have HB := n1_; clear n0_ n1_; (try clear hb); (try clear hb2); (try clear hk); (try clear hi); (try clear ho0)))
                                        go_ret
                                        exact ⟨_, by first | rfl | (simp [errW_none, errW_some] <;> rfl) | (simp [*, errW_none, errW_some] <;> rfl), by (with_reducible repeat (first | apply Kd.R_alloc | apply Kd.R_drewN | apply Kd.R_drew)); exact HO300.out, by repeat (first | (with_reducible first | exact HB.out | apply below_alloc | apply pw_below_drewN | apply below_drew1) | exact HB.out)⟩

end Go.Proofs.Ytkdabdgofnaplaa.P
