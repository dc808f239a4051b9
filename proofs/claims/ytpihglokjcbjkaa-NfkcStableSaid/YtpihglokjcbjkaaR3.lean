-- Printed by wip/mk.py (this session's driver over the kit's print) and from wip/manual.
import Derived.Test.YtpihglokjcbjkaaR0
namespace Go.Proofs.Ytpihglokjcbjkaa.P
open Go.RowKit Go.Proofs.YtpihglokjcbjkaaW.PrintWords Go.Proofs.YtpihglokjcbjkaaW.PrintLast Go.Proofs.YtpihglokjcbjkaaW.PrintMore
attribute [local go_sem] max2_int min2_int max_two min_two max_three min_three max_four min_four   -- for this text's walks alone
set_option linter.unusedVariables false
set_option linter.unusedSimpArgs false

/-! ### decomp_latin: function 68 -/
def decomp_latin.j0 : Nat → Int → Int → Bool → Option (ByteArray)
  | 0, _, _, _ => none
  | k + 1, x0, x3, x10 => if x10 = true then (some (strOfNums (([(wrap32 (x0 - 128)) % 256] : List Int)))) else (if x3 = 180 then (some (⟨#[32, 204, 129]⟩ : ByteArray)) else (if x3 = 181 then (some (⟨#[206, 188]⟩ : ByteArray)) else (if x3 = 184 then (some (⟨#[32, 204, 167]⟩ : ByteArray)) else (if x3 = 185 then (some (⟨#[49]⟩ : ByteArray)) else (if x3 = 186 then (some (⟨#[111]⟩ : ByteArray)) else (if x3 = 188 then (some (⟨#[49, 226, 129, 132, 52]⟩ : ByteArray)) else (if x3 = 189 then (some (⟨#[49, 226, 129, 132, 50]⟩ : ByteArray)) else (if x3 = 190 then (some (⟨#[51, 226, 129, 132, 52]⟩ : ByteArray)) else (if x3 = 306 then (some (⟨#[73, 74]⟩ : ByteArray)) else (if x3 = 307 then (some (⟨#[105, 106]⟩ : ByteArray)) else (if x3 = 319 then (some (⟨#[76, 194, 183]⟩ : ByteArray)) else (if x3 = 320 then (some (⟨#[108, 194, 183]⟩ : ByteArray)) else (if x3 = 329 then (some (⟨#[202, 188, 110]⟩ : ByteArray)) else (if x3 = 383 then (some (⟨#[115]⟩ : ByteArray)) else (some (⟨#[]⟩ : ByteArray))))))))))))))))
def decomp_latin.f (k : Nat) (a0 : Int) : Option (ByteArray) := if a0 = 168 then (some (⟨#[32, 204, 136]⟩ : ByteArray)) else (if a0 = 170 then (some (⟨#[97]⟩ : ByteArray)) else (if a0 = 175 then (some (⟨#[32, 204, 132]⟩ : ByteArray)) else (if a0 = 178 then (decomp_latin.j0 k a0 a0 (a0 == 178)) else (decomp_latin.j0 k a0 a0 (a0 == 179)))))
theorem decomp_latin.mono_l : ∀ k, (∀ y0 y1 y2, LeO (decomp_latin.j0 k y0 y1 y2) (decomp_latin.j0 (k + 1) y0 y1 y2))
  | 0 => fun _ _ _ r h => by simp [decomp_latin.j0] at h
  | k + 1 => by
    have ih0 := decomp_latin.mono_l k
    · intro y0 y1 y2
      unfold decomp_latin.j0
      repeat' first
      | (with_reducible exact ih0 _ _ _)
      | (with_reducible exact LeO.refl _)
      | (with_reducible exact LeO.none _)
      | (with_reducible refine LeO.ite ?_ ?_)
      | (with_reducible refine LeO.bind ?_ (fun _ => ?_))
      | exact ih0 _ _ _
      | exact LeO.none _
      | refine LeO.ite ?_ ?_
      | refine LeO.bind ?_ (fun _ => ?_)
theorem decomp_latin.mono : ∀ a0 k, LeO (decomp_latin.f k a0) (decomp_latin.f (k + 1) a0) := by
  intro a0 k
  have ih0 := decomp_latin.mono_l k
  unfold decomp_latin.f
  repeat' first
      | (with_reducible exact ih0 _ _ _)
      | (with_reducible exact LeO.refl _)
      | (with_reducible exact LeO.none _)
      | (with_reducible refine LeO.ite ?_ ?_)
      | (with_reducible refine LeO.bind ?_ (fun _ => ?_))
      | exact ih0 _ _ _
      | exact LeO.none _
      | refine LeO.ite ?_ ?_
      | refine LeO.bind ?_ (fun _ => ?_)
set_option maxHeartbeats 8000000 in
set_option maxRecDepth 100000 in
theorem decomp_latin.calls (k : Nat) (a0 : Int) (r : ByteArray) (w : World) (h : decomp_latin.f k a0 = some r) :
    Calls Try.prog 68 #[.int .i32 a0] w fun e w' => e = .returned (.string r) ∧ Below w.heap.size w w' := by
  have HB := Aside0.mk (Below.refl w.heap.size w)
  have H : (if a0 = 168 then (some (⟨#[32, 204, 136]⟩ : ByteArray)) else (if a0 = 170 then (some (⟨#[97]⟩ : ByteArray)) else (if a0 = 175 then (some (⟨#[32, 204, 132]⟩ : ByteArray)) else (if a0 = 178 then (decomp_latin.j0 k a0 a0 (a0 == 178)) else (decomp_latin.j0 k a0 a0 (a0 == 179)))))) = some r := h
  clear h
  by_cases c2 : a0 = 168
  · rw [if_pos c2] at H
    have c2b0 : (a0 == 168) = true := beq_iff_eq.mpr c2
    have c2b1 : (a0 != 168) = false := bne_eq_false_iff_eq.mpr c2
    clear c2
    obtain rfl := Option.some.inj H
    go_enter Try.func68, Try.ntmps68
    go_wp2
    go_ret
    exact ⟨by first | rfl | (simp [errW_none, errW_some] <;> rfl) | (simp [*, errW_none, errW_some] <;> rfl), by repeat (first | (with_reducible first | exact HB.out | apply below_alloc | apply pw_below_drewN | apply below_drew1) | exact HB.out)⟩
  · rw [if_neg c2] at H
    have c2b0 : (a0 == 168) = false := beq_eq_false_iff_ne.mpr c2
    have c2b1 : (a0 != 168) = true := bne_iff_ne.mpr c2
    by_cases c3 : a0 = 170
    · rw [if_pos c3] at H
      have c3b0 : (a0 == 170) = true := beq_iff_eq.mpr c3
      have c3b1 : (a0 != 170) = false := bne_eq_false_iff_eq.mpr c3
      clear c3
      obtain rfl := Option.some.inj H
      go_enter Try.func68, Try.ntmps68
      go_wp2
      go_ret
      exact ⟨by first | rfl | (simp [errW_none, errW_some] <;> rfl) | (simp [*, errW_none, errW_some] <;> rfl), by repeat (first | (with_reducible first | exact HB.out | apply below_alloc | apply pw_below_drewN | apply below_drew1) | exact HB.out)⟩
    · rw [if_neg c3] at H
      have c3b0 : (a0 == 170) = false := beq_eq_false_iff_ne.mpr c3
      have c3b1 : (a0 != 170) = true := bne_iff_ne.mpr c3
      by_cases c4 : a0 = 175
      · rw [if_pos c4] at H
        have c4b0 : (a0 == 175) = true := beq_iff_eq.mpr c4
        have c4b1 : (a0 != 175) = false := bne_eq_false_iff_eq.mpr c4
        clear c4
        obtain rfl := Option.some.inj H
        go_enter Try.func68, Try.ntmps68
        go_wp2
        go_ret
        exact ⟨by first | rfl | (simp [errW_none, errW_some] <;> rfl) | (simp [*, errW_none, errW_some] <;> rfl), by repeat (first | (with_reducible first | exact HB.out | apply below_alloc | apply pw_below_drewN | apply below_drew1) | exact HB.out)⟩
      · rw [if_neg c4] at H
        have c4b0 : (a0 == 175) = false := beq_eq_false_iff_ne.mpr c4
        have c4b1 : (a0 != 175) = true := bne_iff_ne.mpr c4
        have HC5 := Aside0.mk H
        clear H
        go_enter Try.func68, Try.ntmps68
        go_upto_if 10 with (fail)
        go_cut [10] (fun v10 wc => ∃ (kq : Nat) (x10_4 : Bool), v10 = .bool x10_4 ∧ Aside0 (decomp_latin.j0 kq a0 a0 x10_4 = some r) ∧ Aside0 (kq ≤ k) ∧ Aside0 (Below w.heap.size w wc))
        case first =>
          have H := HC5.out
          clear HC5
          by_cases c6 : a0 = 178
          · rw [if_pos c6] at H
            have c6b0 : (a0 == 178) = true := beq_iff_eq.mpr c6
            have c6b1 : (a0 != 178) = false := bne_eq_false_iff_eq.mpr c6
            clear c6
            (first | rw [c6b0] | (simp only [i64_w, i32_w]; rw [c6b0]) | skip)
            have H' := Aside0.mk H
            clear H
            go_wp2
            go_meet
            case rel => exact ⟨_, ((a0 == 178)), (by first | rfl | (simp; done) | (simp [*]; done)), H', ⟨by first | omega | exact Nat.le_refl _⟩, ⟨by repeat (first | (with_reducible first | exact HB.out | apply below_alloc | apply pw_below_drewN | apply below_drew1) | exact HB.out)⟩⟩
          · rw [if_neg c6] at H
            have c6b0 : (a0 == 178) = false := beq_eq_false_iff_ne.mpr c6
            have c6b1 : (a0 != 178) = true := bne_iff_ne.mpr c6
            (first | rw [c6b0] | (simp only [i64_w, i32_w]; rw [c6b0]) | skip)
            have H' := Aside0.mk H
            clear H
            go_wp2
            go_meet
            case rel => exact ⟨_, ((a0 == 179)), (by first | rfl | (simp; done) | (simp [*]; done)), H', ⟨by first | omega | exact Nat.le_refl _⟩, ⟨by repeat (first | (with_reducible first | exact HB.out | apply below_alloc | apply pw_below_drewN | apply below_drew1) | exact HB.out)⟩⟩
        case rest =>
          clear HC5
          try clear c2
          try clear c2b0
          try clear c2b1
          try clear p2
          try clear c3
          try clear c3b0
          try clear c3b1
          try clear c4
          try clear c4b0
          try clear c4b1
          try clear c6
          try clear c6b0
          try clear c6b1
          obtain ⟨kq, x10_4, rfl, HA, HJ4, HB⟩ := hcut
          cases kq with
          | zero => exact absurd HA.out (by simp [decomp_latin.j0])
          | succ kj4 =>
            have H := HA.out
            clear HA
            simp only [decomp_latin.j0] at H
            by_cases c7 : x10_4 = true
            · subst c7
              have H1 : (some (strOfNums (([(wrap32 (a0 - 128)) % 256] : List Int)))) = some r := by rw [if_pos rfl] at H; exact H
              clear H
              have H := H1
              clear H1
              obtain ⟨y114, hy114⟩ : ∃ y_ : List Int, y_ = (([(wrap32 (a0 - 128)) % 256] : List Int)) := ⟨_, rfl⟩
              replace H : (some (strOfNums y114)) = some r := by first | (rw [hy114]; with_reducible exact H) | (have H2_ := (Option.bind_some _ _).symm.trans H; rw [hy114]; with_reducible exact H2_) | (have H2_ := (Option.bind_some _ _).symm.trans H; with_reducible exact H2_) | with_reducible exact H | (rw [hy114]; exact H) | exact H
              have Ny114 := Aside0.mk hy114
              clear hy114
              obtain rfl := Option.some.inj H
              go_wp2_with (first | ((with_reducible refine gate_dst (N := 16) rfl ?_); refine Kd.R_lit (Kd.int .u8) _ 5 ?hg (N := 16) ?hd (xs := ([(wrap32 (a0 - 128)) % 256] : List Int)) (inner := [.int .u8 ((wrap32 (a0 - 128)) % 256)]) (ok := fun _ => True) (okp := fun _ => True) ?hr ?hp (fun _ hk => hk) trivial (Below.refl _ _) (Nat.le_refl _) (by simp) ?_; (case hd => rfl); (case hg => rfl); (case hr => first | (go_simp; done) | (go_simp; rfl)); (case hp => exact (Reps.one (show Kd.M (Kd.int .u8) _ _ _ ((wrap32 (a0 - 128)) % 256) [.int .u8 ((wrap32 (a0 - 128)) % 256)] from rfl) (Reps.none _ _))); intro v115 w8 ho9 hb hg_ hnew_; clear hg_ hnew_; (first | rw [← Ny114.out] at ho9 | (simp only [Int.reduceToNat] at ho9; rw [← Ny114.out] at ho9)); have n0_ := Aside0.mk (Kd.R_lower ho9 (below_size (by repeat (first | (with_reducible first | exact HB.out | apply below_alloc | apply pw_below_drewN | apply below_drew1) | exact HB.out)))); have n1_ := Aside0.mk (below_step (by repeat (first | (with_reducible first | exact HB.out | apply below_alloc | apply pw_below_drewN | apply below_drew1) | exact HB.out)) hb); clear HB; have HO116 := n0_; have HB := n1_; clear n0_ n1_; clear hb ho9; have hcv10 := own_string (P := Try.prog) Try.underlying63 Try.underlying5 Try.underlying9 (Kd.own_of_R HO116.out)))
              go_ret
              exact ⟨by first | rfl | (simp [errW_none, errW_some] <;> rfl) | (simp [*, errW_none, errW_some] <;> rfl), by repeat (first | (with_reducible first | exact HB.out | apply below_alloc | apply pw_below_drewN | apply below_drew1) | exact HB.out)⟩
            · replace c7 := Bool.eq_false_iff.mpr c7
              subst c7
              have H1 : (if a0 = 180 then (some (⟨#[32, 204, 129]⟩ : ByteArray)) else (if a0 = 181 then (some (⟨#[206, 188]⟩ : ByteArray)) else (if a0 = 184 then (some (⟨#[32, 204, 167]⟩ : ByteArray)) else (if a0 = 185 then (some (⟨#[49]⟩ : ByteArray)) else (if a0 = 186 then (some (⟨#[111]⟩ : ByteArray)) else (if a0 = 188 then (some (⟨#[49, 226, 129, 132, 52]⟩ : ByteArray)) else (if a0 = 189 then (some (⟨#[49, 226, 129, 132, 50]⟩ : ByteArray)) else (if a0 = 190 then (some (⟨#[51, 226, 129, 132, 52]⟩ : ByteArray)) else (if a0 = 306 then (some (⟨#[73, 74]⟩ : ByteArray)) else (if a0 = 307 then (some (⟨#[105, 106]⟩ : ByteArray)) else (if a0 = 319 then (some (⟨#[76, 194, 183]⟩ : ByteArray)) else (if a0 = 320 then (some (⟨#[108, 194, 183]⟩ : ByteArray)) else (if a0 = 329 then (some (⟨#[202, 188, 110]⟩ : ByteArray)) else (if a0 = 383 then (some (⟨#[115]⟩ : ByteArray)) else (some (⟨#[]⟩ : ByteArray)))))))))))))))) = some r := by rw [if_neg (show ¬ (false = true) by decide)] at H; exact H
              clear H
              have H := H1
              clear H1
              by_cases c11 : a0 = 180
              · rw [if_pos c11] at H
                have c11b0 : (a0 == 180) = true := beq_iff_eq.mpr c11
                have c11b1 : (a0 != 180) = false := bne_eq_false_iff_eq.mpr c11
                clear c11
                obtain rfl := Option.some.inj H
                go_wp2
                go_ret
                exact ⟨by first | rfl | (simp [errW_none, errW_some] <;> rfl) | (simp [*, errW_none, errW_some] <;> rfl), by repeat (first | (with_reducible first | exact HB.out | apply below_alloc | apply pw_below_drewN | apply below_drew1) | exact HB.out)⟩
              · rw [if_neg c11] at H
                have c11b0 : (a0 == 180) = false := beq_eq_false_iff_ne.mpr c11
                have c11b1 : (a0 != 180) = true := bne_iff_ne.mpr c11
                by_cases c12 : a0 = 181
                · rw [if_pos c12] at H
                  have c12b0 : (a0 == 181) = true := beq_iff_eq.mpr c12
                  have c12b1 : (a0 != 181) = false := bne_eq_false_iff_eq.mpr c12
                  clear c12
                  obtain rfl := Option.some.inj H
                  go_wp2
                  go_ret
                  exact ⟨by first | rfl | (simp [errW_none, errW_some] <;> rfl) | (simp [*, errW_none, errW_some] <;> rfl), by repeat (first | (with_reducible first | exact HB.out | apply below_alloc | apply pw_below_drewN | apply below_drew1) | exact HB.out)⟩
                · rw [if_neg c12] at H
                  have c12b0 : (a0 == 181) = false := beq_eq_false_iff_ne.mpr c12
                  have c12b1 : (a0 != 181) = true := bne_iff_ne.mpr c12
                  by_cases c13 : a0 = 184
                  · rw [if_pos c13] at H
                    have c13b0 : (a0 == 184) = true := beq_iff_eq.mpr c13
                    have c13b1 : (a0 != 184) = false := bne_eq_false_iff_eq.mpr c13
                    clear c13
                    obtain rfl := Option.some.inj H
                    go_wp2
                    go_ret
                    exact ⟨by first | rfl | (simp [errW_none, errW_some] <;> rfl) | (simp [*, errW_none, errW_some] <;> rfl), by repeat (first | (with_reducible first | exact HB.out | apply below_alloc | apply pw_below_drewN | apply below_drew1) | exact HB.out)⟩
                  · rw [if_neg c13] at H
                    have c13b0 : (a0 == 184) = false := beq_eq_false_iff_ne.mpr c13
                    have c13b1 : (a0 != 184) = true := bne_iff_ne.mpr c13
                    by_cases c14 : a0 = 185
                    · rw [if_pos c14] at H
                      have c14b0 : (a0 == 185) = true := beq_iff_eq.mpr c14
                      have c14b1 : (a0 != 185) = false := bne_eq_false_iff_eq.mpr c14
                      clear c14
                      obtain rfl := Option.some.inj H
                      go_wp2
                      go_ret
                      exact ⟨by first | rfl | (simp [errW_none, errW_some] <;> rfl) | (simp [*, errW_none, errW_some] <;> rfl), by repeat (first | (with_reducible first | exact HB.out | apply below_alloc | apply pw_below_drewN | apply below_drew1) | exact HB.out)⟩
                    · rw [if_neg c14] at H
                      have c14b0 : (a0 == 185) = false := beq_eq_false_iff_ne.mpr c14
                      have c14b1 : (a0 != 185) = true := bne_iff_ne.mpr c14
                      by_cases c15 : a0 = 186
                      · rw [if_pos c15] at H
                        have c15b0 : (a0 == 186) = true := beq_iff_eq.mpr c15
                        have c15b1 : (a0 != 186) = false := bne_eq_false_iff_eq.mpr c15
                        clear c15
                        obtain rfl := Option.some.inj H
                        go_wp2
                        go_ret
                        exact ⟨by first | rfl | (simp [errW_none, errW_some] <;> rfl) | (simp [*, errW_none, errW_some] <;> rfl), by repeat (first | (with_reducible first | exact HB.out | apply below_alloc | apply pw_below_drewN | apply below_drew1) | exact HB.out)⟩
                      · rw [if_neg c15] at H
                        have c15b0 : (a0 == 186) = false := beq_eq_false_iff_ne.mpr c15
                        have c15b1 : (a0 != 186) = true := bne_iff_ne.mpr c15
                        by_cases c16 : a0 = 188
                        · rw [if_pos c16] at H
                          have c16b0 : (a0 == 188) = true := beq_iff_eq.mpr c16
                          have c16b1 : (a0 != 188) = false := bne_eq_false_iff_eq.mpr c16
                          clear c16
                          obtain rfl := Option.some.inj H
                          go_wp2
                          go_ret
                          exact ⟨by first | rfl | (simp [errW_none, errW_some] <;> rfl) | (simp [*, errW_none, errW_some] <;> rfl), by repeat (first | (with_reducible first | exact HB.out | apply below_alloc | apply pw_below_drewN | apply below_drew1) | exact HB.out)⟩
                        · rw [if_neg c16] at H
                          have c16b0 : (a0 == 188) = false := beq_eq_false_iff_ne.mpr c16
                          have c16b1 : (a0 != 188) = true := bne_iff_ne.mpr c16
                          by_cases c17 : a0 = 189
                          · rw [if_pos c17] at H
                            have c17b0 : (a0 == 189) = true := beq_iff_eq.mpr c17
                            have c17b1 : (a0 != 189) = false := bne_eq_false_iff_eq.mpr c17
                            clear c17
                            obtain rfl := Option.some.inj H
                            go_wp2
                            go_ret
                            exact ⟨by first | rfl | (simp [errW_none, errW_some] <;> rfl) | (simp [*, errW_none, errW_some] <;> rfl), by repeat (first | (with_reducible first | exact HB.out | apply below_alloc | apply pw_below_drewN | apply below_drew1) | exact HB.out)⟩
                          · rw [if_neg c17] at H
                            have c17b0 : (a0 == 189) = false := beq_eq_false_iff_ne.mpr c17
                            have c17b1 : (a0 != 189) = true := bne_iff_ne.mpr c17
                            by_cases c18 : a0 = 190
                            · rw [if_pos c18] at H
                              have c18b0 : (a0 == 190) = true := beq_iff_eq.mpr c18
                              have c18b1 : (a0 != 190) = false := bne_eq_false_iff_eq.mpr c18
                              clear c18
                              obtain rfl := Option.some.inj H
                              go_wp2
                              go_ret
                              exact ⟨by first | rfl | (simp [errW_none, errW_some] <;> rfl) | (simp [*, errW_none, errW_some] <;> rfl), by repeat (first | (with_reducible first | exact HB.out | apply below_alloc | apply pw_below_drewN | apply below_drew1) | exact HB.out)⟩
                            · rw [if_neg c18] at H
                              have c18b0 : (a0 == 190) = false := beq_eq_false_iff_ne.mpr c18
                              have c18b1 : (a0 != 190) = true := bne_iff_ne.mpr c18
                              by_cases c19 : a0 = 306
                              · rw [if_pos c19] at H
                                have c19b0 : (a0 == 306) = true := beq_iff_eq.mpr c19
                                have c19b1 : (a0 != 306) = false := bne_eq_false_iff_eq.mpr c19
                                clear c19
                                obtain rfl := Option.some.inj H
                                go_wp2
                                go_ret
                                exact ⟨by first | rfl | (simp [errW_none, errW_some] <;> rfl) | (simp [*, errW_none, errW_some] <;> rfl), by repeat (first | (with_reducible first | exact HB.out | apply below_alloc | apply pw_below_drewN | apply below_drew1) | exact HB.out)⟩
                              · rw [if_neg c19] at H
                                have c19b0 : (a0 == 306) = false := beq_eq_false_iff_ne.mpr c19
                                have c19b1 : (a0 != 306) = true := bne_iff_ne.mpr c19
                                by_cases c20 : a0 = 307
                                · rw [if_pos c20] at H
                                  have c20b0 : (a0 == 307) = true := beq_iff_eq.mpr c20
                                  have c20b1 : (a0 != 307) = false := bne_eq_false_iff_eq.mpr c20
                                  clear c20
                                  obtain rfl := Option.some.inj H
                                  go_wp2
                                  go_ret
                                  exact ⟨by first | rfl | (simp [errW_none, errW_some] <;> rfl) | (simp [*, errW_none, errW_some] <;> rfl), by repeat (first | (with_reducible first | exact HB.out | apply below_alloc | apply pw_below_drewN | apply below_drew1) | exact HB.out)⟩
                                · rw [if_neg c20] at H
                                  have c20b0 : (a0 == 307) = false := beq_eq_false_iff_ne.mpr c20
                                  have c20b1 : (a0 != 307) = true := bne_iff_ne.mpr c20
                                  by_cases c21 : a0 = 319
                                  · rw [if_pos c21] at H
                                    have c21b0 : (a0 == 319) = true := beq_iff_eq.mpr c21
                                    have c21b1 : (a0 != 319) = false := bne_eq_false_iff_eq.mpr c21
                                    clear c21
                                    obtain rfl := Option.some.inj H
                                    go_wp2
                                    go_ret
                                    exact ⟨by first | rfl | (simp [errW_none, errW_some] <;> rfl) | (simp [*, errW_none, errW_some] <;> rfl), by repeat (first | (with_reducible first | exact HB.out | apply below_alloc | apply pw_below_drewN | apply below_drew1) | exact HB.out)⟩
                                  · rw [if_neg c21] at H
                                    have c21b0 : (a0 == 319) = false := beq_eq_false_iff_ne.mpr c21
                                    have c21b1 : (a0 != 319) = true := bne_iff_ne.mpr c21
                                    by_cases c22 : a0 = 320
                                    · rw [if_pos c22] at H
                                      have c22b0 : (a0 == 320) = true := beq_iff_eq.mpr c22
                                      have c22b1 : (a0 != 320) = false := bne_eq_false_iff_eq.mpr c22
                                      clear c22
                                      obtain rfl := Option.some.inj H
                                      go_wp2
                                      go_ret
                                      exact ⟨by first | rfl | (simp [errW_none, errW_some] <;> rfl) | (simp [*, errW_none, errW_some] <;> rfl), by repeat (first | (with_reducible first | exact HB.out | apply below_alloc | apply pw_below_drewN | apply below_drew1) | exact HB.out)⟩
                                    · rw [if_neg c22] at H
                                      have c22b0 : (a0 == 320) = false := beq_eq_false_iff_ne.mpr c22
                                      have c22b1 : (a0 != 320) = true := bne_iff_ne.mpr c22
                                      by_cases c23 : a0 = 329
                                      · rw [if_pos c23] at H
                                        have c23b0 : (a0 == 329) = true := beq_iff_eq.mpr c23
                                        have c23b1 : (a0 != 329) = false := bne_eq_false_iff_eq.mpr c23
                                        clear c23
                                        obtain rfl := Option.some.inj H
                                        go_wp2
                                        go_ret
                                        exact ⟨by first | rfl | (simp [errW_none, errW_some] <;> rfl) | (simp [*, errW_none, errW_some] <;> rfl), by repeat (first | (with_reducible first | exact HB.out | apply below_alloc | apply pw_below_drewN | apply below_drew1) | exact HB.out)⟩
                                      · rw [if_neg c23] at H
                                        have c23b0 : (a0 == 329) = false := beq_eq_false_iff_ne.mpr c23
                                        have c23b1 : (a0 != 329) = true := bne_iff_ne.mpr c23
                                        by_cases c24 : a0 = 383
                                        · rw [if_pos c24] at H
                                          have c24b0 : (a0 == 383) = true := beq_iff_eq.mpr c24
                                          have c24b1 : (a0 != 383) = false := bne_eq_false_iff_eq.mpr c24
                                          clear c24
                                          obtain rfl := Option.some.inj H
                                          go_wp2
                                          go_ret
                                          exact ⟨by first | rfl | (simp [errW_none, errW_some] <;> rfl) | (simp [*, errW_none, errW_some] <;> rfl), by repeat (first | (with_reducible first | exact HB.out | apply below_alloc | apply pw_below_drewN | apply below_drew1) | exact HB.out)⟩
                                        · rw [if_neg c24] at H
                                          have c24b0 : (a0 == 383) = false := beq_eq_false_iff_ne.mpr c24
                                          have c24b1 : (a0 != 383) = true := bne_iff_ne.mpr c24
                                          obtain rfl := Option.some.inj H
                                          go_wp2
                                          go_ret
                                          exact ⟨by first | rfl | (simp [errW_none, errW_some] <;> rfl) | (simp [*, errW_none, errW_some] <;> rfl), by repeat (first | (with_reducible first | exact HB.out | apply below_alloc | apply pw_below_drewN | apply below_drew1) | exact HB.out)⟩

/-! ### decomp_list: function 69, by hand (decomp.list.tpl) -/
theorem info21l : (Try.prog.info? 21).map (fun i => (i.zero, i.size, i.bytes)) = some (some (.int .i32 0), 1, 4) := by kernel_rfl
def decomp_list.l0 : Nat → ByteArray → List Int → Nat → Option (List Int)
  | 0, _, _, _ => none
  | k + 1, x0, x3, pos => if pos < x0.size then (if x3.length < 35184372088832 then decomp_list.l0 k x0 (x3 ++ [((Utf8.decode x0 pos).1 : Int)]) (pos + (Utf8.decode x0 pos).2) else none) else some x3
def decomp_list.f (k : Nat) (a0 : ByteArray) : Option (List Int) := decomp_list.l0 k a0 [] 0
theorem decomp_list.mono_l : ∀ k, (∀ y0 y1 y2, LeO (decomp_list.l0 k y0 y1 y2) (decomp_list.l0 (k + 1) y0 y1 y2))
  | 0 => fun _ _ _ r h => by simp [decomp_list.l0] at h
  | k + 1 => by
    have ih0 := decomp_list.mono_l k
    intro y0 y1 y2
    unfold decomp_list.l0
    repeat' first
      | exact ih0 _ _ _
      | exact LeO.refl _
      | refine LeO.ite ?_ ?_
theorem decomp_list.mono : ∀ a0 k, LeO (decomp_list.f k a0) (decomp_list.f (k + 1) a0) := fun a0 k => decomp_list.mono_l k _ _ _
set_option maxHeartbeats 8000000 in
set_option maxRecDepth 100000 in
theorem decomp_list.calls (k : Nat) (a0 : ByteArray) (r : List Int) (w : World) (h : decomp_list.f k a0 = some r) :
    Calls Try.prog 69 #[.string a0] w fun e w' => ∃ v0_ : Value, e = .returned (v0_) ∧ Kd.R (Kd.int .i32) 21 w' w.heap.size (fun _ => True) (v0_) (r) ∧ Below w.heap.size w w' := by
  have H' := Aside0.mk h
  clear h
  go_enter Try.func69, Try.ntmps69
  go_wp2
  go_loopg [3] k (fun kq v3 W => ∃ (x3 : List Int) (pos : Nat), Aside0 (decomp_list.l0 kq a0 x3 pos = some r) ∧ Aside0 (kq ≤ k) ∧ Aside0 (W.heap[w.heap.size]? = some (.stringIter a0 pos)) ∧ Aside0 (Kd.R (Kd.int .i32) 21 W w.heap.size (fun k_ => k_ ≠ w.heap.size) v3 x3) ∧ Aside0 (Below w.heap.size w W))
  case atStart => exact ⟨[], 0, H', ⟨Nat.le_refl _⟩, ⟨World.iter_heap _ _ _⟩, ⟨Kd.R_nil _ _ _ _ _⟩, ⟨below_alloc (Below.refl _ _) _⟩⟩
  case round =>
    clear H'
    obtain ⟨x3, pos, HA, HK, HI, HO, HB⟩ := hrel
    cases gk with
    | zero => exact absurd HA.out (by simp [decomp_list.l0])
    | succ k1 =>
      have H := HA.out
      clear HA
      simp only [decomp_list.l0] at H
      by_cases d1 : pos < a0.size
      · rw [if_pos d1] at H
        by_cases d2 : x3.length < 35184372088832
        · rw [if_pos d2] at H
          have H' := Aside0.mk H
          have LM := Aside0.mk d2
          clear H d2
          have hnx := fun ty => Lib.run_next_any_at (P := Try.prog) wr w.heap.size a0 pos ty HI.out d1
          clear d1
          obtain ⟨W2, hW2⟩ : ∃ W2, wr.iterAt w.heap.size a0 (pos + (Utf8.decode a0 pos).2) = W2 := ⟨_, rfl⟩
          rw [hW2] at hnx
          have HI2 := Aside0.mk (show W2.heap[w.heap.size]? = some (.stringIter a0 (pos + (Utf8.decode a0 pos).2)) from by rw [← hW2]; exact Lib.iterAt_heap _ _ _ _ _ HI.out)
          have HO2 := Aside0.mk (show Kd.R (Kd.int .i32) 21 W2 w.heap.size (fun k_ => k_ ≠ w.heap.size) _ x3 from by rw [← hW2]; exact Kd.R_step HO.out (fun k hk _ => Lib.iterAt_other _ _ _ _ _ hk))
          have HB2 := Aside0.mk (show Below w.heap.size w W2 from by rw [← hW2]; exact Lib.below_iterAt HB.out (Nat.le_refl _) _ _)
          have HZ := Aside0.mk (show w.heap.size < W2.heap.size from (Array.getElem?_eq_some_iff.1 HI2.out).1)
          clear hW2 HI HO HB
          obtain ⟨Ao, co, eo⟩ := Kd.R_slice HO2.out
          subst eo
          go_wp2_with ((with_reducible refine gate_builtin (b := .append) (xs := #[.tmp 11, .tmp 13]) rfl ?_); at_builtin; refine Kd.R_append (Kd.int .i32) (w0 := w) w.heap.size rfl (.tmp 11) (.tmp 13) 22 21 (.int .i32 0) 4 rfl Try.underlying22 info21l rfl (by decide) (by omega) (.slice Ao x3.length co) x3 (((Utf8.decode a0 pos).1 : Nat) : Int) [.int .i32 (((Utf8.decode a0 pos).1 : Nat) : Int)] (fun k_ => k_ ≠ w.heap.size) (fun _ => False) rfl rfl ?aP (fun _ hk => hk.elim) ?aF ?aO ?aB ?aS ?aL ?_; (case aP => exact rfl); (case aB => exact HB2.out); (case aF => exact (fun k_ hk => by have := HZ.out; omega)); (case aO => exact HO2.out); (case aS => exact HB2.out.size); (case aL => have := LM.out; omega); intro v14 w14 ho hb hg hat; have HI3 := Aside0.mk (show w14.heap[w.heap.size]? = some (.stringIter a0 (pos + (Utf8.decode a0 pos).2)) from by rw [hg.block _ HZ.out (fun e => HO2.out.1 _ e.symm rfl)]; exact HI2.out); have HO3 := Aside0.mk ho; have HB3 := Aside0.mk hb; clear HO2 HB2 HI2 HZ ho hb hg hat)
          go_roundg k1
          case measure => have := HK.out; omega
          case rel => exact ⟨_, _, H', ⟨by have := HK.out; omega⟩, HI3, HO3, HB3⟩
        · rw [if_neg d2] at H
          cases H
      · rw [if_neg d1] at H
        obtain rfl := Option.some.inj H
        clear H
        have hnx := fun ty => Lib.run_next_end_at (P := Try.prog) wr w.heap.size a0 pos ty HI.out d1
        clear d1
        go_wp2
        go_ret
        exact ⟨_, rfl, Kd.R_mono HO.out (fun _ _ => trivial), HB.out⟩

/-! ### decomp_within: function 70 -/
def decomp_within.f (a0 : Int) (a1 : Int) (a2 : Int) : Option (Bool) := if a0 ≥ a1 then (some (decide (a0 ≤ a2))) else (some false)
set_option maxHeartbeats 8000000 in
set_option maxRecDepth 100000 in
theorem decomp_within.calls (a0 : Int) (a1 : Int) (a2 : Int) (r : Bool) (w : World) (h : decomp_within.f a0 a1 a2 = some r) :
    Calls Try.prog 70 #[.int .i32 a0, .int .i32 a1, .int .i32 a2] w fun e w' => e = .returned (.bool r) ∧ Drawn0 w w' := by
  have H : (if a0 ≥ a1 then (some (decide (a0 ≤ a2))) else (some false)) = some r := h
  clear h
  by_cases c4 : a0 ≥ a1
  · rw [if_pos c4] at H
    have c4b0 : decide (a1 ≤ a0) = true := decide_eq_true c4
    clear c4
    obtain rfl := Option.some.inj H
    go_enter Try.func70, Try.ntmps70
    go_wp2
    go_ret
    exact ⟨by first | rfl | (simp; done) | (simp [*]; done), by repeat (first | exact Drawn0.refl _ | apply Drawn0.step)⟩
  · rw [if_neg c4] at H
    have c4b0 : decide (a1 ≤ a0) = false := decide_eq_false c4
    clear c4
    obtain rfl := Option.some.inj H
    go_enter Try.func70, Try.ntmps70
    go_wp2
    go_ret
    exact ⟨by first | rfl | (simp; done) | (simp [*]; done), by repeat (first | exact Drawn0.refl _ | apply Drawn0.step)⟩

/-! ### decomp_numbers: function 71 -/
def decomp_numbers.f (a0 : Bool) : Option (List ByteArray) := if a0 = true then (some (([(⟨#[105]⟩ : ByteArray), (⟨#[105, 105]⟩ : ByteArray), (⟨#[105, 105, 105]⟩ : ByteArray), (⟨#[105, 118]⟩ : ByteArray), (⟨#[118]⟩ : ByteArray), (⟨#[118, 105]⟩ : ByteArray), (⟨#[118, 105, 105]⟩ : ByteArray), (⟨#[118, 105, 105, 105]⟩ : ByteArray), (⟨#[105, 120]⟩ : ByteArray), (⟨#[120]⟩ : ByteArray), (⟨#[120, 105]⟩ : ByteArray), (⟨#[120, 105, 105]⟩ : ByteArray)] : List ByteArray))) else (some (([(⟨#[73]⟩ : ByteArray), (⟨#[73, 73]⟩ : ByteArray), (⟨#[73, 73, 73]⟩ : ByteArray), (⟨#[73, 86]⟩ : ByteArray), (⟨#[86]⟩ : ByteArray), (⟨#[86, 73]⟩ : ByteArray), (⟨#[86, 73, 73]⟩ : ByteArray), (⟨#[86, 73, 73, 73]⟩ : ByteArray), (⟨#[73, 88]⟩ : ByteArray), (⟨#[88]⟩ : ByteArray), (⟨#[88, 73]⟩ : ByteArray), (⟨#[88, 73, 73]⟩ : ByteArray)] : List ByteArray)))
set_option maxHeartbeats 8000000 in
set_option maxRecDepth 100000 in
theorem decomp_numbers.calls (a0 : Bool) (r : List ByteArray) (w : World) (h : decomp_numbers.f a0 = some r) :
    Calls Try.prog 71 #[.bool a0] w fun e w' => ∃ v0_ : Value, e = .returned (v0_) ∧ Kd.R Kd.string 9 w' w.heap.size (fun _ => True) v0_ r ∧ Below w.heap.size w w' := by
  have HB := Aside0.mk (Below.refl w.heap.size w)
  have H : (if a0 = true then (some (([(⟨#[105]⟩ : ByteArray), (⟨#[105, 105]⟩ : ByteArray), (⟨#[105, 105, 105]⟩ : ByteArray), (⟨#[105, 118]⟩ : ByteArray), (⟨#[118]⟩ : ByteArray), (⟨#[118, 105]⟩ : ByteArray), (⟨#[118, 105, 105]⟩ : ByteArray), (⟨#[118, 105, 105, 105]⟩ : ByteArray), (⟨#[105, 120]⟩ : ByteArray), (⟨#[120]⟩ : ByteArray), (⟨#[120, 105]⟩ : ByteArray), (⟨#[120, 105, 105]⟩ : ByteArray)] : List ByteArray))) else (some (([(⟨#[73]⟩ : ByteArray), (⟨#[73, 73]⟩ : ByteArray), (⟨#[73, 73, 73]⟩ : ByteArray), (⟨#[73, 86]⟩ : ByteArray), (⟨#[86]⟩ : ByteArray), (⟨#[86, 73]⟩ : ByteArray), (⟨#[86, 73, 73]⟩ : ByteArray), (⟨#[86, 73, 73, 73]⟩ : ByteArray), (⟨#[73, 88]⟩ : ByteArray), (⟨#[88]⟩ : ByteArray), (⟨#[88, 73]⟩ : ByteArray), (⟨#[88, 73, 73]⟩ : ByteArray)] : List ByteArray)))) = some r := h
  clear h
  by_cases c2 : a0 = true
  · subst c2
    have H1 : (some (([(⟨#[105]⟩ : ByteArray), (⟨#[105, 105]⟩ : ByteArray), (⟨#[105, 105, 105]⟩ : ByteArray), (⟨#[105, 118]⟩ : ByteArray), (⟨#[118]⟩ : ByteArray), (⟨#[118, 105]⟩ : ByteArray), (⟨#[118, 105, 105]⟩ : ByteArray), (⟨#[118, 105, 105, 105]⟩ : ByteArray), (⟨#[105, 120]⟩ : ByteArray), (⟨#[120]⟩ : ByteArray), (⟨#[120, 105]⟩ : ByteArray), (⟨#[120, 105, 105]⟩ : ByteArray)] : List ByteArray))) = some r := by rw [if_pos rfl] at H; exact H
    clear H
    have H := H1
    clear H1
    obtain ⟨y117, hy117⟩ : ∃ y_ : List ByteArray, y_ = (([(⟨#[105]⟩ : ByteArray), (⟨#[105, 105]⟩ : ByteArray), (⟨#[105, 105, 105]⟩ : ByteArray), (⟨#[105, 118]⟩ : ByteArray), (⟨#[118]⟩ : ByteArray), (⟨#[118, 105]⟩ : ByteArray), (⟨#[118, 105, 105]⟩ : ByteArray), (⟨#[118, 105, 105, 105]⟩ : ByteArray), (⟨#[105, 120]⟩ : ByteArray), (⟨#[120]⟩ : ByteArray), (⟨#[120, 105]⟩ : ByteArray), (⟨#[120, 105, 105]⟩ : ByteArray)] : List ByteArray)) := ⟨_, rfl⟩
    replace H : (some y117) = some r := by first | (rw [hy117]; with_reducible exact H) | (have H2_ := (Option.bind_some _ _).symm.trans H; rw [hy117]; with_reducible exact H2_) | (have H2_ := (Option.bind_some _ _).symm.trans H; with_reducible exact H2_) | with_reducible exact H | (rw [hy117]; exact H) | exact H
    have Ny117 := Aside0.mk hy117
    clear hy117
    obtain rfl := Option.some.inj H
    go_enter Try.func71, Try.ntmps71
    go_wp2_with (first | ((with_reducible refine gate_dst (N := 4) rfl ?_); refine Kd.R_lit Kd.string _ 9 ?hg (N := 4) ?hd (xs := ([(⟨#[105]⟩ : ByteArray), (⟨#[105, 105]⟩ : ByteArray), (⟨#[105, 105, 105]⟩ : ByteArray), (⟨#[105, 118]⟩ : ByteArray), (⟨#[118]⟩ : ByteArray), (⟨#[118, 105]⟩ : ByteArray), (⟨#[118, 105, 105]⟩ : ByteArray), (⟨#[118, 105, 105, 105]⟩ : ByteArray), (⟨#[105, 120]⟩ : ByteArray), (⟨#[120]⟩ : ByteArray), (⟨#[120, 105]⟩ : ByteArray), (⟨#[120, 105, 105]⟩ : ByteArray)] : List ByteArray)) (inner := [.string (⟨#[105]⟩ : ByteArray), .string (⟨#[105, 105]⟩ : ByteArray), .string (⟨#[105, 105, 105]⟩ : ByteArray), .string (⟨#[105, 118]⟩ : ByteArray), .string (⟨#[118]⟩ : ByteArray), .string (⟨#[118, 105]⟩ : ByteArray), .string (⟨#[118, 105, 105]⟩ : ByteArray), .string (⟨#[118, 105, 105, 105]⟩ : ByteArray), .string (⟨#[105, 120]⟩ : ByteArray), .string (⟨#[120]⟩ : ByteArray), .string (⟨#[120, 105]⟩ : ByteArray), .string (⟨#[120, 105, 105]⟩ : ByteArray)]) (ok := fun _ => True) (okp := fun _ => True) ?hr ?hp (fun _ hk => hk) trivial (Below.refl _ _) (Nat.le_refl _) (by simp) ?_; (case hd => rfl); (case hg => rfl); (case hr => first | (go_simp; done) | (go_simp; rfl)); (case hp => exact (Reps.one (show Kd.M Kd.string _ _ _ (⟨#[105]⟩ : ByteArray) [.string (⟨#[105]⟩ : ByteArray)] from rfl) (Reps.one (show Kd.M Kd.string _ _ _ (⟨#[105, 105]⟩ : ByteArray) [.string (⟨#[105, 105]⟩ : ByteArray)] from rfl) (Reps.one (show Kd.M Kd.string _ _ _ (⟨#[105, 105, 105]⟩ : ByteArray) [.string (⟨#[105, 105, 105]⟩ : ByteArray)] from rfl) (Reps.one (show Kd.M Kd.string _ _ _ (⟨#[105, 118]⟩ : ByteArray) [.string (⟨#[105, 118]⟩ : ByteArray)] from rfl) (Reps.one (show Kd.M Kd.string _ _ _ (⟨#[118]⟩ : ByteArray) [.string (⟨#[118]⟩ : ByteArray)] from rfl) (Reps.one (show Kd.M Kd.string _ _ _ (⟨#[118, 105]⟩ : ByteArray) [.string (⟨#[118, 105]⟩ : ByteArray)] from rfl) (Reps.one (show Kd.M Kd.string _ _ _ (⟨#[118, 105, 105]⟩ : ByteArray) [.string (⟨#[118, 105, 105]⟩ : ByteArray)] from rfl) (Reps.one (show Kd.M Kd.string _ _ _ (⟨#[118, 105, 105, 105]⟩ : ByteArray) [.string (⟨#[118, 105, 105, 105]⟩ : ByteArray)] from rfl) (Reps.one (show Kd.M Kd.string _ _ _ (⟨#[105, 120]⟩ : ByteArray) [.string (⟨#[105, 120]⟩ : ByteArray)] from rfl) (Reps.one (show Kd.M Kd.string _ _ _ (⟨#[120]⟩ : ByteArray) [.string (⟨#[120]⟩ : ByteArray)] from rfl) (Reps.one (show Kd.M Kd.string _ _ _ (⟨#[120, 105]⟩ : ByteArray) [.string (⟨#[120, 105]⟩ : ByteArray)] from rfl) (Reps.one (show Kd.M Kd.string _ _ _ (⟨#[120, 105, 105]⟩ : ByteArray) [.string (⟨#[120, 105, 105]⟩ : ByteArray)] from rfl) (Reps.none _ _)))))))))))))); intro v118 w3 ho4 hb hg_ hnew_; clear hg_ hnew_; (first | rw [← Ny117.out] at ho4 | (simp only [Int.reduceToNat] at ho4; rw [← Ny117.out] at ho4)); have n0_ := Aside0.mk (Kd.R_lower ho4 (below_size (by repeat (first | (with_reducible first | exact HB.out | apply below_alloc | apply pw_below_drewN | apply below_drew1) | exact HB.out)))); have n1_ := Aside0.mk (below_step (by repeat (first | (with_reducible first | exact HB.out | apply below_alloc | apply pw_below_drewN | apply below_drew1) | exact HB.out)) hb); clear HB; have HO119 := n0_; have HB := n1_; clear n0_ n1_; clear hb ho4))
    go_ret
    exact ⟨_, by first | rfl | (simp [errW_none, errW_some] <;> rfl) | (simp [*, errW_none, errW_some] <;> rfl), by (with_reducible repeat (first | apply Kd.R_alloc | apply Kd.R_drewN | apply Kd.R_drew)); exact HO119.out, by repeat (first | (with_reducible first | exact HB.out | apply below_alloc | apply pw_below_drewN | apply below_drew1) | exact HB.out)⟩
  · replace c2 := Bool.eq_false_iff.mpr c2
    subst c2
    have H1 : (some (([(⟨#[73]⟩ : ByteArray), (⟨#[73, 73]⟩ : ByteArray), (⟨#[73, 73, 73]⟩ : ByteArray), (⟨#[73, 86]⟩ : ByteArray), (⟨#[86]⟩ : ByteArray), (⟨#[86, 73]⟩ : ByteArray), (⟨#[86, 73, 73]⟩ : ByteArray), (⟨#[86, 73, 73, 73]⟩ : ByteArray), (⟨#[73, 88]⟩ : ByteArray), (⟨#[88]⟩ : ByteArray), (⟨#[88, 73]⟩ : ByteArray), (⟨#[88, 73, 73]⟩ : ByteArray)] : List ByteArray))) = some r := by rw [if_neg (show ¬ (false = true) by decide)] at H; exact H
    clear H
    have H := H1
    clear H1
    obtain ⟨y120, hy120⟩ : ∃ y_ : List ByteArray, y_ = (([(⟨#[73]⟩ : ByteArray), (⟨#[73, 73]⟩ : ByteArray), (⟨#[73, 73, 73]⟩ : ByteArray), (⟨#[73, 86]⟩ : ByteArray), (⟨#[86]⟩ : ByteArray), (⟨#[86, 73]⟩ : ByteArray), (⟨#[86, 73, 73]⟩ : ByteArray), (⟨#[86, 73, 73, 73]⟩ : ByteArray), (⟨#[73, 88]⟩ : ByteArray), (⟨#[88]⟩ : ByteArray), (⟨#[88, 73]⟩ : ByteArray), (⟨#[88, 73, 73]⟩ : ByteArray)] : List ByteArray)) := ⟨_, rfl⟩
    replace H : (some y120) = some r := by first | (rw [hy120]; with_reducible exact H) | (have H2_ := (Option.bind_some _ _).symm.trans H; rw [hy120]; with_reducible exact H2_) | (have H2_ := (Option.bind_some _ _).symm.trans H; with_reducible exact H2_) | with_reducible exact H | (rw [hy120]; exact H) | exact H
    have Ny120 := Aside0.mk hy120
    clear hy120
    obtain rfl := Option.some.inj H
    go_enter Try.func71, Try.ntmps71
    go_wp2_with (first | ((with_reducible refine gate_dst (N := 5) rfl ?_); refine Kd.R_lit Kd.string _ 9 ?hg (N := 5) ?hd (xs := ([(⟨#[73]⟩ : ByteArray), (⟨#[73, 73]⟩ : ByteArray), (⟨#[73, 73, 73]⟩ : ByteArray), (⟨#[73, 86]⟩ : ByteArray), (⟨#[86]⟩ : ByteArray), (⟨#[86, 73]⟩ : ByteArray), (⟨#[86, 73, 73]⟩ : ByteArray), (⟨#[86, 73, 73, 73]⟩ : ByteArray), (⟨#[73, 88]⟩ : ByteArray), (⟨#[88]⟩ : ByteArray), (⟨#[88, 73]⟩ : ByteArray), (⟨#[88, 73, 73]⟩ : ByteArray)] : List ByteArray)) (inner := [.string (⟨#[73]⟩ : ByteArray), .string (⟨#[73, 73]⟩ : ByteArray), .string (⟨#[73, 73, 73]⟩ : ByteArray), .string (⟨#[73, 86]⟩ : ByteArray), .string (⟨#[86]⟩ : ByteArray), .string (⟨#[86, 73]⟩ : ByteArray), .string (⟨#[86, 73, 73]⟩ : ByteArray), .string (⟨#[86, 73, 73, 73]⟩ : ByteArray), .string (⟨#[73, 88]⟩ : ByteArray), .string (⟨#[88]⟩ : ByteArray), .string (⟨#[88, 73]⟩ : ByteArray), .string (⟨#[88, 73, 73]⟩ : ByteArray)]) (ok := fun _ => True) (okp := fun _ => True) ?hr ?hp (fun _ hk => hk) trivial (Below.refl _ _) (Nat.le_refl _) (by simp) ?_; (case hd => rfl); (case hg => rfl); (case hr => first | (go_simp; done) | (go_simp; rfl)); (case hp => exact (Reps.one (show Kd.M Kd.string _ _ _ (⟨#[73]⟩ : ByteArray) [.string (⟨#[73]⟩ : ByteArray)] from rfl) (Reps.one (show Kd.M Kd.string _ _ _ (⟨#[73, 73]⟩ : ByteArray) [.string (⟨#[73, 73]⟩ : ByteArray)] from rfl) (Reps.one (show Kd.M Kd.string _ _ _ (⟨#[73, 73, 73]⟩ : ByteArray) [.string (⟨#[73, 73, 73]⟩ : ByteArray)] from rfl) (Reps.one (show Kd.M Kd.string _ _ _ (⟨#[73, 86]⟩ : ByteArray) [.string (⟨#[73, 86]⟩ : ByteArray)] from rfl) (Reps.one (show Kd.M Kd.string _ _ _ (⟨#[86]⟩ : ByteArray) [.string (⟨#[86]⟩ : ByteArray)] from rfl) (Reps.one (show Kd.M Kd.string _ _ _ (⟨#[86, 73]⟩ : ByteArray) [.string (⟨#[86, 73]⟩ : ByteArray)] from rfl) (Reps.one (show Kd.M Kd.string _ _ _ (⟨#[86, 73, 73]⟩ : ByteArray) [.string (⟨#[86, 73, 73]⟩ : ByteArray)] from rfl) (Reps.one (show Kd.M Kd.string _ _ _ (⟨#[86, 73, 73, 73]⟩ : ByteArray) [.string (⟨#[86, 73, 73, 73]⟩ : ByteArray)] from rfl) (Reps.one (show Kd.M Kd.string _ _ _ (⟨#[73, 88]⟩ : ByteArray) [.string (⟨#[73, 88]⟩ : ByteArray)] from rfl) (Reps.one (show Kd.M Kd.string _ _ _ (⟨#[88]⟩ : ByteArray) [.string (⟨#[88]⟩ : ByteArray)] from rfl) (Reps.one (show Kd.M Kd.string _ _ _ (⟨#[88, 73]⟩ : ByteArray) [.string (⟨#[88, 73]⟩ : ByteArray)] from rfl) (Reps.one (show Kd.M Kd.string _ _ _ (⟨#[88, 73, 73]⟩ : ByteArray) [.string (⟨#[88, 73, 73]⟩ : ByteArray)] from rfl) (Reps.none _ _)))))))))))))); intro v121 w5 ho6 hb hg_ hnew_; clear hg_ hnew_; (first | rw [← Ny120.out] at ho6 | (simp only [Int.reduceToNat] at ho6; rw [← Ny120.out] at ho6)); have n0_ := Aside0.mk (Kd.R_lower ho6 (below_size (by repeat (first | (with_reducible first | exact HB.out | apply below_alloc | apply pw_below_drewN | apply below_drew1) | exact HB.out)))); have n1_ := Aside0.mk (below_step (by repeat (first | (with_reducible first | exact HB.out | apply below_alloc | apply pw_below_drewN | apply below_drew1) | exact HB.out)) hb); clear HB; have HO122 := n0_; have HB := n1_; clear n0_ n1_; clear hb ho6))
    go_ret
    exact ⟨_, by first | rfl | (simp [errW_none, errW_some] <;> rfl) | (simp [*, errW_none, errW_some] <;> rfl), by (with_reducible repeat (first | apply Kd.R_alloc | apply Kd.R_drewN | apply Kd.R_drew)); exact HO122.out, by repeat (first | (with_reducible first | exact HB.out | apply below_alloc | apply pw_below_drewN | apply below_drew1) | exact HB.out)⟩

end Go.Proofs.Ytpihglokjcbjkaa.P
