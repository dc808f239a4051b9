-- Printed by wip/mk.py (this session's driver over the kit's print) and from wip/manual.
import Derived.Test.YtpihglokjcbjkaaR0
import Derived.Test.YtpihglokjcbjkaaR3
namespace Go.Proofs.Ytpihglokjcbjkaa.P
open Go.RowKit Go.Proofs.YtpihglokjcbjkaaW.PrintWords Go.Proofs.YtpihglokjcbjkaaW.PrintLast Go.Proofs.YtpihglokjcbjkaaW.PrintMore
attribute [local go_sem] max2_int min2_int max_two min_two max_three min_three max_four min_four   -- for this text's walks alone
set_option linter.unusedVariables false
set_option linter.unusedSimpArgs false

/-! ### decomp_Loose: function 53 -/
mutual
def decomp_Loose.j0 : Nat → Int → Bool → Option (List Int)
  | 0, _, _ => none
  | k + 1, x0, x3 => if x3 = true then ((decomp_latin.f k x0).bind fun t124 => ((decomp_list.f k t124).bind fun t125 => (some t125))) else (if x0 = 160 then (decomp_Loose.j1 k x0 true) else ((decomp_within.f x0 8194 8202).bind fun t128 => (if t128 = true then (decomp_Loose.j1 k x0 true) else (if x0 = 8239 then (decomp_Loose.j1 k x0 true) else (if x0 = 8287 then (decomp_Loose.j1 k x0 true) else (decomp_Loose.j1 k x0 (x0 == 12288)))))))
def decomp_Loose.j1 : Nat → Int → Bool → Option (List Int)
  | 0, _, _ => none
  | k + 1, x0, x14 => if x14 = true then (some (([32] : List Int))) else (if x0 = 8209 then (some (([8208] : List Int))) else (if x0 = 8304 then (decomp_Loose.j2 k x0 true) else ((decomp_within.f x0 8308 8313).bind fun t135 => (decomp_Loose.j2 k x0 t135))))
def decomp_Loose.j2 : Nat → Int → Bool → Option (List Int)
  | 0, _, _ => none
  | k + 1, x0, x38 => if x38 = true then (some (([wrap32 ((wrap32 (x0 - 8304)) + 48)] : List Int))) else ((decomp_within.f x0 8320 8329).bind fun t139 => (if t139 = true then (some (([wrap32 ((wrap32 (x0 - 8320)) + 48)] : List Int))) else ((decomp_within.f x0 8544 8555).bind fun t143 => (if t143 = true then ((decomp_numbers.f false).bind fun t144 => (if 0 ≤ (wrap32 (x0 - 8544)) then (if (wrap32 (x0 - 8544)) < (t144.length : Int) then ((decomp_list.f k (rdOf ByteArray.empty t144 (wrap32 (x0 - 8544)))).bind fun t148 => (some t148)) else (none)) else (none))) else ((decomp_within.f x0 8560 8571).bind fun t151 => (if t151 = true then ((decomp_numbers.f true).bind fun t152 => (if 0 ≤ (wrap32 (x0 - 8560)) then (if (wrap32 (x0 - 8560)) < (t152.length : Int) then ((decomp_list.f k (rdOf ByteArray.empty t152 (wrap32 (x0 - 8560)))).bind fun t156 => (some t156)) else (none)) else (none))) else ((decomp_within.f x0 64256 64261).bind fun t159 => (if t159 = true then ((some (([(⟨#[102, 102]⟩ : ByteArray), (⟨#[102, 105]⟩ : ByteArray), (⟨#[102, 108]⟩ : ByteArray), (⟨#[102, 102, 105]⟩ : ByteArray), (⟨#[102, 102, 108]⟩ : ByteArray), (⟨#[197, 191, 116]⟩ : ByteArray)] : List ByteArray) : List ByteArray)).bind fun y160 => (if 0 ≤ (wrap32 (x0 - 64256)) then (if (wrap32 (x0 - 64256)) < (y160.length : Int) then ((decomp_list.f k (rdOf ByteArray.empty y160 (wrap32 (x0 - 64256)))).bind fun t164 => (some t164)) else (none)) else (none))) else ((decomp_within.f x0 65281 65374).bind fun t167 => (if t167 = true then (some (([wrap32 ((wrap32 (x0 - 65281)) + 33)] : List Int))) else (some ([] : List Int))))))))))))
end
def decomp_Loose.f (k : Nat) (a0 : Int) : Option (List Int) := if a0 < 384 then ((decomp_latin.f k a0).bind fun t123 => (decomp_Loose.j0 k a0 (t123.toList != ([] : List UInt8)))) else (decomp_Loose.j0 k a0 false)
theorem decomp_Loose.mono_l : ∀ k, (∀ y0 y1, LeO (decomp_Loose.j0 k y0 y1) (decomp_Loose.j0 (k + 1) y0 y1)) ∧ (∀ y0 y1, LeO (decomp_Loose.j1 k y0 y1) (decomp_Loose.j1 (k + 1) y0 y1)) ∧ (∀ y0 y1, LeO (decomp_Loose.j2 k y0 y1) (decomp_Loose.j2 (k + 1) y0 y1))
  | 0 => ⟨fun _ _ r h => by simp [decomp_Loose.j0] at h, fun _ _ r h => by simp [decomp_Loose.j1] at h, fun _ _ r h => by simp [decomp_Loose.j2] at h⟩
  | k + 1 => by
    obtain ⟨ih0, ih1, ih2⟩ := decomp_Loose.mono_l k
    refine ⟨?_, ?_, ?_⟩
    · intro y0 y1
      unfold decomp_Loose.j0
      repeat' first
      | (with_reducible exact ih0 _ _)
      | (with_reducible exact ih1 _ _)
      | (with_reducible exact ih2 _ _)
      | (with_reducible exact decomp_latin.mono _ _)
      | (with_reducible exact decomp_list.mono _ _)
      | (with_reducible exact LeO.refl _)
      | (with_reducible exact LeO.none _)
      | (with_reducible refine LeO.ite ?_ ?_)
      | (with_reducible refine LeO.bind ?_ (fun _ => ?_))
      | exact ih0 _ _
      | exact ih1 _ _
      | exact ih2 _ _
      | exact decomp_latin.mono _ _
      | exact decomp_list.mono _ _
      | exact LeO.none _
      | refine LeO.ite ?_ ?_
      | refine LeO.bind ?_ (fun _ => ?_)
    · intro y0 y1
      unfold decomp_Loose.j1
      repeat' first
      | (with_reducible exact ih0 _ _)
      | (with_reducible exact ih1 _ _)
      | (with_reducible exact ih2 _ _)
      | (with_reducible exact decomp_latin.mono _ _)
      | (with_reducible exact decomp_list.mono _ _)
      | (with_reducible exact LeO.refl _)
      | (with_reducible exact LeO.none _)
      | (with_reducible refine LeO.ite ?_ ?_)
      | (with_reducible refine LeO.bind ?_ (fun _ => ?_))
      | exact ih0 _ _
      | exact ih1 _ _
      | exact ih2 _ _
      | exact decomp_latin.mono _ _
      | exact decomp_list.mono _ _
      | exact LeO.none _
      | refine LeO.ite ?_ ?_
      | refine LeO.bind ?_ (fun _ => ?_)
    · intro y0 y1
      unfold decomp_Loose.j2
      repeat' first
      | (with_reducible exact ih0 _ _)
      | (with_reducible exact ih1 _ _)
      | (with_reducible exact ih2 _ _)
      | (with_reducible exact decomp_latin.mono _ _)
      | (with_reducible exact decomp_list.mono _ _)
      | (with_reducible exact LeO.refl _)
      | (with_reducible exact LeO.none _)
      | (with_reducible refine LeO.ite ?_ ?_)
      | (with_reducible refine LeO.bind ?_ (fun _ => ?_))
      | exact ih0 _ _
      | exact ih1 _ _
      | exact ih2 _ _
      | exact decomp_latin.mono _ _
      | exact decomp_list.mono _ _
      | exact LeO.none _
      | refine LeO.ite ?_ ?_
      | refine LeO.bind ?_ (fun _ => ?_)
theorem decomp_Loose.mono : ∀ a0 k, LeO (decomp_Loose.f k a0) (decomp_Loose.f (k + 1) a0) := by
  intro a0 k
  obtain ⟨ih0, ih1, ih2⟩ := decomp_Loose.mono_l k
  unfold decomp_Loose.f
  repeat' first
      | (with_reducible exact ih0 _ _)
      | (with_reducible exact ih1 _ _)
      | (with_reducible exact ih2 _ _)
      | (with_reducible exact decomp_latin.mono _ _)
      | (with_reducible exact decomp_list.mono _ _)
      | (with_reducible exact LeO.refl _)
      | (with_reducible exact LeO.none _)
      | (with_reducible refine LeO.ite ?_ ?_)
      | (with_reducible refine LeO.bind ?_ (fun _ => ?_))
      | exact ih0 _ _
      | exact ih1 _ _
      | exact ih2 _ _
      | exact decomp_latin.mono _ _
      | exact decomp_list.mono _ _
      | exact LeO.none _
      | refine LeO.ite ?_ ?_
      | refine LeO.bind ?_ (fun _ => ?_)
set_option maxHeartbeats 8000000 in
set_option maxRecDepth 100000 in
theorem decomp_Loose.calls (k : Nat) (a0 : Int) (r : List Int) (w : World) (h : decomp_Loose.f k a0 = some r) :
    Calls Try.prog 53 #[.int .i32 a0] w fun e w' => ∃ v0_ : Value, e = .returned (v0_) ∧ Kd.R (Kd.int .i32) 21 w' w.heap.size (fun _ => True) v0_ r ∧ Below w.heap.size w w' := by
  have HB := Aside0.mk (Below.refl w.heap.size w)
  have H : (if a0 < 384 then ((decomp_latin.f k a0).bind fun t123 => (decomp_Loose.j0 k a0 (t123.toList != ([] : List UInt8)))) else (decomp_Loose.j0 k a0 false)) = some r := h
  clear h
  have HC2 := Aside0.mk H
  clear H
  go_enter Try.func53, Try.ntmps53
  go_upto_region 1 with (fail)
  go_cut [3] (fun v3 wc => ∃ (kq : Nat) (x3_1 : Bool), v3 = .bool x3_1 ∧ Aside0 (decomp_Loose.j0 kq a0 x3_1 = some r) ∧ Aside0 (kq ≤ k) ∧ Aside0 (Below w.heap.size w wc))
  case first =>
    have H := HC2.out
    clear HC2
    by_cases c3 : a0 < 384
    · rw [if_pos c3] at H
      have c3b0 : decide (a0 < 384) = true := decide_eq_true c3
      clear c3
      (first | rw [c3b0] | (simp only [i64_w, i32_w]; rw [c3b0]) | skip)
      replace H := Option.bind_eq_some_iff.mp H
      obtain ⟨t123, A40, H⟩ := H
      replace H : (decomp_Loose.j0 k a0 (t123.toList != ([] : List UInt8))) = some r := H
      have A4 := Aside0.mk A40
      clear A40
      have H' := Aside0.mk H
      clear H
      go_wp2_with (first | (go_at_call 68; (with_reducible refine (decomp_latin.calls k a0 t123 _ A4.out).mono ?_); rintro e w5 ⟨rfl, hb⟩; (try clear A4); have n0_ := Aside0.mk (below_step (by repeat (first | (with_reducible first | exact HB.out | apply below_alloc | apply pw_below_drewN | apply below_drew1) | exact HB.out)) hb); clear HB; have HB := n0_; clear n0_; (try clear hb); (try clear hb2); (try clear hk); (try clear hi)))
      go_meet
      case rel => exact ⟨_, ((t123.toList != ([] : List UInt8))), (by first | rfl | (simp; done) | (simp [*]; done) | (cases t123.toList <;> rfl)), H', ⟨by first | omega | exact Nat.le_refl _⟩, ⟨by repeat (first | (with_reducible first | exact HB.out | apply below_alloc | apply pw_below_drewN | apply below_drew1) | exact HB.out)⟩⟩
    · rw [if_neg c3] at H
      have c3b0 : decide (a0 < 384) = false := decide_eq_false c3
      clear c3
      (first | rw [c3b0] | (simp only [i64_w, i32_w]; rw [c3b0]) | skip)
      have H' := Aside0.mk H
      clear H
      go_wp2
      go_meet
      case rel => exact ⟨_, (false), (by first | rfl | (simp; done) | (simp [*]; done)), H', ⟨by first | omega | exact Nat.le_refl _⟩, ⟨by repeat (first | (with_reducible first | exact HB.out | apply below_alloc | apply pw_below_drewN | apply below_drew1) | exact HB.out)⟩⟩
  case rest =>
    clear HC2
    try clear p2
    try clear c3
    try clear c3b0
    try clear c5
    obtain ⟨kq, x3_1, rfl, HA, HJ1, HB⟩ := hcut
    cases kq with
    | zero => exact absurd HA.out (by simp [decomp_Loose.j0])
    | succ kj1 =>
      have H := HA.out
      clear HA
      simp only [decomp_Loose.j0] at H
      by_cases c6 : x3_1 = true
      · subst c6
        have H1 : ((decomp_latin.f kj1 a0).bind fun t124 => ((decomp_list.f kj1 t124).bind fun t125 => (some t125))) = some r := by rw [if_pos rfl] at H; exact H
        clear H
        have H := H1
        clear H1
        replace H := Option.bind_eq_some_iff.mp H
        obtain ⟨t124, A70, H⟩ := H
        replace H : ((decomp_list.f kj1 t124).bind fun t125 => (some t125)) = some r := H
        have A7 := Aside0.mk A70
        clear A70
        replace H := Option.bind_eq_some_iff.mp H
        obtain ⟨t125, A80, H⟩ := H
        replace H : (some t125) = some r := H
        have A8 := Aside0.mk A80
        clear A80
        obtain rfl := Option.some.inj H
        go_wp2_with (first | ((with_reducible refine gate_callee (f := 68) rfl ?_); refine goesL_ (some 12) rfl rfl Try.func68 (by kernel_rfl) rfl #[.int .i32 a0] rfl (by (try simp only [List.map_toArray, List.map_cons, List.map_nil]); first | done | rfl | (simp only [List.length_drop, List.length_take]; rfl)) ?_; (with_reducible refine (decomp_latin.calls kj1 a0 t124 _ A7.out).mono ?_); rintro e w9 ⟨rfl, hb⟩; (try clear A7); refine ⟨_, rfl, ?_⟩; have n0_ := Aside0.mk (below_step (by repeat (first | (with_reducible first | exact HB.out | apply below_alloc | apply pw_below_drewN | apply below_drew1) | exact HB.out)) hb); clear HB; have HB := n0_; clear n0_; (try clear hb); (try clear hb2); (try clear hk); (try clear hi)) | ((with_reducible refine gate_callee (f := 69) rfl ?_); refine goesL_ (some 13) rfl rfl Try.func69 (by kernel_rfl) rfl #[.string t124] rfl (by (try simp only [List.map_toArray, List.map_cons, List.map_nil]); first | done | rfl | (simp only [List.length_drop, List.length_take]; rfl)) ?_; (with_reducible refine (decomp_list.calls kj1 t124 t125 _ A8.out).mono ?_); rintro e w10 ⟨v126, rfl, ho0, hb⟩; (try clear A8); refine ⟨_, rfl, ?_⟩; have n0_ := Aside0.mk (Kd.R_lower ho0 (below_size (by repeat (first | (with_reducible first | exact HB.out | apply below_alloc | apply pw_below_drewN | apply below_drew1) | exact HB.out)))); have n1_ := Aside0.mk (below_step (by repeat (first | (with_reducible first | exact HB.out | apply below_alloc | apply pw_below_drewN | apply below_drew1) | exact HB.out)) hb); clear HB; have HO127 := n0_; have HB := n1_; clear n0_ n1_; (try clear hb); (try clear hb2); (try clear hk); (try clear hi); (try clear ho0)))
        go_ret
        exact ⟨_, by first | rfl | (simp [errW_none, errW_some] <;> rfl) | (simp [*, errW_none, errW_some] <;> rfl), by (with_reducible repeat (first | apply Kd.R_alloc | apply Kd.R_drewN | apply Kd.R_drew)); exact HO127.out, by repeat (first | (with_reducible first | exact HB.out | apply below_alloc | apply pw_below_drewN | apply below_drew1) | exact HB.out)⟩
      · replace c6 := Bool.eq_false_iff.mpr c6
        subst c6
        have H1 : (if a0 = 160 then (decomp_Loose.j1 kj1 a0 true) else ((decomp_within.f a0 8194 8202).bind fun t128 => (if t128 = true then (decomp_Loose.j1 kj1 a0 true) else (if a0 = 8239 then (decomp_Loose.j1 kj1 a0 true) else (if a0 = 8287 then (decomp_Loose.j1 kj1 a0 true) else (decomp_Loose.j1 kj1 a0 (a0 == 12288))))))) = some r := by rw [if_neg (show ¬ (false = true) by decide)] at H; exact H
        clear H
        have H := H1
        clear H1
        have HC11 := Aside0.mk H
        clear H
        go_upto_region 3 with (fail)
        go_cut [14] (fun v14 wc => ∃ (kq : Nat) (x14_10 : Bool), v14 = .bool x14_10 ∧ Aside0 (decomp_Loose.j1 kq a0 x14_10 = some r) ∧ Aside0 (kq ≤ kj1) ∧ Aside0 (Below w.heap.size w wc))
        case first =>
          have H := HC11.out
          clear HC11
          by_cases c12 : a0 = 160
          · rw [if_pos c12] at H
            have c12b0 : (a0 == 160) = true := beq_iff_eq.mpr c12
            have c12b1 : (a0 != 160) = false := bne_eq_false_iff_eq.mpr c12
            clear c12
            (first | rw [c12b0] | (simp only [i64_w, i32_w]; rw [c12b0]) | skip)
            have H' := Aside0.mk H
            clear H
            go_wp2
            go_meet
            case rel => exact ⟨_, (true), (by first | rfl | (simp; done) | (simp [*]; done)), H', ⟨by have := HJ1.out; first | omega | exact Nat.le_refl _⟩, ⟨by repeat (first | (with_reducible first | exact HB.out | apply below_alloc | apply pw_below_drewN | apply below_drew1) | exact HB.out)⟩⟩
          · rw [if_neg c12] at H
            have c12b0 : (a0 == 160) = false := beq_eq_false_iff_ne.mpr c12
            have c12b1 : (a0 != 160) = true := bne_iff_ne.mpr c12
            (first | rw [c12b0] | (simp only [i64_w, i32_w]; rw [c12b0]) | skip)
            replace H := Option.bind_eq_some_iff.mp H
            obtain ⟨t128, A130, H⟩ := H
            replace H : (if t128 = true then (decomp_Loose.j1 kj1 a0 true) else (if a0 = 8239 then (decomp_Loose.j1 kj1 a0 true) else (if a0 = 8287 then (decomp_Loose.j1 kj1 a0 true) else (decomp_Loose.j1 kj1 a0 (a0 == 12288))))) = some r := H
            have A13 := Aside0.mk A130
            clear A130
            by_cases c14 : t128 = true
            · subst c14
              have H1 : (decomp_Loose.j1 kj1 a0 true) = some r := by rw [if_pos rfl] at H; exact H
              clear H
              have H := H1
              clear H1
              have H' := Aside0.mk H
              clear H
              go_wp2_with (first | (go_at_call 70; (with_reducible refine (decomp_within.calls a0 8194 8202 true _ A13.out).mono ?_); rintro e w' ⟨rfl, ⟨nd, rfl⟩⟩; (try clear A13)))
              go_meet
              case rel => exact ⟨_, (true), (by first | rfl | (simp; done) | (simp [*]; done)), H', ⟨by have := HJ1.out; first | omega | exact Nat.le_refl _⟩, ⟨by repeat (first | (with_reducible first | exact HB.out | apply below_alloc | apply pw_below_drewN | apply below_drew1) | exact HB.out)⟩⟩
            · replace c14 := Bool.eq_false_iff.mpr c14
              subst c14
              have H1 : (if a0 = 8239 then (decomp_Loose.j1 kj1 a0 true) else (if a0 = 8287 then (decomp_Loose.j1 kj1 a0 true) else (decomp_Loose.j1 kj1 a0 (a0 == 12288)))) = some r := by rw [if_neg (show ¬ (false = true) by decide)] at H; exact H
              clear H
              have H := H1
              clear H1
              by_cases c15 : a0 = 8239
              · rw [if_pos c15] at H
                have c15b0 : (a0 == 8239) = true := beq_iff_eq.mpr c15
                have c15b1 : (a0 != 8239) = false := bne_eq_false_iff_eq.mpr c15
                clear c15
                have H' := Aside0.mk H
                clear H
                go_wp2_with (first | (go_at_call 70; (with_reducible refine (decomp_within.calls a0 8194 8202 false _ A13.out).mono ?_); rintro e w' ⟨rfl, ⟨nd, rfl⟩⟩; (try clear A13)))
                go_meet
                case rel => exact ⟨_, (true), (by first | rfl | (simp; done) | (simp [*]; done)), H', ⟨by have := HJ1.out; first | omega | exact Nat.le_refl _⟩, ⟨by repeat (first | (with_reducible first | exact HB.out | apply below_alloc | apply pw_below_drewN | apply below_drew1) | exact HB.out)⟩⟩
              · rw [if_neg c15] at H
                have c15b0 : (a0 == 8239) = false := beq_eq_false_iff_ne.mpr c15
                have c15b1 : (a0 != 8239) = true := bne_iff_ne.mpr c15
                by_cases c16 : a0 = 8287
                · rw [if_pos c16] at H
                  have c16b0 : (a0 == 8287) = true := beq_iff_eq.mpr c16
                  have c16b1 : (a0 != 8287) = false := bne_eq_false_iff_eq.mpr c16
                  clear c16
                  have H' := Aside0.mk H
                  clear H
                  go_wp2_with (first | (go_at_call 70; (with_reducible refine (decomp_within.calls a0 8194 8202 false _ A13.out).mono ?_); rintro e w' ⟨rfl, ⟨nd, rfl⟩⟩; (try clear A13)))
                  go_meet
                  case rel => exact ⟨_, (true), (by first | rfl | (simp; done) | (simp [*]; done)), H', ⟨by have := HJ1.out; first | omega | exact Nat.le_refl _⟩, ⟨by repeat (first | (with_reducible first | exact HB.out | apply below_alloc | apply pw_below_drewN | apply below_drew1) | exact HB.out)⟩⟩
                · rw [if_neg c16] at H
                  have c16b0 : (a0 == 8287) = false := beq_eq_false_iff_ne.mpr c16
                  have c16b1 : (a0 != 8287) = true := bne_iff_ne.mpr c16
                  have H' := Aside0.mk H
                  clear H
                  go_wp2_with (first | (go_at_call 70; (with_reducible refine (decomp_within.calls a0 8194 8202 false _ A13.out).mono ?_); rintro e w' ⟨rfl, ⟨nd, rfl⟩⟩; (try clear A13)))
                  go_meet
                  case rel => exact ⟨_, ((a0 == 12288)), (by first | rfl | (simp; done) | (simp [*]; done)), H', ⟨by have := HJ1.out; first | omega | exact Nat.le_refl _⟩, ⟨by repeat (first | (with_reducible first | exact HB.out | apply below_alloc | apply pw_below_drewN | apply below_drew1) | exact HB.out)⟩⟩
        case rest =>
          clear HC11
          try clear c1
          try clear p2
          try clear c3
          try clear c3b0
          try clear c5
          try clear c6
          try clear c12
          try clear c12b0
          try clear c12b1
          try clear c14
          try clear c15
          try clear c15b0
          try clear c15b1
          try clear c16
          try clear c16b0
          try clear c16b1
          try clear p2
          obtain ⟨kq, x14_10, rfl, HA, HJ10, HB⟩ := hcut
          cases kq with
          | zero => exact absurd HA.out (by simp [decomp_Loose.j1])
          | succ kj10 =>
            have H := HA.out
            clear HA
            simp only [decomp_Loose.j1] at H
            by_cases c17 : x14_10 = true
            · subst c17
              have H1 : (some (([32] : List Int))) = some r := by rw [if_pos rfl] at H; exact H
              clear H
              have H := H1
              clear H1
              obtain ⟨y129, hy129⟩ : ∃ y_ : List Int, y_ = (([32] : List Int)) := ⟨_, rfl⟩
              replace H : (some y129) = some r := by first | (rw [hy129]; with_reducible exact H) | (have H2_ := (Option.bind_some _ _).symm.trans H; rw [hy129]; with_reducible exact H2_) | (have H2_ := (Option.bind_some _ _).symm.trans H; with_reducible exact H2_) | with_reducible exact H | (rw [hy129]; exact H) | exact H
              have Ny129 := Aside0.mk hy129
              clear hy129
              obtain rfl := Option.some.inj H
              go_wp2_with (first | ((with_reducible refine gate_dst (N := 33) rfl ?_); refine Kd.R_lit (Kd.int .i32) _ 21 ?hg (N := 33) ?hd (xs := ([32] : List Int)) (inner := [.int .i32 32]) (ok := fun _ => True) (okp := fun _ => True) ?hr ?hp (fun _ hk => hk) trivial (Below.refl _ _) (Nat.le_refl _) (by simp) ?_; (case hd => rfl); (case hg => rfl); (case hr => first | (go_simp; done) | (go_simp; rfl)); (case hp => exact (Reps.one (show Kd.M (Kd.int .i32) _ _ _ 32 [.int .i32 32] from rfl) (Reps.none _ _))); intro v130 w18 ho19 hb hg_ hnew_; clear hg_ hnew_; (first | rw [← Ny129.out] at ho19 | (simp only [Int.reduceToNat] at ho19; rw [← Ny129.out] at ho19)); have n0_ := Aside0.mk (Kd.R_lower ho19 (below_size (by repeat (first | (with_reducible first | exact HB.out | apply below_alloc | apply pw_below_drewN | apply below_drew1) | exact HB.out)))); have n1_ := Aside0.mk (below_step (by repeat (first | (with_reducible first | exact HB.out | apply below_alloc | apply pw_below_drewN | apply below_drew1) | exact HB.out)) hb); clear HB; have HO131 := n0_; have HB := n1_; clear n0_ n1_; clear hb ho19))
              go_ret
              exact ⟨_, by first | rfl | (simp [errW_none, errW_some] <;> rfl) | (simp [*, errW_none, errW_some] <;> rfl), by (with_reducible repeat (first | apply Kd.R_alloc | apply Kd.R_drewN | apply Kd.R_drew)); exact HO131.out, by repeat (first | (with_reducible first | exact HB.out | apply below_alloc | apply pw_below_drewN | apply below_drew1) | exact HB.out)⟩
            · replace c17 := Bool.eq_false_iff.mpr c17
              subst c17
              have H1 : (if a0 = 8209 then (some (([8208] : List Int))) else (if a0 = 8304 then (decomp_Loose.j2 kj10 a0 true) else ((decomp_within.f a0 8308 8313).bind fun t135 => (decomp_Loose.j2 kj10 a0 t135)))) = some r := by rw [if_neg (show ¬ (false = true) by decide)] at H; exact H
              clear H
              have H := H1
              clear H1
              by_cases c20 : a0 = 8209
              · rw [if_pos c20] at H
                have c20b0 : (a0 == 8209) = true := beq_iff_eq.mpr c20
                have c20b1 : (a0 != 8209) = false := bne_eq_false_iff_eq.mpr c20
                clear c20
                obtain ⟨y132, hy132⟩ : ∃ y_ : List Int, y_ = (([8208] : List Int)) := ⟨_, rfl⟩
                replace H : (some y132) = some r := by first | (rw [hy132]; with_reducible exact H) | (have H2_ := (Option.bind_some _ _).symm.trans H; rw [hy132]; with_reducible exact H2_) | (have H2_ := (Option.bind_some _ _).symm.trans H; with_reducible exact H2_) | with_reducible exact H | (rw [hy132]; exact H) | exact H
                have Ny132 := Aside0.mk hy132
                clear hy132
                obtain rfl := Option.some.inj H
                go_wp2_with (first | ((with_reducible refine gate_dst (N := 37) rfl ?_); refine Kd.R_lit (Kd.int .i32) _ 21 ?hg (N := 37) ?hd (xs := ([8208] : List Int)) (inner := [.int .i32 8208]) (ok := fun _ => True) (okp := fun _ => True) ?hr ?hp (fun _ hk => hk) trivial (Below.refl _ _) (Nat.le_refl _) (by simp) ?_; (case hd => rfl); (case hg => rfl); (case hr => first | (go_simp; done) | (go_simp; rfl)); (case hp => exact (Reps.one (show Kd.M (Kd.int .i32) _ _ _ 8208 [.int .i32 8208] from rfl) (Reps.none _ _))); intro v133 w21 ho22 hb hg_ hnew_; clear hg_ hnew_; (first | rw [← Ny132.out] at ho22 | (simp only [Int.reduceToNat] at ho22; rw [← Ny132.out] at ho22)); have n0_ := Aside0.mk (Kd.R_lower ho22 (below_size (by repeat (first | (with_reducible first | exact HB.out | apply below_alloc | apply pw_below_drewN | apply below_drew1) | exact HB.out)))); have n1_ := Aside0.mk (below_step (by repeat (first | (with_reducible first | exact HB.out | apply below_alloc | apply pw_below_drewN | apply below_drew1) | exact HB.out)) hb); clear HB; have HO134 := n0_; have HB := n1_; clear n0_ n1_; clear hb ho22))
                go_ret
                exact ⟨_, by first | rfl | (simp [errW_none, errW_some] <;> rfl) | (simp [*, errW_none, errW_some] <;> rfl), by (with_reducible repeat (first | apply Kd.R_alloc | apply Kd.R_drewN | apply Kd.R_drew)); exact HO134.out, by repeat (first | (with_reducible first | exact HB.out | apply below_alloc | apply pw_below_drewN | apply below_drew1) | exact HB.out)⟩
              · rw [if_neg c20] at H
                have c20b0 : (a0 == 8209) = false := beq_eq_false_iff_ne.mpr c20
                have c20b1 : (a0 != 8209) = true := bne_iff_ne.mpr c20
                have HC23 := Aside0.mk H
                clear H
                go_upto_region 7 with (fail)
                go_cut [38] (fun v38 wc => ∃ (kq : Nat) (x38_22 : Bool), v38 = .bool x38_22 ∧ Aside0 (decomp_Loose.j2 kq a0 x38_22 = some r) ∧ Aside0 (kq ≤ kj10) ∧ Aside0 (Below w.heap.size w wc))
                case first =>
                  have H := HC23.out
                  clear HC23
                  by_cases c24 : a0 = 8304
                  · rw [if_pos c24] at H
                    have c24b0 : (a0 == 8304) = true := beq_iff_eq.mpr c24
                    have c24b1 : (a0 != 8304) = false := bne_eq_false_iff_eq.mpr c24
                    clear c24
                    (first | rw [c24b0] | (simp only [i64_w, i32_w]; rw [c24b0]) | skip)
                    have H' := Aside0.mk H
                    clear H
                    go_wp2
                    go_meet
                    case rel => exact ⟨_, (true), (by first | rfl | (simp; done) | (simp [*]; done)), H', ⟨by have := HJ1.out; have := HJ10.out; first | omega | exact Nat.le_refl _⟩, ⟨by repeat (first | (with_reducible first | exact HB.out | apply below_alloc | apply pw_below_drewN | apply below_drew1) | exact HB.out)⟩⟩
                  · rw [if_neg c24] at H
                    have c24b0 : (a0 == 8304) = false := beq_eq_false_iff_ne.mpr c24
                    have c24b1 : (a0 != 8304) = true := bne_iff_ne.mpr c24
                    (first | rw [c24b0] | (simp only [i64_w, i32_w]; rw [c24b0]) | skip)
                    replace H := Option.bind_eq_some_iff.mp H
                    obtain ⟨t135, A250, H⟩ := H
                    replace H : (decomp_Loose.j2 kj10 a0 t135) = some r := H
                    have A25 := Aside0.mk A250
                    clear A250
                    have H' := Aside0.mk H
                    clear H
                    go_wp2_with (first | (go_at_call 70; (with_reducible refine (decomp_within.calls a0 8308 8313 t135 _ A25.out).mono ?_); rintro e w' ⟨rfl, ⟨nd, rfl⟩⟩; (try clear A25)))
                    go_meet
                    case rel => exact ⟨_, (t135), (by first | rfl | (simp; done) | (simp [*]; done)), H', ⟨by have := HJ1.out; have := HJ10.out; first | omega | exact Nat.le_refl _⟩, ⟨by repeat (first | (with_reducible first | exact HB.out | apply below_alloc | apply pw_below_drewN | apply below_drew1) | exact HB.out)⟩⟩
                case rest =>
                  clear HC23
                  try clear c1
                  try clear c2
                  try clear p2
                  try clear c3
                  try clear c3b0
                  try clear c5
                  try clear c6
                  try clear c12
                  try clear c12b0
                  try clear c12b1
                  try clear c14
                  try clear c15
                  try clear c15b0
                  try clear c15b1
                  try clear c16
                  try clear c16b0
                  try clear c16b1
                  try clear c17
                  try clear c20
                  try clear c20b0
                  try clear c20b1
                  try clear c24
                  try clear c24b0
                  try clear c24b1
                  try clear p2
                  obtain ⟨kq, x38_22, rfl, HA, HJ22, HB⟩ := hcut
                  cases kq with
                  | zero => exact absurd HA.out (by simp [decomp_Loose.j2])
                  | succ kj22 =>
                    have H := HA.out
                    clear HA
                    simp only [decomp_Loose.j2] at H
                    by_cases c26 : x38_22 = true
                    · subst c26
                      have H1 : (some (([wrap32 ((wrap32 (a0 - 8304)) + 48)] : List Int))) = some r := by rw [if_pos rfl] at H; exact H
                      clear H
                      have H := H1
                      clear H1
                      obtain ⟨y136, hy136⟩ : ∃ y_ : List Int, y_ = (([wrap32 ((wrap32 (a0 - 8304)) + 48)] : List Int)) := ⟨_, rfl⟩
                      replace H : (some y136) = some r := by first | (rw [hy136]; with_reducible exact H) | (have H2_ := (Option.bind_some _ _).symm.trans H; rw [hy136]; with_reducible exact H2_) | (have H2_ := (Option.bind_some _ _).symm.trans H; with_reducible exact H2_) | with_reducible exact H | (rw [hy136]; exact H) | exact H
                      have Ny136 := Aside0.mk hy136
                      clear hy136
                      obtain rfl := Option.some.inj H
                      go_wp2_with (first | ((with_reducible refine gate_dst (N := 48) rfl ?_); refine Kd.R_lit (Kd.int .i32) _ 21 ?hg (N := 48) ?hd (xs := ([wrap32 ((wrap32 (a0 - 8304)) + 48)] : List Int)) (inner := [.int .i32 (wrap32 ((wrap32 (a0 - 8304)) + 48))]) (ok := fun _ => True) (okp := fun _ => True) ?hr ?hp (fun _ hk => hk) trivial (Below.refl _ _) (Nat.le_refl _) (by simp) ?_; (case hd => rfl); (case hg => rfl); (case hr => first | (go_simp; done) | (go_simp; rfl)); (case hp => exact (Reps.one (show Kd.M (Kd.int .i32) _ _ _ (wrap32 ((wrap32 (a0 - 8304)) + 48)) [.int .i32 (wrap32 ((wrap32 (a0 - 8304)) + 48))] from rfl) (Reps.none _ _))); intro v137 w27 ho28 hb hg_ hnew_; clear hg_ hnew_; (first | rw [← Ny136.out] at ho28 | (simp only [Int.reduceToNat] at ho28; rw [← Ny136.out] at ho28)); have n0_ := Aside0.mk (Kd.R_lower ho28 (below_size (by repeat (first | (with_reducible first | exact HB.out | apply below_alloc | apply pw_below_drewN | apply below_drew1) | exact HB.out)))); have n1_ := Aside0.mk (below_step (by repeat (first | (with_reducible first | exact HB.out | apply below_alloc | apply pw_below_drewN | apply below_drew1) | exact HB.out)) hb); clear HB; have HO138 := n0_; have HB := n1_; clear n0_ n1_; clear hb ho28))
                      go_ret
                      exact ⟨_, by first | rfl | (simp [errW_none, errW_some] <;> rfl) | (simp [*, errW_none, errW_some] <;> rfl), by (with_reducible repeat (first | apply Kd.R_alloc | apply Kd.R_drewN | apply Kd.R_drew)); exact HO138.out, by repeat (first | (with_reducible first | exact HB.out | apply below_alloc | apply pw_below_drewN | apply below_drew1) | exact HB.out)⟩
                    · replace c26 := Bool.eq_false_iff.mpr c26
                      subst c26
                      have H1 : ((decomp_within.f a0 8320 8329).bind fun t139 => (if t139 = true then (some (([wrap32 ((wrap32 (a0 - 8320)) + 48)] : List Int))) else ((decomp_within.f a0 8544 8555).bind fun t143 => (if t143 = true then ((decomp_numbers.f false).bind fun t144 => (if 0 ≤ (wrap32 (a0 - 8544)) then (if (wrap32 (a0 - 8544)) < (t144.length : Int) then ((decomp_list.f kj22 (rdOf ByteArray.empty t144 (wrap32 (a0 - 8544)))).bind fun t148 => (some t148)) else (none)) else (none))) else ((decomp_within.f a0 8560 8571).bind fun t151 => (if t151 = true then ((decomp_numbers.f true).bind fun t152 => (if 0 ≤ (wrap32 (a0 - 8560)) then (if (wrap32 (a0 - 8560)) < (t152.length : Int) then ((decomp_list.f kj22 (rdOf ByteArray.empty t152 (wrap32 (a0 - 8560)))).bind fun t156 => (some t156)) else (none)) else (none))) else ((decomp_within.f a0 64256 64261).bind fun t159 => (if t159 = true then ((some (([(⟨#[102, 102]⟩ : ByteArray), (⟨#[102, 105]⟩ : ByteArray), (⟨#[102, 108]⟩ : ByteArray), (⟨#[102, 102, 105]⟩ : ByteArray), (⟨#[102, 102, 108]⟩ : ByteArray), (⟨#[197, 191, 116]⟩ : ByteArray)] : List ByteArray) : List ByteArray)).bind fun y160 => (if 0 ≤ (wrap32 (a0 - 64256)) then (if (wrap32 (a0 - 64256)) < (y160.length : Int) then ((decomp_list.f kj22 (rdOf ByteArray.empty y160 (wrap32 (a0 - 64256)))).bind fun t164 => (some t164)) else (none)) else (none))) else ((decomp_within.f a0 65281 65374).bind fun t167 => (if t167 = true then (some (([wrap32 ((wrap32 (a0 - 65281)) + 33)] : List Int))) else (some ([] : List Int)))))))))))) = some r := by rw [if_neg (show ¬ (false = true) by decide)] at H; exact H
                      clear H
                      have H := H1
                      clear H1
                      replace H := Option.bind_eq_some_iff.mp H
                      obtain ⟨t139, A290, H⟩ := H
                      replace H : (if t139 = true then (some (([wrap32 ((wrap32 (a0 - 8320)) + 48)] : List Int))) else ((decomp_within.f a0 8544 8555).bind fun t143 => (if t143 = true then ((decomp_numbers.f false).bind fun t144 => (if 0 ≤ (wrap32 (a0 - 8544)) then (if (wrap32 (a0 - 8544)) < (t144.length : Int) then ((decomp_list.f kj22 (rdOf ByteArray.empty t144 (wrap32 (a0 - 8544)))).bind fun t148 => (some t148)) else (none)) else (none))) else ((decomp_within.f a0 8560 8571).bind fun t151 => (if t151 = true then ((decomp_numbers.f true).bind fun t152 => (if 0 ≤ (wrap32 (a0 - 8560)) then (if (wrap32 (a0 - 8560)) < (t152.length : Int) then ((decomp_list.f kj22 (rdOf ByteArray.empty t152 (wrap32 (a0 - 8560)))).bind fun t156 => (some t156)) else (none)) else (none))) else ((decomp_within.f a0 64256 64261).bind fun t159 => (if t159 = true then ((some (([(⟨#[102, 102]⟩ : ByteArray), (⟨#[102, 105]⟩ : ByteArray), (⟨#[102, 108]⟩ : ByteArray), (⟨#[102, 102, 105]⟩ : ByteArray), (⟨#[102, 102, 108]⟩ : ByteArray), (⟨#[197, 191, 116]⟩ : ByteArray)] : List ByteArray) : List ByteArray)).bind fun y160 => (if 0 ≤ (wrap32 (a0 - 64256)) then (if (wrap32 (a0 - 64256)) < (y160.length : Int) then ((decomp_list.f kj22 (rdOf ByteArray.empty y160 (wrap32 (a0 - 64256)))).bind fun t164 => (some t164)) else (none)) else (none))) else ((decomp_within.f a0 65281 65374).bind fun t167 => (if t167 = true then (some (([wrap32 ((wrap32 (a0 - 65281)) + 33)] : List Int))) else (some ([] : List Int))))))))))) = some r := H
                      have A29 := Aside0.mk A290
                      clear A290
                      by_cases c30 : t139 = true
                      · subst c30
                        have H1 : (some (([wrap32 ((wrap32 (a0 - 8320)) + 48)] : List Int))) = some r := by rw [if_pos rfl] at H; exact H
                        clear H
                        have H := H1
                        clear H1
                        obtain ⟨y140, hy140⟩ : ∃ y_ : List Int, y_ = (([wrap32 ((wrap32 (a0 - 8320)) + 48)] : List Int)) := ⟨_, rfl⟩
                        replace H : (some y140) = some r := by first | (rw [hy140]; with_reducible exact H) | (have H2_ := (Option.bind_some _ _).symm.trans H; rw [hy140]; with_reducible exact H2_) | (have H2_ := (Option.bind_some _ _).symm.trans H; with_reducible exact H2_) | with_reducible exact H | (rw [hy140]; exact H) | exact H
                        have Ny140 := Aside0.mk hy140
                        clear hy140
                        obtain rfl := Option.some.inj H
                        go_wp2_with (first | ((with_reducible refine gate_callee (f := 70) rfl ?_); refine goesL_ (some 51) rfl rfl Try.func70 (by kernel_rfl) rfl #[.int .i32 a0, .int .i32 8320, .int .i32 8329] rfl (by (try simp only [List.map_toArray, List.map_cons, List.map_nil]); first | done | rfl | (simp only [List.length_drop, List.length_take]; rfl)) ?_; (with_reducible refine (decomp_within.calls a0 8320 8329 true _ A29.out).mono ?_); rintro e w' ⟨rfl, ⟨nd, rfl⟩⟩; (try clear A29); refine ⟨_, rfl, ?_⟩) | ((with_reducible refine gate_dst (N := 55) rfl ?_); refine Kd.R_lit (Kd.int .i32) _ 21 ?hg (N := 55) ?hd (xs := ([wrap32 ((wrap32 (a0 - 8320)) + 48)] : List Int)) (inner := [.int .i32 (wrap32 ((wrap32 (a0 - 8320)) + 48))]) (ok := fun _ => True) (okp := fun _ => True) ?hr ?hp (fun _ hk => hk) trivial (Below.refl _ _) (Nat.le_refl _) (by simp) ?_; (case hd => rfl); (case hg => rfl); (case hr => first | (go_simp; done) | (go_simp; rfl)); (case hp => exact (Reps.one (show Kd.M (Kd.int .i32) _ _ _ (wrap32 ((wrap32 (a0 - 8320)) + 48)) [.int .i32 (wrap32 ((wrap32 (a0 - 8320)) + 48))] from rfl) (Reps.none _ _))); intro v141 w31 ho32 hb hg_ hnew_; clear hg_ hnew_; (first | rw [← Ny140.out] at ho32 | (simp only [Int.reduceToNat] at ho32; rw [← Ny140.out] at ho32)); have n0_ := Aside0.mk (Kd.R_lower ho32 (below_size (by repeat (first | (with_reducible first | exact HB.out | apply below_alloc | apply pw_below_drewN | apply below_drew1) | exact HB.out)))); have n1_ := Aside0.mk (below_step (by repeat (first | (with_reducible first | exact HB.out | apply below_alloc | apply pw_below_drewN | apply below_drew1) | exact HB.out)) hb); clear HB; have HO142 := n0_; have HB := n1_; clear n0_ n1_; clear hb ho32))
                        go_ret
                        exact ⟨_, by first | rfl | (simp [errW_none, errW_some] <;> rfl) | (simp [*, errW_none, errW_some] <;> rfl), by (with_reducible repeat (first | apply Kd.R_alloc | apply Kd.R_drewN | apply Kd.R_drew)); exact HO142.out, by repeat (first | (with_reducible first | exact HB.out | apply below_alloc | apply pw_below_drewN | apply below_drew1) | exact HB.out)⟩
                      · replace c30 := Bool.eq_false_iff.mpr c30
                        subst c30
                        have H1 : ((decomp_within.f a0 8544 8555).bind fun t143 => (if t143 = true then ((decomp_numbers.f false).bind fun t144 => (if 0 ≤ (wrap32 (a0 - 8544)) then (if (wrap32 (a0 - 8544)) < (t144.length : Int) then ((decomp_list.f kj22 (rdOf ByteArray.empty t144 (wrap32 (a0 - 8544)))).bind fun t148 => (some t148)) else (none)) else (none))) else ((decomp_within.f a0 8560 8571).bind fun t151 => (if t151 = true then ((decomp_numbers.f true).bind fun t152 => (if 0 ≤ (wrap32 (a0 - 8560)) then (if (wrap32 (a0 - 8560)) < (t152.length : Int) then ((decomp_list.f kj22 (rdOf ByteArray.empty t152 (wrap32 (a0 - 8560)))).bind fun t156 => (some t156)) else (none)) else (none))) else ((decomp_within.f a0 64256 64261).bind fun t159 => (if t159 = true then ((some (([(⟨#[102, 102]⟩ : ByteArray), (⟨#[102, 105]⟩ : ByteArray), (⟨#[102, 108]⟩ : ByteArray), (⟨#[102, 102, 105]⟩ : ByteArray), (⟨#[102, 102, 108]⟩ : ByteArray), (⟨#[197, 191, 116]⟩ : ByteArray)] : List ByteArray) : List ByteArray)).bind fun y160 => (if 0 ≤ (wrap32 (a0 - 64256)) then (if (wrap32 (a0 - 64256)) < (y160.length : Int) then ((decomp_list.f kj22 (rdOf ByteArray.empty y160 (wrap32 (a0 - 64256)))).bind fun t164 => (some t164)) else (none)) else (none))) else ((decomp_within.f a0 65281 65374).bind fun t167 => (if t167 = true then (some (([wrap32 ((wrap32 (a0 - 65281)) + 33)] : List Int))) else (some ([] : List Int)))))))))) = some r := by rw [if_neg (show ¬ (false = true) by decide)] at H; exact H
                        clear H
                        have H := H1
                        clear H1
                        replace H := Option.bind_eq_some_iff.mp H
                        obtain ⟨t143, A330, H⟩ := H
                        replace H : (if t143 = true then ((decomp_numbers.f false).bind fun t144 => (if 0 ≤ (wrap32 (a0 - 8544)) then (if (wrap32 (a0 - 8544)) < (t144.length : Int) then ((decomp_list.f kj22 (rdOf ByteArray.empty t144 (wrap32 (a0 - 8544)))).bind fun t148 => (some t148)) else (none)) else (none))) else ((decomp_within.f a0 8560 8571).bind fun t151 => (if t151 = true then ((decomp_numbers.f true).bind fun t152 => (if 0 ≤ (wrap32 (a0 - 8560)) then (if (wrap32 (a0 - 8560)) < (t152.length : Int) then ((decomp_list.f kj22 (rdOf ByteArray.empty t152 (wrap32 (a0 - 8560)))).bind fun t156 => (some t156)) else (none)) else (none))) else ((decomp_within.f a0 64256 64261).bind fun t159 => (if t159 = true then ((some (([(⟨#[102, 102]⟩ : ByteArray), (⟨#[102, 105]⟩ : ByteArray), (⟨#[102, 108]⟩ : ByteArray), (⟨#[102, 102, 105]⟩ : ByteArray), (⟨#[102, 102, 108]⟩ : ByteArray), (⟨#[197, 191, 116]⟩ : ByteArray)] : List ByteArray) : List ByteArray)).bind fun y160 => (if 0 ≤ (wrap32 (a0 - 64256)) then (if (wrap32 (a0 - 64256)) < (y160.length : Int) then ((decomp_list.f kj22 (rdOf ByteArray.empty y160 (wrap32 (a0 - 64256)))).bind fun t164 => (some t164)) else (none)) else (none))) else ((decomp_within.f a0 65281 65374).bind fun t167 => (if t167 = true then (some (([wrap32 ((wrap32 (a0 - 65281)) + 33)] : List Int))) else (some ([] : List Int))))))))) = some r := H
                        have A33 := Aside0.mk A330
                        clear A330
                        by_cases c34 : t143 = true
                        · subst c34
                          have H1 : ((decomp_numbers.f false).bind fun t144 => (if 0 ≤ (wrap32 (a0 - 8544)) then (if (wrap32 (a0 - 8544)) < (t144.length : Int) then ((decomp_list.f kj22 (rdOf ByteArray.empty t144 (wrap32 (a0 - 8544)))).bind fun t148 => (some t148)) else (none)) else (none))) = some r := by rw [if_pos rfl] at H; exact H
                          clear H
                          have H := H1
                          clear H1
                          replace H := Option.bind_eq_some_iff.mp H
                          obtain ⟨t144, A350, H⟩ := H
                          replace H : (if 0 ≤ (wrap32 (a0 - 8544)) then (if (wrap32 (a0 - 8544)) < (t144.length : Int) then ((decomp_list.f kj22 (rdOf ByteArray.empty t144 (wrap32 (a0 - 8544)))).bind fun t148 => (some t148)) else (none)) else (none)) = some r := H
                          have A35 := Aside0.mk A350
                          clear A350
                          obtain ⟨ji36, hji36⟩ : ∃ j_ : Int, (wrap32 (a0 - 8544)) = j_ := ⟨_, rfl⟩
                          replace H : (if 0 ≤ (ji36) then (if (ji36) < (t144.length : Int) then ((decomp_list.f kj22 (rdOf ByteArray.empty t144 (ji36))).bind fun t148 => (some t148)) else (none)) else (none)) = some r := by first | (rw [hji36] at H; exact H) | (simp only [hji36] at H ⊢; exact H)
                          (try rw [hji36] at A29)
                          (try rw [hji36] at A33)
                          (try rw [hji36] at A35)
                          have hji36w : (IntKind.i32.wrap (a0 - 8544)) = ji36 := (i32_w _).trans hji36
                          by_cases c37 : 0 ≤ (ji36)
                          · rw [if_pos c37] at H
                            have c37b0 : decide (0 ≤ (ji36)) = true := decide_eq_true c37
                            clear c37
                            by_cases c38 : (ji36) < (t144.length : Int)
                            · rw [if_pos c38] at H
                              have c38b0 : decide ((ji36) < (t144.length : Int)) = true := decide_eq_true c38
                              clear c38
                              replace H := Option.bind_eq_some_iff.mp H
                              obtain ⟨t148, A390, H⟩ := H
                              replace H : (some t148) = some r := H
                              have A39 := Aside0.mk A390
                              clear A390
                              obtain rfl := Option.some.inj H
                              go_wp2_with (first | ((with_reducible refine gate_callee (f := 70) rfl ?_); refine goesL_ (some 51) rfl rfl Try.func70 (by kernel_rfl) rfl #[.int .i32 a0, .int .i32 8320, .int .i32 8329] rfl (by (try simp only [List.map_toArray, List.map_cons, List.map_nil]); first | done | rfl | (simp only [List.length_drop, List.length_take]; rfl)) ?_; (with_reducible refine (decomp_within.calls a0 8320 8329 false _ A29.out).mono ?_); rintro e w' ⟨rfl, ⟨nd, rfl⟩⟩; (try clear A29); refine ⟨_, rfl, ?_⟩) | ((with_reducible refine gate_callee (f := 70) rfl ?_); refine goesL_ (some 58) rfl rfl Try.func70 (by kernel_rfl) rfl #[.int .i32 a0, .int .i32 8544, .int .i32 8555] rfl (by (try simp only [List.map_toArray, List.map_cons, List.map_nil]); first | done | rfl | (simp only [List.length_drop, List.length_take]; rfl)) ?_; (with_reducible refine (decomp_within.calls a0 8544 8555 true _ A33.out).mono ?_); rintro e w' ⟨rfl, ⟨nd, rfl⟩⟩; (try clear A33); refine ⟨_, rfl, ?_⟩) | ((with_reducible refine gate_callee (f := 71) rfl ?_); refine goesL_ (some 59) rfl rfl Try.func71 (by kernel_rfl) rfl #[.bool false] rfl (by (try simp only [List.map_toArray, List.map_cons, List.map_nil]); first | done | rfl | (simp only [List.length_drop, List.length_take]; rfl)) ?_; (with_reducible refine (decomp_numbers.calls false t144 _ A35.out).mono ?_); rintro e w40 ⟨v145, rfl, ho0, hb⟩; (try clear A35); refine ⟨_, rfl, ?_⟩; have n0_ := Aside0.mk (Kd.R_lower ho0 (below_size (by repeat (first | (with_reducible first | exact HB.out | apply below_alloc | apply pw_below_drewN | apply below_drew1) | exact HB.out)))); have n1_ := Aside0.mk (below_step (by repeat (first | (with_reducible first | exact HB.out | apply below_alloc | apply pw_below_drewN | apply below_drew1) | exact HB.out)) hb); clear HB; have HO146 := n0_; have HB := n1_; clear n0_ n1_; (try clear hb); (try clear hb2); (try clear hk); (try clear hi); (try clear ho0); obtain ⟨Ao41, co41, eo41⟩ := Kd.R_slice HO146.out; subst eo41; have p147 : 0 ≤ ((ji36) : Int) := of_decide_eq_true (by first | (with_reducible assumption) | assumption); have q147 : (ji36) < (t144.length : Int) := of_decide_eq_true (by first | (with_reducible assumption) | assumption); obtain ⟨ad147, e147, hx147_0⟩ := Kd.at_string (Kd.R_reads' HO146.out).2.2 (ji36) p147 q147; cases e147; replace p147 := eq_true p147; replace q147 := eq_true q147) | ((with_reducible refine gate_callee (f := 69) rfl ?_); refine goesL_ (some 64) rfl rfl Try.func69 (by kernel_rfl) rfl #[.string (rdOf ByteArray.empty t144 (ji36))] rfl (by (try simp only [List.map_toArray, List.map_cons, List.map_nil]); first | done | (simp only [hji36]; rfl) | rfl | (simp only [List.length_drop, List.length_take]; rfl)) ?_; (with_reducible refine (decomp_list.calls kj22 (rdOf ByteArray.empty t144 (ji36)) t148 _ A39.out).mono ?_); rintro e w42 ⟨v149, rfl, ho0, hb⟩; (try clear A39); refine ⟨_, rfl, ?_⟩; have n0_ := Aside0.mk (Kd.R_below (by (with_reducible repeat (first | apply Kd.R_alloc | apply Kd.R_drewN | apply Kd.R_drew)); exact HO146.out) hb); have n1_ := Aside0.mk (Kd.R_lower ho0 (below_size (by repeat (first | (with_reducible first | exact HB.out | apply below_alloc | apply pw_below_drewN | apply below_drew1) | exact HB.out)))); have n2_ := Aside0.mk (below_step (by repeat (first | (with_reducible first | exact HB.out | apply below_alloc | apply pw_below_drewN | apply below_drew1) | exact HB.out)) hb); clear HO146; clear HB; have HO146 := n0_; have HO150 := n1_; have HB := n2_; clear n0_ n1_ n2_; (try clear hb); (try clear hb2); (try clear hk); (try clear hi); (try clear ho0)))
                              go_ret
                              exact ⟨_, by first | rfl | (simp [errW_none, errW_some] <;> rfl) | (simp only [← hji36]; first | rfl | (simp [errW_none, errW_some] <;> rfl)) | (simp [*, errW_none, errW_some] <;> rfl), by (with_reducible repeat (first | apply Kd.R_alloc | apply Kd.R_drewN | apply Kd.R_drew)); exact HO150.out, by repeat (first | (with_reducible first | exact HB.out | apply below_alloc | apply pw_below_drewN | apply below_drew1) | exact HB.out)⟩
                            · rw [if_neg c38] at H
                              exact absurd H (by simp)
                          · rw [if_neg c37] at H
                            exact absurd H (by simp)
                        · replace c34 := Bool.eq_false_iff.mpr c34
                          subst c34
                          have H1 : ((decomp_within.f a0 8560 8571).bind fun t151 => (if t151 = true then ((decomp_numbers.f true).bind fun t152 => (if 0 ≤ (wrap32 (a0 - 8560)) then (if (wrap32 (a0 - 8560)) < (t152.length : Int) then ((decomp_list.f kj22 (rdOf ByteArray.empty t152 (wrap32 (a0 - 8560)))).bind fun t156 => (some t156)) else (none)) else (none))) else ((decomp_within.f a0 64256 64261).bind fun t159 => (if t159 = true then ((some (([(⟨#[102, 102]⟩ : ByteArray), (⟨#[102, 105]⟩ : ByteArray), (⟨#[102, 108]⟩ : ByteArray), (⟨#[102, 102, 105]⟩ : ByteArray), (⟨#[102, 102, 108]⟩ : ByteArray), (⟨#[197, 191, 116]⟩ : ByteArray)] : List ByteArray) : List ByteArray)).bind fun y160 => (if 0 ≤ (wrap32 (a0 - 64256)) then (if (wrap32 (a0 - 64256)) < (y160.length : Int) then ((decomp_list.f kj22 (rdOf ByteArray.empty y160 (wrap32 (a0 - 64256)))).bind fun t164 => (some t164)) else (none)) else (none))) else ((decomp_within.f a0 65281 65374).bind fun t167 => (if t167 = true then (some (([wrap32 ((wrap32 (a0 - 65281)) + 33)] : List Int))) else (some ([] : List Int)))))))) = some r := by rw [if_neg (show ¬ (false = true) by decide)] at H; exact H
                          clear H
                          have H := H1
                          clear H1
                          replace H := Option.bind_eq_some_iff.mp H
                          obtain ⟨t151, A430, H⟩ := H
                          replace H : (if t151 = true then ((decomp_numbers.f true).bind fun t152 => (if 0 ≤ (wrap32 (a0 - 8560)) then (if (wrap32 (a0 - 8560)) < (t152.length : Int) then ((decomp_list.f kj22 (rdOf ByteArray.empty t152 (wrap32 (a0 - 8560)))).bind fun t156 => (some t156)) else (none)) else (none))) else ((decomp_within.f a0 64256 64261).bind fun t159 => (if t159 = true then ((some (([(⟨#[102, 102]⟩ : ByteArray), (⟨#[102, 105]⟩ : ByteArray), (⟨#[102, 108]⟩ : ByteArray), (⟨#[102, 102, 105]⟩ : ByteArray), (⟨#[102, 102, 108]⟩ : ByteArray), (⟨#[197, 191, 116]⟩ : ByteArray)] : List ByteArray) : List ByteArray)).bind fun y160 => (if 0 ≤ (wrap32 (a0 - 64256)) then (if (wrap32 (a0 - 64256)) < (y160.length : Int) then ((decomp_list.f kj22 (rdOf ByteArray.empty y160 (wrap32 (a0 - 64256)))).bind fun t164 => (some t164)) else (none)) else (none))) else ((decomp_within.f a0 65281 65374).bind fun t167 => (if t167 = true then (some (([wrap32 ((wrap32 (a0 - 65281)) + 33)] : List Int))) else (some ([] : List Int))))))) = some r := H
                          have A43 := Aside0.mk A430
                          clear A430
                          by_cases c44 : t151 = true
                          · subst c44
                            have H1 : ((decomp_numbers.f true).bind fun t152 => (if 0 ≤ (wrap32 (a0 - 8560)) then (if (wrap32 (a0 - 8560)) < (t152.length : Int) then ((decomp_list.f kj22 (rdOf ByteArray.empty t152 (wrap32 (a0 - 8560)))).bind fun t156 => (some t156)) else (none)) else (none))) = some r := by rw [if_pos rfl] at H; exact H
                            clear H
                            have H := H1
                            clear H1
                            replace H := Option.bind_eq_some_iff.mp H
                            obtain ⟨t152, A450, H⟩ := H
                            replace H : (if 0 ≤ (wrap32 (a0 - 8560)) then (if (wrap32 (a0 - 8560)) < (t152.length : Int) then ((decomp_list.f kj22 (rdOf ByteArray.empty t152 (wrap32 (a0 - 8560)))).bind fun t156 => (some t156)) else (none)) else (none)) = some r := H
                            have A45 := Aside0.mk A450
                            clear A450
                            obtain ⟨ji46, hji46⟩ : ∃ j_ : Int, (wrap32 (a0 - 8560)) = j_ := ⟨_, rfl⟩
                            replace H : (if 0 ≤ (ji46) then (if (ji46) < (t152.length : Int) then ((decomp_list.f kj22 (rdOf ByteArray.empty t152 (ji46))).bind fun t156 => (some t156)) else (none)) else (none)) = some r := by first | (rw [hji46] at H; exact H) | (simp only [hji46] at H ⊢; exact H)
                            (try rw [hji46] at A29)
                            (try rw [hji46] at A33)
                            (try rw [hji46] at A43)
                            (try rw [hji46] at A45)
                            have hji46w : (IntKind.i32.wrap (a0 - 8560)) = ji46 := (i32_w _).trans hji46
                            by_cases c47 : 0 ≤ (ji46)
                            · rw [if_pos c47] at H
                              have c47b0 : decide (0 ≤ (ji46)) = true := decide_eq_true c47
                              clear c47
                              by_cases c48 : (ji46) < (t152.length : Int)
                              · rw [if_pos c48] at H
                                have c48b0 : decide ((ji46) < (t152.length : Int)) = true := decide_eq_true c48
                                clear c48
                                replace H := Option.bind_eq_some_iff.mp H
                                obtain ⟨t156, A490, H⟩ := H
                                replace H : (some t156) = some r := H
                                have A49 := Aside0.mk A490
                                clear A490
                                obtain rfl := Option.some.inj H
                                go_wp2_with (first | ((with_reducible refine gate_callee (f := 70) rfl ?_); refine goesL_ (some 51) rfl rfl Try.func70 (by kernel_rfl) rfl #[.int .i32 a0, .int .i32 8320, .int .i32 8329] rfl (by (try simp only [List.map_toArray, List.map_cons, List.map_nil]); first | done | rfl | (simp only [List.length_drop, List.length_take]; rfl)) ?_; (with_reducible refine (decomp_within.calls a0 8320 8329 false _ A29.out).mono ?_); rintro e w' ⟨rfl, ⟨nd, rfl⟩⟩; (try clear A29); refine ⟨_, rfl, ?_⟩) | ((with_reducible refine gate_callee (f := 70) rfl ?_); refine goesL_ (some 58) rfl rfl Try.func70 (by kernel_rfl) rfl #[.int .i32 a0, .int .i32 8544, .int .i32 8555] rfl (by (try simp only [List.map_toArray, List.map_cons, List.map_nil]); first | done | rfl | (simp only [List.length_drop, List.length_take]; rfl)) ?_; (with_reducible refine (decomp_within.calls a0 8544 8555 false _ A33.out).mono ?_); rintro e w' ⟨rfl, ⟨nd, rfl⟩⟩; (try clear A33); refine ⟨_, rfl, ?_⟩) | ((with_reducible refine gate_callee (f := 70) rfl ?_); refine goesL_ (some 67) rfl rfl Try.func70 (by kernel_rfl) rfl #[.int .i32 a0, .int .i32 8560, .int .i32 8571] rfl (by (try simp only [List.map_toArray, List.map_cons, List.map_nil]); first | done | rfl | (simp only [List.length_drop, List.length_take]; rfl)) ?_; (with_reducible refine (decomp_within.calls a0 8560 8571 true _ A43.out).mono ?_); rintro e w' ⟨rfl, ⟨nd, rfl⟩⟩; (try clear A43); refine ⟨_, rfl, ?_⟩) | ((with_reducible refine gate_callee (f := 71) rfl ?_); refine goesL_ (some 68) rfl rfl Try.func71 (by kernel_rfl) rfl #[.bool true] rfl (by (try simp only [List.map_toArray, List.map_cons, List.map_nil]); first | done | rfl | (simp only [List.length_drop, List.length_take]; rfl)) ?_; (with_reducible refine (decomp_numbers.calls true t152 _ A45.out).mono ?_); rintro e w50 ⟨v153, rfl, ho0, hb⟩; (try clear A45); refine ⟨_, rfl, ?_⟩; have n0_ := Aside0.mk (Kd.R_lower ho0 (below_size (by repeat (first | (with_reducible first | exact HB.out | apply below_alloc | apply pw_below_drewN | apply below_drew1) | exact HB.out)))); have n1_ := Aside0.mk (below_step (by repeat (first | (with_reducible first | exact HB.out | apply below_alloc | apply pw_below_drewN | apply below_drew1) | exact HB.out)) hb); clear HB; have HO154 := n0_; have HB := n1_; clear n0_ n1_; (try clear hb); (try clear hb2); (try clear hk); (try clear hi); (try clear ho0); obtain ⟨Ao51, co51, eo51⟩ := Kd.R_slice HO154.out; subst eo51; have p155 : 0 ≤ ((ji46) : Int) := of_decide_eq_true (by first | (with_reducible assumption) | assumption); have q155 : (ji46) < (t152.length : Int) := of_decide_eq_true (by first | (with_reducible assumption) | assumption); obtain ⟨ad155, e155, hx155_0⟩ := Kd.at_string (Kd.R_reads' HO154.out).2.2 (ji46) p155 q155; cases e155; replace p155 := eq_true p155; replace q155 := eq_true q155) | ((with_reducible refine gate_callee (f := 69) rfl ?_); refine goesL_ (some 73) rfl rfl Try.func69 (by kernel_rfl) rfl #[.string (rdOf ByteArray.empty t152 (ji46))] rfl (by (try simp only [List.map_toArray, List.map_cons, List.map_nil]); first | done | (simp only [hji46]; rfl) | rfl | (simp only [List.length_drop, List.length_take]; rfl)) ?_; (with_reducible refine (decomp_list.calls kj22 (rdOf ByteArray.empty t152 (ji46)) t156 _ A49.out).mono ?_); rintro e w52 ⟨v157, rfl, ho0, hb⟩; (try clear A49); refine ⟨_, rfl, ?_⟩; have n0_ := Aside0.mk (Kd.R_below (by (with_reducible repeat (first | apply Kd.R_alloc | apply Kd.R_drewN | apply Kd.R_drew)); exact HO154.out) hb); have n1_ := Aside0.mk (Kd.R_lower ho0 (below_size (by repeat (first | (with_reducible first | exact HB.out | apply below_alloc | apply pw_below_drewN | apply below_drew1) | exact HB.out)))); have n2_ := Aside0.mk (below_step (by repeat (first | (with_reducible first | exact HB.out | apply below_alloc | apply pw_below_drewN | apply below_drew1) | exact HB.out)) hb); clear HO154; clear HB; have HO154 := n0_; have HO158 := n1_; have HB := n2_; clear n0_ n1_ n2_; (try clear hb); (try clear hb2); (try clear hk); (try clear hi); (try clear ho0)))
                                go_ret
                                exact ⟨_, by first | rfl | (simp [errW_none, errW_some] <;> rfl) | (simp only [← hji46]; first | rfl | (simp [errW_none, errW_some] <;> rfl)) | (simp [*, errW_none, errW_some] <;> rfl), by (with_reducible repeat (first | apply Kd.R_alloc | apply Kd.R_drewN | apply Kd.R_drew)); exact HO158.out, by repeat (first | (with_reducible first | exact HB.out | apply below_alloc | apply pw_below_drewN | apply below_drew1) | exact HB.out)⟩
                              · rw [if_neg c48] at H
                                exact absurd H (by simp)
                            · rw [if_neg c47] at H
                              exact absurd H (by simp)
                          · replace c44 := Bool.eq_false_iff.mpr c44
                            subst c44
                            have H1 : ((decomp_within.f a0 64256 64261).bind fun t159 => (if t159 = true then ((some (([(⟨#[102, 102]⟩ : ByteArray), (⟨#[102, 105]⟩ : ByteArray), (⟨#[102, 108]⟩ : ByteArray), (⟨#[102, 102, 105]⟩ : ByteArray), (⟨#[102, 102, 108]⟩ : ByteArray), (⟨#[197, 191, 116]⟩ : ByteArray)] : List ByteArray) : List ByteArray)).bind fun y160 => (if 0 ≤ (wrap32 (a0 - 64256)) then (if (wrap32 (a0 - 64256)) < (y160.length : Int) then ((decomp_list.f kj22 (rdOf ByteArray.empty y160 (wrap32 (a0 - 64256)))).bind fun t164 => (some t164)) else (none)) else (none))) else ((decomp_within.f a0 65281 65374).bind fun t167 => (if t167 = true then (some (([wrap32 ((wrap32 (a0 - 65281)) + 33)] : List Int))) else (some ([] : List Int)))))) = some r := by rw [if_neg (show ¬ (false = true) by decide)] at H; exact H
                            clear H
                            have H := H1
                            clear H1
                            replace H := Option.bind_eq_some_iff.mp H
                            obtain ⟨t159, A530, H⟩ := H
                            replace H : (if t159 = true then ((some (([(⟨#[102, 102]⟩ : ByteArray), (⟨#[102, 105]⟩ : ByteArray), (⟨#[102, 108]⟩ : ByteArray), (⟨#[102, 102, 105]⟩ : ByteArray), (⟨#[102, 102, 108]⟩ : ByteArray), (⟨#[197, 191, 116]⟩ : ByteArray)] : List ByteArray) : List ByteArray)).bind fun y160 => (if 0 ≤ (wrap32 (a0 - 64256)) then (if (wrap32 (a0 - 64256)) < (y160.length : Int) then ((decomp_list.f kj22 (rdOf ByteArray.empty y160 (wrap32 (a0 - 64256)))).bind fun t164 => (some t164)) else (none)) else (none))) else ((decomp_within.f a0 65281 65374).bind fun t167 => (if t167 = true then (some (([wrap32 ((wrap32 (a0 - 65281)) + 33)] : List Int))) else (some ([] : List Int))))) = some r := H
                            have A53 := Aside0.mk A530
                            clear A530
                            by_cases c54 : t159 = true
                            · subst c54
                              have H1 : ((some (([(⟨#[102, 102]⟩ : ByteArray), (⟨#[102, 105]⟩ : ByteArray), (⟨#[102, 108]⟩ : ByteArray), (⟨#[102, 102, 105]⟩ : ByteArray), (⟨#[102, 102, 108]⟩ : ByteArray), (⟨#[197, 191, 116]⟩ : ByteArray)] : List ByteArray) : List ByteArray)).bind fun y160 => (if 0 ≤ (wrap32 (a0 - 64256)) then (if (wrap32 (a0 - 64256)) < (y160.length : Int) then ((decomp_list.f kj22 (rdOf ByteArray.empty y160 (wrap32 (a0 - 64256)))).bind fun t164 => (some t164)) else (none)) else (none))) = some r := by rw [if_pos rfl] at H; exact H
                              clear H
                              have H := H1
                              clear H1
                              obtain ⟨y160, hy160⟩ : ∃ y_ : List ByteArray, y_ = (([(⟨#[102, 102]⟩ : ByteArray), (⟨#[102, 105]⟩ : ByteArray), (⟨#[102, 108]⟩ : ByteArray), (⟨#[102, 102, 105]⟩ : ByteArray), (⟨#[102, 102, 108]⟩ : ByteArray), (⟨#[197, 191, 116]⟩ : ByteArray)] : List ByteArray)) := ⟨_, rfl⟩
                              replace H : (if 0 ≤ (wrap32 (a0 - 64256)) then (if (wrap32 (a0 - 64256)) < (y160.length : Int) then ((decomp_list.f kj22 (rdOf ByteArray.empty y160 (wrap32 (a0 - 64256)))).bind fun t164 => (some t164)) else (none)) else (none)) = some r := by first | (rw [hy160]; with_reducible exact H) | (have H2_ := (Option.bind_some _ _).symm.trans H; rw [hy160]; with_reducible exact H2_) | (have H2_ := (Option.bind_some _ _).symm.trans H; with_reducible exact H2_) | with_reducible exact H | (rw [hy160]; exact H) | exact H
                              have Ny160 := Aside0.mk hy160
                              clear hy160
                              obtain ⟨ji55, hji55⟩ : ∃ j_ : Int, (wrap32 (a0 - 64256)) = j_ := ⟨_, rfl⟩
                              replace H : (if 0 ≤ (ji55) then (if (ji55) < (y160.length : Int) then ((decomp_list.f kj22 (rdOf ByteArray.empty y160 (ji55))).bind fun t164 => (some t164)) else (none)) else (none)) = some r := by first | (rw [hji55] at H; exact H) | (simp only [hji55] at H ⊢; exact H)
                              (try rw [hji55] at A29)
                              (try rw [hji55] at A33)
                              (try rw [hji55] at A43)
                              (try rw [hji55] at A53)
                              have hji55w : (IntKind.i32.wrap (a0 - 64256)) = ji55 := (i32_w _).trans hji55
                              by_cases c56 : 0 ≤ (ji55)
                              · rw [if_pos c56] at H
                                have c56b0 : decide (0 ≤ (ji55)) = true := decide_eq_true c56
                                clear c56
                                by_cases c57 : (ji55) < (y160.length : Int)
                                · rw [if_pos c57] at H
                                  have c57b0 : decide ((ji55) < (y160.length : Int)) = true := decide_eq_true c57
                                  clear c57
                                  replace H := Option.bind_eq_some_iff.mp H
                                  obtain ⟨t164, A580, H⟩ := H
                                  replace H : (some t164) = some r := H
                                  have A58 := Aside0.mk A580
                                  clear A580
                                  obtain rfl := Option.some.inj H
                                  go_wp2_with (first | ((with_reducible refine gate_callee (f := 70) rfl ?_); refine goesL_ (some 51) rfl rfl Try.func70 (by kernel_rfl) rfl #[.int .i32 a0, .int .i32 8320, .int .i32 8329] rfl (by (try simp only [List.map_toArray, List.map_cons, List.map_nil]); first | done | rfl | (simp only [List.length_drop, List.length_take]; rfl)) ?_; (with_reducible refine (decomp_within.calls a0 8320 8329 false _ A29.out).mono ?_); rintro e w' ⟨rfl, ⟨nd, rfl⟩⟩; (try clear A29); refine ⟨_, rfl, ?_⟩) | ((with_reducible refine gate_callee (f := 70) rfl ?_); refine goesL_ (some 58) rfl rfl Try.func70 (by kernel_rfl) rfl #[.int .i32 a0, .int .i32 8544, .int .i32 8555] rfl (by (try simp only [List.map_toArray, List.map_cons, List.map_nil]); first | done | rfl | (simp only [List.length_drop, List.length_take]; rfl)) ?_; (with_reducible refine (decomp_within.calls a0 8544 8555 false _ A33.out).mono ?_); rintro e w' ⟨rfl, ⟨nd, rfl⟩⟩; (try clear A33); refine ⟨_, rfl, ?_⟩) | ((with_reducible refine gate_callee (f := 70) rfl ?_); refine goesL_ (some 67) rfl rfl Try.func70 (by kernel_rfl) rfl #[.int .i32 a0, .int .i32 8560, .int .i32 8571] rfl (by (try simp only [List.map_toArray, List.map_cons, List.map_nil]); first | done | rfl | (simp only [List.length_drop, List.length_take]; rfl)) ?_; (with_reducible refine (decomp_within.calls a0 8560 8571 false _ A43.out).mono ?_); rintro e w' ⟨rfl, ⟨nd, rfl⟩⟩; (try clear A43); refine ⟨_, rfl, ?_⟩) | ((with_reducible refine gate_callee (f := 70) rfl ?_); refine goesL_ (some 76) rfl rfl Try.func70 (by kernel_rfl) rfl #[.int .i32 a0, .int .i32 64256, .int .i32 64261] rfl (by (try simp only [List.map_toArray, List.map_cons, List.map_nil]); first | done | rfl | (simp only [List.length_drop, List.length_take]; rfl)) ?_; (with_reducible refine (decomp_within.calls a0 64256 64261 true _ A53.out).mono ?_); rintro e w' ⟨rfl, ⟨nd, rfl⟩⟩; (try clear A53); refine ⟨_, rfl, ?_⟩) | ((with_reducible refine gate_dst (N := 77) rfl ?_); refine Kd.R_lit Kd.string _ 9 ?hg (N := 77) ?hd (xs := ([(⟨#[102, 102]⟩ : ByteArray), (⟨#[102, 105]⟩ : ByteArray), (⟨#[102, 108]⟩ : ByteArray), (⟨#[102, 102, 105]⟩ : ByteArray), (⟨#[102, 102, 108]⟩ : ByteArray), (⟨#[197, 191, 116]⟩ : ByteArray)] : List ByteArray)) (inner := [.string (⟨#[102, 102]⟩ : ByteArray), .string (⟨#[102, 105]⟩ : ByteArray), .string (⟨#[102, 108]⟩ : ByteArray), .string (⟨#[102, 102, 105]⟩ : ByteArray), .string (⟨#[102, 102, 108]⟩ : ByteArray), .string (⟨#[197, 191, 116]⟩ : ByteArray)]) (ok := fun _ => True) (okp := fun _ => True) ?hr ?hp (fun _ hk => hk) trivial (Below.refl _ _) (Nat.le_refl _) (by simp) ?_; (case hd => rfl); (case hg => rfl); (case hr => first | (go_simp; done) | (go_simp; rfl)); (case hp => exact (Reps.one (show Kd.M Kd.string _ _ _ (⟨#[102, 102]⟩ : ByteArray) [.string (⟨#[102, 102]⟩ : ByteArray)] from rfl) (Reps.one (show Kd.M Kd.string _ _ _ (⟨#[102, 105]⟩ : ByteArray) [.string (⟨#[102, 105]⟩ : ByteArray)] from rfl) (Reps.one (show Kd.M Kd.string _ _ _ (⟨#[102, 108]⟩ : ByteArray) [.string (⟨#[102, 108]⟩ : ByteArray)] from rfl) (Reps.one (show Kd.M Kd.string _ _ _ (⟨#[102, 102, 105]⟩ : ByteArray) [.string (⟨#[102, 102, 105]⟩ : ByteArray)] from rfl) (Reps.one (show Kd.M Kd.string _ _ _ (⟨#[102, 102, 108]⟩ : ByteArray) [.string (⟨#[102, 102, 108]⟩ : ByteArray)] from rfl) (Reps.one (show Kd.M Kd.string _ _ _ (⟨#[197, 191, 116]⟩ : ByteArray) [.string (⟨#[197, 191, 116]⟩ : ByteArray)] from rfl) (Reps.none _ _)))))))); intro v161 w59 ho60 hb hg_ hnew_; clear hg_ hnew_; (first | rw [← Ny160.out] at ho60 | (simp only [Int.reduceToNat] at ho60; rw [← Ny160.out] at ho60)); have n0_ := Aside0.mk (Kd.R_lower ho60 (below_size (by repeat (first | (with_reducible first | exact HB.out | apply below_alloc | apply pw_below_drewN | apply below_drew1) | exact HB.out)))); have n1_ := Aside0.mk (below_step (by repeat (first | (with_reducible first | exact HB.out | apply below_alloc | apply pw_below_drewN | apply below_drew1) | exact HB.out)) hb); clear HB; have HO162 := n0_; have HB := n1_; clear n0_ n1_; clear hb ho60; obtain ⟨Ao61, co61, eo61⟩ := Kd.R_slice HO162.out; subst eo61; have p163 : 0 ≤ ((ji55) : Int) := of_decide_eq_true (by first | (with_reducible assumption) | assumption); have q163 : (ji55) < (y160.length : Int) := of_decide_eq_true (by first | (with_reducible assumption) | assumption); obtain ⟨ad163, e163, hx163_0⟩ := Kd.at_string (Kd.R_reads' HO162.out).2.2 (ji55) p163 q163; cases e163; replace p163 := eq_true p163; replace q163 := eq_true q163) | ((with_reducible refine gate_callee (f := 69) rfl ?_); refine goesL_ (some 82) rfl rfl Try.func69 (by kernel_rfl) rfl #[.string (rdOf ByteArray.empty y160 (ji55))] rfl (by (try simp only [List.map_toArray, List.map_cons, List.map_nil]); first | done | (simp only [hji55]; rfl) | rfl | (simp only [List.length_drop, List.length_take]; rfl)) ?_; (with_reducible refine (decomp_list.calls kj22 (rdOf ByteArray.empty y160 (ji55)) t164 _ A58.out).mono ?_); rintro e w62 ⟨v165, rfl, ho0, hb⟩; (try clear A58); refine ⟨_, rfl, ?_⟩; have n0_ := Aside0.mk (Kd.R_below (by (with_reducible repeat (first | apply Kd.R_alloc | apply Kd.R_drewN | apply Kd.R_drew)); exact HO162.out) hb); have n1_ := Aside0.mk (Kd.R_lower ho0 (below_size (by repeat (first | (with_reducible first | exact HB.out | apply below_alloc | apply pw_below_drewN | apply below_drew1) | exact HB.out)))); have n2_ := Aside0.mk (below_step (by repeat (first | (with_reducible first | exact HB.out | apply below_alloc | apply pw_below_drewN | apply below_drew1) | exact HB.out)) hb); clear HO162; clear HB; have HO162 := n0_; have HO166 := n1_; have HB := n2_; clear n0_ n1_ n2_; (try clear hb); (try clear hb2); (try clear hk); (try clear hi); (try clear ho0)))
                                  go_ret
                                  exact ⟨_, by first | rfl | (simp [errW_none, errW_some] <;> rfl) | (simp only [← hji55]; first | rfl | (simp [errW_none, errW_some] <;> rfl)) | (simp [*, errW_none, errW_some] <;> rfl), by (with_reducible repeat (first | apply Kd.R_alloc | apply Kd.R_drewN | apply Kd.R_drew)); exact HO166.out, by repeat (first | (with_reducible first | exact HB.out | apply below_alloc | apply pw_below_drewN | apply below_drew1) | exact HB.out)⟩
                                · rw [if_neg c57] at H
                                  exact absurd H (by simp)
                              · rw [if_neg c56] at H
                                exact absurd H (by simp)
                            · replace c54 := Bool.eq_false_iff.mpr c54
                              subst c54
                              have H1 : ((decomp_within.f a0 65281 65374).bind fun t167 => (if t167 = true then (some (([wrap32 ((wrap32 (a0 - 65281)) + 33)] : List Int))) else (some ([] : List Int)))) = some r := by rw [if_neg (show ¬ (false = true) by decide)] at H; exact H
                              clear H
                              have H := H1
                              clear H1
                              replace H := Option.bind_eq_some_iff.mp H
                              obtain ⟨t167, A630, H⟩ := H
                              replace H : (if t167 = true then (some (([wrap32 ((wrap32 (a0 - 65281)) + 33)] : List Int))) else (some ([] : List Int))) = some r := H
                              have A63 := Aside0.mk A630
                              clear A630
                              by_cases c64 : t167 = true
                              · subst c64
                                have H1 : (some (([wrap32 ((wrap32 (a0 - 65281)) + 33)] : List Int))) = some r := by rw [if_pos rfl] at H; exact H
                                clear H
                                have H := H1
                                clear H1
                                obtain ⟨y168, hy168⟩ : ∃ y_ : List Int, y_ = (([wrap32 ((wrap32 (a0 - 65281)) + 33)] : List Int)) := ⟨_, rfl⟩
                                replace H : (some y168) = some r := by first | (rw [hy168]; with_reducible exact H) | (have H2_ := (Option.bind_some _ _).symm.trans H; rw [hy168]; with_reducible exact H2_) | (have H2_ := (Option.bind_some _ _).symm.trans H; with_reducible exact H2_) | with_reducible exact H | (rw [hy168]; exact H) | exact H
                                have Ny168 := Aside0.mk hy168
                                clear hy168
                                obtain rfl := Option.some.inj H
                                go_wp2_with (first | ((with_reducible refine gate_callee (f := 70) rfl ?_); refine goesL_ (some 51) rfl rfl Try.func70 (by kernel_rfl) rfl #[.int .i32 a0, .int .i32 8320, .int .i32 8329] rfl (by (try simp only [List.map_toArray, List.map_cons, List.map_nil]); first | done | rfl | (simp only [List.length_drop, List.length_take]; rfl)) ?_; (with_reducible refine (decomp_within.calls a0 8320 8329 false _ A29.out).mono ?_); rintro e w' ⟨rfl, ⟨nd, rfl⟩⟩; (try clear A29); refine ⟨_, rfl, ?_⟩) | ((with_reducible refine gate_callee (f := 70) rfl ?_); refine goesL_ (some 58) rfl rfl Try.func70 (by kernel_rfl) rfl #[.int .i32 a0, .int .i32 8544, .int .i32 8555] rfl (by (try simp only [List.map_toArray, List.map_cons, List.map_nil]); first | done | rfl | (simp only [List.length_drop, List.length_take]; rfl)) ?_; (with_reducible refine (decomp_within.calls a0 8544 8555 false _ A33.out).mono ?_); rintro e w' ⟨rfl, ⟨nd, rfl⟩⟩; (try clear A33); refine ⟨_, rfl, ?_⟩) | ((with_reducible refine gate_callee (f := 70) rfl ?_); refine goesL_ (some 67) rfl rfl Try.func70 (by kernel_rfl) rfl #[.int .i32 a0, .int .i32 8560, .int .i32 8571] rfl (by (try simp only [List.map_toArray, List.map_cons, List.map_nil]); first | done | rfl | (simp only [List.length_drop, List.length_take]; rfl)) ?_; (with_reducible refine (decomp_within.calls a0 8560 8571 false _ A43.out).mono ?_); rintro e w' ⟨rfl, ⟨nd, rfl⟩⟩; (try clear A43); refine ⟨_, rfl, ?_⟩) | ((with_reducible refine gate_callee (f := 70) rfl ?_); refine goesL_ (some 76) rfl rfl Try.func70 (by kernel_rfl) rfl #[.int .i32 a0, .int .i32 64256, .int .i32 64261] rfl (by (try simp only [List.map_toArray, List.map_cons, List.map_nil]); first | done | rfl | (simp only [List.length_drop, List.length_take]; rfl)) ?_; (with_reducible refine (decomp_within.calls a0 64256 64261 false _ A53.out).mono ?_); rintro e w' ⟨rfl, ⟨nd, rfl⟩⟩; (try clear A53); refine ⟨_, rfl, ?_⟩) | ((with_reducible refine gate_callee (f := 70) rfl ?_); refine goesL_ (some 85) rfl rfl Try.func70 (by kernel_rfl) rfl #[.int .i32 a0, .int .i32 65281, .int .i32 65374] rfl (by (try simp only [List.map_toArray, List.map_cons, List.map_nil]); first | done | rfl | (simp only [List.length_drop, List.length_take]; rfl)) ?_; (with_reducible refine (decomp_within.calls a0 65281 65374 true _ A63.out).mono ?_); rintro e w' ⟨rfl, ⟨nd, rfl⟩⟩; (try clear A63); refine ⟨_, rfl, ?_⟩) | ((with_reducible refine gate_dst (N := 89) rfl ?_); refine Kd.R_lit (Kd.int .i32) _ 21 ?hg (N := 89) ?hd (xs := ([wrap32 ((wrap32 (a0 - 65281)) + 33)] : List Int)) (inner := [.int .i32 (wrap32 ((wrap32 (a0 - 65281)) + 33))]) (ok := fun _ => True) (okp := fun _ => True) ?hr ?hp (fun _ hk => hk) trivial (Below.refl _ _) (Nat.le_refl _) (by simp) ?_; (case hd => rfl); (case hg => rfl); (case hr => first | (go_simp; done) | (go_simp; rfl)); (case hp => exact (Reps.one (show Kd.M (Kd.int .i32) _ _ _ (wrap32 ((wrap32 (a0 - 65281)) + 33)) [.int .i32 (wrap32 ((wrap32 (a0 - 65281)) + 33))] from rfl) (Reps.none _ _))); intro v169 w65 ho66 hb hg_ hnew_; clear hg_ hnew_; (first | rw [← Ny168.out] at ho66 | (simp only [Int.reduceToNat] at ho66; rw [← Ny168.out] at ho66)); have n0_ := Aside0.mk (Kd.R_lower ho66 (below_size (by repeat (first | (with_reducible first | exact HB.out | apply below_alloc | apply pw_below_drewN | apply below_drew1) | exact HB.out)))); have n1_ := Aside0.mk (below_step (by repeat (first | (with_reducible first | exact HB.out | apply below_alloc | apply pw_below_drewN | apply below_drew1) | exact HB.out)) hb); clear HB; have HO170 := n0_; have HB := n1_; clear n0_ n1_; clear hb ho66))
                                go_ret
                                exact ⟨_, by first | rfl | (simp [errW_none, errW_some] <;> rfl) | (simp [*, errW_none, errW_some] <;> rfl), by (with_reducible repeat (first | apply Kd.R_alloc | apply Kd.R_drewN | apply Kd.R_drew)); exact HO170.out, by repeat (first | (with_reducible first | exact HB.out | apply below_alloc | apply pw_below_drewN | apply below_drew1) | exact HB.out)⟩
                              · replace c64 := Bool.eq_false_iff.mpr c64
                                subst c64
                                have H1 : (some ([] : List Int)) = some r := by rw [if_neg (show ¬ (false = true) by decide)] at H; exact H
                                clear H
                                have H := H1
                                clear H1
                                obtain rfl := Option.some.inj H
                                go_wp2_with (first | ((with_reducible refine gate_callee (f := 70) rfl ?_); refine goesL_ (some 51) rfl rfl Try.func70 (by kernel_rfl) rfl #[.int .i32 a0, .int .i32 8320, .int .i32 8329] rfl (by (try simp only [List.map_toArray, List.map_cons, List.map_nil]); first | done | rfl | (simp only [List.length_drop, List.length_take]; rfl)) ?_; (with_reducible refine (decomp_within.calls a0 8320 8329 false _ A29.out).mono ?_); rintro e w' ⟨rfl, ⟨nd, rfl⟩⟩; (try clear A29); refine ⟨_, rfl, ?_⟩) | ((with_reducible refine gate_callee (f := 70) rfl ?_); refine goesL_ (some 58) rfl rfl Try.func70 (by kernel_rfl) rfl #[.int .i32 a0, .int .i32 8544, .int .i32 8555] rfl (by (try simp only [List.map_toArray, List.map_cons, List.map_nil]); first | done | rfl | (simp only [List.length_drop, List.length_take]; rfl)) ?_; (with_reducible refine (decomp_within.calls a0 8544 8555 false _ A33.out).mono ?_); rintro e w' ⟨rfl, ⟨nd, rfl⟩⟩; (try clear A33); refine ⟨_, rfl, ?_⟩) | ((with_reducible refine gate_callee (f := 70) rfl ?_); refine goesL_ (some 67) rfl rfl Try.func70 (by kernel_rfl) rfl #[.int .i32 a0, .int .i32 8560, .int .i32 8571] rfl (by (try simp only [List.map_toArray, List.map_cons, List.map_nil]); first | done | rfl | (simp only [List.length_drop, List.length_take]; rfl)) ?_; (with_reducible refine (decomp_within.calls a0 8560 8571 false _ A43.out).mono ?_); rintro e w' ⟨rfl, ⟨nd, rfl⟩⟩; (try clear A43); refine ⟨_, rfl, ?_⟩) | ((with_reducible refine gate_callee (f := 70) rfl ?_); refine goesL_ (some 76) rfl rfl Try.func70 (by kernel_rfl) rfl #[.int .i32 a0, .int .i32 64256, .int .i32 64261] rfl (by (try simp only [List.map_toArray, List.map_cons, List.map_nil]); first | done | rfl | (simp only [List.length_drop, List.length_take]; rfl)) ?_; (with_reducible refine (decomp_within.calls a0 64256 64261 false _ A53.out).mono ?_); rintro e w' ⟨rfl, ⟨nd, rfl⟩⟩; (try clear A53); refine ⟨_, rfl, ?_⟩) | ((with_reducible refine gate_callee (f := 70) rfl ?_); refine goesL_ (some 85) rfl rfl Try.func70 (by kernel_rfl) rfl #[.int .i32 a0, .int .i32 65281, .int .i32 65374] rfl (by (try simp only [List.map_toArray, List.map_cons, List.map_nil]); first | done | rfl | (simp only [List.length_drop, List.length_take]; rfl)) ?_; (with_reducible refine (decomp_within.calls a0 65281 65374 false _ A63.out).mono ?_); rintro e w' ⟨rfl, ⟨nd, rfl⟩⟩; (try clear A63); refine ⟨_, rfl, ?_⟩))
                                go_ret
                                exact ⟨_, by first | rfl | (simp [errW_none, errW_some] <;> rfl) | (simp [*, errW_none, errW_some] <;> rfl), by first | exact Kd.R_nil _ _ _ _ _ | exact Kd.N_nil _ _ _ _ _ | exact Kd.V_nil _ _ _ _ _ | exact Kd.Q_nil _ _ _ _ _ | exact Kd.S_nil _ _ _ _ _, by repeat (first | (with_reducible first | exact HB.out | apply below_alloc | apply pw_below_drewN | apply below_drew1) | exact HB.out)⟩


end Go.Proofs.Ytpihglokjcbjkaa.P
