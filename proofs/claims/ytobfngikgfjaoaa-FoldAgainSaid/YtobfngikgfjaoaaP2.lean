-- Printed by wip/mk.py (this session's driver over the kit's print) and from wip/manual.
import Derived.Test.YtobfngikgfjaoaaP0
import Derived.Test.YtobfngikgfjaoaaP1
namespace Go.Proofs.Ytobfngikgfjaoaa.P
open Go.RowKit Go.Proofs.YtobfngikgfjaoaaW.PrintWords Go.Proofs.YtobfngikgfjaoaaW.PrintLast Go.Proofs.YtobfngikgfjaoaaW.PrintMore
attribute [local go_sem] max2_int min2_int max_two min_two max_three min_three max_four min_four   -- for this text's walks alone
set_option linter.unusedVariables false
set_option linter.unusedSimpArgs false

/-! ### fold_up: function 18 -/
mutual
def fold_up.j2 : Nat → Int → Bool → Option (Int)
  | 0, _, _ => none
  | k + 1, x0, x3 => if x3 = true then (some 32) else ((fold_within.f x0 904 906).bind fun t108 => (if t108 = true then (some 37) else ((fold_within.f x0 8544 8555).bind fun t109 => (if t109 = true then (some 16) else ((fold_within.f x0 256 311).bind fun t110 => (if t110 = true then (fold_up.j3 k x0 true) else ((fold_within.f x0 330 375).bind fun t111 => (fold_up.j3 k x0 t111))))))))
def fold_up.j3 : Nat → Int → Bool → Option (Int)
  | 0, _, _ => none
  | k + 1, x0, x28 => if x28 = true then (if x0 = 312 then (some 0) else (some (wrap32 (1 - (Go.bits .and .i32 x0 1))))) else ((fold_within.f x0 313 328).bind fun t112 => (if t112 = true then (some (Go.bits .and .i32 x0 1)) else ((fold_within.f x0 377 382).bind fun t113 => (if t113 = true then (some (Go.bits .and .i32 x0 1)) else (some 0)))))
def fold_up.j0 : Nat → Int → Bool → Option (Int)
  | 0, _, _ => none
  | k + 1, x0, x3 => if x3 = true then (fold_up.j2 k x0 x3) else ((fold_within.f x0 913 939).bind fun t105 => (if t105 = true then (fold_up.j1 k x0 (x0 != 930)) else (fold_up.j1 k x0 false)))
def fold_up.j1 : Nat → Int → Bool → Option (Int)
  | 0, _, _ => none
  | k + 1, x0, x3 => if x3 = true then (fold_up.j2 k x0 x3) else ((fold_within.f x0 1040 1071).bind fun t106 => (if t106 = true then (fold_up.j2 k x0 t106) else ((fold_within.f x0 65313 65338).bind fun t107 => (fold_up.j2 k x0 t107))))
end
def fold_up.f (k : Nat) (a0 : Int) : Option (Int) := (fold_within.f a0 65 90).bind fun t103 => (if t103 = true then (fold_up.j2 k a0 t103) else ((fold_within.f a0 192 222).bind fun t104 => (if t104 = true then (fold_up.j0 k a0 (a0 != 215)) else (fold_up.j0 k a0 false))))
theorem fold_up.mono_l : ∀ k, (∀ y0 y1, LeO (fold_up.j2 k y0 y1) (fold_up.j2 (k + 1) y0 y1)) ∧ (∀ y0 y1, LeO (fold_up.j3 k y0 y1) (fold_up.j3 (k + 1) y0 y1)) ∧ (∀ y0 y1, LeO (fold_up.j0 k y0 y1) (fold_up.j0 (k + 1) y0 y1)) ∧ (∀ y0 y1, LeO (fold_up.j1 k y0 y1) (fold_up.j1 (k + 1) y0 y1))
  | 0 => ⟨fun _ _ r h => by simp [fold_up.j2] at h, fun _ _ r h => by simp [fold_up.j3] at h, fun _ _ r h => by simp [fold_up.j0] at h, fun _ _ r h => by simp [fold_up.j1] at h⟩
  | k + 1 => by
    obtain ⟨ih0, ih1, ih2, ih3⟩ := fold_up.mono_l k
    refine ⟨?_, ?_, ?_, ?_⟩
    · intro y0 y1
      unfold fold_up.j2
      repeat' first
      | (with_reducible exact ih0 _ _)
      | (with_reducible exact ih1 _ _)
      | (with_reducible exact ih2 _ _)
      | (with_reducible exact ih3 _ _)
      | (with_reducible exact LeO.refl _)
      | (with_reducible exact LeO.none _)
      | (with_reducible refine LeO.ite ?_ ?_)
      | (with_reducible refine LeO.bind ?_ (fun _ => ?_))
      | exact ih0 _ _
      | exact ih1 _ _
      | exact ih2 _ _
      | exact ih3 _ _
      | exact LeO.none _
      | refine LeO.ite ?_ ?_
      | refine LeO.bind ?_ (fun _ => ?_)
    · intro y0 y1
      unfold fold_up.j3
      repeat' first
      | (with_reducible exact ih0 _ _)
      | (with_reducible exact ih1 _ _)
      | (with_reducible exact ih2 _ _)
      | (with_reducible exact ih3 _ _)
      | (with_reducible exact LeO.refl _)
      | (with_reducible exact LeO.none _)
      | (with_reducible refine LeO.ite ?_ ?_)
      | (with_reducible refine LeO.bind ?_ (fun _ => ?_))
      | exact ih0 _ _
      | exact ih1 _ _
      | exact ih2 _ _
      | exact ih3 _ _
      | exact LeO.none _
      | refine LeO.ite ?_ ?_
      | refine LeO.bind ?_ (fun _ => ?_)
    · intro y0 y1
      unfold fold_up.j0
      repeat' first
      | (with_reducible exact ih0 _ _)
      | (with_reducible exact ih1 _ _)
      | (with_reducible exact ih2 _ _)
      | (with_reducible exact ih3 _ _)
      | (with_reducible exact LeO.refl _)
      | (with_reducible exact LeO.none _)
      | (with_reducible refine LeO.ite ?_ ?_)
      | (with_reducible refine LeO.bind ?_ (fun _ => ?_))
      | exact ih0 _ _
      | exact ih1 _ _
      | exact ih2 _ _
      | exact ih3 _ _
      | exact LeO.none _
      | refine LeO.ite ?_ ?_
      | refine LeO.bind ?_ (fun _ => ?_)
    · intro y0 y1
      unfold fold_up.j1
      repeat' first
      | (with_reducible exact ih0 _ _)
      | (with_reducible exact ih1 _ _)
      | (with_reducible exact ih2 _ _)
      | (with_reducible exact ih3 _ _)
      | (with_reducible exact LeO.refl _)
      | (with_reducible exact LeO.none _)
      | (with_reducible refine LeO.ite ?_ ?_)
      | (with_reducible refine LeO.bind ?_ (fun _ => ?_))
      | exact ih0 _ _
      | exact ih1 _ _
      | exact ih2 _ _
      | exact ih3 _ _
      | exact LeO.none _
      | refine LeO.ite ?_ ?_
      | refine LeO.bind ?_ (fun _ => ?_)
theorem fold_up.mono : ∀ a0 k, LeO (fold_up.f k a0) (fold_up.f (k + 1) a0) := by
  intro a0 k
  obtain ⟨ih0, ih1, ih2, ih3⟩ := fold_up.mono_l k
  unfold fold_up.f
  repeat' first
      | (with_reducible exact ih0 _ _)
      | (with_reducible exact ih1 _ _)
      | (with_reducible exact ih2 _ _)
      | (with_reducible exact ih3 _ _)
      | (with_reducible exact LeO.refl _)
      | (with_reducible exact LeO.none _)
      | (with_reducible refine LeO.ite ?_ ?_)
      | (with_reducible refine LeO.bind ?_ (fun _ => ?_))
      | exact ih0 _ _
      | exact ih1 _ _
      | exact ih2 _ _
      | exact ih3 _ _
      | exact LeO.none _
      | refine LeO.ite ?_ ?_
      | refine LeO.bind ?_ (fun _ => ?_)
set_option maxHeartbeats 8000000 in
set_option maxRecDepth 100000 in
theorem fold_up.calls (k : Nat) (a0 : Int) (r : Int) (w : World) (h : fold_up.f k a0 = some r) :
    Calls Try.prog 18 #[.int .i32 a0] w fun e w' => e = .returned (.int .i32 r) ∧ Drawn0 w w' := by
  have H : ((fold_within.f a0 65 90).bind fun t103 => (if t103 = true then (fold_up.j2 k a0 t103) else ((fold_within.f a0 192 222).bind fun t104 => (if t104 = true then (fold_up.j0 k a0 (a0 != 215)) else (fold_up.j0 k a0 false))))) = some r := h
  clear h
  replace H := Option.bind_eq_some_iff.mp H
  obtain ⟨t103, A20, H⟩ := H
  replace H : (if t103 = true then (fold_up.j2 k a0 t103) else ((fold_within.f a0 192 222).bind fun t104 => (if t104 = true then (fold_up.j0 k a0 (a0 != 215)) else (fold_up.j0 k a0 false)))) = some r := H
  have A2 := Aside0.mk A20
  clear A20
  have HC3 := Aside0.mk H
  clear H
  go_enter Try.func18, Try.ntmps18
  go_upto_if 3 with (first | ((with_reducible refine gate_callee (f := 25) rfl ?_); refine goesL_ (some 5) rfl rfl Try.func25 (by kernel_rfl) rfl #[.int .i32 a0, .int .i32 65, .int .i32 90] rfl (by (try simp only [List.map_toArray, List.map_cons, List.map_nil]); first | done | rfl | (simp only [List.length_drop, List.length_take]; rfl)) ?_; (with_reducible refine (fold_within.calls a0 65 90 t103 _ A2.out).mono ?_); rintro e w' ⟨rfl, ⟨nd, rfl⟩⟩; (try clear A2); refine ⟨_, rfl, ?_⟩))
  (try simp only [Act.put, List.setIfInBounds_toArray, List.set_cons_zero, List.set_cons_succ])
  go_cut [3] (fun v3 wc => ∃ (kq : Nat) (x3_2 : Bool), v3 = .bool x3_2 ∧ Aside0 (fold_up.j2 kq a0 x3_2 = some r) ∧ Aside0 (kq ≤ k) ∧ Drawn0 w wc)
  case first =>
    have H := HC3.out
    clear HC3
    by_cases c4 : t103 = true
    · subst c4
      have H1 : (fold_up.j2 k a0 true) = some r := by rw [if_pos rfl] at H; exact H
      clear H
      have H := H1
      clear H1
      have H' := Aside0.mk H
      clear H
      go_wp2
      go_meet
      case rel => exact ⟨_, (true), (by first | rfl | (simp; done) | (simp [*]; done)), H', ⟨by first | omega | exact Nat.le_refl _⟩, by repeat (first | exact Drawn0.refl _ | apply Drawn0.step)⟩
    · replace c4 := Bool.eq_false_iff.mpr c4
      subst c4
      have H1 : ((fold_within.f a0 192 222).bind fun t104 => (if t104 = true then (fold_up.j0 k a0 (a0 != 215)) else (fold_up.j0 k a0 false))) = some r := by rw [if_neg (show ¬ (false = true) by decide)] at H; exact H
      clear H
      have H := H1
      clear H1
      have HC5 := Aside0.mk H
      clear H
      go_upto_region 2 with (fail)
      go_cut [3] (fun v3 wc => ∃ (kq : Nat) (x3_4 : Bool), v3 = .bool x3_4 ∧ Aside0 (fold_up.j0 kq a0 x3_4 = some r) ∧ Aside0 (kq ≤ k) ∧ Drawn0 w wc)
      case first =>
        have H := HC5.out
        clear HC5
        replace H := Option.bind_eq_some_iff.mp H
        obtain ⟨t104, A60, H⟩ := H
        replace H : (if t104 = true then (fold_up.j0 k a0 (a0 != 215)) else (fold_up.j0 k a0 false)) = some r := H
        have A6 := Aside0.mk A60
        clear A60
        by_cases c7 : t104 = true
        · subst c7
          have H1 : (fold_up.j0 k a0 (a0 != 215)) = some r := by rw [if_pos rfl] at H; exact H
          clear H
          have H := H1
          clear H1
          have H' := Aside0.mk H
          clear H
          go_wp2_with (first | ((with_reducible refine gate_callee (f := 25) rfl ?_); refine goesL_ (some 7) rfl rfl Try.func25 (by kernel_rfl) rfl #[.int .i32 a0, .int .i32 192, .int .i32 222] rfl (by (try simp only [List.map_toArray, List.map_cons, List.map_nil]); first | done | rfl | (simp only [List.length_drop, List.length_take]; rfl)) ?_; (with_reducible refine (fold_within.calls a0 192 222 true _ A6.out).mono ?_); rintro e w' ⟨rfl, ⟨nd, rfl⟩⟩; (try clear A6); refine ⟨_, rfl, ?_⟩))
          go_meet
          case rel => exact ⟨_, ((a0 != 215)), (by first | rfl | (simp; done) | (simp [*]; done)), H', ⟨by first | omega | exact Nat.le_refl _⟩, by repeat (first | exact Drawn0.refl _ | apply Drawn0.step)⟩
        · replace c7 := Bool.eq_false_iff.mpr c7
          subst c7
          have H1 : (fold_up.j0 k a0 false) = some r := by rw [if_neg (show ¬ (false = true) by decide)] at H; exact H
          clear H
          have H := H1
          clear H1
          have H' := Aside0.mk H
          clear H
          go_wp2_with (first | ((with_reducible refine gate_callee (f := 25) rfl ?_); refine goesL_ (some 7) rfl rfl Try.func25 (by kernel_rfl) rfl #[.int .i32 a0, .int .i32 192, .int .i32 222] rfl (by (try simp only [List.map_toArray, List.map_cons, List.map_nil]); first | done | rfl | (simp only [List.length_drop, List.length_take]; rfl)) ?_; (with_reducible refine (fold_within.calls a0 192 222 false _ A6.out).mono ?_); rintro e w' ⟨rfl, ⟨nd, rfl⟩⟩; (try clear A6); refine ⟨_, rfl, ?_⟩))
          go_meet
          case rel => exact ⟨_, (false), (by first | rfl | (simp; done) | (simp [*]; done)), H', ⟨by first | omega | exact Nat.le_refl _⟩, by repeat (first | exact Drawn0.refl _ | apply Drawn0.step)⟩
      case rest =>
        clear HC5
        try clear c1
        try clear c2
        try clear p2
        try clear c4
        try clear c7
        obtain ⟨kq, x3_4, rfl, HA, HJ4, ⟨mc4, rfl⟩⟩ := hcut
        cases kq with
        | zero => exact absurd HA.out (by simp [fold_up.j0])
        | succ kj4 =>
          have H := HA.out
          clear HA
          simp only [fold_up.j0] at H
          by_cases c8 : x3_4 = true
          · subst c8
            have H1 : (fold_up.j2 kj4 a0 true) = some r := by rw [if_pos rfl] at H; exact H
            clear H
            have H := H1
            clear H1
            have H' := Aside0.mk H
            clear H
            go_wp2
            go_meet
            case rel => exact ⟨_, (true), (by first | rfl | (simp; done) | (simp [*]; done)), H', ⟨by have := HJ4.out; first | omega | exact Nat.le_refl _⟩, by repeat (first | exact Drawn0.refl _ | apply Drawn0.step)⟩
          · replace c8 := Bool.eq_false_iff.mpr c8
            subst c8
            have H1 : ((fold_within.f a0 913 939).bind fun t105 => (if t105 = true then (fold_up.j1 kj4 a0 (a0 != 930)) else (fold_up.j1 kj4 a0 false))) = some r := by rw [if_neg (show ¬ (false = true) by decide)] at H; exact H
            clear H
            have H := H1
            clear H1
            have HC9 := Aside0.mk H
            clear H
            go_upto_region 3 with (fail)
            go_cut [3] (fun v3 wc => ∃ (kq : Nat) (x3_8 : Bool), v3 = .bool x3_8 ∧ Aside0 (fold_up.j1 kq a0 x3_8 = some r) ∧ Aside0 (kq ≤ kj4) ∧ Drawn0 w wc)
            case first =>
              have H := HC9.out
              clear HC9
              replace H := Option.bind_eq_some_iff.mp H
              obtain ⟨t105, A100, H⟩ := H
              replace H : (if t105 = true then (fold_up.j1 kj4 a0 (a0 != 930)) else (fold_up.j1 kj4 a0 false)) = some r := H
              have A10 := Aside0.mk A100
              clear A100
              by_cases c11 : t105 = true
              · subst c11
                have H1 : (fold_up.j1 kj4 a0 (a0 != 930)) = some r := by rw [if_pos rfl] at H; exact H
                clear H
                have H := H1
                clear H1
                have H' := Aside0.mk H
                clear H
                go_wp2_with (first | ((with_reducible refine gate_callee (f := 25) rfl ?_); refine goesL_ (some 13) rfl rfl Try.func25 (by kernel_rfl) rfl #[.int .i32 a0, .int .i32 913, .int .i32 939] rfl (by (try simp only [List.map_toArray, List.map_cons, List.map_nil]); first | done | rfl | (simp only [List.length_drop, List.length_take]; rfl)) ?_; (with_reducible refine (fold_within.calls a0 913 939 true _ A10.out).mono ?_); rintro e w' ⟨rfl, ⟨nd, rfl⟩⟩; (try clear A10); refine ⟨_, rfl, ?_⟩))
                go_meet
                case rel => exact ⟨_, ((a0 != 930)), (by first | rfl | (simp; done) | (simp [*]; done)), H', ⟨by have := HJ4.out; first | omega | exact Nat.le_refl _⟩, by repeat (first | exact Drawn0.refl _ | apply Drawn0.step)⟩
              · replace c11 := Bool.eq_false_iff.mpr c11
                subst c11
                have H1 : (fold_up.j1 kj4 a0 false) = some r := by rw [if_neg (show ¬ (false = true) by decide)] at H; exact H
                clear H
                have H := H1
                clear H1
                have H' := Aside0.mk H
                clear H
                go_wp2_with (first | ((with_reducible refine gate_callee (f := 25) rfl ?_); refine goesL_ (some 13) rfl rfl Try.func25 (by kernel_rfl) rfl #[.int .i32 a0, .int .i32 913, .int .i32 939] rfl (by (try simp only [List.map_toArray, List.map_cons, List.map_nil]); first | done | rfl | (simp only [List.length_drop, List.length_take]; rfl)) ?_; (with_reducible refine (fold_within.calls a0 913 939 false _ A10.out).mono ?_); rintro e w' ⟨rfl, ⟨nd, rfl⟩⟩; (try clear A10); refine ⟨_, rfl, ?_⟩))
                go_meet
                case rel => exact ⟨_, (false), (by first | rfl | (simp; done) | (simp [*]; done)), H', ⟨by have := HJ4.out; first | omega | exact Nat.le_refl _⟩, by repeat (first | exact Drawn0.refl _ | apply Drawn0.step)⟩
            case rest =>
              clear HC9
              try clear c1
              try clear c2
              try clear p2
              try clear c4
              try clear c7
              try clear c8
              try clear c11
              try clear p2
              obtain ⟨kq, x3_8, rfl, HA, HJ8, ⟨mc8, rfl⟩⟩ := hcut
              cases kq with
              | zero => exact absurd HA.out (by simp [fold_up.j1])
              | succ kj8 =>
                have H := HA.out
                clear HA
                simp only [fold_up.j1] at H
                by_cases c12 : x3_8 = true
                · subst c12
                  have H1 : (fold_up.j2 kj8 a0 true) = some r := by rw [if_pos rfl] at H; exact H
                  clear H
                  have H := H1
                  clear H1
                  have H' := Aside0.mk H
                  clear H
                  go_wp2
                  go_meet
                  case rel => exact ⟨_, (true), (by first | rfl | (simp; done) | (simp [*]; done)), H', ⟨by have := HJ4.out; have := HJ8.out; first | omega | exact Nat.le_refl _⟩, by repeat (first | exact Drawn0.refl _ | apply Drawn0.step)⟩
                · replace c12 := Bool.eq_false_iff.mpr c12
                  subst c12
                  have H1 : ((fold_within.f a0 1040 1071).bind fun t106 => (if t106 = true then (fold_up.j2 kj8 a0 t106) else ((fold_within.f a0 65313 65338).bind fun t107 => (fold_up.j2 kj8 a0 t107)))) = some r := by rw [if_neg (show ¬ (false = true) by decide)] at H; exact H
                  clear H
                  have H := H1
                  clear H1
                  replace H := Option.bind_eq_some_iff.mp H
                  obtain ⟨t106, A130, H⟩ := H
                  replace H : (if t106 = true then (fold_up.j2 kj8 a0 t106) else ((fold_within.f a0 65313 65338).bind fun t107 => (fold_up.j2 kj8 a0 t107))) = some r := H
                  have A13 := Aside0.mk A130
                  clear A130
                  by_cases c14 : t106 = true
                  · subst c14
                    have H1 : (fold_up.j2 kj8 a0 true) = some r := by rw [if_pos rfl] at H; exact H
                    clear H
                    have H := H1
                    clear H1
                    have H' := Aside0.mk H
                    clear H
                    go_wp2_with (first | ((with_reducible refine gate_callee (f := 25) rfl ?_); refine goesL_ (some 19) rfl rfl Try.func25 (by kernel_rfl) rfl #[.int .i32 a0, .int .i32 1040, .int .i32 1071] rfl (by (try simp only [List.map_toArray, List.map_cons, List.map_nil]); first | done | rfl | (simp only [List.length_drop, List.length_take]; rfl)) ?_; (with_reducible refine (fold_within.calls a0 1040 1071 true _ A13.out).mono ?_); rintro e w' ⟨rfl, ⟨nd, rfl⟩⟩; (try clear A13); refine ⟨_, rfl, ?_⟩))
                    go_meet
                    case rel => exact ⟨_, (true), (by first | rfl | (simp; done) | (simp [*]; done)), H', ⟨by have := HJ4.out; have := HJ8.out; first | omega | exact Nat.le_refl _⟩, by repeat (first | exact Drawn0.refl _ | apply Drawn0.step)⟩
                  · replace c14 := Bool.eq_false_iff.mpr c14
                    subst c14
                    have H1 : ((fold_within.f a0 65313 65338).bind fun t107 => (fold_up.j2 kj8 a0 t107)) = some r := by rw [if_neg (show ¬ (false = true) by decide)] at H; exact H
                    clear H
                    have H := H1
                    clear H1
                    replace H := Option.bind_eq_some_iff.mp H
                    obtain ⟨t107, A150, H⟩ := H
                    replace H : (fold_up.j2 kj8 a0 t107) = some r := H
                    have A15 := Aside0.mk A150
                    clear A150
                    have H' := Aside0.mk H
                    clear H
                    go_wp2_with (first | ((with_reducible refine gate_callee (f := 25) rfl ?_); refine goesL_ (some 19) rfl rfl Try.func25 (by kernel_rfl) rfl #[.int .i32 a0, .int .i32 1040, .int .i32 1071] rfl (by (try simp only [List.map_toArray, List.map_cons, List.map_nil]); first | done | rfl | (simp only [List.length_drop, List.length_take]; rfl)) ?_; (with_reducible refine (fold_within.calls a0 1040 1071 false _ A13.out).mono ?_); rintro e w' ⟨rfl, ⟨nd, rfl⟩⟩; (try clear A13); refine ⟨_, rfl, ?_⟩) | ((with_reducible refine gate_callee (f := 25) rfl ?_); refine goesL_ (some 21) rfl rfl Try.func25 (by kernel_rfl) rfl #[.int .i32 a0, .int .i32 65313, .int .i32 65338] rfl (by (try simp only [List.map_toArray, List.map_cons, List.map_nil]); first | done | rfl | (simp only [List.length_drop, List.length_take]; rfl)) ?_; (with_reducible refine (fold_within.calls a0 65313 65338 t107 _ A15.out).mono ?_); rintro e w' ⟨rfl, ⟨nd, rfl⟩⟩; (try clear A15); refine ⟨_, rfl, ?_⟩))
                    go_meet
                    case rel => exact ⟨_, (t107), (by first | rfl | (simp; done) | (simp [*]; done)), H', ⟨by have := HJ4.out; have := HJ8.out; first | omega | exact Nat.le_refl _⟩, by repeat (first | exact Drawn0.refl _ | apply Drawn0.step)⟩
  case rest =>
    clear HC3
    try clear c1
    try clear c2
    try clear p2
    try clear c4
    try clear c7
    try clear c8
    try clear c11
    try clear c12
    try clear c14
    try clear p2
    obtain ⟨kq, x3_2, rfl, HA, HJ2, ⟨mc2, rfl⟩⟩ := hcut
    cases kq with
    | zero => exact absurd HA.out (by simp [fold_up.j2])
    | succ kj2 =>
      have H := HA.out
      clear HA
      simp only [fold_up.j2] at H
      by_cases c16 : x3_2 = true
      · subst c16
        have H1 : (some 32) = some r := by rw [if_pos rfl] at H; exact H
        clear H
        have H := H1
        clear H1
        obtain rfl := Option.some.inj H
        go_wp2
        go_ret
        exact ⟨by first | rfl | (simp; done) | (simp [*]; done), by repeat (first | exact Drawn0.refl _ | apply Drawn0.step)⟩
      · replace c16 := Bool.eq_false_iff.mpr c16
        subst c16
        have H1 : ((fold_within.f a0 904 906).bind fun t108 => (if t108 = true then (some 37) else ((fold_within.f a0 8544 8555).bind fun t109 => (if t109 = true then (some 16) else ((fold_within.f a0 256 311).bind fun t110 => (if t110 = true then (fold_up.j3 kj2 a0 true) else ((fold_within.f a0 330 375).bind fun t111 => (fold_up.j3 kj2 a0 t111)))))))) = some r := by rw [if_neg (show ¬ (false = true) by decide)] at H; exact H
        clear H
        have H := H1
        clear H1
        replace H := Option.bind_eq_some_iff.mp H
        obtain ⟨t108, A170, H⟩ := H
        replace H : (if t108 = true then (some 37) else ((fold_within.f a0 8544 8555).bind fun t109 => (if t109 = true then (some 16) else ((fold_within.f a0 256 311).bind fun t110 => (if t110 = true then (fold_up.j3 kj2 a0 true) else ((fold_within.f a0 330 375).bind fun t111 => (fold_up.j3 kj2 a0 t111))))))) = some r := H
        have A17 := Aside0.mk A170
        clear A170
        by_cases c18 : t108 = true
        · subst c18
          have H1 : (some 37) = some r := by rw [if_pos rfl] at H; exact H
          clear H
          have H := H1
          clear H1
          obtain rfl := Option.some.inj H
          go_wp2_with (first | ((with_reducible refine gate_callee (f := 25) rfl ?_); refine goesL_ (some 24) rfl rfl Try.func25 (by kernel_rfl) rfl #[.int .i32 a0, .int .i32 904, .int .i32 906] rfl (by (try simp only [List.map_toArray, List.map_cons, List.map_nil]); first | done | rfl | (simp only [List.length_drop, List.length_take]; rfl)) ?_; (with_reducible refine (fold_within.calls a0 904 906 true _ A17.out).mono ?_); rintro e w' ⟨rfl, ⟨nd, rfl⟩⟩; (try clear A17); refine ⟨_, rfl, ?_⟩))
          go_ret
          exact ⟨by first | rfl | (simp; done) | (simp [*]; done), by repeat (first | exact Drawn0.refl _ | apply Drawn0.step)⟩
        · replace c18 := Bool.eq_false_iff.mpr c18
          subst c18
          have H1 : ((fold_within.f a0 8544 8555).bind fun t109 => (if t109 = true then (some 16) else ((fold_within.f a0 256 311).bind fun t110 => (if t110 = true then (fold_up.j3 kj2 a0 true) else ((fold_within.f a0 330 375).bind fun t111 => (fold_up.j3 kj2 a0 t111)))))) = some r := by rw [if_neg (show ¬ (false = true) by decide)] at H; exact H
          clear H
          have H := H1
          clear H1
          replace H := Option.bind_eq_some_iff.mp H
          obtain ⟨t109, A190, H⟩ := H
          replace H : (if t109 = true then (some 16) else ((fold_within.f a0 256 311).bind fun t110 => (if t110 = true then (fold_up.j3 kj2 a0 true) else ((fold_within.f a0 330 375).bind fun t111 => (fold_up.j3 kj2 a0 t111))))) = some r := H
          have A19 := Aside0.mk A190
          clear A190
          by_cases c20 : t109 = true
          · subst c20
            have H1 : (some 16) = some r := by rw [if_pos rfl] at H; exact H
            clear H
            have H := H1
            clear H1
            obtain rfl := Option.some.inj H
            go_wp2_with (first | ((with_reducible refine gate_callee (f := 25) rfl ?_); refine goesL_ (some 24) rfl rfl Try.func25 (by kernel_rfl) rfl #[.int .i32 a0, .int .i32 904, .int .i32 906] rfl (by (try simp only [List.map_toArray, List.map_cons, List.map_nil]); first | done | rfl | (simp only [List.length_drop, List.length_take]; rfl)) ?_; (with_reducible refine (fold_within.calls a0 904 906 false _ A17.out).mono ?_); rintro e w' ⟨rfl, ⟨nd, rfl⟩⟩; (try clear A17); refine ⟨_, rfl, ?_⟩) | ((with_reducible refine gate_callee (f := 25) rfl ?_); refine goesL_ (some 27) rfl rfl Try.func25 (by kernel_rfl) rfl #[.int .i32 a0, .int .i32 8544, .int .i32 8555] rfl (by (try simp only [List.map_toArray, List.map_cons, List.map_nil]); first | done | rfl | (simp only [List.length_drop, List.length_take]; rfl)) ?_; (with_reducible refine (fold_within.calls a0 8544 8555 true _ A19.out).mono ?_); rintro e w' ⟨rfl, ⟨nd, rfl⟩⟩; (try clear A19); refine ⟨_, rfl, ?_⟩))
            go_ret
            exact ⟨by first | rfl | (simp; done) | (simp [*]; done), by repeat (first | exact Drawn0.refl _ | apply Drawn0.step)⟩
          · replace c20 := Bool.eq_false_iff.mpr c20
            subst c20
            have H1 : ((fold_within.f a0 256 311).bind fun t110 => (if t110 = true then (fold_up.j3 kj2 a0 true) else ((fold_within.f a0 330 375).bind fun t111 => (fold_up.j3 kj2 a0 t111)))) = some r := by rw [if_neg (show ¬ (false = true) by decide)] at H; exact H
            clear H
            have H := H1
            clear H1
            have HC21 := Aside0.mk H
            clear H
            go_upto_region 11 with (first | ((with_reducible refine gate_callee (f := 25) rfl ?_); refine goesL_ (some 24) rfl rfl Try.func25 (by kernel_rfl) rfl #[.int .i32 a0, .int .i32 904, .int .i32 906] rfl (by (try simp only [List.map_toArray, List.map_cons, List.map_nil]); first | done | rfl | (simp only [List.length_drop, List.length_take]; rfl)) ?_; (with_reducible refine (fold_within.calls a0 904 906 false _ A17.out).mono ?_); rintro e w' ⟨rfl, ⟨nd, rfl⟩⟩; (try clear A17); refine ⟨_, rfl, ?_⟩) | ((with_reducible refine gate_callee (f := 25) rfl ?_); refine goesL_ (some 27) rfl rfl Try.func25 (by kernel_rfl) rfl #[.int .i32 a0, .int .i32 8544, .int .i32 8555] rfl (by (try simp only [List.map_toArray, List.map_cons, List.map_nil]); first | done | rfl | (simp only [List.length_drop, List.length_take]; rfl)) ?_; (with_reducible refine (fold_within.calls a0 8544 8555 false _ A19.out).mono ?_); rintro e w' ⟨rfl, ⟨nd, rfl⟩⟩; (try clear A19); refine ⟨_, rfl, ?_⟩))
            (try simp only [Act.put, List.setIfInBounds_toArray, List.set_cons_zero, List.set_cons_succ])
            go_cut [28] (fun v28 wc => ∃ (kq : Nat) (x28_20 : Bool), v28 = .bool x28_20 ∧ Aside0 (fold_up.j3 kq a0 x28_20 = some r) ∧ Aside0 (kq ≤ kj2) ∧ Drawn0 w wc)
            case first =>
              have H := HC21.out
              clear HC21
              replace H := Option.bind_eq_some_iff.mp H
              obtain ⟨t110, A220, H⟩ := H
              replace H : (if t110 = true then (fold_up.j3 kj2 a0 true) else ((fold_within.f a0 330 375).bind fun t111 => (fold_up.j3 kj2 a0 t111))) = some r := H
              have A22 := Aside0.mk A220
              clear A220
              by_cases c23 : t110 = true
              · subst c23
                have H1 : (fold_up.j3 kj2 a0 true) = some r := by rw [if_pos rfl] at H; exact H
                clear H
                have H := H1
                clear H1
                have H' := Aside0.mk H
                clear H
                go_wp2_with (first | ((with_reducible refine gate_callee (f := 25) rfl ?_); refine goesL_ (some 30) rfl rfl Try.func25 (by kernel_rfl) rfl #[.int .i32 a0, .int .i32 256, .int .i32 311] rfl (by (try simp only [List.map_toArray, List.map_cons, List.map_nil]); first | done | rfl | (simp only [List.length_drop, List.length_take]; rfl)) ?_; (with_reducible refine (fold_within.calls a0 256 311 true _ A22.out).mono ?_); rintro e w' ⟨rfl, ⟨nd, rfl⟩⟩; (try clear A22); refine ⟨_, rfl, ?_⟩))
                go_meet
                case rel => exact ⟨_, (true), (by first | rfl | (simp; done) | (simp [*]; done)), H', ⟨by have := HJ2.out; first | omega | exact Nat.le_refl _⟩, by repeat (first | exact Drawn0.refl _ | apply Drawn0.step)⟩
              · replace c23 := Bool.eq_false_iff.mpr c23
                subst c23
                have H1 : ((fold_within.f a0 330 375).bind fun t111 => (fold_up.j3 kj2 a0 t111)) = some r := by rw [if_neg (show ¬ (false = true) by decide)] at H; exact H
                clear H
                have H := H1
                clear H1
                replace H := Option.bind_eq_some_iff.mp H
                obtain ⟨t111, A240, H⟩ := H
                replace H : (fold_up.j3 kj2 a0 t111) = some r := H
                have A24 := Aside0.mk A240
                clear A240
                have H' := Aside0.mk H
                clear H
                go_wp2_with (first | ((with_reducible refine gate_callee (f := 25) rfl ?_); refine goesL_ (some 30) rfl rfl Try.func25 (by kernel_rfl) rfl #[.int .i32 a0, .int .i32 256, .int .i32 311] rfl (by (try simp only [List.map_toArray, List.map_cons, List.map_nil]); first | done | rfl | (simp only [List.length_drop, List.length_take]; rfl)) ?_; (with_reducible refine (fold_within.calls a0 256 311 false _ A22.out).mono ?_); rintro e w' ⟨rfl, ⟨nd, rfl⟩⟩; (try clear A22); refine ⟨_, rfl, ?_⟩) | (go_at_call 25; (with_reducible refine (fold_within.calls a0 330 375 t111 _ A24.out).mono ?_); rintro e w' ⟨rfl, ⟨nd, rfl⟩⟩; (try clear A24)))
                go_meet
                case rel => exact ⟨_, (t111), (by first | rfl | (simp; done) | (simp [*]; done)), H', ⟨by have := HJ2.out; first | omega | exact Nat.le_refl _⟩, by repeat (first | exact Drawn0.refl _ | apply Drawn0.step)⟩
            case rest =>
              clear HC21
              try clear c1
              try clear c2
              try clear p2
              try clear c4
              try clear c7
              try clear c8
              try clear c11
              try clear c12
              try clear c14
              try clear c16
              try clear c18
              try clear c20
              try clear c23
              try clear p2
              obtain ⟨kq, x28_20, rfl, HA, HJ20, ⟨mc20, rfl⟩⟩ := hcut
              cases kq with
              | zero => exact absurd HA.out (by simp [fold_up.j3])
              | succ kj20 =>
                have H := HA.out
                clear HA
                simp only [fold_up.j3] at H
                by_cases c25 : x28_20 = true
                · subst c25
                  have H1 : (if a0 = 312 then (some 0) else (some (wrap32 (1 - (Go.bits .and .i32 a0 1))))) = some r := by rw [if_pos rfl] at H; exact H
                  clear H
                  have H := H1
                  clear H1
                  by_cases c26 : a0 = 312
                  · rw [if_pos c26] at H
                    have c26b0 : (a0 == 312) = true := beq_iff_eq.mpr c26
                    have c26b1 : (a0 != 312) = false := bne_eq_false_iff_eq.mpr c26
                    clear c26
                    obtain rfl := Option.some.inj H
                    go_wp2
                    go_ret
                    exact ⟨by first | rfl | (simp; done) | (simp [*]; done), by repeat (first | exact Drawn0.refl _ | apply Drawn0.step)⟩
                  · rw [if_neg c26] at H
                    have c26b0 : (a0 == 312) = false := beq_eq_false_iff_ne.mpr c26
                    have c26b1 : (a0 != 312) = true := bne_iff_ne.mpr c26
                    obtain rfl := Option.some.inj H
                    go_wp2
                    go_ret
                    exact ⟨by first | rfl | (simp; done) | (simp [*]; done), by repeat (first | exact Drawn0.refl _ | apply Drawn0.step)⟩
                · replace c25 := Bool.eq_false_iff.mpr c25
                  subst c25
                  have H1 : ((fold_within.f a0 313 328).bind fun t112 => (if t112 = true then (some (Go.bits .and .i32 a0 1)) else ((fold_within.f a0 377 382).bind fun t113 => (if t113 = true then (some (Go.bits .and .i32 a0 1)) else (some 0))))) = some r := by rw [if_neg (show ¬ (false = true) by decide)] at H; exact H
                  clear H
                  have H := H1
                  clear H1
                  replace H := Option.bind_eq_some_iff.mp H
                  obtain ⟨t112, A270, H⟩ := H
                  replace H : (if t112 = true then (some (Go.bits .and .i32 a0 1)) else ((fold_within.f a0 377 382).bind fun t113 => (if t113 = true then (some (Go.bits .and .i32 a0 1)) else (some 0)))) = some r := H
                  have A27 := Aside0.mk A270
                  clear A270
                  by_cases c28 : t112 = true
                  · subst c28
                    have H1 : (some (Go.bits .and .i32 a0 1)) = some r := by rw [if_pos rfl] at H; exact H
                    clear H
                    have H := H1
                    clear H1
                    obtain rfl := Option.some.inj H
                    go_wp2_with (first | ((with_reducible refine gate_callee (f := 25) rfl ?_); refine goesL_ (some 42) rfl rfl Try.func25 (by kernel_rfl) rfl #[.int .i32 a0, .int .i32 313, .int .i32 328] rfl (by (try simp only [List.map_toArray, List.map_cons, List.map_nil]); first | done | rfl | (simp only [List.length_drop, List.length_take]; rfl)) ?_; (with_reducible refine (fold_within.calls a0 313 328 true _ A27.out).mono ?_); rintro e w' ⟨rfl, ⟨nd, rfl⟩⟩; (try clear A27); refine ⟨_, rfl, ?_⟩))
                    go_ret
                    exact ⟨by first | rfl | (simp; done) | (simp [*]; done), by repeat (first | exact Drawn0.refl _ | apply Drawn0.step)⟩
                  · replace c28 := Bool.eq_false_iff.mpr c28
                    subst c28
                    have H1 : ((fold_within.f a0 377 382).bind fun t113 => (if t113 = true then (some (Go.bits .and .i32 a0 1)) else (some 0))) = some r := by rw [if_neg (show ¬ (false = true) by decide)] at H; exact H
                    clear H
                    have H := H1
                    clear H1
                    replace H := Option.bind_eq_some_iff.mp H
                    obtain ⟨t113, A290, H⟩ := H
                    replace H : (if t113 = true then (some (Go.bits .and .i32 a0 1)) else (some 0)) = some r := H
                    have A29 := Aside0.mk A290
                    clear A290
                    by_cases c30 : t113 = true
                    · subst c30
                      have H1 : (some (Go.bits .and .i32 a0 1)) = some r := by rw [if_pos rfl] at H; exact H
                      clear H
                      have H := H1
                      clear H1
                      obtain rfl := Option.some.inj H
                      go_wp2_with (first | ((with_reducible refine gate_callee (f := 25) rfl ?_); refine goesL_ (some 42) rfl rfl Try.func25 (by kernel_rfl) rfl #[.int .i32 a0, .int .i32 313, .int .i32 328] rfl (by (try simp only [List.map_toArray, List.map_cons, List.map_nil]); first | done | rfl | (simp only [List.length_drop, List.length_take]; rfl)) ?_; (with_reducible refine (fold_within.calls a0 313 328 false _ A27.out).mono ?_); rintro e w' ⟨rfl, ⟨nd, rfl⟩⟩; (try clear A27); refine ⟨_, rfl, ?_⟩) | (go_at_call 25; (with_reducible refine (fold_within.calls a0 377 382 true _ A29.out).mono ?_); rintro e w' ⟨rfl, ⟨nd, rfl⟩⟩; (try clear A29)))
                      go_ret
                      exact ⟨by first | rfl | (simp; done) | (simp [*]; done), by repeat (first | exact Drawn0.refl _ | apply Drawn0.step)⟩
                    · replace c30 := Bool.eq_false_iff.mpr c30
                      subst c30
                      have H1 : (some 0) = some r := by rw [if_neg (show ¬ (false = true) by decide)] at H; exact H
                      clear H
                      have H := H1
                      clear H1
                      obtain rfl := Option.some.inj H
                      go_wp2_with (first | ((with_reducible refine gate_callee (f := 25) rfl ?_); refine goesL_ (some 42) rfl rfl Try.func25 (by kernel_rfl) rfl #[.int .i32 a0, .int .i32 313, .int .i32 328] rfl (by (try simp only [List.map_toArray, List.map_cons, List.map_nil]); first | done | rfl | (simp only [List.length_drop, List.length_take]; rfl)) ?_; (with_reducible refine (fold_within.calls a0 313 328 false _ A27.out).mono ?_); rintro e w' ⟨rfl, ⟨nd, rfl⟩⟩; (try clear A27); refine ⟨_, rfl, ?_⟩) | (go_at_call 25; (with_reducible refine (fold_within.calls a0 377 382 false _ A29.out).mono ?_); rintro e w' ⟨rfl, ⟨nd, rfl⟩⟩; (try clear A29)))
                      go_ret
                      exact ⟨by first | rfl | (simp; done) | (simp [*]; done), by repeat (first | exact Drawn0.refl _ | apply Drawn0.step)⟩

/-! ### fold_One: function 8, by hand (fold.One.tpl) -/
theorem info21o : (Try.prog.info? 21).map (fun i => (i.zero, i.size, i.bytes)) = some (some (.int .i32 0), 1, 4) := by kernel_rfl
def fold_One.l0 : Nat → ByteArray → Int → List Int → Nat → Option (List Int)
  | 0, _, _, _, _ => none
  | k + 1, x0, a0, x3, pos => if pos < x0.size then (if x3.length < 35184372088832 then fold_One.l0 k x0 a0 (x3 ++ [((Utf8.decode x0 pos).1 : Int)]) (pos + (Utf8.decode x0 pos).2) else none) else (if x3.length > 0 then some x3 else (fold_up.f k a0).bind fun t => some [wrap32 (a0 + t)])
def fold_One.f (k : Nat) (a0 : Int) : Option (List Int) := (fold_more.f a0).bind fun s => fold_One.l0 k s a0 [] 0
theorem fold_One.mono_l : ∀ k, (∀ y0 y1 y2 y3, LeO (fold_One.l0 k y0 y1 y2 y3) (fold_One.l0 (k + 1) y0 y1 y2 y3))
  | 0 => fun _ _ _ _ r h => by simp [fold_One.l0] at h
  | k + 1 => by
    have ih0 := fold_One.mono_l k
    intro y0 y1 y2 y3
    unfold fold_One.l0
    repeat' first
      | exact ih0 _ _ _ _
      | exact fold_up.mono _ _
      | exact LeO.refl _
      | refine LeO.ite ?_ ?_
      | refine LeO.bind ?_ (fun _ => ?_)
theorem fold_One.mono : ∀ a0 k, LeO (fold_One.f k a0) (fold_One.f (k + 1) a0) := fun a0 k => LeO.bind (LeO.refl _) (fun _ => fold_One.mono_l k _ _ _ _)
set_option maxHeartbeats 8000000 in
set_option maxRecDepth 100000 in
theorem fold_One.calls (k : Nat) (a0 : Int) (r : List Int) (w : World) (h : fold_One.f k a0 = some r) :
    Calls Try.prog 8 #[.int .i32 a0] w fun e w' => ∃ v0_ : Value, e = .returned (v0_) ∧ Kd.R (Kd.int .i32) 21 w' w.heap.size (fun _ => True) (v0_) (r) ∧ Below w.heap.size w w' := by
  unfold fold_One.f at h
  replace h := Option.bind_eq_some_iff.mp h
  obtain ⟨s, A1, H⟩ := h
  have H' := Aside0.mk H
  have A1' := Aside0.mk A1
  clear H A1
  go_enter Try.func8, Try.ntmps8
  go_wp2_with fail
  (with_reducible refine (fold_more.calls a0 s _ A1'.out).mono ?_)
  rintro e w1 ⟨rfl, hd⟩
  have HD := Aside0.mk hd
  clear hd
  go_wp2
  go_loopg [3] k (fun kq v3 W => ∃ (x3 : List Int) (pos : Nat), Aside0 (fold_One.l0 kq s a0 x3 pos = some r) ∧ Aside0 (kq ≤ k) ∧ Aside0 (W.heap[w1.heap.size]? = some (.stringIter s pos)) ∧ Aside0 (Kd.R (Kd.int .i32) 21 W w.heap.size (fun k_ => k_ ≠ w1.heap.size) v3 x3) ∧ Aside0 (Below w.heap.size w W))
  case atStart => exact ⟨[], 0, H', ⟨Nat.le_refl _⟩, ⟨World.iter_heap _ _ _⟩, ⟨Kd.R_nil _ _ _ _ _⟩, ⟨below_alloc HD.out.below _⟩⟩
  case round =>
    clear H'
    obtain ⟨x3, pos, HA, HK, HI, HO, HB⟩ := hrel
    cases gk with
    | zero => exact absurd HA.out (by simp [fold_One.l0])
    | succ k1 =>
      have H := HA.out
      clear HA
      simp only [fold_One.l0] at H
      by_cases d1 : pos < s.size
      · rw [if_pos d1] at H
        by_cases d2 : x3.length < 35184372088832
        · rw [if_pos d2] at H
          have H' := Aside0.mk H
          have LM := Aside0.mk d2
          clear H d2
          have hnx := fun ty => Lib.run_next_any_at (P := Try.prog) wr w1.heap.size s pos ty HI.out d1
          clear d1
          obtain ⟨W2, hW2⟩ : ∃ W2, wr.iterAt w1.heap.size s (pos + (Utf8.decode s pos).2) = W2 := ⟨_, rfl⟩
          rw [hW2] at hnx
          have HI2 := Aside0.mk (show W2.heap[w1.heap.size]? = some (.stringIter s (pos + (Utf8.decode s pos).2)) from by rw [← hW2]; exact Lib.iterAt_heap _ _ _ _ _ HI.out)
          have HO2 := Aside0.mk (show Kd.R (Kd.int .i32) 21 W2 w.heap.size (fun k_ => k_ ≠ w1.heap.size) _ x3 from by rw [← hW2]; exact Kd.R_step HO.out (fun k hk _ => Lib.iterAt_other _ _ _ _ _ hk))
          have HB2 := Aside0.mk (show Below w.heap.size w W2 from by rw [← hW2]; exact Lib.below_iterAt HB.out HD.out.below.size _ _)
          have HZ := Aside0.mk (show w1.heap.size < W2.heap.size from (Array.getElem?_eq_some_iff.1 HI2.out).1)
          clear hW2 HI HO HB
          obtain ⟨Ao, co, eo⟩ := Kd.R_slice HO2.out
          subst eo
          go_wp2_with ((with_reducible refine gate_builtin (b := .append) (xs := #[.tmp 12, .tmp 14]) rfl ?_); at_builtin; refine Kd.R_append (Kd.int .i32) (w0 := w) w.heap.size rfl (.tmp 12) (.tmp 14) 23 21 (.int .i32 0) 4 rfl Try.underlying23 info21o rfl (by decide) (by omega) (.slice Ao x3.length co) x3 (((Utf8.decode s pos).1 : Nat) : Int) [.int .i32 (((Utf8.decode s pos).1 : Nat) : Int)] (fun k_ => k_ ≠ w1.heap.size) (fun _ => False) rfl rfl ?aP (fun _ hk => hk.elim) ?aF ?aO ?aB ?aS ?aL ?_; (case aP => exact rfl); (case aB => exact HB2.out); (case aF => exact (fun k_ hk => by have := HZ.out; omega)); (case aO => exact HO2.out); (case aS => exact HB2.out.size); (case aL => have := LM.out; omega); intro v14 w14 ho hb hg hat; have HI3 := Aside0.mk (show w14.heap[w1.heap.size]? = some (.stringIter s (pos + (Utf8.decode s pos).2)) from by rw [hg.block _ HZ.out (fun e => HO2.out.1 _ e.symm rfl)]; exact HI2.out); have HO3 := Aside0.mk ho; have HB3 := Aside0.mk hb; clear HO2 HB2 HI2 HZ ho hb hg hat)
          go_roundg k1
          case measure => have := HK.out; omega
          case rel => exact ⟨_, _, H', ⟨by have := HK.out; omega⟩, HI3, HO3, HB3⟩
        · rw [if_neg d2] at H
          cases H
      · rw [if_neg d1] at H
        have hnx := fun ty => Lib.run_next_end_at (P := Try.prog) wr w1.heap.size s pos ty HI.out d1
        clear d1
        obtain ⟨Ao, co, eo⟩ := Kd.R_slice HO.out
        subst eo
        by_cases d2 : x3.length > 0
        · rw [if_pos d2] at H
          obtain rfl := Option.some.inj H
          clear H
          have d2b : decide ((0 : Int) < (x3.length : Int)) = true := decide_eq_true (by omega)
          have d2c : decide (0 < x3.length) = true := decide_eq_true d2
          clear d2
          go_wp2
          go_ret
          exact ⟨_, rfl, Kd.R_mono HO.out (fun _ _ => trivial), HB.out⟩
        · rw [if_neg d2] at H
          have d2b : decide ((0 : Int) < (x3.length : Int)) = false := decide_eq_false (by omega)
          have d2c : decide (0 < x3.length) = false := decide_eq_false d2
          clear d2
          replace H := Option.bind_eq_some_iff.mp H
          obtain ⟨t, A2, H⟩ := H
          obtain rfl := Option.some.inj H
          clear H
          have A2' := Aside0.mk A2
          clear A2
          go_wp2_with fail
          (with_reducible refine (fold_up.calls k1 a0 t _ A2'.out).mono ?_)
          rintro e w2 ⟨rfl, hd2⟩
          have HB2 := Aside0.mk (below_then HB.out HB.out.size hd2.below)
          clear hd2 HB HO HI
          go_wp2_with ((with_reducible refine gate_dst (N := 24) rfl ?_); refine Kd.R_lit (Kd.int .i32) w.heap.size 21 ?hg (N := 24) ?hd (xs := ([wrap32 (a0 + t)] : List Int)) (inner := [.int .i32 (wrap32 (a0 + t))]) (w0 := w) (ok := fun _ => True) (okp := fun _ => True) ?hr ?hp (fun _ hk => hk) trivial HB2.out HB2.out.size (by simp) ?_; (case hd => rfl); (case hg => rfl); (case hr => first | (go_simp; done) | (go_simp; rfl)); (case hp => exact ⟨rfl, fun j p hj => by cases j with | zero => (have : p = wrap32 (a0 + t) := by simpa using hj.symm); subst this; rfl | succ j => simp at hj⟩); intro v24 w24 ho hb hg hnew; have HO3 := Aside0.mk ho; have HB3 := Aside0.mk hb; clear ho hb hg hnew)
          go_ret
          exact ⟨_, rfl, HO3.out, HB3.out⟩

/-! ### toponymref09_Rows: function 19 -/
def toponymref09_Rows.f  : Option ((List (S38))) := some (([(⟨65, 90, 1, 32⟩ : S38), (⟨192, 214, 1, 32⟩ : S38), (⟨216, 222, 1, 32⟩ : S38), (⟨256, 302, 2, 1⟩ : S38), (⟨306, 310, 2, 1⟩ : S38), (⟨313, 327, 2, 1⟩ : S38), (⟨330, 374, 2, 1⟩ : S38), (⟨376, 376, 1, (-121)⟩ : S38), (⟨377, 381, 2, 1⟩ : S38), (⟨902, 902, 1, 38⟩ : S38), (⟨904, 906, 1, 37⟩ : S38), (⟨908, 908, 1, 64⟩ : S38), (⟨910, 911, 1, 63⟩ : S38), (⟨913, 929, 1, 32⟩ : S38), (⟨931, 939, 1, 32⟩ : S38), (⟨962, 962, 1, 1⟩ : S38), (⟨1025, 1025, 1, 80⟩ : S38), (⟨1040, 1071, 1, 32⟩ : S38), (⟨181, 181, 1, 775⟩ : S38), (⟨383, 383, 1, (-268)⟩ : S38), (⟨8486, 8486, 1, (-7517)⟩ : S38), (⟨8490, 8490, 1, (-8383)⟩ : S38), (⟨8491, 8491, 1, (-8262)⟩ : S38), (⟨8544, 8555, 1, 16⟩ : S38), (⟨65313, 65338, 1, 32⟩ : S38)] : List (S38)))
set_option maxHeartbeats 8000000 in
set_option maxRecDepth 100000 in
theorem toponymref09_Rows.calls  (r : List (S38)) (w : World) (h : toponymref09_Rows.f  = some r) :
    Calls Try.prog 19 #[] w fun e w' => ∃ v0_ : Value, e = .returned (v0_) ∧ Kd.R k38 38 w' w.heap.size (fun _ => True) v0_ r ∧ Below w.heap.size w w' := by
  have hu38 := Try.underlying38
  have HB := Aside0.mk (Below.refl w.heap.size w)
  have H : (some (([(⟨65, 90, 1, 32⟩ : S38), (⟨192, 214, 1, 32⟩ : S38), (⟨216, 222, 1, 32⟩ : S38), (⟨256, 302, 2, 1⟩ : S38), (⟨306, 310, 2, 1⟩ : S38), (⟨313, 327, 2, 1⟩ : S38), (⟨330, 374, 2, 1⟩ : S38), (⟨376, 376, 1, (-121)⟩ : S38), (⟨377, 381, 2, 1⟩ : S38), (⟨902, 902, 1, 38⟩ : S38), (⟨904, 906, 1, 37⟩ : S38), (⟨908, 908, 1, 64⟩ : S38), (⟨910, 911, 1, 63⟩ : S38), (⟨913, 929, 1, 32⟩ : S38), (⟨931, 939, 1, 32⟩ : S38), (⟨962, 962, 1, 1⟩ : S38), (⟨1025, 1025, 1, 80⟩ : S38), (⟨1040, 1071, 1, 32⟩ : S38), (⟨181, 181, 1, 775⟩ : S38), (⟨383, 383, 1, (-268)⟩ : S38), (⟨8486, 8486, 1, (-7517)⟩ : S38), (⟨8490, 8490, 1, (-8383)⟩ : S38), (⟨8491, 8491, 1, (-8262)⟩ : S38), (⟨8544, 8555, 1, 16⟩ : S38), (⟨65313, 65338, 1, 32⟩ : S38)] : List (S38)))) = some r := h
  clear h
  obtain ⟨y114, hy114⟩ : ∃ y_ : List (S38), y_ = (([(⟨65, 90, 1, 32⟩ : S38), (⟨192, 214, 1, 32⟩ : S38), (⟨216, 222, 1, 32⟩ : S38), (⟨256, 302, 2, 1⟩ : S38), (⟨306, 310, 2, 1⟩ : S38), (⟨313, 327, 2, 1⟩ : S38), (⟨330, 374, 2, 1⟩ : S38), (⟨376, 376, 1, (-121)⟩ : S38), (⟨377, 381, 2, 1⟩ : S38), (⟨902, 902, 1, 38⟩ : S38), (⟨904, 906, 1, 37⟩ : S38), (⟨908, 908, 1, 64⟩ : S38), (⟨910, 911, 1, 63⟩ : S38), (⟨913, 929, 1, 32⟩ : S38), (⟨931, 939, 1, 32⟩ : S38), (⟨962, 962, 1, 1⟩ : S38), (⟨1025, 1025, 1, 80⟩ : S38), (⟨1040, 1071, 1, 32⟩ : S38), (⟨181, 181, 1, 775⟩ : S38), (⟨383, 383, 1, (-268)⟩ : S38), (⟨8486, 8486, 1, (-7517)⟩ : S38), (⟨8490, 8490, 1, (-8383)⟩ : S38), (⟨8491, 8491, 1, (-8262)⟩ : S38), (⟨8544, 8555, 1, 16⟩ : S38), (⟨65313, 65338, 1, 32⟩ : S38)] : List (S38))) := ⟨_, rfl⟩
  replace H : (some y114) = some r := by first | (rw [hy114]; with_reducible exact H) | (have H2_ := (Option.bind_some _ _).symm.trans H; rw [hy114]; with_reducible exact H2_) | (have H2_ := (Option.bind_some _ _).symm.trans H; with_reducible exact H2_) | with_reducible exact H | (rw [hy114]; exact H) | exact H
  have Ny114 := Aside0.mk hy114
  clear hy114
  obtain rfl := Option.some.inj H
  go_enter Try.func19, Try.ntmps19
  go_wp2_with (first | ((with_reducible refine gate_dst (N := 26) rfl ?_); refine Kd.R_lit k38 _ 38 ?hg (N := 26) ?hd (xs := ([(⟨65, 90, 1, 32⟩ : S38), (⟨192, 214, 1, 32⟩ : S38), (⟨216, 222, 1, 32⟩ : S38), (⟨256, 302, 2, 1⟩ : S38), (⟨306, 310, 2, 1⟩ : S38), (⟨313, 327, 2, 1⟩ : S38), (⟨330, 374, 2, 1⟩ : S38), (⟨376, 376, 1, (-121)⟩ : S38), (⟨377, 381, 2, 1⟩ : S38), (⟨902, 902, 1, 38⟩ : S38), (⟨904, 906, 1, 37⟩ : S38), (⟨908, 908, 1, 64⟩ : S38), (⟨910, 911, 1, 63⟩ : S38), (⟨913, 929, 1, 32⟩ : S38), (⟨931, 939, 1, 32⟩ : S38), (⟨962, 962, 1, 1⟩ : S38), (⟨1025, 1025, 1, 80⟩ : S38), (⟨1040, 1071, 1, 32⟩ : S38), (⟨181, 181, 1, 775⟩ : S38), (⟨383, 383, 1, (-268)⟩ : S38), (⟨8486, 8486, 1, (-7517)⟩ : S38), (⟨8490, 8490, 1, (-8383)⟩ : S38), (⟨8491, 8491, 1, (-8262)⟩ : S38), (⟨8544, 8555, 1, 16⟩ : S38), (⟨65313, 65338, 1, 32⟩ : S38)] : List (S38))) (inner := [.int .i32 65, .int .i32 90, .int .i32 1, .int .i32 32, .int .i32 192, .int .i32 214, .int .i32 1, .int .i32 32, .int .i32 216, .int .i32 222, .int .i32 1, .int .i32 32, .int .i32 256, .int .i32 302, .int .i32 2, .int .i32 1, .int .i32 306, .int .i32 310, .int .i32 2, .int .i32 1, .int .i32 313, .int .i32 327, .int .i32 2, .int .i32 1, .int .i32 330, .int .i32 374, .int .i32 2, .int .i32 1, .int .i32 376, .int .i32 376, .int .i32 1, .int .i32 (-121), .int .i32 377, .int .i32 381, .int .i32 2, .int .i32 1, .int .i32 902, .int .i32 902, .int .i32 1, .int .i32 38, .int .i32 904, .int .i32 906, .int .i32 1, .int .i32 37, .int .i32 908, .int .i32 908, .int .i32 1, .int .i32 64, .int .i32 910, .int .i32 911, .int .i32 1, .int .i32 63, .int .i32 913, .int .i32 929, .int .i32 1, .int .i32 32, .int .i32 931, .int .i32 939, .int .i32 1, .int .i32 32, .int .i32 962, .int .i32 962, .int .i32 1, .int .i32 1, .int .i32 1025, .int .i32 1025, .int .i32 1, .int .i32 80, .int .i32 1040, .int .i32 1071, .int .i32 1, .int .i32 32, .int .i32 181, .int .i32 181, .int .i32 1, .int .i32 775, .int .i32 383, .int .i32 383, .int .i32 1, .int .i32 (-268), .int .i32 8486, .int .i32 8486, .int .i32 1, .int .i32 (-7517), .int .i32 8490, .int .i32 8490, .int .i32 1, .int .i32 (-8383), .int .i32 8491, .int .i32 8491, .int .i32 1, .int .i32 (-8262), .int .i32 8544, .int .i32 8555, .int .i32 1, .int .i32 16, .int .i32 65313, .int .i32 65338, .int .i32 1, .int .i32 32]) (ok := fun _ => True) (okp := fun _ => True) ?hr ?hp (fun _ hk => hk) trivial (Below.refl _ _) (Nat.le_refl _) (by simp) ?_; (case hd => rfl); (case hg => rfl); (case hr => first | (go_simp; done) | (go_simp; rfl)); (case hp => exact (Reps.c4 (show Kd.M k38 _ _ _ (⟨65, 90, 1, 32⟩ : S38) [.int .i32 65, .int .i32 90, .int .i32 1, .int .i32 32] from (k38_mkM _ _ _ (⟨65, 90, 1, 32⟩ : S38) )) (Reps.c4 (show Kd.M k38 _ _ _ (⟨192, 214, 1, 32⟩ : S38) [.int .i32 192, .int .i32 214, .int .i32 1, .int .i32 32] from (k38_mkM _ _ _ (⟨192, 214, 1, 32⟩ : S38) )) (Reps.c4 (show Kd.M k38 _ _ _ (⟨216, 222, 1, 32⟩ : S38) [.int .i32 216, .int .i32 222, .int .i32 1, .int .i32 32] from (k38_mkM _ _ _ (⟨216, 222, 1, 32⟩ : S38) )) (Reps.c4 (show Kd.M k38 _ _ _ (⟨256, 302, 2, 1⟩ : S38) [.int .i32 256, .int .i32 302, .int .i32 2, .int .i32 1] from (k38_mkM _ _ _ (⟨256, 302, 2, 1⟩ : S38) )) (Reps.c4 (show Kd.M k38 _ _ _ (⟨306, 310, 2, 1⟩ : S38) [.int .i32 306, .int .i32 310, .int .i32 2, .int .i32 1] from (k38_mkM _ _ _ (⟨306, 310, 2, 1⟩ : S38) )) (Reps.c4 (show Kd.M k38 _ _ _ (⟨313, 327, 2, 1⟩ : S38) [.int .i32 313, .int .i32 327, .int .i32 2, .int .i32 1] from (k38_mkM _ _ _ (⟨313, 327, 2, 1⟩ : S38) )) (Reps.c4 (show Kd.M k38 _ _ _ (⟨330, 374, 2, 1⟩ : S38) [.int .i32 330, .int .i32 374, .int .i32 2, .int .i32 1] from (k38_mkM _ _ _ (⟨330, 374, 2, 1⟩ : S38) )) (Reps.c4 (show Kd.M k38 _ _ _ (⟨376, 376, 1, (-121)⟩ : S38) [.int .i32 376, .int .i32 376, .int .i32 1, .int .i32 (-121)] from (k38_mkM _ _ _ (⟨376, 376, 1, (-121)⟩ : S38) )) (Reps.c4 (show Kd.M k38 _ _ _ (⟨377, 381, 2, 1⟩ : S38) [.int .i32 377, .int .i32 381, .int .i32 2, .int .i32 1] from (k38_mkM _ _ _ (⟨377, 381, 2, 1⟩ : S38) )) (Reps.c4 (show Kd.M k38 _ _ _ (⟨902, 902, 1, 38⟩ : S38) [.int .i32 902, .int .i32 902, .int .i32 1, .int .i32 38] from (k38_mkM _ _ _ (⟨902, 902, 1, 38⟩ : S38) )) (Reps.c4 (show Kd.M k38 _ _ _ (⟨904, 906, 1, 37⟩ : S38) [.int .i32 904, .int .i32 906, .int .i32 1, .int .i32 37] from (k38_mkM _ _ _ (⟨904, 906, 1, 37⟩ : S38) )) (Reps.c4 (show Kd.M k38 _ _ _ (⟨908, 908, 1, 64⟩ : S38) [.int .i32 908, .int .i32 908, .int .i32 1, .int .i32 64] from (k38_mkM _ _ _ (⟨908, 908, 1, 64⟩ : S38) )) (Reps.c4 (show Kd.M k38 _ _ _ (⟨910, 911, 1, 63⟩ : S38) [.int .i32 910, .int .i32 911, .int .i32 1, .int .i32 63] from (k38_mkM _ _ _ (⟨910, 911, 1, 63⟩ : S38) )) (Reps.c4 (show Kd.M k38 _ _ _ (⟨913, 929, 1, 32⟩ : S38) [.int .i32 913, .int .i32 929, .int .i32 1, .int .i32 32] from (k38_mkM _ _ _ (⟨913, 929, 1, 32⟩ : S38) )) (Reps.c4 (show Kd.M k38 _ _ _ (⟨931, 939, 1, 32⟩ : S38) [.int .i32 931, .int .i32 939, .int .i32 1, .int .i32 32] from (k38_mkM _ _ _ (⟨931, 939, 1, 32⟩ : S38) )) (Reps.c4 (show Kd.M k38 _ _ _ (⟨962, 962, 1, 1⟩ : S38) [.int .i32 962, .int .i32 962, .int .i32 1, .int .i32 1] from (k38_mkM _ _ _ (⟨962, 962, 1, 1⟩ : S38) )) (Reps.c4 (show Kd.M k38 _ _ _ (⟨1025, 1025, 1, 80⟩ : S38) [.int .i32 1025, .int .i32 1025, .int .i32 1, .int .i32 80] from (k38_mkM _ _ _ (⟨1025, 1025, 1, 80⟩ : S38) )) (Reps.c4 (show Kd.M k38 _ _ _ (⟨1040, 1071, 1, 32⟩ : S38) [.int .i32 1040, .int .i32 1071, .int .i32 1, .int .i32 32] from (k38_mkM _ _ _ (⟨1040, 1071, 1, 32⟩ : S38) )) (Reps.c4 (show Kd.M k38 _ _ _ (⟨181, 181, 1, 775⟩ : S38) [.int .i32 181, .int .i32 181, .int .i32 1, .int .i32 775] from (k38_mkM _ _ _ (⟨181, 181, 1, 775⟩ : S38) )) (Reps.c4 (show Kd.M k38 _ _ _ (⟨383, 383, 1, (-268)⟩ : S38) [.int .i32 383, .int .i32 383, .int .i32 1, .int .i32 (-268)] from (k38_mkM _ _ _ (⟨383, 383, 1, (-268)⟩ : S38) )) (Reps.c4 (show Kd.M k38 _ _ _ (⟨8486, 8486, 1, (-7517)⟩ : S38) [.int .i32 8486, .int .i32 8486, .int .i32 1, .int .i32 (-7517)] from (k38_mkM _ _ _ (⟨8486, 8486, 1, (-7517)⟩ : S38) )) (Reps.c4 (show Kd.M k38 _ _ _ (⟨8490, 8490, 1, (-8383)⟩ : S38) [.int .i32 8490, .int .i32 8490, .int .i32 1, .int .i32 (-8383)] from (k38_mkM _ _ _ (⟨8490, 8490, 1, (-8383)⟩ : S38) )) (Reps.c4 (show Kd.M k38 _ _ _ (⟨8491, 8491, 1, (-8262)⟩ : S38) [.int .i32 8491, .int .i32 8491, .int .i32 1, .int .i32 (-8262)] from (k38_mkM _ _ _ (⟨8491, 8491, 1, (-8262)⟩ : S38) )) (Reps.c4 (show Kd.M k38 _ _ _ (⟨8544, 8555, 1, 16⟩ : S38) [.int .i32 8544, .int .i32 8555, .int .i32 1, .int .i32 16] from (k38_mkM _ _ _ (⟨8544, 8555, 1, 16⟩ : S38) )) (Reps.c4 (show Kd.M k38 _ _ _ (⟨65313, 65338, 1, 32⟩ : S38) [.int .i32 65313, .int .i32 65338, .int .i32 1, .int .i32 32] from (k38_mkM _ _ _ (⟨65313, 65338, 1, 32⟩ : S38) )) (Reps.none _ _))))))))))))))))))))))))))); intro v115 w1 ho2 hb hg_ hnew_; clear hg_ hnew_; (first | rw [← Ny114.out] at ho2 | (simp only [Int.reduceToNat] at ho2; rw [← Ny114.out] at ho2)); have n0_ := Aside0.mk (Kd.R_lower ho2 (below_size (by repeat (first | (with_reducible first | exact HB.out | apply below_alloc | apply pw_below_drewN | apply below_drew1) | exact HB.out)))); have n1_ := Aside0.mk (below_step (by repeat (first | (with_reducible first | exact HB.out | apply below_alloc | apply pw_below_drewN | apply below_drew1) | exact HB.out)) hb); clear HB; have HO116 := n0_; have HB := n1_; clear n0_ n1_; clear hb ho2))
  go_ret
  exact ⟨_, by first | rfl | (simp [errW_none, errW_some] <;> rfl) | (simp [*, errW_none, errW_some] <;> rfl), by (with_reducible repeat (first | apply Kd.R_alloc | apply Kd.R_drewN | apply Kd.R_drew)); exact HO116.out, by repeat (first | (with_reducible first | exact HB.out | apply below_alloc | apply pw_below_drewN | apply below_drew1) | exact HB.out)⟩

end Go.Proofs.Ytobfngikgfjaoaa.P
