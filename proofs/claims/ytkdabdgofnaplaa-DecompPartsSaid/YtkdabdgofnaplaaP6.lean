-- Printed by wip/mk.py (this session's driver over the kit's print) and from wip/manual.
import Derived.Test.YtkdabdgofnaplaaP0
import Derived.Test.YtkdabdgofnaplaaP4
import Derived.Test.YtkdabdgofnaplaaP5
namespace Go.Proofs.Ytkdabdgofnaplaa.P
open Go.RowKit Go.Proofs.YtkdabdgofnaplaaW.PrintWords Go.Proofs.YtkdabdgofnaplaaW.PrintLast Go.Proofs.YtkdabdgofnaplaaW.PrintMore
attribute [local go_sem] max2_int min2_int max_two min_two max_three min_three max_four min_four   -- for this text's walks alone
set_option linter.unusedVariables false
set_option linter.unusedSimpArgs false

/-! ### toponymref05_Loose: function 14 -/
mutual
def toponymref05_Loose.j0 : Nat → Int → Int → Bool → Option (List Int)
  | 0, _, _, _ => none
  | k + 1, x0, x3, x6 => if x6 = true then (some (([32] : List Int))) else (if x3 = 8209 then (some (([8208] : List Int))) else (if x3 = 8304 then (toponymref05_Loose.j1 k x0 x3 true) else (if x3 ≥ 8308 then (toponymref05_Loose.j1 k x0 x3 (decide (x3 ≤ 8313))) else (toponymref05_Loose.j1 k x0 x3 false))))
def toponymref05_Loose.j1 : Nat → Int → Int → Bool → Option (List Int)
  | 0, _, _, _ => none
  | k + 1, x0, x3, x34 => if x34 = true then (some (([wrap32 (x0 - 8256)] : List Int))) else (if x3 ≥ 8320 then (toponymref05_Loose.j2 k x0 x3 (decide (x3 ≤ 8329))) else (toponymref05_Loose.j2 k x0 x3 false))
def toponymref05_Loose.j2 : Nat → Int → Int → Bool → Option (List Int)
  | 0, _, _, _ => none
  | k + 1, x0, x3, x48 => if x48 = true then (some (([wrap32 (x0 - 8272)] : List Int))) else (if x3 ≥ 8544 then (toponymref05_Loose.j3 k x0 x3 (decide (x3 ≤ 8555))) else (toponymref05_Loose.j3 k x0 x3 false))
def toponymref05_Loose.j3 : Nat → Int → Int → Bool → Option (List Int)
  | 0, _, _, _ => none
  | k + 1, x0, x3, x58 => if x58 = true then ((toponymref05_roman.f k (wrap64 (x3 - 8543)) 73 86 88).bind fun t313 => (some t313)) else (if x3 ≥ 8560 then (toponymref05_Loose.j4 k x0 x3 (decide (x3 ≤ 8571))) else (toponymref05_Loose.j4 k x0 x3 false))
def toponymref05_Loose.j4 : Nat → Int → Int → Bool → Option (List Int)
  | 0, _, _, _ => none
  | k + 1, x0, x3, x68 => if x68 = true then ((toponymref05_roman.f k (wrap64 (x3 - 8559)) 105 118 120).bind fun t316 => (some t316)) else (if x3 ≥ 65281 then (if x3 ≤ 65374 then (some (([wrap32 (x0 - 65248)] : List Int))) else ((toponymref05_few.f x3).bind fun t322 => (some t322))) else ((toponymref05_few.f x3).bind fun t325 => (some t325)))
end
def toponymref05_Loose.f (k : Nat) (a0 : Int) : Option (List Int) := if (wrap64 (a0)) = 160 then (toponymref05_Loose.j0 k a0 (wrap64 (a0)) true) else (if (wrap64 (a0)) ≥ 8194 then (if (wrap64 (a0)) ≤ 8202 then (toponymref05_Loose.j0 k a0 (wrap64 (a0)) true) else (if (wrap64 (a0)) = 8239 then (toponymref05_Loose.j0 k a0 (wrap64 (a0)) true) else (if (wrap64 (a0)) = 8287 then (toponymref05_Loose.j0 k a0 (wrap64 (a0)) true) else (toponymref05_Loose.j0 k a0 (wrap64 (a0)) ((wrap64 (a0)) == 12288))))) else (if (wrap64 (a0)) = 8239 then (toponymref05_Loose.j0 k a0 (wrap64 (a0)) true) else (if (wrap64 (a0)) = 8287 then (toponymref05_Loose.j0 k a0 (wrap64 (a0)) true) else (toponymref05_Loose.j0 k a0 (wrap64 (a0)) ((wrap64 (a0)) == 12288)))))
theorem toponymref05_Loose.mono_l : ∀ k, (∀ y0 y1 y2, LeO (toponymref05_Loose.j0 k y0 y1 y2) (toponymref05_Loose.j0 (k + 1) y0 y1 y2)) ∧ (∀ y0 y1 y2, LeO (toponymref05_Loose.j1 k y0 y1 y2) (toponymref05_Loose.j1 (k + 1) y0 y1 y2)) ∧ (∀ y0 y1 y2, LeO (toponymref05_Loose.j2 k y0 y1 y2) (toponymref05_Loose.j2 (k + 1) y0 y1 y2)) ∧ (∀ y0 y1 y2, LeO (toponymref05_Loose.j3 k y0 y1 y2) (toponymref05_Loose.j3 (k + 1) y0 y1 y2)) ∧ (∀ y0 y1 y2, LeO (toponymref05_Loose.j4 k y0 y1 y2) (toponymref05_Loose.j4 (k + 1) y0 y1 y2))
  | 0 => ⟨fun _ _ _ r h => by simp [toponymref05_Loose.j0] at h, fun _ _ _ r h => by simp [toponymref05_Loose.j1] at h, fun _ _ _ r h => by simp [toponymref05_Loose.j2] at h, fun _ _ _ r h => by simp [toponymref05_Loose.j3] at h, fun _ _ _ r h => by simp [toponymref05_Loose.j4] at h⟩
  | k + 1 => by
    obtain ⟨ih0, ih1, ih2, ih3, ih4⟩ := toponymref05_Loose.mono_l k
    refine ⟨?_, ?_, ?_, ?_, ?_⟩
    · intro y0 y1 y2
      unfold toponymref05_Loose.j0
      repeat' first
      | (with_reducible exact ih0 _ _ _)
      | (with_reducible exact ih1 _ _ _)
      | (with_reducible exact ih2 _ _ _)
      | (with_reducible exact ih3 _ _ _)
      | (with_reducible exact ih4 _ _ _)
      | (with_reducible exact toponymref05_roman.mono _ _ _ _ _)
      | (with_reducible exact LeO.refl _)
      | (with_reducible exact LeO.none _)
      | (with_reducible refine LeO.ite ?_ ?_)
      | (with_reducible refine LeO.bind ?_ (fun _ => ?_))
      | exact ih0 _ _ _
      | exact ih1 _ _ _
      | exact ih2 _ _ _
      | exact ih3 _ _ _
      | exact ih4 _ _ _
      | exact toponymref05_roman.mono _ _ _ _ _
      | exact LeO.none _
      | refine LeO.ite ?_ ?_
      | refine LeO.bind ?_ (fun _ => ?_)
    · intro y0 y1 y2
      unfold toponymref05_Loose.j1
      repeat' first
      | (with_reducible exact ih0 _ _ _)
      | (with_reducible exact ih1 _ _ _)
      | (with_reducible exact ih2 _ _ _)
      | (with_reducible exact ih3 _ _ _)
      | (with_reducible exact ih4 _ _ _)
      | (with_reducible exact toponymref05_roman.mono _ _ _ _ _)
      | (with_reducible exact LeO.refl _)
      | (with_reducible exact LeO.none _)
      | (with_reducible refine LeO.ite ?_ ?_)
      | (with_reducible refine LeO.bind ?_ (fun _ => ?_))
      | exact ih0 _ _ _
      | exact ih1 _ _ _
      | exact ih2 _ _ _
      | exact ih3 _ _ _
      | exact ih4 _ _ _
      | exact toponymref05_roman.mono _ _ _ _ _
      | exact LeO.none _
      | refine LeO.ite ?_ ?_
      | refine LeO.bind ?_ (fun _ => ?_)
    · intro y0 y1 y2
      unfold toponymref05_Loose.j2
      repeat' first
      | (with_reducible exact ih0 _ _ _)
      | (with_reducible exact ih1 _ _ _)
      | (with_reducible exact ih2 _ _ _)
      | (with_reducible exact ih3 _ _ _)
      | (with_reducible exact ih4 _ _ _)
      | (with_reducible exact toponymref05_roman.mono _ _ _ _ _)
      | (with_reducible exact LeO.refl _)
      | (with_reducible exact LeO.none _)
      | (with_reducible refine LeO.ite ?_ ?_)
      | (with_reducible refine LeO.bind ?_ (fun _ => ?_))
      | exact ih0 _ _ _
      | exact ih1 _ _ _
      | exact ih2 _ _ _
      | exact ih3 _ _ _
      | exact ih4 _ _ _
      | exact toponymref05_roman.mono _ _ _ _ _
      | exact LeO.none _
      | refine LeO.ite ?_ ?_
      | refine LeO.bind ?_ (fun _ => ?_)
    · intro y0 y1 y2
      unfold toponymref05_Loose.j3
      repeat' first
      | (with_reducible exact ih0 _ _ _)
      | (with_reducible exact ih1 _ _ _)
      | (with_reducible exact ih2 _ _ _)
      | (with_reducible exact ih3 _ _ _)
      | (with_reducible exact ih4 _ _ _)
      | (with_reducible exact toponymref05_roman.mono _ _ _ _ _)
      | (with_reducible exact LeO.refl _)
      | (with_reducible exact LeO.none _)
      | (with_reducible refine LeO.ite ?_ ?_)
      | (with_reducible refine LeO.bind ?_ (fun _ => ?_))
      | exact ih0 _ _ _
      | exact ih1 _ _ _
      | exact ih2 _ _ _
      | exact ih3 _ _ _
      | exact ih4 _ _ _
      | exact toponymref05_roman.mono _ _ _ _ _
      | exact LeO.none _
      | refine LeO.ite ?_ ?_
      | refine LeO.bind ?_ (fun _ => ?_)
    · intro y0 y1 y2
      unfold toponymref05_Loose.j4
      repeat' first
      | (with_reducible exact ih0 _ _ _)
      | (with_reducible exact ih1 _ _ _)
      | (with_reducible exact ih2 _ _ _)
      | (with_reducible exact ih3 _ _ _)
      | (with_reducible exact ih4 _ _ _)
      | (with_reducible exact toponymref05_roman.mono _ _ _ _ _)
      | (with_reducible exact LeO.refl _)
      | (with_reducible exact LeO.none _)
      | (with_reducible refine LeO.ite ?_ ?_)
      | (with_reducible refine LeO.bind ?_ (fun _ => ?_))
      | exact ih0 _ _ _
      | exact ih1 _ _ _
      | exact ih2 _ _ _
      | exact ih3 _ _ _
      | exact ih4 _ _ _
      | exact toponymref05_roman.mono _ _ _ _ _
      | exact LeO.none _
      | refine LeO.ite ?_ ?_
      | refine LeO.bind ?_ (fun _ => ?_)
theorem toponymref05_Loose.mono : ∀ a0 k, LeO (toponymref05_Loose.f k a0) (toponymref05_Loose.f (k + 1) a0) := by
  intro a0 k
  obtain ⟨ih0, ih1, ih2, ih3, ih4⟩ := toponymref05_Loose.mono_l k
  unfold toponymref05_Loose.f
  repeat' first
      | (with_reducible exact ih0 _ _ _)
      | (with_reducible exact ih1 _ _ _)
      | (with_reducible exact ih2 _ _ _)
      | (with_reducible exact ih3 _ _ _)
      | (with_reducible exact ih4 _ _ _)
      | (with_reducible exact toponymref05_roman.mono _ _ _ _ _)
      | (with_reducible exact LeO.refl _)
      | (with_reducible exact LeO.none _)
      | (with_reducible refine LeO.ite ?_ ?_)
      | (with_reducible refine LeO.bind ?_ (fun _ => ?_))
      | exact ih0 _ _ _
      | exact ih1 _ _ _
      | exact ih2 _ _ _
      | exact ih3 _ _ _
      | exact ih4 _ _ _
      | exact toponymref05_roman.mono _ _ _ _ _
      | exact LeO.none _
      | refine LeO.ite ?_ ?_
      | refine LeO.bind ?_ (fun _ => ?_)
set_option maxHeartbeats 8000000 in
set_option maxRecDepth 100000 in
theorem toponymref05_Loose.calls (k : Nat) (a0 : Int) (r : List Int) (w : World) (h : toponymref05_Loose.f k a0 = some r) :
    Calls Try.prog 14 #[.int .i32 a0] w fun e w' => ∃ v0_ : Value, e = .returned (v0_) ∧ Kd.R (Kd.int .i32) 21 w' w.heap.size (fun _ => True) v0_ r ∧ Below w.heap.size w w' := by
  have HB := Aside0.mk (Below.refl w.heap.size w)
  have H : (if (wrap64 (a0)) = 160 then (toponymref05_Loose.j0 k a0 (wrap64 (a0)) true) else (if (wrap64 (a0)) ≥ 8194 then (if (wrap64 (a0)) ≤ 8202 then (toponymref05_Loose.j0 k a0 (wrap64 (a0)) true) else (if (wrap64 (a0)) = 8239 then (toponymref05_Loose.j0 k a0 (wrap64 (a0)) true) else (if (wrap64 (a0)) = 8287 then (toponymref05_Loose.j0 k a0 (wrap64 (a0)) true) else (toponymref05_Loose.j0 k a0 (wrap64 (a0)) ((wrap64 (a0)) == 12288))))) else (if (wrap64 (a0)) = 8239 then (toponymref05_Loose.j0 k a0 (wrap64 (a0)) true) else (if (wrap64 (a0)) = 8287 then (toponymref05_Loose.j0 k a0 (wrap64 (a0)) true) else (toponymref05_Loose.j0 k a0 (wrap64 (a0)) ((wrap64 (a0)) == 12288)))))) = some r := h
  clear h
  have HC2 := Aside0.mk H
  clear H
  go_enter Try.func14, Try.ntmps14
  go_upto_region 2 with (fail)
  go_cut [6] (fun v6 wc => ∃ (kq : Nat) (x6_1 : Bool), v6 = .bool x6_1 ∧ Aside0 (toponymref05_Loose.j0 kq a0 (wrap64 (a0)) x6_1 = some r) ∧ Aside0 (kq ≤ k) ∧ Aside0 (Below w.heap.size w wc))
  case first =>
    have H := HC2.out
    clear HC2
    by_cases c3 : (wrap64 (a0)) = 160
    · rw [if_pos c3] at H
      have c3b0 : ((wrap64 (a0)) == 160) = true := beq_iff_eq.mpr c3
      have c3b1 : ((wrap64 (a0)) != 160) = false := bne_eq_false_iff_eq.mpr c3
      clear c3
      (first | rw [c3b0] | (simp only [i64_w, i32_w]; rw [c3b0]) | skip)
      have H' := Aside0.mk H
      clear H
      go_wp2
      go_meet
      case rel => exact ⟨_, (true), (by first | rfl | (simp; done) | (simp [*]; done)), H', ⟨by first | omega | exact Nat.le_refl _⟩, ⟨by repeat (first | (with_reducible first | exact HB.out | apply below_alloc | apply pw_below_drewN | apply below_drew1) | exact HB.out)⟩⟩
    · rw [if_neg c3] at H
      have c3b0 : ((wrap64 (a0)) == 160) = false := beq_eq_false_iff_ne.mpr c3
      have c3b1 : ((wrap64 (a0)) != 160) = true := bne_iff_ne.mpr c3
      (first | rw [c3b0] | (simp only [i64_w, i32_w]; rw [c3b0]) | skip)
      by_cases c4 : (wrap64 (a0)) ≥ 8194
      · rw [if_pos c4] at H
        have c4b0 : decide (8194 ≤ (wrap64 (a0))) = true := decide_eq_true c4
        clear c4
        by_cases c5 : (wrap64 (a0)) ≤ 8202
        · rw [if_pos c5] at H
          have c5b0 : decide ((wrap64 (a0)) ≤ 8202) = true := decide_eq_true c5
          clear c5
          have H' := Aside0.mk H
          clear H
          go_wp2
          go_meet
          case rel => exact ⟨_, (true), (by first | rfl | (simp; done) | (simp [*]; done)), H', ⟨by first | omega | exact Nat.le_refl _⟩, ⟨by repeat (first | (with_reducible first | exact HB.out | apply below_alloc | apply pw_below_drewN | apply below_drew1) | exact HB.out)⟩⟩
        · rw [if_neg c5] at H
          have c5b0 : decide ((wrap64 (a0)) ≤ 8202) = false := decide_eq_false c5
          clear c5
          by_cases c6 : (wrap64 (a0)) = 8239
          · rw [if_pos c6] at H
            have c6b0 : ((wrap64 (a0)) == 8239) = true := beq_iff_eq.mpr c6
            have c6b1 : ((wrap64 (a0)) != 8239) = false := bne_eq_false_iff_eq.mpr c6
            clear c6
            have H' := Aside0.mk H
            clear H
            go_wp2
            go_meet
            case rel => exact ⟨_, (true), (by first | rfl | (simp; done) | (simp [*]; done)), H', ⟨by first | omega | exact Nat.le_refl _⟩, ⟨by repeat (first | (with_reducible first | exact HB.out | apply below_alloc | apply pw_below_drewN | apply below_drew1) | exact HB.out)⟩⟩
          · rw [if_neg c6] at H
            have c6b0 : ((wrap64 (a0)) == 8239) = false := beq_eq_false_iff_ne.mpr c6
            have c6b1 : ((wrap64 (a0)) != 8239) = true := bne_iff_ne.mpr c6
            by_cases c7 : (wrap64 (a0)) = 8287
            · rw [if_pos c7] at H
              have c7b0 : ((wrap64 (a0)) == 8287) = true := beq_iff_eq.mpr c7
              have c7b1 : ((wrap64 (a0)) != 8287) = false := bne_eq_false_iff_eq.mpr c7
              clear c7
              have H' := Aside0.mk H
              clear H
              go_wp2
              go_meet
              case rel => exact ⟨_, (true), (by first | rfl | (simp; done) | (simp [*]; done)), H', ⟨by first | omega | exact Nat.le_refl _⟩, ⟨by repeat (first | (with_reducible first | exact HB.out | apply below_alloc | apply pw_below_drewN | apply below_drew1) | exact HB.out)⟩⟩
            · rw [if_neg c7] at H
              have c7b0 : ((wrap64 (a0)) == 8287) = false := beq_eq_false_iff_ne.mpr c7
              have c7b1 : ((wrap64 (a0)) != 8287) = true := bne_iff_ne.mpr c7
              have H' := Aside0.mk H
              clear H
              go_wp2
              go_meet
              case rel => exact ⟨_, (((wrap64 (a0)) == 12288)), (by first | rfl | (simp; done) | (simp [*]; done)), H', ⟨by first | omega | exact Nat.le_refl _⟩, ⟨by repeat (first | (with_reducible first | exact HB.out | apply below_alloc | apply pw_below_drewN | apply below_drew1) | exact HB.out)⟩⟩
      · rw [if_neg c4] at H
        have c4b0 : decide (8194 ≤ (wrap64 (a0))) = false := decide_eq_false c4
        clear c4
        by_cases c8 : (wrap64 (a0)) = 8239
        · rw [if_pos c8] at H
          have c8b0 : ((wrap64 (a0)) == 8239) = true := beq_iff_eq.mpr c8
          have c8b1 : ((wrap64 (a0)) != 8239) = false := bne_eq_false_iff_eq.mpr c8
          clear c8
          have H' := Aside0.mk H
          clear H
          go_wp2
          go_meet
          case rel => exact ⟨_, (true), (by first | rfl | (simp; done) | (simp [*]; done)), H', ⟨by first | omega | exact Nat.le_refl _⟩, ⟨by repeat (first | (with_reducible first | exact HB.out | apply below_alloc | apply pw_below_drewN | apply below_drew1) | exact HB.out)⟩⟩
        · rw [if_neg c8] at H
          have c8b0 : ((wrap64 (a0)) == 8239) = false := beq_eq_false_iff_ne.mpr c8
          have c8b1 : ((wrap64 (a0)) != 8239) = true := bne_iff_ne.mpr c8
          by_cases c9 : (wrap64 (a0)) = 8287
          · rw [if_pos c9] at H
            have c9b0 : ((wrap64 (a0)) == 8287) = true := beq_iff_eq.mpr c9
            have c9b1 : ((wrap64 (a0)) != 8287) = false := bne_eq_false_iff_eq.mpr c9
            clear c9
            have H' := Aside0.mk H
            clear H
            go_wp2
            go_meet
            case rel => exact ⟨_, (true), (by first | rfl | (simp; done) | (simp [*]; done)), H', ⟨by first | omega | exact Nat.le_refl _⟩, ⟨by repeat (first | (with_reducible first | exact HB.out | apply below_alloc | apply pw_below_drewN | apply below_drew1) | exact HB.out)⟩⟩
          · rw [if_neg c9] at H
            have c9b0 : ((wrap64 (a0)) == 8287) = false := beq_eq_false_iff_ne.mpr c9
            have c9b1 : ((wrap64 (a0)) != 8287) = true := bne_iff_ne.mpr c9
            have H' := Aside0.mk H
            clear H
            go_wp2
            go_meet
            case rel => exact ⟨_, (((wrap64 (a0)) == 12288)), (by first | rfl | (simp; done) | (simp [*]; done)), H', ⟨by first | omega | exact Nat.le_refl _⟩, ⟨by repeat (first | (with_reducible first | exact HB.out | apply below_alloc | apply pw_below_drewN | apply below_drew1) | exact HB.out)⟩⟩
  case rest =>
    clear HC2
    try clear c1
    try clear p2
    try clear c3
    try clear c3b0
    try clear c3b1
    try clear c4
    try clear c4b0
    try clear c5
    try clear c5b0
    try clear c6
    try clear c6b0
    try clear c6b1
    try clear p6
    try clear c7
    try clear c7b0
    try clear c7b1
    try clear c8
    try clear c8b0
    try clear c8b1
    try clear c9
    try clear c9b0
    try clear c9b1
    obtain ⟨kq, x6_1, rfl, HA, HJ1, HB⟩ := hcut
    cases kq with
    | zero => exact absurd HA.out (by simp [toponymref05_Loose.j0])
    | succ kj1 =>
      have H := HA.out
      clear HA
      simp only [toponymref05_Loose.j0] at H
      by_cases c10 : x6_1 = true
      · subst c10
        have H1 : (some (([32] : List Int))) = some r := by rw [if_pos rfl] at H; exact H
        clear H
        have H := H1
        clear H1
        obtain ⟨y301, hy301⟩ : ∃ y_ : List Int, y_ = (([32] : List Int)) := ⟨_, rfl⟩
        replace H : (some y301) = some r := by first | (rw [hy301]; with_reducible exact H) | (have H2_ := (Option.bind_some _ _).symm.trans H; rw [hy301]; with_reducible exact H2_) | (have H2_ := (Option.bind_some _ _).symm.trans H; with_reducible exact H2_) | with_reducible exact H | (rw [hy301]; exact H) | exact H
        have Ny301 := Aside0.mk hy301
        clear hy301
        obtain rfl := Option.some.inj H
        go_wp2_with (first | ((with_reducible refine gate_dst (N := 29) rfl ?_); refine Kd.R_lit (Kd.int .i32) _ 21 ?hg (N := 29) ?hd (xs := ([32] : List Int)) (inner := [.int .i32 32]) (ok := fun _ => True) (okp := fun _ => True) ?hr ?hp (fun _ hk => hk) trivial (Below.refl _ _) (Nat.le_refl _) (by simp) ?_; (case hd => rfl); (case hg => rfl); (case hr => first | (go_simp; done) | (go_simp; rfl)); (case hp => exact (Reps.one (show Kd.M (Kd.int .i32) _ _ _ 32 [.int .i32 32] from rfl) (Reps.none _ _))); intro v302 w11 ho12 hb hg_ hnew_; clear hg_ hnew_; (first | rw [← Ny301.out] at ho12 | (simp only [Int.reduceToNat] at ho12; rw [← Ny301.out] at ho12)); have n0_ := Aside0.mk (Kd.R_lower ho12 (below_size (by repeat (first | (with_reducible first | exact HB.out | apply below_alloc | apply pw_below_drewN | apply below_drew1) | exact HB.out)))); have n1_ := Aside0.mk (below_step (by repeat (first | (with_reducible first | exact HB.out | apply below_alloc | apply pw_below_drewN | apply below_drew1) | exact HB.out)) hb); clear HB; have HO303 := n0_; have HB := n1_; clear n0_ n1_; clear hb ho12))
        go_ret
        exact ⟨_, by first | rfl | (simp [errW_none, errW_some] <;> rfl) | (simp [*, errW_none, errW_some] <;> rfl), by (with_reducible repeat (first | apply Kd.R_alloc | apply Kd.R_drewN | apply Kd.R_drew)); exact HO303.out, by repeat (first | (with_reducible first | exact HB.out | apply below_alloc | apply pw_below_drewN | apply below_drew1) | exact HB.out)⟩
      · replace c10 := Bool.eq_false_iff.mpr c10
        subst c10
        have H1 : (if (wrap64 (a0)) = 8209 then (some (([8208] : List Int))) else (if (wrap64 (a0)) = 8304 then (toponymref05_Loose.j1 kj1 a0 (wrap64 (a0)) true) else (if (wrap64 (a0)) ≥ 8308 then (toponymref05_Loose.j1 kj1 a0 (wrap64 (a0)) (decide ((wrap64 (a0)) ≤ 8313))) else (toponymref05_Loose.j1 kj1 a0 (wrap64 (a0)) false)))) = some r := by rw [if_neg (show ¬ (false = true) by decide)] at H; exact H
        clear H
        have H := H1
        clear H1
        by_cases c13 : (wrap64 (a0)) = 8209
        · rw [if_pos c13] at H
          have c13b0 : ((wrap64 (a0)) == 8209) = true := beq_iff_eq.mpr c13
          have c13b1 : ((wrap64 (a0)) != 8209) = false := bne_eq_false_iff_eq.mpr c13
          clear c13
          obtain ⟨y304, hy304⟩ : ∃ y_ : List Int, y_ = (([8208] : List Int)) := ⟨_, rfl⟩
          replace H : (some y304) = some r := by first | (rw [hy304]; with_reducible exact H) | (have H2_ := (Option.bind_some _ _).symm.trans H; rw [hy304]; with_reducible exact H2_) | (have H2_ := (Option.bind_some _ _).symm.trans H; with_reducible exact H2_) | with_reducible exact H | (rw [hy304]; exact H) | exact H
          have Ny304 := Aside0.mk hy304
          clear hy304
          obtain rfl := Option.some.inj H
          go_wp2_with (first | ((with_reducible refine gate_dst (N := 33) rfl ?_); refine Kd.R_lit (Kd.int .i32) _ 21 ?hg (N := 33) ?hd (xs := ([8208] : List Int)) (inner := [.int .i32 8208]) (ok := fun _ => True) (okp := fun _ => True) ?hr ?hp (fun _ hk => hk) trivial (Below.refl _ _) (Nat.le_refl _) (by simp) ?_; (case hd => rfl); (case hg => rfl); (case hr => first | (go_simp; done) | (go_simp; rfl)); (case hp => exact (Reps.one (show Kd.M (Kd.int .i32) _ _ _ 8208 [.int .i32 8208] from rfl) (Reps.none _ _))); intro v305 w14 ho15 hb hg_ hnew_; clear hg_ hnew_; (first | rw [← Ny304.out] at ho15 | (simp only [Int.reduceToNat] at ho15; rw [← Ny304.out] at ho15)); have n0_ := Aside0.mk (Kd.R_lower ho15 (below_size (by repeat (first | (with_reducible first | exact HB.out | apply below_alloc | apply pw_below_drewN | apply below_drew1) | exact HB.out)))); have n1_ := Aside0.mk (below_step (by repeat (first | (with_reducible first | exact HB.out | apply below_alloc | apply pw_below_drewN | apply below_drew1) | exact HB.out)) hb); clear HB; have HO306 := n0_; have HB := n1_; clear n0_ n1_; clear hb ho15))
          go_ret
          exact ⟨_, by first | rfl | (simp [errW_none, errW_some] <;> rfl) | (simp [*, errW_none, errW_some] <;> rfl), by (with_reducible repeat (first | apply Kd.R_alloc | apply Kd.R_drewN | apply Kd.R_drew)); exact HO306.out, by repeat (first | (with_reducible first | exact HB.out | apply below_alloc | apply pw_below_drewN | apply below_drew1) | exact HB.out)⟩
        · rw [if_neg c13] at H
          have c13b0 : ((wrap64 (a0)) == 8209) = false := beq_eq_false_iff_ne.mpr c13
          have c13b1 : ((wrap64 (a0)) != 8209) = true := bne_iff_ne.mpr c13
          have HC16 := Aside0.mk H
          clear H
          go_upto_region 6 with (fail)
          go_cut [34] (fun v34 wc => ∃ (kq : Nat) (x34_15 : Bool), v34 = .bool x34_15 ∧ Aside0 (toponymref05_Loose.j1 kq a0 (wrap64 (a0)) x34_15 = some r) ∧ Aside0 (kq ≤ kj1) ∧ Aside0 (Below w.heap.size w wc))
          case first =>
            have H := HC16.out
            clear HC16
            by_cases c17 : (wrap64 (a0)) = 8304
            · rw [if_pos c17] at H
              have c17b0 : ((wrap64 (a0)) == 8304) = true := beq_iff_eq.mpr c17
              have c17b1 : ((wrap64 (a0)) != 8304) = false := bne_eq_false_iff_eq.mpr c17
              clear c17
              (first | rw [c17b0] | (simp only [i64_w, i32_w]; rw [c17b0]) | skip)
              have H' := Aside0.mk H
              clear H
              go_wp2
              go_meet
              case rel => exact ⟨_, (true), (by first | rfl | (simp; done) | (simp [*]; done)), H', ⟨by have := HJ1.out; first | omega | exact Nat.le_refl _⟩, ⟨by repeat (first | (with_reducible first | exact HB.out | apply below_alloc | apply pw_below_drewN | apply below_drew1) | exact HB.out)⟩⟩
            · rw [if_neg c17] at H
              have c17b0 : ((wrap64 (a0)) == 8304) = false := beq_eq_false_iff_ne.mpr c17
              have c17b1 : ((wrap64 (a0)) != 8304) = true := bne_iff_ne.mpr c17
              (first | rw [c17b0] | (simp only [i64_w, i32_w]; rw [c17b0]) | skip)
              by_cases c18 : (wrap64 (a0)) ≥ 8308
              · rw [if_pos c18] at H
                have c18b0 : decide (8308 ≤ (wrap64 (a0))) = true := decide_eq_true c18
                clear c18
                have H' := Aside0.mk H
                clear H
                go_wp2
                go_meet
                case rel => exact ⟨_, (decide ((wrap64 (a0)) ≤ 8313)), (by first | rfl | (simp; done) | (simp [*]; done)), H', ⟨by have := HJ1.out; first | omega | exact Nat.le_refl _⟩, ⟨by repeat (first | (with_reducible first | exact HB.out | apply below_alloc | apply pw_below_drewN | apply below_drew1) | exact HB.out)⟩⟩
              · rw [if_neg c18] at H
                have c18b0 : decide (8308 ≤ (wrap64 (a0))) = false := decide_eq_false c18
                clear c18
                have H' := Aside0.mk H
                clear H
                go_wp2
                go_meet
                case rel => exact ⟨_, (false), (by first | rfl | (simp; done) | (simp [*]; done)), H', ⟨by have := HJ1.out; first | omega | exact Nat.le_refl _⟩, ⟨by repeat (first | (with_reducible first | exact HB.out | apply below_alloc | apply pw_below_drewN | apply below_drew1) | exact HB.out)⟩⟩
          case rest =>
            clear HC16
            try clear c1
            try clear p2
            try clear c3
            try clear c3b0
            try clear c3b1
            try clear c4
            try clear c4b0
            try clear c5
            try clear c5b0
            try clear c6
            try clear c6b0
            try clear c6b1
            try clear p6
            try clear c7
            try clear c7b0
            try clear c7b1
            try clear c8
            try clear c8b0
            try clear c8b1
            try clear c9
            try clear c9b0
            try clear c9b1
            try clear c10
            try clear c13
            try clear c13b0
            try clear c13b1
            try clear c14
            try clear c17
            try clear c17b0
            try clear c17b1
            try clear c18
            try clear c18b0
            try clear p2
            try clear p6
            obtain ⟨kq, x34_15, rfl, HA, HJ15, HB⟩ := hcut
            cases kq with
            | zero => exact absurd HA.out (by simp [toponymref05_Loose.j1])
            | succ kj15 =>
              have H := HA.out
              clear HA
              simp only [toponymref05_Loose.j1] at H
              by_cases c19 : x34_15 = true
              · subst c19
                have H1 : (some (([wrap32 (a0 - 8256)] : List Int))) = some r := by rw [if_pos rfl] at H; exact H
                clear H
                have H := H1
                clear H1
                obtain ⟨y307, hy307⟩ : ∃ y_ : List Int, y_ = (([wrap32 (a0 - 8256)] : List Int)) := ⟨_, rfl⟩
                replace H : (some y307) = some r := by first | (rw [hy307]; with_reducible exact H) | (have H2_ := (Option.bind_some _ _).symm.trans H; rw [hy307]; with_reducible exact H2_) | (have H2_ := (Option.bind_some _ _).symm.trans H; with_reducible exact H2_) | with_reducible exact H | (rw [hy307]; exact H) | exact H
                have Ny307 := Aside0.mk hy307
                clear hy307
                obtain rfl := Option.some.inj H
                go_wp2_with (first | ((with_reducible refine gate_dst (N := 47) rfl ?_); refine Kd.R_lit (Kd.int .i32) _ 21 ?hg (N := 47) ?hd (xs := ([wrap32 (a0 - 8256)] : List Int)) (inner := [.int .i32 (wrap32 (a0 - 8256))]) (ok := fun _ => True) (okp := fun _ => True) ?hr ?hp (fun _ hk => hk) trivial (Below.refl _ _) (Nat.le_refl _) (by simp) ?_; (case hd => rfl); (case hg => rfl); (case hr => first | (go_simp; done) | (go_simp; rfl)); (case hp => exact (Reps.one (show Kd.M (Kd.int .i32) _ _ _ (wrap32 (a0 - 8256)) [.int .i32 (wrap32 (a0 - 8256))] from rfl) (Reps.none _ _))); intro v308 w20 ho21 hb hg_ hnew_; clear hg_ hnew_; (first | rw [← Ny307.out] at ho21 | (simp only [Int.reduceToNat] at ho21; rw [← Ny307.out] at ho21)); have n0_ := Aside0.mk (Kd.R_lower ho21 (below_size (by repeat (first | (with_reducible first | exact HB.out | apply below_alloc | apply pw_below_drewN | apply below_drew1) | exact HB.out)))); have n1_ := Aside0.mk (below_step (by repeat (first | (with_reducible first | exact HB.out | apply below_alloc | apply pw_below_drewN | apply below_drew1) | exact HB.out)) hb); clear HB; have HO309 := n0_; have HB := n1_; clear n0_ n1_; clear hb ho21))
                go_ret
                exact ⟨_, by first | rfl | (simp [errW_none, errW_some] <;> rfl) | (simp [*, errW_none, errW_some] <;> rfl), by (with_reducible repeat (first | apply Kd.R_alloc | apply Kd.R_drewN | apply Kd.R_drew)); exact HO309.out, by repeat (first | (with_reducible first | exact HB.out | apply below_alloc | apply pw_below_drewN | apply below_drew1) | exact HB.out)⟩
              · replace c19 := Bool.eq_false_iff.mpr c19
                subst c19
                have H1 : (if (wrap64 (a0)) ≥ 8320 then (toponymref05_Loose.j2 kj15 a0 (wrap64 (a0)) (decide ((wrap64 (a0)) ≤ 8329))) else (toponymref05_Loose.j2 kj15 a0 (wrap64 (a0)) false)) = some r := by rw [if_neg (show ¬ (false = true) by decide)] at H; exact H
                clear H
                have H := H1
                clear H1
                have HC22 := Aside0.mk H
                clear H
                go_upto_region 8 with (fail)
                go_cut [48] (fun v48 wc => ∃ (kq : Nat) (x48_21 : Bool), v48 = .bool x48_21 ∧ Aside0 (toponymref05_Loose.j2 kq a0 (wrap64 (a0)) x48_21 = some r) ∧ Aside0 (kq ≤ kj15) ∧ Aside0 (Below w.heap.size w wc))
                case first =>
                  have H := HC22.out
                  clear HC22
                  by_cases c23 : (wrap64 (a0)) ≥ 8320
                  · rw [if_pos c23] at H
                    have c23b0 : decide (8320 ≤ (wrap64 (a0))) = true := decide_eq_true c23
                    clear c23
                    (first | rw [c23b0] | (simp only [i64_w, i32_w]; rw [c23b0]) | skip)
                    have H' := Aside0.mk H
                    clear H
                    go_wp2
                    go_meet
                    case rel => exact ⟨_, (decide ((wrap64 (a0)) ≤ 8329)), (by first | rfl | (simp; done) | (simp [*]; done)), H', ⟨by have := HJ1.out; have := HJ15.out; first | omega | exact Nat.le_refl _⟩, ⟨by repeat (first | (with_reducible first | exact HB.out | apply below_alloc | apply pw_below_drewN | apply below_drew1) | exact HB.out)⟩⟩
                  · rw [if_neg c23] at H
                    have c23b0 : decide (8320 ≤ (wrap64 (a0))) = false := decide_eq_false c23
                    clear c23
                    (first | rw [c23b0] | (simp only [i64_w, i32_w]; rw [c23b0]) | skip)
                    have H' := Aside0.mk H
                    clear H
                    go_wp2
                    go_meet
                    case rel => exact ⟨_, (false), (by first | rfl | (simp; done) | (simp [*]; done)), H', ⟨by have := HJ1.out; have := HJ15.out; first | omega | exact Nat.le_refl _⟩, ⟨by repeat (first | (with_reducible first | exact HB.out | apply below_alloc | apply pw_below_drewN | apply below_drew1) | exact HB.out)⟩⟩
                case rest =>
                  clear HC22
                  try clear c1
                  try clear c2
                  try clear p2
                  try clear c3
                  try clear c3b0
                  try clear c3b1
                  try clear p3
                  try clear c4
                  try clear c4b0
                  try clear c5
                  try clear c5b0
                  try clear c6
                  try clear c6b0
                  try clear c6b1
                  try clear p6
                  try clear c7
                  try clear c7b0
                  try clear c7b1
                  try clear c8
                  try clear c8b0
                  try clear c8b1
                  try clear c9
                  try clear c9b0
                  try clear c9b1
                  try clear c10
                  try clear c13
                  try clear c13b0
                  try clear c13b1
                  try clear c14
                  try clear c17
                  try clear c17b0
                  try clear c17b1
                  try clear c18
                  try clear c18b0
                  try clear c19
                  try clear c23
                  try clear c23b0
                  try clear p2
                  try clear p6
                  obtain ⟨kq, x48_21, rfl, HA, HJ21, HB⟩ := hcut
                  cases kq with
                  | zero => exact absurd HA.out (by simp [toponymref05_Loose.j2])
                  | succ kj21 =>
                    have H := HA.out
                    clear HA
                    simp only [toponymref05_Loose.j2] at H
                    by_cases c24 : x48_21 = true
                    · subst c24
                      have H1 : (some (([wrap32 (a0 - 8272)] : List Int))) = some r := by rw [if_pos rfl] at H; exact H
                      clear H
                      have H := H1
                      clear H1
                      obtain ⟨y310, hy310⟩ : ∃ y_ : List Int, y_ = (([wrap32 (a0 - 8272)] : List Int)) := ⟨_, rfl⟩
                      replace H : (some y310) = some r := by first | (rw [hy310]; with_reducible exact H) | (have H2_ := (Option.bind_some _ _).symm.trans H; rw [hy310]; with_reducible exact H2_) | (have H2_ := (Option.bind_some _ _).symm.trans H; with_reducible exact H2_) | with_reducible exact H | (rw [hy310]; exact H) | exact H
                      have Ny310 := Aside0.mk hy310
                      clear hy310
                      obtain rfl := Option.some.inj H
                      go_wp2_with (first | ((with_reducible refine gate_dst (N := 57) rfl ?_); refine Kd.R_lit (Kd.int .i32) _ 21 ?hg (N := 57) ?hd (xs := ([wrap32 (a0 - 8272)] : List Int)) (inner := [.int .i32 (wrap32 (a0 - 8272))]) (ok := fun _ => True) (okp := fun _ => True) ?hr ?hp (fun _ hk => hk) trivial (Below.refl _ _) (Nat.le_refl _) (by simp) ?_; (case hd => rfl); (case hg => rfl); (case hr => first | (go_simp; done) | (go_simp; rfl)); (case hp => exact (Reps.one (show Kd.M (Kd.int .i32) _ _ _ (wrap32 (a0 - 8272)) [.int .i32 (wrap32 (a0 - 8272))] from rfl) (Reps.none _ _))); intro v311 w25 ho26 hb hg_ hnew_; clear hg_ hnew_; (first | rw [← Ny310.out] at ho26 | (simp only [Int.reduceToNat] at ho26; rw [← Ny310.out] at ho26)); have n0_ := Aside0.mk (Kd.R_lower ho26 (below_size (by repeat (first | (with_reducible first | exact HB.out | apply below_alloc | apply pw_below_drewN | apply below_drew1) | exact HB.out)))); have n1_ := Aside0.mk (below_step (by repeat (first | (with_reducible first | exact HB.out | apply below_alloc | apply pw_below_drewN | apply below_drew1) | exact HB.out)) hb); clear HB; have HO312 := n0_; have HB := n1_; clear n0_ n1_; clear hb ho26))
                      go_ret
                      exact ⟨_, by first | rfl | (simp [errW_none, errW_some] <;> rfl) | (simp [*, errW_none, errW_some] <;> rfl), by (with_reducible repeat (first | apply Kd.R_alloc | apply Kd.R_drewN | apply Kd.R_drew)); exact HO312.out, by repeat (first | (with_reducible first | exact HB.out | apply below_alloc | apply pw_below_drewN | apply below_drew1) | exact HB.out)⟩
                    · replace c24 := Bool.eq_false_iff.mpr c24
                      subst c24
                      have H1 : (if (wrap64 (a0)) ≥ 8544 then (toponymref05_Loose.j3 kj21 a0 (wrap64 (a0)) (decide ((wrap64 (a0)) ≤ 8555))) else (toponymref05_Loose.j3 kj21 a0 (wrap64 (a0)) false)) = some r := by rw [if_neg (show ¬ (false = true) by decide)] at H; exact H
                      clear H
                      have H := H1
                      clear H1
                      have HC27 := Aside0.mk H
                      clear H
                      go_upto_region 10 with (fail)
                      go_cut [58] (fun v58 wc => ∃ (kq : Nat) (x58_26 : Bool), v58 = .bool x58_26 ∧ Aside0 (toponymref05_Loose.j3 kq a0 (wrap64 (a0)) x58_26 = some r) ∧ Aside0 (kq ≤ kj21) ∧ Aside0 (Below w.heap.size w wc))
                      case first =>
                        have H := HC27.out
                        clear HC27
                        by_cases c28 : (wrap64 (a0)) ≥ 8544
                        · rw [if_pos c28] at H
                          have c28b0 : decide (8544 ≤ (wrap64 (a0))) = true := decide_eq_true c28
                          clear c28
                          (first | rw [c28b0] | (simp only [i64_w, i32_w]; rw [c28b0]) | skip)
                          have H' := Aside0.mk H
                          clear H
                          go_wp2
                          go_meet
                          case rel => exact ⟨_, (decide ((wrap64 (a0)) ≤ 8555)), (by first | rfl | (simp; done) | (simp [*]; done)), H', ⟨by have := HJ1.out; have := HJ15.out; have := HJ21.out; first | omega | exact Nat.le_refl _⟩, ⟨by repeat (first | (with_reducible first | exact HB.out | apply below_alloc | apply pw_below_drewN | apply below_drew1) | exact HB.out)⟩⟩
                        · rw [if_neg c28] at H
                          have c28b0 : decide (8544 ≤ (wrap64 (a0))) = false := decide_eq_false c28
                          clear c28
                          (first | rw [c28b0] | (simp only [i64_w, i32_w]; rw [c28b0]) | skip)
                          have H' := Aside0.mk H
                          clear H
                          go_wp2
                          go_meet
                          case rel => exact ⟨_, (false), (by first | rfl | (simp; done) | (simp [*]; done)), H', ⟨by have := HJ1.out; have := HJ15.out; have := HJ21.out; first | omega | exact Nat.le_refl _⟩, ⟨by repeat (first | (with_reducible first | exact HB.out | apply below_alloc | apply pw_below_drewN | apply below_drew1) | exact HB.out)⟩⟩
                      case rest =>
                        clear HC27
                        try clear c1
                        try clear c2
                        try clear p2
                        try clear c3
                        try clear c3b0
                        try clear c3b1
                        try clear p3
                        try clear c4
                        try clear c4b0
                        try clear c5
                        try clear c5b0
                        try clear c6
                        try clear c6b0
                        try clear c6b1
                        try clear p6
                        try clear c7
                        try clear c7b0
                        try clear c7b1
                        try clear c8
                        try clear c8b0
                        try clear c8b1
                        try clear c9
                        try clear c9b0
                        try clear c9b1
                        try clear c10
                        try clear c13
                        try clear c13b0
                        try clear c13b1
                        try clear c14
                        try clear c17
                        try clear c17b0
                        try clear c17b1
                        try clear c18
                        try clear c18b0
                        try clear c19
                        try clear c23
                        try clear c23b0
                        try clear c24
                        try clear c28
                        try clear c28b0
                        try clear p2
                        try clear p3
                        try clear p6
                        obtain ⟨kq, x58_26, rfl, HA, HJ26, HB⟩ := hcut
                        cases kq with
                        | zero => exact absurd HA.out (by simp [toponymref05_Loose.j3])
                        | succ kj26 =>
                          have H := HA.out
                          clear HA
                          simp only [toponymref05_Loose.j3] at H
                          by_cases c29 : x58_26 = true
                          · subst c29
                            have H1 : ((toponymref05_roman.f kj26 (wrap64 ((wrap64 (a0)) - 8543)) 73 86 88).bind fun t313 => (some t313)) = some r := by rw [if_pos rfl] at H; exact H
                            clear H
                            have H := H1
                            clear H1
                            replace H := Option.bind_eq_some_iff.mp H
                            obtain ⟨t313, A300, H⟩ := H
                            replace H : (some t313) = some r := H
                            have A30 := Aside0.mk A300
                            clear A300
                            obtain rfl := Option.some.inj H
                            go_wp2_with (first | ((with_reducible refine gate_callee (f := 28) rfl ?_); refine goesL_ (some 67) rfl rfl Try.func28 (by kernel_rfl) rfl #[.int .i64 (wrap64 ((wrap64 (a0)) - 8543)), .int .i32 73, .int .i32 86, .int .i32 88] rfl (by (try simp only [List.map_toArray, List.map_cons, List.map_nil]); first | done | rfl | (simp only [List.length_drop, List.length_take]; rfl)) ?_; (with_reducible refine (toponymref05_roman.calls kj26 (wrap64 ((wrap64 (a0)) - 8543)) 73 86 88 t313 _ A30.out).mono ?_); rintro e w31 ⟨v314, rfl, ho0, hb⟩; (try clear A30); refine ⟨_, rfl, ?_⟩; have n0_ := Aside0.mk (Kd.R_lower ho0 (below_size (by repeat (first | (with_reducible first | exact HB.out | apply below_alloc | apply pw_below_drewN | apply below_drew1) | exact HB.out)))); have n1_ := Aside0.mk (below_step (by repeat (first | (with_reducible first | exact HB.out | apply below_alloc | apply pw_below_drewN | apply below_drew1) | exact HB.out)) hb); clear HB; have HO315 := n0_; have HB := n1_; clear n0_ n1_; (try clear hb); (try clear hb2); (try clear hk); (try clear hi); (try clear ho0)))
                            go_ret
                            exact ⟨_, by first | rfl | (simp [errW_none, errW_some] <;> rfl) | (simp [*, errW_none, errW_some] <;> rfl), by (with_reducible repeat (first | apply Kd.R_alloc | apply Kd.R_drewN | apply Kd.R_drew)); exact HO315.out, by repeat (first | (with_reducible first | exact HB.out | apply below_alloc | apply pw_below_drewN | apply below_drew1) | exact HB.out)⟩
                          · replace c29 := Bool.eq_false_iff.mpr c29
                            subst c29
                            have H1 : (if (wrap64 (a0)) ≥ 8560 then (toponymref05_Loose.j4 kj26 a0 (wrap64 (a0)) (decide ((wrap64 (a0)) ≤ 8571))) else (toponymref05_Loose.j4 kj26 a0 (wrap64 (a0)) false)) = some r := by rw [if_neg (show ¬ (false = true) by decide)] at H; exact H
                            clear H
                            have H := H1
                            clear H1
                            have HC32 := Aside0.mk H
                            clear H
                            go_upto_region 12 with (fail)
                            go_cut [68] (fun v68 wc => ∃ (kq : Nat) (x68_31 : Bool), v68 = .bool x68_31 ∧ Aside0 (toponymref05_Loose.j4 kq a0 (wrap64 (a0)) x68_31 = some r) ∧ Aside0 (kq ≤ kj26) ∧ Aside0 (Below w.heap.size w wc))
                            case first =>
                              have H := HC32.out
                              clear HC32
                              by_cases c33 : (wrap64 (a0)) ≥ 8560
                              · rw [if_pos c33] at H
                                have c33b0 : decide (8560 ≤ (wrap64 (a0))) = true := decide_eq_true c33
                                clear c33
                                (first | rw [c33b0] | (simp only [i64_w, i32_w]; rw [c33b0]) | skip)
                                have H' := Aside0.mk H
                                clear H
                                go_wp2
                                go_meet
                                case rel => exact ⟨_, (decide ((wrap64 (a0)) ≤ 8571)), (by first | rfl | (simp; done) | (simp [*]; done)), H', ⟨by have := HJ1.out; have := HJ15.out; have := HJ21.out; have := HJ26.out; first | omega | exact Nat.le_refl _⟩, ⟨by repeat (first | (with_reducible first | exact HB.out | apply below_alloc | apply pw_below_drewN | apply below_drew1) | exact HB.out)⟩⟩
                              · rw [if_neg c33] at H
                                have c33b0 : decide (8560 ≤ (wrap64 (a0))) = false := decide_eq_false c33
                                clear c33
                                (first | rw [c33b0] | (simp only [i64_w, i32_w]; rw [c33b0]) | skip)
                                have H' := Aside0.mk H
                                clear H
                                go_wp2
                                go_meet
                                case rel => exact ⟨_, (false), (by first | rfl | (simp; done) | (simp [*]; done)), H', ⟨by have := HJ1.out; have := HJ15.out; have := HJ21.out; have := HJ26.out; first | omega | exact Nat.le_refl _⟩, ⟨by repeat (first | (with_reducible first | exact HB.out | apply below_alloc | apply pw_below_drewN | apply below_drew1) | exact HB.out)⟩⟩
                            case rest =>
                              clear HC32
                              try clear c1
                              try clear c2
                              try clear p2
                              try clear c3
                              try clear c3b0
                              try clear c3b1
                              try clear p3
                              try clear c4
                              try clear c4b0
                              try clear c5
                              try clear c5b0
                              try clear c6
                              try clear c6b0
                              try clear c6b1
                              try clear p6
                              try clear c7
                              try clear c7b0
                              try clear c7b1
                              try clear c8
                              try clear c8b0
                              try clear c8b1
                              try clear c9
                              try clear c9b0
                              try clear c9b1
                              try clear c10
                              try clear c13
                              try clear c13b0
                              try clear c13b1
                              try clear c14
                              try clear c17
                              try clear c17b0
                              try clear c17b1
                              try clear c18
                              try clear c18b0
                              try clear c19
                              try clear c23
                              try clear c23b0
                              try clear c24
                              try clear c28
                              try clear c28b0
                              try clear c29
                              try clear p32
                              try clear c33
                              try clear c33b0
                              try clear p2
                              try clear p3
                              try clear p6
                              obtain ⟨kq, x68_31, rfl, HA, HJ31, HB⟩ := hcut
                              cases kq with
                              | zero => exact absurd HA.out (by simp [toponymref05_Loose.j4])
                              | succ kj31 =>
                                have H := HA.out
                                clear HA
                                simp only [toponymref05_Loose.j4] at H
                                by_cases c34 : x68_31 = true
                                · subst c34
                                  have H1 : ((toponymref05_roman.f kj31 (wrap64 ((wrap64 (a0)) - 8559)) 105 118 120).bind fun t316 => (some t316)) = some r := by rw [if_pos rfl] at H; exact H
                                  clear H
                                  have H := H1
                                  clear H1
                                  replace H := Option.bind_eq_some_iff.mp H
                                  obtain ⟨t316, A350, H⟩ := H
                                  replace H : (some t316) = some r := H
                                  have A35 := Aside0.mk A350
                                  clear A350
                                  obtain rfl := Option.some.inj H
                                  go_wp2_with (first | ((with_reducible refine gate_callee (f := 28) rfl ?_); refine goesL_ (some 77) rfl rfl Try.func28 (by kernel_rfl) rfl #[.int .i64 (wrap64 ((wrap64 (a0)) - 8559)), .int .i32 105, .int .i32 118, .int .i32 120] rfl (by (try simp only [List.map_toArray, List.map_cons, List.map_nil]); first | done | rfl | (simp only [List.length_drop, List.length_take]; rfl)) ?_; (with_reducible refine (toponymref05_roman.calls kj31 (wrap64 ((wrap64 (a0)) - 8559)) 105 118 120 t316 _ A35.out).mono ?_); rintro e w36 ⟨v317, rfl, ho0, hb⟩; (try clear A35); refine ⟨_, rfl, ?_⟩; have n0_ := Aside0.mk (Kd.R_lower ho0 (below_size (by repeat (first | (with_reducible first | exact HB.out | apply below_alloc | apply pw_below_drewN | apply below_drew1) | exact HB.out)))); have n1_ := Aside0.mk (below_step (by repeat (first | (with_reducible first | exact HB.out | apply below_alloc | apply pw_below_drewN | apply below_drew1) | exact HB.out)) hb); clear HB; have HO318 := n0_; have HB := n1_; clear n0_ n1_; (try clear hb); (try clear hb2); (try clear hk); (try clear hi); (try clear ho0)))
                                  go_ret
                                  exact ⟨_, by first | rfl | (simp [errW_none, errW_some] <;> rfl) | (simp [*, errW_none, errW_some] <;> rfl), by (with_reducible repeat (first | apply Kd.R_alloc | apply Kd.R_drewN | apply Kd.R_drew)); exact HO318.out, by repeat (first | (with_reducible first | exact HB.out | apply below_alloc | apply pw_below_drewN | apply below_drew1) | exact HB.out)⟩
                                · replace c34 := Bool.eq_false_iff.mpr c34
                                  subst c34
                                  have H1 : (if (wrap64 (a0)) ≥ 65281 then (if (wrap64 (a0)) ≤ 65374 then (some (([wrap32 (a0 - 65248)] : List Int))) else ((toponymref05_few.f (wrap64 (a0))).bind fun t322 => (some t322))) else ((toponymref05_few.f (wrap64 (a0))).bind fun t325 => (some t325))) = some r := by rw [if_neg (show ¬ (false = true) by decide)] at H; exact H
                                  clear H
                                  have H := H1
                                  clear H1
                                  by_cases c37 : (wrap64 (a0)) ≥ 65281
                                  · rw [if_pos c37] at H
                                    have c37b0 : decide (65281 ≤ (wrap64 (a0))) = true := decide_eq_true c37
                                    clear c37
                                    by_cases c38 : (wrap64 (a0)) ≤ 65374
                                    · rw [if_pos c38] at H
                                      have c38b0 : decide ((wrap64 (a0)) ≤ 65374) = true := decide_eq_true c38
                                      clear c38
                                      obtain ⟨y319, hy319⟩ : ∃ y_ : List Int, y_ = (([wrap32 (a0 - 65248)] : List Int)) := ⟨_, rfl⟩
                                      replace H : (some y319) = some r := by first | (rw [hy319]; with_reducible exact H) | (have H2_ := (Option.bind_some _ _).symm.trans H; rw [hy319]; with_reducible exact H2_) | (have H2_ := (Option.bind_some _ _).symm.trans H; with_reducible exact H2_) | with_reducible exact H | (rw [hy319]; exact H) | exact H
                                      have Ny319 := Aside0.mk hy319
                                      clear hy319
                                      obtain rfl := Option.some.inj H
                                      go_wp2_with (first | ((with_reducible refine gate_dst (N := 87) rfl ?_); refine Kd.R_lit (Kd.int .i32) _ 21 ?hg (N := 87) ?hd (xs := ([wrap32 (a0 - 65248)] : List Int)) (inner := [.int .i32 (wrap32 (a0 - 65248))]) (ok := fun _ => True) (okp := fun _ => True) ?hr ?hp (fun _ hk => hk) trivial (Below.refl _ _) (Nat.le_refl _) (by simp) ?_; (case hd => rfl); (case hg => rfl); (case hr => first | (go_simp; done) | (go_simp; rfl)); (case hp => exact (Reps.one (show Kd.M (Kd.int .i32) _ _ _ (wrap32 (a0 - 65248)) [.int .i32 (wrap32 (a0 - 65248))] from rfl) (Reps.none _ _))); intro v320 w39 ho40 hb hg_ hnew_; clear hg_ hnew_; (first | rw [← Ny319.out] at ho40 | (simp only [Int.reduceToNat] at ho40; rw [← Ny319.out] at ho40)); have n0_ := Aside0.mk (Kd.R_lower ho40 (below_size (by repeat (first | (with_reducible first | exact HB.out | apply below_alloc | apply pw_below_drewN | apply below_drew1) | exact HB.out)))); have n1_ := Aside0.mk (below_step (by repeat (first | (with_reducible first | exact HB.out | apply below_alloc | apply pw_below_drewN | apply below_drew1) | exact HB.out)) hb); clear HB; have HO321 := n0_; have HB := n1_; clear n0_ n1_; clear hb ho40))
                                      go_ret
                                      exact ⟨_, by first | rfl | (simp [errW_none, errW_some] <;> rfl) | (simp [*, errW_none, errW_some] <;> rfl), by (with_reducible repeat (first | apply Kd.R_alloc | apply Kd.R_drewN | apply Kd.R_drew)); exact HO321.out, by repeat (first | (with_reducible first | exact HB.out | apply below_alloc | apply pw_below_drewN | apply below_drew1) | exact HB.out)⟩
                                    · rw [if_neg c38] at H
                                      have c38b0 : decide ((wrap64 (a0)) ≤ 65374) = false := decide_eq_false c38
                                      clear c38
                                      replace H := Option.bind_eq_some_iff.mp H
                                      obtain ⟨t322, A410, H⟩ := H
                                      replace H : (some t322) = some r := H
                                      have A41 := Aside0.mk A410
                                      clear A410
                                      obtain rfl := Option.some.inj H
                                      go_wp2_with (first | ((with_reducible refine gate_callee (f := 29) rfl ?_); refine goesL_ (some 89) rfl rfl Try.func29 (by kernel_rfl) rfl #[.int .i64 (wrap64 (a0))] rfl (by (try simp only [List.map_toArray, List.map_cons, List.map_nil]); first | done | rfl | (simp only [List.length_drop, List.length_take]; rfl)) ?_; (with_reducible refine (toponymref05_few.calls (wrap64 (a0)) t322 _ A41.out).mono ?_); rintro e w42 ⟨v323, rfl, ho0, hb⟩; (try clear A41); refine ⟨_, rfl, ?_⟩; have n0_ := Aside0.mk (Kd.R_lower ho0 (below_size (by repeat (first | (with_reducible first | exact HB.out | apply below_alloc | apply pw_below_drewN | apply below_drew1) | exact HB.out)))); have n1_ := Aside0.mk (below_step (by repeat (first | (with_reducible first | exact HB.out | apply below_alloc | apply pw_below_drewN | apply below_drew1) | exact HB.out)) hb); clear HB; have HO324 := n0_; have HB := n1_; clear n0_ n1_; (try clear hb); (try clear hb2); (try clear hk); (try clear hi); (try clear ho0)))
                                      go_ret
                                      exact ⟨_, by first | rfl | (simp [errW_none, errW_some] <;> rfl) | (simp [*, errW_none, errW_some] <;> rfl), by (with_reducible repeat (first | apply Kd.R_alloc | apply Kd.R_drewN | apply Kd.R_drew)); exact HO324.out, by repeat (first | (with_reducible first | exact HB.out | apply below_alloc | apply pw_below_drewN | apply below_drew1) | exact HB.out)⟩
                                  · rw [if_neg c37] at H
                                    have c37b0 : decide (65281 ≤ (wrap64 (a0))) = false := decide_eq_false c37
                                    clear c37
                                    replace H := Option.bind_eq_some_iff.mp H
                                    obtain ⟨t325, A430, H⟩ := H
                                    replace H : (some t325) = some r := H
                                    have A43 := Aside0.mk A430
                                    clear A430
                                    obtain rfl := Option.some.inj H
                                    go_wp2_with (first | ((with_reducible refine gate_callee (f := 29) rfl ?_); refine goesL_ (some 89) rfl rfl Try.func29 (by kernel_rfl) rfl #[.int .i64 (wrap64 (a0))] rfl (by (try simp only [List.map_toArray, List.map_cons, List.map_nil]); first | done | rfl | (simp only [List.length_drop, List.length_take]; rfl)) ?_; (with_reducible refine (toponymref05_few.calls (wrap64 (a0)) t325 _ A43.out).mono ?_); rintro e w44 ⟨v326, rfl, ho0, hb⟩; (try clear A43); refine ⟨_, rfl, ?_⟩; have n0_ := Aside0.mk (Kd.R_lower ho0 (below_size (by repeat (first | (with_reducible first | exact HB.out | apply below_alloc | apply pw_below_drewN | apply below_drew1) | exact HB.out)))); have n1_ := Aside0.mk (below_step (by repeat (first | (with_reducible first | exact HB.out | apply below_alloc | apply pw_below_drewN | apply below_drew1) | exact HB.out)) hb); clear HB; have HO327 := n0_; have HB := n1_; clear n0_ n1_; (try clear hb); (try clear hb2); (try clear hk); (try clear hi); (try clear ho0)))
                                    go_ret
                                    exact ⟨_, by first | rfl | (simp [errW_none, errW_some] <;> rfl) | (simp [*, errW_none, errW_some] <;> rfl), by (with_reducible repeat (first | apply Kd.R_alloc | apply Kd.R_drewN | apply Kd.R_drew)); exact HO327.out, by repeat (first | (with_reducible first | exact HB.out | apply below_alloc | apply pw_below_drewN | apply below_drew1) | exact HB.out)⟩

end Go.Proofs.Ytkdabdgofnaplaa.P
