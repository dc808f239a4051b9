-- Printed by wip/mk.py (this session's driver over the kit's print) and from wip/manual.
import Derived.Test.YtkdabdgofnaplaaP0
import Derived.Test.YtkdabdgofnaplaaP1
namespace Go.Proofs.Ytkdabdgofnaplaa.P
open Go.RowKit Go.Proofs.YtkdabdgofnaplaaW.PrintWords Go.Proofs.YtkdabdgofnaplaaW.PrintLast Go.Proofs.YtkdabdgofnaplaaW.PrintMore
attribute [local go_sem] max2_int min2_int max_two min_two max_three min_three max_four min_four   -- for this text's walks alone
set_option linter.unusedVariables false
set_option linter.unusedSimpArgs false

/-! ### toponymref05_Pair: function 9 -/
mutual
def toponymref05_Pair.l0 : Nat → Int → List (S43) → Int → Option (Int × Int × Bool)
  | 0, _, _, _ => none
  | k + 1, x0, x5, x6 => if x6 < (x5.length : Int) then (toponymref05_Pair.l1 k x0 x5 x6 0) else (some (0, 0, false))
def toponymref05_Pair.l1 : Nat → Int → List (S43) → Int → Int → Option (Int × Int × Bool)
  | 0, _, _, _, _ => none
  | k + 1, x0, x5, x6, x7 => if 0 ≤ x6 then (if x6 < (x5.length : Int) then (if (wrap64 (x7 + 1)) < (((rd_T43 x5 x6).f1).length : Int) then (if 0 ≤ x7 then (if x7 < (((rd_T43 x5 x6).f1).length : Int) then (if (rd ((rd_T43 x5 x6).f1) x7) = x0 then (if 0 ≤ (wrap64 (x7 + 1)) then (some ((rd_T43 x5 x6).f0, rd ((rd_T43 x5 x6).f1) (wrap64 (x7 + 1)), true)) else (none)) else (toponymref05_Pair.l1 k x0 x5 x6 (wrap64 (x7 + 2)))) else (none)) else (none)) else (toponymref05_Pair.l0 k x0 x5 (wrap64 (x6 + 1)))) else (none)) else (none)
end
def toponymref05_Pair.f (k : Nat) (a0 : Int) : Option (Int × Int × Bool) := (toponymref05_Bases.f).bind fun t122 => (toponymref05_Pair.l0 k a0 t122 0)
theorem toponymref05_Pair.mono_l : ∀ k, (∀ y0 y1 y2, LeO (toponymref05_Pair.l0 k y0 y1 y2) (toponymref05_Pair.l0 (k + 1) y0 y1 y2)) ∧ (∀ y0 y1 y2 y3, LeO (toponymref05_Pair.l1 k y0 y1 y2 y3) (toponymref05_Pair.l1 (k + 1) y0 y1 y2 y3))
  | 0 => ⟨fun _ _ _ r h => by simp [toponymref05_Pair.l0] at h, fun _ _ _ _ r h => by simp [toponymref05_Pair.l1] at h⟩
  | k + 1 => by
    obtain ⟨ih0, ih1⟩ := toponymref05_Pair.mono_l k
    refine ⟨?_, ?_⟩
    · intro y0 y1 y2
      unfold toponymref05_Pair.l0
      repeat' first
      | (with_reducible exact ih0 _ _ _)
      | (with_reducible exact ih1 _ _ _ _)
      | (with_reducible exact LeO.refl _)
      | (with_reducible exact LeO.none _)
      | (with_reducible refine LeO.ite ?_ ?_)
      | (with_reducible refine LeO.bind ?_ (fun _ => ?_))
      | exact ih0 _ _ _
      | exact ih1 _ _ _ _
      | exact LeO.none _
      | refine LeO.ite ?_ ?_
      | refine LeO.bind ?_ (fun _ => ?_)
    · intro y0 y1 y2 y3
      unfold toponymref05_Pair.l1
      repeat' first
      | (with_reducible exact ih0 _ _ _)
      | (with_reducible exact ih1 _ _ _ _)
      | (with_reducible exact LeO.refl _)
      | (with_reducible exact LeO.none _)
      | (with_reducible refine LeO.ite ?_ ?_)
      | (with_reducible refine LeO.bind ?_ (fun _ => ?_))
      | exact ih0 _ _ _
      | exact ih1 _ _ _ _
      | exact LeO.none _
      | refine LeO.ite ?_ ?_
      | refine LeO.bind ?_ (fun _ => ?_)
theorem toponymref05_Pair.mono : ∀ a0 k, LeO (toponymref05_Pair.f k a0) (toponymref05_Pair.f (k + 1) a0) := by
  intro a0 k
  obtain ⟨ih0, ih1⟩ := toponymref05_Pair.mono_l k
  unfold toponymref05_Pair.f
  repeat' first
      | (with_reducible exact ih0 _ _ _)
      | (with_reducible exact ih1 _ _ _ _)
      | (with_reducible exact LeO.refl _)
      | (with_reducible exact LeO.none _)
      | (with_reducible refine LeO.ite ?_ ?_)
      | (with_reducible refine LeO.bind ?_ (fun _ => ?_))
      | exact ih0 _ _ _
      | exact ih1 _ _ _ _
      | exact LeO.none _
      | refine LeO.ite ?_ ?_
      | refine LeO.bind ?_ (fun _ => ?_)
set_option maxHeartbeats 8000000 in
set_option maxRecDepth 100000 in
theorem toponymref05_Pair.calls (k : Nat) (a0 : Int) (r1 : Int) (r2 : Int) (r3 : Bool) (w : World) (h : toponymref05_Pair.f k a0 = some (r1, r2, r3)) :
    Calls Try.prog 9 #[.int .i32 a0] w fun e w' => e = .returned (.tuple #[.int .i32 r1, .int .i32 r2, .bool r3]) ∧ Below w.heap.size w w' := by
  have HB := Aside0.mk (Below.refl w.heap.size w)
  have H : ((toponymref05_Bases.f).bind fun t122 => (toponymref05_Pair.l0 k a0 t122 0)) = some (r1, r2, r3) := h
  clear h
  replace H := Option.bind_eq_some_iff.mp H
  obtain ⟨t122, A20, H⟩ := H
  replace H : (toponymref05_Pair.l0 k a0 t122 0) = some (r1, r2, r3) := H
  have A2 := Aside0.mk A20
  clear A20
  have H' := Aside0.mk H
  clear H
  go_enter Try.func9, Try.ntmps9
  go_wp2_with (first | (go_at_call 23; (with_reducible refine (toponymref05_Bases.calls  t122 _ A2.out).mono ?_); rintro e w3 ⟨v123, rfl, ho0, hb⟩; have n0_ := Aside0.mk (Kd.N_lower (Kd.N_mono (ok' := fun k_ => True) ho0 (fun k_ hk_ => trivial)) (below_size (by repeat (first | (with_reducible first | exact HB.out | apply below_alloc | apply pw_below_drewN | apply below_drew1) | exact HB.out)))); have n1_ := Aside0.mk (below_step (by repeat (first | (with_reducible first | exact HB.out | apply below_alloc | apply pw_below_drewN | apply below_drew1) | exact HB.out)) hb); clear HB; have HO124 := n0_; have HB := n1_; clear n0_ n1_; (try clear hb); (try clear hb2); (try clear hk); (try clear hi); (try clear ho0)))
  repeat (go_quiet (first | (go_at_call 23; (with_reducible refine (toponymref05_Bases.calls  t122 _ A2.out).mono ?_); rintro e w3 ⟨v123, rfl, ho0, hb⟩; have n0_ := Aside0.mk (Kd.N_lower (Kd.N_mono (ok' := fun k_ => True) ho0 (fun k_ hk_ => trivial)) (below_size (by repeat (first | (with_reducible first | exact HB.out | apply below_alloc | apply pw_below_drewN | apply below_drew1) | exact HB.out)))); have n1_ := Aside0.mk (below_step (by repeat (first | (with_reducible first | exact HB.out | apply below_alloc | apply pw_below_drewN | apply below_drew1) | exact HB.out)) hb); clear HB; have HO124 := n0_; have HB := n1_; clear n0_ n1_; (try clear hb); (try clear hb2); (try clear hk); (try clear hi); (try clear ho0))); try go_wp2_with (first | (go_at_call 23; (with_reducible refine (toponymref05_Bases.calls  t122 _ A2.out).mono ?_); rintro e w3 ⟨v123, rfl, ho0, hb⟩; have n0_ := Aside0.mk (Kd.N_lower (Kd.N_mono (ok' := fun k_ => True) ho0 (fun k_ hk_ => trivial)) (below_size (by repeat (first | (with_reducible first | exact HB.out | apply below_alloc | apply pw_below_drewN | apply below_drew1) | exact HB.out)))); have n1_ := Aside0.mk (below_step (by repeat (first | (with_reducible first | exact HB.out | apply below_alloc | apply pw_below_drewN | apply below_drew1) | exact HB.out)) hb); clear HB; have HO124 := n0_; have HB := n1_; clear n0_ n1_; (try clear hb); (try clear hb2); (try clear hk); (try clear hi); (try clear ho0))))
  go_loopg [6] k (fun kq v6 w' => ∃ (x6_1 : Int), v6 = .int .i64 x6_1 ∧ Aside0 (toponymref05_Pair.l0 kq a0 t122 x6_1 = some (r1, r2, r3)) ∧ Aside0 (kq ≤ k) ∧ Aside0 (Kd.N k43 43 w' w.heap.size (fun _ => True) v123 t122) ∧ Aside0 (Below w.heap.size w w'))
  case atStart => exact ⟨(0), (by first | rfl | (simp; done) | (simp [*]; done)), H', ⟨Nat.le_refl _⟩, ⟨by (with_reducible repeat (first | apply Kd.N_alloc | apply Kd.N_drewN | apply Kd.N_drew)); exact HO124.out⟩, ⟨by repeat (first | (with_reducible first | exact HB.out | apply below_alloc | apply pw_below_drewN | apply below_drew1) | exact HB.out)⟩⟩
  case round =>
    clear H'
    try clear p2
    obtain ⟨x6_1, rfl, HA, HK1, HO_5, HB⟩ := hrel
    cases gk with
    | zero => exact absurd HA.out (by simp [toponymref05_Pair.l0])
    | succ k1 =>
      have H := HA.out
      clear HA
      simp only [toponymref05_Pair.l0] at H
      by_cases c4 : x6_1 < (t122.length : Int)
      · rw [if_pos c4] at H
        have c4b0 : decide (x6_1 < (t122.length : Int)) = true := decide_eq_true c4
        clear c4
        have H' := Aside0.mk H
        clear H
        obtain ⟨Ao5, co5, eo5⟩ := Kd.N_slice HO_5.out
        subst eo5
        go_wp2
        repeat (go_quiet (fail); try go_wp2)
        go_loopg [7] k1 (fun kq v7 w' => ∃ (x7_2 : Int), v7 = .int .i64 x7_2 ∧ Aside0 (toponymref05_Pair.l1 kq a0 t122 x6_1 x7_2 = some (r1, r2, r3)) ∧ Aside0 (kq ≤ k1) ∧ Aside0 (Kd.N k43 43 w' w.heap.size (fun _ => True) (.slice Ao5 t122.length co5) t122) ∧ Aside0 (Below w.heap.size w w'))
        case atStart => exact ⟨(0), (by first | rfl | (simp; done) | (simp [*]; done)), H', ⟨Nat.le_refl _⟩, ⟨by (with_reducible repeat (first | apply Kd.N_alloc | apply Kd.N_drewN | apply Kd.N_drew)); exact HO_5.out⟩, ⟨by repeat (first | (with_reducible first | exact HB.out | apply below_alloc | apply pw_below_drewN | apply below_drew1) | exact HB.out)⟩⟩
        case round =>
          clear H'
          try clear p2
          try clear c4
          try clear c4b0
          try clear p2
          obtain ⟨x7_2, rfl, HA, HK2, HO_5, HB⟩ := hrel
          cases gk with
          | zero => exact absurd HA.out (by simp [toponymref05_Pair.l1])
          | succ k2 =>
            have H := HA.out
            clear HA
            simp only [toponymref05_Pair.l1] at H
            by_cases c6 : 0 ≤ x6_1
            · rw [if_pos c6] at H
              have c6b0 : decide (0 ≤ x6_1) = true := decide_eq_true c6
              clear c6
              by_cases c7 : x6_1 < (t122.length : Int)
              · rw [if_pos c7] at H
                have c7b0 : decide (x6_1 < (t122.length : Int)) = true := decide_eq_true c7
                clear c7
                by_cases c8 : (wrap64 (x7_2 + 1)) < (((rd_T43 t122 x6_1).f1).length : Int)
                · rw [if_pos c8] at H
                  have c8b0 : decide ((wrap64 (x7_2 + 1)) < (((rd_T43 t122 x6_1).f1).length : Int)) = true := decide_eq_true c8
                  clear c8
                  by_cases c9 : 0 ≤ x7_2
                  · rw [if_pos c9] at H
                    have c9b0 : decide (0 ≤ x7_2) = true := decide_eq_true c9
                    clear c9
                    by_cases c10 : x7_2 < (((rd_T43 t122 x6_1).f1).length : Int)
                    · rw [if_pos c10] at H
                      have c10b0 : decide (x7_2 < (((rd_T43 t122 x6_1).f1).length : Int)) = true := decide_eq_true c10
                      clear c10
                      by_cases c11 : (rd ((rd_T43 t122 x6_1).f1) x7_2) = a0
                      · rw [if_pos c11] at H
                        have c11b0 : ((rd ((rd_T43 t122 x6_1).f1) x7_2) == a0) = true := beq_iff_eq.mpr c11
                        have c11b1 : ((rd ((rd_T43 t122 x6_1).f1) x7_2) != a0) = false := bne_eq_false_iff_eq.mpr c11
                        clear c11
                        obtain ⟨ji12, hji12⟩ : ∃ j_ : Int, (wrap64 (x7_2 + 1)) = j_ := ⟨_, rfl⟩
                        replace H : (if 0 ≤ (ji12) then (some ((rd_T43 t122 x6_1).f0, rd ((rd_T43 t122 x6_1).f1) (ji12), true)) else (none)) = some (r1, r2, r3) := by first | (rw [hji12] at H; exact H) | (simp only [hji12] at H ⊢; exact H)
                        (try rw [hji12] at c8b0)
                        have hji12w : (IntKind.i64.wrap (x7_2 + 1)) = ji12 := (i64_w _).trans hji12
                        by_cases c13 : 0 ≤ (ji12)
                        · rw [if_pos c13] at H
                          have c13b0 : decide (0 ≤ (ji12)) = true := decide_eq_true c13
                          clear c13
                          simp only [Option.some.injEq, Prod.mk.injEq] at H
                          obtain ⟨rfl, rfl, rfl⟩ := H
                          have p125 : 0 ≤ (x6_1 : Int) := of_decide_eq_true (by first | (with_reducible assumption) | assumption)
                          have q125 : x6_1 < (t122.length : Int) := of_decide_eq_true (by first | (with_reducible assumption) | assumption)
                          obtain ⟨ad125, A125_1, c125_1, e125, hx125_0, hx125_1, hl125_1, hi125_1⟩ := at_T43 (Kd.N_reads' HO_5.out).2.2 x6_1 p125 q125
                          cases e125
                          obtain ⟨ce125, hce125, hMe125, hcc125⟩ := Kd.N_get HO_5.out z43 x6_1 p125 (by first | exact q125 | exact of_decide_eq_true (by first | (with_reducible assumption) | assumption) | (have e_ := (Kd.N_reads' HO_5.out).1; omega))
                          obtain ⟨ua125_1, uc125_1, rfl, ul125_1, ge125_1⟩ := k43_openF hMe125
                          have hv125_1 := hcc125 1 _ rfl
                          rw [add_field _ _ 1 (by omega)] at hv125_1
                          replace hv125_1 := Option.some.inj (hv125_1.symm.trans hx125_1)
                          injection hv125_1 with hva_ hvn_ hvc_
                          rw [hva_] at ge125_1
                          rw [hvc_] at ul125_1
                          have HL125_1 := Aside0.mk (show Kd.V (Kd.int .i32) 21 _ w.heap.size _ _ ((rd_T43 t122 x6_1).f1) from Kd.V_mk ul125_1 ge125_1)
                          clear hva_ hvn_ hvc_ ge125_1 ul125_1
                          clear hcc125 hce125
                          have HR125_1 := Aside0.mk hi125_1
                          have HC125_1 := Aside0.mk hl125_1
                          clear hi125_1 hl125_1
                          replace p125 := eq_true p125
                          replace q125 := eq_true q125
                          have p126 : 0 ≤ (x6_1 : Int) := of_decide_eq_true (by first | (with_reducible assumption) | assumption)
                          have q126 : x6_1 < (t122.length : Int) := of_decide_eq_true (by first | (with_reducible assumption) | assumption)
                          obtain ⟨ad126, A126_1, c126_1, e126, hx126_0, hx126_1, hl126_1, hi126_1⟩ := at_T43 (Kd.N_reads' HO_5.out).2.2 x6_1 p126 q126
                          obtain rfl : ad125 = ad126 := (by injection e126)
                          obtain ⟨ce126, hce126, hMe126, hcc126⟩ := Kd.N_get HO_5.out z43 x6_1 p126 (by first | exact q126 | exact of_decide_eq_true (by first | (with_reducible assumption) | assumption) | (have e_ := (Kd.N_reads' HO_5.out).1; omega))
                          obtain ⟨ua126_1, uc126_1, rfl, ul126_1, ge126_1⟩ := k43_openF hMe126
                          have hv126_1 := hcc126 1 _ rfl
                          rw [add_field _ _ 1 (by omega)] at hv126_1
                          replace hv126_1 := Option.some.inj (hv126_1.symm.trans hx126_1)
                          injection hv126_1 with hva_ hvn_ hvc_
                          rw [hva_] at ge126_1
                          rw [hvc_] at ul126_1
                          have HL126_1 := Aside0.mk (show Kd.V (Kd.int .i32) 21 _ w.heap.size _ _ ((rd_T43 t122 x6_1).f1) from Kd.V_mk ul126_1 ge126_1)
                          clear hva_ hvn_ hvc_ ge126_1 ul126_1
                          clear hcc126 hce126
                          have HR126_1 := Aside0.mk hi126_1
                          have HC126_1 := Aside0.mk hl126_1
                          clear hi126_1 hl126_1
                          replace p126 := eq_true p126
                          replace q126 := eq_true q126
                          have ea_ := Option.some.inj (hx125_1.symm.trans hx126_1)
                          injection ea_ with ea_ en_ ec_
                          subst ea_
                          subst ec_
                          clear en_
                          have p127 : 0 ≤ (x7_2 : Int) := of_decide_eq_true (by first | (with_reducible assumption) | assumption)
                          have q127 : x7_2 < (((rd_T43 t122 x6_1).f1).length : Int) := of_decide_eq_true (by first | (with_reducible assumption) | assumption)
                          obtain ⟨ad127, e127, hx127_0⟩ := Kd.at_int (by repeat (first | (with_reducible exact HR126_1.out) | (with_reducible refine Kd.C_alloc ?_ _) | (with_reducible refine Kd.C_drewN ?_ _) | (with_reducible refine Kd.C_drew ?_) | exact HR126_1.out)) x7_2 p127 q127
                          cases e127
                          replace p127 := eq_true p127
                          replace q127 := eq_true q127
                          have p128 : 0 ≤ (x6_1 : Int) := of_decide_eq_true (by first | (with_reducible assumption) | assumption)
                          have q128 : x6_1 < (t122.length : Int) := of_decide_eq_true (by first | (with_reducible assumption) | assumption)
                          obtain ⟨ad128, A128_1, c128_1, e128, hx128_0, hx128_1, hl128_1, hi128_1⟩ := at_T43 (Kd.N_reads' HO_5.out).2.2 x6_1 p128 q128
                          obtain rfl : ad125 = ad128 := (by injection e128)
                          obtain ⟨ce128, hce128, hMe128, hcc128⟩ := Kd.N_get HO_5.out z43 x6_1 p128 (by first | exact q128 | exact of_decide_eq_true (by first | (with_reducible assumption) | assumption) | (have e_ := (Kd.N_reads' HO_5.out).1; omega))
                          obtain ⟨ua128_1, uc128_1, rfl, ul128_1, ge128_1⟩ := k43_openF hMe128
                          have hv128_1 := hcc128 1 _ rfl
                          rw [add_field _ _ 1 (by omega)] at hv128_1
                          replace hv128_1 := Option.some.inj (hv128_1.symm.trans hx128_1)
                          injection hv128_1 with hva_ hvn_ hvc_
                          rw [hva_] at ge128_1
                          rw [hvc_] at ul128_1
                          have HL128_1 := Aside0.mk (show Kd.V (Kd.int .i32) 21 _ w.heap.size _ _ ((rd_T43 t122 x6_1).f1) from Kd.V_mk ul128_1 ge128_1)
                          clear hva_ hvn_ hvc_ ge128_1 ul128_1
                          clear hcc128 hce128
                          have HR128_1 := Aside0.mk hi128_1
                          have HC128_1 := Aside0.mk hl128_1
                          clear hi128_1 hl128_1
                          replace p128 := eq_true p128
                          replace q128 := eq_true q128
                          have ea_ := Option.some.inj (hx125_1.symm.trans hx128_1)
                          injection ea_ with ea_ en_ ec_
                          subst ea_
                          subst ec_
                          clear en_
                          have p129 : 0 ≤ (x6_1 : Int) := of_decide_eq_true (by first | (with_reducible assumption) | assumption)
                          have q129 : x6_1 < (t122.length : Int) := of_decide_eq_true (by first | (with_reducible assumption) | assumption)
                          obtain ⟨ad129, A129_1, c129_1, e129, hx129_0, hx129_1, hl129_1, hi129_1⟩ := at_T43 (Kd.N_reads' HO_5.out).2.2 x6_1 p129 q129
                          obtain rfl : ad125 = ad129 := (by injection e129)
                          obtain ⟨ce129, hce129, hMe129, hcc129⟩ := Kd.N_get HO_5.out z43 x6_1 p129 (by first | exact q129 | exact of_decide_eq_true (by first | (with_reducible assumption) | assumption) | (have e_ := (Kd.N_reads' HO_5.out).1; omega))
                          obtain ⟨ua129_1, uc129_1, rfl, ul129_1, ge129_1⟩ := k43_openF hMe129
                          have hv129_1 := hcc129 1 _ rfl
                          rw [add_field _ _ 1 (by omega)] at hv129_1
                          replace hv129_1 := Option.some.inj (hv129_1.symm.trans hx129_1)
                          injection hv129_1 with hva_ hvn_ hvc_
                          rw [hva_] at ge129_1
                          rw [hvc_] at ul129_1
                          have HL129_1 := Aside0.mk (show Kd.V (Kd.int .i32) 21 _ w.heap.size _ _ ((rd_T43 t122 x6_1).f1) from Kd.V_mk ul129_1 ge129_1)
                          clear hva_ hvn_ hvc_ ge129_1 ul129_1
                          clear hcc129 hce129
                          have HR129_1 := Aside0.mk hi129_1
                          have HC129_1 := Aside0.mk hl129_1
                          clear hi129_1 hl129_1
                          replace p129 := eq_true p129
                          replace q129 := eq_true q129
                          have ea_ := Option.some.inj (hx125_1.symm.trans hx129_1)
                          injection ea_ with ea_ en_ ec_
                          subst ea_
                          subst ec_
                          clear en_
                          have p130 : 0 ≤ ((ji12) : Int) := of_decide_eq_true (by first | (with_reducible assumption) | assumption)
                          have q130 : (ji12) < (((rd_T43 t122 x6_1).f1).length : Int) := of_decide_eq_true (by first | (with_reducible assumption) | assumption)
                          obtain ⟨ad130, e130, hx130_0⟩ := Kd.at_int (by repeat (first | (with_reducible exact HR129_1.out) | (with_reducible refine Kd.C_alloc ?_ _) | (with_reducible refine Kd.C_drewN ?_ _) | (with_reducible refine Kd.C_drew ?_) | exact HR129_1.out)) (ji12) p130 q130
                          cases e130
                          replace p130 := eq_true p130
                          replace q130 := eq_true q130
                          go_wp2
                          repeat (go_quiet (fail); try go_wp2)
                          go_ret3
                          exact ⟨by first | rfl | (simp [errW_none, errW_some] <;> rfl) | (simp only [← hji12]; first | rfl | (simp [errW_none, errW_some] <;> rfl)) | (simp [*, errW_none, errW_some] <;> rfl), by repeat (first | (with_reducible first | exact HB.out | apply below_alloc | apply pw_below_drewN | apply below_drew1) | exact HB.out)⟩
                        · rw [if_neg c13] at H
                          exact absurd H (by simp)
                      · rw [if_neg c11] at H
                        have c11b0 : ((rd ((rd_T43 t122 x6_1).f1) x7_2) == a0) = false := beq_eq_false_iff_ne.mpr c11
                        have c11b1 : ((rd ((rd_T43 t122 x6_1).f1) x7_2) != a0) = true := bne_iff_ne.mpr c11
                        have H' := Aside0.mk H
                        clear H
                        have p125 : 0 ≤ (x6_1 : Int) := of_decide_eq_true (by first | (with_reducible assumption) | assumption)
                        have q125 : x6_1 < (t122.length : Int) := of_decide_eq_true (by first | (with_reducible assumption) | assumption)
                        obtain ⟨ad125, A125_1, c125_1, e125, hx125_0, hx125_1, hl125_1, hi125_1⟩ := at_T43 (Kd.N_reads' HO_5.out).2.2 x6_1 p125 q125
                        cases e125
                        obtain ⟨ce125, hce125, hMe125, hcc125⟩ := Kd.N_get HO_5.out z43 x6_1 p125 (by first | exact q125 | exact of_decide_eq_true (by first | (with_reducible assumption) | assumption) | (have e_ := (Kd.N_reads' HO_5.out).1; omega))
                        obtain ⟨ua125_1, uc125_1, rfl, ul125_1, ge125_1⟩ := k43_openF hMe125
                        have hv125_1 := hcc125 1 _ rfl
                        rw [add_field _ _ 1 (by omega)] at hv125_1
                        replace hv125_1 := Option.some.inj (hv125_1.symm.trans hx125_1)
                        injection hv125_1 with hva_ hvn_ hvc_
                        rw [hva_] at ge125_1
                        rw [hvc_] at ul125_1
                        have HL125_1 := Aside0.mk (show Kd.V (Kd.int .i32) 21 _ w.heap.size _ _ ((rd_T43 t122 x6_1).f1) from Kd.V_mk ul125_1 ge125_1)
                        clear hva_ hvn_ hvc_ ge125_1 ul125_1
                        clear hcc125 hce125
                        have HR125_1 := Aside0.mk hi125_1
                        have HC125_1 := Aside0.mk hl125_1
                        clear hi125_1 hl125_1
                        replace p125 := eq_true p125
                        replace q125 := eq_true q125
                        have p126 : 0 ≤ (x6_1 : Int) := of_decide_eq_true (by first | (with_reducible assumption) | assumption)
                        have q126 : x6_1 < (t122.length : Int) := of_decide_eq_true (by first | (with_reducible assumption) | assumption)
                        obtain ⟨ad126, A126_1, c126_1, e126, hx126_0, hx126_1, hl126_1, hi126_1⟩ := at_T43 (Kd.N_reads' HO_5.out).2.2 x6_1 p126 q126
                        obtain rfl : ad125 = ad126 := (by injection e126)
                        obtain ⟨ce126, hce126, hMe126, hcc126⟩ := Kd.N_get HO_5.out z43 x6_1 p126 (by first | exact q126 | exact of_decide_eq_true (by first | (with_reducible assumption) | assumption) | (have e_ := (Kd.N_reads' HO_5.out).1; omega))
                        obtain ⟨ua126_1, uc126_1, rfl, ul126_1, ge126_1⟩ := k43_openF hMe126
                        have hv126_1 := hcc126 1 _ rfl
                        rw [add_field _ _ 1 (by omega)] at hv126_1
                        replace hv126_1 := Option.some.inj (hv126_1.symm.trans hx126_1)
                        injection hv126_1 with hva_ hvn_ hvc_
                        rw [hva_] at ge126_1
                        rw [hvc_] at ul126_1
                        have HL126_1 := Aside0.mk (show Kd.V (Kd.int .i32) 21 _ w.heap.size _ _ ((rd_T43 t122 x6_1).f1) from Kd.V_mk ul126_1 ge126_1)
                        clear hva_ hvn_ hvc_ ge126_1 ul126_1
                        clear hcc126 hce126
                        have HR126_1 := Aside0.mk hi126_1
                        have HC126_1 := Aside0.mk hl126_1
                        clear hi126_1 hl126_1
                        replace p126 := eq_true p126
                        replace q126 := eq_true q126
                        have ea_ := Option.some.inj (hx125_1.symm.trans hx126_1)
                        injection ea_ with ea_ en_ ec_
                        subst ea_
                        subst ec_
                        clear en_
                        have p127 : 0 ≤ (x7_2 : Int) := of_decide_eq_true (by first | (with_reducible assumption) | assumption)
                        have q127 : x7_2 < (((rd_T43 t122 x6_1).f1).length : Int) := of_decide_eq_true (by first | (with_reducible assumption) | assumption)
                        obtain ⟨ad127, e127, hx127_0⟩ := Kd.at_int (by repeat (first | (with_reducible exact HR126_1.out) | (with_reducible refine Kd.C_alloc ?_ _) | (with_reducible refine Kd.C_drewN ?_ _) | (with_reducible refine Kd.C_drew ?_) | exact HR126_1.out)) x7_2 p127 q127
                        cases e127
                        replace p127 := eq_true p127
                        replace q127 := eq_true q127
                        go_wp2
                        repeat (go_quiet (fail); try go_wp2)
                        go_roundg k2
                        case measure => have := HK1.out; have := HK2.out; omega
                        case rel => exact ⟨(wrap64 (x7_2 + 2)), (by first | rfl | (simp; done) | (simp [*]; done)), H', ⟨by have := HK1.out; have := HK2.out; omega⟩, ⟨by (with_reducible repeat (first | apply Kd.N_alloc | apply Kd.N_drewN | apply Kd.N_drew)); exact HO_5.out⟩, ⟨by repeat (first | (with_reducible first | exact HB.out | apply below_alloc | apply pw_below_drewN | apply below_drew1) | exact HB.out)⟩⟩
                    · rw [if_neg c10] at H
                      exact absurd H (by simp)
                  · rw [if_neg c9] at H
                    exact absurd H (by simp)
                · rw [if_neg c8] at H
                  have c8b0 : decide ((wrap64 (x7_2 + 1)) < (((rd_T43 t122 x6_1).f1).length : Int)) = false := decide_eq_false c8
                  clear c8
                  have H' := Aside0.mk H
                  clear H
                  have p125 : 0 ≤ (x6_1 : Int) := of_decide_eq_true (by first | (with_reducible assumption) | assumption)
                  have q125 : x6_1 < (t122.length : Int) := of_decide_eq_true (by first | (with_reducible assumption) | assumption)
                  obtain ⟨ad125, A125_1, c125_1, e125, hx125_0, hx125_1, hl125_1, hi125_1⟩ := at_T43 (Kd.N_reads' HO_5.out).2.2 x6_1 p125 q125
                  cases e125
                  obtain ⟨ce125, hce125, hMe125, hcc125⟩ := Kd.N_get HO_5.out z43 x6_1 p125 (by first | exact q125 | exact of_decide_eq_true (by first | (with_reducible assumption) | assumption) | (have e_ := (Kd.N_reads' HO_5.out).1; omega))
                  obtain ⟨ua125_1, uc125_1, rfl, ul125_1, ge125_1⟩ := k43_openF hMe125
                  have hv125_1 := hcc125 1 _ rfl
                  rw [add_field _ _ 1 (by omega)] at hv125_1
                  replace hv125_1 := Option.some.inj (hv125_1.symm.trans hx125_1)
                  injection hv125_1 with hva_ hvn_ hvc_
                  rw [hva_] at ge125_1
                  rw [hvc_] at ul125_1
                  have HL125_1 := Aside0.mk (show Kd.V (Kd.int .i32) 21 _ w.heap.size _ _ ((rd_T43 t122 x6_1).f1) from Kd.V_mk ul125_1 ge125_1)
                  clear hva_ hvn_ hvc_ ge125_1 ul125_1
                  clear hcc125 hce125
                  have HR125_1 := Aside0.mk hi125_1
                  have HC125_1 := Aside0.mk hl125_1
                  clear hi125_1 hl125_1
                  replace p125 := eq_true p125
                  replace q125 := eq_true q125
                  go_wp2
                  repeat (go_quiet (fail); try go_wp2)
                  go_roundg k2
                  case measure => have := HK1.out; have := HK2.out; omega
                  case rel => exact ⟨(wrap64 (x6_1 + 1)), (by first | rfl | (simp; done) | (simp [*]; done)), H', ⟨by have := HK1.out; have := HK2.out; omega⟩, ⟨by (with_reducible repeat (first | apply Kd.N_alloc | apply Kd.N_drewN | apply Kd.N_drew)); exact HO_5.out⟩, ⟨by repeat (first | (with_reducible first | exact HB.out | apply below_alloc | apply pw_below_drewN | apply below_drew1) | exact HB.out)⟩⟩
              · rw [if_neg c7] at H
                exact absurd H (by simp)
            · rw [if_neg c6] at H
              exact absurd H (by simp)
      · rw [if_neg c4] at H
        have c4b0 : decide (x6_1 < (t122.length : Int)) = false := decide_eq_false c4
        clear c4
        simp only [Option.some.injEq, Prod.mk.injEq] at H
        obtain ⟨rfl, rfl, rfl⟩ := H
        obtain ⟨Ao14, co14, eo14⟩ := Kd.N_slice HO_5.out
        subst eo14
        go_wp2
        repeat (go_quiet (fail); try go_wp2)
        go_ret3
        exact ⟨by first | rfl | (simp [errW_none, errW_some] <;> rfl) | (simp [*, errW_none, errW_some] <;> rfl), by repeat (first | (with_reducible first | exact HB.out | apply below_alloc | apply pw_below_drewN | apply below_drew1) | exact HB.out)⟩

/-! ### decomp_Single: function 10 -/
def decomp_Single.j0 : Nat → Int → Int → Bool → Option (Int × Bool)
  | 0, _, _, _ => none
  | k + 1, x0, x4, x5 => if x5 = true then (some (wrap32 (x0 + 2), true)) else (if x4 = 8486 then (some (937, true)) else (if x4 = 8490 then (some (75, true)) else (if x4 = 8491 then (some (197, true)) else (some (0, false)))))
def decomp_Single.f (k : Nat) (a0 : Int) : Option (Int × Bool) := if a0 = 8192 then (decomp_Single.j0 k a0 a0 (a0 == 8192)) else (decomp_Single.j0 k a0 a0 (a0 == 8193))
theorem decomp_Single.mono_l : ∀ k, (∀ y0 y1 y2, LeO (decomp_Single.j0 k y0 y1 y2) (decomp_Single.j0 (k + 1) y0 y1 y2))
  | 0 => fun _ _ _ r h => by simp [decomp_Single.j0] at h
  | k + 1 => by
    have ih0 := decomp_Single.mono_l k
    · intro y0 y1 y2
      unfold decomp_Single.j0
      repeat' first
      | (with_reducible exact ih0 _ _ _)
      | (with_reducible exact LeO.refl _)
      | (with_reducible exact LeO.none _)
      | (with_reducible refine LeO.ite ?_ ?_)
      | (with_reducible refine LeO.bind ?_ (fun _ => ?_))
      | exact ih0 _ _ _
      | exact LeO.none _
      | refine LeO.ite ?_ ?_
      | refine LeO.bind ?_ (fun _ => ?_)
theorem decomp_Single.mono : ∀ a0 k, LeO (decomp_Single.f k a0) (decomp_Single.f (k + 1) a0) := by
  intro a0 k
  have ih0 := decomp_Single.mono_l k
  unfold decomp_Single.f
  repeat' first
      | (with_reducible exact ih0 _ _ _)
      | (with_reducible exact LeO.refl _)
      | (with_reducible exact LeO.none _)
      | (with_reducible refine LeO.ite ?_ ?_)
      | (with_reducible refine LeO.bind ?_ (fun _ => ?_))
      | exact ih0 _ _ _
      | exact LeO.none _
      | refine LeO.ite ?_ ?_
      | refine LeO.bind ?_ (fun _ => ?_)
set_option maxHeartbeats 8000000 in
set_option maxRecDepth 100000 in
theorem decomp_Single.calls (k : Nat) (a0 : Int) (r1 : Int) (r2 : Bool) (w : World) (h : decomp_Single.f k a0 = some (r1, r2)) :
    Calls Try.prog 10 #[.int .i32 a0] w fun e w' => e = .returned (.tuple #[.int .i32 r1, .bool r2]) ∧ Drawn0 w w' := by
  have H : (if a0 = 8192 then (decomp_Single.j0 k a0 a0 (a0 == 8192)) else (decomp_Single.j0 k a0 a0 (a0 == 8193))) = some (r1, r2) := h
  clear h
  have HC2 := Aside0.mk H
  clear H
  go_enter Try.func10, Try.ntmps10
  go_upto_if 5 with (fail)
  go_cut [5] (fun v5 wc => ∃ (kq : Nat) (x5_1 : Bool), v5 = .bool x5_1 ∧ Aside0 (decomp_Single.j0 kq a0 a0 x5_1 = some (r1, r2)) ∧ Aside0 (kq ≤ k) ∧ Drawn0 w wc)
  case first =>
    have H := HC2.out
    clear HC2
    by_cases c3 : a0 = 8192
    · rw [if_pos c3] at H
      have c3b0 : (a0 == 8192) = true := beq_iff_eq.mpr c3
      have c3b1 : (a0 != 8192) = false := bne_eq_false_iff_eq.mpr c3
      clear c3
      (first | rw [c3b0] | (simp only [i64_w, i32_w]; rw [c3b0]) | skip)
      have H' := Aside0.mk H
      clear H
      go_wp2
      go_meet
      case rel => exact ⟨_, ((a0 == 8192)), (by first | rfl | (simp; done) | (simp [*]; done)), H', ⟨by first | omega | exact Nat.le_refl _⟩, by repeat (first | exact Drawn0.refl _ | apply Drawn0.step)⟩
    · rw [if_neg c3] at H
      have c3b0 : (a0 == 8192) = false := beq_eq_false_iff_ne.mpr c3
      have c3b1 : (a0 != 8192) = true := bne_iff_ne.mpr c3
      (first | rw [c3b0] | (simp only [i64_w, i32_w]; rw [c3b0]) | skip)
      have H' := Aside0.mk H
      clear H
      go_wp2
      go_meet
      case rel => exact ⟨_, ((a0 == 8193)), (by first | rfl | (simp; done) | (simp [*]; done)), H', ⟨by first | omega | exact Nat.le_refl _⟩, by repeat (first | exact Drawn0.refl _ | apply Drawn0.step)⟩
  case rest =>
    clear HC2
    try clear c1
    try clear p2
    try clear c3
    try clear c3b0
    try clear c3b1
    obtain ⟨kq, x5_1, rfl, HA, HJ1, ⟨mc1, rfl⟩⟩ := hcut
    cases kq with
    | zero => exact absurd HA.out (by simp [decomp_Single.j0])
    | succ kj1 =>
      have H := HA.out
      clear HA
      simp only [decomp_Single.j0] at H
      by_cases c4 : x5_1 = true
      · subst c4
        have H1 : (some (wrap32 (a0 + 2), true)) = some (r1, r2) := by rw [if_pos rfl] at H; exact H
        clear H
        have H := H1
        clear H1
        simp only [Option.some.injEq, Prod.mk.injEq] at H
        obtain ⟨rfl, rfl⟩ := H
        go_wp2
        go_ret2
        exact ⟨by first | rfl | (simp; done) | (simp [*]; done), by repeat (first | exact Drawn0.refl _ | apply Drawn0.step)⟩
      · replace c4 := Bool.eq_false_iff.mpr c4
        subst c4
        have H1 : (if a0 = 8486 then (some (937, true)) else (if a0 = 8490 then (some (75, true)) else (if a0 = 8491 then (some (197, true)) else (some (0, false))))) = some (r1, r2) := by rw [if_neg (show ¬ (false = true) by decide)] at H; exact H
        clear H
        have H := H1
        clear H1
        by_cases c5 : a0 = 8486
        · rw [if_pos c5] at H
          have c5b0 : (a0 == 8486) = true := beq_iff_eq.mpr c5
          have c5b1 : (a0 != 8486) = false := bne_eq_false_iff_eq.mpr c5
          clear c5
          simp only [Option.some.injEq, Prod.mk.injEq] at H
          obtain ⟨rfl, rfl⟩ := H
          go_wp2
          go_ret2
          exact ⟨by first | rfl | (simp; done) | (simp [*]; done), by repeat (first | exact Drawn0.refl _ | apply Drawn0.step)⟩
        · rw [if_neg c5] at H
          have c5b0 : (a0 == 8486) = false := beq_eq_false_iff_ne.mpr c5
          have c5b1 : (a0 != 8486) = true := bne_iff_ne.mpr c5
          by_cases c6 : a0 = 8490
          · rw [if_pos c6] at H
            have c6b0 : (a0 == 8490) = true := beq_iff_eq.mpr c6
            have c6b1 : (a0 != 8490) = false := bne_eq_false_iff_eq.mpr c6
            clear c6
            simp only [Option.some.injEq, Prod.mk.injEq] at H
            obtain ⟨rfl, rfl⟩ := H
            go_wp2
            go_ret2
            exact ⟨by first | rfl | (simp; done) | (simp [*]; done), by repeat (first | exact Drawn0.refl _ | apply Drawn0.step)⟩
          · rw [if_neg c6] at H
            have c6b0 : (a0 == 8490) = false := beq_eq_false_iff_ne.mpr c6
            have c6b1 : (a0 != 8490) = true := bne_iff_ne.mpr c6
            by_cases c7 : a0 = 8491
            · rw [if_pos c7] at H
              have c7b0 : (a0 == 8491) = true := beq_iff_eq.mpr c7
              have c7b1 : (a0 != 8491) = false := bne_eq_false_iff_eq.mpr c7
              clear c7
              simp only [Option.some.injEq, Prod.mk.injEq] at H
              obtain ⟨rfl, rfl⟩ := H
              go_wp2
              go_ret2
              exact ⟨by first | rfl | (simp; done) | (simp [*]; done), by repeat (first | exact Drawn0.refl _ | apply Drawn0.step)⟩
            · rw [if_neg c7] at H
              have c7b0 : (a0 == 8491) = false := beq_eq_false_iff_ne.mpr c7
              have c7b1 : (a0 != 8491) = true := bne_iff_ne.mpr c7
              simp only [Option.some.injEq, Prod.mk.injEq] at H
              obtain ⟨rfl, rfl⟩ := H
              go_wp2
              go_ret2
              exact ⟨by first | rfl | (simp; done) | (simp [*]; done), by repeat (first | exact Drawn0.refl _ | apply Drawn0.step)⟩

/-! ### toponymref05_Single: function 11 -/
def toponymref05_Single.f (a0 : Int) : Option (Int × Bool) := if (wrap64 (a0)) = 8192 then (some (8194, true)) else (if (wrap64 (a0)) = 8193 then (some (8195, true)) else (if (wrap64 (a0)) = 8486 then (some (937, true)) else (if (wrap64 (a0)) = 8490 then (some (75, true)) else (if (wrap64 (a0)) = 8491 then (some (197, true)) else (some (0, false))))))
set_option maxHeartbeats 8000000 in
set_option maxRecDepth 100000 in
theorem toponymref05_Single.calls (a0 : Int) (r1 : Int) (r2 : Bool) (w : World) (h : toponymref05_Single.f a0 = some (r1, r2)) :
    Calls Try.prog 11 #[.int .i32 a0] w fun e w' => e = .returned (.tuple #[.int .i32 r1, .bool r2]) ∧ Drawn0 w w' := by
  have H : (if (wrap64 (a0)) = 8192 then (some (8194, true)) else (if (wrap64 (a0)) = 8193 then (some (8195, true)) else (if (wrap64 (a0)) = 8486 then (some (937, true)) else (if (wrap64 (a0)) = 8490 then (some (75, true)) else (if (wrap64 (a0)) = 8491 then (some (197, true)) else (some (0, false))))))) = some (r1, r2) := h
  clear h
  by_cases c2 : (wrap64 (a0)) = 8192
  · rw [if_pos c2] at H
    have c2b0 : ((wrap64 (a0)) == 8192) = true := beq_iff_eq.mpr c2
    have c2b1 : ((wrap64 (a0)) != 8192) = false := bne_eq_false_iff_eq.mpr c2
    clear c2
    simp only [Option.some.injEq, Prod.mk.injEq] at H
    obtain ⟨rfl, rfl⟩ := H
    go_enter Try.func11, Try.ntmps11
    go_wp2
    go_ret2
    exact ⟨by first | rfl | (simp; done) | (simp [*]; done), by repeat (first | exact Drawn0.refl _ | apply Drawn0.step)⟩
  · rw [if_neg c2] at H
    have c2b0 : ((wrap64 (a0)) == 8192) = false := beq_eq_false_iff_ne.mpr c2
    have c2b1 : ((wrap64 (a0)) != 8192) = true := bne_iff_ne.mpr c2
    by_cases c3 : (wrap64 (a0)) = 8193
    · rw [if_pos c3] at H
      have c3b0 : ((wrap64 (a0)) == 8193) = true := beq_iff_eq.mpr c3
      have c3b1 : ((wrap64 (a0)) != 8193) = false := bne_eq_false_iff_eq.mpr c3
      clear c3
      simp only [Option.some.injEq, Prod.mk.injEq] at H
      obtain ⟨rfl, rfl⟩ := H
      go_enter Try.func11, Try.ntmps11
      go_wp2
      go_ret2
      exact ⟨by first | rfl | (simp; done) | (simp [*]; done), by repeat (first | exact Drawn0.refl _ | apply Drawn0.step)⟩
    · rw [if_neg c3] at H
      have c3b0 : ((wrap64 (a0)) == 8193) = false := beq_eq_false_iff_ne.mpr c3
      have c3b1 : ((wrap64 (a0)) != 8193) = true := bne_iff_ne.mpr c3
      by_cases c4 : (wrap64 (a0)) = 8486
      · rw [if_pos c4] at H
        have c4b0 : ((wrap64 (a0)) == 8486) = true := beq_iff_eq.mpr c4
        have c4b1 : ((wrap64 (a0)) != 8486) = false := bne_eq_false_iff_eq.mpr c4
        clear c4
        simp only [Option.some.injEq, Prod.mk.injEq] at H
        obtain ⟨rfl, rfl⟩ := H
        go_enter Try.func11, Try.ntmps11
        go_wp2
        go_ret2
        exact ⟨by first | rfl | (simp; done) | (simp [*]; done), by repeat (first | exact Drawn0.refl _ | apply Drawn0.step)⟩
      · rw [if_neg c4] at H
        have c4b0 : ((wrap64 (a0)) == 8486) = false := beq_eq_false_iff_ne.mpr c4
        have c4b1 : ((wrap64 (a0)) != 8486) = true := bne_iff_ne.mpr c4
        by_cases c5 : (wrap64 (a0)) = 8490
        · rw [if_pos c5] at H
          have c5b0 : ((wrap64 (a0)) == 8490) = true := beq_iff_eq.mpr c5
          have c5b1 : ((wrap64 (a0)) != 8490) = false := bne_eq_false_iff_eq.mpr c5
          clear c5
          simp only [Option.some.injEq, Prod.mk.injEq] at H
          obtain ⟨rfl, rfl⟩ := H
          go_enter Try.func11, Try.ntmps11
          go_wp2
          go_ret2
          exact ⟨by first | rfl | (simp; done) | (simp [*]; done), by repeat (first | exact Drawn0.refl _ | apply Drawn0.step)⟩
        · rw [if_neg c5] at H
          have c5b0 : ((wrap64 (a0)) == 8490) = false := beq_eq_false_iff_ne.mpr c5
          have c5b1 : ((wrap64 (a0)) != 8490) = true := bne_iff_ne.mpr c5
          by_cases c6 : (wrap64 (a0)) = 8491
          · rw [if_pos c6] at H
            have c6b0 : ((wrap64 (a0)) == 8491) = true := beq_iff_eq.mpr c6
            have c6b1 : ((wrap64 (a0)) != 8491) = false := bne_eq_false_iff_eq.mpr c6
            clear c6
            simp only [Option.some.injEq, Prod.mk.injEq] at H
            obtain ⟨rfl, rfl⟩ := H
            go_enter Try.func11, Try.ntmps11
            go_wp2
            go_ret2
            exact ⟨by first | rfl | (simp; done) | (simp [*]; done), by repeat (first | exact Drawn0.refl _ | apply Drawn0.step)⟩
          · rw [if_neg c6] at H
            have c6b0 : ((wrap64 (a0)) == 8491) = false := beq_eq_false_iff_ne.mpr c6
            have c6b1 : ((wrap64 (a0)) != 8491) = true := bne_iff_ne.mpr c6
            simp only [Option.some.injEq, Prod.mk.injEq] at H
            obtain ⟨rfl, rfl⟩ := H
            go_enter Try.func11, Try.ntmps11
            go_wp2
            go_ret2
            exact ⟨by first | rfl | (simp; done) | (simp [*]; done), by repeat (first | exact Drawn0.refl _ | apply Drawn0.step)⟩

/-! ### toponymref01_Same: function 12 -/
def toponymref01_Same.l0 : Nat → List Int → List Int → Int → Option (Bool)
  | 0, _, _, _ => none
  | k + 1, x0, x1, x5 => if x5 < (x0.length : Int) then (if 0 ≤ x5 then (if x5 < (x1.length : Int) then (if (rd x0 x5) = (rd x1 x5) then (toponymref01_Same.l0 k x0 x1 (wrap64 (x5 + 1))) else (some false)) else (none)) else (none)) else (some true)
def toponymref01_Same.f (k : Nat) (l0 : List Int) (l1 : List Int) : Option (Bool) := if (l0.length : Int) = (l1.length : Int) then (toponymref01_Same.l0 k l0 l1 0) else (some false)
theorem toponymref01_Same.mono_l : ∀ k, (∀ y0 y1 y2, LeO (toponymref01_Same.l0 k y0 y1 y2) (toponymref01_Same.l0 (k + 1) y0 y1 y2))
  | 0 => fun _ _ _ r h => by simp [toponymref01_Same.l0] at h
  | k + 1 => by
    have ih0 := toponymref01_Same.mono_l k
    · intro y0 y1 y2
      unfold toponymref01_Same.l0
      repeat' first
      | (with_reducible exact ih0 _ _ _)
      | (with_reducible exact LeO.refl _)
      | (with_reducible exact LeO.none _)
      | (with_reducible refine LeO.ite ?_ ?_)
      | (with_reducible refine LeO.bind ?_ (fun _ => ?_))
      | exact ih0 _ _ _
      | exact LeO.none _
      | refine LeO.ite ?_ ?_
      | refine LeO.bind ?_ (fun _ => ?_)
theorem toponymref01_Same.mono : ∀ a0 a1 k, LeO (toponymref01_Same.f k a0 a1) (toponymref01_Same.f (k + 1) a0 a1) := by
  intro a0 a1 k
  have ih0 := toponymref01_Same.mono_l k
  unfold toponymref01_Same.f
  repeat' first
      | (with_reducible exact ih0 _ _ _)
      | (with_reducible exact LeO.refl _)
      | (with_reducible exact LeO.none _)
      | (with_reducible refine LeO.ite ?_ ?_)
      | (with_reducible refine LeO.bind ?_ (fun _ => ?_))
      | exact ih0 _ _ _
      | exact LeO.none _
      | refine LeO.ite ?_ ?_
      | refine LeO.bind ?_ (fun _ => ?_)
set_option maxHeartbeats 8000000 in
set_option maxRecDepth 100000 in
theorem toponymref01_Same.calls (k : Nat) (A0 : Option Addr) (c0 : Nat) (l0 : List Int) (A1 : Option Addr) (c1 : Nat) (l1 : List Int) (r : Bool) (w : World) (hr0 : Kd.C (Kd.int .i32) w A0 l0.length l0) (hc0 : l0.length ≤ c0) (hr1 : Kd.C (Kd.int .i32) w A1 l1.length l1) (hc1 : l1.length ≤ c1) (h : toponymref01_Same.f k l0 l1 = some r) :
    Calls Try.prog 12 #[.slice A0 l0.length c0, .slice A1 l1.length c1] w fun e w' => e = .returned (.bool r) ∧ Drawn0 w w' := by
  have HR0 := Aside0.mk hr0
  have HC0 := Aside0.mk hc0
  clear hr0 hc0
  have HR1 := Aside0.mk hr1
  have HC1 := Aside0.mk hc1
  clear hr1 hc1
  have H : (if (l0.length : Int) = (l1.length : Int) then (toponymref01_Same.l0 k l0 l1 0) else (some false)) = some r := h
  clear h
  by_cases c3 : (l0.length : Int) = (l1.length : Int)
  · rw [if_pos c3] at H
    have c3b0 : ((l0.length : Int) == (l1.length : Int)) = true := beq_iff_eq.mpr c3
    have c3b1 : ((l0.length : Int) != (l1.length : Int)) = false := bne_eq_false_iff_eq.mpr c3
    have c3b2 : (l0.length == l1.length) = true := by first | simpa using c3 | (simp at c3 ⊢; omega)
    clear c3
    have H' := Aside0.mk H
    clear H
    go_enter Try.func12, Try.ntmps12
    go_wp2
    repeat (go_quiet (fail); try go_wp2)
    go_loopg [5] k (fun kq v5 w' => ∃ (x5_1 : Int), v5 = .int .i64 x5_1 ∧ Aside0 (toponymref01_Same.l0 kq l0 l1 x5_1 = some r) ∧ Aside0 (kq ≤ k) ∧ Drawn0 w w')
    case atStart => exact ⟨(0), (by first | rfl | (simp; done) | (simp [*]; done)), H', ⟨Nat.le_refl _⟩, by repeat (first | exact Drawn0.refl _ | apply Drawn0.step)⟩
    case round =>
      clear H'
      try clear c1
      try clear p2
      try clear c3
      try clear c3b0
      try clear c3b1
      try clear c3b2
      obtain ⟨x5_1, rfl, HA, HK1, ⟨m1, rfl⟩⟩ := hrel
      cases gk with
      | zero => exact absurd HA.out (by simp [toponymref01_Same.l0])
      | succ k1 =>
        have H := HA.out
        clear HA
        simp only [toponymref01_Same.l0] at H
        by_cases c4 : x5_1 < (l0.length : Int)
        · rw [if_pos c4] at H
          have c4b0 : decide (x5_1 < (l0.length : Int)) = true := decide_eq_true c4
          clear c4
          by_cases c5 : 0 ≤ x5_1
          · rw [if_pos c5] at H
            have c5b0 : decide (0 ≤ x5_1) = true := decide_eq_true c5
            clear c5
            by_cases c6 : x5_1 < (l1.length : Int)
            · rw [if_pos c6] at H
              have c6b0 : decide (x5_1 < (l1.length : Int)) = true := decide_eq_true c6
              clear c6
              by_cases c7 : (rd l0 x5_1) = (rd l1 x5_1)
              · rw [if_pos c7] at H
                have c7b0 : ((rd l0 x5_1) == (rd l1 x5_1)) = true := beq_iff_eq.mpr c7
                have c7b1 : ((rd l0 x5_1) != (rd l1 x5_1)) = false := bne_eq_false_iff_eq.mpr c7
                clear c7
                have H' := Aside0.mk H
                clear H
                have p131 : 0 ≤ (x5_1 : Int) := of_decide_eq_true (by first | (with_reducible assumption) | assumption)
                have q131 : x5_1 < (l0.length : Int) := of_decide_eq_true (by first | (with_reducible assumption) | assumption)
                obtain ⟨ad131, e131, hx131_0⟩ := Kd.at_int HR0.out x5_1 p131 q131
                cases e131
                replace p131 := eq_true p131
                replace q131 := eq_true q131
                have p132 : 0 ≤ (x5_1 : Int) := of_decide_eq_true (by first | (with_reducible assumption) | assumption)
                have q132 : x5_1 < (l1.length : Int) := of_decide_eq_true (by first | (with_reducible assumption) | assumption)
                obtain ⟨ad132, e132, hx132_0⟩ := Kd.at_int HR1.out x5_1 p132 q132
                cases e132
                replace p132 := eq_true p132
                replace q132 := eq_true q132
                go_wp2
                repeat (go_quiet (fail); try go_wp2)
                go_roundg k1
                case measure => have := HK1.out; omega
                case rel => exact ⟨(wrap64 (x5_1 + 1)), (by first | rfl | (simp; done) | (simp [*]; done)), H', ⟨by have := HK1.out; omega⟩, by repeat (first | exact Drawn0.refl _ | apply Drawn0.step)⟩
              · rw [if_neg c7] at H
                have c7b0 : ((rd l0 x5_1) == (rd l1 x5_1)) = false := beq_eq_false_iff_ne.mpr c7
                have c7b1 : ((rd l0 x5_1) != (rd l1 x5_1)) = true := bne_iff_ne.mpr c7
                obtain rfl := Option.some.inj H
                have p131 : 0 ≤ (x5_1 : Int) := of_decide_eq_true (by first | (with_reducible assumption) | assumption)
                have q131 : x5_1 < (l0.length : Int) := of_decide_eq_true (by first | (with_reducible assumption) | assumption)
                obtain ⟨ad131, e131, hx131_0⟩ := Kd.at_int HR0.out x5_1 p131 q131
                cases e131
                replace p131 := eq_true p131
                replace q131 := eq_true q131
                have p132 : 0 ≤ (x5_1 : Int) := of_decide_eq_true (by first | (with_reducible assumption) | assumption)
                have q132 : x5_1 < (l1.length : Int) := of_decide_eq_true (by first | (with_reducible assumption) | assumption)
                obtain ⟨ad132, e132, hx132_0⟩ := Kd.at_int HR1.out x5_1 p132 q132
                cases e132
                replace p132 := eq_true p132
                replace q132 := eq_true q132
                go_wp2
                repeat (go_quiet (fail); try go_wp2)
                go_ret
                exact ⟨by first | rfl | (simp; done) | (simp [*]; done), by repeat (first | exact Drawn0.refl _ | apply Drawn0.step)⟩
            · rw [if_neg c6] at H
              exact absurd H (by simp)
          · rw [if_neg c5] at H
            exact absurd H (by simp)
        · rw [if_neg c4] at H
          have c4b0 : decide (x5_1 < (l0.length : Int)) = false := decide_eq_false c4
          clear c4
          obtain rfl := Option.some.inj H
          go_wp2
          repeat (go_quiet (fail); try go_wp2)
          go_ret
          exact ⟨by first | rfl | (simp; done) | (simp [*]; done), by repeat (first | exact Drawn0.refl _ | apply Drawn0.step)⟩
  · rw [if_neg c3] at H
    have c3b0 : ((l0.length : Int) == (l1.length : Int)) = false := beq_eq_false_iff_ne.mpr c3
    have c3b1 : ((l0.length : Int) != (l1.length : Int)) = true := bne_iff_ne.mpr c3
    have c3b2 : (l0.length == l1.length) = false := by first | simpa using c3 | (simp at c3 ⊢; omega)
    obtain rfl := Option.some.inj H
    go_enter Try.func12, Try.ntmps12
    go_wp2
    repeat (go_quiet (fail); try go_wp2)
    go_ret
    exact ⟨by first | rfl | (simp; done) | (simp [*]; done), by repeat (first | exact Drawn0.refl _ | apply Drawn0.step)⟩

end Go.Proofs.Ytkdabdgofnaplaa.P
