-- Printed by wip/mk.py (this session's driver over the kit's print) and from wip/manual.
import Derived.Test.YtpihglokjcbjkaaR0
import Derived.Test.YtpihglokjcbjkaaR8
import Derived.Test.YtpihglokjcbjkaaR9
namespace Go.Proofs.Ytpihglokjcbjkaa.P
open Go.RowKit Go.Proofs.YtpihglokjcbjkaaW.PrintWords Go.Proofs.YtpihglokjcbjkaaW.PrintLast Go.Proofs.YtpihglokjcbjkaaW.PrintMore
attribute [local go_sem] max2_int min2_int max_two min_two max_three min_three max_four min_four   -- for this text's walks alone
set_option linter.unusedVariables false
set_option linter.unusedSimpArgs false

/-! ### utf_Encode: function 27 -/
mutual
def utf_Encode.l0 : Nat → List Int → List Int → Int → Int → Option (ByteArray × Int)
  | 0, _, _, _, _ => none
  | k + 1, x4, x9, x10, x11 => if x11 < x10 then (if 0 ≤ x11 then (if x11 < (x9.length : Int) then ((utf_Length.f (rd x9 x11)).bind fun t256 => (if t256 = 0 then (some ((⟨#[]⟩ : ByteArray), 10)) else (if 0 ≤ t256 then (if t256 < 5 then (if 0 ≤ (IntKind.u64.wrap (wrap64 (6 * (wrap64 (t256 - 1))))) then (if x4.length < 140737488355328 then (utf_Encode.l1 k (x4 ++ [Go.bits .or .u8 (bt (⟨#[0, 0, 192, 224, 240]⟩ : ByteArray) t256) ((shr .i32 (rd x9 x11) (IntKind.u64.wrap (wrap64 (6 * (wrap64 (t256 - 1)))))) % 256)]) (rd x9 x11) (wrap64 (t256 - 2)) x9 x10 x11) else (none)) else (none)) else (none)) else (none)))) else (none)) else (none)) else (some (strOfNums x4, 0))
def utf_Encode.l1 : Nat → List Int → Int → Int → List Int → Int → Int → Option (ByteArray × Int)
  | 0, _, _, _, _, _, _ => none
  | k + 1, x4, x6, x8, x9, x10, x11 => if x8 ≥ 0 then (if 0 ≤ (IntKind.u64.wrap (wrap64 (6 * x8))) then (if x4.length < 140737488355328 then (utf_Encode.l1 k (x4 ++ [Go.bits .or .u8 128 (Go.bits .and .u8 ((shr .i32 x6 (IntKind.u64.wrap (wrap64 (6 * x8)))) % 256) 63)]) x6 (wrap64 (x8 - 1)) x9 x10 x11) else (none)) else (none)) else (utf_Encode.l0 k x4 x9 x10 (wrap64 (x11 + 1)))
end
def utf_Encode.f (k : Nat) (l0 : List Int) : Option (ByteArray × Int) := utf_Encode.l0 k ([] : List Int) l0 (l0.length : Int) 0
theorem utf_Encode.mono_l : ∀ k, (∀ y0 y1 y2 y3, LeO (utf_Encode.l0 k y0 y1 y2 y3) (utf_Encode.l0 (k + 1) y0 y1 y2 y3)) ∧ (∀ y0 y1 y2 y3 y4 y5, LeO (utf_Encode.l1 k y0 y1 y2 y3 y4 y5) (utf_Encode.l1 (k + 1) y0 y1 y2 y3 y4 y5))
  | 0 => ⟨fun _ _ _ _ r h => by simp [utf_Encode.l0] at h, fun _ _ _ _ _ _ r h => by simp [utf_Encode.l1] at h⟩
  | k + 1 => by
    obtain ⟨ih0, ih1⟩ := utf_Encode.mono_l k
    refine ⟨?_, ?_⟩
    · intro y0 y1 y2 y3
      unfold utf_Encode.l0
      repeat' first
      | (with_reducible exact ih0 _ _ _ _)
      | (with_reducible exact ih1 _ _ _ _ _ _)
      | (with_reducible exact LeO.refl _)
      | (with_reducible exact LeO.none _)
      | (with_reducible refine LeO.ite ?_ ?_)
      | (with_reducible refine LeO.bind ?_ (fun _ => ?_))
      | exact ih0 _ _ _ _
      | exact ih1 _ _ _ _ _ _
      | exact LeO.none _
      | refine LeO.ite ?_ ?_
      | refine LeO.bind ?_ (fun _ => ?_)
    · intro y0 y1 y2 y3 y4 y5
      unfold utf_Encode.l1
      repeat' first
      | (with_reducible exact ih0 _ _ _ _)
      | (with_reducible exact ih1 _ _ _ _ _ _)
      | (with_reducible exact LeO.refl _)
      | (with_reducible exact LeO.none _)
      | (with_reducible refine LeO.ite ?_ ?_)
      | (with_reducible refine LeO.bind ?_ (fun _ => ?_))
      | exact ih0 _ _ _ _
      | exact ih1 _ _ _ _ _ _
      | exact LeO.none _
      | refine LeO.ite ?_ ?_
      | refine LeO.bind ?_ (fun _ => ?_)
theorem utf_Encode.mono : ∀ a0 k, LeO (utf_Encode.f k a0) (utf_Encode.f (k + 1) a0) := by
  intro a0 k
  obtain ⟨ih0, ih1⟩ := utf_Encode.mono_l k
  unfold utf_Encode.f
  repeat' first
      | (with_reducible exact ih0 _ _ _ _)
      | (with_reducible exact ih1 _ _ _ _ _ _)
      | (with_reducible exact LeO.refl _)
      | (with_reducible exact LeO.none _)
      | (with_reducible refine LeO.ite ?_ ?_)
      | (with_reducible refine LeO.bind ?_ (fun _ => ?_))
      | exact ih0 _ _ _ _
      | exact ih1 _ _ _ _ _ _
      | exact LeO.none _
      | refine LeO.ite ?_ ?_
      | refine LeO.bind ?_ (fun _ => ?_)
set_option maxHeartbeats 8000000 in
set_option maxRecDepth 100000 in
theorem utf_Encode.calls (k : Nat) (A0 : Option Addr) (c0 : Nat) (l0 : List Int) (r1 : ByteArray) (r2 : Int) (w : World) (hr0 : Kd.C (Kd.int .i32) w A0 l0.length l0) (hc0 : l0.length ≤ c0) (h : utf_Encode.f k l0 = some (r1, r2)) :
    Calls Try.prog 27 #[.slice A0 l0.length c0] w fun e w' => e = .returned (.tuple #[.string r1, .int .i64 r2]) ∧ Below w.heap.size w w' := by
  have HR0 := Aside0.mk hr0
  have HC0 := Aside0.mk hc0
  clear hr0 hc0
  have HB := Aside0.mk (Below.refl w.heap.size w)
  have H : (utf_Encode.l0 k ([] : List Int) l0 (l0.length : Int) 0) = some (r1, r2) := h
  clear h
  have H' := Aside0.mk H
  clear H
  go_enter Try.func27, Try.ntmps27
  go_wp2
  go_loopg [4, 11] k (fun kq v4 v11 w' => ∃ (x4_1 : List Int) (x11_1 : Int), v11 = .int .i64 x11_1 ∧ Aside0 (utf_Encode.l0 kq x4_1 l0 (l0.length : Int) x11_1 = some (r1, r2)) ∧ Aside0 (kq ≤ k) ∧ Aside0 (Kd.R (Kd.int .u8) 5 w' w.heap.size (fun _ => True) v4 x4_1) ∧ Aside0 (Below w.heap.size w w'))
  case atStart => exact ⟨(([] : List Int)), (0), (by first | rfl | (simp; done) | (simp [*]; done)), H', ⟨Nat.le_refl _⟩, ⟨by first | exact Kd.R_nil _ _ _ _ _ | exact Kd.N_nil _ _ _ _ _ | exact Kd.V_nil _ _ _ _ _ | exact Kd.Q_nil _ _ _ _ _ | exact Kd.S_nil _ _ _ _ _⟩, ⟨by repeat (first | (with_reducible first | exact HB.out | apply below_alloc | apply pw_below_drewN | apply below_drew1) | exact HB.out)⟩⟩
  case round =>
    clear H'
    obtain ⟨x4_1, x11_1, rfl, HA, HK1, HO_4, HB⟩ := hrel
    cases gk with
    | zero => exact absurd HA.out (by simp [utf_Encode.l0])
    | succ k1 =>
      have H := HA.out
      clear HA
      simp only [utf_Encode.l0] at H
      by_cases c2 : x11_1 < (l0.length : Int)
      · rw [if_pos c2] at H
        have c2b0 : decide (x11_1 < (l0.length : Int)) = true := decide_eq_true c2
        clear c2
        by_cases c3 : 0 ≤ x11_1
        · rw [if_pos c3] at H
          have c3b0 : decide (0 ≤ x11_1) = true := decide_eq_true c3
          clear c3
          by_cases c4 : x11_1 < (l0.length : Int)
          · rw [if_pos c4] at H
            have c4b0 : decide (x11_1 < (l0.length : Int)) = true := decide_eq_true c4
            clear c4
            replace H := Option.bind_eq_some_iff.mp H
            obtain ⟨t256, A50, H⟩ := H
            replace H : (if t256 = 0 then (some ((⟨#[]⟩ : ByteArray), 10)) else (if 0 ≤ t256 then (if t256 < 5 then (if 0 ≤ (IntKind.u64.wrap (wrap64 (6 * (wrap64 (t256 - 1))))) then (if x4_1.length < 140737488355328 then (utf_Encode.l1 k1 (x4_1 ++ [Go.bits .or .u8 (bt (⟨#[0, 0, 192, 224, 240]⟩ : ByteArray) t256) ((shr .i32 (rd l0 x11_1) (IntKind.u64.wrap (wrap64 (6 * (wrap64 (t256 - 1)))))) % 256)]) (rd l0 x11_1) (wrap64 (t256 - 2)) l0 (l0.length : Int) x11_1) else (none)) else (none)) else (none)) else (none))) = some (r1, r2) := H
            have A5 := Aside0.mk A50
            clear A50
            by_cases c6 : t256 = 0
            · rw [if_pos c6] at H
              have c6b0 : (t256 == 0) = true := beq_iff_eq.mpr c6
              have c6b1 : (t256 != 0) = false := bne_eq_false_iff_eq.mpr c6
              clear c6
              simp only [Option.some.injEq, Prod.mk.injEq] at H
              obtain ⟨rfl, rfl⟩ := H
              have p255 : 0 ≤ (x11_1 : Int) := of_decide_eq_true (by first | (with_reducible assumption) | assumption)
              have q255 : x11_1 < (l0.length : Int) := of_decide_eq_true (by first | (with_reducible assumption) | assumption)
              obtain ⟨ad255, e255, hx255_0⟩ := Kd.at_int HR0.out x11_1 p255 q255
              cases e255
              replace hx255_0 := (HB.out.cell (World.block_lt_of_cell? w _ hx255_0)).trans hx255_0
              replace p255 := eq_true p255
              replace q255 := eq_true q255
              go_wp2_with (first | ((with_reducible refine gate_callee (f := 44) rfl ?_); refine goesL_ (some 16) rfl rfl Try.func44 (by kernel_rfl) rfl #[.int .i32 (rd l0 x11_1)] rfl (by (try simp only [List.map_toArray, List.map_cons, List.map_nil]); first | done | rfl | (simp only [List.length_drop, List.length_take]; rfl)) ?_; (with_reducible refine (utf_Length.calls (rd l0 x11_1) t256 _ A5.out).mono ?_); rintro e w' ⟨rfl, ⟨nd, rfl⟩⟩; refine ⟨_, rfl, ?_⟩))
              go_ret2
              exact ⟨by first | rfl | (simp [errW_none, errW_some] <;> rfl) | (simp [*, errW_none, errW_some] <;> rfl), by repeat (first | (with_reducible first | exact HB.out | apply below_alloc | apply pw_below_drewN | apply below_drew1) | exact HB.out)⟩
            · rw [if_neg c6] at H
              have c6b0 : (t256 == 0) = false := beq_eq_false_iff_ne.mpr c6
              have c6b1 : (t256 != 0) = true := bne_iff_ne.mpr c6
              by_cases c7 : 0 ≤ t256
              · rw [if_pos c7] at H
                have c7b0 : decide (0 ≤ t256) = true := decide_eq_true c7
                clear c7
                by_cases c8 : t256 < 5
                · rw [if_pos c8] at H
                  have c8b0 : decide (t256 < 5) = true := decide_eq_true c8
                  clear c8
                  obtain ⟨ji10, hji10⟩ : ∃ j_ : Int, (IntKind.u64.wrap (wrap64 (6 * (wrap64 (t256 - 1))))) = j_ := ⟨_, rfl⟩
                  replace H : (if 0 ≤ (ji10) then (if x4_1.length < 140737488355328 then (utf_Encode.l1 k1 (x4_1 ++ [Go.bits .or .u8 (bt (⟨#[0, 0, 192, 224, 240]⟩ : ByteArray) t256) ((shr .i32 (rd l0 x11_1) (ji10)) % 256)]) (rd l0 x11_1) (wrap64 (t256 - 2)) l0 (l0.length : Int) x11_1) else (none)) else (none)) = some (r1, r2) := by first | (rw [hji10] at H; exact H) | (simp only [hji10] at H ⊢; exact H)
                  (try rw [hji10] at A5)
                  by_cases c11 : 0 ≤ (ji10)
                  · rw [if_pos c11] at H
                    have c11b0 := eq_true c11
                    have c11b1 : decide (0 ≤ (ji10)) = true := decide_eq_true c11
                    clear c11
                    obtain ⟨ji12, hji12⟩ : ∃ j_ : Int, (shr .i32 (rd l0 x11_1) (ji10)) = j_ := ⟨_, rfl⟩
                    replace H : (if x4_1.length < 140737488355328 then (utf_Encode.l1 k1 (x4_1 ++ [Go.bits .or .u8 (bt (⟨#[0, 0, 192, 224, 240]⟩ : ByteArray) t256) ((ji12) % 256)]) (rd l0 x11_1) (wrap64 (t256 - 2)) l0 (l0.length : Int) x11_1) else (none)) = some (r1, r2) := by first | (rw [hji12] at H; exact H) | (simp only [hji12] at H ⊢; exact H)
                    (try rw [hji12] at A5)
                    have hji12_ : ((rd l0 x11_1) / 2 ^ min (ji10).toNat 32) = ji12 := hji12
                    have hji12z : (ji10) ≤ 32 → ((rd l0 x11_1) / 2 ^ (ji10).toNat) = ji12 := shr_small hji12
                    by_cases c13 : x4_1.length < 140737488355328
                    · rw [if_pos c13] at H
                      have LMc13 := Aside0.mk c13
                      clear c13
                      obtain ⟨y257, hy257⟩ : ∃ y_ : List Int, y_ = (x4_1 ++ [Go.bits .or .u8 (bt (⟨#[0, 0, 192, 224, 240]⟩ : ByteArray) t256) ((ji12) % 256)]) := ⟨_, rfl⟩
                      replace H : (utf_Encode.l1 k1 y257 (rd l0 x11_1) (wrap64 (t256 - 2)) l0 (l0.length : Int) x11_1) = some (r1, r2) := by first | (rw [hy257]; with_reducible exact H) | (have H2_ := (Option.bind_some _ _).symm.trans H; rw [hy257]; with_reducible exact H2_) | (have H2_ := (Option.bind_some _ _).symm.trans H; with_reducible exact H2_) | with_reducible exact H | (rw [hy257]; exact H) | exact H
                      have Ny257 := Aside0.mk hy257
                      clear hy257
                      have H' := Aside0.mk H
                      clear H
                      have p255 : 0 ≤ (x11_1 : Int) := of_decide_eq_true (by first | (with_reducible assumption) | assumption)
                      have q255 : x11_1 < (l0.length : Int) := of_decide_eq_true (by first | (with_reducible assumption) | assumption)
                      obtain ⟨ad255, e255, hx255_0⟩ := Kd.at_int HR0.out x11_1 p255 q255
                      cases e255
                      replace hx255_0 := (HB.out.cell (World.block_lt_of_cell? w _ hx255_0)).trans hx255_0
                      replace p255 := eq_true p255
                      replace q255 := eq_true q255
                      go_wp2_with (first | ((with_reducible refine gate_callee (f := 44) rfl ?_); refine goesL_ (some 16) rfl rfl Try.func44 (by kernel_rfl) rfl #[.int .i32 (rd l0 x11_1)] rfl (by (try simp only [List.map_toArray, List.map_cons, List.map_nil]); first | done | rfl | (simp only [List.length_drop, List.length_take]; rfl)) ?_; (with_reducible refine (utf_Length.calls (rd l0 x11_1) t256 _ A5.out).mono ?_); rintro e w' ⟨rfl, ⟨nd, rfl⟩⟩; refine ⟨_, rfl, ?_⟩; have p9 : 0 ≤ (t256 : Int) := of_decide_eq_true (by first | (with_reducible assumption) | assumption); have q9 : t256 < (5 : Int) := of_decide_eq_true (by first | (with_reducible assumption) | assumption); have hx9 := bt_at (⟨#[0, 0, 192, 224, 240]⟩ : ByteArray) t256; replace p9 := eq_true p9; replace q9 := eq_true q9) | ((with_reducible refine gate_builtin (b := .append) (xs := #[.tmp 19, .tmp 30]) rfl ?_); at_builtin; refine Kd.R_append (Kd.int .u8) (w0 := w) w.heap.size rfl (.tmp 19) (.tmp 30) 63 5 (.int .u8 0) 1 rfl Try.underlying63 info5 rfl (by decide) (by omega) u4 x4_1 (Go.bits .or .u8 (bt (⟨#[0, 0, 192, 224, 240]⟩ : ByteArray) t256) ((ji12) % 256)) [.int .u8 (Go.bits .or .u8 (bt (⟨#[0, 0, 192, 224, 240]⟩ : ByteArray) t256) ((ji12) % 256))] (fun _ => True) (fun _ => False) rfl rfl ?aP (fun _ hk => hk.elim) ?aF ?aO ?aB ?aS ?aL ?_; (case aP => exact rfl); (case aB => exact (by repeat (first | (with_reducible first | exact HB.out | apply below_alloc | apply pw_below_drewN | apply below_drew1) | exact HB.out))); (case aF => exact (fun _ _ => trivial)); (case aO => exact (by (with_reducible repeat (first | apply Kd.R_alloc | apply Kd.R_drewN | apply Kd.R_drew)); exact HO_4.out)); (case aS => exact (below_size (by repeat (first | (with_reducible first | exact HB.out | apply below_alloc | apply pw_below_drewN | apply below_drew1) | exact HB.out)))); (case aL => have := LMc13.out; omega); intro v258 w14 ho hb hg hat; rw [← Ny257.out] at ho; have n0_ := Aside0.mk (hb); have n1_ := Aside0.mk (ho); clear HB; clear HO_4; have HB := n0_; have HO259 := n1_; clear n0_ n1_; clear ho hb hg hat))
                      go_loopg [4, 8] k1 (fun kq v4 v8 w' => ∃ (x4_2 : List Int) (x8_2 : Int), v8 = .int .i64 x8_2 ∧ Aside0 (utf_Encode.l1 kq x4_2 (rd l0 x11_1) x8_2 l0 (l0.length : Int) x11_1 = some (r1, r2)) ∧ Aside0 (kq ≤ k1) ∧ Aside0 (Kd.R (Kd.int .u8) 5 w' w.heap.size (fun _ => True) v4 x4_2) ∧ Aside0 (Below w.heap.size w w'))
                      case atStart => exact ⟨(y257), (wrap64 (t256 - 2)), (by first | rfl | (simp; done) | (simp [*]; done)), H', ⟨Nat.le_refl _⟩, ⟨by (with_reducible repeat (first | apply Kd.R_alloc | apply Kd.R_drewN | apply Kd.R_drew)); exact HO259.out⟩, ⟨by repeat (first | (with_reducible first | exact HB.out | apply below_alloc | apply pw_below_drewN | apply below_drew1) | exact HB.out)⟩⟩
                      case round =>
                        clear H'
                        try clear c1
                        try clear c2
                        try clear c2b0
                        try clear p2
                        try clear q2
                        try clear hx2
                        try clear c3
                        try clear c3b0
                        try clear c4
                        try clear c4b0
                        try clear c6
                        try clear c6b0
                        try clear c6b1
                        try clear p6
                        try clear c7
                        try clear c7b0
                        try clear c8
                        try clear c8b0
                        try clear p9
                        try clear q9
                        try clear hx9
                        try clear c11
                        try clear c11b0
                        try clear c11b1
                        try clear c13
                        try clear hx255_0
                        try clear p255
                        try clear p9
                        try clear q255
                        try clear q9
                        obtain ⟨x4_2, x8_2, rfl, HA, HK2, HO_4, HB⟩ := hrel
                        cases gk with
                        | zero => exact absurd HA.out (by simp [utf_Encode.l1])
                        | succ k2 =>
                          have H := HA.out
                          clear HA
                          simp only [utf_Encode.l1] at H
                          by_cases c15 : x8_2 ≥ 0
                          · rw [if_pos c15] at H
                            have c15b0 : decide (0 ≤ x8_2) = true := decide_eq_true c15
                            clear c15
                            obtain ⟨ji16, hji16⟩ : ∃ j_ : Int, (IntKind.u64.wrap (wrap64 (6 * x8_2))) = j_ := ⟨_, rfl⟩
                            replace H : (if 0 ≤ (ji16) then (if x4_2.length < 140737488355328 then (utf_Encode.l1 k2 (x4_2 ++ [Go.bits .or .u8 128 (Go.bits .and .u8 ((shr .i32 (rd l0 x11_1) (ji16)) % 256) 63)]) (rd l0 x11_1) (wrap64 (x8_2 - 1)) l0 (l0.length : Int) x11_1) else (none)) else (none)) = some (r1, r2) := by first | (rw [hji16] at H; exact H) | (simp only [hji16] at H ⊢; exact H)
                            by_cases c17 : 0 ≤ (ji16)
                            · rw [if_pos c17] at H
                              have c17b0 := eq_true c17
                              have c17b1 : decide (0 ≤ (ji16)) = true := decide_eq_true c17
                              clear c17
                              obtain ⟨ji18, hji18⟩ : ∃ j_ : Int, (shr .i32 (rd l0 x11_1) (ji16)) = j_ := ⟨_, rfl⟩
                              replace H : (if x4_2.length < 140737488355328 then (utf_Encode.l1 k2 (x4_2 ++ [Go.bits .or .u8 128 (Go.bits .and .u8 ((ji18) % 256) 63)]) (rd l0 x11_1) (wrap64 (x8_2 - 1)) l0 (l0.length : Int) x11_1) else (none)) = some (r1, r2) := by first | (rw [hji18] at H; exact H) | (simp only [hji18] at H ⊢; exact H)
                              have hji18_ : ((rd l0 x11_1) / 2 ^ min (ji16).toNat 32) = ji18 := hji18
                              have hji18z : (ji16) ≤ 32 → ((rd l0 x11_1) / 2 ^ (ji16).toNat) = ji18 := shr_small hji18
                              by_cases c19 : x4_2.length < 140737488355328
                              · rw [if_pos c19] at H
                                have LMc19 := Aside0.mk c19
                                clear c19
                                obtain ⟨y260, hy260⟩ : ∃ y_ : List Int, y_ = (x4_2 ++ [Go.bits .or .u8 128 (Go.bits .and .u8 ((ji18) % 256) 63)]) := ⟨_, rfl⟩
                                replace H : (utf_Encode.l1 k2 y260 (rd l0 x11_1) (wrap64 (x8_2 - 1)) l0 (l0.length : Int) x11_1) = some (r1, r2) := by first | (rw [hy260]; with_reducible exact H) | (have H2_ := (Option.bind_some _ _).symm.trans H; rw [hy260]; with_reducible exact H2_) | (have H2_ := (Option.bind_some _ _).symm.trans H; with_reducible exact H2_) | with_reducible exact H | (rw [hy260]; exact H) | exact H
                                rw [or_and_63] at hy260
                                have Ny260 := Aside0.mk hy260
                                clear hy260
                                have H' := Aside0.mk H
                                clear H
                                go_wp2_with (first | ((with_reducible refine gate_builtin (b := .append) (xs := #[.tmp 38, .tmp 47]) rfl ?_); at_builtin; refine Kd.R_append (Kd.int .u8) (w0 := w) w.heap.size rfl (.tmp 38) (.tmp 47) 63 5 (.int .u8 0) 1 rfl Try.underlying63 info5 rfl (by decide) (by omega) u4 x4_2 ((128 + ji18 % 64)) [.int .u8 ((128 + ji18 % 64))] (fun _ => True) (fun _ => False) rfl rfl ?aP (fun _ hk => hk.elim) ?aF ?aO ?aB ?aS ?aL ?_; (case aP => exact rfl); (case aB => exact (by repeat (first | (with_reducible first | exact HB.out | apply below_alloc | apply pw_below_drewN | apply below_drew1) | exact HB.out))); (case aF => exact (fun _ _ => trivial)); (case aO => exact (by (with_reducible repeat (first | apply Kd.R_alloc | apply Kd.R_drewN | apply Kd.R_drew)); exact HO_4.out)); (case aS => exact (below_size (by repeat (first | (with_reducible first | exact HB.out | apply below_alloc | apply pw_below_drewN | apply below_drew1) | exact HB.out)))); (case aL => have := LMc19.out; omega); intro v261 w20 ho hb hg hat; rw [← Ny260.out] at ho; have n0_ := Aside0.mk (hb); have n1_ := Aside0.mk (ho); clear HB; clear HO_4; have HB := n0_; have HO262 := n1_; clear n0_ n1_; clear ho hb hg hat))
                                go_roundg k2
                                case measure => have := HK1.out; have := HK2.out; omega
                                case rel => exact ⟨(y260), (wrap64 (x8_2 - 1)), (by first | rfl | (simp; done) | (simp [*]; done)), H', ⟨by have := HK1.out; have := HK2.out; omega⟩, ⟨by (with_reducible repeat (first | apply Kd.R_alloc | apply Kd.R_drewN | apply Kd.R_drew)); exact HO262.out⟩, ⟨by repeat (first | (with_reducible first | exact HB.out | apply below_alloc | apply pw_below_drewN | apply below_drew1) | exact HB.out)⟩⟩
                              · rw [if_neg c19] at H
                                exact absurd H (by simp)
                            · rw [if_neg c17] at H
                              exact absurd H (by simp)
                          · rw [if_neg c15] at H
                            have c15b0 : decide (0 ≤ x8_2) = false := decide_eq_false c15
                            clear c15
                            have H' := Aside0.mk H
                            clear H
                            go_wp2
                            go_roundg k2
                            case measure => have := HK1.out; have := HK2.out; omega
                            case rel => exact ⟨(x4_2), (wrap64 (x11_1 + 1)), (by first | rfl | (simp; done) | (simp [*]; done)), H', ⟨by have := HK1.out; have := HK2.out; omega⟩, ⟨by (with_reducible repeat (first | apply Kd.R_alloc | apply Kd.R_drewN | apply Kd.R_drew)); exact HO_4.out⟩, ⟨by repeat (first | (with_reducible first | exact HB.out | apply below_alloc | apply pw_below_drewN | apply below_drew1) | exact HB.out)⟩⟩
                    · rw [if_neg c13] at H
                      exact absurd H (by simp)
                  · rw [if_neg c11] at H
                    exact absurd H (by simp)
                · rw [if_neg c8] at H
                  exact absurd H (by simp)
              · rw [if_neg c7] at H
                exact absurd H (by simp)
          · rw [if_neg c4] at H
            exact absurd H (by simp)
        · rw [if_neg c3] at H
          exact absurd H (by simp)
      · rw [if_neg c2] at H
        have c2b0 : decide (x11_1 < (l0.length : Int)) = false := decide_eq_false c2
        clear c2
        simp only [Option.some.injEq, Prod.mk.injEq] at H
        obtain ⟨rfl, rfl⟩ := H
        have hcv21 := own_string (P := Try.prog) Try.underlying63 Try.underlying5 Try.underlying9 (Kd.own_of_R HO_4.out)
        go_wp2
        go_ret2
        exact ⟨by first | rfl | (simp [errW_none, errW_some] <;> rfl) | (simp [*, errW_none, errW_some] <;> rfl), by repeat (first | (with_reducible first | exact HB.out | apply below_alloc | apply pw_below_drewN | apply below_drew1) | exact HB.out)⟩

/-! ### nfkc_Text: function 13 -/
def nfkc_Text.f (k : Nat) (a0 : Bool) (a1 : ByteArray) : Option (ByteArray × Int) := (utf_Runes.f k a1).bind fun bt263 => (if bt263.2.2 = 0 then ((nfkc_Runes.f k a0 bt263.1).bind fun t268 => ((utf_Encode.f k t268).bind fun bt271 => (some (bt271.1, bt271.2)))) else (some ((⟨#[]⟩ : ByteArray), bt263.2.2)))
theorem nfkc_Text.mono : ∀ a0 a1 k, LeO (nfkc_Text.f k a0 a1) (nfkc_Text.f (k + 1) a0 a1) := by
  intro a0 a1 k
  unfold nfkc_Text.f
  repeat' first
      | (with_reducible exact nfkc_Runes.mono _ _ _)
      | (with_reducible exact utf_Encode.mono _ _)
      | (with_reducible exact utf_Runes.mono _ _)
      | (with_reducible exact LeO.refl _)
      | (with_reducible exact LeO.none _)
      | (with_reducible refine LeO.ite ?_ ?_)
      | (with_reducible refine LeO.bind ?_ (fun _ => ?_))
      | exact nfkc_Runes.mono _ _ _
      | exact utf_Encode.mono _ _
      | exact utf_Runes.mono _ _
      | exact LeO.none _
      | refine LeO.ite ?_ ?_
      | refine LeO.bind ?_ (fun _ => ?_)
set_option maxHeartbeats 8000000 in
set_option maxRecDepth 100000 in
theorem nfkc_Text.calls (k : Nat) (a0 : Bool) (a1 : ByteArray) (r1 : ByteArray) (r2 : Int) (w : World) (h : nfkc_Text.f k a0 a1 = some (r1, r2)) :
    Calls Try.prog 13 #[.bool a0, .string a1] w fun e w' => e = .returned (.tuple #[.string r1, .int .i64 r2]) ∧ Below w.heap.size w w' := by
  have HB := Aside0.mk (Below.refl w.heap.size w)
  have H : ((utf_Runes.f k a1).bind fun bt263 => (if bt263.2.2 = 0 then ((nfkc_Runes.f k a0 bt263.1).bind fun t268 => ((utf_Encode.f k t268).bind fun bt271 => (some (bt271.1, bt271.2)))) else (some ((⟨#[]⟩ : ByteArray), bt263.2.2)))) = some (r1, r2) := h
  clear h
  replace H := Option.bind_eq_some_iff.mp H
  obtain ⟨⟨t263, t264, t265⟩, A30, H⟩ := H
  replace H : (if t265 = 0 then ((nfkc_Runes.f k a0 t263).bind fun t268 => ((utf_Encode.f k t268).bind fun bt271 => (some (bt271.1, bt271.2)))) else (some ((⟨#[]⟩ : ByteArray), t265))) = some (r1, r2) := H
  have A3 := Aside0.mk A30
  clear A30
  by_cases c4 : t265 = 0
  · rw [if_pos c4] at H
    have c4b0 : (t265 == 0) = true := beq_iff_eq.mpr c4
    have c4b1 : (t265 != 0) = false := bne_eq_false_iff_eq.mpr c4
    clear c4
    replace H := Option.bind_eq_some_iff.mp H
    obtain ⟨t268, A50, H⟩ := H
    replace H : ((utf_Encode.f k t268).bind fun bt271 => (some (bt271.1, bt271.2))) = some (r1, r2) := H
    have A5 := Aside0.mk A50
    clear A50
    replace H := Option.bind_eq_some_iff.mp H
    obtain ⟨⟨t271, t272⟩, A60, H⟩ := H
    replace H : (some (t271, t272)) = some (r1, r2) := H
    have A6 := Aside0.mk A60
    clear A60
    simp only [Option.some.injEq, Prod.mk.injEq] at H
    obtain ⟨rfl, rfl⟩ := H
    go_enter Try.func13, Try.ntmps13
    go_wp2_with (first | ((with_reducible refine gate_callee (f := 26) rfl ?_); refine goesL_ (some 11) rfl rfl Try.func26 (by kernel_rfl) rfl #[.string a1] rfl (by (try simp only [List.map_toArray, List.map_cons, List.map_nil]); first | done | rfl | (simp only [List.length_drop, List.length_take]; rfl)) ?_; (with_reducible refine (utf_Runes.calls k a1 t263 t264 t265 _ A3.out).mono ?_); rintro e w7 ⟨v266, rfl, ho0, hb⟩; refine ⟨_, rfl, ?_⟩; have n0_ := Aside0.mk (Kd.R_lower ho0 (below_size (by repeat (first | (with_reducible first | exact HB.out | apply below_alloc | apply pw_below_drewN | apply below_drew1) | exact HB.out)))); have n1_ := Aside0.mk (below_step (by repeat (first | (with_reducible first | exact HB.out | apply below_alloc | apply pw_below_drewN | apply below_drew1) | exact HB.out)) hb); clear HB; have HO267 := n0_; have HB := n1_; clear n0_ n1_; (try clear hb); (try clear hb2); (try clear hk); (try clear hi); (try clear ho0); obtain ⟨Ao8, co8, eo8⟩ := Kd.R_slice HO267.out; subst eo8) | ((with_reducible refine gate_callee (f := 11) rfl ?_); refine goesL_ (some 20) rfl rfl Try.func11 (by kernel_rfl) rfl #[.bool a0, .slice Ao8 t263.length co8] rfl (by (try simp only [List.map_toArray, List.map_cons, List.map_nil]); first | done | rfl | (simp only [List.length_drop, List.length_take]; rfl)) ?_; (with_reducible refine (nfkc_Runes.calls k a0 _ _ t263 t268 _ ?side1 ?side2 A5.out).mono ?_); (case side1 => repeat (first | exact (Kd.R_reads' HO267.out).2.2 | (with_reducible refine Kd.C_alloc ?_ _) | (with_reducible refine Kd.C_drewN ?_ _) | (with_reducible refine Kd.C_drew ?_))); (case side2 => exact (Kd.R_reads' HO267.out).2.1); rintro e w9 ⟨v269, rfl, ho0, hb⟩; refine ⟨_, rfl, ?_⟩; have n0_ := Aside0.mk (Kd.R_elder' (by (with_reducible repeat (first | apply Kd.R_alloc | apply Kd.R_drewN | apply Kd.R_drew)); exact HO267.out) (Kd.R_base ho0) hb); have n1_ := Aside0.mk (Kd.R_lower (Kd.R_new' ho0 (Kd.R_lt (by (with_reducible repeat (first | apply Kd.R_alloc | apply Kd.R_drewN | apply Kd.R_drew)); exact HO267.out))) (below_size (by repeat (first | (with_reducible first | exact HB.out | apply below_alloc | apply pw_below_drewN | apply below_drew1) | exact HB.out)))); have n2_ := Aside0.mk (below_step (by repeat (first | (with_reducible first | exact HB.out | apply below_alloc | apply pw_below_drewN | apply below_drew1) | exact HB.out)) hb); clear HO267; clear HB; have HO267 := n0_; have HO270 := n1_; have HB := n2_; clear n0_ n1_ n2_; (try clear hb); (try clear hb2); (try clear hk); (try clear hi); (try clear ho0); obtain ⟨Ao10, co10, eo10⟩ := Kd.R_slice HO270.out; subst eo10) | ((with_reducible refine gate_callee (f := 27) rfl ?_); refine goesL_ (some 21) rfl rfl Try.func27 (by kernel_rfl) rfl #[.slice Ao10 t268.length co10] rfl (by (try simp only [List.map_toArray, List.map_cons, List.map_nil]); first | done | rfl | (simp only [List.length_drop, List.length_take]; rfl)) ?_; (with_reducible refine (utf_Encode.calls k _ _ t268 t271 t272 _ ?side1 ?side2 A6.out).mono ?_); (case side1 => repeat (first | exact (Kd.R_reads' HO270.out).2.2 | (with_reducible refine Kd.C_alloc ?_ _) | (with_reducible refine Kd.C_drewN ?_ _) | (with_reducible refine Kd.C_drew ?_))); (case side2 => exact (Kd.R_reads' HO270.out).2.1); rintro e w11 ⟨rfl, hb⟩; refine ⟨_, rfl, ?_⟩; have n0_ := Aside0.mk (Kd.R_below (by (with_reducible repeat (first | apply Kd.R_alloc | apply Kd.R_drewN | apply Kd.R_drew)); exact HO267.out) hb); have n1_ := Aside0.mk (Kd.R_below (by (with_reducible repeat (first | apply Kd.R_alloc | apply Kd.R_drewN | apply Kd.R_drew)); exact HO270.out) hb); have n2_ := Aside0.mk (below_step (by repeat (first | (with_reducible first | exact HB.out | apply below_alloc | apply pw_below_drewN | apply below_drew1) | exact HB.out)) hb); clear HO267; clear HO270; clear HB; have HO267 := n0_; have HO270 := n1_; have HB := n2_; clear n0_ n1_ n2_; (try clear hb); (try clear hb2); (try clear hk); (try clear hi)))
    go_ret2
    exact ⟨by first | rfl | (simp [errW_none, errW_some] <;> rfl) | (simp [*, errW_none, errW_some] <;> rfl), by repeat (first | (with_reducible first | exact HB.out | apply below_alloc | apply pw_below_drewN | apply below_drew1) | exact HB.out)⟩
  · rw [if_neg c4] at H
    have c4b0 : (t265 == 0) = false := beq_eq_false_iff_ne.mpr c4
    have c4b1 : (t265 != 0) = true := bne_iff_ne.mpr c4
    simp only [Option.some.injEq, Prod.mk.injEq] at H
    obtain ⟨rfl, rfl⟩ := H
    go_enter Try.func13, Try.ntmps13
    go_wp2_with (first | ((with_reducible refine gate_callee (f := 26) rfl ?_); refine goesL_ (some 11) rfl rfl Try.func26 (by kernel_rfl) rfl #[.string a1] rfl (by (try simp only [List.map_toArray, List.map_cons, List.map_nil]); first | done | rfl | (simp only [List.length_drop, List.length_take]; rfl)) ?_; (with_reducible refine (utf_Runes.calls k a1 t263 t264 t265 _ A3.out).mono ?_); rintro e w12 ⟨v266, rfl, ho0, hb⟩; refine ⟨_, rfl, ?_⟩; have n0_ := Aside0.mk (Kd.R_lower ho0 (below_size (by repeat (first | (with_reducible first | exact HB.out | apply below_alloc | apply pw_below_drewN | apply below_drew1) | exact HB.out)))); have n1_ := Aside0.mk (below_step (by repeat (first | (with_reducible first | exact HB.out | apply below_alloc | apply pw_below_drewN | apply below_drew1) | exact HB.out)) hb); clear HB; have HO267 := n0_; have HB := n1_; clear n0_ n1_; (try clear hb); (try clear hb2); (try clear hk); (try clear hi); (try clear ho0)))
    go_ret2
    exact ⟨by first | rfl | (simp [errW_none, errW_some] <;> rfl) | (simp [*, errW_none, errW_some] <;> rfl), by repeat (first | (with_reducible first | exact HB.out | apply below_alloc | apply pw_below_drewN | apply below_drew1) | exact HB.out)⟩

/-! ### nfkc_Same: function 15, by hand (nfkc.Same.tpl) -/
section
variable {P : Program} {ops : Array Oper} {Q : Exit → Act → World → Prop}
theorem run_free {oi : Oper} {a : Act} {w : World} {x : Tmp} {f : FuncId} {fr : Array Value} {fn : Func} {xs : Array Operand} {ts : Array TypeId} (hx : a.eval (.tmp x) = .func (.func f) #[] fr) (hf : P.funcs[f]? = some fn) (hname : (fn.name == "runtime.NumGoroutine") = false) (hb : fn.body.isSome = true) (args : Array Value)
    (hop : oi.op = .call { callee := .value (.tmp x), args := xs, argTypes := ts }) (hargs : xs.map a.eval ++ fr = args) : (execOp a.eval oi).run P w = .ok (.enter f args) w := by
  have he := enters_ hf hname hb args w
  unfold execOp
  simp [hop, resolve, Deferred.ofValue, invoke, hx, hargs, he]
theorem goesLF_ {rest : List Oper} {oi : Oper} {a : Act} {w : World} (N : Option Tmp) {x : Tmp} {f : FuncId} {fr : Array Value} (hx : a.eval (.tmp x) = .func (.func f) #[] fr) (hd : oi.dst = N) (hg : oi.guard = none) {fn : Func} {xs : Array Operand} {ts : Array TypeId} (hf : P.funcs[f]? = some fn) (hname : (fn.name == "runtime.NumGoroutine") = false) (hb : fn.body.isSome = true) (args : Array Value)
    (hop : oi.op = .call { callee := .value (.tmp x), args := xs, argTypes := ts }) (hargs : xs.map a.eval ++ fr = args)
    (h : Calls P f args w fun e w' => ∃ v, e = .returned v ∧ wpList P ops Q rest (a.put N v) w') : wpList P ops Q (oi :: rest) a w := by
  refine wpList_plain hg fun K hK => ?_
  unfold Oper.wp
  rw [run_free hx hf hname hb args hop hargs, Oper.upon_enter]
  refine h.mono fun e w'' hh => ?_
  obtain ⟨v, rfl, hk⟩ := hh
  subst hd
  exact hK _ _ hk
end
def nfkc_Same.f (k : Nat) (a0 : Bool) (a1 : ByteArray) (a2 : ByteArray) : Option (Bool × Int) := (nfkc_Text.f k a0 a1).bind fun x => ((nfkc_Text.f k a0 a2).bind fun y => (some ((if x.2 = 0 then y.2 else x.2) == 0 && x.1.toList == y.1.toList, if x.2 = 0 then y.2 else x.2)))
theorem nfkc_Same.mono : ∀ a0 a1 a2 k, LeO (nfkc_Same.f k a0 a1 a2) (nfkc_Same.f (k + 1) a0 a1 a2) := by
  intro a0 a1 a2 k
  unfold nfkc_Same.f
  exact LeO.bind (nfkc_Text.mono _ _ _) (fun _ => LeO.bind (nfkc_Text.mono _ _ _) (fun _ => LeO.refl _))
set_option maxHeartbeats 8000000 in
set_option maxRecDepth 100000 in
theorem nfkc_Same.in (k : Nat) (b : Bool) (s : ByteArray) (x : Int) (gl ge : Nat) (tl te : TypeId) (r1 : ByteArray) (r2 : Int) (w0 w : World) (hl : w.heap[gl]? = some (.cells #[.bool b] tl (0, 0))) (he : w.heap[ge]? = some (.cells #[.int .i64 x] te (0, 0))) (hne : gl ≠ ge) (HB : Below w0.heap.size w0 w) (hge : w0.heap.size ≤ ge) (h : nfkc_Text.f k b s = some (r1, r2)) :
    Calls Try.prog 30 #[.string s, .pointer (some ⟨gl, 0, none⟩), .pointer (some ⟨ge, 0, none⟩)] w fun e w' => e = .returned (.string r1) ∧ w'.heap[gl]? = some (.cells #[.bool b] tl (0, 0)) ∧ w'.heap[ge]? = some (.cells #[.int .i64 (if x = 0 then r2 else x)] te (0, 0)) ∧ Below w0.heap.size w0 w' := by
  have hcl : w.cell? ⟨gl, 0, none⟩ = some (.bool b) := blk_cell hl 0
  have HS := fun (w' : World) => nfkc_Text.calls k b s r1 r2 w' h
  have key : ∀ w1 : World, Below w.heap.size w w1 → w1.heap[gl]? = some (.cells #[.bool b] tl (0, 0)) ∧ w1.heap[ge]? = some (.cells #[.int .i64 x] te (0, 0)) ∧ Below w0.heap.size w0 w1 := fun w1 hb =>
    ⟨(hb.block gl (blk_lt hl)).trans hl, (hb.block ge (blk_lt he)).trans he, below_step HB hb⟩
  have HS' := Aside0.mk HS
  have key' := Aside0.mk key
  have hge' := Aside0.mk hge
  have hne' := Aside0.mk hne
  clear HS h key hl he HB hge hne
  by_cases c3 : x = 0
  · have c3b0 : decide (x = 0) = true := decide_eq_true c3
    have c3b1 : (x == 0) = true := by simp [c3]
    subst c3
    go_enter Try.func30, Try.ntmps30
    go_wp2_with (first | ((with_reducible refine gate_callee (f := 13) rfl ?_); refine goesL_ (some 10) rfl rfl Try.func13 (by kernel_rfl) rfl #[.bool b, .string s] rfl (by (try simp only [List.map_toArray, List.map_cons, List.map_nil]); first | done | rfl) ?_; (with_reducible refine (HS'.out _).mono ?_); rintro e w1 ⟨rfl, hb⟩; refine ⟨_, rfl, ?_⟩; obtain ⟨hl1, he1, hb1⟩ := key'.out w1 hb; have hl1' := Aside0.mk hl1; have he1' := Aside0.mk he1; have hb1' := Aside0.mk hb1; have hce := (blk_cell he1 0 : w1.cell? ⟨ge, 0, none⟩ = some (.int .i64 0)); have hcf := (blk_frozen he1 0 : w1.frozen? ⟨ge, 0, none⟩ = false); clear hl1 he1 hb1 hb))
    go_ret
    exact ⟨rfl, (Below.heap_setCell w1 ⟨ge, 0, none⟩ _ gl hne'.out).trans hl1'.out, blk_set he1'.out 0 _, below_set hb1'.out hge'.out⟩
  · have c3b0 : decide (x = 0) = false := decide_eq_false c3
    have c3b1 : (x == 0) = false := by simp [c3]
    have e3 : (if x = 0 then r2 else x) = x := if_neg c3
    rw [e3]
    clear c3
    go_enter Try.func30, Try.ntmps30
    go_wp2_with (first | ((with_reducible refine gate_callee (f := 13) rfl ?_); refine goesL_ (some 10) rfl rfl Try.func13 (by kernel_rfl) rfl #[.bool b, .string s] rfl (by (try simp only [List.map_toArray, List.map_cons, List.map_nil]); first | done | rfl) ?_; (with_reducible refine (HS'.out _).mono ?_); rintro e w1 ⟨rfl, hb⟩; refine ⟨_, rfl, ?_⟩; obtain ⟨hl1, he1, hb1⟩ := key'.out w1 hb; have hl1' := Aside0.mk hl1; have he1' := Aside0.mk he1; have hb1' := Aside0.mk hb1; have hce := (blk_cell he1 0 : w1.cell? ⟨ge, 0, none⟩ = some (.int .i64 x)); clear hl1 he1 hb1 hb))
    go_ret
    exact ⟨rfl, hl1'.out, he1'.out, hb1'.out⟩

set_option maxHeartbeats 8000000 in
set_option maxRecDepth 100000 in
theorem nfkc_Same.calls (k : Nat) (a0 : Bool) (a1 : ByteArray) (a2 : ByteArray) (r1 : Bool) (r2 : Int) (w : World) (h : nfkc_Same.f k a0 a1 a2 = some (r1, r2)) :
    Calls Try.prog 15 #[.bool a0, .string a1, .string a2] w fun e w' => e = .returned (.tuple #[.bool r1, .int .i64 r2]) ∧ Below w.heap.size w w' := by
  unfold nfkc_Same.f at h
  obtain ⟨⟨x1, x2⟩, h1, h⟩ := Option.bind_eq_some_iff.mp h
  obtain ⟨⟨y1, y2⟩, h2, h⟩ := Option.bind_eq_some_iff.mp h
  simp only [Option.some.injEq, Prod.mk.injEq] at h
  obtain ⟨rfl, rfl⟩ := h
  have C1 := Aside0.mk (fun (gl ge : Nat) (w' : World) hl he hne HB hge => nfkc_Same.in k a0 a1 0 gl ge 4 29 x1 x2 w w' hl he hne HB hge h1)
  have C2 := Aside0.mk (fun (gl ge : Nat) (w' : World) hl he hne HB hge => nfkc_Same.in k a0 a2 x2 gl ge 4 29 y1 y2 w w' hl he hne HB hge h2)
  clear h1 h2
  simp only [↓reduceIte] at C1
  generalize hz : (if x2 = 0 then y2 else x2) = z at C2 ⊢
  clear hz
  by_cases c3 : z = 0
  · subst c3
    go_enter Try.func15, Try.ntmps15
    go_wp2_with (first | ((with_reducible refine gate_dst (N := 3) rfl ?_); refine box_event ?hg (N := 3) ?hd (cs := #[.bool a0]) (t := 4) ?hr ?_; (case hd => rfl); (case hg => rfl); (case hr => first | (go_simp; done) | (go_simp; rfl)); intro gl hgl w1 hbox hb; have HB1 := Aside0.mk hb; have hl1 := Aside0.mk hbox; have hg1 := Aside0.mk hgl; clear hb hbox hgl) | ((with_reducible refine gate_dst (N := 8) rfl ?_); refine box_event ?hg (N := 8) ?hd (cs := #[.int .i64 0]) (t := 29) ?hr ?_; (case hd => rfl); (case hg => rfl); (case hr => first | (go_simp; done) | (go_simp; rfl)); intro ge hge w2 hbox hb; have hne := Aside0.mk (show gl ≠ ge from by rw [hge]; exact Nat.ne_of_lt (blk_lt hl1.out)); have hgw := Aside0.mk (show w.heap.size ≤ ge from by rw [hge]; exact HB1.out.size); have HB2 := Aside0.mk (below_step HB1.out hb); have hl2 := Aside0.mk ((hb.block gl (blk_lt hl1.out)).trans hl1.out); have he2 := Aside0.mk hbox; have hc2 := (blk_cell hbox 0 : w2.cell? ⟨ge, 0, none⟩ = some (.int .i64 0)); have hf2 := (blk_frozen hbox 0 : w2.frozen? ⟨ge, 0, none⟩ = false); clear hge hbox hb))
    refine (C1.out gl ge _ ((Below.heap_setCell w2 ⟨ge, 0, none⟩ _ gl hne.out).trans hl2.out) (blk_set he2.out 0 _) hne.out (below_set HB2.out hgw.out) hgw.out).mono ?_
    rintro e w4 ⟨rfl, hl, he, hb⟩
    have hl4 := Aside0.mk hl
    have he4 := Aside0.mk he
    have HB4 := Aside0.mk hb
    clear hl he hb
    go_wp2_with (first | (with_reducible refine gate_dst (N := 99) rfl ?_))
    refine (C2.out gl ge _ hl4.out he4.out hne.out HB4.out hgw.out).mono ?_
    rintro e w5 ⟨rfl, hl, he, hb⟩
    have HB5 := Aside0.mk hb
    have hc5 := (blk_cell he 0 : w5.cell? ⟨ge, 0, none⟩ = some (.int .i64 0))
    clear hl he hb
    go_wp2
    refine start_ (n := 10) (S := fun w' => w'.cell? ⟨ge, 0, none⟩ = some (.int .i64 0)) (ds := []) #[false, false, false, false, false, false, false, false, false, false] (by kernel_rfl) rfl rfl (by exact hc5) (fun hHeld => ?_)
    have HB6 := Aside0.mk (below_drew1 HB5.out)
    generalize w5.drew = w6 at HB6 hHeld ⊢
    refine take_ (i := 0) (N := some 19) (v := .int .i64 0) (a' := ?_) #[true, false, false, false, false, false, false, false, false, false] rfl rfl (by kernel_rfl) (fun _ _ _ h => h) (Or.inl ⟨by rfl, ?_⟩) hHeld ?_ ?_
    · intro w' hs
      go_simp
      try (with_reducible rfl)
    rotate_left
    · simp only [Act.put, List.setIfInBounds_toArray, List.set_cons_zero, List.set_cons_succ, i64_w, i32_w]
      rfl
    refine pure_ (i := 1) (N := some 20) (v := ?_) (a' := ?_) #[true, true, false, false, false, false, false, false, false, false] rfl rfl (by kernel_rfl) (fun _ _ _ h => h) (Or.inl ⟨by rfl, ?_⟩) ?_ ?_
    rotate_left
    · intro w'
      go_simp
      with_reducible rfl
    rotate_left
    · simp only [Act.put, List.setIfInBounds_toArray, List.set_cons_zero, List.set_cons_succ, i64_w, i32_w]
      rfl
    refine pure_ (i := 2) (N := some 21) (v := ?_) (a' := ?_) #[true, true, true, false, false, false, false, false, false, false] rfl rfl (by kernel_rfl) (fun _ _ _ h => h) (Or.inl ⟨by rfl, ?_⟩) ?_ ?_
    rotate_left
    · intro w'
      go_simp
      with_reducible rfl
    rotate_left
    · simp only [Act.put, List.setIfInBounds_toArray, List.set_cons_zero, List.set_cons_succ, i64_w, i32_w]
      rfl
    refine pure_ (i := 3) (N := some 22) (v := ?_) (a' := ?_) #[true, true, true, true, false, false, false, false, false, false] rfl rfl (by kernel_rfl) (fun _ _ _ h => h) (Or.inl ⟨by rfl, ?_⟩) ?_ ?_
    rotate_left
    · intro w'
      go_simp
      with_reducible rfl
    rotate_left
    · simp only [Act.put, List.setIfInBounds_toArray, List.set_cons_zero, List.set_cons_succ, i64_w, i32_w]
      rfl
    refine pure_ (i := 4) (N := some 23) (v := ?_) (a' := ?_) #[true, true, true, true, true, false, false, false, false, false] rfl rfl (by kernel_rfl) (fun _ _ _ h => h) (Or.inl ⟨by rfl, ?_⟩) ?_ ?_
    rotate_left
    · intro w'
      go_simp
      with_reducible rfl
    rotate_left
    · simp only [Act.put, List.setIfInBounds_toArray, List.set_cons_zero, List.set_cons_succ, i64_w, i32_w]
      rfl
    refine pure_ (i := 5) (N := some 24) (v := ?_) (a' := ?_) #[true, true, true, true, true, true, false, false, false, false] rfl rfl (by kernel_rfl) (fun _ _ _ h => h) (Or.inl ⟨by rfl, ?_⟩) ?_ ?_
    rotate_left
    · intro w'
      go_simp
      with_reducible rfl
    rotate_left
    · simp only [Act.put, List.setIfInBounds_toArray, List.set_cons_zero, List.set_cons_succ, i64_w, i32_w]
      rfl
    refine pure_ (i := 6) (N := some 25) (v := ?_) (a' := ?_) #[true, true, true, true, true, true, true, false, false, false] rfl rfl (by kernel_rfl) (fun _ _ _ h => h) (Or.inl ⟨by rfl, ?_⟩) ?_ ?_
    rotate_left
    · intro w'
      go_simp
      with_reducible rfl
    rotate_left
    · simp only [Act.put, List.setIfInBounds_toArray, List.set_cons_zero, List.set_cons_succ, i64_w, i32_w]
      rfl
    refine take_ (i := 7) (N := some 26) (v := .int .i64 0) (a' := ?_) #[true, true, true, true, true, true, true, true, false, false] rfl rfl (by kernel_rfl) (fun _ _ _ h => h) (Or.inl ⟨by rfl, ?_⟩) hHeld ?_ ?_
    · intro w' hs
      go_simp
      try (with_reducible rfl)
    rotate_left
    · simp only [Act.put, List.setIfInBounds_toArray, List.set_cons_zero, List.set_cons_succ, i64_w, i32_w]
      rfl
    refine pure_ (i := 8) (N := some 6) (v := ?_) (a' := ?_) #[true, true, true, true, true, true, true, true, true, false] rfl rfl (by kernel_rfl) (fun _ _ _ h => h) (Or.inl ⟨by rfl, ?_⟩) ?_ ?_
    rotate_left
    · intro w'
      go_simp
      with_reducible rfl
    rotate_left
    · simp only [Act.put, List.setIfInBounds_toArray, List.set_cons_zero, List.set_cons_succ, i64_w, i32_w]
      rfl
    refine pure_ (i := 9) (N := some 7) (v := ?_) (a' := ?_) #[true, true, true, true, true, true, true, true, true, true] rfl rfl (by kernel_rfl) (fun _ _ _ h => h) (Or.inl ⟨by rfl, ?_⟩) ?_ ?_
    rotate_left
    · intro w'
      go_simp
      with_reducible rfl
    rotate_left
    · simp only [Act.put, List.setIfInBounds_toArray, List.set_cons_zero, List.set_cons_succ, i64_w, i32_w]
      rfl
    refine done_ (by kernel_rfl) ?_
    go_wp2
    go_ret2
    exact ⟨by first | rfl | (simp; done) | (simp [*]; done), HB6.out⟩
  · have c3b0 : decide (z = 0) = false := decide_eq_false c3
    have c3b1 : (z == 0) = false := by simp [c3]
    clear c3
    go_enter Try.func15, Try.ntmps15
    go_wp2_with (first | ((with_reducible refine gate_dst (N := 3) rfl ?_); refine box_event ?hg (N := 3) ?hd (cs := #[.bool a0]) (t := 4) ?hr ?_; (case hd => rfl); (case hg => rfl); (case hr => first | (go_simp; done) | (go_simp; rfl)); intro gl hgl w1 hbox hb; have HB1 := Aside0.mk hb; have hl1 := Aside0.mk hbox; have hg1 := Aside0.mk hgl; clear hb hbox hgl) | ((with_reducible refine gate_dst (N := 8) rfl ?_); refine box_event ?hg (N := 8) ?hd (cs := #[.int .i64 0]) (t := 29) ?hr ?_; (case hd => rfl); (case hg => rfl); (case hr => first | (go_simp; done) | (go_simp; rfl)); intro ge hge w2 hbox hb; have hne := Aside0.mk (show gl ≠ ge from by rw [hge]; exact Nat.ne_of_lt (blk_lt hl1.out)); have hgw := Aside0.mk (show w.heap.size ≤ ge from by rw [hge]; exact HB1.out.size); have HB2 := Aside0.mk (below_step HB1.out hb); have hl2 := Aside0.mk ((hb.block gl (blk_lt hl1.out)).trans hl1.out); have he2 := Aside0.mk hbox; have hc2 := (blk_cell hbox 0 : w2.cell? ⟨ge, 0, none⟩ = some (.int .i64 0)); have hf2 := (blk_frozen hbox 0 : w2.frozen? ⟨ge, 0, none⟩ = false); clear hge hbox hb))
    refine (C1.out gl ge _ ((Below.heap_setCell w2 ⟨ge, 0, none⟩ _ gl hne.out).trans hl2.out) (blk_set he2.out 0 _) hne.out (below_set HB2.out hgw.out) hgw.out).mono ?_
    rintro e w4 ⟨rfl, hl, he, hb⟩
    have hl4 := Aside0.mk hl
    have he4 := Aside0.mk he
    have HB4 := Aside0.mk hb
    clear hl he hb
    go_wp2_with (first | (with_reducible refine gate_dst (N := 99) rfl ?_))
    refine (C2.out gl ge _ hl4.out he4.out hne.out HB4.out hgw.out).mono ?_
    rintro e w5 ⟨rfl, hl, he, hb⟩
    have HB5 := Aside0.mk hb
    have hc5 := (blk_cell he 0 : w5.cell? ⟨ge, 0, none⟩ = some (.int .i64 z))
    clear hl he hb
    go_wp2
    refine start_ (n := 10) (S := fun w' => w'.cell? ⟨ge, 0, none⟩ = some (.int .i64 z)) (ds := []) #[false, false, false, false, false, false, false, false, false, false] (by kernel_rfl) rfl rfl (by exact hc5) (fun hHeld => ?_)
    have HB6 := Aside0.mk (below_drew1 HB5.out)
    generalize w5.drew = w6 at HB6 hHeld ⊢
    refine take_ (i := 0) (N := some 19) (v := .int .i64 z) (a' := ?_) #[true, false, false, false, false, false, false, false, false, false] rfl rfl (by kernel_rfl) (fun _ _ _ h => h) (Or.inl ⟨by rfl, ?_⟩) hHeld ?_ ?_
    · intro w' hs
      go_simp
      try (with_reducible rfl)
    rotate_left
    · simp only [Act.put, List.setIfInBounds_toArray, List.set_cons_zero, List.set_cons_succ, i64_w, i32_w]
      rfl
    refine pure_ (i := 1) (N := some 20) (v := ?_) (a' := ?_) #[true, true, false, false, false, false, false, false, false, false] rfl rfl (by kernel_rfl) (fun _ _ _ h => h) (Or.inl ⟨by rfl, ?_⟩) ?_ ?_
    rotate_left
    · intro w'
      go_simp
      with_reducible rfl
    rotate_left
    · simp only [Act.put, List.setIfInBounds_toArray, List.set_cons_zero, List.set_cons_succ, i64_w, i32_w]
      rfl
    refine pure_ (i := 2) (N := some 21) (v := ?_) (a' := ?_) #[true, true, true, false, false, false, false, false, false, false] rfl rfl (by kernel_rfl) (fun _ _ _ h => h) (Or.inl ⟨by rfl, ?_⟩) ?_ ?_
    rotate_left
    · intro w'
      go_simp
      with_reducible rfl
    rotate_left
    · simp only [Act.put, List.setIfInBounds_toArray, List.set_cons_zero, List.set_cons_succ, i64_w, i32_w]
      rfl
    refine pure_ (i := 3) (N := some 22) (v := undef) (a' := ?_) #[true, true, true, true, false, false, false, false, false, false] rfl rfl (by kernel_rfl) (fun _ _ _ h => h) (Or.inr ⟨by rfl, rfl⟩) ?_ ?_
    rotate_left
    · simp only [Act.put, List.setIfInBounds_toArray, List.set_cons_zero, List.set_cons_succ, i64_w, i32_w]
      rfl
    refine pure_ (i := 4) (N := some 23) (v := undef) (a' := ?_) #[true, true, true, true, true, false, false, false, false, false] rfl rfl (by kernel_rfl) (fun _ _ _ h => h) (Or.inr ⟨by rfl, rfl⟩) ?_ ?_
    rotate_left
    · simp only [Act.put, List.setIfInBounds_toArray, List.set_cons_zero, List.set_cons_succ, i64_w, i32_w]
      rfl
    refine pure_ (i := 5) (N := some 24) (v := undef) (a' := ?_) #[true, true, true, true, true, true, false, false, false, false] rfl rfl (by kernel_rfl) (fun _ _ _ h => h) (Or.inr ⟨by rfl, rfl⟩) ?_ ?_
    rotate_left
    · simp only [Act.put, List.setIfInBounds_toArray, List.set_cons_zero, List.set_cons_succ, i64_w, i32_w]
      rfl
    refine pure_ (i := 6) (N := some 25) (v := ?_) (a' := ?_) #[true, true, true, true, true, true, true, false, false, false] rfl rfl (by kernel_rfl) (fun _ _ _ h => h) (Or.inl ⟨by rfl, ?_⟩) ?_ ?_
    rotate_left
    · intro w'
      go_simp
      with_reducible rfl
    rotate_left
    · simp only [Act.put, List.setIfInBounds_toArray, List.set_cons_zero, List.set_cons_succ, i64_w, i32_w]
      rfl
    refine take_ (i := 7) (N := some 26) (v := .int .i64 z) (a' := ?_) #[true, true, true, true, true, true, true, true, false, false] rfl rfl (by kernel_rfl) (fun _ _ _ h => h) (Or.inl ⟨by rfl, ?_⟩) hHeld ?_ ?_
    · intro w' hs
      go_simp
      try (with_reducible rfl)
    rotate_left
    · simp only [Act.put, List.setIfInBounds_toArray, List.set_cons_zero, List.set_cons_succ, i64_w, i32_w]
      rfl
    refine pure_ (i := 8) (N := some 6) (v := ?_) (a' := ?_) #[true, true, true, true, true, true, true, true, true, false] rfl rfl (by kernel_rfl) (fun _ _ _ h => h) (Or.inl ⟨by rfl, ?_⟩) ?_ ?_
    rotate_left
    · intro w'
      go_simp
      with_reducible rfl
    rotate_left
    · simp only [Act.put, List.setIfInBounds_toArray, List.set_cons_zero, List.set_cons_succ, i64_w, i32_w]
      rfl
    refine pure_ (i := 9) (N := some 7) (v := ?_) (a' := ?_) #[true, true, true, true, true, true, true, true, true, true] rfl rfl (by kernel_rfl) (fun _ _ _ h => h) (Or.inl ⟨by rfl, ?_⟩) ?_ ?_
    rotate_left
    · intro w'
      go_simp
      with_reducible rfl
    rotate_left
    · simp only [Act.put, List.setIfInBounds_toArray, List.set_cons_zero, List.set_cons_succ, i64_w, i32_w]
      rfl
    refine done_ (by kernel_rfl) ?_
    go_wp2
    go_ret2
    exact ⟨by first | rfl | (simp; done) | (simp [*]; done), HB6.out⟩

/-! ### toponymlaw08_awake: function 8 -/
def toponymlaw08_awake.f (k : Nat)  : Option (Bool) := (nfkc_Text.f k true (⟨#[239, 172, 129, 97, 204, 129]⟩ : ByteArray)).bind fun bt273 => ((nfkc_Text.f k false (⟨#[239, 172, 129, 97, 204, 129]⟩ : ByteArray)).bind fun bt275 => ((nfkc_Same.f k true (⟨#[226, 132, 171]⟩ : ByteArray) (⟨#[65, 204, 138]⟩ : ByteArray)).bind fun bt277 => ((nfkc_Text.f k true (⟨#[255]⟩ : ByteArray)).bind fun bt279 => (if bt273.1.toList = ([102, 105, 195, 161] : List UInt8) then (if bt273.2 = 0 then (if bt275.1.toList = ([239, 172, 129, 195, 161] : List UInt8) then (if bt275.2 = 0 then (if bt277.1 = true then (if bt277.2 = 0 then (if bt279.2 = 10 then ((nfkc_Is.f k true (([97] : List Int))).bind fun t284 => (if t284 = true then ((nfkc_Is.f k false (([97, 769] : List Int))).bind fun t288 => (some (!t288))) else (some false))) else (some false)) else (some false)) else (some false)) else (some false)) else (some false)) else (some false)) else (some false)))))
theorem toponymlaw08_awake.mono : ∀ k, LeO (toponymlaw08_awake.f k ) (toponymlaw08_awake.f (k + 1) ) := by
  intro  k
  unfold toponymlaw08_awake.f
  repeat' first
      | (with_reducible exact nfkc_Is.mono _ _ _)
      | (with_reducible exact nfkc_Same.mono _ _ _ _)
      | (with_reducible exact nfkc_Text.mono _ _ _)
      | (with_reducible exact LeO.refl _)
      | (with_reducible exact LeO.none _)
      | (with_reducible refine LeO.ite ?_ ?_)
      | (with_reducible refine LeO.bind ?_ (fun _ => ?_))
      | exact nfkc_Is.mono _ _ _
      | exact nfkc_Same.mono _ _ _ _
      | exact nfkc_Text.mono _ _ _
      | exact LeO.none _
      | refine LeO.ite ?_ ?_
      | refine LeO.bind ?_ (fun _ => ?_)
set_option maxHeartbeats 8000000 in
set_option maxRecDepth 100000 in
theorem toponymlaw08_awake.calls (k : Nat)  (r : Bool) (w : World) (h : toponymlaw08_awake.f k  = some r) :
    Calls Try.prog 8 #[] w fun e w' => e = .returned (.bool r) ∧ Below w.heap.size w w' := by
  have HB := Aside0.mk (Below.refl w.heap.size w)
  have H : ((nfkc_Text.f k true (⟨#[239, 172, 129, 97, 204, 129]⟩ : ByteArray)).bind fun bt273 => ((nfkc_Text.f k false (⟨#[239, 172, 129, 97, 204, 129]⟩ : ByteArray)).bind fun bt275 => ((nfkc_Same.f k true (⟨#[226, 132, 171]⟩ : ByteArray) (⟨#[65, 204, 138]⟩ : ByteArray)).bind fun bt277 => ((nfkc_Text.f k true (⟨#[255]⟩ : ByteArray)).bind fun bt279 => (if bt273.1.toList = ([102, 105, 195, 161] : List UInt8) then (if bt273.2 = 0 then (if bt275.1.toList = ([239, 172, 129, 195, 161] : List UInt8) then (if bt275.2 = 0 then (if bt277.1 = true then (if bt277.2 = 0 then (if bt279.2 = 10 then ((nfkc_Is.f k true (([97] : List Int))).bind fun t284 => (if t284 = true then ((nfkc_Is.f k false (([97, 769] : List Int))).bind fun t288 => (some (!t288))) else (some false))) else (some false)) else (some false)) else (some false)) else (some false)) else (some false)) else (some false)) else (some false)))))) = some r := h
  clear h
  replace H := Option.bind_eq_some_iff.mp H
  obtain ⟨⟨t273, t274⟩, A10, H⟩ := H
  replace H : ((nfkc_Text.f k false (⟨#[239, 172, 129, 97, 204, 129]⟩ : ByteArray)).bind fun bt275 => ((nfkc_Same.f k true (⟨#[226, 132, 171]⟩ : ByteArray) (⟨#[65, 204, 138]⟩ : ByteArray)).bind fun bt277 => ((nfkc_Text.f k true (⟨#[255]⟩ : ByteArray)).bind fun bt279 => (if t273.toList = ([102, 105, 195, 161] : List UInt8) then (if t274 = 0 then (if bt275.1.toList = ([239, 172, 129, 195, 161] : List UInt8) then (if bt275.2 = 0 then (if bt277.1 = true then (if bt277.2 = 0 then (if bt279.2 = 10 then ((nfkc_Is.f k true (([97] : List Int))).bind fun t284 => (if t284 = true then ((nfkc_Is.f k false (([97, 769] : List Int))).bind fun t288 => (some (!t288))) else (some false))) else (some false)) else (some false)) else (some false)) else (some false)) else (some false)) else (some false)) else (some false))))) = some r := H
  have A1 := Aside0.mk A10
  clear A10
  replace H := Option.bind_eq_some_iff.mp H
  obtain ⟨⟨t275, t276⟩, A20, H⟩ := H
  replace H : ((nfkc_Same.f k true (⟨#[226, 132, 171]⟩ : ByteArray) (⟨#[65, 204, 138]⟩ : ByteArray)).bind fun bt277 => ((nfkc_Text.f k true (⟨#[255]⟩ : ByteArray)).bind fun bt279 => (if t273.toList = ([102, 105, 195, 161] : List UInt8) then (if t274 = 0 then (if t275.toList = ([239, 172, 129, 195, 161] : List UInt8) then (if t276 = 0 then (if bt277.1 = true then (if bt277.2 = 0 then (if bt279.2 = 10 then ((nfkc_Is.f k true (([97] : List Int))).bind fun t284 => (if t284 = true then ((nfkc_Is.f k false (([97, 769] : List Int))).bind fun t288 => (some (!t288))) else (some false))) else (some false)) else (some false)) else (some false)) else (some false)) else (some false)) else (some false)) else (some false)))) = some r := H
  have A2 := Aside0.mk A20
  clear A20
  replace H := Option.bind_eq_some_iff.mp H
  obtain ⟨⟨t277, t278⟩, A30, H⟩ := H
  replace H : ((nfkc_Text.f k true (⟨#[255]⟩ : ByteArray)).bind fun bt279 => (if t273.toList = ([102, 105, 195, 161] : List UInt8) then (if t274 = 0 then (if t275.toList = ([239, 172, 129, 195, 161] : List UInt8) then (if t276 = 0 then (if t277 = true then (if t278 = 0 then (if bt279.2 = 10 then ((nfkc_Is.f k true (([97] : List Int))).bind fun t284 => (if t284 = true then ((nfkc_Is.f k false (([97, 769] : List Int))).bind fun t288 => (some (!t288))) else (some false))) else (some false)) else (some false)) else (some false)) else (some false)) else (some false)) else (some false)) else (some false))) = some r := H
  have A3 := Aside0.mk A30
  clear A30
  replace H := Option.bind_eq_some_iff.mp H
  obtain ⟨⟨t279, t280⟩, A40, H⟩ := H
  replace H : (if t273.toList = ([102, 105, 195, 161] : List UInt8) then (if t274 = 0 then (if t275.toList = ([239, 172, 129, 195, 161] : List UInt8) then (if t276 = 0 then (if t277 = true then (if t278 = 0 then (if t280 = 10 then ((nfkc_Is.f k true (([97] : List Int))).bind fun t284 => (if t284 = true then ((nfkc_Is.f k false (([97, 769] : List Int))).bind fun t288 => (some (!t288))) else (some false))) else (some false)) else (some false)) else (some false)) else (some false)) else (some false)) else (some false)) else (some false)) = some r := H
  have A4 := Aside0.mk A40
  clear A40
  by_cases c5 : t273.toList = ([102, 105, 195, 161] : List UInt8)
  · rw [if_pos c5] at H
    have c5b0 : (t273.toList == ([102, 105, 195, 161] : List UInt8)) = true := beq_iff_eq.mpr c5
    have c5b1 : (t273.toList != ([102, 105, 195, 161] : List UInt8)) = false := bne_eq_false_iff_eq.mpr c5
    clear c5
    by_cases c6 : t274 = 0
    · rw [if_pos c6] at H
      have c6b0 : (t274 == 0) = true := beq_iff_eq.mpr c6
      have c6b1 : (t274 != 0) = false := bne_eq_false_iff_eq.mpr c6
      clear c6
      by_cases c7 : t275.toList = ([239, 172, 129, 195, 161] : List UInt8)
      · rw [if_pos c7] at H
        have c7b0 : (t275.toList == ([239, 172, 129, 195, 161] : List UInt8)) = true := beq_iff_eq.mpr c7
        have c7b1 : (t275.toList != ([239, 172, 129, 195, 161] : List UInt8)) = false := bne_eq_false_iff_eq.mpr c7
        clear c7
        by_cases c8 : t276 = 0
        · rw [if_pos c8] at H
          have c8b0 : (t276 == 0) = true := beq_iff_eq.mpr c8
          have c8b1 : (t276 != 0) = false := bne_eq_false_iff_eq.mpr c8
          clear c8
          by_cases c9 : t277 = true
          · subst c9
            have H1 : (if t278 = 0 then (if t280 = 10 then ((nfkc_Is.f k true (([97] : List Int))).bind fun t284 => (if t284 = true then ((nfkc_Is.f k false (([97, 769] : List Int))).bind fun t288 => (some (!t288))) else (some false))) else (some false)) else (some false)) = some r := by rw [if_pos rfl] at H; exact H
            clear H
            have H := H1
            clear H1
            by_cases c10 : t278 = 0
            · rw [if_pos c10] at H
              have c10b0 : (t278 == 0) = true := beq_iff_eq.mpr c10
              have c10b1 : (t278 != 0) = false := bne_eq_false_iff_eq.mpr c10
              clear c10
              by_cases c11 : t280 = 10
              · rw [if_pos c11] at H
                have c11b0 : (t280 == 10) = true := beq_iff_eq.mpr c11
                have c11b1 : (t280 != 10) = false := bne_eq_false_iff_eq.mpr c11
                clear c11
                obtain ⟨y281, hy281⟩ : ∃ y_ : List Int, y_ = (([97] : List Int)) := ⟨_, rfl⟩
                replace H : ((nfkc_Is.f k true y281).bind fun t284 => (if t284 = true then ((nfkc_Is.f k false (([97, 769] : List Int))).bind fun t288 => (some (!t288))) else (some false))) = some r := by first | (rw [hy281]; with_reducible exact H) | (have H2_ := (Option.bind_some _ _).symm.trans H; rw [hy281]; with_reducible exact H2_) | (have H2_ := (Option.bind_some _ _).symm.trans H; with_reducible exact H2_) | with_reducible exact H | (rw [hy281]; exact H) | exact H
                have Ny281 := Aside0.mk hy281
                clear hy281
                replace H := Option.bind_eq_some_iff.mp H
                obtain ⟨t284, A120, H⟩ := H
                replace H : (if t284 = true then ((nfkc_Is.f k false (([97, 769] : List Int))).bind fun t288 => (some (!t288))) else (some false)) = some r := H
                have A12 := Aside0.mk A120
                clear A120
                by_cases c13 : t284 = true
                · subst c13
                  have H1 : ((nfkc_Is.f k false (([97, 769] : List Int))).bind fun t288 => (some (!t288))) = some r := by rw [if_pos rfl] at H; exact H
                  clear H
                  have H := H1
                  clear H1
                  obtain ⟨y285, hy285⟩ : ∃ y_ : List Int, y_ = (([97, 769] : List Int)) := ⟨_, rfl⟩
                  replace H : ((nfkc_Is.f k false y285).bind fun t288 => (some (!t288))) = some r := by first | (rw [hy285]; with_reducible exact H) | (have H2_ := (Option.bind_some _ _).symm.trans H; rw [hy285]; with_reducible exact H2_) | (have H2_ := (Option.bind_some _ _).symm.trans H; with_reducible exact H2_) | with_reducible exact H | (rw [hy285]; exact H) | exact H
                  have Ny285 := Aside0.mk hy285
                  clear hy285
                  replace H := Option.bind_eq_some_iff.mp H
                  obtain ⟨t288, A140, H⟩ := H
                  replace H : (some (!t288)) = some r := H
                  have A14 := Aside0.mk A140
                  clear A140
                  obtain rfl := Option.some.inj H
                  go_enter Try.func8, Try.ntmps8
                  go_wp2_with (first | ((with_reducible refine gate_callee (f := 13) rfl ?_); refine goesL_ (some 10) rfl rfl Try.func13 (by kernel_rfl) rfl #[.bool true, .string (⟨#[239, 172, 129, 97, 204, 129]⟩ : ByteArray)] rfl (by (try simp only [List.map_toArray, List.map_cons, List.map_nil]); first | done | rfl | (simp only [List.length_drop, List.length_take]; rfl)) ?_; (with_reducible refine (nfkc_Text.calls k true (⟨#[239, 172, 129, 97, 204, 129]⟩ : ByteArray) t273 t274 _ A1.out).mono ?_); rintro e w15 ⟨rfl, hb⟩; (try clear A1); refine ⟨_, rfl, ?_⟩; have n0_ := Aside0.mk (below_step (by repeat (first | (with_reducible first | exact HB.out | apply below_alloc | apply pw_below_drewN | apply below_drew1) | exact HB.out)) hb); clear HB; have HB := n0_; clear n0_; (try clear hb); (try clear hb2); (try clear hk); (try clear hi)) | ((with_reducible refine gate_callee (f := 13) rfl ?_); refine goesL_ (some 14) rfl rfl Try.func13 (by kernel_rfl) rfl #[.bool false, .string (⟨#[239, 172, 129, 97, 204, 129]⟩ : ByteArray)] rfl (by (try simp only [List.map_toArray, List.map_cons, List.map_nil]); first | done | rfl | (simp only [List.length_drop, List.length_take]; rfl)) ?_; (with_reducible refine (nfkc_Text.calls k false (⟨#[239, 172, 129, 97, 204, 129]⟩ : ByteArray) t275 t276 _ A2.out).mono ?_); rintro e w16 ⟨rfl, hb⟩; (try clear A2); refine ⟨_, rfl, ?_⟩; have n0_ := Aside0.mk (below_step (by repeat (first | (with_reducible first | exact HB.out | apply below_alloc | apply pw_below_drewN | apply below_drew1) | exact HB.out)) hb); clear HB; have HB := n0_; clear n0_; (try clear hb); (try clear hb2); (try clear hk); (try clear hi)) | ((with_reducible refine gate_callee (f := 15) rfl ?_); refine goesL_ (some 18) rfl rfl Try.func15 (by kernel_rfl) rfl #[.bool true, .string (⟨#[226, 132, 171]⟩ : ByteArray), .string (⟨#[65, 204, 138]⟩ : ByteArray)] rfl (by (try simp only [List.map_toArray, List.map_cons, List.map_nil]); first | done | rfl | (simp only [List.length_drop, List.length_take]; rfl)) ?_; (with_reducible refine (nfkc_Same.calls k true (⟨#[226, 132, 171]⟩ : ByteArray) (⟨#[65, 204, 138]⟩ : ByteArray) true t278 _ A3.out).mono ?_); rintro e w17 ⟨rfl, hb⟩; refine ⟨_, rfl, ?_⟩; have n0_ := Aside0.mk (below_step (by repeat (first | (with_reducible first | exact HB.out | apply below_alloc | apply pw_below_drewN | apply below_drew1) | exact HB.out)) hb); clear HB; have HB := n0_; clear n0_; (try clear hb); (try clear hb2); (try clear hk); (try clear hi)) | ((with_reducible refine gate_callee (f := 13) rfl ?_); refine goesL_ (some 22) rfl rfl Try.func13 (by kernel_rfl) rfl #[.bool true, .string (⟨#[255]⟩ : ByteArray)] rfl (by (try simp only [List.map_toArray, List.map_cons, List.map_nil]); first | done | rfl | (simp only [List.length_drop, List.length_take]; rfl)) ?_; (with_reducible refine (nfkc_Text.calls k true (⟨#[255]⟩ : ByteArray) t279 t280 _ A4.out).mono ?_); rintro e w18 ⟨rfl, hb⟩; (try clear A4); refine ⟨_, rfl, ?_⟩; have n0_ := Aside0.mk (below_step (by repeat (first | (with_reducible first | exact HB.out | apply below_alloc | apply pw_below_drewN | apply below_drew1) | exact HB.out)) hb); clear HB; have HB := n0_; clear n0_; (try clear hb); (try clear hb2); (try clear hk); (try clear hi)) | ((with_reducible refine gate_dst (N := 51) rfl ?_); (try (refine gate_guard (by rfl) ?_; dsimp only)); refine Kd.R_lit (Kd.int .i32) _ 21 ?hg (N := 51) ?hd (xs := ([97] : List Int)) (inner := [.int .i32 97]) (ok := fun _ => True) (okp := fun _ => True) ?hr ?hp (fun _ hk => hk) trivial (Below.refl _ _) (Nat.le_refl _) (by simp) ?_; (case hd => rfl); (case hg => rfl); (case hr => first | (go_simp; done) | (go_simp; rfl)); (case hp => exact (Reps.one (show Kd.M (Kd.int .i32) _ _ _ 97 [.int .i32 97] from rfl) (Reps.none _ _))); intro v282 w19 ho20 hb hg_ hnew_; clear hg_ hnew_; (first | rw [← Ny281.out] at ho20 | (simp only [Int.reduceToNat] at ho20; rw [← Ny281.out] at ho20)); have n0_ := Aside0.mk (Kd.R_lower ho20 (below_size (by repeat (first | (with_reducible first | exact HB.out | apply below_alloc | apply pw_below_drewN | apply below_drew1) | exact HB.out)))); have n1_ := Aside0.mk (below_step (by repeat (first | (with_reducible first | exact HB.out | apply below_alloc | apply pw_below_drewN | apply below_drew1) | exact HB.out)) hb); clear HB; have HO283 := n0_; have HB := n1_; clear n0_ n1_; clear hb ho20; obtain ⟨Ao21, co21, eo21⟩ := Kd.R_slice HO283.out; subst eo21) | (go_at_call 12; (with_reducible refine (nfkc_Is.calls k true _ _ y281 true _ ?side1 ?side2 A12.out).mono ?_); (case side1 => repeat (first | exact (Kd.R_reads' HO283.out).2.2 | (with_reducible refine Kd.C_alloc ?_ _) | (with_reducible refine Kd.C_drewN ?_ _) | (with_reducible refine Kd.C_drew ?_))); (case side2 => exact (Kd.R_reads' HO283.out).2.1); rintro e w22 ⟨rfl, hb⟩; (try clear A12); have n0_ := Aside0.mk (Kd.R_below (by (with_reducible repeat (first | apply Kd.R_alloc | apply Kd.R_drewN | apply Kd.R_drew)); exact HO283.out) hb); have n1_ := Aside0.mk (below_step (by repeat (first | (with_reducible first | exact HB.out | apply below_alloc | apply pw_below_drewN | apply below_drew1) | exact HB.out)) hb); clear HO283; clear HB; have HO283 := n0_; have HB := n1_; clear n0_ n1_; (try clear hb); (try clear hb2); (try clear hk); (try clear hi)) | ((with_reducible refine gate_dst (N := 55) rfl ?_); (try (refine gate_guard (by rfl) ?_; dsimp only)); refine Kd.R_lit (Kd.int .i32) _ 21 ?hg (N := 55) ?hd (xs := ([97, 769] : List Int)) (inner := [.int .i32 97, .int .i32 769]) (ok := fun _ => True) (okp := fun _ => True) ?hr ?hp (fun _ hk => hk) trivial (Below.refl _ _) (Nat.le_refl _) (by simp) ?_; (case hd => rfl); (case hg => rfl); (case hr => first | (go_simp; done) | (go_simp; rfl)); (case hp => exact (Reps.one (show Kd.M (Kd.int .i32) _ _ _ 97 [.int .i32 97] from rfl) (Reps.one (show Kd.M (Kd.int .i32) _ _ _ 769 [.int .i32 769] from rfl) (Reps.none _ _)))); intro v286 w23 ho24 hb hg_ hnew_; clear hg_ hnew_; (first | rw [← Ny285.out] at ho24 | (simp only [Int.reduceToNat] at ho24; rw [← Ny285.out] at ho24)); have n0_ := Aside0.mk (Kd.R_elder' (by (with_reducible repeat (first | apply Kd.R_alloc | apply Kd.R_drewN | apply Kd.R_drew)); exact HO283.out) (Kd.R_base ho24) hb); have n1_ := Aside0.mk (Kd.R_lower (Kd.R_new' ho24 (Kd.R_lt (by (with_reducible repeat (first | apply Kd.R_alloc | apply Kd.R_drewN | apply Kd.R_drew)); exact HO283.out))) (below_size (by repeat (first | (with_reducible first | exact HB.out | apply below_alloc | apply pw_below_drewN | apply below_drew1) | exact HB.out)))); have n2_ := Aside0.mk (below_step (by repeat (first | (with_reducible first | exact HB.out | apply below_alloc | apply pw_below_drewN | apply below_drew1) | exact HB.out)) hb); clear HO283; clear HB; have HO283 := n0_; have HO287 := n1_; have HB := n2_; clear n0_ n1_ n2_; clear hb ho24; obtain ⟨Ao25, co25, eo25⟩ := Kd.R_slice HO287.out; subst eo25) | (go_at_call 12; (with_reducible refine (nfkc_Is.calls k false _ _ y285 t288 _ ?side1 ?side2 A14.out).mono ?_); (case side1 => repeat (first | exact (Kd.R_reads' HO287.out).2.2 | (with_reducible refine Kd.C_alloc ?_ _) | (with_reducible refine Kd.C_drewN ?_ _) | (with_reducible refine Kd.C_drew ?_))); (case side2 => exact (Kd.R_reads' HO287.out).2.1); rintro e w26 ⟨rfl, hb⟩; (try clear A14); have n0_ := Aside0.mk (Kd.R_below (by (with_reducible repeat (first | apply Kd.R_alloc | apply Kd.R_drewN | apply Kd.R_drew)); exact HO283.out) hb); have n1_ := Aside0.mk (Kd.R_below (by (with_reducible repeat (first | apply Kd.R_alloc | apply Kd.R_drewN | apply Kd.R_drew)); exact HO287.out) hb); have n2_ := Aside0.mk (below_step (by repeat (first | (with_reducible first | exact HB.out | apply below_alloc | apply pw_below_drewN | apply below_drew1) | exact HB.out)) hb); clear HO283; clear HO287; clear HB; have HO283 := n0_; have HO287 := n1_; have HB := n2_; clear n0_ n1_ n2_; (try clear hb); (try clear hb2); (try clear hk); (try clear hi)))
                  go_ret
                  exact ⟨by first | rfl | (simp [errW_none, errW_some] <;> rfl) | (simp [*, errW_none, errW_some] <;> rfl), by repeat (first | (with_reducible first | exact HB.out | apply below_alloc | apply pw_below_drewN | apply below_drew1) | exact HB.out)⟩
                · replace c13 := Bool.eq_false_iff.mpr c13
                  subst c13
                  have H1 : (some false) = some r := by rw [if_neg (show ¬ (false = true) by decide)] at H; exact H
                  clear H
                  have H := H1
                  clear H1
                  obtain rfl := Option.some.inj H
                  go_enter Try.func8, Try.ntmps8
                  go_wp2_with (first | ((with_reducible refine gate_callee (f := 13) rfl ?_); refine goesL_ (some 10) rfl rfl Try.func13 (by kernel_rfl) rfl #[.bool true, .string (⟨#[239, 172, 129, 97, 204, 129]⟩ : ByteArray)] rfl (by (try simp only [List.map_toArray, List.map_cons, List.map_nil]); first | done | rfl | (simp only [List.length_drop, List.length_take]; rfl)) ?_; (with_reducible refine (nfkc_Text.calls k true (⟨#[239, 172, 129, 97, 204, 129]⟩ : ByteArray) t273 t274 _ A1.out).mono ?_); rintro e w27 ⟨rfl, hb⟩; (try clear A1); refine ⟨_, rfl, ?_⟩; have n0_ := Aside0.mk (below_step (by repeat (first | (with_reducible first | exact HB.out | apply below_alloc | apply pw_below_drewN | apply below_drew1) | exact HB.out)) hb); clear HB; have HB := n0_; clear n0_; (try clear hb); (try clear hb2); (try clear hk); (try clear hi)) | ((with_reducible refine gate_callee (f := 13) rfl ?_); refine goesL_ (some 14) rfl rfl Try.func13 (by kernel_rfl) rfl #[.bool false, .string (⟨#[239, 172, 129, 97, 204, 129]⟩ : ByteArray)] rfl (by (try simp only [List.map_toArray, List.map_cons, List.map_nil]); first | done | rfl | (simp only [List.length_drop, List.length_take]; rfl)) ?_; (with_reducible refine (nfkc_Text.calls k false (⟨#[239, 172, 129, 97, 204, 129]⟩ : ByteArray) t275 t276 _ A2.out).mono ?_); rintro e w28 ⟨rfl, hb⟩; (try clear A2); refine ⟨_, rfl, ?_⟩; have n0_ := Aside0.mk (below_step (by repeat (first | (with_reducible first | exact HB.out | apply below_alloc | apply pw_below_drewN | apply below_drew1) | exact HB.out)) hb); clear HB; have HB := n0_; clear n0_; (try clear hb); (try clear hb2); (try clear hk); (try clear hi)) | ((with_reducible refine gate_callee (f := 15) rfl ?_); refine goesL_ (some 18) rfl rfl Try.func15 (by kernel_rfl) rfl #[.bool true, .string (⟨#[226, 132, 171]⟩ : ByteArray), .string (⟨#[65, 204, 138]⟩ : ByteArray)] rfl (by (try simp only [List.map_toArray, List.map_cons, List.map_nil]); first | done | rfl | (simp only [List.length_drop, List.length_take]; rfl)) ?_; (with_reducible refine (nfkc_Same.calls k true (⟨#[226, 132, 171]⟩ : ByteArray) (⟨#[65, 204, 138]⟩ : ByteArray) true t278 _ A3.out).mono ?_); rintro e w29 ⟨rfl, hb⟩; refine ⟨_, rfl, ?_⟩; have n0_ := Aside0.mk (below_step (by repeat (first | (with_reducible first | exact HB.out | apply below_alloc | apply pw_below_drewN | apply below_drew1) | exact HB.out)) hb); clear HB; have HB := n0_; clear n0_; (try clear hb); (try clear hb2); (try clear hk); (try clear hi)) | ((with_reducible refine gate_callee (f := 13) rfl ?_); refine goesL_ (some 22) rfl rfl Try.func13 (by kernel_rfl) rfl #[.bool true, .string (⟨#[255]⟩ : ByteArray)] rfl (by (try simp only [List.map_toArray, List.map_cons, List.map_nil]); first | done | rfl | (simp only [List.length_drop, List.length_take]; rfl)) ?_; (with_reducible refine (nfkc_Text.calls k true (⟨#[255]⟩ : ByteArray) t279 t280 _ A4.out).mono ?_); rintro e w30 ⟨rfl, hb⟩; (try clear A4); refine ⟨_, rfl, ?_⟩; have n0_ := Aside0.mk (below_step (by repeat (first | (with_reducible first | exact HB.out | apply below_alloc | apply pw_below_drewN | apply below_drew1) | exact HB.out)) hb); clear HB; have HB := n0_; clear n0_; (try clear hb); (try clear hb2); (try clear hk); (try clear hi)) | ((with_reducible refine gate_dst (N := 51) rfl ?_); (try (refine gate_guard (by rfl) ?_; dsimp only)); refine Kd.R_lit (Kd.int .i32) _ 21 ?hg (N := 51) ?hd (xs := ([97] : List Int)) (inner := [.int .i32 97]) (ok := fun _ => True) (okp := fun _ => True) ?hr ?hp (fun _ hk => hk) trivial (Below.refl _ _) (Nat.le_refl _) (by simp) ?_; (case hd => rfl); (case hg => rfl); (case hr => first | (go_simp; done) | (go_simp; rfl)); (case hp => exact (Reps.one (show Kd.M (Kd.int .i32) _ _ _ 97 [.int .i32 97] from rfl) (Reps.none _ _))); intro v282 w31 ho32 hb hg_ hnew_; clear hg_ hnew_; (first | rw [← Ny281.out] at ho32 | (simp only [Int.reduceToNat] at ho32; rw [← Ny281.out] at ho32)); have n0_ := Aside0.mk (Kd.R_lower ho32 (below_size (by repeat (first | (with_reducible first | exact HB.out | apply below_alloc | apply pw_below_drewN | apply below_drew1) | exact HB.out)))); have n1_ := Aside0.mk (below_step (by repeat (first | (with_reducible first | exact HB.out | apply below_alloc | apply pw_below_drewN | apply below_drew1) | exact HB.out)) hb); clear HB; have HO283 := n0_; have HB := n1_; clear n0_ n1_; clear hb ho32; obtain ⟨Ao33, co33, eo33⟩ := Kd.R_slice HO283.out; subst eo33) | (go_at_call 12; (with_reducible refine (nfkc_Is.calls k true _ _ y281 false _ ?side1 ?side2 A12.out).mono ?_); (case side1 => repeat (first | exact (Kd.R_reads' HO283.out).2.2 | (with_reducible refine Kd.C_alloc ?_ _) | (with_reducible refine Kd.C_drewN ?_ _) | (with_reducible refine Kd.C_drew ?_))); (case side2 => exact (Kd.R_reads' HO283.out).2.1); rintro e w34 ⟨rfl, hb⟩; (try clear A12); have n0_ := Aside0.mk (Kd.R_below (by (with_reducible repeat (first | apply Kd.R_alloc | apply Kd.R_drewN | apply Kd.R_drew)); exact HO283.out) hb); have n1_ := Aside0.mk (below_step (by repeat (first | (with_reducible first | exact HB.out | apply below_alloc | apply pw_below_drewN | apply below_drew1) | exact HB.out)) hb); clear HO283; clear HB; have HO283 := n0_; have HB := n1_; clear n0_ n1_; (try clear hb); (try clear hb2); (try clear hk); (try clear hi)))
                  go_ret
                  exact ⟨by first | rfl | (simp [errW_none, errW_some] <;> rfl) | (simp [*, errW_none, errW_some] <;> rfl), by repeat (first | (with_reducible first | exact HB.out | apply below_alloc | apply pw_below_drewN | apply below_drew1) | exact HB.out)⟩
              · rw [if_neg c11] at H
                have c11b0 : (t280 == 10) = false := beq_eq_false_iff_ne.mpr c11
                have c11b1 : (t280 != 10) = true := bne_iff_ne.mpr c11
                obtain rfl := Option.some.inj H
                go_enter Try.func8, Try.ntmps8
                go_wp2_with (first | ((with_reducible refine gate_callee (f := 13) rfl ?_); refine goesL_ (some 10) rfl rfl Try.func13 (by kernel_rfl) rfl #[.bool true, .string (⟨#[239, 172, 129, 97, 204, 129]⟩ : ByteArray)] rfl (by (try simp only [List.map_toArray, List.map_cons, List.map_nil]); first | done | rfl | (simp only [List.length_drop, List.length_take]; rfl)) ?_; (with_reducible refine (nfkc_Text.calls k true (⟨#[239, 172, 129, 97, 204, 129]⟩ : ByteArray) t273 t274 _ A1.out).mono ?_); rintro e w35 ⟨rfl, hb⟩; (try clear A1); refine ⟨_, rfl, ?_⟩; have n0_ := Aside0.mk (below_step (by repeat (first | (with_reducible first | exact HB.out | apply below_alloc | apply pw_below_drewN | apply below_drew1) | exact HB.out)) hb); clear HB; have HB := n0_; clear n0_; (try clear hb); (try clear hb2); (try clear hk); (try clear hi)) | ((with_reducible refine gate_callee (f := 13) rfl ?_); refine goesL_ (some 14) rfl rfl Try.func13 (by kernel_rfl) rfl #[.bool false, .string (⟨#[239, 172, 129, 97, 204, 129]⟩ : ByteArray)] rfl (by (try simp only [List.map_toArray, List.map_cons, List.map_nil]); first | done | rfl | (simp only [List.length_drop, List.length_take]; rfl)) ?_; (with_reducible refine (nfkc_Text.calls k false (⟨#[239, 172, 129, 97, 204, 129]⟩ : ByteArray) t275 t276 _ A2.out).mono ?_); rintro e w36 ⟨rfl, hb⟩; (try clear A2); refine ⟨_, rfl, ?_⟩; have n0_ := Aside0.mk (below_step (by repeat (first | (with_reducible first | exact HB.out | apply below_alloc | apply pw_below_drewN | apply below_drew1) | exact HB.out)) hb); clear HB; have HB := n0_; clear n0_; (try clear hb); (try clear hb2); (try clear hk); (try clear hi)) | ((with_reducible refine gate_callee (f := 15) rfl ?_); refine goesL_ (some 18) rfl rfl Try.func15 (by kernel_rfl) rfl #[.bool true, .string (⟨#[226, 132, 171]⟩ : ByteArray), .string (⟨#[65, 204, 138]⟩ : ByteArray)] rfl (by (try simp only [List.map_toArray, List.map_cons, List.map_nil]); first | done | rfl | (simp only [List.length_drop, List.length_take]; rfl)) ?_; (with_reducible refine (nfkc_Same.calls k true (⟨#[226, 132, 171]⟩ : ByteArray) (⟨#[65, 204, 138]⟩ : ByteArray) true t278 _ A3.out).mono ?_); rintro e w37 ⟨rfl, hb⟩; refine ⟨_, rfl, ?_⟩; have n0_ := Aside0.mk (below_step (by repeat (first | (with_reducible first | exact HB.out | apply below_alloc | apply pw_below_drewN | apply below_drew1) | exact HB.out)) hb); clear HB; have HB := n0_; clear n0_; (try clear hb); (try clear hb2); (try clear hk); (try clear hi)) | ((with_reducible refine gate_callee (f := 13) rfl ?_); refine goesL_ (some 22) rfl rfl Try.func13 (by kernel_rfl) rfl #[.bool true, .string (⟨#[255]⟩ : ByteArray)] rfl (by (try simp only [List.map_toArray, List.map_cons, List.map_nil]); first | done | rfl | (simp only [List.length_drop, List.length_take]; rfl)) ?_; (with_reducible refine (nfkc_Text.calls k true (⟨#[255]⟩ : ByteArray) t279 t280 _ A4.out).mono ?_); rintro e w38 ⟨rfl, hb⟩; (try clear A4); refine ⟨_, rfl, ?_⟩; have n0_ := Aside0.mk (below_step (by repeat (first | (with_reducible first | exact HB.out | apply below_alloc | apply pw_below_drewN | apply below_drew1) | exact HB.out)) hb); clear HB; have HB := n0_; clear n0_; (try clear hb); (try clear hb2); (try clear hk); (try clear hi)))
                go_ret
                exact ⟨by first | rfl | (simp [errW_none, errW_some] <;> rfl) | (simp [*, errW_none, errW_some] <;> rfl), by repeat (first | (with_reducible first | exact HB.out | apply below_alloc | apply pw_below_drewN | apply below_drew1) | exact HB.out)⟩
            · rw [if_neg c10] at H
              have c10b0 : (t278 == 0) = false := beq_eq_false_iff_ne.mpr c10
              have c10b1 : (t278 != 0) = true := bne_iff_ne.mpr c10
              obtain rfl := Option.some.inj H
              go_enter Try.func8, Try.ntmps8
              go_wp2_with (first | ((with_reducible refine gate_callee (f := 13) rfl ?_); refine goesL_ (some 10) rfl rfl Try.func13 (by kernel_rfl) rfl #[.bool true, .string (⟨#[239, 172, 129, 97, 204, 129]⟩ : ByteArray)] rfl (by (try simp only [List.map_toArray, List.map_cons, List.map_nil]); first | done | rfl | (simp only [List.length_drop, List.length_take]; rfl)) ?_; (with_reducible refine (nfkc_Text.calls k true (⟨#[239, 172, 129, 97, 204, 129]⟩ : ByteArray) t273 t274 _ A1.out).mono ?_); rintro e w39 ⟨rfl, hb⟩; (try clear A1); refine ⟨_, rfl, ?_⟩; have n0_ := Aside0.mk (below_step (by repeat (first | (with_reducible first | exact HB.out | apply below_alloc | apply pw_below_drewN | apply below_drew1) | exact HB.out)) hb); clear HB; have HB := n0_; clear n0_; (try clear hb); (try clear hb2); (try clear hk); (try clear hi)) | ((with_reducible refine gate_callee (f := 13) rfl ?_); refine goesL_ (some 14) rfl rfl Try.func13 (by kernel_rfl) rfl #[.bool false, .string (⟨#[239, 172, 129, 97, 204, 129]⟩ : ByteArray)] rfl (by (try simp only [List.map_toArray, List.map_cons, List.map_nil]); first | done | rfl | (simp only [List.length_drop, List.length_take]; rfl)) ?_; (with_reducible refine (nfkc_Text.calls k false (⟨#[239, 172, 129, 97, 204, 129]⟩ : ByteArray) t275 t276 _ A2.out).mono ?_); rintro e w40 ⟨rfl, hb⟩; (try clear A2); refine ⟨_, rfl, ?_⟩; have n0_ := Aside0.mk (below_step (by repeat (first | (with_reducible first | exact HB.out | apply below_alloc | apply pw_below_drewN | apply below_drew1) | exact HB.out)) hb); clear HB; have HB := n0_; clear n0_; (try clear hb); (try clear hb2); (try clear hk); (try clear hi)) | ((with_reducible refine gate_callee (f := 15) rfl ?_); refine goesL_ (some 18) rfl rfl Try.func15 (by kernel_rfl) rfl #[.bool true, .string (⟨#[226, 132, 171]⟩ : ByteArray), .string (⟨#[65, 204, 138]⟩ : ByteArray)] rfl (by (try simp only [List.map_toArray, List.map_cons, List.map_nil]); first | done | rfl | (simp only [List.length_drop, List.length_take]; rfl)) ?_; (with_reducible refine (nfkc_Same.calls k true (⟨#[226, 132, 171]⟩ : ByteArray) (⟨#[65, 204, 138]⟩ : ByteArray) true t278 _ A3.out).mono ?_); rintro e w41 ⟨rfl, hb⟩; refine ⟨_, rfl, ?_⟩; have n0_ := Aside0.mk (below_step (by repeat (first | (with_reducible first | exact HB.out | apply below_alloc | apply pw_below_drewN | apply below_drew1) | exact HB.out)) hb); clear HB; have HB := n0_; clear n0_; (try clear hb); (try clear hb2); (try clear hk); (try clear hi)) | ((with_reducible refine gate_callee (f := 13) rfl ?_); refine goesL_ (some 22) rfl rfl Try.func13 (by kernel_rfl) rfl #[.bool true, .string (⟨#[255]⟩ : ByteArray)] rfl (by (try simp only [List.map_toArray, List.map_cons, List.map_nil]); first | done | rfl | (simp only [List.length_drop, List.length_take]; rfl)) ?_; (with_reducible refine (nfkc_Text.calls k true (⟨#[255]⟩ : ByteArray) t279 t280 _ A4.out).mono ?_); rintro e w42 ⟨rfl, hb⟩; (try clear A4); refine ⟨_, rfl, ?_⟩; have n0_ := Aside0.mk (below_step (by repeat (first | (with_reducible first | exact HB.out | apply below_alloc | apply pw_below_drewN | apply below_drew1) | exact HB.out)) hb); clear HB; have HB := n0_; clear n0_; (try clear hb); (try clear hb2); (try clear hk); (try clear hi)))
              go_ret
              exact ⟨by first | rfl | (simp [errW_none, errW_some] <;> rfl) | (simp [*, errW_none, errW_some] <;> rfl), by repeat (first | (with_reducible first | exact HB.out | apply below_alloc | apply pw_below_drewN | apply below_drew1) | exact HB.out)⟩
          · replace c9 := Bool.eq_false_iff.mpr c9
            subst c9
            have H1 : (some false) = some r := by rw [if_neg (show ¬ (false = true) by decide)] at H; exact H
            clear H
            have H := H1
            clear H1
            obtain rfl := Option.some.inj H
            go_enter Try.func8, Try.ntmps8
            go_wp2_with (first | ((with_reducible refine gate_callee (f := 13) rfl ?_); refine goesL_ (some 10) rfl rfl Try.func13 (by kernel_rfl) rfl #[.bool true, .string (⟨#[239, 172, 129, 97, 204, 129]⟩ : ByteArray)] rfl (by (try simp only [List.map_toArray, List.map_cons, List.map_nil]); first | done | rfl | (simp only [List.length_drop, List.length_take]; rfl)) ?_; (with_reducible refine (nfkc_Text.calls k true (⟨#[239, 172, 129, 97, 204, 129]⟩ : ByteArray) t273 t274 _ A1.out).mono ?_); rintro e w43 ⟨rfl, hb⟩; (try clear A1); refine ⟨_, rfl, ?_⟩; have n0_ := Aside0.mk (below_step (by repeat (first | (with_reducible first | exact HB.out | apply below_alloc | apply pw_below_drewN | apply below_drew1) | exact HB.out)) hb); clear HB; have HB := n0_; clear n0_; (try clear hb); (try clear hb2); (try clear hk); (try clear hi)) | ((with_reducible refine gate_callee (f := 13) rfl ?_); refine goesL_ (some 14) rfl rfl Try.func13 (by kernel_rfl) rfl #[.bool false, .string (⟨#[239, 172, 129, 97, 204, 129]⟩ : ByteArray)] rfl (by (try simp only [List.map_toArray, List.map_cons, List.map_nil]); first | done | rfl | (simp only [List.length_drop, List.length_take]; rfl)) ?_; (with_reducible refine (nfkc_Text.calls k false (⟨#[239, 172, 129, 97, 204, 129]⟩ : ByteArray) t275 t276 _ A2.out).mono ?_); rintro e w44 ⟨rfl, hb⟩; (try clear A2); refine ⟨_, rfl, ?_⟩; have n0_ := Aside0.mk (below_step (by repeat (first | (with_reducible first | exact HB.out | apply below_alloc | apply pw_below_drewN | apply below_drew1) | exact HB.out)) hb); clear HB; have HB := n0_; clear n0_; (try clear hb); (try clear hb2); (try clear hk); (try clear hi)) | ((with_reducible refine gate_callee (f := 15) rfl ?_); refine goesL_ (some 18) rfl rfl Try.func15 (by kernel_rfl) rfl #[.bool true, .string (⟨#[226, 132, 171]⟩ : ByteArray), .string (⟨#[65, 204, 138]⟩ : ByteArray)] rfl (by (try simp only [List.map_toArray, List.map_cons, List.map_nil]); first | done | rfl | (simp only [List.length_drop, List.length_take]; rfl)) ?_; (with_reducible refine (nfkc_Same.calls k true (⟨#[226, 132, 171]⟩ : ByteArray) (⟨#[65, 204, 138]⟩ : ByteArray) false t278 _ A3.out).mono ?_); rintro e w45 ⟨rfl, hb⟩; refine ⟨_, rfl, ?_⟩; have n0_ := Aside0.mk (below_step (by repeat (first | (with_reducible first | exact HB.out | apply below_alloc | apply pw_below_drewN | apply below_drew1) | exact HB.out)) hb); clear HB; have HB := n0_; clear n0_; (try clear hb); (try clear hb2); (try clear hk); (try clear hi)) | ((with_reducible refine gate_callee (f := 13) rfl ?_); refine goesL_ (some 22) rfl rfl Try.func13 (by kernel_rfl) rfl #[.bool true, .string (⟨#[255]⟩ : ByteArray)] rfl (by (try simp only [List.map_toArray, List.map_cons, List.map_nil]); first | done | rfl | (simp only [List.length_drop, List.length_take]; rfl)) ?_; (with_reducible refine (nfkc_Text.calls k true (⟨#[255]⟩ : ByteArray) t279 t280 _ A4.out).mono ?_); rintro e w46 ⟨rfl, hb⟩; (try clear A4); refine ⟨_, rfl, ?_⟩; have n0_ := Aside0.mk (below_step (by repeat (first | (with_reducible first | exact HB.out | apply below_alloc | apply pw_below_drewN | apply below_drew1) | exact HB.out)) hb); clear HB; have HB := n0_; clear n0_; (try clear hb); (try clear hb2); (try clear hk); (try clear hi)))
            go_ret
            exact ⟨by first | rfl | (simp [errW_none, errW_some] <;> rfl) | (simp [*, errW_none, errW_some] <;> rfl), by repeat (first | (with_reducible first | exact HB.out | apply below_alloc | apply pw_below_drewN | apply below_drew1) | exact HB.out)⟩
        · rw [if_neg c8] at H
          have c8b0 : (t276 == 0) = false := beq_eq_false_iff_ne.mpr c8
          have c8b1 : (t276 != 0) = true := bne_iff_ne.mpr c8
          obtain rfl := Option.some.inj H
          go_enter Try.func8, Try.ntmps8
          go_wp2_with (first | ((with_reducible refine gate_callee (f := 13) rfl ?_); refine goesL_ (some 10) rfl rfl Try.func13 (by kernel_rfl) rfl #[.bool true, .string (⟨#[239, 172, 129, 97, 204, 129]⟩ : ByteArray)] rfl (by (try simp only [List.map_toArray, List.map_cons, List.map_nil]); first | done | rfl | (simp only [List.length_drop, List.length_take]; rfl)) ?_; (with_reducible refine (nfkc_Text.calls k true (⟨#[239, 172, 129, 97, 204, 129]⟩ : ByteArray) t273 t274 _ A1.out).mono ?_); rintro e w47 ⟨rfl, hb⟩; (try clear A1); refine ⟨_, rfl, ?_⟩; have n0_ := Aside0.mk (below_step (by repeat (first | (with_reducible first | exact HB.out | apply below_alloc | apply pw_below_drewN | apply below_drew1) | exact HB.out)) hb); clear HB; have HB := n0_; clear n0_; (try clear hb); (try clear hb2); (try clear hk); (try clear hi)) | ((with_reducible refine gate_callee (f := 13) rfl ?_); refine goesL_ (some 14) rfl rfl Try.func13 (by kernel_rfl) rfl #[.bool false, .string (⟨#[239, 172, 129, 97, 204, 129]⟩ : ByteArray)] rfl (by (try simp only [List.map_toArray, List.map_cons, List.map_nil]); first | done | rfl | (simp only [List.length_drop, List.length_take]; rfl)) ?_; (with_reducible refine (nfkc_Text.calls k false (⟨#[239, 172, 129, 97, 204, 129]⟩ : ByteArray) t275 t276 _ A2.out).mono ?_); rintro e w48 ⟨rfl, hb⟩; (try clear A2); refine ⟨_, rfl, ?_⟩; have n0_ := Aside0.mk (below_step (by repeat (first | (with_reducible first | exact HB.out | apply below_alloc | apply pw_below_drewN | apply below_drew1) | exact HB.out)) hb); clear HB; have HB := n0_; clear n0_; (try clear hb); (try clear hb2); (try clear hk); (try clear hi)) | ((with_reducible refine gate_callee (f := 15) rfl ?_); refine goesL_ (some 18) rfl rfl Try.func15 (by kernel_rfl) rfl #[.bool true, .string (⟨#[226, 132, 171]⟩ : ByteArray), .string (⟨#[65, 204, 138]⟩ : ByteArray)] rfl (by (try simp only [List.map_toArray, List.map_cons, List.map_nil]); first | done | rfl | (simp only [List.length_drop, List.length_take]; rfl)) ?_; (with_reducible refine (nfkc_Same.calls k true (⟨#[226, 132, 171]⟩ : ByteArray) (⟨#[65, 204, 138]⟩ : ByteArray) t277 t278 _ A3.out).mono ?_); rintro e w49 ⟨rfl, hb⟩; refine ⟨_, rfl, ?_⟩; have n0_ := Aside0.mk (below_step (by repeat (first | (with_reducible first | exact HB.out | apply below_alloc | apply pw_below_drewN | apply below_drew1) | exact HB.out)) hb); clear HB; have HB := n0_; clear n0_; (try clear hb); (try clear hb2); (try clear hk); (try clear hi)) | ((with_reducible refine gate_callee (f := 13) rfl ?_); refine goesL_ (some 22) rfl rfl Try.func13 (by kernel_rfl) rfl #[.bool true, .string (⟨#[255]⟩ : ByteArray)] rfl (by (try simp only [List.map_toArray, List.map_cons, List.map_nil]); first | done | rfl | (simp only [List.length_drop, List.length_take]; rfl)) ?_; (with_reducible refine (nfkc_Text.calls k true (⟨#[255]⟩ : ByteArray) t279 t280 _ A4.out).mono ?_); rintro e w50 ⟨rfl, hb⟩; (try clear A4); refine ⟨_, rfl, ?_⟩; have n0_ := Aside0.mk (below_step (by repeat (first | (with_reducible first | exact HB.out | apply below_alloc | apply pw_below_drewN | apply below_drew1) | exact HB.out)) hb); clear HB; have HB := n0_; clear n0_; (try clear hb); (try clear hb2); (try clear hk); (try clear hi)))
          go_ret
          exact ⟨by first | rfl | (simp [errW_none, errW_some] <;> rfl) | (simp [*, errW_none, errW_some] <;> rfl), by repeat (first | (with_reducible first | exact HB.out | apply below_alloc | apply pw_below_drewN | apply below_drew1) | exact HB.out)⟩
      · rw [if_neg c7] at H
        have c7b0 : (t275.toList == ([239, 172, 129, 195, 161] : List UInt8)) = false := beq_eq_false_iff_ne.mpr c7
        have c7b1 : (t275.toList != ([239, 172, 129, 195, 161] : List UInt8)) = true := bne_iff_ne.mpr c7
        obtain rfl := Option.some.inj H
        go_enter Try.func8, Try.ntmps8
        go_wp2_with (first | ((with_reducible refine gate_callee (f := 13) rfl ?_); refine goesL_ (some 10) rfl rfl Try.func13 (by kernel_rfl) rfl #[.bool true, .string (⟨#[239, 172, 129, 97, 204, 129]⟩ : ByteArray)] rfl (by (try simp only [List.map_toArray, List.map_cons, List.map_nil]); first | done | rfl | (simp only [List.length_drop, List.length_take]; rfl)) ?_; (with_reducible refine (nfkc_Text.calls k true (⟨#[239, 172, 129, 97, 204, 129]⟩ : ByteArray) t273 t274 _ A1.out).mono ?_); rintro e w51 ⟨rfl, hb⟩; (try clear A1); refine ⟨_, rfl, ?_⟩; have n0_ := Aside0.mk (below_step (by repeat (first | (with_reducible first | exact HB.out | apply below_alloc | apply pw_below_drewN | apply below_drew1) | exact HB.out)) hb); clear HB; have HB := n0_; clear n0_; (try clear hb); (try clear hb2); (try clear hk); (try clear hi)) | ((with_reducible refine gate_callee (f := 13) rfl ?_); refine goesL_ (some 14) rfl rfl Try.func13 (by kernel_rfl) rfl #[.bool false, .string (⟨#[239, 172, 129, 97, 204, 129]⟩ : ByteArray)] rfl (by (try simp only [List.map_toArray, List.map_cons, List.map_nil]); first | done | rfl | (simp only [List.length_drop, List.length_take]; rfl)) ?_; (with_reducible refine (nfkc_Text.calls k false (⟨#[239, 172, 129, 97, 204, 129]⟩ : ByteArray) t275 t276 _ A2.out).mono ?_); rintro e w52 ⟨rfl, hb⟩; (try clear A2); refine ⟨_, rfl, ?_⟩; have n0_ := Aside0.mk (below_step (by repeat (first | (with_reducible first | exact HB.out | apply below_alloc | apply pw_below_drewN | apply below_drew1) | exact HB.out)) hb); clear HB; have HB := n0_; clear n0_; (try clear hb); (try clear hb2); (try clear hk); (try clear hi)) | ((with_reducible refine gate_callee (f := 15) rfl ?_); refine goesL_ (some 18) rfl rfl Try.func15 (by kernel_rfl) rfl #[.bool true, .string (⟨#[226, 132, 171]⟩ : ByteArray), .string (⟨#[65, 204, 138]⟩ : ByteArray)] rfl (by (try simp only [List.map_toArray, List.map_cons, List.map_nil]); first | done | rfl | (simp only [List.length_drop, List.length_take]; rfl)) ?_; (with_reducible refine (nfkc_Same.calls k true (⟨#[226, 132, 171]⟩ : ByteArray) (⟨#[65, 204, 138]⟩ : ByteArray) t277 t278 _ A3.out).mono ?_); rintro e w53 ⟨rfl, hb⟩; refine ⟨_, rfl, ?_⟩; have n0_ := Aside0.mk (below_step (by repeat (first | (with_reducible first | exact HB.out | apply below_alloc | apply pw_below_drewN | apply below_drew1) | exact HB.out)) hb); clear HB; have HB := n0_; clear n0_; (try clear hb); (try clear hb2); (try clear hk); (try clear hi)) | ((with_reducible refine gate_callee (f := 13) rfl ?_); refine goesL_ (some 22) rfl rfl Try.func13 (by kernel_rfl) rfl #[.bool true, .string (⟨#[255]⟩ : ByteArray)] rfl (by (try simp only [List.map_toArray, List.map_cons, List.map_nil]); first | done | rfl | (simp only [List.length_drop, List.length_take]; rfl)) ?_; (with_reducible refine (nfkc_Text.calls k true (⟨#[255]⟩ : ByteArray) t279 t280 _ A4.out).mono ?_); rintro e w54 ⟨rfl, hb⟩; (try clear A4); refine ⟨_, rfl, ?_⟩; have n0_ := Aside0.mk (below_step (by repeat (first | (with_reducible first | exact HB.out | apply below_alloc | apply pw_below_drewN | apply below_drew1) | exact HB.out)) hb); clear HB; have HB := n0_; clear n0_; (try clear hb); (try clear hb2); (try clear hk); (try clear hi)))
        go_ret
        exact ⟨by first | rfl | (simp [errW_none, errW_some] <;> rfl) | (simp [*, errW_none, errW_some] <;> rfl), by repeat (first | (with_reducible first | exact HB.out | apply below_alloc | apply pw_below_drewN | apply below_drew1) | exact HB.out)⟩
    · rw [if_neg c6] at H
      have c6b0 : (t274 == 0) = false := beq_eq_false_iff_ne.mpr c6
      have c6b1 : (t274 != 0) = true := bne_iff_ne.mpr c6
      obtain rfl := Option.some.inj H
      go_enter Try.func8, Try.ntmps8
      go_wp2_with (first | ((with_reducible refine gate_callee (f := 13) rfl ?_); refine goesL_ (some 10) rfl rfl Try.func13 (by kernel_rfl) rfl #[.bool true, .string (⟨#[239, 172, 129, 97, 204, 129]⟩ : ByteArray)] rfl (by (try simp only [List.map_toArray, List.map_cons, List.map_nil]); first | done | rfl | (simp only [List.length_drop, List.length_take]; rfl)) ?_; (with_reducible refine (nfkc_Text.calls k true (⟨#[239, 172, 129, 97, 204, 129]⟩ : ByteArray) t273 t274 _ A1.out).mono ?_); rintro e w55 ⟨rfl, hb⟩; (try clear A1); refine ⟨_, rfl, ?_⟩; have n0_ := Aside0.mk (below_step (by repeat (first | (with_reducible first | exact HB.out | apply below_alloc | apply pw_below_drewN | apply below_drew1) | exact HB.out)) hb); clear HB; have HB := n0_; clear n0_; (try clear hb); (try clear hb2); (try clear hk); (try clear hi)) | ((with_reducible refine gate_callee (f := 13) rfl ?_); refine goesL_ (some 14) rfl rfl Try.func13 (by kernel_rfl) rfl #[.bool false, .string (⟨#[239, 172, 129, 97, 204, 129]⟩ : ByteArray)] rfl (by (try simp only [List.map_toArray, List.map_cons, List.map_nil]); first | done | rfl | (simp only [List.length_drop, List.length_take]; rfl)) ?_; (with_reducible refine (nfkc_Text.calls k false (⟨#[239, 172, 129, 97, 204, 129]⟩ : ByteArray) t275 t276 _ A2.out).mono ?_); rintro e w56 ⟨rfl, hb⟩; (try clear A2); refine ⟨_, rfl, ?_⟩; have n0_ := Aside0.mk (below_step (by repeat (first | (with_reducible first | exact HB.out | apply below_alloc | apply pw_below_drewN | apply below_drew1) | exact HB.out)) hb); clear HB; have HB := n0_; clear n0_; (try clear hb); (try clear hb2); (try clear hk); (try clear hi)) | ((with_reducible refine gate_callee (f := 15) rfl ?_); refine goesL_ (some 18) rfl rfl Try.func15 (by kernel_rfl) rfl #[.bool true, .string (⟨#[226, 132, 171]⟩ : ByteArray), .string (⟨#[65, 204, 138]⟩ : ByteArray)] rfl (by (try simp only [List.map_toArray, List.map_cons, List.map_nil]); first | done | rfl | (simp only [List.length_drop, List.length_take]; rfl)) ?_; (with_reducible refine (nfkc_Same.calls k true (⟨#[226, 132, 171]⟩ : ByteArray) (⟨#[65, 204, 138]⟩ : ByteArray) t277 t278 _ A3.out).mono ?_); rintro e w57 ⟨rfl, hb⟩; refine ⟨_, rfl, ?_⟩; have n0_ := Aside0.mk (below_step (by repeat (first | (with_reducible first | exact HB.out | apply below_alloc | apply pw_below_drewN | apply below_drew1) | exact HB.out)) hb); clear HB; have HB := n0_; clear n0_; (try clear hb); (try clear hb2); (try clear hk); (try clear hi)) | ((with_reducible refine gate_callee (f := 13) rfl ?_); refine goesL_ (some 22) rfl rfl Try.func13 (by kernel_rfl) rfl #[.bool true, .string (⟨#[255]⟩ : ByteArray)] rfl (by (try simp only [List.map_toArray, List.map_cons, List.map_nil]); first | done | rfl | (simp only [List.length_drop, List.length_take]; rfl)) ?_; (with_reducible refine (nfkc_Text.calls k true (⟨#[255]⟩ : ByteArray) t279 t280 _ A4.out).mono ?_); rintro e w58 ⟨rfl, hb⟩; (try clear A4); refine ⟨_, rfl, ?_⟩; have n0_ := Aside0.mk (below_step (by repeat (first | (with_reducible first | exact HB.out | apply below_alloc | apply pw_below_drewN | apply below_drew1) | exact HB.out)) hb); clear HB; have HB := n0_; clear n0_; (try clear hb); (try clear hb2); (try clear hk); (try clear hi)))
      go_ret
      exact ⟨by first | rfl | (simp [errW_none, errW_some] <;> rfl) | (simp [*, errW_none, errW_some] <;> rfl), by repeat (first | (with_reducible first | exact HB.out | apply below_alloc | apply pw_below_drewN | apply below_drew1) | exact HB.out)⟩
  · rw [if_neg c5] at H
    have c5b0 : (t273.toList == ([102, 105, 195, 161] : List UInt8)) = false := beq_eq_false_iff_ne.mpr c5
    have c5b1 : (t273.toList != ([102, 105, 195, 161] : List UInt8)) = true := bne_iff_ne.mpr c5
    obtain rfl := Option.some.inj H
    go_enter Try.func8, Try.ntmps8
    go_wp2_with (first | ((with_reducible refine gate_callee (f := 13) rfl ?_); refine goesL_ (some 10) rfl rfl Try.func13 (by kernel_rfl) rfl #[.bool true, .string (⟨#[239, 172, 129, 97, 204, 129]⟩ : ByteArray)] rfl (by (try simp only [List.map_toArray, List.map_cons, List.map_nil]); first | done | rfl | (simp only [List.length_drop, List.length_take]; rfl)) ?_; (with_reducible refine (nfkc_Text.calls k true (⟨#[239, 172, 129, 97, 204, 129]⟩ : ByteArray) t273 t274 _ A1.out).mono ?_); rintro e w59 ⟨rfl, hb⟩; (try clear A1); refine ⟨_, rfl, ?_⟩; have n0_ := Aside0.mk (below_step (by repeat (first | (with_reducible first | exact HB.out | apply below_alloc | apply pw_below_drewN | apply below_drew1) | exact HB.out)) hb); clear HB; have HB := n0_; clear n0_; (try clear hb); (try clear hb2); (try clear hk); (try clear hi)) | ((with_reducible refine gate_callee (f := 13) rfl ?_); refine goesL_ (some 14) rfl rfl Try.func13 (by kernel_rfl) rfl #[.bool false, .string (⟨#[239, 172, 129, 97, 204, 129]⟩ : ByteArray)] rfl (by (try simp only [List.map_toArray, List.map_cons, List.map_nil]); first | done | rfl | (simp only [List.length_drop, List.length_take]; rfl)) ?_; (with_reducible refine (nfkc_Text.calls k false (⟨#[239, 172, 129, 97, 204, 129]⟩ : ByteArray) t275 t276 _ A2.out).mono ?_); rintro e w60 ⟨rfl, hb⟩; (try clear A2); refine ⟨_, rfl, ?_⟩; have n0_ := Aside0.mk (below_step (by repeat (first | (with_reducible first | exact HB.out | apply below_alloc | apply pw_below_drewN | apply below_drew1) | exact HB.out)) hb); clear HB; have HB := n0_; clear n0_; (try clear hb); (try clear hb2); (try clear hk); (try clear hi)) | ((with_reducible refine gate_callee (f := 15) rfl ?_); refine goesL_ (some 18) rfl rfl Try.func15 (by kernel_rfl) rfl #[.bool true, .string (⟨#[226, 132, 171]⟩ : ByteArray), .string (⟨#[65, 204, 138]⟩ : ByteArray)] rfl (by (try simp only [List.map_toArray, List.map_cons, List.map_nil]); first | done | rfl | (simp only [List.length_drop, List.length_take]; rfl)) ?_; (with_reducible refine (nfkc_Same.calls k true (⟨#[226, 132, 171]⟩ : ByteArray) (⟨#[65, 204, 138]⟩ : ByteArray) t277 t278 _ A3.out).mono ?_); rintro e w61 ⟨rfl, hb⟩; refine ⟨_, rfl, ?_⟩; have n0_ := Aside0.mk (below_step (by repeat (first | (with_reducible first | exact HB.out | apply below_alloc | apply pw_below_drewN | apply below_drew1) | exact HB.out)) hb); clear HB; have HB := n0_; clear n0_; (try clear hb); (try clear hb2); (try clear hk); (try clear hi)) | ((with_reducible refine gate_callee (f := 13) rfl ?_); refine goesL_ (some 22) rfl rfl Try.func13 (by kernel_rfl) rfl #[.bool true, .string (⟨#[255]⟩ : ByteArray)] rfl (by (try simp only [List.map_toArray, List.map_cons, List.map_nil]); first | done | rfl | (simp only [List.length_drop, List.length_take]; rfl)) ?_; (with_reducible refine (nfkc_Text.calls k true (⟨#[255]⟩ : ByteArray) t279 t280 _ A4.out).mono ?_); rintro e w62 ⟨rfl, hb⟩; (try clear A4); refine ⟨_, rfl, ?_⟩; have n0_ := Aside0.mk (below_step (by repeat (first | (with_reducible first | exact HB.out | apply below_alloc | apply pw_below_drewN | apply below_drew1) | exact HB.out)) hb); clear HB; have HB := n0_; clear n0_; (try clear hb); (try clear hb2); (try clear hk); (try clear hi)))
    go_ret
    exact ⟨by first | rfl | (simp [errW_none, errW_some] <;> rfl) | (simp [*, errW_none, errW_some] <;> rfl), by repeat (first | (with_reducible first | exact HB.out | apply below_alloc | apply pw_below_drewN | apply below_drew1) | exact HB.out)⟩

end Go.Proofs.Ytpihglokjcbjkaa.P
