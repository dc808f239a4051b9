-- Printed by wip/mk.py (this session's driver over the kit's print) and from wip/manual.
import Derived.Test.YtpihglokjcbjkaaR0
import Derived.Test.YtpihglokjcbjkaaR1
import Derived.Test.YtpihglokjcbjkaaR2
import Derived.Test.YtpihglokjcbjkaaR4
namespace Go.Proofs.Ytpihglokjcbjkaa.P
open Go.RowKit Go.Proofs.YtpihglokjcbjkaaW.PrintWords Go.Proofs.YtpihglokjcbjkaaW.PrintLast Go.Proofs.YtpihglokjcbjkaaW.PrintMore
attribute [local go_sem] max2_int min2_int max_two min_two max_three min_three max_four min_four   -- for this text's walks alone
set_option linter.unusedVariables false
set_option linter.unusedSimpArgs false

/-! ### decomp_One: function 32, by hand (decomp.One.tpl), and decomp_All: function 17 -/
mutual
def decomp_One.f : Nat → Int → Bool → Option (List Int)
  | 0, _, _ => none
  | k + 1, r, b => (hangul_Syllable.f r).bind fun s => if s = true then hangul_Apart.f r else ((decomp_Pair.f k r).bind fun p => if p.2.2 = true then (if 44032 ≤ p.1 ∧ p.1 ≤ 55203 then none else ((decomp_One.f k p.1 b).bind fun x => if x.length < 35184372088832 then some (x ++ [p.2.1]) else none)) else ((decomp_Single.f k r).bind fun q => if q.2 = true then (if 44032 ≤ q.1 ∧ q.1 ≤ 55203 then none else decomp_One.f k q.1 b) else ((decomp_Loose.f k r).bind fun l => if b = true then (if (l.length : Int) > 0 then decomp_All.l0 k b [] l (l.length : Int) 0 else some [r]) else some [r])))
def decomp_All.l0 : Nat → Bool → List Int → List Int → Int → Int → Option (List Int)
  | 0, _, _, _, _, _ => none
  | k + 1, x0, x5, x8, x9, x10 => if x10 < x9 then (if 0 ≤ x10 then (if x10 < (x8.length : Int) then (if (rd x8 x10) < 128 then (if x5.length < 35184372088832 then (decomp_All.l0 k x0 (x5 ++ [rd x8 x10]) x8 x9 (wrap64 (x10 + 1))) else (none)) else ((chars_Class.f k (rd x8 x10)).bind fun t175 => (if t175 > 0 then (if x5.length < 35184372088832 then (decomp_All.l0 k x0 (x5 ++ [rd x8 x10]) x8 x9 (wrap64 (x10 + 1))) else (none)) else ((decomp_One.f k (rd x8 x10) x0).bind fun t179 => (if x5.length + t179.length < 35184372088832 then (decomp_All.l0 k x0 (x5 ++ t179) x8 x9 (wrap64 (x10 + 1))) else (none)))))) else (none)) else (none)) else (some x5)
end
def decomp_All.f (k : Nat) (a0 : Bool) (l1 : List Int) : Option (List Int) := decomp_All.l0 k a0 ([] : List Int) l1 (l1.length : Int) 0
theorem decomp_One.mono_l : ∀ k, (∀ y0 y1, LeO (decomp_One.f k y0 y1) (decomp_One.f (k + 1) y0 y1)) ∧ (∀ y0 y1 y2 y3 y4, LeO (decomp_All.l0 k y0 y1 y2 y3 y4) (decomp_All.l0 (k + 1) y0 y1 y2 y3 y4))
  | 0 => ⟨fun _ _ r h => by simp [decomp_One.f] at h, fun _ _ _ _ _ r h => by simp [decomp_All.l0] at h⟩
  | k + 1 => by
    obtain ⟨ih0, ih1⟩ := decomp_One.mono_l k
    refine ⟨?_, ?_⟩
    · intro y0 y1
      unfold decomp_One.f
      repeat' first
        | (with_reducible exact ih0 _ _)
        | (with_reducible exact ih1 _ _ _ _ _)
        | (with_reducible exact decomp_Pair.mono _ _)
        | (with_reducible exact decomp_Single.mono _ _)
        | (with_reducible exact decomp_Loose.mono _ _)
        | (with_reducible exact LeO.refl _)
        | (with_reducible refine LeO.ite ?_ ?_)
        | (with_reducible refine LeO.bind ?_ (fun _ => ?_))
    · intro y0 y1 y2 y3 y4
      unfold decomp_All.l0
      repeat' first
        | (with_reducible exact ih1 _ _ _ _ _)
        | (with_reducible exact ih0 _ _)
        | (with_reducible exact chars_Class.mono _ _)
        | (with_reducible exact LeO.refl _)
        | (with_reducible refine LeO.ite ?_ ?_)
        | (with_reducible refine LeO.bind ?_ (fun _ => ?_))
theorem decomp_One.mono : ∀ a0 a1 k, LeO (decomp_One.f k a0 a1) (decomp_One.f (k + 1) a0 a1) := fun a0 a1 k => (decomp_One.mono_l k).1 _ _
theorem decomp_All.mono : ∀ a0 a1 k, LeO (decomp_All.f k a0 a1) (decomp_All.f (k + 1) a0 a1) := fun a0 a1 k => (decomp_One.mono_l k).2 _ _ _ _ _
/-- The contract of One, at one number of rounds. -/
def decomp_One.Says (k : Nat) : Prop := ∀ (a0 : Int) (a1 : Bool) (r : List Int) (w : World), decomp_One.f k a0 a1 = some r →
    Calls Try.prog 32 #[.int .i32 a0, .bool a1] w fun e w' => ∃ v0_ : Value, e = .returned (v0_) ∧ Kd.V (Kd.int .i32) 21 w' w.heap.size (fun k_ => (w.heap.size ≤ k_)) (v0_) (r) ∧ Below w.heap.size w w'
theorem decomp_One.Says.use {k : Nat} (h : decomp_One.Says k) (a0 : Int) (a1 : Bool) (r : List Int) (w : World) (H : decomp_One.f k a0 a1 = some r) :
    Calls Try.prog 32 #[.int .i32 a0, .bool a1] w fun e w' => ∃ v0_ : Value, e = .returned (v0_) ∧ Kd.V (Kd.int .i32) 21 w' w.heap.size (fun k_ => (w.heap.size ≤ k_)) (v0_) (r) ∧ Below w.heap.size w w' := h a0 a1 r w H
/-- The same of what is no syllable: a row of the call's own. -/
def decomp_One.Own (k : Nat) : Prop := ∀ (a0 : Int) (a1 : Bool) (r : List Int) (w : World), ¬ (44032 ≤ a0 ∧ a0 ≤ 55203) → decomp_One.f k a0 a1 = some r →
    Calls Try.prog 32 #[.int .i32 a0, .bool a1] w fun e w' => ∃ v0_ : Value, e = .returned (v0_) ∧ Kd.R (Kd.int .i32) 21 w' w.heap.size (fun _ => True) (v0_) (r) ∧ Below w.heap.size w w'
set_option maxHeartbeats 8000000 in
set_option maxRecDepth 100000 in
theorem decomp_One.says_of (k : Nat) (ho : decomp_One.Own k) : decomp_One.Says k := by
  intro a0 a1 r w h
  by_cases hs : 44032 ≤ a0 ∧ a0 ≤ 55203
  · cases k with
    | zero => exact absurd h (by simp [decomp_One.f])
    | succ k =>
      simp only [decomp_One.f] at h
      have A : hangul_Syllable.f a0 = some true := by
        unfold hangul_Syllable.f
        rw [if_pos hs.1]
        simp [hs.2]
      rw [A] at h
      simp only [Option.bind_some, if_true] at h
      have A' := Aside0.mk A
      have H' := Aside0.mk h
      clear A h hs ho
      go_enter Try.func32, Try.ntmps32
      go_wp2_with fail
      (with_reducible refine (hangul_Syllable.calls a0 _ _ A'.out).mono ?_)
      rintro e w1 ⟨rfl, hd⟩
      have HD := Aside0.mk hd
      clear hd
      go_wp2_with fail
      (with_reducible refine (hangul_Apart.calls a0 r _ H'.out).mono ?_)
      rintro e w2 ⟨v, rfl, ho, hb⟩
      have HO := Aside0.mk ho
      have HB := Aside0.mk hb
      clear ho hb
      go_wp2
      go_ret
      exact ⟨_, rfl, Kd.V_mono HO.out (fun k_ hk => Nat.le_trans HD.out.below.size hk), below_then HD.out.below HD.out.below.size HB.out⟩
  · refine (ho a0 a1 r w hs h).mono ?_
    rintro e w1 ⟨v, rfl, hr, hb⟩
    exact ⟨v, rfl, Kd.V_mono (Kd.R_V (Kd.R_bound hr)) (fun k_ hk => hk.2.1), hb⟩
set_option maxHeartbeats 8000000 in
set_option maxRecDepth 100000 in
theorem decomp_All.calls_of (k : Nat) (hOne : ∀ k1, k1 < k → decomp_One.Says k1) (a0 : Bool) (A1 : Option Addr) (c1 : Nat) (l1 : List Int) (r : List Int) (w : World) (hr1 : Kd.C (Kd.int .i32) w A1 l1.length l1) (hc1 : l1.length ≤ c1) (h : decomp_All.f k a0 l1 = some r) :
    Calls Try.prog 17 #[.bool a0, .slice A1 l1.length c1] w fun e w' => ∃ v0_ : Value, e = .returned (v0_) ∧ Kd.R (Kd.int .i32) 21 w' w.heap.size (fun _ => True) v0_ r ∧ Below w.heap.size w w' := by
  have HR1 := Aside0.mk hr1
  have HC1 := Aside0.mk hc1
  clear hr1 hc1
  have HB := Aside0.mk (Below.refl w.heap.size w)
  have H : (decomp_All.l0 k a0 ([] : List Int) l1 (l1.length : Int) 0) = some r := h
  clear h
  have H' := Aside0.mk H
  clear H
  go_enter Try.func17, Try.ntmps17
  go_wp2
  go_loopg [5, 10] k (fun kq v5 v10 w' => ∃ (x5_1 : List Int) (x10_1 : Int), v10 = .int .i64 x10_1 ∧ Aside0 (decomp_All.l0 kq a0 x5_1 l1 (l1.length : Int) x10_1 = some r) ∧ Aside0 (kq ≤ k) ∧ Aside0 (Kd.R (Kd.int .i32) 21 w' w.heap.size (fun _ => True) v5 x5_1) ∧ Aside0 (Below w.heap.size w w'))
  case atStart => exact ⟨(([] : List Int)), (0), (by first | rfl | (simp; done) | (simp [*]; done)), H', ⟨Nat.le_refl _⟩, ⟨by first | exact Kd.R_nil _ _ _ _ _ | exact Kd.N_nil _ _ _ _ _ | exact Kd.V_nil _ _ _ _ _ | exact Kd.Q_nil _ _ _ _ _ | exact Kd.S_nil _ _ _ _ _⟩, ⟨by repeat (first | (with_reducible first | exact HB.out | apply below_alloc | apply pw_below_drewN | apply below_drew1) | exact HB.out)⟩⟩
  case round =>
    clear H'
    try clear c1
    try clear p2
    obtain ⟨x5_1, x10_1, rfl, HA, HK1, HO_5, HB⟩ := hrel
    cases gk with
    | zero => exact absurd HA.out (by simp [decomp_All.l0])
    | succ k1 =>
      have H := HA.out
      clear HA
      simp only [decomp_All.l0] at H
      by_cases c3 : x10_1 < (l1.length : Int)
      · rw [if_pos c3] at H
        have c3b0 : decide (x10_1 < (l1.length : Int)) = true := decide_eq_true c3
        clear c3
        by_cases c4 : 0 ≤ x10_1
        · rw [if_pos c4] at H
          have c4b0 : decide (0 ≤ x10_1) = true := decide_eq_true c4
          clear c4
          by_cases c5 : x10_1 < (l1.length : Int)
          · rw [if_pos c5] at H
            have c5b0 : decide (x10_1 < (l1.length : Int)) = true := decide_eq_true c5
            clear c5
            by_cases c6 : (rd l1 x10_1) < 128
            · rw [if_pos c6] at H
              have c6b0 : decide ((rd l1 x10_1) < 128) = true := decide_eq_true c6
              clear c6
              by_cases c7 : x5_1.length < 35184372088832
              · rw [if_pos c7] at H
                have LMc7 := Aside0.mk c7
                clear c7
                obtain ⟨y172, hy172⟩ : ∃ y_ : List Int, y_ = (x5_1 ++ [rd l1 x10_1]) := ⟨_, rfl⟩
                replace H : (decomp_All.l0 k1 a0 y172 l1 (l1.length : Int) (wrap64 (x10_1 + 1))) = some r := by first | (rw [hy172]; with_reducible exact H) | (have H2_ := (Option.bind_some _ _).symm.trans H; rw [hy172]; with_reducible exact H2_) | (have H2_ := (Option.bind_some _ _).symm.trans H; with_reducible exact H2_) | with_reducible exact H | (rw [hy172]; exact H) | exact H
                have Ny172 := Aside0.mk hy172
                clear hy172
                have H' := Aside0.mk H
                clear H
                have p171 : 0 ≤ (x10_1 : Int) := of_decide_eq_true (by first | (with_reducible assumption) | assumption)
                have q171 : x10_1 < (l1.length : Int) := of_decide_eq_true (by first | (with_reducible assumption) | assumption)
                obtain ⟨ad171, e171, hx171_0⟩ := Kd.at_int HR1.out x10_1 p171 q171
                cases e171
                replace hx171_0 := (HB.out.cell (World.block_lt_of_cell? w _ hx171_0)).trans hx171_0
                replace p171 := eq_true p171
                replace q171 := eq_true q171
                go_wp2_with (first | ((with_reducible refine gate_builtin (b := .append) (xs := #[.tmp 21, .tmp 23]) rfl ?_); at_builtin; refine Kd.R_append (Kd.int .i32) (w0 := w) w.heap.size rfl (.tmp 21) (.tmp 23) 22 21 (.int .i32 0) 4 rfl Try.underlying22 info21 rfl (by decide) (by omega) u5 x5_1 (rd l1 x10_1) [.int .i32 (rd l1 x10_1)] (fun _ => True) (fun _ => False) rfl rfl ?aP (fun _ hk => hk.elim) ?aF ?aO ?aB ?aS ?aL ?_; (case aP => exact rfl); (case aB => exact (by repeat (first | (with_reducible first | exact HB.out | apply below_alloc | apply pw_below_drewN | apply below_drew1) | exact HB.out))); (case aF => exact (fun _ _ => trivial)); (case aO => exact (by (with_reducible repeat (first | apply Kd.R_alloc | apply Kd.R_drewN | apply Kd.R_drew)); exact HO_5.out)); (case aS => exact (below_size (by repeat (first | (with_reducible first | exact HB.out | apply below_alloc | apply pw_below_drewN | apply below_drew1) | exact HB.out)))); (case aL => have := LMc7.out; omega); intro v173 w8 ho hb hg hat; rw [← Ny172.out] at ho; have n0_ := Aside0.mk (hb); have n1_ := Aside0.mk (ho); clear HB; clear HO_5; have HB := n0_; have HO174 := n1_; clear n0_ n1_; clear ho hb hg hat))
                go_roundg k1
                case measure => have := HK1.out; omega
                case rel => exact ⟨(y172), (wrap64 (x10_1 + 1)), (by first | rfl | (simp; done) | (simp [*]; done)), H', ⟨by have := HK1.out; omega⟩, ⟨by (with_reducible repeat (first | apply Kd.R_alloc | apply Kd.R_drewN | apply Kd.R_drew)); exact HO174.out⟩, ⟨by repeat (first | (with_reducible first | exact HB.out | apply below_alloc | apply pw_below_drewN | apply below_drew1) | exact HB.out)⟩⟩
              · rw [if_neg c7] at H
                exact absurd H (by simp)
            · rw [if_neg c6] at H
              have c6b0 : decide ((rd l1 x10_1) < 128) = false := decide_eq_false c6
              clear c6
              replace H := Option.bind_eq_some_iff.mp H
              obtain ⟨t175, A90, H⟩ := H
              replace H : (if t175 > 0 then (if x5_1.length < 35184372088832 then (decomp_All.l0 k1 a0 (x5_1 ++ [rd l1 x10_1]) l1 (l1.length : Int) (wrap64 (x10_1 + 1))) else (none)) else ((decomp_One.f k1 (rd l1 x10_1) a0).bind fun t179 => (if x5_1.length + t179.length < 35184372088832 then (decomp_All.l0 k1 a0 (x5_1 ++ t179) l1 (l1.length : Int) (wrap64 (x10_1 + 1))) else (none)))) = some r := H
              have A9 := Aside0.mk A90
              clear A90
              by_cases c10 : t175 > 0
              · rw [if_pos c10] at H
                have c10b0 : decide (0 < t175) = true := decide_eq_true c10
                clear c10
                by_cases c11 : x5_1.length < 35184372088832
                · rw [if_pos c11] at H
                  have LMc11 := Aside0.mk c11
                  clear c11
                  obtain ⟨y176, hy176⟩ : ∃ y_ : List Int, y_ = (x5_1 ++ [rd l1 x10_1]) := ⟨_, rfl⟩
                  replace H : (decomp_All.l0 k1 a0 y176 l1 (l1.length : Int) (wrap64 (x10_1 + 1))) = some r := by first | (rw [hy176]; with_reducible exact H) | (have H2_ := (Option.bind_some _ _).symm.trans H; rw [hy176]; with_reducible exact H2_) | (have H2_ := (Option.bind_some _ _).symm.trans H; with_reducible exact H2_) | with_reducible exact H | (rw [hy176]; exact H) | exact H
                  have Ny176 := Aside0.mk hy176
                  clear hy176
                  have H' := Aside0.mk H
                  clear H
                  have p171 : 0 ≤ (x10_1 : Int) := of_decide_eq_true (by first | (with_reducible assumption) | assumption)
                  have q171 : x10_1 < (l1.length : Int) := of_decide_eq_true (by first | (with_reducible assumption) | assumption)
                  obtain ⟨ad171, e171, hx171_0⟩ := Kd.at_int HR1.out x10_1 p171 q171
                  cases e171
                  replace hx171_0 := (HB.out.cell (World.block_lt_of_cell? w _ hx171_0)).trans hx171_0
                  replace p171 := eq_true p171
                  replace q171 := eq_true q171
                  go_wp2_with (first | (go_at_call 31; (with_reducible refine (chars_Class.calls k1 (rd l1 x10_1) t175 _ A9.out).mono ?_); rintro e w' ⟨rfl, ⟨nd, rfl⟩⟩) | ((with_reducible refine gate_builtin (b := .append) (xs := #[.tmp 21, .tmp 23]) rfl ?_); at_builtin; refine Kd.R_append (Kd.int .i32) (w0 := w) w.heap.size rfl (.tmp 21) (.tmp 23) 22 21 (.int .i32 0) 4 rfl Try.underlying22 info21 rfl (by decide) (by omega) u5 x5_1 (rd l1 x10_1) [.int .i32 (rd l1 x10_1)] (fun _ => True) (fun _ => False) rfl rfl ?aP (fun _ hk => hk.elim) ?aF ?aO ?aB ?aS ?aL ?_; (case aP => exact rfl); (case aB => exact (by repeat (first | (with_reducible first | exact HB.out | apply below_alloc | apply pw_below_drewN | apply below_drew1) | exact HB.out))); (case aF => exact (fun _ _ => trivial)); (case aO => exact (by (with_reducible repeat (first | apply Kd.R_alloc | apply Kd.R_drewN | apply Kd.R_drew)); exact HO_5.out)); (case aS => exact (below_size (by repeat (first | (with_reducible first | exact HB.out | apply below_alloc | apply pw_below_drewN | apply below_drew1) | exact HB.out)))); (case aL => have := LMc11.out; omega); intro v177 w12 ho hb hg hat; rw [← Ny176.out] at ho; have n0_ := Aside0.mk (hb); have n1_ := Aside0.mk (ho); clear HB; clear HO_5; have HB := n0_; have HO178 := n1_; clear n0_ n1_; clear ho hb hg hat))
                  go_roundg k1
                  case measure => have := HK1.out; omega
                  case rel => exact ⟨(y176), (wrap64 (x10_1 + 1)), (by first | rfl | (simp; done) | (simp [*]; done)), H', ⟨by have := HK1.out; omega⟩, ⟨by (with_reducible repeat (first | apply Kd.R_alloc | apply Kd.R_drewN | apply Kd.R_drew)); exact HO178.out⟩, ⟨by repeat (first | (with_reducible first | exact HB.out | apply below_alloc | apply pw_below_drewN | apply below_drew1) | exact HB.out)⟩⟩
                · rw [if_neg c11] at H
                  exact absurd H (by simp)
              · rw [if_neg c10] at H
                have c10b0 : decide (0 < t175) = false := decide_eq_false c10
                clear c10
                replace H := Option.bind_eq_some_iff.mp H
                obtain ⟨t179, A130, H⟩ := H
                replace H : (if x5_1.length + t179.length < 35184372088832 then (decomp_All.l0 k1 a0 (x5_1 ++ t179) l1 (l1.length : Int) (wrap64 (x10_1 + 1))) else (none)) = some r := H
                have A13 := Aside0.mk A130
                clear A130
                by_cases c14 : x5_1.length + t179.length < 35184372088832
                · rw [if_pos c14] at H
                  have LMc14 := Aside0.mk c14
                  clear c14
                  obtain ⟨y182, hy182⟩ : ∃ y_ : List Int, y_ = (x5_1 ++ t179) := ⟨_, rfl⟩
                  replace H : (decomp_All.l0 k1 a0 y182 l1 (l1.length : Int) (wrap64 (x10_1 + 1))) = some r := by first | (rw [hy182]; with_reducible exact H) | (have H2_ := (Option.bind_some _ _).symm.trans H; rw [hy182]; with_reducible exact H2_) | (have H2_ := (Option.bind_some _ _).symm.trans H; with_reducible exact H2_) | with_reducible exact H | (rw [hy182]; exact H) | exact H
                  have Ny182 := Aside0.mk hy182
                  clear hy182
                  have H' := Aside0.mk H
                  clear H
                  have p171 : 0 ≤ (x10_1 : Int) := of_decide_eq_true (by first | (with_reducible assumption) | assumption)
                  have q171 : x10_1 < (l1.length : Int) := of_decide_eq_true (by first | (with_reducible assumption) | assumption)
                  obtain ⟨ad171, e171, hx171_0⟩ := Kd.at_int HR1.out x10_1 p171 q171
                  cases e171
                  replace hx171_0 := (HB.out.cell (World.block_lt_of_cell? w _ hx171_0)).trans hx171_0
                  replace p171 := eq_true p171
                  replace q171 := eq_true q171
                  go_wp2_with (first | (go_at_call 31; (with_reducible refine (chars_Class.calls k1 (rd l1 x10_1) t175 _ A9.out).mono ?_); rintro e w' ⟨rfl, ⟨nd, rfl⟩⟩) | ((with_reducible refine gate_callee (f := 32) rfl ?_); refine goesL_ (some 28) rfl rfl Try.func32 (by kernel_rfl) rfl #[.int .i32 (rd l1 x10_1), .bool a0] rfl (by (try simp only [List.map_toArray, List.map_cons, List.map_nil]); first | done | rfl | (simp only [List.length_drop, List.length_take]; rfl)) ?_; (with_reducible refine (decomp_One.Says.use (hOne k1 (by have := HK1.out; omega)) (rd l1 x10_1) a0 t179 _ A13.out).mono ?_); rintro e w15 ⟨v180, rfl, ho0, hb⟩; refine ⟨_, rfl, ?_⟩; have n0_ := Aside0.mk (Kd.R_below (by (with_reducible repeat (first | apply Kd.R_alloc | apply Kd.R_drewN | apply Kd.R_drew)); exact HO_5.out) hb); have n1_ := Aside0.mk (Kd.V_lower (Kd.V_mono (ok' := fun k_ => some k_ ≠ (u5 : Value).ownBlock) ho0 (fun k_ hk_ => (Kd.fresh' (Kd.R_lt (by (with_reducible repeat (first | apply Kd.R_alloc | apply Kd.R_drewN | apply Kd.R_drew)); exact HO_5.out)) k_ hk_))) (below_size (by repeat (first | (with_reducible first | exact HB.out | apply below_alloc | apply pw_below_drewN | apply below_drew1) | exact HB.out)))); have n2_ := Aside0.mk (below_step (by repeat (first | (with_reducible first | exact HB.out | apply below_alloc | apply pw_below_drewN | apply below_drew1) | exact HB.out)) hb); clear HO_5; clear HB; have HO_5 := n0_; have HO181 := n1_; have HB := n2_; clear n0_ n1_ n2_; (try clear hb); (try clear hb2); (try clear hk); (try clear hi); (try clear ho0); obtain ⟨Ao17, co17, eo17⟩ := Kd.V_slice HO181.out; subst eo17) | ((with_reducible refine gate_builtin (b := .append) (xs := #[.tmp 25, .tmp 28]) rfl ?_); at_builtin; refine Kd.R_append_rows (Kd.int .i32) (w0 := w) w.heap.size rfl (.tmp 25) (.tmp 28) 22 21 (.int .i32 0) 4 rfl Try.underlying22 info21 rfl (by decide) (by omega) u5 x5_1 t179 _ _ _ (fun _ => True) (fun _ => False) rfl rfl ?aO ?aR (fun _ _ h => h) (fun _ h => h.elim) ?aF ?aB ?aS ?aL ?_; (case aR => repeat (first | exact (Kd.V_reads' HO181.out).2.2 | (with_reducible refine Kd.C_alloc ?_ _) | (with_reducible refine Kd.C_drewN ?_ _) | (with_reducible refine Kd.C_drew ?_))); (case aB => exact (by repeat (first | (with_reducible first | exact HB.out | apply below_alloc | apply pw_below_drewN | apply below_drew1) | exact HB.out))); (case aF => exact (fun _ _ => trivial)); (case aO => exact (by (with_reducible repeat (first | apply Kd.R_alloc | apply Kd.R_drewN | apply Kd.R_drew)); exact HO_5.out)); (case aS => exact (below_size (by repeat (first | (with_reducible first | exact HB.out | apply below_alloc | apply pw_below_drewN | apply below_drew1) | exact HB.out)))); (case aL => have := LMc14.out; omega); intro v183 w16 ho hb hg hat; rw [← Ny182.out] at ho; have n0_ := Aside0.mk (Kd.V_afterv (ok := (fun _ => True)) (by (with_reducible repeat (first | apply Kd.V_alloc | apply Kd.V_drewN | apply Kd.V_drew)); exact Kd.V_mono HO181.out (fun _ hk => ⟨trivial, hk⟩)) hg hat); have n1_ := Aside0.mk (hb); have n2_ := Aside0.mk (ho); clear HO181; clear HB; clear HO_5; have HO181 := n0_; have HB := n1_; have HO184 := n2_; clear n0_ n1_ n2_; clear ho hb hg hat))
                  go_roundg k1
                  case measure => have := HK1.out; omega
                  case rel => exact ⟨(y182), (wrap64 (x10_1 + 1)), (by first | rfl | (simp; done) | (simp [*]; done)), H', ⟨by have := HK1.out; omega⟩, ⟨by (with_reducible repeat (first | apply Kd.R_alloc | apply Kd.R_drewN | apply Kd.R_drew)); exact HO184.out⟩, ⟨by repeat (first | (with_reducible first | exact HB.out | apply below_alloc | apply pw_below_drewN | apply below_drew1) | exact HB.out)⟩⟩
                · rw [if_neg c14] at H
                  exact absurd H (by simp)
          · rw [if_neg c5] at H
            exact absurd H (by simp)
        · rw [if_neg c4] at H
          exact absurd H (by simp)
      · rw [if_neg c3] at H
        have c3b0 : decide (x10_1 < (l1.length : Int)) = false := decide_eq_false c3
        clear c3
        obtain rfl := Option.some.inj H
        go_wp2
        go_ret
        exact ⟨_, by first | rfl | (simp [errW_none, errW_some] <;> rfl) | (simp [*, errW_none, errW_some] <;> rfl), by (with_reducible repeat (first | apply Kd.R_alloc | apply Kd.R_drewN | apply Kd.R_drew)); exact HO_5.out, by repeat (first | (with_reducible first | exact HB.out | apply below_alloc | apply pw_below_drewN | apply below_drew1) | exact HB.out)⟩

set_option maxHeartbeats 8000000 in
set_option maxRecDepth 100000 in
theorem decomp_One.own (k : Nat) : decomp_One.Own k := by
  induction k using Nat.strongRecOn with
  | _ k ih =>
  intro a0 a1 r w hs H
  cases k with
  | zero => exact absurd H (by simp [decomp_One.f])
  | succ k =>
  have hOwn := ih k (Nat.lt_succ_self k)
  have hAll := fun (A1 : Option Addr) (c1 : Nat) (l1 : List Int) (r : List Int) (w : World) => decomp_All.calls_of k (fun k1 h1 => decomp_One.says_of k1 (ih k1 (by omega))) true A1 c1 l1 r w
  clear ih
  have HOwn := Aside0.mk hOwn
  have HAll := Aside0.mk hAll
  clear hOwn hAll
  simp only [decomp_One.f] at H
  have A : hangul_Syllable.f a0 = some false := by
    unfold hangul_Syllable.f
    by_cases h1 : a0 ≥ 44032
    · rw [if_pos h1]
      have : ¬ a0 ≤ 55203 := fun h2 => hs ⟨h1, h2⟩
      simp [this]
    · rw [if_neg h1]
  rw [A] at H
  simp only [Option.bind_some, Bool.false_eq_true, if_false] at H
  have A' := Aside0.mk A
  clear A hs
  replace H := Option.bind_eq_some_iff.mp H
  obtain ⟨⟨p1, p2, p3⟩, B1, H⟩ := H
  have B1' := Aside0.mk B1
  clear B1
  simp only at H
  cases p3 with
  | true =>
    simp only [if_true] at H
    by_cases hp : 44032 ≤ p1 ∧ p1 ≤ 55203
    · rw [if_pos hp] at H; cases H
    rw [if_neg hp] at H
    replace H := Option.bind_eq_some_iff.mp H
    obtain ⟨x, B2, H⟩ := H
    by_cases hx : x.length < 35184372088832
    · rw [if_pos hx] at H
      obtain rfl := Option.some.inj H
      clear H
      have B2' := Aside0.mk (HOwn.out p1 a1 x · hp B2)
      have LM := Aside0.mk hx
      clear hx B2 hp
      go_enter Try.func32, Try.ntmps32
      go_wp2_with fail
      (with_reducible refine (hangul_Syllable.calls a0 _ _ A'.out).mono ?_)
      rintro e w1 ⟨rfl, hd⟩
      have HD := Aside0.mk hd
      clear hd
      go_wp2_with fail
      (with_reducible refine (decomp_Pair.calls k a0 p1 p2 true _ B1'.out).mono ?_)
      rintro e w2 ⟨rfl, hb⟩
      have HB := Aside0.mk (below_then HD.out.below HD.out.below.size hb)
      clear hb
      go_wp2_with fail
      (with_reducible refine (B2'.out _).mono ?_)
      rintro e w3 ⟨v, rfl, ho, hb⟩
      have HO := Aside0.mk (Kd.R_lower ho HB.out.size)
      have HB3 := Aside0.mk (below_then HB.out HB.out.size hb)
      clear ho hb
      obtain ⟨Ao, co, eo⟩ := Kd.R_slice HO.out
      subst eo
      go_wp2_with ((with_reducible refine gate_builtin (b := .append) (xs := #[.tmp 24, .tmp 26]) rfl ?_); at_builtin; refine Kd.R_append (Kd.int .i32) (w0 := w) w.heap.size rfl (.tmp 24) (.tmp 26) 22 21 (.int .i32 0) 4 rfl Try.underlying22 (by kernel_rfl) rfl (by decide) (by omega) (.slice Ao x.length co) x p2 [.int .i32 p2] (fun _ => True) (fun _ => False) rfl rfl ?aP (fun _ hk => hk.elim) ?aF ?aO ?aB ?aS ?aL ?_; (case aP => exact rfl); (case aB => exact HB3.out); (case aF => exact (fun _ _ => trivial)); (case aO => exact HO.out); (case aS => exact HB3.out.size); (case aL => have := LM.out; omega); intro v14 w14 ho hb hg hat; have HO3 := Aside0.mk ho; have HB4 := Aside0.mk hb; clear ho hb hg hat)
      go_ret
      exact ⟨_, rfl, HO3.out, HB4.out⟩
    · rw [if_neg hx] at H; cases H
  | false =>
    simp only [Bool.false_eq_true, if_false] at H
    replace H := Option.bind_eq_some_iff.mp H
    obtain ⟨⟨q1, q2⟩, B2, H⟩ := H
    have B2' := Aside0.mk B2
    clear B2
    simp only at H
    cases q2 with
    | true =>
      simp only [if_true] at H
      by_cases hq : 44032 ≤ q1 ∧ q1 ≤ 55203
      · rw [if_pos hq] at H; cases H
      rw [if_neg hq] at H
      have B3' := Aside0.mk (HOwn.out q1 a1 r · hq H)
      clear H hq
      go_enter Try.func32, Try.ntmps32
      go_wp2_with fail
      (with_reducible refine (hangul_Syllable.calls a0 _ _ A'.out).mono ?_)
      rintro e w1 ⟨rfl, hd⟩
      have HD := Aside0.mk hd
      clear hd
      go_wp2_with fail
      (with_reducible refine (decomp_Pair.calls k a0 p1 p2 false _ B1'.out).mono ?_)
      rintro e w2 ⟨rfl, hb⟩
      have HB := Aside0.mk (below_then HD.out.below HD.out.below.size hb)
      clear hb
      go_wp2_with fail
      (with_reducible refine (decomp_Single.calls k a0 q1 true _ B2'.out).mono ?_)
      rintro e w3 ⟨rfl, hd3⟩
      have HB2 := Aside0.mk (below_then HB.out HB.out.size hd3.below)
      clear hd3
      go_wp2_with fail
      (with_reducible refine (B3'.out _).mono ?_)
      rintro e w4 ⟨v, rfl, ho, hb⟩
      have HO := Aside0.mk (Kd.R_lower ho HB2.out.size)
      have HB3 := Aside0.mk (below_then HB2.out HB2.out.size hb)
      clear ho hb
      go_wp2
      go_ret
      exact ⟨_, rfl, HO.out, HB3.out⟩
    | false =>
      simp only [Bool.false_eq_true, if_false] at H
      replace H := Option.bind_eq_some_iff.mp H
      obtain ⟨l, B3, H⟩ := H
      have B3' := Aside0.mk B3
      clear B3
      have hstart : ∀ (R : Ending → World → Prop), True := fun _ => trivial
      clear hstart
      have hlone : r = [a0] → (a1 = false ∨ ¬ (l.length : Int) > 0) → Calls Try.prog 32 #[.int .i32 a0, .bool a1] w fun e w' => ∃ v0_ : Value, e = .returned (v0_) ∧ Kd.R (Kd.int .i32) 21 w' w.heap.size (fun _ => True) (v0_) (r) ∧ Below w.heap.size w w' := by
        rintro rfl hcase
        clear H
        have hg : decide ((0 : Int) < (l.length : Int)) = false ∨ a1 = false := by
          rcases hcase with h | h
          · exact .inr h
          · exact .inl (decide_eq_false h)
        clear hcase
        cases a1 with
        | false =>
          clear hg
          go_enter Try.func32, Try.ntmps32
          go_wp2_with fail
          (with_reducible refine (hangul_Syllable.calls a0 _ _ A'.out).mono ?_)
          rintro e w1 ⟨rfl, hd⟩
          have HD := Aside0.mk hd
          clear hd
          go_wp2_with fail
          (with_reducible refine (decomp_Pair.calls k a0 p1 p2 false _ B1'.out).mono ?_)
          rintro e w2 ⟨rfl, hb⟩
          have HB := Aside0.mk (below_then HD.out.below HD.out.below.size hb)
          clear hb
          go_wp2_with fail
          (with_reducible refine (decomp_Single.calls k a0 q1 false _ B2'.out).mono ?_)
          rintro e w3 ⟨rfl, hd3⟩
          have HB2 := Aside0.mk (below_then HB.out HB.out.size hd3.below)
          clear hd3
          go_wp2_with fail
          (with_reducible refine (decomp_Loose.calls k a0 l _ B3'.out).mono ?_)
          rintro e w4 ⟨v, rfl, ho, hb⟩
          have HB3 := Aside0.mk (below_then HB2.out HB2.out.size hb)
          clear ho hb HB HB2 HD
          go_wp2_with ((with_reducible refine gate_dst (N := 49) rfl ?_); refine Kd.R_lit (Kd.int .i32) w.heap.size 21 ?hg (N := 49) ?hd (xs := ([a0] : List Int)) (inner := [.int .i32 a0]) (w0 := w) (ok := fun _ => True) (okp := fun _ => True) ?hr ?hp (fun _ hk => hk) trivial HB3.out HB3.out.size (by simp) ?_; (case hd => rfl); (case hg => rfl); (case hr => first | (go_simp; done) | (go_simp; rfl)); (case hp => exact ⟨rfl, fun j p hj => by cases j with | zero => (have : p = a0 := by simpa using hj.symm); subst this; rfl | succ j => simp at hj⟩); intro v24 w24 ho hb hg hnew; have HO3 := Aside0.mk ho; have HB4 := Aside0.mk hb; clear ho hb hg hnew)
          go_ret
          exact ⟨_, rfl, HO3.out, HB4.out⟩
        | true =>
          have hg1 : decide ((0 : Int) < (l.length : Int)) = false := by
            rcases hg with h | h
            · exact h
            · cases h
          have hg2 : decide (0 < l.length) = false := by
            have := of_decide_eq_false hg1
            exact decide_eq_false (by omega)
          clear hg
          go_enter Try.func32, Try.ntmps32
          go_wp2_with fail
          (with_reducible refine (hangul_Syllable.calls a0 _ _ A'.out).mono ?_)
          rintro e w1 ⟨rfl, hd⟩
          have HD := Aside0.mk hd
          clear hd
          go_wp2_with fail
          (with_reducible refine (decomp_Pair.calls k a0 p1 p2 false _ B1'.out).mono ?_)
          rintro e w2 ⟨rfl, hb⟩
          have HB := Aside0.mk (below_then HD.out.below HD.out.below.size hb)
          clear hb
          go_wp2_with fail
          (with_reducible refine (decomp_Single.calls k a0 q1 false _ B2'.out).mono ?_)
          rintro e w3 ⟨rfl, hd3⟩
          have HB2 := Aside0.mk (below_then HB.out HB.out.size hd3.below)
          clear hd3
          go_wp2_with fail
          (with_reducible refine (decomp_Loose.calls k a0 l _ B3'.out).mono ?_)
          rintro e w4 ⟨v, rfl, ho, hb⟩
          have HB3 := Aside0.mk (below_then HB2.out HB2.out.size hb)
          obtain ⟨Ao, co, eo⟩ := Kd.R_slice ho
          subst eo
          clear ho hb HB HB2 HD
          go_wp2_with ((with_reducible refine gate_dst (N := 49) rfl ?_); refine Kd.R_lit (Kd.int .i32) w.heap.size 21 ?hg (N := 49) ?hd (xs := ([a0] : List Int)) (inner := [.int .i32 a0]) (w0 := w) (ok := fun _ => True) (okp := fun _ => True) ?hr ?hp (fun _ hk => hk) trivial HB3.out HB3.out.size (by simp) ?_; (case hd => rfl); (case hg => rfl); (case hr => first | (go_simp; done) | (go_simp; rfl)); (case hp => exact ⟨rfl, fun j p hj => by cases j with | zero => (have : p = a0 := by simpa using hj.symm); subst this; rfl | succ j => simp at hj⟩); intro v24 w24 ho hb hg hnew; have HO3 := Aside0.mk ho; have HB4 := Aside0.mk hb; clear ho hb hg hnew)
          go_ret
          exact ⟨_, rfl, HO3.out, HB4.out⟩
      cases a1 with
      | false =>
        simp only [Bool.false_eq_true, if_false] at H
        exact hlone (Option.some.inj H).symm (.inl rfl)
      | true =>
        simp only [if_true] at H
        by_cases hl : (l.length : Int) > 0
        · clear hlone
          rw [if_pos hl] at H
          have hg1 : decide ((0 : Int) < (l.length : Int)) = true := decide_eq_true hl
          have hg2 : decide (0 < l.length) = true := decide_eq_true (by omega)
          have H' := Aside0.mk (show decomp_All.f k true l = some r from H)
          clear hl H
          go_enter Try.func32, Try.ntmps32
          go_wp2_with fail
          (with_reducible refine (hangul_Syllable.calls a0 _ _ A'.out).mono ?_)
          rintro e w1 ⟨rfl, hd⟩
          have HD := Aside0.mk hd
          clear hd
          go_wp2_with fail
          (with_reducible refine (decomp_Pair.calls k a0 p1 p2 false _ B1'.out).mono ?_)
          rintro e w2 ⟨rfl, hb⟩
          have HB := Aside0.mk (below_then HD.out.below HD.out.below.size hb)
          clear hb
          go_wp2_with fail
          (with_reducible refine (decomp_Single.calls k a0 q1 false _ B2'.out).mono ?_)
          rintro e w3 ⟨rfl, hd3⟩
          have HB2 := Aside0.mk (below_then HB.out HB.out.size hd3.below)
          clear hd3
          go_wp2_with fail
          (with_reducible refine (decomp_Loose.calls k a0 l _ B3'.out).mono ?_)
          rintro e w4 ⟨v, rfl, ho, hb⟩
          have HB3 := Aside0.mk (below_then HB2.out HB2.out.size hb)
          obtain ⟨Ao, co, eo⟩ := Kd.R_slice ho
          subst eo
          have HL := Aside0.mk (Kd.R_reads' ho)
          clear ho hb HB HB2 HD
          go_wp2_with fail
          (with_reducible refine (HAll.out _ _ l r _ HL.out.2.2 HL.out.2.1 H'.out).mono ?_)
          rintro e w5 ⟨v, rfl, ho, hb⟩
          have HO := Aside0.mk (Kd.R_lower ho HB3.out.size)
          have HB5 := Aside0.mk (below_then HB3.out HB3.out.size hb)
          clear ho hb
          go_wp2
          go_ret
          exact ⟨_, rfl, HO.out, HB5.out⟩
        · rw [if_neg hl] at H
          exact hlone (Option.some.inj H).symm (.inr hl)
theorem decomp_One.calls (k : Nat) (a0 : Int) (a1 : Bool) (r : List Int) (w : World) (h : decomp_One.f k a0 a1 = some r) :
    Calls Try.prog 32 #[.int .i32 a0, .bool a1] w fun e w' => ∃ v0_ : Value, e = .returned (v0_) ∧ Kd.V (Kd.int .i32) 21 w' w.heap.size (fun k_ => (w.heap.size ≤ k_)) (v0_) (r) ∧ Below w.heap.size w w' := decomp_One.says_of k (decomp_One.own k) a0 a1 r w h
theorem decomp_All.calls (k : Nat) (a0 : Bool) (A1 : Option Addr) (c1 : Nat) (l1 : List Int) (r : List Int) (w : World) (hr1 : Kd.C (Kd.int .i32) w A1 l1.length l1) (hc1 : l1.length ≤ c1) (h : decomp_All.f k a0 l1 = some r) :
    Calls Try.prog 17 #[.bool a0, .slice A1 l1.length c1] w fun e w' => ∃ v0_ : Value, e = .returned (v0_) ∧ Kd.R (Kd.int .i32) 21 w' w.heap.size (fun _ => True) v0_ r ∧ Below w.heap.size w w' :=
  decomp_All.calls_of k (fun k1 _ => decomp_One.says_of k1 (decomp_One.own k1)) a0 A1 c1 l1 r w hr1 hc1 h

/-! ### slices_Clone_rune_rune: function 23, by hand (slices.Clone.rune.tpl) -/
theorem info21c : (Try.prog.info? 21).map (fun i => (i.zero, i.size, i.bytes)) = some (some (.int .i32 0), 1, 4) := by kernel_rfl
def slices_Clone_rune_rune.f (l0 : List Int) : Option (List Int) := if l0.length < 35184372088832 then some l0 else none
set_option maxHeartbeats 8000000 in
set_option maxRecDepth 100000 in
theorem slices_Clone_rune_rune.calls (A0 : Option Addr) (c0 : Nat) (l0 : List Int) (r : List Int) (w : World) (hr0 : Kd.C (Kd.int .i32) w A0 l0.length l0) (hc0 : l0.length ≤ c0) (h : slices_Clone_rune_rune.f l0 = some r) :
    Calls Try.prog 23 #[.slice A0 l0.length c0] w fun e w' => ∃ v0_ : Value, e = .returned (v0_) ∧ Kd.R (Kd.int .i32) 21 w' w.heap.size (fun _ => True) (v0_) (r) ∧ Below w.heap.size w w' := by
  have H := h
  clear h
  unfold slices_Clone_rune_rune.f at H
  by_cases c1 : l0.length < 35184372088832
  · rw [if_pos c1] at H
    obtain rfl := Option.some.inj H
    clear H
    have LM := Aside0.mk c1
    clear c1
    have hnl := fun (w : World) => Lib.run_eql_slice_nil (P := Try.prog) w 22 21 A0 l0.length c0 0 0 Try.underlying22
    cases A0 with
    | none =>
      have hl : l0 = [] := by
        by_cases h0 : 0 < l0.length
        · obtain ⟨ad, e, _⟩ := hr0.2.2 h0
          cases e
        · exact List.length_eq_zero_iff.1 (by omega)
      subst hl
      clear hr0 LM
      simp only [Option.isNone_none, List.length_nil] at hnl ⊢
      go_enter Try.func23, Try.ntmps23
      go_wp2
      go_ret
      exact ⟨_, rfl, Kd.R_nil _ _ _ _ _, Below.refl _ _⟩
    | some ad =>
      simp only [Option.isNone_some] at hnl
      have HR := Aside0.mk hr0
      have HC := Aside0.mk hc0
      have HB := Aside0.mk (Below.refl w.heap.size w)
      clear hr0 hc0
      go_enter Try.func23, Try.ntmps23
      go_wp2_with (first | ((with_reducible refine gate_dst (N := 5) rfl ?_); refine Kd.R_lit (Kd.int .i32) _ 21 ?hg (N := 5) ?hd (xs := ([] : List Int)) (inner := []) (ok := fun _ => True) (okp := fun _ => True) ?hr ?hp (fun _ hk => hk) trivial (Below.refl _ _) (Nat.le_refl _) (by simp) ?_; (case hd => rfl); (case hg => rfl); (case hr => first | (go_simp; done) | (go_simp; rfl)); (case hp => exact (Reps.none _ _)); intro v5 w5 ho5 hb hg_ hnew_; clear hg_ hnew_ HB; have HO := Aside0.mk ho5; have HB := Aside0.mk hb; clear ho5 hb) | ((with_reducible refine gate_builtin (b := .append) (xs := #[.tmp 5, .tmp 6]) rfl ?_); at_builtin; refine Kd.R_append_rows (Kd.int .i32) (w0 := w) w.heap.size rfl (.tmp 5) (.tmp 6) 22 21 (.int .i32 0) 4 rfl Try.underlying22 info21c rfl (by decide) (by omega) v5 [] l0 _ _ _ (fun _ => True) (fun _ => False) rfl rfl ?aO ?aR (fun _ _ h => h) (fun _ h => h.elim) ?aF ?aB ?aS ?aL ?_; (case aR => exact Kd.C_below HR.out HB.out); (case aB => exact HB.out); (case aF => exact (fun _ _ => trivial)); (case aO => exact HO.out); (case aS => exact HB.out.size); (case aL => have := LM.out; simp only [List.length_nil]; omega); intro v7 w7 ho hb hg hat; simp only [List.nil_append] at ho; have HO7 := Aside0.mk ho; have HB7 := Aside0.mk hb; clear ho hb hg hat))
      go_ret
      exact ⟨_, rfl, HO7.out, HB7.out⟩
  · rw [if_neg c1] at H
    exact absurd H (by simp)

/-! ### arrange_wrong: function 33 -/
def arrange_wrong.f (k : Nat) (a0 : Int) (a1 : Int) : Option (Bool) := (chars_Class.f k a1).bind fun t185 => (if t185 > 0 then ((chars_Class.f k a0).bind fun t186 => (some (decide (t186 > t185)))) else (some false))
theorem arrange_wrong.mono : ∀ a0 a1 k, LeO (arrange_wrong.f k a0 a1) (arrange_wrong.f (k + 1) a0 a1) := by
  intro a0 a1 k
  unfold arrange_wrong.f
  repeat' first
      | (with_reducible exact chars_Class.mono _ _)
      | (with_reducible exact LeO.refl _)
      | (with_reducible exact LeO.none _)
      | (with_reducible refine LeO.ite ?_ ?_)
      | (with_reducible refine LeO.bind ?_ (fun _ => ?_))
      | exact chars_Class.mono _ _
      | exact LeO.none _
      | refine LeO.ite ?_ ?_
      | refine LeO.bind ?_ (fun _ => ?_)
set_option maxHeartbeats 8000000 in
set_option maxRecDepth 100000 in
theorem arrange_wrong.calls (k : Nat) (a0 : Int) (a1 : Int) (r : Bool) (w : World) (h : arrange_wrong.f k a0 a1 = some r) :
    Calls Try.prog 33 #[.int .i32 a0, .int .i32 a1] w fun e w' => e = .returned (.bool r) ∧ Drawn0 w w' := by
  have H : ((chars_Class.f k a1).bind fun t185 => (if t185 > 0 then ((chars_Class.f k a0).bind fun t186 => (some (decide (t186 > t185)))) else (some false))) = some r := h
  clear h
  replace H := Option.bind_eq_some_iff.mp H
  obtain ⟨t185, A30, H⟩ := H
  replace H : (if t185 > 0 then ((chars_Class.f k a0).bind fun t186 => (some (decide (t186 > t185)))) else (some false)) = some r := H
  have A3 := Aside0.mk A30
  clear A30
  by_cases c4 : t185 > 0
  · rw [if_pos c4] at H
    have c4b0 : decide (0 < t185) = true := decide_eq_true c4
    clear c4
    replace H := Option.bind_eq_some_iff.mp H
    obtain ⟨t186, A50, H⟩ := H
    replace H : (some (decide (t186 > t185))) = some r := H
    have A5 := Aside0.mk A50
    clear A50
    obtain rfl := Option.some.inj H
    go_enter Try.func33, Try.ntmps33
    go_wp2_with (first | ((with_reducible refine gate_callee (f := 31) rfl ?_); refine goesL_ (some 7) rfl rfl Try.func31 (by kernel_rfl) rfl #[.int .i32 a1] rfl (by (try simp only [List.map_toArray, List.map_cons, List.map_nil]); first | done | rfl | (simp only [List.length_drop, List.length_take]; rfl)) ?_; (with_reducible refine (chars_Class.calls k a1 t185 _ A3.out).mono ?_); rintro e w' ⟨rfl, ⟨nd, rfl⟩⟩; (try clear A3); refine ⟨_, rfl, ?_⟩) | (go_at_call 31; (with_reducible refine (chars_Class.calls k a0 t186 _ A5.out).mono ?_); rintro e w' ⟨rfl, ⟨nd, rfl⟩⟩; (try clear A5)))
    go_ret
    exact ⟨by first | rfl | (simp; done) | (simp [*]; done), by repeat (first | exact Drawn0.refl _ | apply Drawn0.step)⟩
  · rw [if_neg c4] at H
    have c4b0 : decide (0 < t185) = false := decide_eq_false c4
    clear c4
    obtain rfl := Option.some.inj H
    go_enter Try.func33, Try.ntmps33
    go_wp2_with (first | ((with_reducible refine gate_callee (f := 31) rfl ?_); refine goesL_ (some 7) rfl rfl Try.func31 (by kernel_rfl) rfl #[.int .i32 a1] rfl (by (try simp only [List.map_toArray, List.map_cons, List.map_nil]); first | done | rfl | (simp only [List.length_drop, List.length_take]; rfl)) ?_; (with_reducible refine (chars_Class.calls k a1 t185 _ A3.out).mono ?_); rintro e w' ⟨rfl, ⟨nd, rfl⟩⟩; (try clear A3); refine ⟨_, rfl, ?_⟩))
    go_ret
    exact ⟨by first | rfl | (simp; done) | (simp [*]; done), by repeat (first | exact Drawn0.refl _ | apply Drawn0.step)⟩

end Go.Proofs.Ytpihglokjcbjkaa.P
