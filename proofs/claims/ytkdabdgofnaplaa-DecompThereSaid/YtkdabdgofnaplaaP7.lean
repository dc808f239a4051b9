-- Printed by wip/mk.py (this session's driver over the kit's print) and from wip/manual.
import Derived.Test.YtkdabdgofnaplaaP0
import Derived.Test.YtkdabdgofnaplaaP1
import Derived.Test.YtkdabdgofnaplaaP3
import Derived.Test.YtkdabdgofnaplaaP6
namespace Go.Proofs.Ytkdabdgofnaplaa.P
open Go.RowKit Go.Proofs.YtkdabdgofnaplaaW.PrintWords Go.Proofs.YtkdabdgofnaplaaW.PrintLast Go.Proofs.YtkdabdgofnaplaaW.PrintMore
attribute [local go_sem] max2_int min2_int max_two min_two max_three min_three max_four min_four   -- for this text's walks alone
set_option linter.unusedVariables false
set_option linter.unusedSimpArgs false

/-! ### hangul_Apart: function 31, by hand (hangul.Apart.tpl) -/
def hangul_Apart.f (a0 : Int) : Option (List Int) := if a0 ≥ 44032 ∧ a0 ≤ 55203 then (if (a0 - 44032) % 28 = 0 then some [4352 + (a0 - 44032) / 28 / 21, 4449 + (a0 - 44032) / 28 % 21] else some [4352 + (a0 - 44032) / 28 / 21, 4449 + (a0 - 44032) / 28 % 21, 4519 + (a0 - 44032) % 28]) else some [a0]
set_option maxHeartbeats 8000000 in
set_option maxRecDepth 100000 in
theorem hangul_Apart.calls (a0 : Int) (r : List Int) (w : World) (h : hangul_Apart.f a0 = some r) :
    Calls Try.prog 31 #[.int .i32 a0] w fun e w' => ∃ v0_ : Value, e = .returned (v0_) ∧ Kd.V (Kd.int .i32) 21 w' w.heap.size (fun k_ => (w.heap.size ≤ k_)) (v0_) (r) ∧ Below w.heap.size w w' := by
  have H := h
  clear h
  unfold hangul_Apart.f at H
  by_cases c : a0 ≥ 44032 ∧ a0 ≤ 55203
  · rw [if_pos c] at H
    have A : hangul_Syllable.f a0 = some true := by
      unfold hangul_Syllable.f
      rw [if_pos c.1]
      simp [c.2]
    have A' := Aside0.mk A
    clear A
    obtain ⟨hb0, hb1⟩ := c
    have hb0 : 44032 ≤ a0 := hb0
    by_cases c2 : (a0 - 44032) % 28 = 0
    · rw [if_pos c2] at H
      obtain rfl := Option.some.inj H
      have h2 : ((a0 - 44032) % 28 == 0) = true := by simp [c2]
      clear c2 H
      go_enter Try.func31, Try.ntmps31
      go_wp2_with fail
      (with_reducible refine (hangul_Syllable.calls a0 _ _ A'.out).mono ?_)
      rintro e w1 ⟨rfl, hd⟩
      have HD := Aside0.mk hd
      clear hd
      go_wp2
      go_ret
      exact ⟨_, rfl, new_V [4352 + (a0 - 44032) / 28 / 21, 4449 + (a0 - 44032) / 28 % 21, 4519 + (a0 - 44032) % 28] [4352 + (a0 - 44032) / 28 / 21, 4449 + (a0 - 44032) / 28 % 21] 3 21 HD.out.below rfl (Nat.le_of_ble_eq_true rfl) (Nat.le_of_ble_eq_true rfl), below_alloc HD.out.below _⟩
    · rw [if_neg c2] at H
      obtain rfl := Option.some.inj H
      have h2 : ((a0 - 44032) % 28 == 0) = false := by simpa using c2
      clear c2 H
      go_enter Try.func31, Try.ntmps31
      go_wp2_with fail
      (with_reducible refine (hangul_Syllable.calls a0 _ _ A'.out).mono ?_)
      rintro e w1 ⟨rfl, hd⟩
      have HD := Aside0.mk hd
      clear hd
      go_wp2
      go_ret
      exact ⟨_, rfl, new_V [4352 + (a0 - 44032) / 28 / 21, 4449 + (a0 - 44032) / 28 % 21, 4519 + (a0 - 44032) % 28] [4352 + (a0 - 44032) / 28 / 21, 4449 + (a0 - 44032) / 28 % 21, 4519 + (a0 - 44032) % 28] 3 21 HD.out.below rfl (Nat.le_of_ble_eq_true rfl) (Nat.le_of_ble_eq_true rfl), below_alloc HD.out.below _⟩
  · rw [if_neg c] at H
    have A : hangul_Syllable.f a0 = some false := by
      unfold hangul_Syllable.f
      by_cases h1 : a0 ≥ 44032
      · rw [if_pos h1]
        have : ¬ a0 ≤ 55203 := fun h2 => c ⟨h1, h2⟩
        simp [this]
      · rw [if_neg h1]
    have A' := Aside0.mk A
    clear A c
    obtain rfl := Option.some.inj H
    go_enter Try.func31, Try.ntmps31
    go_wp2_with fail
    (with_reducible refine (hangul_Syllable.calls a0 _ _ A'.out).mono ?_)
    rintro e w1 ⟨rfl, hd⟩
    have HD := Aside0.mk hd
    clear hd
    go_wp2
    go_ret
    exact ⟨_, rfl, new_V [a0] [a0] 1 21 HD.out.below rfl (Nat.le_of_ble_eq_true rfl) (Nat.le_of_ble_eq_true rfl), below_alloc HD.out.below _⟩

/-! ### decomp_One: function 15, by hand (decomp.One.tpl), and decomp_All: function 19 -/
mutual
def decomp_One.f : Nat → Int → Bool → Option (List Int)
  | 0, _, _ => none
  | k + 1, r, b => (hangul_Syllable.f r).bind fun s => if s = true then hangul_Apart.f r else ((decomp_Pair.f k r).bind fun p => if p.2.2 = true then (if 44032 ≤ p.1 ∧ p.1 ≤ 55203 then none else ((decomp_One.f k p.1 b).bind fun x => if x.length < 35184372088832 then some (x ++ [p.2.1]) else none)) else ((decomp_Single.f k r).bind fun q => if q.2 = true then (if 44032 ≤ q.1 ∧ q.1 ≤ 55203 then none else decomp_One.f k q.1 b) else ((decomp_Loose.f k r).bind fun l => if b = true then (if (l.length : Int) > 0 then decomp_All.l0 k b [] l (l.length : Int) 0 else some [r]) else some [r])))
def decomp_All.l0 : Nat → Bool → List Int → List Int → Int → Int → Option (List Int)
  | 0, _, _, _, _, _ => none
  | k + 1, x0, x5, x8, x9, x10 => if x10 < x9 then (if 0 ≤ x10 then (if x10 < (x8.length : Int) then (if (rd x8 x10) < 128 then (if x5.length < 35184372088832 then (decomp_All.l0 k x0 (x5 ++ [rd x8 x10]) x8 x9 (wrap64 (x10 + 1))) else (none)) else ((chars_Class.f k (rd x8 x10)).bind fun t558 => (if t558 > 0 then (if x5.length < 35184372088832 then (decomp_All.l0 k x0 (x5 ++ [rd x8 x10]) x8 x9 (wrap64 (x10 + 1))) else (none)) else ((decomp_One.f k (rd x8 x10) x0).bind fun t562 => (if x5.length + t562.length < 35184372088832 then (decomp_All.l0 k x0 (x5 ++ t562) x8 x9 (wrap64 (x10 + 1))) else (none)))))) else (none)) else (none)) else (some x5)
end
def decomp_All.f (k : Nat) (a0 : Bool) (l1 : List Int) : Option (List Int) := decomp_All.l0 k a0 ([] : List Int) l1 (l1.length : Int) 0
theorem decomp_One.mono_l : ∀ k, (∀ y0 y1, LeO (decomp_One.f k y0 y1) (decomp_One.f (k + 1) y0 y1)) ∧ (∀ y0 y1 y2 y3 y4, LeO (decomp_All.l0 k y0 y1 y2 y3 y4) (decomp_All.l0 (k + 1) y0 y1 y2 y3 y4))
  | 0 => ⟨fun _ _ r h => by simp [decomp_One.f] at h, fun _ _ _ _ _ r h => by simp [decomp_All.l0] at h⟩
  | k + 1 => by
    obtain ⟨ih0, ih1⟩ := decomp_One.mono_l k
    refine ⟨?_, ?_⟩
    · intro y0 y1
      unfold decomp_One.f
      repeat' first
        | (with_reducible exact ih0 _ _)
        | (with_reducible exact ih1 _ _ _ _ _)
        | (with_reducible exact decomp_Pair.mono _ _)
        | (with_reducible exact decomp_Single.mono _ _)
        | (with_reducible exact decomp_Loose.mono _ _)
        | (with_reducible exact LeO.refl _)
        | (with_reducible refine LeO.ite ?_ ?_)
        | (with_reducible refine LeO.bind ?_ (fun _ => ?_))
    · intro y0 y1 y2 y3 y4
      unfold decomp_All.l0
      repeat' first
        | (with_reducible exact ih1 _ _ _ _ _)
        | (with_reducible exact ih0 _ _)
        | (with_reducible exact chars_Class.mono _ _)
        | (with_reducible exact LeO.refl _)
        | (with_reducible refine LeO.ite ?_ ?_)
        | (with_reducible refine LeO.bind ?_ (fun _ => ?_))
theorem decomp_One.mono : ∀ a0 a1 k, LeO (decomp_One.f k a0 a1) (decomp_One.f (k + 1) a0 a1) := fun a0 a1 k => (decomp_One.mono_l k).1 _ _
theorem decomp_All.mono : ∀ a0 a1 k, LeO (decomp_All.f k a0 a1) (decomp_All.f (k + 1) a0 a1) := fun a0 a1 k => (decomp_One.mono_l k).2 _ _ _ _ _
/-- The contract of One, at one number of rounds. -/
def decomp_One.Says (k : Nat) : Prop := ∀ (a0 : Int) (a1 : Bool) (r : List Int) (w : World), decomp_One.f k a0 a1 = some r →
    Calls Try.prog 15 #[.int .i32 a0, .bool a1] w fun e w' => ∃ v0_ : Value, e = .returned (v0_) ∧ Kd.V (Kd.int .i32) 21 w' w.heap.size (fun k_ => (w.heap.size ≤ k_)) (v0_) (r) ∧ Below w.heap.size w w'
theorem decomp_One.Says.use {k : Nat} (h : decomp_One.Says k) (a0 : Int) (a1 : Bool) (r : List Int) (w : World) (H : decomp_One.f k a0 a1 = some r) :
    Calls Try.prog 15 #[.int .i32 a0, .bool a1] w fun e w' => ∃ v0_ : Value, e = .returned (v0_) ∧ Kd.V (Kd.int .i32) 21 w' w.heap.size (fun k_ => (w.heap.size ≤ k_)) (v0_) (r) ∧ Below w.heap.size w w' := h a0 a1 r w H
/-- The same of what is no syllable: a row of the call's own. -/
def decomp_One.Own (k : Nat) : Prop := ∀ (a0 : Int) (a1 : Bool) (r : List Int) (w : World), ¬ (44032 ≤ a0 ∧ a0 ≤ 55203) → decomp_One.f k a0 a1 = some r →
    Calls Try.prog 15 #[.int .i32 a0, .bool a1] w fun e w' => ∃ v0_ : Value, e = .returned (v0_) ∧ Kd.R (Kd.int .i32) 21 w' w.heap.size (fun _ => True) (v0_) (r) ∧ Below w.heap.size w w'
set_option maxHeartbeats 8000000 in
set_option maxRecDepth 100000 in
theorem decomp_One.says_of (k : Nat) (ho : decomp_One.Own k) : decomp_One.Says k := by
  intro a0 a1 r w h
  by_cases hs : 44032 ≤ a0 ∧ a0 ≤ 55203
  · cases k with
    | zero => exact absurd h (by simp [decomp_One.f])
    | succ k =>
      simp only [decomp_One.f] at h
      have A : hangul_Syllable.f a0 = some true := by
        unfold hangul_Syllable.f
        rw [if_pos hs.1]
        simp [hs.2]
      rw [A] at h
      simp only [Option.bind_some, if_true] at h
      have A' := Aside0.mk A
      have H' := Aside0.mk h
      clear A h hs ho
      go_enter Try.func15, Try.ntmps15
      go_wp2_with fail
      (with_reducible refine (hangul_Syllable.calls a0 _ _ A'.out).mono ?_)
      rintro e w1 ⟨rfl, hd⟩
      have HD := Aside0.mk hd
      clear hd
      go_wp2_with fail
      (with_reducible refine (hangul_Apart.calls a0 r _ H'.out).mono ?_)
      rintro e w2 ⟨v, rfl, ho, hb⟩
      have HO := Aside0.mk ho
      have HB := Aside0.mk hb
      clear ho hb
      go_wp2
      go_ret
      exact ⟨_, rfl, Kd.V_mono HO.out (fun k_ hk => Nat.le_trans HD.out.below.size hk), below_then HD.out.below HD.out.below.size HB.out⟩
  · refine (ho a0 a1 r w hs h).mono ?_
    rintro e w1 ⟨v, rfl, hr, hb⟩
    exact ⟨v, rfl, Kd.V_mono (Kd.R_V (Kd.R_bound hr)) (fun k_ hk => hk.2.1), hb⟩
set_option maxHeartbeats 8000000 in
set_option maxRecDepth 100000 in
theorem decomp_All.calls_of (k : Nat) (hOne : ∀ k1, k1 < k → decomp_One.Says k1) (a0 : Bool) (A1 : Option Addr) (c1 : Nat) (l1 : List Int) (r : List Int) (w : World) (hr1 : Kd.C (Kd.int .i32) w A1 l1.length l1) (hc1 : l1.length ≤ c1) (h : decomp_All.f k a0 l1 = some r) :
    Calls Try.prog 19 #[.bool a0, .slice A1 l1.length c1] w fun e w' => ∃ v0_ : Value, e = .returned (v0_) ∧ Kd.R (Kd.int .i32) 21 w' w.heap.size (fun _ => True) v0_ r ∧ Below w.heap.size w w' := by
  have HR1 := Aside0.mk hr1
  have HC1 := Aside0.mk hc1
  clear hr1 hc1
  have HB := Aside0.mk (Below.refl w.heap.size w)
  have H : (decomp_All.l0 k a0 ([] : List Int) l1 (l1.length : Int) 0) = some r := h
  clear h
  have H' := Aside0.mk H
  clear H
  go_enter Try.func19, Try.ntmps19
  go_wp2
  go_loopg [5, 10] k (fun kq v5 v10 w' => ∃ (x5_1 : List Int) (x10_1 : Int), v10 = .int .i64 x10_1 ∧ Aside0 (decomp_All.l0 kq a0 x5_1 l1 (l1.length : Int) x10_1 = some r) ∧ Aside0 (kq ≤ k) ∧ Aside0 (Kd.R (Kd.int .i32) 21 w' w.heap.size (fun _ => True) v5 x5_1) ∧ Aside0 (Below w.heap.size w w'))
  case atStart => exact ⟨(([] : List Int)), (0), (by first | rfl | (simp; done) | (simp [*]; done)), H', ⟨Nat.le_refl _⟩, ⟨by first | exact Kd.R_nil _ _ _ _ _ | exact Kd.N_nil _ _ _ _ _ | exact Kd.V_nil _ _ _ _ _ | exact Kd.Q_nil _ _ _ _ _ | exact Kd.S_nil _ _ _ _ _⟩, ⟨by repeat (first | (with_reducible first | exact HB.out | apply below_alloc | apply pw_below_drewN | apply below_drew1) | exact HB.out)⟩⟩
  case round =>
    clear H'
    try clear c1
    try clear p2
    obtain ⟨x5_1, x10_1, rfl, HA, HK1, HO_5, HB⟩ := hrel
    cases gk with
    | zero => exact absurd HA.out (by simp [decomp_All.l0])
    | succ k1 =>
      have H := HA.out
      clear HA
      simp only [decomp_All.l0] at H
      by_cases c3 : x10_1 < (l1.length : Int)
      · rw [if_pos c3] at H
        have c3b0 : decide (x10_1 < (l1.length : Int)) = true := decide_eq_true c3
        clear c3
        by_cases c4 : 0 ≤ x10_1
        · rw [if_pos c4] at H
          have c4b0 : decide (0 ≤ x10_1) = true := decide_eq_true c4
          clear c4
          by_cases c5 : x10_1 < (l1.length : Int)
          · rw [if_pos c5] at H
            have c5b0 : decide (x10_1 < (l1.length : Int)) = true := decide_eq_true c5
            clear c5
            by_cases c6 : (rd l1 x10_1) < 128
            · rw [if_pos c6] at H
              have c6b0 : decide ((rd l1 x10_1) < 128) = true := decide_eq_true c6
              clear c6
              by_cases c7 : x5_1.length < 35184372088832
              · rw [if_pos c7] at H
                have LMc7 := Aside0.mk c7
                clear c7
                obtain ⟨y555, hy555⟩ : ∃ y_ : List Int, y_ = (x5_1 ++ [rd l1 x10_1]) := ⟨_, rfl⟩
                replace H : (decomp_All.l0 k1 a0 y555 l1 (l1.length : Int) (wrap64 (x10_1 + 1))) = some r := by first | (rw [hy555]; with_reducible exact H) | (have H2_ := (Option.bind_some _ _).symm.trans H; rw [hy555]; with_reducible exact H2_) | (have H2_ := (Option.bind_some _ _).symm.trans H; with_reducible exact H2_) | with_reducible exact H | (rw [hy555]; exact H) | exact H
                have Ny555 := Aside0.mk hy555
                clear hy555
                have H' := Aside0.mk H
                clear H
                have p554 : 0 ≤ (x10_1 : Int) := of_decide_eq_true (by first | (with_reducible assumption) | assumption)
                have q554 : x10_1 < (l1.length : Int) := of_decide_eq_true (by first | (with_reducible assumption) | assumption)
                obtain ⟨ad554, e554, hx554_0⟩ := Kd.at_int HR1.out x10_1 p554 q554
                cases e554
                replace hx554_0 := (HB.out.cell (World.block_lt_of_cell? w _ hx554_0)).trans hx554_0
                replace p554 := eq_true p554
                replace q554 := eq_true q554
                go_wp2_with (first | ((with_reducible refine gate_builtin (b := .append) (xs := #[.tmp 21, .tmp 23]) rfl ?_); at_builtin; refine Kd.R_append (Kd.int .i32) (w0 := w) w.heap.size rfl (.tmp 21) (.tmp 23) 27 21 (.int .i32 0) 4 rfl Try.underlying27 info21 rfl (by decide) (by omega) u5 x5_1 (rd l1 x10_1) [.int .i32 (rd l1 x10_1)] (fun _ => True) (fun _ => False) rfl rfl ?aP (fun _ hk => hk.elim) ?aF ?aO ?aB ?aS ?aL ?_; (case aP => exact rfl); (case aB => exact (by repeat (first | (with_reducible first | exact HB.out | apply below_alloc | apply pw_below_drewN | apply below_drew1) | exact HB.out))); (case aF => exact (fun _ _ => trivial)); (case aO => exact (by (with_reducible repeat (first | apply Kd.R_alloc | apply Kd.R_drewN | apply Kd.R_drew)); exact HO_5.out)); (case aS => exact (below_size (by repeat (first | (with_reducible first | exact HB.out | apply below_alloc | apply pw_below_drewN | apply below_drew1) | exact HB.out)))); (case aL => have := LMc7.out; omega); intro v556 w8 ho hb hg hat; rw [← Ny555.out] at ho; have n0_ := Aside0.mk (hb); have n1_ := Aside0.mk (ho); clear HB; clear HO_5; have HB := n0_; have HO557 := n1_; clear n0_ n1_; clear ho hb hg hat))
                go_roundg k1
                case measure => have := HK1.out; omega
                case rel => exact ⟨(y555), (wrap64 (x10_1 + 1)), (by first | rfl | (simp; done) | (simp [*]; done)), H', ⟨by have := HK1.out; omega⟩, ⟨by (with_reducible repeat (first | apply Kd.R_alloc | apply Kd.R_drewN | apply Kd.R_drew)); exact HO557.out⟩, ⟨by repeat (first | (with_reducible first | exact HB.out | apply below_alloc | apply pw_below_drewN | apply below_drew1) | exact HB.out)⟩⟩
              · rw [if_neg c7] at H
                exact absurd H (by simp)
            · rw [if_neg c6] at H
              have c6b0 : decide ((rd l1 x10_1) < 128) = false := decide_eq_false c6
              clear c6
              replace H := Option.bind_eq_some_iff.mp H
              obtain ⟨t558, A90, H⟩ := H
              replace H : (if t558 > 0 then (if x5_1.length < 35184372088832 then (decomp_All.l0 k1 a0 (x5_1 ++ [rd l1 x10_1]) l1 (l1.length : Int) (wrap64 (x10_1 + 1))) else (none)) else ((decomp_One.f k1 (rd l1 x10_1) a0).bind fun t562 => (if x5_1.length + t562.length < 35184372088832 then (decomp_All.l0 k1 a0 (x5_1 ++ t562) l1 (l1.length : Int) (wrap64 (x10_1 + 1))) else (none)))) = some r := H
              have A9 := Aside0.mk A90
              clear A90
              by_cases c10 : t558 > 0
              · rw [if_pos c10] at H
                have c10b0 : decide (0 < t558) = true := decide_eq_true c10
                clear c10
                by_cases c11 : x5_1.length < 35184372088832
                · rw [if_pos c11] at H
                  have LMc11 := Aside0.mk c11
                  clear c11
                  obtain ⟨y559, hy559⟩ : ∃ y_ : List Int, y_ = (x5_1 ++ [rd l1 x10_1]) := ⟨_, rfl⟩
                  replace H : (decomp_All.l0 k1 a0 y559 l1 (l1.length : Int) (wrap64 (x10_1 + 1))) = some r := by first | (rw [hy559]; with_reducible exact H) | (have H2_ := (Option.bind_some _ _).symm.trans H; rw [hy559]; with_reducible exact H2_) | (have H2_ := (Option.bind_some _ _).symm.trans H; with_reducible exact H2_) | with_reducible exact H | (rw [hy559]; exact H) | exact H
                  have Ny559 := Aside0.mk hy559
                  clear hy559
                  have H' := Aside0.mk H
                  clear H
                  have p554 : 0 ≤ (x10_1 : Int) := of_decide_eq_true (by first | (with_reducible assumption) | assumption)
                  have q554 : x10_1 < (l1.length : Int) := of_decide_eq_true (by first | (with_reducible assumption) | assumption)
                  obtain ⟨ad554, e554, hx554_0⟩ := Kd.at_int HR1.out x10_1 p554 q554
                  cases e554
                  replace hx554_0 := (HB.out.cell (World.block_lt_of_cell? w _ hx554_0)).trans hx554_0
                  replace p554 := eq_true p554
                  replace q554 := eq_true q554
                  go_wp2_with (first | (go_at_call 34; (with_reducible refine (chars_Class.calls k1 (rd l1 x10_1) t558 _ A9.out).mono ?_); rintro e w' ⟨rfl, ⟨nd, rfl⟩⟩) | ((with_reducible refine gate_builtin (b := .append) (xs := #[.tmp 21, .tmp 23]) rfl ?_); at_builtin; refine Kd.R_append (Kd.int .i32) (w0 := w) w.heap.size rfl (.tmp 21) (.tmp 23) 27 21 (.int .i32 0) 4 rfl Try.underlying27 info21 rfl (by decide) (by omega) u5 x5_1 (rd l1 x10_1) [.int .i32 (rd l1 x10_1)] (fun _ => True) (fun _ => False) rfl rfl ?aP (fun _ hk => hk.elim) ?aF ?aO ?aB ?aS ?aL ?_; (case aP => exact rfl); (case aB => exact (by repeat (first | (with_reducible first | exact HB.out | apply below_alloc | apply pw_below_drewN | apply below_drew1) | exact HB.out))); (case aF => exact (fun _ _ => trivial)); (case aO => exact (by (with_reducible repeat (first | apply Kd.R_alloc | apply Kd.R_drewN | apply Kd.R_drew)); exact HO_5.out)); (case aS => exact (below_size (by repeat (first | (with_reducible first | exact HB.out | apply below_alloc | apply pw_below_drewN | apply below_drew1) | exact HB.out)))); (case aL => have := LMc11.out; omega); intro v560 w12 ho hb hg hat; rw [← Ny559.out] at ho; have n0_ := Aside0.mk (hb); have n1_ := Aside0.mk (ho); clear HB; clear HO_5; have HB := n0_; have HO561 := n1_; clear n0_ n1_; clear ho hb hg hat))
                  go_roundg k1
                  case measure => have := HK1.out; omega
                  case rel => exact ⟨(y559), (wrap64 (x10_1 + 1)), (by first | rfl | (simp; done) | (simp [*]; done)), H', ⟨by have := HK1.out; omega⟩, ⟨by (with_reducible repeat (first | apply Kd.R_alloc | apply Kd.R_drewN | apply Kd.R_drew)); exact HO561.out⟩, ⟨by repeat (first | (with_reducible first | exact HB.out | apply below_alloc | apply pw_below_drewN | apply below_drew1) | exact HB.out)⟩⟩
                · rw [if_neg c11] at H
                  exact absurd H (by simp)
              · rw [if_neg c10] at H
                have c10b0 : decide (0 < t558) = false := decide_eq_false c10
                clear c10
                replace H := Option.bind_eq_some_iff.mp H
                obtain ⟨t562, A130, H⟩ := H
                replace H : (if x5_1.length + t562.length < 35184372088832 then (decomp_All.l0 k1 a0 (x5_1 ++ t562) l1 (l1.length : Int) (wrap64 (x10_1 + 1))) else (none)) = some r := H
                have A13 := Aside0.mk A130
                clear A130
                by_cases c14 : x5_1.length + t562.length < 35184372088832
                · rw [if_pos c14] at H
                  have LMc14 := Aside0.mk c14
                  clear c14
                  obtain ⟨y565, hy565⟩ : ∃ y_ : List Int, y_ = (x5_1 ++ t562) := ⟨_, rfl⟩
                  replace H : (decomp_All.l0 k1 a0 y565 l1 (l1.length : Int) (wrap64 (x10_1 + 1))) = some r := by first | (rw [hy565]; with_reducible exact H) | (have H2_ := (Option.bind_some _ _).symm.trans H; rw [hy565]; with_reducible exact H2_) | (have H2_ := (Option.bind_some _ _).symm.trans H; with_reducible exact H2_) | with_reducible exact H | (rw [hy565]; exact H) | exact H
                  have Ny565 := Aside0.mk hy565
                  clear hy565
                  have H' := Aside0.mk H
                  clear H
                  have p554 : 0 ≤ (x10_1 : Int) := of_decide_eq_true (by first | (with_reducible assumption) | assumption)
                  have q554 : x10_1 < (l1.length : Int) := of_decide_eq_true (by first | (with_reducible assumption) | assumption)
                  obtain ⟨ad554, e554, hx554_0⟩ := Kd.at_int HR1.out x10_1 p554 q554
                  cases e554
                  replace hx554_0 := (HB.out.cell (World.block_lt_of_cell? w _ hx554_0)).trans hx554_0
                  replace p554 := eq_true p554
                  replace q554 := eq_true q554
                  go_wp2_with (first | (go_at_call 34; (with_reducible refine (chars_Class.calls k1 (rd l1 x10_1) t558 _ A9.out).mono ?_); rintro e w' ⟨rfl, ⟨nd, rfl⟩⟩) | ((with_reducible refine gate_callee (f := 15) rfl ?_); refine goesL_ (some 28) rfl rfl Try.func15 (by kernel_rfl) rfl #[.int .i32 (rd l1 x10_1), .bool a0] rfl (by (try simp only [List.map_toArray, List.map_cons, List.map_nil]); first | done | rfl | (simp only [List.length_drop, List.length_take]; rfl)) ?_; (with_reducible refine (decomp_One.Says.use (hOne k1 (by have := HK1.out; omega)) (rd l1 x10_1) a0 t562 _ A13.out).mono ?_); rintro e w15 ⟨v563, rfl, ho0, hb⟩; refine ⟨_, rfl, ?_⟩; have n0_ := Aside0.mk (Kd.R_below (by (with_reducible repeat (first | apply Kd.R_alloc | apply Kd.R_drewN | apply Kd.R_drew)); exact HO_5.out) hb); have n1_ := Aside0.mk (Kd.V_lower (Kd.V_mono (ok' := fun k_ => some k_ ≠ (u5 : Value).ownBlock) ho0 (fun k_ hk_ => (Kd.fresh' (Kd.R_lt (by (with_reducible repeat (first | apply Kd.R_alloc | apply Kd.R_drewN | apply Kd.R_drew)); exact HO_5.out)) k_ hk_))) (below_size (by repeat (first | (with_reducible first | exact HB.out | apply below_alloc | apply pw_below_drewN | apply below_drew1) | exact HB.out)))); have n2_ := Aside0.mk (below_step (by repeat (first | (with_reducible first | exact HB.out | apply below_alloc | apply pw_below_drewN | apply below_drew1) | exact HB.out)) hb); clear HO_5; clear HB; have HO_5 := n0_; have HO564 := n1_; have HB := n2_; clear n0_ n1_ n2_; (try clear hb); (try clear hb2); (try clear hk); (try clear hi); (try clear ho0); obtain ⟨Ao17, co17, eo17⟩ := Kd.V_slice HO564.out; subst eo17) | ((with_reducible refine gate_builtin (b := .append) (xs := #[.tmp 25, .tmp 28]) rfl ?_); at_builtin; refine Kd.R_append_rows (Kd.int .i32) (w0 := w) w.heap.size rfl (.tmp 25) (.tmp 28) 27 21 (.int .i32 0) 4 rfl Try.underlying27 info21 rfl (by decide) (by omega) u5 x5_1 t562 _ _ _ (fun _ => True) (fun _ => False) rfl rfl ?aO ?aR (fun _ _ h => h) (fun _ h => h.elim) ?aF ?aB ?aS ?aL ?_; (case aR => repeat (first | exact (Kd.V_reads' HO564.out).2.2 | (with_reducible refine Kd.C_alloc ?_ _) | (with_reducible refine Kd.C_drewN ?_ _) | (with_reducible refine Kd.C_drew ?_))); (case aB => exact (by repeat (first | (with_reducible first | exact HB.out | apply below_alloc | apply pw_below_drewN | apply below_drew1) | exact HB.out))); (case aF => exact (fun _ _ => trivial)); (case aO => exact (by (with_reducible repeat (first | apply Kd.R_alloc | apply Kd.R_drewN | apply Kd.R_drew)); exact HO_5.out)); (case aS => exact (below_size (by repeat (first | (with_reducible first | exact HB.out | apply below_alloc | apply pw_below_drewN | apply below_drew1) | exact HB.out)))); (case aL => have := LMc14.out; omega); intro v566 w16 ho hb hg hat; rw [← Ny565.out] at ho; have n0_ := Aside0.mk (Kd.V_afterv (ok := (fun _ => True)) (by (with_reducible repeat (first | apply Kd.V_alloc | apply Kd.V_drewN | apply Kd.V_drew)); exact Kd.V_mono HO564.out (fun _ hk => ⟨trivial, hk⟩)) hg hat); have n1_ := Aside0.mk (hb); have n2_ := Aside0.mk (ho); clear HO564; clear HB; clear HO_5; have HO564 := n0_; have HB := n1_; have HO567 := n2_; clear n0_ n1_ n2_; clear ho hb hg hat))
                  go_roundg k1
                  case measure => have := HK1.out; omega
                  case rel => exact ⟨(y565), (wrap64 (x10_1 + 1)), (by first | rfl | (simp; done) | (simp [*]; done)), H', ⟨by have := HK1.out; omega⟩, ⟨by (with_reducible repeat (first | apply Kd.R_alloc | apply Kd.R_drewN | apply Kd.R_drew)); exact HO567.out⟩, ⟨by repeat (first | (with_reducible first | exact HB.out | apply below_alloc | apply pw_below_drewN | apply below_drew1) | exact HB.out)⟩⟩
                · rw [if_neg c14] at H
                  exact absurd H (by simp)
          · rw [if_neg c5] at H
            exact absurd H (by simp)
        · rw [if_neg c4] at H
          exact absurd H (by simp)
      · rw [if_neg c3] at H
        have c3b0 : decide (x10_1 < (l1.length : Int)) = false := decide_eq_false c3
        clear c3
        obtain rfl := Option.some.inj H
        go_wp2
        go_ret
        exact ⟨_, by first | rfl | (simp [errW_none, errW_some] <;> rfl) | (simp [*, errW_none, errW_some] <;> rfl), by (with_reducible repeat (first | apply Kd.R_alloc | apply Kd.R_drewN | apply Kd.R_drew)); exact HO_5.out, by repeat (first | (with_reducible first | exact HB.out | apply below_alloc | apply pw_below_drewN | apply below_drew1) | exact HB.out)⟩

set_option maxHeartbeats 8000000 in
set_option maxRecDepth 100000 in
theorem decomp_One.own (k : Nat) : decomp_One.Own k := by
  induction k using Nat.strongRecOn with
  | _ k ih =>
  intro a0 a1 r w hs H
  cases k with
  | zero => exact absurd H (by simp [decomp_One.f])
  | succ k =>
  have hOwn := ih k (Nat.lt_succ_self k)
  have hAll := fun (A1 : Option Addr) (c1 : Nat) (l1 : List Int) (r : List Int) (w : World) => decomp_All.calls_of k (fun k1 h1 => decomp_One.says_of k1 (ih k1 (by omega))) true A1 c1 l1 r w
  clear ih
  have HOwn := Aside0.mk hOwn
  have HAll := Aside0.mk hAll
  clear hOwn hAll
  simp only [decomp_One.f] at H
  have A : hangul_Syllable.f a0 = some false := by
    unfold hangul_Syllable.f
    by_cases h1 : a0 ≥ 44032
    · rw [if_pos h1]
      have : ¬ a0 ≤ 55203 := fun h2 => hs ⟨h1, h2⟩
      simp [this]
    · rw [if_neg h1]
  rw [A] at H
  simp only [Option.bind_some, Bool.false_eq_true, if_false] at H
  have A' := Aside0.mk A
  clear A hs
  replace H := Option.bind_eq_some_iff.mp H
  obtain ⟨⟨p1, p2, p3⟩, B1, H⟩ := H
  have B1' := Aside0.mk B1
  clear B1
  simp only at H
  cases p3 with
  | true =>
    simp only [if_true] at H
    by_cases hp : 44032 ≤ p1 ∧ p1 ≤ 55203
    · rw [if_pos hp] at H; cases H
    rw [if_neg hp] at H
    replace H := Option.bind_eq_some_iff.mp H
    obtain ⟨x, B2, H⟩ := H
    by_cases hx : x.length < 35184372088832
    · rw [if_pos hx] at H
      obtain rfl := Option.some.inj H
      clear H
      have B2' := Aside0.mk (HOwn.out p1 a1 x · hp B2)
      have LM := Aside0.mk hx
      clear hx B2 hp
      go_enter Try.func15, Try.ntmps15
      go_wp2_with fail
      (with_reducible refine (hangul_Syllable.calls a0 _ _ A'.out).mono ?_)
      rintro e w1 ⟨rfl, hd⟩
      have HD := Aside0.mk hd
      clear hd
      go_wp2_with fail
      (with_reducible refine (decomp_Pair.calls k a0 p1 p2 true _ B1'.out).mono ?_)
      rintro e w2 ⟨rfl, hb⟩
      have HB := Aside0.mk (below_then HD.out.below HD.out.below.size hb)
      clear hb
      go_wp2_with fail
      (with_reducible refine (B2'.out _).mono ?_)
      rintro e w3 ⟨v, rfl, ho, hb⟩
      have HO := Aside0.mk (Kd.R_lower ho HB.out.size)
      have HB3 := Aside0.mk (below_then HB.out HB.out.size hb)
      clear ho hb
      obtain ⟨Ao, co, eo⟩ := Kd.R_slice HO.out
      subst eo
      go_wp2_with ((with_reducible refine gate_builtin (b := .append) (xs := #[.tmp 24, .tmp 26]) rfl ?_); at_builtin; refine Kd.R_append (Kd.int .i32) (w0 := w) w.heap.size rfl (.tmp 24) (.tmp 26) 27 21 (.int .i32 0) 4 rfl Try.underlying27 (by kernel_rfl) rfl (by decide) (by omega) (.slice Ao x.length co) x p2 [.int .i32 p2] (fun _ => True) (fun _ => False) rfl rfl ?aP (fun _ hk => hk.elim) ?aF ?aO ?aB ?aS ?aL ?_; (case aP => exact rfl); (case aB => exact HB3.out); (case aF => exact (fun _ _ => trivial)); (case aO => exact HO.out); (case aS => exact HB3.out.size); (case aL => have := LM.out; omega); intro v14 w14 ho hb hg hat; have HO3 := Aside0.mk ho; have HB4 := Aside0.mk hb; clear ho hb hg hat)
      go_ret
      exact ⟨_, rfl, HO3.out, HB4.out⟩
    · rw [if_neg hx] at H; cases H
  | false =>
    simp only [Bool.false_eq_true, if_false] at H
    replace H := Option.bind_eq_some_iff.mp H
    obtain ⟨⟨q1, q2⟩, B2, H⟩ := H
    have B2' := Aside0.mk B2
    clear B2
    simp only at H
    cases q2 with
    | true =>
      simp only [if_true] at H
      by_cases hq : 44032 ≤ q1 ∧ q1 ≤ 55203
      · rw [if_pos hq] at H; cases H
      rw [if_neg hq] at H
      have B3' := Aside0.mk (HOwn.out q1 a1 r · hq H)
      clear H hq
      go_enter Try.func15, Try.ntmps15
      go_wp2_with fail
      (with_reducible refine (hangul_Syllable.calls a0 _ _ A'.out).mono ?_)
      rintro e w1 ⟨rfl, hd⟩
      have HD := Aside0.mk hd
      clear hd
      go_wp2_with fail
      (with_reducible refine (decomp_Pair.calls k a0 p1 p2 false _ B1'.out).mono ?_)
      rintro e w2 ⟨rfl, hb⟩
      have HB := Aside0.mk (below_then HD.out.below HD.out.below.size hb)
      clear hb
      go_wp2_with fail
      (with_reducible refine (decomp_Single.calls k a0 q1 true _ B2'.out).mono ?_)
      rintro e w3 ⟨rfl, hd3⟩
      have HB2 := Aside0.mk (below_then HB.out HB.out.size hd3.below)
      clear hd3
      go_wp2_with fail
      (with_reducible refine (B3'.out _).mono ?_)
      rintro e w4 ⟨v, rfl, ho, hb⟩
      have HO := Aside0.mk (Kd.R_lower ho HB2.out.size)
      have HB3 := Aside0.mk (below_then HB2.out HB2.out.size hb)
      clear ho hb
      go_wp2
      go_ret
      exact ⟨_, rfl, HO.out, HB3.out⟩
    | false =>
      simp only [Bool.false_eq_true, if_false] at H
      replace H := Option.bind_eq_some_iff.mp H
      obtain ⟨l, B3, H⟩ := H
      have B3' := Aside0.mk B3
      clear B3
      have hstart : ∀ (R : Ending → World → Prop), True := fun _ => trivial
      clear hstart
      have hlone : r = [a0] → (a1 = false ∨ ¬ (l.length : Int) > 0) → Calls Try.prog 15 #[.int .i32 a0, .bool a1] w fun e w' => ∃ v0_ : Value, e = .returned (v0_) ∧ Kd.R (Kd.int .i32) 21 w' w.heap.size (fun _ => True) (v0_) (r) ∧ Below w.heap.size w w' := by
        rintro rfl hcase
        clear H
        have hg : decide ((0 : Int) < (l.length : Int)) = false ∨ a1 = false := by
          rcases hcase with h | h
          · exact .inr h
          · exact .inl (decide_eq_false h)
        clear hcase
        cases a1 with
        | false =>
          clear hg
          go_enter Try.func15, Try.ntmps15
          go_wp2_with fail
          (with_reducible refine (hangul_Syllable.calls a0 _ _ A'.out).mono ?_)
          rintro e w1 ⟨rfl, hd⟩
          have HD := Aside0.mk hd
          clear hd
          go_wp2_with fail
          (with_reducible refine (decomp_Pair.calls k a0 p1 p2 false _ B1'.out).mono ?_)
          rintro e w2 ⟨rfl, hb⟩
          have HB := Aside0.mk (below_then HD.out.below HD.out.below.size hb)
          clear hb
          go_wp2_with fail
          (with_reducible refine (decomp_Single.calls k a0 q1 false _ B2'.out).mono ?_)
          rintro e w3 ⟨rfl, hd3⟩
          have HB2 := Aside0.mk (below_then HB.out HB.out.size hd3.below)
          clear hd3
          go_wp2_with fail
          (with_reducible refine (decomp_Loose.calls k a0 l _ B3'.out).mono ?_)
          rintro e w4 ⟨v, rfl, ho, hb⟩
          have HB3 := Aside0.mk (below_then HB2.out HB2.out.size hb)
          clear ho hb HB HB2 HD
          go_wp2_with ((with_reducible refine gate_dst (N := 49) rfl ?_); refine Kd.R_lit (Kd.int .i32) w.heap.size 21 ?hg (N := 49) ?hd (xs := ([a0] : List Int)) (inner := [.int .i32 a0]) (w0 := w) (ok := fun _ => True) (okp := fun _ => True) ?hr ?hp (fun _ hk => hk) trivial HB3.out HB3.out.size (by simp) ?_; (case hd => rfl); (case hg => rfl); (case hr => first | (go_simp; done) | (go_simp; rfl)); (case hp => exact ⟨rfl, fun j p hj => by cases j with | zero => (have : p = a0 := by simpa using hj.symm); subst this; rfl | succ j => simp at hj⟩); intro v24 w24 ho hb hg hnew; have HO3 := Aside0.mk ho; have HB4 := Aside0.mk hb; clear ho hb hg hnew)
          go_ret
          exact ⟨_, rfl, HO3.out, HB4.out⟩
        | true =>
          have hg1 : decide ((0 : Int) < (l.length : Int)) = false := by
            rcases hg with h | h
            · exact h
            · cases h
          have hg2 : decide (0 < l.length) = false := by
            have := of_decide_eq_false hg1
            exact decide_eq_false (by omega)
          clear hg
          go_enter Try.func15, Try.ntmps15
          go_wp2_with fail
          (with_reducible refine (hangul_Syllable.calls a0 _ _ A'.out).mono ?_)
          rintro e w1 ⟨rfl, hd⟩
          have HD := Aside0.mk hd
          clear hd
          go_wp2_with fail
          (with_reducible refine (decomp_Pair.calls k a0 p1 p2 false _ B1'.out).mono ?_)
          rintro e w2 ⟨rfl, hb⟩
          have HB := Aside0.mk (below_then HD.out.below HD.out.below.size hb)
          clear hb
          go_wp2_with fail
          (with_reducible refine (decomp_Single.calls k a0 q1 false _ B2'.out).mono ?_)
          rintro e w3 ⟨rfl, hd3⟩
          have HB2 := Aside0.mk (below_then HB.out HB.out.size hd3.below)
          clear hd3
          go_wp2_with fail
          (with_reducible refine (decomp_Loose.calls k a0 l _ B3'.out).mono ?_)
          rintro e w4 ⟨v, rfl, ho, hb⟩
          have HB3 := Aside0.mk (below_then HB2.out HB2.out.size hb)
          obtain ⟨Ao, co, eo⟩ := Kd.R_slice ho
          subst eo
          clear ho hb HB HB2 HD
          go_wp2_with ((with_reducible refine gate_dst (N := 49) rfl ?_); refine Kd.R_lit (Kd.int .i32) w.heap.size 21 ?hg (N := 49) ?hd (xs := ([a0] : List Int)) (inner := [.int .i32 a0]) (w0 := w) (ok := fun _ => True) (okp := fun _ => True) ?hr ?hp (fun _ hk => hk) trivial HB3.out HB3.out.size (by simp) ?_; (case hd => rfl); (case hg => rfl); (case hr => first | (go_simp; done) | (go_simp; rfl)); (case hp => exact ⟨rfl, fun j p hj => by cases j with | zero => (have : p = a0 := by simpa using hj.symm); subst this; rfl | succ j => simp at hj⟩); intro v24 w24 ho hb hg hnew; have HO3 := Aside0.mk ho; have HB4 := Aside0.mk hb; clear ho hb hg hnew)
          go_ret
          exact ⟨_, rfl, HO3.out, HB4.out⟩
      cases a1 with
      | false =>
        simp only [Bool.false_eq_true, if_false] at H
        exact hlone (Option.some.inj H).symm (.inl rfl)
      | true =>
        simp only [if_true] at H
        by_cases hl : (l.length : Int) > 0
        · clear hlone
          rw [if_pos hl] at H
          have hg1 : decide ((0 : Int) < (l.length : Int)) = true := decide_eq_true hl
          have hg2 : decide (0 < l.length) = true := decide_eq_true (by omega)
          have H' := Aside0.mk (show decomp_All.f k true l = some r from H)
          clear hl H
          go_enter Try.func15, Try.ntmps15
          go_wp2_with fail
          (with_reducible refine (hangul_Syllable.calls a0 _ _ A'.out).mono ?_)
          rintro e w1 ⟨rfl, hd⟩
          have HD := Aside0.mk hd
          clear hd
          go_wp2_with fail
          (with_reducible refine (decomp_Pair.calls k a0 p1 p2 false _ B1'.out).mono ?_)
          rintro e w2 ⟨rfl, hb⟩
          have HB := Aside0.mk (below_then HD.out.below HD.out.below.size hb)
          clear hb
          go_wp2_with fail
          (with_reducible refine (decomp_Single.calls k a0 q1 false _ B2'.out).mono ?_)
          rintro e w3 ⟨rfl, hd3⟩
          have HB2 := Aside0.mk (below_then HB.out HB.out.size hd3.below)
          clear hd3
          go_wp2_with fail
          (with_reducible refine (decomp_Loose.calls k a0 l _ B3'.out).mono ?_)
          rintro e w4 ⟨v, rfl, ho, hb⟩
          have HB3 := Aside0.mk (below_then HB2.out HB2.out.size hb)
          obtain ⟨Ao, co, eo⟩ := Kd.R_slice ho
          subst eo
          have HL := Aside0.mk (Kd.R_reads' ho)
          clear ho hb HB HB2 HD
          go_wp2_with fail
          (with_reducible refine (HAll.out _ _ l r _ HL.out.2.2 HL.out.2.1 H'.out).mono ?_)
          rintro e w5 ⟨v, rfl, ho, hb⟩
          have HO := Aside0.mk (Kd.R_lower ho HB3.out.size)
          have HB5 := Aside0.mk (below_then HB3.out HB3.out.size hb)
          clear ho hb
          go_wp2
          go_ret
          exact ⟨_, rfl, HO.out, HB5.out⟩
        · rw [if_neg hl] at H
          exact hlone (Option.some.inj H).symm (.inr hl)
theorem decomp_One.calls (k : Nat) (a0 : Int) (a1 : Bool) (r : List Int) (w : World) (h : decomp_One.f k a0 a1 = some r) :
    Calls Try.prog 15 #[.int .i32 a0, .bool a1] w fun e w' => ∃ v0_ : Value, e = .returned (v0_) ∧ Kd.V (Kd.int .i32) 21 w' w.heap.size (fun k_ => (w.heap.size ≤ k_)) (v0_) (r) ∧ Below w.heap.size w w' := decomp_One.says_of k (decomp_One.own k) a0 a1 r w h
theorem decomp_All.calls (k : Nat) (a0 : Bool) (A1 : Option Addr) (c1 : Nat) (l1 : List Int) (r : List Int) (w : World) (hr1 : Kd.C (Kd.int .i32) w A1 l1.length l1) (hc1 : l1.length ≤ c1) (h : decomp_All.f k a0 l1 = some r) :
    Calls Try.prog 19 #[.bool a0, .slice A1 l1.length c1] w fun e w' => ∃ v0_ : Value, e = .returned (v0_) ∧ Kd.R (Kd.int .i32) 21 w' w.heap.size (fun _ => True) v0_ r ∧ Below w.heap.size w w' :=
  decomp_All.calls_of k (fun k1 _ => decomp_One.says_of k1 (decomp_One.own k1)) a0 A1 c1 l1 r w hr1 hc1 h

-- NOT PRINTED: function 18 (toponymref05_All)

/-! ### toponymref04_Syllable: function 32 -/
def toponymref04_Syllable.f (a0 : Int) : Option (Bool) := if a0 ≥ 44032 then (some (decide (a0 ≤ 55203))) else (some false)
set_option maxHeartbeats 8000000 in
set_option maxRecDepth 100000 in
theorem toponymref04_Syllable.calls (a0 : Int) (r : Bool) (w : World) (h : toponymref04_Syllable.f a0 = some r) :
    Calls Try.prog 32 #[.int .i32 a0] w fun e w' => e = .returned (.bool r) ∧ Drawn0 w w' := by
  have H : (if a0 ≥ 44032 then (some (decide (a0 ≤ 55203))) else (some false)) = some r := h
  clear h
  by_cases c2 : a0 ≥ 44032
  · rw [if_pos c2] at H
    have c2b0 : decide (44032 ≤ a0) = true := decide_eq_true c2
    clear c2
    obtain rfl := Option.some.inj H
    go_enter Try.func32, Try.ntmps32
    go_wp2
    go_ret
    exact ⟨by first | rfl | (simp; done) | (simp [*]; done), by repeat (first | exact Drawn0.refl _ | apply Drawn0.step)⟩
  · rw [if_neg c2] at H
    have c2b0 : decide (44032 ≤ a0) = false := decide_eq_false c2
    clear c2
    obtain rfl := Option.some.inj H
    go_enter Try.func32, Try.ntmps32
    go_wp2
    go_ret
    exact ⟨by first | rfl | (simp; done) | (simp [*]; done), by repeat (first | exact Drawn0.refl _ | apply Drawn0.step)⟩

/-! ### toponymref04_Apart: function 33 -/
def toponymref04_Apart.f (a0 : Int) : Option (List Int) := (toponymref04_Syllable.f a0).bind fun t569 => (if t569 = true then (if (Int.tmod (wrap32 (a0 - 44032)) 28) = 0 then (some (([wrap32 (4352 + (wrap32 (Int.tdiv (wrap32 (a0 - 44032)) 588))), wrap32 (4449 + (Int.tmod (wrap32 (Int.tdiv (wrap32 (a0 - 44032)) 28)) 21))] : List Int))) else (some (([wrap32 (4352 + (wrap32 (Int.tdiv (wrap32 (a0 - 44032)) 588))), wrap32 (4449 + (Int.tmod (wrap32 (Int.tdiv (wrap32 (a0 - 44032)) 28)) 21)), wrap32 (4519 + (Int.tmod (wrap32 (a0 - 44032)) 28))] : List Int)))) else (some (([a0] : List Int))))
set_option maxHeartbeats 8000000 in
set_option maxRecDepth 100000 in
theorem toponymref04_Apart.calls (a0 : Int) (r : List Int) (w : World) (h : toponymref04_Apart.f a0 = some r) :
    Calls Try.prog 33 #[.int .i32 a0] w fun e w' => ∃ v0_ : Value, e = .returned (v0_) ∧ Kd.R (Kd.int .i32) 21 w' w.heap.size (fun _ => True) v0_ r ∧ Below w.heap.size w w' := by
  have HB := Aside0.mk (Below.refl w.heap.size w)
  have H : ((toponymref04_Syllable.f a0).bind fun t569 => (if t569 = true then (if (Int.tmod (wrap32 (a0 - 44032)) 28) = 0 then (some (([wrap32 (4352 + (wrap32 (Int.tdiv (wrap32 (a0 - 44032)) 588))), wrap32 (4449 + (Int.tmod (wrap32 (Int.tdiv (wrap32 (a0 - 44032)) 28)) 21))] : List Int))) else (some (([wrap32 (4352 + (wrap32 (Int.tdiv (wrap32 (a0 - 44032)) 588))), wrap32 (4449 + (Int.tmod (wrap32 (Int.tdiv (wrap32 (a0 - 44032)) 28)) 21)), wrap32 (4519 + (Int.tmod (wrap32 (a0 - 44032)) 28))] : List Int)))) else (some (([a0] : List Int))))) = some r := h
  clear h
  replace H := Option.bind_eq_some_iff.mp H
  obtain ⟨t569, A20, H⟩ := H
  replace H : (if t569 = true then (if (Int.tmod (wrap32 (a0 - 44032)) 28) = 0 then (some (([wrap32 (4352 + (wrap32 (Int.tdiv (wrap32 (a0 - 44032)) 588))), wrap32 (4449 + (Int.tmod (wrap32 (Int.tdiv (wrap32 (a0 - 44032)) 28)) 21))] : List Int))) else (some (([wrap32 (4352 + (wrap32 (Int.tdiv (wrap32 (a0 - 44032)) 588))), wrap32 (4449 + (Int.tmod (wrap32 (Int.tdiv (wrap32 (a0 - 44032)) 28)) 21)), wrap32 (4519 + (Int.tmod (wrap32 (a0 - 44032)) 28))] : List Int)))) else (some (([a0] : List Int)))) = some r := H
  have A2 := Aside0.mk A20
  clear A20
  by_cases c3 : t569 = true
  · subst c3
    have H1 : (if (Int.tmod (wrap32 (a0 - 44032)) 28) = 0 then (some (([wrap32 (4352 + (wrap32 (Int.tdiv (wrap32 (a0 - 44032)) 588))), wrap32 (4449 + (Int.tmod (wrap32 (Int.tdiv (wrap32 (a0 - 44032)) 28)) 21))] : List Int))) else (some (([wrap32 (4352 + (wrap32 (Int.tdiv (wrap32 (a0 - 44032)) 588))), wrap32 (4449 + (Int.tmod (wrap32 (Int.tdiv (wrap32 (a0 - 44032)) 28)) 21)), wrap32 (4519 + (Int.tmod (wrap32 (a0 - 44032)) 28))] : List Int)))) = some r := by rw [if_pos rfl] at H; exact H
    clear H
    have H := H1
    clear H1
    by_cases c4 : (Int.tmod (wrap32 (a0 - 44032)) 28) = 0
    · rw [if_pos c4] at H
      have c4b0 : ((Int.tmod (wrap32 (a0 - 44032)) 28) == 0) = true := beq_iff_eq.mpr c4
      have c4b1 : ((Int.tmod (wrap32 (a0 - 44032)) 28) != 0) = false := bne_eq_false_iff_eq.mpr c4
      clear c4
      obtain ⟨y570, hy570⟩ : ∃ y_ : List Int, y_ = (([wrap32 (4352 + (wrap32 (Int.tdiv (wrap32 (a0 - 44032)) 588))), wrap32 (4449 + (Int.tmod (wrap32 (Int.tdiv (wrap32 (a0 - 44032)) 28)) 21))] : List Int)) := ⟨_, rfl⟩
      replace H : (some y570) = some r := by first | (rw [hy570]; with_reducible exact H) | (have H2_ := (Option.bind_some _ _).symm.trans H; rw [hy570]; with_reducible exact H2_) | (have H2_ := (Option.bind_some _ _).symm.trans H; with_reducible exact H2_) | with_reducible exact H | (rw [hy570]; exact H) | exact H
      have Ny570 := Aside0.mk hy570
      clear hy570
      obtain rfl := Option.some.inj H
      go_enter Try.func33, Try.ntmps33
      go_wp2_with (first | ((with_reducible refine gate_callee (f := 32) rfl ?_); refine goesL_ (some 7) rfl rfl Try.func32 (by kernel_rfl) rfl #[.int .i32 a0] rfl (by (try simp only [List.map_toArray, List.map_cons, List.map_nil]); first | done | rfl | (simp only [List.length_drop, List.length_take]; rfl)) ?_; (with_reducible refine (toponymref04_Syllable.calls a0 true _ A2.out).mono ?_); rintro e w' ⟨rfl, ⟨nd, rfl⟩⟩; refine ⟨_, rfl, ?_⟩) | ((with_reducible refine gate_dst (N := 27) rfl ?_); refine Kd.R_lit (Kd.int .i32) _ 21 ?hg (N := 27) ?hd (xs := ([wrap32 (4352 + (wrap32 (Int.tdiv (wrap32 (a0 - 44032)) 588))), wrap32 (4449 + (Int.tmod (wrap32 (Int.tdiv (wrap32 (a0 - 44032)) 28)) 21))] : List Int)) (inner := [.int .i32 (wrap32 (4352 + (wrap32 (Int.tdiv (wrap32 (a0 - 44032)) 588)))), .int .i32 (wrap32 (4449 + (Int.tmod (wrap32 (Int.tdiv (wrap32 (a0 - 44032)) 28)) 21)))]) (ok := fun _ => True) (okp := fun _ => True) ?hr ?hp (fun _ hk => hk) trivial (Below.refl _ _) (Nat.le_refl _) (by simp) ?_; (case hd => rfl); (case hg => rfl); (case hr => first | (go_simp; done) | (go_simp; rfl)); (case hp => exact (Reps.one (show Kd.M (Kd.int .i32) _ _ _ (wrap32 (4352 + (wrap32 (Int.tdiv (wrap32 (a0 - 44032)) 588)))) [.int .i32 (wrap32 (4352 + (wrap32 (Int.tdiv (wrap32 (a0 - 44032)) 588))))] from rfl) (Reps.one (show Kd.M (Kd.int .i32) _ _ _ (wrap32 (4449 + (Int.tmod (wrap32 (Int.tdiv (wrap32 (a0 - 44032)) 28)) 21))) [.int .i32 (wrap32 (4449 + (Int.tmod (wrap32 (Int.tdiv (wrap32 (a0 - 44032)) 28)) 21)))] from rfl) (Reps.none _ _)))); intro v571 w5 ho6 hb hg_ hnew_; clear hg_ hnew_; (first | rw [← Ny570.out] at ho6 | (simp only [Int.reduceToNat] at ho6; rw [← Ny570.out] at ho6)); have n0_ := Aside0.mk (Kd.R_lower ho6 (below_size (by repeat (first | (with_reducible first | exact HB.out | apply below_alloc | apply pw_below_drewN | apply below_drew1) | exact HB.out)))); have n1_ := Aside0.mk (below_step (by repeat (first | (with_reducible first | exact HB.out | apply below_alloc | apply pw_below_drewN | apply below_drew1) | exact HB.out)) hb); clear HB; have HO572 := n0_; have HB := n1_; clear n0_ n1_; clear hb ho6))
      go_ret
      exact ⟨_, by first | rfl | (simp [errW_none, errW_some] <;> rfl) | (simp [*, errW_none, errW_some] <;> rfl), by (with_reducible repeat (first | apply Kd.R_alloc | apply Kd.R_drewN | apply Kd.R_drew)); exact HO572.out, by repeat (first | (with_reducible first | exact HB.out | apply below_alloc | apply pw_below_drewN | apply below_drew1) | exact HB.out)⟩
    · rw [if_neg c4] at H
      have c4b0 : ((Int.tmod (wrap32 (a0 - 44032)) 28) == 0) = false := beq_eq_false_iff_ne.mpr c4
      have c4b1 : ((Int.tmod (wrap32 (a0 - 44032)) 28) != 0) = true := bne_iff_ne.mpr c4
      obtain ⟨y573, hy573⟩ : ∃ y_ : List Int, y_ = (([wrap32 (4352 + (wrap32 (Int.tdiv (wrap32 (a0 - 44032)) 588))), wrap32 (4449 + (Int.tmod (wrap32 (Int.tdiv (wrap32 (a0 - 44032)) 28)) 21)), wrap32 (4519 + (Int.tmod (wrap32 (a0 - 44032)) 28))] : List Int)) := ⟨_, rfl⟩
      replace H : (some y573) = some r := by first | (rw [hy573]; with_reducible exact H) | (have H2_ := (Option.bind_some _ _).symm.trans H; rw [hy573]; with_reducible exact H2_) | (have H2_ := (Option.bind_some _ _).symm.trans H; with_reducible exact H2_) | with_reducible exact H | (rw [hy573]; exact H) | exact H
      have Ny573 := Aside0.mk hy573
      clear hy573
      obtain rfl := Option.some.inj H
      go_enter Try.func33, Try.ntmps33
      go_wp2_with (first | ((with_reducible refine gate_callee (f := 32) rfl ?_); refine goesL_ (some 7) rfl rfl Try.func32 (by kernel_rfl) rfl #[.int .i32 a0] rfl (by (try simp only [List.map_toArray, List.map_cons, List.map_nil]); first | done | rfl | (simp only [List.length_drop, List.length_take]; rfl)) ?_; (with_reducible refine (toponymref04_Syllable.calls a0 true _ A2.out).mono ?_); rintro e w' ⟨rfl, ⟨nd, rfl⟩⟩; refine ⟨_, rfl, ?_⟩) | ((with_reducible refine gate_dst (N := 34) rfl ?_); refine Kd.R_lit (Kd.int .i32) _ 21 ?hg (N := 34) ?hd (xs := ([wrap32 (4352 + (wrap32 (Int.tdiv (wrap32 (a0 - 44032)) 588))), wrap32 (4449 + (Int.tmod (wrap32 (Int.tdiv (wrap32 (a0 - 44032)) 28)) 21)), wrap32 (4519 + (Int.tmod (wrap32 (a0 - 44032)) 28))] : List Int)) (inner := [.int .i32 (wrap32 (4352 + (wrap32 (Int.tdiv (wrap32 (a0 - 44032)) 588)))), .int .i32 (wrap32 (4449 + (Int.tmod (wrap32 (Int.tdiv (wrap32 (a0 - 44032)) 28)) 21))), .int .i32 (wrap32 (4519 + (Int.tmod (wrap32 (a0 - 44032)) 28)))]) (ok := fun _ => True) (okp := fun _ => True) ?hr ?hp (fun _ hk => hk) trivial (Below.refl _ _) (Nat.le_refl _) (by simp) ?_; (case hd => rfl); (case hg => rfl); (case hr => first | (go_simp; done) | (go_simp; rfl)); (case hp => exact (Reps.one (show Kd.M (Kd.int .i32) _ _ _ (wrap32 (4352 + (wrap32 (Int.tdiv (wrap32 (a0 - 44032)) 588)))) [.int .i32 (wrap32 (4352 + (wrap32 (Int.tdiv (wrap32 (a0 - 44032)) 588))))] from rfl) (Reps.one (show Kd.M (Kd.int .i32) _ _ _ (wrap32 (4449 + (Int.tmod (wrap32 (Int.tdiv (wrap32 (a0 - 44032)) 28)) 21))) [.int .i32 (wrap32 (4449 + (Int.tmod (wrap32 (Int.tdiv (wrap32 (a0 - 44032)) 28)) 21)))] from rfl) (Reps.one (show Kd.M (Kd.int .i32) _ _ _ (wrap32 (4519 + (Int.tmod (wrap32 (a0 - 44032)) 28))) [.int .i32 (wrap32 (4519 + (Int.tmod (wrap32 (a0 - 44032)) 28)))] from rfl) (Reps.none _ _))))); intro v574 w7 ho8 hb hg_ hnew_; clear hg_ hnew_; (first | rw [← Ny573.out] at ho8 | (simp only [Int.reduceToNat] at ho8; rw [← Ny573.out] at ho8)); have n0_ := Aside0.mk (Kd.R_lower ho8 (below_size (by repeat (first | (with_reducible first | exact HB.out | apply below_alloc | apply pw_below_drewN | apply below_drew1) | exact HB.out)))); have n1_ := Aside0.mk (below_step (by repeat (first | (with_reducible first | exact HB.out | apply below_alloc | apply pw_below_drewN | apply below_drew1) | exact HB.out)) hb); clear HB; have HO575 := n0_; have HB := n1_; clear n0_ n1_; clear hb ho8))
      go_ret
      exact ⟨_, by first | rfl | (simp [errW_none, errW_some] <;> rfl) | (simp [*, errW_none, errW_some] <;> rfl), by (with_reducible repeat (first | apply Kd.R_alloc | apply Kd.R_drewN | apply Kd.R_drew)); exact HO575.out, by repeat (first | (with_reducible first | exact HB.out | apply below_alloc | apply pw_below_drewN | apply below_drew1) | exact HB.out)⟩
  · replace c3 := Bool.eq_false_iff.mpr c3
    subst c3
    have H1 : (some (([a0] : List Int))) = some r := by rw [if_neg (show ¬ (false = true) by decide)] at H; exact H
    clear H
    have H := H1
    clear H1
    obtain ⟨y576, hy576⟩ : ∃ y_ : List Int, y_ = (([a0] : List Int)) := ⟨_, rfl⟩
    replace H : (some y576) = some r := by first | (rw [hy576]; with_reducible exact H) | (have H2_ := (Option.bind_some _ _).symm.trans H; rw [hy576]; with_reducible exact H2_) | (have H2_ := (Option.bind_some _ _).symm.trans H; with_reducible exact H2_) | with_reducible exact H | (rw [hy576]; exact H) | exact H
    have Ny576 := Aside0.mk hy576
    clear hy576
    obtain rfl := Option.some.inj H
    go_enter Try.func33, Try.ntmps33
    go_wp2_with (first | ((with_reducible refine gate_callee (f := 32) rfl ?_); refine goesL_ (some 7) rfl rfl Try.func32 (by kernel_rfl) rfl #[.int .i32 a0] rfl (by (try simp only [List.map_toArray, List.map_cons, List.map_nil]); first | done | rfl | (simp only [List.length_drop, List.length_take]; rfl)) ?_; (with_reducible refine (toponymref04_Syllable.calls a0 false _ A2.out).mono ?_); rintro e w' ⟨rfl, ⟨nd, rfl⟩⟩; refine ⟨_, rfl, ?_⟩) | ((with_reducible refine gate_dst (N := 10) rfl ?_); refine Kd.R_lit (Kd.int .i32) _ 21 ?hg (N := 10) ?hd (xs := ([a0] : List Int)) (inner := [.int .i32 a0]) (ok := fun _ => True) (okp := fun _ => True) ?hr ?hp (fun _ hk => hk) trivial (Below.refl _ _) (Nat.le_refl _) (by simp) ?_; (case hd => rfl); (case hg => rfl); (case hr => first | (go_simp; done) | (go_simp; rfl)); (case hp => exact (Reps.one (show Kd.M (Kd.int .i32) _ _ _ a0 [.int .i32 a0] from rfl) (Reps.none _ _))); intro v577 w9 ho10 hb hg_ hnew_; clear hg_ hnew_; (first | rw [← Ny576.out] at ho10 | (simp only [Int.reduceToNat] at ho10; rw [← Ny576.out] at ho10)); have n0_ := Aside0.mk (Kd.R_lower ho10 (below_size (by repeat (first | (with_reducible first | exact HB.out | apply below_alloc | apply pw_below_drewN | apply below_drew1) | exact HB.out)))); have n1_ := Aside0.mk (below_step (by repeat (first | (with_reducible first | exact HB.out | apply below_alloc | apply pw_below_drewN | apply below_drew1) | exact HB.out)) hb); clear HB; have HO578 := n0_; have HB := n1_; clear n0_ n1_; clear hb ho10))
    go_ret
    exact ⟨_, by first | rfl | (simp [errW_none, errW_some] <;> rfl) | (simp [*, errW_none, errW_some] <;> rfl), by (with_reducible repeat (first | apply Kd.R_alloc | apply Kd.R_drewN | apply Kd.R_drew)); exact HO578.out, by repeat (first | (with_reducible first | exact HB.out | apply below_alloc | apply pw_below_drewN | apply below_drew1) | exact HB.out)⟩

-- NOT PRINTED: function 16 (toponymref05_One)

/-! ### slices_Equal_rune_rune: function 35 -/
def slices_Equal_rune_rune.l0 : Nat → List Int → List Int → Int → Int → Option (Bool)
  | 0, _, _, _, _ => none
  | k + 1, x0, x1, x12, x13 => if x13 < x12 then (if 0 ≤ x13 then (if x13 < (x0.length : Int) then (if x13 < (x1.length : Int) then (if (rd x0 x13) = (rd x1 x13) then (slices_Equal_rune_rune.l0 k x0 x1 x12 (wrap64 (x13 + 1))) else (some false)) else (none)) else (none)) else (none)) else (some true)
def slices_Equal_rune_rune.f (k : Nat) (l0 : List Int) (l1 : List Int) : Option (Bool) := if (l0.length : Int) = (l1.length : Int) then (slices_Equal_rune_rune.l0 k l0 l1 (l0.length : Int) 0) else (some false)
theorem slices_Equal_rune_rune.mono_l : ∀ k, (∀ y0 y1 y2 y3, LeO (slices_Equal_rune_rune.l0 k y0 y1 y2 y3) (slices_Equal_rune_rune.l0 (k + 1) y0 y1 y2 y3))
  | 0 => fun _ _ _ _ r h => by simp [slices_Equal_rune_rune.l0] at h
  | k + 1 => by
    have ih0 := slices_Equal_rune_rune.mono_l k
    · intro y0 y1 y2 y3
      unfold slices_Equal_rune_rune.l0
      repeat' first
      | (with_reducible exact ih0 _ _ _ _)
      | (with_reducible exact LeO.refl _)
      | (with_reducible exact LeO.none _)
      | (with_reducible refine LeO.ite ?_ ?_)
      | (with_reducible refine LeO.bind ?_ (fun _ => ?_))
      | exact ih0 _ _ _ _
      | exact LeO.none _
      | refine LeO.ite ?_ ?_
      | refine LeO.bind ?_ (fun _ => ?_)
theorem slices_Equal_rune_rune.mono : ∀ a0 a1 k, LeO (slices_Equal_rune_rune.f k a0 a1) (slices_Equal_rune_rune.f (k + 1) a0 a1) := by
  intro a0 a1 k
  have ih0 := slices_Equal_rune_rune.mono_l k
  unfold slices_Equal_rune_rune.f
  repeat' first
      | (with_reducible exact ih0 _ _ _ _)
      | (with_reducible exact LeO.refl _)
      | (with_reducible exact LeO.none _)
      | (with_reducible refine LeO.ite ?_ ?_)
      | (with_reducible refine LeO.bind ?_ (fun _ => ?_))
      | exact ih0 _ _ _ _
      | exact LeO.none _
      | refine LeO.ite ?_ ?_
      | refine LeO.bind ?_ (fun _ => ?_)
set_option maxHeartbeats 8000000 in
set_option maxRecDepth 100000 in
theorem slices_Equal_rune_rune.calls (k : Nat) (A0 : Option Addr) (c0 : Nat) (l0 : List Int) (A1 : Option Addr) (c1 : Nat) (l1 : List Int) (r : Bool) (w : World) (hr0 : Kd.C (Kd.int .i32) w A0 l0.length l0) (hc0 : l0.length ≤ c0) (hr1 : Kd.C (Kd.int .i32) w A1 l1.length l1) (hc1 : l1.length ≤ c1) (h : slices_Equal_rune_rune.f k l0 l1 = some r) :
    Calls Try.prog 35 #[.slice A0 l0.length c0, .slice A1 l1.length c1] w fun e w' => e = .returned (.bool r) ∧ Drawn0 w w' := by
  have HR0 := Aside0.mk hr0
  have HC0 := Aside0.mk hc0
  clear hr0 hc0
  have HR1 := Aside0.mk hr1
  have HC1 := Aside0.mk hc1
  clear hr1 hc1
  have H : (if (l0.length : Int) = (l1.length : Int) then (slices_Equal_rune_rune.l0 k l0 l1 (l0.length : Int) 0) else (some false)) = some r := h
  clear h
  by_cases c3 : (l0.length : Int) = (l1.length : Int)
  · rw [if_pos c3] at H
    have c3b0 : ((l0.length : Int) == (l1.length : Int)) = true := beq_iff_eq.mpr c3
    have c3b1 : ((l0.length : Int) != (l1.length : Int)) = false := bne_eq_false_iff_eq.mpr c3
    have c3b2 : (l0.length == l1.length) = true := by first | simpa using c3 | (simp at c3 ⊢; omega)
    clear c3
    have H' := Aside0.mk H
    clear H
    go_enter Try.func35, Try.ntmps35
    go_wp2
    repeat (go_quiet (fail); try go_wp2)
    go_loopg [13] k (fun kq v13 w' => ∃ (x13_1 : Int), v13 = .int .i64 x13_1 ∧ Aside0 (slices_Equal_rune_rune.l0 kq l0 l1 (l0.length : Int) x13_1 = some r) ∧ Aside0 (kq ≤ k) ∧ Drawn0 w w')
    case atStart => exact ⟨(0), (by first | rfl | (simp; done) | (simp [*]; done)), H', ⟨Nat.le_refl _⟩, by repeat (first | exact Drawn0.refl _ | apply Drawn0.step)⟩
    case round =>
      clear H'
      try clear c1
      try clear p2
      try clear c3
      try clear c3b0
      try clear c3b1
      try clear c3b2
      obtain ⟨x13_1, rfl, HA, HK1, ⟨m1, rfl⟩⟩ := hrel
      cases gk with
      | zero => exact absurd HA.out (by simp [slices_Equal_rune_rune.l0])
      | succ k1 =>
        have H := HA.out
        clear HA
        simp only [slices_Equal_rune_rune.l0] at H
        by_cases c4 : x13_1 < (l0.length : Int)
        · rw [if_pos c4] at H
          have c4b0 : decide (x13_1 < (l0.length : Int)) = true := decide_eq_true c4
          clear c4
          by_cases c5 : 0 ≤ x13_1
          · rw [if_pos c5] at H
            have c5b0 : decide (0 ≤ x13_1) = true := decide_eq_true c5
            clear c5
            by_cases c6 : x13_1 < (l0.length : Int)
            · rw [if_pos c6] at H
              have c6b0 : decide (x13_1 < (l0.length : Int)) = true := decide_eq_true c6
              clear c6
              by_cases c7 : x13_1 < (l1.length : Int)
              · rw [if_pos c7] at H
                have c7b0 : decide (x13_1 < (l1.length : Int)) = true := decide_eq_true c7
                clear c7
                by_cases c8 : (rd l0 x13_1) = (rd l1 x13_1)
                · rw [if_pos c8] at H
                  have c8b0 : ((rd l0 x13_1) == (rd l1 x13_1)) = true := beq_iff_eq.mpr c8
                  have c8b1 : ((rd l0 x13_1) != (rd l1 x13_1)) = false := bne_eq_false_iff_eq.mpr c8
                  clear c8
                  have H' := Aside0.mk H
                  clear H
                  have p586 : 0 ≤ (x13_1 : Int) := of_decide_eq_true (by first | (with_reducible assumption) | assumption)
                  have q586 : x13_1 < (l0.length : Int) := of_decide_eq_true (by first | (with_reducible assumption) | assumption)
                  obtain ⟨ad586, e586, hx586_0⟩ := Kd.at_int HR0.out x13_1 p586 q586
                  cases e586
                  replace p586 := eq_true p586
                  replace q586 := eq_true q586
                  have p587 : 0 ≤ (x13_1 : Int) := of_decide_eq_true (by first | (with_reducible assumption) | assumption)
                  have q587 : x13_1 < (l1.length : Int) := of_decide_eq_true (by first | (with_reducible assumption) | assumption)
                  obtain ⟨ad587, e587, hx587_0⟩ := Kd.at_int HR1.out x13_1 p587 q587
                  cases e587
                  replace p587 := eq_true p587
                  replace q587 := eq_true q587
                  go_wp2
                  repeat (go_quiet (fail); try go_wp2)
                  go_roundg k1
                  case measure => have := HK1.out; omega
                  case rel => exact ⟨(wrap64 (x13_1 + 1)), (by first | rfl | (simp; done) | (simp [*]; done)), H', ⟨by have := HK1.out; omega⟩, by repeat (first | exact Drawn0.refl _ | apply Drawn0.step)⟩
                · rw [if_neg c8] at H
                  have c8b0 : ((rd l0 x13_1) == (rd l1 x13_1)) = false := beq_eq_false_iff_ne.mpr c8
                  have c8b1 : ((rd l0 x13_1) != (rd l1 x13_1)) = true := bne_iff_ne.mpr c8
                  obtain rfl := Option.some.inj H
                  have p586 : 0 ≤ (x13_1 : Int) := of_decide_eq_true (by first | (with_reducible assumption) | assumption)
                  have q586 : x13_1 < (l0.length : Int) := of_decide_eq_true (by first | (with_reducible assumption) | assumption)
                  obtain ⟨ad586, e586, hx586_0⟩ := Kd.at_int HR0.out x13_1 p586 q586
                  cases e586
                  replace p586 := eq_true p586
                  replace q586 := eq_true q586
                  have p587 : 0 ≤ (x13_1 : Int) := of_decide_eq_true (by first | (with_reducible assumption) | assumption)
                  have q587 : x13_1 < (l1.length : Int) := of_decide_eq_true (by first | (with_reducible assumption) | assumption)
                  obtain ⟨ad587, e587, hx587_0⟩ := Kd.at_int HR1.out x13_1 p587 q587
                  cases e587
                  replace p587 := eq_true p587
                  replace q587 := eq_true q587
                  go_wp2
                  repeat (go_quiet (fail); try go_wp2)
                  go_ret
                  exact ⟨by first | rfl | (simp; done) | (simp [*]; done), by repeat (first | exact Drawn0.refl _ | apply Drawn0.step)⟩
              · rw [if_neg c7] at H
                exact absurd H (by simp)
            · rw [if_neg c6] at H
              exact absurd H (by simp)
          · rw [if_neg c5] at H
            exact absurd H (by simp)
        · rw [if_neg c4] at H
          have c4b0 : decide (x13_1 < (l0.length : Int)) = false := decide_eq_false c4
          clear c4
          obtain rfl := Option.some.inj H
          go_wp2
          repeat (go_quiet (fail); try go_wp2)
          go_ret
          exact ⟨by first | rfl | (simp; done) | (simp [*]; done), by repeat (first | exact Drawn0.refl _ | apply Drawn0.step)⟩
  · rw [if_neg c3] at H
    have c3b0 : ((l0.length : Int) == (l1.length : Int)) = false := beq_eq_false_iff_ne.mpr c3
    have c3b1 : ((l0.length : Int) != (l1.length : Int)) = true := bne_iff_ne.mpr c3
    have c3b2 : (l0.length == l1.length) = false := by first | simpa using c3 | (simp at c3 ⊢; omega)
    obtain rfl := Option.some.inj H
    go_enter Try.func35, Try.ntmps35
    go_wp2
    repeat (go_quiet (fail); try go_wp2)
    go_ret
    exact ⟨by first | rfl | (simp; done) | (simp [*]; done), by repeat (first | exact Drawn0.refl _ | apply Drawn0.step)⟩

/-! ### decomp_Apart: function 20 -/
def decomp_Apart.f (k : Nat) (a0 : Bool) (l1 : List Int) : Option (Bool) := (decomp_All.f k a0 l1).bind fun t588 => ((slices_Equal_rune_rune.f k t588 l1).bind fun t591 => (some t591))
theorem decomp_Apart.mono : ∀ a0 a1 k, LeO (decomp_Apart.f k a0 a1) (decomp_Apart.f (k + 1) a0 a1) := by
  intro a0 a1 k
  unfold decomp_Apart.f
  repeat' first
      | (with_reducible exact decomp_All.mono _ _ _)
      | (with_reducible exact slices_Equal_rune_rune.mono _ _ _)
      | (with_reducible exact LeO.refl _)
      | (with_reducible exact LeO.none _)
      | (with_reducible refine LeO.ite ?_ ?_)
      | (with_reducible refine LeO.bind ?_ (fun _ => ?_))
      | exact decomp_All.mono _ _ _
      | exact slices_Equal_rune_rune.mono _ _ _
      | exact LeO.none _
      | refine LeO.ite ?_ ?_
      | refine LeO.bind ?_ (fun _ => ?_)
set_option maxHeartbeats 8000000 in
set_option maxRecDepth 100000 in
theorem decomp_Apart.calls (k : Nat) (a0 : Bool) (A1 : Option Addr) (c1 : Nat) (l1 : List Int) (r : Bool) (w : World) (hr1 : Kd.C (Kd.int .i32) w A1 l1.length l1) (hc1 : l1.length ≤ c1) (h : decomp_Apart.f k a0 l1 = some r) :
    Calls Try.prog 20 #[.bool a0, .slice A1 l1.length c1] w fun e w' => e = .returned (.bool r) ∧ Below w.heap.size w w' := by
  have HR1 := Aside0.mk hr1
  have HC1 := Aside0.mk hc1
  clear hr1 hc1
  have HB := Aside0.mk (Below.refl w.heap.size w)
  have H : ((decomp_All.f k a0 l1).bind fun t588 => ((slices_Equal_rune_rune.f k t588 l1).bind fun t591 => (some t591))) = some r := h
  clear h
  replace H := Option.bind_eq_some_iff.mp H
  obtain ⟨t588, A30, H⟩ := H
  replace H : ((slices_Equal_rune_rune.f k t588 l1).bind fun t591 => (some t591)) = some r := H
  have A3 := Aside0.mk A30
  clear A30
  replace H := Option.bind_eq_some_iff.mp H
  obtain ⟨t591, A40, H⟩ := H
  replace H : (some t591) = some r := H
  have A4 := Aside0.mk A40
  clear A40
  obtain rfl := Option.some.inj H
  go_enter Try.func20, Try.ntmps20
  go_wp2_with (first | ((with_reducible refine gate_callee (f := 19) rfl ?_); refine goesL_ (some 7) rfl rfl Try.func19 (by kernel_rfl) rfl #[.bool a0, .slice A1 l1.length c1] rfl (by (try simp only [List.map_toArray, List.map_cons, List.map_nil]); first | done | rfl | (simp only [List.length_drop, List.length_take]; rfl)) ?_; (with_reducible refine (decomp_All.calls k a0 _ _ l1 t588 _ ?side1 ?side2 A3.out).mono ?_); (case side1 => repeat (first | exact HR1.out | (with_reducible refine Kd.C_alloc ?_ _) | (with_reducible refine Kd.C_drewN ?_ _) | (with_reducible refine Kd.C_drew ?_))); (case side2 => exact HC1.out); rintro e w5 ⟨v589, rfl, ho0, hb⟩; refine ⟨_, rfl, ?_⟩; have n0_ := Aside0.mk (Kd.R_lower ho0 (below_size (by repeat (first | (with_reducible first | exact HB.out | apply below_alloc | apply pw_below_drewN | apply below_drew1) | exact HB.out)))); have n1_ := Aside0.mk (below_step (by repeat (first | (with_reducible first | exact HB.out | apply below_alloc | apply pw_below_drewN | apply below_drew1) | exact HB.out)) hb); clear HB; have HO590 := n0_; have HB := n1_; clear n0_ n1_; (try clear hb); (try clear hb2); (try clear hk); (try clear hi); (try clear ho0); obtain ⟨Ao6, co6, eo6⟩ := Kd.R_slice HO590.out; subst eo6) | ((with_reducible refine gate_callee (f := 35) rfl ?_); refine goesL_ (some 9) rfl rfl Try.func35 (by kernel_rfl) rfl #[.slice Ao6 t588.length co6, .slice A1 l1.length c1] rfl (by (try simp only [List.map_toArray, List.map_cons, List.map_nil]); first | done | rfl | (simp only [List.length_drop, List.length_take]; rfl)) ?_; (with_reducible refine (slices_Equal_rune_rune.calls k _ _ t588 _ _ l1 t591 _ ?side1 ?side2 ?side3 ?side4 A4.out).mono ?_); (case side1 => repeat (first | exact (Kd.R_reads' HO590.out).2.2 | (with_reducible refine Kd.C_alloc ?_ _) | (with_reducible refine Kd.C_drewN ?_ _) | (with_reducible refine Kd.C_drew ?_))); (case side2 => exact (Kd.R_reads' HO590.out).2.1); (case side3 => repeat (first | exact (Kd.C_below HR1.out HB.out) | (with_reducible refine Kd.C_alloc ?_ _) | (with_reducible refine Kd.C_drewN ?_ _) | (with_reducible refine Kd.C_drew ?_))); (case side4 => exact HC1.out); rintro e w' ⟨rfl, ⟨nd, rfl⟩⟩; refine ⟨_, rfl, ?_⟩))
  go_ret
  exact ⟨by first | rfl | (simp [errW_none, errW_some] <;> rfl) | (simp [*, errW_none, errW_some] <;> rfl), by repeat (first | (with_reducible first | exact HB.out | apply below_alloc | apply pw_below_drewN | apply below_drew1) | exact HB.out)⟩

end Go.Proofs.Ytkdabdgofnaplaa.P
