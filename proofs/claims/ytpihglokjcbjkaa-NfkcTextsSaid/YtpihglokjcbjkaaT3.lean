-- Printed by wip/mk.py (this session's driver over the kit's print) and from wip/manual.
import Derived.Test.YtpihglokjcbjkaaT0
import Derived.Test.YtpihglokjcbjkaaT1
import Derived.Test.YtpihglokjcbjkaaT2
namespace Go.Proofs.Ytpihglokjcbjkaa.P
open Go.RowKit Go.Proofs.YtpihglokjcbjkaaW.PrintWords Go.Proofs.YtpihglokjcbjkaaW.PrintLast Go.Proofs.YtpihglokjcbjkaaW.PrintMore
attribute [local go_sem] max2_int min2_int max_two min_two max_three min_three max_four min_four   -- for this text's walks alone
set_option linter.unusedVariables false
set_option linter.unusedSimpArgs false

/-! ### decomp_One: function 32, by hand (decomp.One.tpl), and decomp_All: function 17 -/
mutual
def decomp_One.f : Nat → Int → Bool → Option (List Int)
  | 0, _, _ => none
  | k + 1, r, b => (hangul_Syllable.f r).bind fun s => if s = true then hangul_Apart.f r else ((decomp_Pair.f k r).bind fun p => if p.2.2 = true then (if 44032 ≤ p.1 ∧ p.1 ≤ 55203 then none else ((decomp_One.f k p.1 b).bind fun x => if x.length < 35184372088832 then some (x ++ [p.2.1]) else none)) else ((decomp_Single.f k r).bind fun q => if q.2 = true then (if 44032 ≤ q.1 ∧ q.1 ≤ 55203 then none else decomp_One.f k q.1 b) else ((decomp_Loose.f k r).bind fun l => if b = true then (if (l.length : Int) > 0 then decomp_All.l0 k b [] l (l.length : Int) 0 else some [r]) else some [r])))
def decomp_All.l0 : Nat → Bool → List Int → List Int → Int → Int → Option (List Int)
 | 0, _, _, _, _, _ => none
 | k + 1, x0, x5, x8, x9, x10 => if x10 < x9 then (if 0 ≤ x10 then (if x10 < (x8.length : Int) then (if (rd x8 x10) < 128 then (if x5.length < 35184372088832 then (decomp_All.l0 k x0 (x5 ++ [rd x8 x10]) x8 x9 (wrap64 (x10 + 1))) else (none)) else ((chars_Class.f k (rd x8 x10)).bind fun t175 => (if t175 > 0 then (if x5.length < 35184372088832 then (decomp_All.l0 k x0 (x5 ++ [rd x8 x10]) x8 x9 (wrap64 (x10 + 1))) else (none)) else ((decomp_One.f k (rd x8 x10) x0).bind fun t179 => (if x5.length + t179.length < 35184372088832 then (decomp_All.l0 k x0 (x5 ++ t179) x8 x9 (wrap64 (x10 + 1))) else (none)))))) else (none)) else (none)) else (some x5)
end
def decomp_All.f (k : Nat) (a0 : Bool) (l1 : List Int) : Option (List Int) := decomp_All.l0 k a0 ([] : List Int) l1 (l1.length : Int) 0
theorem decomp_One.mono_l : ∀ k, (∀ y0 y1, LeO (decomp_One.f k y0 y1) (decomp_One.f (k + 1) y0 y1)) ∧ (∀ y0 y1 y2 y3 y4, LeO (decomp_All.l0 k y0 y1 y2 y3 y4) (decomp_All.l0 (k + 1) y0 y1 y2 y3 y4))
  | 0 => ⟨fun _ _ r h => by simp [decomp_One.f] at h, fun _ _ _ _ _ r h => by simp [decomp_All.l0] at h⟩
  | k + 1 => by
    obtain ⟨ih0, ih1⟩ := decomp_One.mono_l k
    refine ⟨?_, ?_⟩
    · intro y0 y1
      unfold decomp_One.f
      repeat' first
        | (with_reducible exact ih0 _ _)
        | (with_reducible exact ih1 _ _ _ _ _)
        | (with_reducible exact decomp_Pair.mono _ _)
        | (with_reducible exact decomp_Single.mono _ _)
        | (with_reducible exact decomp_Loose.mono _ _)
        | (with_reducible exact LeO.refl _)
        | (with_reducible refine LeO.ite ?_ ?_)
        | (with_reducible refine LeO.bind ?_ (fun _ => ?_))
    · intro y0 y1 y2 y3 y4
      unfold decomp_All.l0
      repeat' first
        | (with_reducible exact ih1 _ _ _ _ _)
        | (with_reducible exact ih0 _ _)
        | (with_reducible exact chars_Class.mono _ _)
        | (with_reducible exact LeO.refl _)
        | (with_reducible refine LeO.ite ?_ ?_)
        | (with_reducible refine LeO.bind ?_ (fun _ => ?_))
theorem decomp_One.mono : ∀ a0 a1 k, LeO (decomp_One.f k a0 a1) (decomp_One.f (k + 1) a0 a1) := fun a0 a1 k => (decomp_One.mono_l k).1 _ _
theorem decomp_All.mono : ∀ a0 a1 k, LeO (decomp_All.f k a0 a1) (decomp_All.f (k + 1) a0 a1) := fun a0 a1 k => (decomp_One.mono_l k).2 _ _ _ _ _
/-- The contract of One, at one number of rounds. -/
def decomp_One.Says (k : Nat) : Prop := ∀ (a0 : Int) (a1 : Bool) (r : List Int) (w : World), decomp_One.f k a0 a1 = some r →
    Calls Try.prog 32 #[.int .i32 a0, .bool a1] w fun e w' => ∃ v0_ : Value, e = .returned (v0_) ∧ Kd.V (Kd.int .i32) 21 w' w.heap.size (fun k_ => (w.heap.size ≤ k_)) (v0_) (r) ∧ Below w.heap.size w w'
theorem decomp_One.Says.use {k : Nat} (h : decomp_One.Says k) (a0 : Int) (a1 : Bool) (r : List Int) (w : World) (H : decomp_One.f k a0 a1 = some r) :
    Calls Try.prog 32 #[.int .i32 a0, .bool a1] w fun e w' => ∃ v0_ : Value, e = .returned (v0_) ∧ Kd.V (Kd.int .i32) 21 w' w.heap.size (fun k_ => (w.heap.size ≤ k_)) (v0_) (r) ∧ Below w.heap.size w w' := h a0 a1 r w H
/-- The same of what is no syllable: a row of the call's own. -/
def decomp_One.Own (k : Nat) : Prop := ∀ (a0 : Int) (a1 : Bool) (r : List Int) (w : World), ¬ (44032 ≤ a0 ∧ a0 ≤ 55203) → decomp_One.f k a0 a1 = some r →
    Calls Try.prog 32 #[.int .i32 a0, .bool a1] w fun e w' => ∃ v0_ : Value, e = .returned (v0_) ∧ Kd.R (Kd.int .i32) 21 w' w.heap.size (fun _ => True) (v0_) (r) ∧ Below w.heap.size w w'
set_option maxHeartbeats 8000000 in
set_option maxRecDepth 100000 in
theorem decomp_One.says_of (k : Nat) (ho : decomp_One.Own k) : decomp_One.Says k := by
  intro a0 a1 r w h
  by_cases hs : 44032 ≤ a0 ∧ a0 ≤ 55203
  · cases k with
    | zero => exact absurd h (by simp [decomp_One.f])
    | succ k =>
      simp only [decomp_One.f] at h
      have A : hangul_Syllable.f a0 = some true := by
        unfold hangul_Syllable.f
        rw [if_pos hs.1]
        simp [hs.2]
      rw [A] at h
      simp only [Option.bind_some, if_true] at h
      have A' := Aside0.mk A
      have H' := Aside0.mk h
      clear A h hs ho
      go_enter Try.func32, Try.ntmps32
      go_wp2_with fail
      (with_reducible refine (hangul_Syllable.calls a0 _ _ A'.out).mono ?_)
      rintro e w1 ⟨rfl, hd⟩
      have HD := Aside0.mk hd
      clear hd
      go_wp2_with fail
      (with_reducible refine (hangul_Apart.calls a0 r _ H'.out).mono ?_)
      rintro e w2 ⟨v, rfl, ho, hb⟩
      have HO := Aside0.mk ho
      have HB := Aside0.mk hb
      clear ho hb
      go_wp2
      go_ret
      exact ⟨_, rfl, Kd.V_mono HO.out (fun k_ hk => Nat.le_trans HD.out.below.size hk), below_then HD.out.below HD.out.below.size HB.out⟩
  · refine (ho a0 a1 r w hs h).mono ?_
    rintro e w1 ⟨v, rfl, hr, hb⟩
    exact ⟨v, rfl, Kd.V_mono (Kd.R_V (Kd.R_bound hr)) (fun k_ hk => hk.2.1), hb⟩
set_option maxHeartbeats 8000000 in
set_option maxRecDepth 100000 in
theorem decomp_All.calls_of (k : Nat) (hOne : ∀ k1, k1 < k → decomp_One.Says k1) (a0 : Bool) (A1 : Option Addr) (c1 : Nat) (l1 : List Int) (r : List Int) (w : World) (hr1 : Kd.C (Kd.int .i32) w A1 l1.length l1) (hc1 : l1.length ≤ c1) (h : decomp_All.f k a0 l1 = some r) :
  Calls Try.prog 17 #[.bool a0, .slice A1 l1.length c1] w fun e w' => ∃ v0_ : Value, e = .returned (v0_) ∧ Kd.R (Kd.int .i32) 21 w' w.heap.size (fun _ => True) v0_ r ∧ Below w.heap.size w w' := by
 have HR1 := aM hr1
 have HC1 := aM hc1
 clear hr1 hc1
 have HB := aM (Below.refl w.heap.size w)
 have H : (decomp_All.l0 k a0 ([] : List Int) l1 (l1.length : Int) 0) = some r := h
 clear h
 have H' := aM H
 clear H
 go_enter Try.func17, Try.ntmps17
 go_wp2
 go_loopg [5, 10] k (fun kq v5 v10 w' => ∃ (x5_1 : List Int) (x10_1 : Int), v10 = .int .i64 x10_1 ∧ Aside0 (decomp_All.l0 kq a0 x5_1 l1 (l1.length : Int) x10_1 = some r) ∧ Aside0 (kq ≤ k) ∧ Aside0 (Kd.R (Kd.int .i32) 21 w' w.heap.size (fun _ => True) v5 x5_1) ∧ Aside0 (Below w.heap.size w w'))
 case atStart => exact ⟨(([] : List Int)), (0), zP, H', ⟨Nat.le_refl _⟩, ⟨zL⟩, ⟨zB⟩⟩
 case round =>
  clear H'
  try clear c1
  try clear p2
  obtain ⟨x5_1, x10_1, rfl, HA, HK1, HO_5, HB⟩ := hrel
  cases gk with
  | zero => exact absurd HA.out (by simp [decomp_All.l0])
  | succ k1 =>
   have H := HA.out
   clear HA
   simp only [decomp_All.l0] at H
   by_cases c3 : x10_1 < (l1.length : Int)
   ·rw [if_pos c3] at H
    have c3b0 : decide (x10_1 < (l1.length : Int)) = true := decide_eq_true c3
    clear c3
    by_cases c4 : 0 ≤ x10_1
    ·rw [if_pos c4] at H
     have c4b0 : decide (0 ≤ x10_1) = true := decide_eq_true c4
     clear c4
     by_cases c5 : x10_1 < (l1.length : Int)
     ·rw [if_pos c5] at H
      have c5b0 : decide (x10_1 < (l1.length : Int)) = true := decide_eq_true c5
      clear c5
      by_cases c6 : (rd l1 x10_1) < 128
      ·rw [if_pos c6] at H
       have c6b0 : decide ((rd l1 x10_1) < 128) = true := decide_eq_true c6
       clear c6
       by_cases c7 : x5_1.length < 35184372088832
       ·rw [if_pos c7] at H
        have LMc7 := aM c7
        clear c7
        obtain ⟨y172, hy172⟩ : ∃ y_ : List Int, y_ = (x5_1 ++ [rd l1 x10_1]) := ⟨_, rfl⟩
        replace H : (decomp_All.l0 k1 a0 y172 l1 (l1.length : Int) (wrap64 (x10_1 + 1))) = some r := zY hy172 H
        have Ny172 := aM hy172
        clear hy172
        have H' := aM H
        clear H
        have p171 : 0 ≤ (x10_1 : Int) := zoA
        have q171 : x10_1 < (l1.length : Int) := zoA
        obtain ⟨ad171, e171, hx171_0⟩ := Kd.at_int HR1.out x10_1 p171 q171
        cases e171
        replace hx171_0 := (HB.out.cell (World.block_lt_of_cell? w _ hx171_0)).trans hx171_0
        replace p171 := eq_true p171
        replace q171 := eq_true q171
        go_wp2_with (first | ((with_reducible refine gate_builtin (b := .append) (xs := #[.tmp 21, .tmp 23]) rfl ?_); at_builtin; refine Kd.R_append (Kd.int .i32) (w0 := w) w.heap.size rfl (.tmp 21) (.tmp 23) 22 21 (.int .i32 0) 4 rfl Try.underlying22 info21 rfl (by decide) (by omega) u5 x5_1 (rd l1 x10_1) [.int .i32 (rd l1 x10_1)] (fun _ => True) (fun _ => False) rfl rfl ?aP (fun _ hk => hk.elim) ?aF ?aO ?aB ?aS ?aL ?_; (case aP => exact rfl); (case aB => exact zB); (case aF => exact (fun _ _ => trivial)); (case aO => exact (zR HO_5)); (case aS => exact (below_size zB)); (case aL => have := LMc7.out; omega); intro v173 w8 ho hb hg hat; rw [← Ny172.out] at ho; have n_ := zI (aM (hb)) (aM (ho)); clear HB HO_5; obtain ⟨HB, HO174⟩ := n_; clear ho hb hg hat))
        go_roundg k1
        case measure => have := HK1.out; omega
        case rel => exact ⟨(y172), (wrap64 (x10_1 + 1)), zP, H', ⟨by have := HK1.out; omega⟩, ⟨zR HO174⟩, ⟨zB⟩⟩
       ·rw [if_neg c7] at H
        exact absurd H (by simp)
      ·rw [if_neg c6] at H
       have c6b0 : decide ((rd l1 x10_1) < 128) = false := decide_eq_false c6
       clear c6
       obtain ⟨t175, A9, H⟩ := zO H
       by_cases c10 : t175 > 0
       ·rw [if_pos c10] at H
        have c10b0 : decide (0 < t175) = true := decide_eq_true c10
        clear c10
        by_cases c11 : x5_1.length < 35184372088832
        ·rw [if_pos c11] at H
         have LMc11 := aM c11
         clear c11
         obtain ⟨y176, hy176⟩ : ∃ y_ : List Int, y_ = (x5_1 ++ [rd l1 x10_1]) := ⟨_, rfl⟩
         replace H : (decomp_All.l0 k1 a0 y176 l1 (l1.length : Int) (wrap64 (x10_1 + 1))) = some r := zY hy176 H
         have Ny176 := aM hy176
         clear hy176
         have H' := aM H
         clear H
         have p171 : 0 ≤ (x10_1 : Int) := zoA
         have q171 : x10_1 < (l1.length : Int) := zoA
         obtain ⟨ad171, e171, hx171_0⟩ := Kd.at_int HR1.out x10_1 p171 q171
         cases e171
         replace hx171_0 := (HB.out.cell (World.block_lt_of_cell? w _ hx171_0)).trans hx171_0
         replace p171 := eq_true p171
         replace q171 := eq_true q171
         go_wp2_with (first | (go_at_call 31; (with_reducible refine (chars_Class.calls k1 (rd l1 x10_1) t175 _ A9.out).mono ?_); rintro e w' ⟨rfl, ⟨nd, rfl⟩⟩) | ((with_reducible refine gate_builtin (b := .append) (xs := #[.tmp 21, .tmp 23]) rfl ?_); at_builtin; refine Kd.R_append (Kd.int .i32) (w0 := w) w.heap.size rfl (.tmp 21) (.tmp 23) 22 21 (.int .i32 0) 4 rfl Try.underlying22 info21 rfl (by decide) (by omega) u5 x5_1 (rd l1 x10_1) [.int .i32 (rd l1 x10_1)] (fun _ => True) (fun _ => False) rfl rfl ?aP (fun _ hk => hk.elim) ?aF ?aO ?aB ?aS ?aL ?_; (case aP => exact rfl); (case aB => exact zB); (case aF => exact (fun _ _ => trivial)); (case aO => exact (zR HO_5)); (case aS => exact (below_size zB)); (case aL => have := LMc11.out; omega); intro v177 w12 ho hb hg hat; rw [← Ny176.out] at ho; have n_ := zI (aM (hb)) (aM (ho)); clear HB HO_5; obtain ⟨HB, HO178⟩ := n_; clear ho hb hg hat))
         go_roundg k1
         case measure => have := HK1.out; omega
         case rel => exact ⟨(y176), (wrap64 (x10_1 + 1)), zP, H', ⟨by have := HK1.out; omega⟩, ⟨zR HO178⟩, ⟨zB⟩⟩
        ·rw [if_neg c11] at H
         exact absurd H (by simp)
       ·rw [if_neg c10] at H
        have c10b0 : decide (0 < t175) = false := decide_eq_false c10
        clear c10
        obtain ⟨t179, A13, H⟩ := zO H
        by_cases c14 : x5_1.length + t179.length < 35184372088832
        ·rw [if_pos c14] at H
         have LMc14 := aM c14
         clear c14
         obtain ⟨y182, hy182⟩ : ∃ y_ : List Int, y_ = (x5_1 ++ t179) := ⟨_, rfl⟩
         replace H : (decomp_All.l0 k1 a0 y182 l1 (l1.length : Int) (wrap64 (x10_1 + 1))) = some r := zY hy182 H
         have Ny182 := aM hy182
         clear hy182
         have H' := aM H
         clear H
         have p171 : 0 ≤ (x10_1 : Int) := zoA
         have q171 : x10_1 < (l1.length : Int) := zoA
         obtain ⟨ad171, e171, hx171_0⟩ := Kd.at_int HR1.out x10_1 p171 q171
         cases e171
         replace hx171_0 := (HB.out.cell (World.block_lt_of_cell? w _ hx171_0)).trans hx171_0
         replace p171 := eq_true p171
         replace q171 := eq_true q171
         go_wp2_with (first | (go_at_call 31; (with_reducible refine (chars_Class.calls k1 (rd l1 x10_1) t175 _ A9.out).mono ?_); rintro e w' ⟨rfl, ⟨nd, rfl⟩⟩) | ((with_reducible refine gate_callee (f := 32) rfl ?_); refine goesL_ (some 28) rfl rfl Try.func32 zK rfl #[.int .i32 (rd l1 x10_1), .bool a0] rfl zM ?_; (with_reducible refine (decomp_One.Says.use (hOne k1 (by have := HK1.out; omega)) (rd l1 x10_1) a0 t179 _ A13.out).mono ?_); rintro e w15 ⟨v180, rfl, ho0, hb⟩; refine ⟨_, rfl, ?_⟩; have n_ := zI (aM (Kd.R_below (zR HO_5) hb)) (zI (aM (Kd.V_lower (Kd.V_mono (ok' := fun k_ => some k_ ≠ (u5 : Value).ownBlock) ho0 (fun k_ hk_ => (Kd.fresh' (Kd.R_lt (zR HO_5)) k_ hk_))) (below_size zB))) (aM (below_step zB hb))); clear HO_5 HB; obtain ⟨HO_5, HO181, HB⟩ := n_; (try clear hb); (try clear hk); (try clear ho0); obtain ⟨Ao17, co17, rfl⟩ := Kd.V_slice HO181.out) | ((with_reducible refine gate_builtin (b := .append) (xs := #[.tmp 25, .tmp 28]) rfl ?_); at_builtin; refine Kd.R_append_rows (Kd.int .i32) (w0 := w) w.heap.size rfl (.tmp 25) (.tmp 28) 22 21 (.int .i32 0) 4 rfl Try.underlying22 info21 rfl (by decide) (by omega) u5 x5_1 t179 _ _ _ (fun _ => True) (fun _ => False) rfl rfl ?aO ?aR (fun _ _ h => h) (fun _ h => h.elim) ?aF ?aB ?aS ?aL ?_; (case aR => repeat (first | exact (Kd.V_reads' HO181.out).2.2 | (with_reducible refine Kd.C_alloc ?_ _) | (with_reducible refine Kd.C_drewN ?_ _) | (with_reducible refine Kd.C_drew ?_))); (case aB => exact zB); (case aF => exact (fun _ _ => trivial)); (case aO => exact (zR HO_5)); (case aS => exact (below_size zB)); (case aL => have := LMc14.out; omega); intro v183 w16 ho hb hg hat; rw [← Ny182.out] at ho; have n_ := zI (aM (Kd.V_afterv (ok := (fun _ => True)) (by (with_reducible repeat (first | apply Kd.V_alloc | apply Kd.V_drewN | apply Kd.V_drew)); exact Kd.V_mono HO181.out (fun _ hk => ⟨trivial, hk⟩)) hg hat)) (zI (aM (hb)) (aM (ho))); clear HO181 HB HO_5; obtain ⟨HO181, HB, HO184⟩ := n_; clear ho hb hg hat))
         go_roundg k1
         case measure => have := HK1.out; omega
         case rel => exact ⟨(y182), (wrap64 (x10_1 + 1)), zP, H', ⟨by have := HK1.out; omega⟩, ⟨zR HO184⟩, ⟨zB⟩⟩
        ·rw [if_neg c14] at H
         exact absurd H (by simp)
     ·rw [if_neg c5] at H
      exact absurd H (by simp)
    ·rw [if_neg c4] at H
     exact absurd H (by simp)
   ·rw [if_neg c3] at H
    have c3b0 : decide (x10_1 < (l1.length : Int)) = false := decide_eq_false c3
    clear c3
    obtain rfl := sI H
    go_wp2
    go_ret
    exact ⟨_, zE, zR HO_5, zB⟩

set_option maxHeartbeats 8000000 in
set_option maxRecDepth 100000 in
theorem decomp_One.own (k : Nat) : decomp_One.Own k := by
  induction k using Nat.strongRecOn with
  | _ k ih =>
  intro a0 a1 r w hs H
  cases k with
  | zero => exact absurd H (by simp [decomp_One.f])
  | succ k =>
  have hOwn := ih k (Nat.lt_succ_self k)
  have hAll := fun (A1 : Option Addr) (c1 : Nat) (l1 : List Int) (r : List Int) (w : World) => decomp_All.calls_of k (fun k1 h1 => decomp_One.says_of k1 (ih k1 (by omega))) true A1 c1 l1 r w
  clear ih
  have HOwn := Aside0.mk hOwn
  have HAll := Aside0.mk hAll
  clear hOwn hAll
  simp only [decomp_One.f] at H
  have A : hangul_Syllable.f a0 = some false := by
    unfold hangul_Syllable.f
    by_cases h1 : a0 ≥ 44032
    · rw [if_pos h1]
      have : ¬ a0 ≤ 55203 := fun h2 => hs ⟨h1, h2⟩
      simp [this]
    · rw [if_neg h1]
  rw [A] at H
  simp only [Option.bind_some, Bool.false_eq_true, if_false] at H
  have A' := Aside0.mk A
  clear A hs
  replace H := Option.bind_eq_some_iff.mp H
  obtain ⟨⟨p1, p2, p3⟩, B1, H⟩ := H
  have B1' := Aside0.mk B1
  clear B1
  simp only at H
  cases p3 with
  | true =>
    simp only [if_true] at H
    by_cases hp : 44032 ≤ p1 ∧ p1 ≤ 55203
    · rw [if_pos hp] at H; cases H
    rw [if_neg hp] at H
    replace H := Option.bind_eq_some_iff.mp H
    obtain ⟨x, B2, H⟩ := H
    by_cases hx : x.length < 35184372088832
    · rw [if_pos hx] at H
      obtain rfl := Option.some.inj H
      clear H
      have B2' := Aside0.mk (HOwn.out p1 a1 x · hp B2)
      have LM := Aside0.mk hx
      clear hx B2 hp
      go_enter Try.func32, Try.ntmps32
      go_wp2_with fail
      (with_reducible refine (hangul_Syllable.calls a0 _ _ A'.out).mono ?_)
      rintro e w1 ⟨rfl, hd⟩
      have HD := Aside0.mk hd
      clear hd
      go_wp2_with fail
      (with_reducible refine (decomp_Pair.calls k a0 p1 p2 true _ B1'.out).mono ?_)
      rintro e w2 ⟨rfl, hb⟩
      have HB := Aside0.mk (below_then HD.out.below HD.out.below.size hb)
      clear hb
      go_wp2_with fail
      (with_reducible refine (B2'.out _).mono ?_)
      rintro e w3 ⟨v, rfl, ho, hb⟩
      have HO := Aside0.mk (Kd.R_lower ho HB.out.size)
      have HB3 := Aside0.mk (below_then HB.out HB.out.size hb)
      clear ho hb
      obtain ⟨Ao, co, eo⟩ := Kd.R_slice HO.out
      subst eo
      go_wp2_with ((with_reducible refine gate_builtin (b := .append) (xs := #[.tmp 24, .tmp 26]) rfl ?_); at_builtin; refine Kd.R_append (Kd.int .i32) (w0 := w) w.heap.size rfl (.tmp 24) (.tmp 26) 22 21 (.int .i32 0) 4 rfl Try.underlying22 (by kernel_rfl) rfl (by decide) (by omega) (.slice Ao x.length co) x p2 [.int .i32 p2] (fun _ => True) (fun _ => False) rfl rfl ?aP (fun _ hk => hk.elim) ?aF ?aO ?aB ?aS ?aL ?_; (case aP => exact rfl); (case aB => exact HB3.out); (case aF => exact (fun _ _ => trivial)); (case aO => exact HO.out); (case aS => exact HB3.out.size); (case aL => have := LM.out; omega); intro v14 w14 ho hb hg hat; have HO3 := Aside0.mk ho; have HB4 := Aside0.mk hb; clear ho hb hg hat)
      go_ret
      exact ⟨_, rfl, HO3.out, HB4.out⟩
    · rw [if_neg hx] at H; cases H
  | false =>
    simp only [Bool.false_eq_true, if_false] at H
    replace H := Option.bind_eq_some_iff.mp H
    obtain ⟨⟨q1, q2⟩, B2, H⟩ := H
    have B2' := Aside0.mk B2
    clear B2
    simp only at H
    cases q2 with
    | true =>
      simp only [if_true] at H
      by_cases hq : 44032 ≤ q1 ∧ q1 ≤ 55203
      · rw [if_pos hq] at H; cases H
      rw [if_neg hq] at H
      have B3' := Aside0.mk (HOwn.out q1 a1 r · hq H)
      clear H hq
      go_enter Try.func32, Try.ntmps32
      go_wp2_with fail
      (with_reducible refine (hangul_Syllable.calls a0 _ _ A'.out).mono ?_)
      rintro e w1 ⟨rfl, hd⟩
      have HD := Aside0.mk hd
      clear hd
      go_wp2_with fail
      (with_reducible refine (decomp_Pair.calls k a0 p1 p2 false _ B1'.out).mono ?_)
      rintro e w2 ⟨rfl, hb⟩
      have HB := Aside0.mk (below_then HD.out.below HD.out.below.size hb)
      clear hb
      go_wp2_with fail
      (with_reducible refine (decomp_Single.calls k a0 q1 true _ B2'.out).mono ?_)
      rintro e w3 ⟨rfl, hd3⟩
      have HB2 := Aside0.mk (below_then HB.out HB.out.size hd3.below)
      clear hd3
      go_wp2_with fail
      (with_reducible refine (B3'.out _).mono ?_)
      rintro e w4 ⟨v, rfl, ho, hb⟩
      have HO := Aside0.mk (Kd.R_lower ho HB2.out.size)
      have HB3 := Aside0.mk (below_then HB2.out HB2.out.size hb)
      clear ho hb
      go_wp2
      go_ret
      exact ⟨_, rfl, HO.out, HB3.out⟩
    | false =>
      simp only [Bool.false_eq_true, if_false] at H
      replace H := Option.bind_eq_some_iff.mp H
      obtain ⟨l, B3, H⟩ := H
      have B3' := Aside0.mk B3
      clear B3
      have hstart : ∀ (R : Ending → World → Prop), True := fun _ => trivial
      clear hstart
      have hlone : r = [a0] → (a1 = false ∨ ¬ (l.length : Int) > 0) → Calls Try.prog 32 #[.int .i32 a0, .bool a1] w fun e w' => ∃ v0_ : Value, e = .returned (v0_) ∧ Kd.R (Kd.int .i32) 21 w' w.heap.size (fun _ => True) (v0_) (r) ∧ Below w.heap.size w w' := by
        rintro rfl hcase
        clear H
        have hg : decide ((0 : Int) < (l.length : Int)) = false ∨ a1 = false := by
          rcases hcase with h | h
          · exact .inr h
          · exact .inl (decide_eq_false h)
        clear hcase
        cases a1 with
        | false =>
          clear hg
          go_enter Try.func32, Try.ntmps32
          go_wp2_with fail
          (with_reducible refine (hangul_Syllable.calls a0 _ _ A'.out).mono ?_)
          rintro e w1 ⟨rfl, hd⟩
          have HD := Aside0.mk hd
          clear hd
          go_wp2_with fail
          (with_reducible refine (decomp_Pair.calls k a0 p1 p2 false _ B1'.out).mono ?_)
          rintro e w2 ⟨rfl, hb⟩
          have HB := Aside0.mk (below_then HD.out.below HD.out.below.size hb)
          clear hb
          go_wp2_with fail
          (with_reducible refine (decomp_Single.calls k a0 q1 false _ B2'.out).mono ?_)
          rintro e w3 ⟨rfl, hd3⟩
          have HB2 := Aside0.mk (below_then HB.out HB.out.size hd3.below)
          clear hd3
          go_wp2_with fail
          (with_reducible refine (decomp_Loose.calls k a0 l _ B3'.out).mono ?_)
          rintro e w4 ⟨v, rfl, ho, hb⟩
          have HB3 := Aside0.mk (below_then HB2.out HB2.out.size hb)
          clear ho hb HB HB2 HD
          go_wp2_with ((with_reducible refine gate_dst (N := 49) rfl ?_); refine Kd.R_lit (Kd.int .i32) w.heap.size 21 ?hg (N := 49) ?hd (xs := ([a0] : List Int)) (inner := [.int .i32 a0]) (w0 := w) (ok := fun _ => True) (okp := fun _ => True) ?hr ?hp (fun _ hk => hk) trivial HB3.out HB3.out.size (by simp) ?_; (case hd => rfl); (case hg => rfl); (case hr => first | (go_simp; done) | (go_simp; rfl)); (case hp => exact ⟨rfl, fun j p hj => by cases j with | zero => (have : p = a0 := by simpa using hj.symm); subst this; rfl | succ j => simp at hj⟩); intro v24 w24 ho hb hg hnew; have HO3 := Aside0.mk ho; have HB4 := Aside0.mk hb; clear ho hb hg hnew)
          go_ret
          exact ⟨_, rfl, HO3.out, HB4.out⟩
        | true =>
          have hg1 : decide ((0 : Int) < (l.length : Int)) = false := by
            rcases hg with h | h
            · exact h
            · cases h
          have hg2 : decide (0 < l.length) = false := by
            have := of_decide_eq_false hg1
            exact decide_eq_false (by omega)
          clear hg
          go_enter Try.func32, Try.ntmps32
          go_wp2_with fail
          (with_reducible refine (hangul_Syllable.calls a0 _ _ A'.out).mono ?_)
          rintro e w1 ⟨rfl, hd⟩
          have HD := Aside0.mk hd
          clear hd
          go_wp2_with fail
          (with_reducible refine (decomp_Pair.calls k a0 p1 p2 false _ B1'.out).mono ?_)
          rintro e w2 ⟨rfl, hb⟩
          have HB := Aside0.mk (below_then HD.out.below HD.out.below.size hb)
          clear hb
          go_wp2_with fail
          (with_reducible refine (decomp_Single.calls k a0 q1 false _ B2'.out).mono ?_)
          rintro e w3 ⟨rfl, hd3⟩
          have HB2 := Aside0.mk (below_then HB.out HB.out.size hd3.below)
          clear hd3
          go_wp2_with fail
          (with_reducible refine (decomp_Loose.calls k a0 l _ B3'.out).mono ?_)
          rintro e w4 ⟨v, rfl, ho, hb⟩
          have HB3 := Aside0.mk (below_then HB2.out HB2.out.size hb)
          obtain ⟨Ao, co, eo⟩ := Kd.R_slice ho
          subst eo
          clear ho hb HB HB2 HD
          go_wp2_with ((with_reducible refine gate_dst (N := 49) rfl ?_); refine Kd.R_lit (Kd.int .i32) w.heap.size 21 ?hg (N := 49) ?hd (xs := ([a0] : List Int)) (inner := [.int .i32 a0]) (w0 := w) (ok := fun _ => True) (okp := fun _ => True) ?hr ?hp (fun _ hk => hk) trivial HB3.out HB3.out.size (by simp) ?_; (case hd => rfl); (case hg => rfl); (case hr => first | (go_simp; done) | (go_simp; rfl)); (case hp => exact ⟨rfl, fun j p hj => by cases j with | zero => (have : p = a0 := by simpa using hj.symm); subst this; rfl | succ j => simp at hj⟩); intro v24 w24 ho hb hg hnew; have HO3 := Aside0.mk ho; have HB4 := Aside0.mk hb; clear ho hb hg hnew)
          go_ret
          exact ⟨_, rfl, HO3.out, HB4.out⟩
      cases a1 with
      | false =>
        simp only [Bool.false_eq_true, if_false] at H
        exact hlone (Option.some.inj H).symm (.inl rfl)
      | true =>
        simp only [if_true] at H
        by_cases hl : (l.length : Int) > 0
        · clear hlone
          rw [if_pos hl] at H
          have hg1 : decide ((0 : Int) < (l.length : Int)) = true := decide_eq_true hl
          have hg2 : decide (0 < l.length) = true := decide_eq_true (by omega)
          have H' := Aside0.mk (show decomp_All.f k true l = some r from H)
          clear hl H
          go_enter Try.func32, Try.ntmps32
          go_wp2_with fail
          (with_reducible refine (hangul_Syllable.calls a0 _ _ A'.out).mono ?_)
          rintro e w1 ⟨rfl, hd⟩
          have HD := Aside0.mk hd
          clear hd
          go_wp2_with fail
          (with_reducible refine (decomp_Pair.calls k a0 p1 p2 false _ B1'.out).mono ?_)
          rintro e w2 ⟨rfl, hb⟩
          have HB := Aside0.mk (below_then HD.out.below HD.out.below.size hb)
          clear hb
          go_wp2_with fail
          (with_reducible refine (decomp_Single.calls k a0 q1 false _ B2'.out).mono ?_)
          rintro e w3 ⟨rfl, hd3⟩
          have HB2 := Aside0.mk (below_then HB.out HB.out.size hd3.below)
          clear hd3
          go_wp2_with fail
          (with_reducible refine (decomp_Loose.calls k a0 l _ B3'.out).mono ?_)
          rintro e w4 ⟨v, rfl, ho, hb⟩
          have HB3 := Aside0.mk (below_then HB2.out HB2.out.size hb)
          obtain ⟨Ao, co, eo⟩ := Kd.R_slice ho
          subst eo
          have HL := Aside0.mk (Kd.R_reads' ho)
          clear ho hb HB HB2 HD
          go_wp2_with fail
          (with_reducible refine (HAll.out _ _ l r _ HL.out.2.2 HL.out.2.1 H'.out).mono ?_)
          rintro e w5 ⟨v, rfl, ho, hb⟩
          have HO := Aside0.mk (Kd.R_lower ho HB3.out.size)
          have HB5 := Aside0.mk (below_then HB3.out HB3.out.size hb)
          clear ho hb
          go_wp2
          go_ret
          exact ⟨_, rfl, HO.out, HB5.out⟩
        · rw [if_neg hl] at H
          exact hlone (Option.some.inj H).symm (.inr hl)
theorem decomp_One.calls (k : Nat) (a0 : Int) (a1 : Bool) (r : List Int) (w : World) (h : decomp_One.f k a0 a1 = some r) :
    Calls Try.prog 32 #[.int .i32 a0, .bool a1] w fun e w' => ∃ v0_ : Value, e = .returned (v0_) ∧ Kd.V (Kd.int .i32) 21 w' w.heap.size (fun k_ => (w.heap.size ≤ k_)) (v0_) (r) ∧ Below w.heap.size w w' := decomp_One.says_of k (decomp_One.own k) a0 a1 r w h
theorem decomp_All.calls (k : Nat) (a0 : Bool) (A1 : Option Addr) (c1 : Nat) (l1 : List Int) (r : List Int) (w : World) (hr1 : Kd.C (Kd.int .i32) w A1 l1.length l1) (hc1 : l1.length ≤ c1) (h : decomp_All.f k a0 l1 = some r) :
    Calls Try.prog 17 #[.bool a0, .slice A1 l1.length c1] w fun e w' => ∃ v0_ : Value, e = .returned (v0_) ∧ Kd.R (Kd.int .i32) 21 w' w.heap.size (fun _ => True) v0_ r ∧ Below w.heap.size w w' :=
  decomp_All.calls_of k (fun k1 _ => decomp_One.says_of k1 (decomp_One.own k1)) a0 A1 c1 l1 r w hr1 hc1 h

/-! ### slices_Clone_rune_rune: function 23, by hand (slices.Clone.rune.tpl) -/
theorem info21c : (Try.prog.info? 21).map (fun i => (i.zero, i.size, i.bytes)) = some (some (.int .i32 0), 1, 4) := by kernel_rfl
def slices_Clone_rune_rune.f (l0 : List Int) : Option (List Int) := if l0.length < 35184372088832 then some l0 else none
set_option maxHeartbeats 8000000 in
set_option maxRecDepth 100000 in
theorem slices_Clone_rune_rune.calls (A0 : Option Addr) (c0 : Nat) (l0 : List Int) (r : List Int) (w : World) (hr0 : Kd.C (Kd.int .i32) w A0 l0.length l0) (hc0 : l0.length ≤ c0) (h : slices_Clone_rune_rune.f l0 = some r) :
    Calls Try.prog 23 #[.slice A0 l0.length c0] w fun e w' => ∃ v0_ : Value, e = .returned (v0_) ∧ Kd.R (Kd.int .i32) 21 w' w.heap.size (fun _ => True) (v0_) (r) ∧ Below w.heap.size w w' := by
  have H := h
  clear h
  unfold slices_Clone_rune_rune.f at H
  by_cases c1 : l0.length < 35184372088832
  · rw [if_pos c1] at H
    obtain rfl := Option.some.inj H
    clear H
    have LM := Aside0.mk c1
    clear c1
    have hnl := fun (w : World) => Lib.run_eql_slice_nil (P := Try.prog) w 22 21 A0 l0.length c0 0 0 Try.underlying22
    cases A0 with
    | none =>
      have hl : l0 = [] := by
        by_cases h0 : 0 < l0.length
        · obtain ⟨ad, e, _⟩ := hr0.2.2 h0
          cases e
        · exact List.length_eq_zero_iff.1 (by omega)
      subst hl
      clear hr0 LM
      simp only [Option.isNone_none, List.length_nil] at hnl ⊢
      go_enter Try.func23, Try.ntmps23
      go_wp2
      go_ret
      exact ⟨_, rfl, Kd.R_nil _ _ _ _ _, Below.refl _ _⟩
    | some ad =>
      simp only [Option.isNone_some] at hnl
      have HR := Aside0.mk hr0
      have HC := Aside0.mk hc0
      have HB := Aside0.mk (Below.refl w.heap.size w)
      clear hr0 hc0
      go_enter Try.func23, Try.ntmps23
      go_wp2_with (first | ((with_reducible refine gate_dst (N := 5) rfl ?_); refine Kd.R_lit (Kd.int .i32) _ 21 ?hg (N := 5) ?hd (xs := ([] : List Int)) (inner := []) (ok := fun _ => True) (okp := fun _ => True) ?hr ?hp (fun _ hk => hk) trivial (Below.refl _ _) (Nat.le_refl _) (by simp) ?_; (case hd => rfl); (case hg => rfl); (case hr => first | (go_simp; done) | (go_simp; rfl)); (case hp => exact (Reps.none _ _)); intro v5 w5 ho5 hb hg_ hnew_; clear hg_ hnew_ HB; have HO := Aside0.mk ho5; have HB := Aside0.mk hb; clear ho5 hb) | ((with_reducible refine gate_builtin (b := .append) (xs := #[.tmp 5, .tmp 6]) rfl ?_); at_builtin; refine Kd.R_append_rows (Kd.int .i32) (w0 := w) w.heap.size rfl (.tmp 5) (.tmp 6) 22 21 (.int .i32 0) 4 rfl Try.underlying22 info21c rfl (by decide) (by omega) v5 [] l0 _ _ _ (fun _ => True) (fun _ => False) rfl rfl ?aO ?aR (fun _ _ h => h) (fun _ h => h.elim) ?aF ?aB ?aS ?aL ?_; (case aR => exact Kd.C_below HR.out HB.out); (case aB => exact HB.out); (case aF => exact (fun _ _ => trivial)); (case aO => exact HO.out); (case aS => exact HB.out.size); (case aL => have := LM.out; simp only [List.length_nil]; omega); intro v7 w7 ho hb hg hat; simp only [List.nil_append] at ho; have HO7 := Aside0.mk ho; have HB7 := Aside0.mk hb; clear ho hb hg hat))
      go_ret
      exact ⟨_, rfl, HO7.out, HB7.out⟩
  · rw [if_neg c1] at H
    exact absurd H (by simp)

/-! ### arrange_wrong: function 33 -/
def arrange_wrong.f (k : Nat) (a0 : Int) (a1 : Int) : Option (Bool) := (chars_Class.f k a1).bind fun t185 => (if t185 > 0 then ((chars_Class.f k a0).bind fun t186 => (some (decide (t186 > t185)))) else (some false))
theorem arrange_wrong.mono : ∀ a0 a1 k, LeO (arrange_wrong.f k a0 a1) (arrange_wrong.f (k + 1) a0 a1) := by
 intro a0 a1 k
 unfold arrange_wrong.f
 repeat' first
   | (with_reducible exact chars_Class.mono _ _)
   | (with_reducible exact LeO.refl _)
   | exact chars_Class.mono _ _
   | exact LeO.none _
   | refine LeO.ite ?_ ?_
   | refine LeO.bind ?_ (fun _ => ?_)
set_option maxHeartbeats 8000000 in
set_option maxRecDepth 100000 in
theorem arrange_wrong.calls (k : Nat) (a0 : Int) (a1 : Int) (r : Bool) (w : World) (h : arrange_wrong.f k a0 a1 = some r) :
  Calls Try.prog 33 #[.int .i32 a0, .int .i32 a1] w fun e w' => e = .returned (.bool r) ∧ Drawn0 w w' := by
 have H : ((chars_Class.f k a1).bind fun t185 => (if t185 > 0 then ((chars_Class.f k a0).bind fun t186 => (some (decide (t186 > t185)))) else (some false))) = some r := h
 clear h
 obtain ⟨t185, A3, H⟩ := zO H
 by_cases c4 : t185 > 0
 ·rw [if_pos c4] at H
  have c4b0 : decide (0 < t185) = true := decide_eq_true c4
  clear c4
  obtain ⟨t186, A5, H⟩ := zO H
  obtain rfl := sI H
  go_enter Try.func33, Try.ntmps33
  go_wp2_with (first | ((with_reducible refine gate_callee (f := 31) rfl ?_); refine goesL_ (some 7) rfl rfl Try.func31 zK rfl #[.int .i32 a1] rfl zM ?_; (with_reducible refine (chars_Class.calls k a1 t185 _ A3.out).mono ?_); rintro e w' ⟨rfl, ⟨nd, rfl⟩⟩; (try clear A3); refine ⟨_, rfl, ?_⟩) | (go_at_call 31; (with_reducible refine (chars_Class.calls k a0 t186 _ A5.out).mono ?_); rintro e w' ⟨rfl, ⟨nd, rfl⟩⟩; (try clear A5)))
  go_ret
  exact ⟨zP, zD⟩
 ·rw [if_neg c4] at H
  have c4b0 : decide (0 < t185) = false := decide_eq_false c4
  clear c4
  obtain rfl := sI H
  go_enter Try.func33, Try.ntmps33
  go_wp2_with (first | ((with_reducible refine gate_callee (f := 31) rfl ?_); refine goesL_ (some 7) rfl rfl Try.func31 zK rfl #[.int .i32 a1] rfl zM ?_; (with_reducible refine (chars_Class.calls k a1 t185 _ A3.out).mono ?_); rintro e w' ⟨rfl, ⟨nd, rfl⟩⟩; (try clear A3); refine ⟨_, rfl, ?_⟩))
  go_ret
  exact ⟨zP, zD⟩

/-! ### arrange_Order: function 18 -/
def arrange_Order.l0 : Nat → List Int → Int → Option (List Int)
 | 0, _, _ => none
 | k + 1, x3, x4 => if x4 ≥ (x3.length : Int) then (some x3) else (if x4 > 0 then (if 0 ≤ (wrap64 (x4 - 1)) then (if (wrap64 (x4 - 1)) < (x3.length : Int) then (if 0 ≤ x4 then (if x4 < (x3.length : Int) then ((arrange_wrong.f k (rd x3 (wrap64 (x4 - 1))) (rd x3 x4)).bind fun t192 => (if t192 = true then (arrange_Order.l0 k ((x3.set ((wrap64 (x4 - 1)) : Int).toNat (rd x3 x4)).set (x4 : Int).toNat (rd x3 (wrap64 (x4 - 1)))) (wrap64 (x4 - 1))) else (arrange_Order.l0 k x3 (wrap64 (x4 + 1))))) else (none)) else (none)) else (none)) else (none)) else (arrange_Order.l0 k x3 (wrap64 (x4 + 1))))
def arrange_Order.f (k : Nat) (l0 : List Int) : Option (List Int) := (slices_Clone_rune_rune.f l0).bind fun t187 => (arrange_Order.l0 k t187 1)
theorem arrange_Order.mono_l : ∀ k, (∀ y0 y1, LeO (arrange_Order.l0 k y0 y1) (arrange_Order.l0 (k + 1) y0 y1))
 | 0 => fun _ _ r h => by simp [arrange_Order.l0] at h
 | k + 1 => by
  have ih0 := arrange_Order.mono_l k
  ·intro y0 y1
   unfold arrange_Order.l0
   repeat' first
   | (with_reducible exact ih0 _ _)
   | (with_reducible exact arrange_wrong.mono _ _ _)
   | (with_reducible exact LeO.refl _)
   | exact ih0 _ _
   | exact arrange_wrong.mono _ _ _
   | exact LeO.none _
   | refine LeO.ite ?_ ?_
   | refine LeO.bind ?_ (fun _ => ?_)
theorem arrange_Order.mono : ∀ a0 k, LeO (arrange_Order.f k a0) (arrange_Order.f (k + 1) a0) := by
 intro a0 k
 have ih0 := arrange_Order.mono_l k
 unfold arrange_Order.f
 repeat' first
   | (with_reducible exact ih0 _ _)
   | (with_reducible exact arrange_wrong.mono _ _ _)
   | (with_reducible exact LeO.refl _)
   | exact ih0 _ _
   | exact arrange_wrong.mono _ _ _
   | exact LeO.none _
   | refine LeO.ite ?_ ?_
   | refine LeO.bind ?_ (fun _ => ?_)
def arrange_Order.T5 : Bool × List (List Nat × List Nat) := (true, [([], []), ([0], [0]), ([1], [1]), ([2], [2]), ([2], [2]), ([4, 2], [2, 4]), ([3, 5, 2], [2, 3, 5]), ([6, 2], [2, 6]), ([2], [2]), ([2], [2]), ([8, 9, 2], [2, 8, 9]), ([10, 2], [2, 10]), ([7, 11, 2, 2], [2, 7, 11]), ([2, 12], [2, 12])])
def arrange_Order.B5 : List Nat := [0, 1, 3, 7, 7, 23, 63, 127, 7, 7, 775, 1799, 4095, 8191]
theorem arrange_Order.tab5 : rtab .any (opsOf Try.f18 5) = arrange_Order.T5 := zK
theorem arrange_Order.bits5 : waitsOk arrange_Order.T5.2 arrange_Order.B5 = true := zK
def arrange_Order.T6 : Bool × List (List Nat × List Nat) := (true, [([], []), ([], []), ([1], [1]), ([], []), ([], []), ([], []), ([], []), ([5, 6], [5, 6]), ([7], [7]), ([], []), ([], []), ([10], [10]), ([9, 11], [9, 11]), ([12], [12]), ([0, 2, 0, 1, 2, 5, 6, 7, 8, 13], [0, 2]), ([14, 8, 0, 1, 2, 5, 6, 7, 8, 13], [8, 14]), ([3, 4, 0, 1, 2, 3, 4, 5, 6, 7, 8, 9, 10, 11, 12, 13, 14, 15], [3, 4]), ([16, 13, 15, 0, 1, 2, 3, 4, 5, 6, 7, 8, 9, 10, 11, 12, 13, 14, 15], [13, 16])])
def arrange_Order.B6 : List Nat := [0, 0, 2, 0, 0, 0, 0, 96, 224, 0, 0, 1024, 3584, 7680, 16359, 32743, 65535, 131071]
theorem arrange_Order.tab6 : rtab .any (opsOf Try.f18 6) = arrange_Order.T6 := zK
theorem arrange_Order.bits6 : waitsOk arrange_Order.T6.2 arrange_Order.B6 = true := zK
set_option maxHeartbeats 8000000 in
set_option maxRecDepth 100000 in
theorem arrange_Order.calls (k : Nat) (A0 : Option Addr) (c0 : Nat) (l0 : List Int) (r : List Int) (w : World) (hr0 : Kd.C (Kd.int .i32) w A0 l0.length l0) (hc0 : l0.length ≤ c0) (h : arrange_Order.f k l0 = some r) :
  Calls Try.prog 18 #[.slice A0 l0.length c0] w fun e w' => ∃ v0_ : Value, e = .returned (v0_) ∧ Kd.R (Kd.int .i32) 21 w' w.heap.size (fun _ => True) v0_ r ∧ Below w.heap.size w w' := by
 have HR0 := aM hr0
 have HC0 := aM hc0
 clear hr0 hc0
 have HB := aM (Below.refl w.heap.size w)
 have H : ((slices_Clone_rune_rune.f l0).bind fun t187 => (arrange_Order.l0 k t187 1)) = some r := h
 clear h
 obtain ⟨t187, A2, H⟩ := zO H
 have H' := aM H
 clear H
 go_enter Try.func18, Try.ntmps18
 go_wp2_with (first | ((with_reducible refine gate_callee (f := 23) rfl ?_); refine goesL_ (some 6) rfl rfl Try.func23 zK rfl #[.slice A0 l0.length c0] rfl zM ?_; (with_reducible refine (slices_Clone_rune_rune.calls _ _ l0 t187 _ ?side1 ?side2 A2.out).mono ?_); (case side1 => exact zC HR0.out); (case side2 => exact HC0.out); rintro e w3 ⟨v188, rfl, ho0, hb⟩; refine ⟨_, rfl, ?_⟩; have n_ := zI (aM (Kd.R_lower ho0 (below_size zB))) (aM (below_step zB hb)); clear HB; obtain ⟨HO189, HB⟩ := n_; (try clear hb); (try clear ho0)))
 refine wp_scope_back 0 rfl ?_
 go_wp2_with (first | ((with_reducible refine gate_callee (f := 23) rfl ?_); refine goesL_ (some 6) rfl rfl Try.func23 zK rfl #[.slice A0 l0.length c0] rfl zM ?_; (with_reducible refine (slices_Clone_rune_rune.calls _ _ l0 t187 _ ?side1 ?side2 A2.out).mono ?_); (case side1 => exact zC HR0.out); (case side2 => exact HC0.out); rintro e w3 ⟨v188, rfl, ho0, hb⟩; refine ⟨_, rfl, ?_⟩; have n_ := zI (aM (Kd.R_lower ho0 (below_size zB))) (aM (below_step zB hb)); clear HB; obtain ⟨HO189, HB⟩ := n_; (try clear hb); (try clear ho0)))
 go_step3
 (try simp only [Exit.then])
 go_step
 refine wp_back_ghost (fun a0 kq a' w' => ∃ (u2 u4 u7 u8 u9 u10 u11 u12 u13 u14 u15 u16 u17 u18 u19 u20 u21 u22 u23 u24 u25 u26 u27 u28 u29 u30 u31 u32 u33 u34 u35 u36 u37 u38 u39 u40 u41 u42 u43 u44 u45 : Value), (∃ (x3_1 : List Int) (x4_1 : Int), u4 = .int .i64 x4_1 ∧ Aside0 (arrange_Order.l0 kq x3_1 x4_1 = some r) ∧ Aside0 (kq ≤ k) ∧ Aside0 (Kd.R (Kd.int .i32) 21 w' w.heap.size (fun _ => True) v188 x3_1) ∧ Aside0 (Below w.heap.size w w')) ∧ a' = ⟨(((((((((((((((((((((((((((((((((((((((((a0.tmps.setIfInBounds 2 u2).setIfInBounds 4 u4).setIfInBounds 7 u7).setIfInBounds 8 u8).setIfInBounds 9 u9).setIfInBounds 10 u10).setIfInBounds 11 u11).setIfInBounds 12 u12).setIfInBounds 13 u13).setIfInBounds 14 u14).setIfInBounds 15 u15).setIfInBounds 16 u16).setIfInBounds 17 u17).setIfInBounds 18 u18).setIfInBounds 19 u19).setIfInBounds 20 u20).setIfInBounds 21 u21).setIfInBounds 22 u22).setIfInBounds 23 u23).setIfInBounds 24 u24).setIfInBounds 25 u25).setIfInBounds 26 u26).setIfInBounds 27 u27).setIfInBounds 28 u28).setIfInBounds 29 u29).setIfInBounds 30 u30).setIfInBounds 31 u31).setIfInBounds 32 u32).setIfInBounds 33 u33).setIfInBounds 34 u34).setIfInBounds 35 u35).setIfInBounds 36 u36).setIfInBounds 37 u37).setIfInBounds 38 u38).setIfInBounds 39 u39).setIfInBounds 40 u40).setIfInBounds 41 u41).setIfInBounds 42 u42).setIfInBounds 43 u43).setIfInBounds 44 u44).setIfInBounds 45 u45), a0.defers⟩) k ?atStart ?round
 case' atStart => (repeat apply Exists.intro); refine ⟨?_, ?_⟩; rotate_left; (try simp only [List.setIfInBounds_toArray, List.set_cons_zero, List.set_cons_succ]); exact rfl
 case' round => intro gk _ wr hinv; obtain ⟨u2, u4, u7, u8, u9, u10, u11, u12, u13, u14, u15, u16, u17, u18, u19, u20, u21, u22, u23, u24, u25, u26, u27, u28, u29, u30, u31, u32, u33, u34, u35, u36, u37, u38, u39, u40, u41, u42, u43, u44, u45, hrel, ha⟩ := hinv; subst ha; (try simp only [List.setIfInBounds_toArray, List.set_cons_zero, List.set_cons_succ]); intro J_ K_ hJ_ hK_
 case atStart => exact ⟨(t187), (1), zP, H', ⟨Nat.le_refl _⟩, ⟨zR HO189⟩, ⟨zB⟩⟩
 case round =>
  clear H'
  try clear c1
  try clear c2
  try clear p2
  obtain ⟨x3_1, x4_1, rfl, HA, HK1, HO_3, HB⟩ := hrel
  cases gk with
  | zero => exact absurd HA.out (by simp [arrange_Order.l0])
  | succ k1 =>
   have H := HA.out
   clear HA
   simp only [arrange_Order.l0] at H
   by_cases c4 : x4_1 ≥ (x3_1.length : Int)
   ·rw [if_pos c4] at H
    have c4b0 : decide ((x3_1.length : Int) ≤ x4_1) = true := decide_eq_true c4
    clear c4
    obtain rfl := sI H
    obtain ⟨Ao5, co5, eo5⟩ := Kd.R_slice HO_3.out
    subst eo5
    go_wp2
    (try rw [Exit.noGoto_ret])
    go_ret
    exact ⟨_, zE, zR HO_3, zB⟩
   ·rw [if_neg c4] at H
    have c4b0 : decide ((x3_1.length : Int) ≤ x4_1) = false := decide_eq_false c4
    clear c4
    by_cases c6 : x4_1 > 0
    ·rw [if_pos c6] at H
     have c6b0 : decide (0 < x4_1) = true := decide_eq_true c6
     clear c6
     obtain ⟨ji7, hji7⟩ : ∃ j_ : Int, (wrap64 (x4_1 - 1)) = j_ := ⟨_, rfl⟩
     replace H : (if 0 ≤ (ji7) then (if (ji7) < (x3_1.length : Int) then (if 0 ≤ x4_1 then (if x4_1 < (x3_1.length : Int) then ((arrange_wrong.f k1 (rd x3_1 (ji7)) (rd x3_1 x4_1)).bind fun t192 => (if t192 = true then (arrange_Order.l0 k1 ((x3_1.set ((ji7) : Int).toNat (rd x3_1 x4_1)).set (x4_1 : Int).toNat (rd x3_1 (ji7))) ji7) else (arrange_Order.l0 k1 x3_1 (wrap64 (x4_1 + 1))))) else (none)) else (none)) else (none)) else (none)) = some r := by first | (rw [hji7] at H; exact H) | (simp only [hji7] at H ⊢; exact H)
     have hji7w : (IntKind.i64.wrap (x4_1 - 1)) = ji7 := (i64_w _).trans hji7
     by_cases c8 : 0 ≤ (ji7)
     ·rw [if_pos c8] at H
      have c8b0 : decide (0 ≤ (ji7)) = true := decide_eq_true c8
      clear c8
      by_cases c9 : (ji7) < (x3_1.length : Int)
      ·rw [if_pos c9] at H
       have c9b0 : decide ((ji7) < (x3_1.length : Int)) = true := decide_eq_true c9
       clear c9
       by_cases c10 : 0 ≤ x4_1
       ·rw [if_pos c10] at H
        have c10b0 : decide (0 ≤ x4_1) = true := decide_eq_true c10
        clear c10
        by_cases c11 : x4_1 < (x3_1.length : Int)
        ·rw [if_pos c11] at H
         have c11b0 : decide (x4_1 < (x3_1.length : Int)) = true := decide_eq_true c11
         clear c11
         obtain ⟨t192, A12, H⟩ := zO H
         by_cases c13 : t192 = true
         ·subst c13
          rw [if_pos rfl] at H
          obtain ⟨y195, hy195⟩ : ∃ y_ : List Int, y_ = (x3_1.set ((ji7) : Int).toNat (rd x3_1 x4_1)) := ⟨_, rfl⟩
          replace H : (arrange_Order.l0 k1 (y195.set (x4_1 : Int).toNat (rd x3_1 (ji7))) ji7) = some r := zY hy195 H
          have Ny195 := aM hy195
          clear hy195
          obtain ⟨y196, hy196⟩ : ∃ y_ : List Int, y_ = (y195.set (x4_1 : Int).toNat (rd x3_1 (ji7))) := ⟨_, rfl⟩
          replace H : (arrange_Order.l0 k1 y196 ji7) = some r := zY hy196 H
          have Ny196 := aM hy196
          clear hy196
          have H' := aM H
          clear H
          obtain ⟨Ao16, co16, eo16⟩ := Kd.R_slice HO_3.out
          subst eo16
          try go_wp2
          have n0_ := aM (Kd.R_drew HO_3.out)
          have n1_ := aM (bD HB.out)
          clear HO_3
          clear HB
          have HO_3 := n0_
          have HB := n1_
          clear n0_ n1_
          have p190 : 0 ≤ ((ji7) : Int) := zoA
          have q190 : (ji7) < (x3_1.length : Int) := zoA
          obtain ⟨ad190, e190, hx190_0⟩ := Kd.at_int (Kd.R_reads' HO_3.out).2.2 (ji7) p190 q190
          cases e190
          replace p190 := eq_true p190
          replace q190 := eq_true q190
          have p191 : 0 ≤ (x4_1 : Int) := zoA
          have q191 : x4_1 < (x3_1.length : Int) := zoA
          obtain ⟨ad191, e191, hx191_0⟩ := Kd.at_int (Kd.R_reads' HO_3.out).2.2 x4_1 p191 q191
          obtain rfl : ad190 = ad191 := (by injection e191)
          replace p191 := eq_true p191
          replace q191 := eq_true q191
          refine start_ (n := 14) (S := fun w' => w'.cell? (ad190.add ((ji7)).toNat) = some (.int .i32 (rd x3_1 (ji7))) ∧ w'.cell? (ad190.add (x4_1).toNat) = some (.int .i32 (rd x3_1 x4_1))) (ds := []) #[false, false, false, false, false, false, false, false, false, false, false, false, false, false] zK rfl rfl ⟨hx190_0, hx191_0⟩ (fun hHeld => ?_); refine with_tabW arrange_Order.tab5 arrange_Order.bits5 (fun HT_ HW_ => ?_)
          generalize wr.drew = w17 at HO_3 HB hx190_0 hx191_0 hHeld ⊢
          refine pure_ (i := 0) (N := some 12) (v := ?_) (a' := ?_) #[true, false, false, false, false, false, false, false, false, false, false, false, false, false] rfl rfl (any_of HT_.out zK) (fun _ _ _ h => h) (Or.inl ⟨by rfl, ?_⟩) ?_ ?_
          rotate_left
          ·intro w'
           go_simp
           with_reducible rfl
          rotate_left
          ·simp only [Act.put, List.setIfInBounds_toArray, List.set_cons_zero, List.set_cons_succ, i64_w, i32_w]
           rfl
          refine pure_ (i := 1) (N := some 13) (v := ?_) (a' := ?_) #[true, true, false, false, false, false, false, false, false, false, false, false, false, false] rfl rfl (any_of HT_.out zK) (fun _ _ _ h => h) (Or.inl ⟨by rfl, ?_⟩) ?_ ?_
          rotate_left
          ·intro w'
           go_simp
           with_reducible rfl
          rotate_left
          ·simp only [Act.put, List.setIfInBounds_toArray, List.set_cons_zero, List.set_cons_succ, i64_w, i32_w]
           rfl
          refine pure_ (i := 2) (N := some 14) (v := ?_) (a' := ?_) #[true, true, true, false, false, false, false, false, false, false, false, false, false, false] rfl rfl (any_of HT_.out zK) (fun _ _ _ h => h) (Or.inl ⟨by rfl, ?_⟩) ?_ ?_
          rotate_left
          ·intro w'
           go_simp
           with_reducible rfl
          rotate_left
          ·simp only [Act.put, List.setIfInBounds_toArray, List.set_cons_zero, List.set_cons_succ, i64_w, i32_w]
           rfl
          refine pure_ (i := 3) (N := some 15) (v := ?_) (a' := ?_) #[true, true, true, true, false, false, false, false, false, false, false, false, false, false] rfl rfl (any_of HT_.out zK) (fun _ _ _ h => h) (Or.inl ⟨by rfl, ?_⟩) ?_ ?_
          rotate_left
          ·intro w'
           go_simp
           with_reducible rfl
          rotate_left
          ·simp only [Act.put, List.setIfInBounds_toArray, List.set_cons_zero, List.set_cons_succ, i64_w, i32_w]
           rfl
          refine pure_ (i := 4) (N := some 16) (v := ?_) (a' := ?_) #[true, true, true, true, true, false, false, false, false, false, false, false, false, false] rfl rfl (any_of HT_.out zK) (fun _ _ _ h => h) (Or.inl ⟨by rfl, ?_⟩) ?_ ?_
          rotate_left
          ·intro w'
           go_simp
           with_reducible rfl
          rotate_left
          ·simp only [Act.put, List.setIfInBounds_toArray, List.set_cons_zero, List.set_cons_succ, i64_w, i32_w]
           rfl
          refine pure_ (i := 5) (N := some 17) (v := ?_) (a' := ?_) #[true, true, true, true, true, true, false, false, false, false, false, false, false, false] rfl rfl (any_of HT_.out zK) (fun _ _ _ h => h) (Or.inl ⟨by rfl, ?_⟩) ?_ ?_
          rotate_left
          ·intro w'
           go_simp
           with_reducible rfl
          rotate_left
          ·simp only [Act.put, List.setIfInBounds_toArray, List.set_cons_zero, List.set_cons_succ, i64_w, i32_w]
           rfl
          refine pure_ (i := 6) (N := some 18) (v := ?_) (a' := ?_) #[true, true, true, true, true, true, true, false, false, false, false, false, false, false] rfl rfl (any_of HT_.out zK) (fun _ _ _ h => h) (Or.inl ⟨by rfl, ?_⟩) ?_ ?_
          rotate_left
          ·intro w'
           go_simp
           with_reducible rfl
          rotate_left
          ·simp only [Act.put, List.setIfInBounds_toArray, List.set_cons_zero, List.set_cons_succ, i64_w, i32_w]
           rfl
          refine pure_ (i := 8) (N := some 20) (v := ?_) (a' := ?_) #[true, true, true, true, true, true, true, false, true, false, false, false, false, false] rfl rfl (any_of HT_.out zK) (fun _ _ _ h => h) (Or.inl ⟨by rfl, ?_⟩) ?_ ?_
          rotate_left
          ·intro w'
           go_simp
           with_reducible rfl
          rotate_left
          ·simp only [Act.put, List.setIfInBounds_toArray, List.set_cons_zero, List.set_cons_succ, i64_w, i32_w]
           rfl
          refine pure_ (i := 9) (N := some 21) (v := ?_) (a' := ?_) #[true, true, true, true, true, true, true, false, true, true, false, false, false, false] rfl rfl (any_of HT_.out zK) (fun _ _ _ h => h) (Or.inl ⟨by rfl, ?_⟩) ?_ ?_
          rotate_left
          ·intro w'
           go_simp
           with_reducible rfl
          rotate_left
          ·simp only [Act.put, List.setIfInBounds_toArray, List.set_cons_zero, List.set_cons_succ, i64_w, i32_w]
           rfl
          refine pure_ (i := 10) (N := some 22) (v := ?_) (a' := ?_) #[true, true, true, true, true, true, true, false, true, true, true, false, false, false] rfl rfl (any_of HT_.out zK) (fun _ _ _ h => h) (Or.inl ⟨by rfl, ?_⟩) ?_ ?_
          rotate_left
          ·intro w'
           go_simp
           with_reducible rfl
          rotate_left
          ·simp only [Act.put, List.setIfInBounds_toArray, List.set_cons_zero, List.set_cons_succ, i64_w, i32_w]
           rfl
          refine take_ (i := 7) (N := some 19) (v := ?_) (a' := ?_) #[true, true, true, true, true, true, true, true, true, true, true, false, false, false] rfl rfl (take_ofW HT_.out HW_.out zK) (fun _ _ _ h => h) (Or.inl ⟨by rfl, ?_⟩) hHeld ?_ ?_
          rotate_left
          ·rintro w' ⟨s0, s1⟩
           go_simp
           with_reducible rfl
          rotate_left
          ·simp only [Act.put, List.setIfInBounds_toArray, List.set_cons_zero, List.set_cons_succ, i64_w, i32_w]
           rfl
          refine take_ (i := 11) (N := some 23) (v := ?_) (a' := ?_) #[true, true, true, true, true, true, true, true, true, true, true, true, false, false] rfl rfl (take_ofW HT_.out HW_.out zK) (fun _ _ _ h => h) (Or.inl ⟨by rfl, ?_⟩) hHeld ?_ ?_
          rotate_left
          ·rintro w' ⟨s0, s1⟩
           go_simp
           with_reducible rfl
          rotate_left
          ·simp only [Act.put, List.setIfInBounds_toArray, List.set_cons_zero, List.set_cons_succ, i64_w, i32_w]
           rfl
          refine one_ (i := 12) (N := some 24) #[true, true, true, true, true, true, true, true, true, true, true, true, true, false] rfl rfl (one_of HT_.out zK) (by decide) (fun K hK => ?_)
          refine goes_ Try.func33 zK rfl #[.int .i32 (rd x3_1 (ji7)), .int .i32 (rd x3_1 x4_1)] (by rfl) rfl rfl (by (try simp only [List.map_toArray, List.map_cons, List.map_nil]); first | done | (simp only [hji7]; rfl) | rfl | (simp only [List.length_drop, List.length_take]; rfl)) ?_
          with_reducible refine (arrange_wrong.calls k1 (rd x3_1 (ji7)) (rd x3_1 x4_1) true _ A12.out).mono ?_
          rintro e w' ⟨rfl, ⟨nd, rfl⟩⟩
          refine ⟨_, rfl, ?_⟩
          refine hK.out _ _ ⟨hHeld.1, hHeld.2⟩ (fun hHeld => ?_)
          clear hK K
          refine norm_ (a' := ?_) ?_ ?_
          rotate_left
          ·show Act.put _ (some 24) _ = _
           simp only [Act.put, List.setIfInBounds_toArray, List.set_cons_zero, List.set_cons_succ, i64_w, i32_w]
           rfl
          refine pure_ (i := 13) (N := some 25) (v := ?_) (a' := ?_) #[true, true, true, true, true, true, true, true, true, true, true, true, true, true] rfl rfl (any_of HT_.out zK) (fun _ _ _ h => h) (Or.inl ⟨by rfl, ?_⟩) ?_ ?_
          rotate_left
          ·intro w'
           go_simp
           with_reducible rfl
          rotate_left
          ·simp only [Act.put, List.setIfInBounds_toArray, List.set_cons_zero, List.set_cons_succ, i64_w, i32_w]
           rfl
          refine done_ (done_of HT_.out zK) ?_
          try go_wp2
          (try (rw [drewN_self w17]; generalize hq_ : World.drewN w17 _ = w17; have n0_ : Aside0 (Kd.R (Kd.int .i32) 21 w17 w.heap.size (fun _ => True) (.slice (some ad190) x3_1.length co16) x3_1) := ⟨by rw [← hq_]; exact (zR HO_3)⟩; have n1_ : Aside0 (Below w.heap.size w w17) := ⟨by rw [← hq_]; exact zB⟩; clear HO_3 HB hq_; have HO_3 := n0_; have HB := n1_; clear n0_ n1_))
          have n0_ := aM (Kd.R_drew HO_3.out)
          have n1_ := aM (bD HB.out)
          clear HO_3
          clear HB
          have HO_3 := n0_
          have HB := n1_
          clear n0_ n1_
          have p193 : 0 ≤ (x4_1 : Int) := zoA
          have q193 : x4_1 < (x3_1.length : Int) := zoA
          obtain ⟨ad193, e193, hx193_0⟩ := Kd.at_int (Kd.R_reads' HO_3.out).2.2 x4_1 p193 q193
          obtain rfl : ad190 = ad193 := (by injection e193)
          replace p193 := eq_true p193
          replace q193 := eq_true q193
          have p194 : 0 ≤ ((ji7) : Int) := zoA
          have q194 : (ji7) < (x3_1.length : Int) := zoA
          obtain ⟨ad194, e194, hx194_0⟩ := Kd.at_int (Kd.R_reads' HO_3.out).2.2 (ji7) p194 q194
          obtain rfl : ad190 = ad194 := (by injection e194)
          replace p194 := eq_true p194
          replace q194 := eq_true q194
          have p14 : 0 ≤ ((ji7) : Int) := zoA
          have q14 : ((ji7) : Int) < ((x3_1.length : Int) : Int) := zoA
          obtain ⟨go14, co14, eo14, gb14, gl14, cl14, HG14⟩ := Kd.R_form HO_3.out (by omega)
          (first | cases eo14 | (injection eo14 with ea_ en_ ec_; (first | subst ea_ | (injection ea_ with ea_; subst ea_)); subst ec_; clear en_))
          have GB14 := aM gb14
          have GG14 := aM HG14
          clear gb14 gl14 HG14
          (first | simp only [add_plain] at hx190_0 | skip)
          (first | simp only [add_plain] at hx191_0 | skip)
          (first | simp only [add_plain] at hx193_0 | skip)
          (first | simp only [add_plain] at hx194_0 | skip)
          obtain ⟨hx14_0, hf14_0⟩ := Kd.R_celln 0 HO_3.out ((ji7) : Int) p14 q14
          replace p14 := eq_true p14
          replace q14 := eq_true q14
          have HP19 := Kd.R_putn HO_3.out ((ji7) : Int) (rd x3_1 x4_1)
          rw [← Ny195.out] at HP19
          have HQ19 := aM HP19
          clear HP19
          have p15 : 0 ≤ (x4_1 : Int) := zoA
          have q15 : (x4_1 : Int) < ((x3_1.length : Int) : Int) := zoA
          obtain ⟨hx15_0, hf15_0⟩ := Kd.R_celln 0 HQ19.out (x4_1 : Int) p15 q15
          replace p15 := eq_true p15
          replace q15 := eq_true q15
          have HP20 := Kd.R_putn HQ19.out (x4_1 : Int) (rd x3_1 (ji7))
          rw [← Ny196.out] at HP20
          have HQ20 := aM HP20
          clear HP20
          refine start_ (n := 18) (S := fun w' => w'.cell? ⟨go14, (x4_1).toNat, none⟩ = some (.int .i32 (rd x3_1 x4_1)) ∧ w'.cell? ⟨go14, ((ji7)).toNat, none⟩ = some (.int .i32 (rd x3_1 (ji7)))) (ds := [15, 17]) #[false, false, false, false, false, false, false, false, false, false, false, false, false, false, false, false, false, false] zK rfl rfl ⟨hx193_0, hx194_0⟩ (fun hHeld => ?_); refine with_tabW arrange_Order.tab6 arrange_Order.bits6 (fun HT_ HW_ => ?_)
          generalize w17.drew = w18 at HO_3 HB GG14 HQ19 HQ20 hf14_0 hf15_0 hx14_0 hx15_0 hx190_0 hx191_0 hx193_0 hx194_0 hHeld ⊢
          refine pure_ (i := 0) (N := some 26) (v := ?_) (a' := ?_) #[true, false, false, false, false, false, false, false, false, false, false, false, false, false, false, false, false, false] rfl rfl (any_of HT_.out zK) (fun _ _ _ h => h) (Or.inl ⟨by rfl, ?_⟩) ?_ ?_
          rotate_left
          ·intro w'
           go_simp
           with_reducible rfl
          rotate_left
          ·simp only [Act.put, List.setIfInBounds_toArray, List.set_cons_zero, List.set_cons_succ, i64_w, i32_w]
           rfl
          refine pure_ (i := 1) (N := some 27) (v := ?_) (a' := ?_) #[true, true, false, false, false, false, false, false, false, false, false, false, false, false, false, false, false, false] rfl rfl (any_of HT_.out zK) (fun _ _ _ h => h) (Or.inl ⟨by rfl, ?_⟩) ?_ ?_
          rotate_left
          ·intro w'
           go_simp
           with_reducible rfl
          rotate_left
          ·simp only [Act.put, List.setIfInBounds_toArray, List.set_cons_zero, List.set_cons_succ, i64_w, i32_w]
           rfl
          refine pure_ (i := 2) (N := some 28) (v := ?_) (a' := ?_) #[true, true, true, false, false, false, false, false, false, false, false, false, false, false, false, false, false, false] rfl rfl (any_of HT_.out zK) (fun _ _ _ h => h) (Or.inl ⟨by rfl, ?_⟩) ?_ ?_
          rotate_left
          ·intro w'
           go_simp
           with_reducible rfl
          rotate_left
          ·simp only [Act.put, List.setIfInBounds_toArray, List.set_cons_zero, List.set_cons_succ, i64_w, i32_w]
           rfl
          refine pure_ (i := 3) (N := some 29) (v := ?_) (a' := ?_) #[true, true, true, true, false, false, false, false, false, false, false, false, false, false, false, false, false, false] rfl rfl (any_of HT_.out zK) (fun _ _ _ h => h) (Or.inl ⟨by rfl, ?_⟩) ?_ ?_
          rotate_left
          ·intro w'
           go_simp
           with_reducible rfl
          rotate_left
          ·simp only [Act.put, List.setIfInBounds_toArray, List.set_cons_zero, List.set_cons_succ, i64_w, i32_w]
           rfl
          refine pure_ (i := 4) (N := some 30) (v := ?_) (a' := ?_) #[true, true, true, true, true, false, false, false, false, false, false, false, false, false, false, false, false, false] rfl rfl (any_of HT_.out zK) (fun _ _ _ h => h) (Or.inl ⟨by rfl, ?_⟩) ?_ ?_
          rotate_left
          ·intro w'
           go_simp
           with_reducible rfl
          rotate_left
          ·simp only [Act.put, List.setIfInBounds_toArray, List.set_cons_zero, List.set_cons_succ, i64_w, i32_w]
           rfl
          refine pure_ (i := 5) (N := some 31) (v := ?_) (a' := ?_) #[true, true, true, true, true, true, false, false, false, false, false, false, false, false, false, false, false, false] rfl rfl (any_of HT_.out zK) (fun _ _ _ h => h) (Or.inl ⟨by rfl, ?_⟩) ?_ ?_
          rotate_left
          ·intro w'
           go_simp
           with_reducible rfl
          rotate_left
          ·simp only [Act.put, List.setIfInBounds_toArray, List.set_cons_zero, List.set_cons_succ, i64_w, i32_w]
           rfl
          refine pure_ (i := 6) (N := some 32) (v := ?_) (a' := ?_) #[true, true, true, true, true, true, true, false, false, false, false, false, false, false, false, false, false, false] rfl rfl (any_of HT_.out zK) (fun _ _ _ h => h) (Or.inl ⟨by rfl, ?_⟩) ?_ ?_
          rotate_left
          ·intro w'
           go_simp
           with_reducible rfl
          rotate_left
          ·simp only [Act.put, List.setIfInBounds_toArray, List.set_cons_zero, List.set_cons_succ, i64_w, i32_w]
           rfl
          refine pure_ (i := 7) (N := some 33) (v := ?_) (a' := ?_) #[true, true, true, true, true, true, true, true, false, false, false, false, false, false, false, false, false, false] rfl rfl (any_of HT_.out zK) (fun _ _ _ h => h) (Or.inl ⟨by rfl, ?_⟩) ?_ ?_
          rotate_left
          ·intro w'
           go_simp
           with_reducible rfl
          rotate_left
          ·simp only [Act.put, List.setIfInBounds_toArray, List.set_cons_zero, List.set_cons_succ, i64_w, i32_w]
           rfl
          refine pure_ (i := 9) (N := some 35) (v := ?_) (a' := ?_) #[true, true, true, true, true, true, true, true, false, true, false, false, false, false, false, false, false, false] rfl rfl (any_of HT_.out zK) (fun _ _ _ h => h) (Or.inl ⟨by rfl, ?_⟩) ?_ ?_
          rotate_left
          ·intro w'
           go_simp
           with_reducible rfl
          rotate_left
          ·simp only [Act.put, List.setIfInBounds_toArray, List.set_cons_zero, List.set_cons_succ, i64_w, i32_w]
           rfl
          refine pure_ (i := 10) (N := some 36) (v := ?_) (a' := ?_) #[true, true, true, true, true, true, true, true, false, true, true, false, false, false, false, false, false, false] rfl rfl (any_of HT_.out zK) (fun _ _ _ h => h) (Or.inl ⟨by rfl, ?_⟩) ?_ ?_
          rotate_left
          ·intro w'
           go_simp
           with_reducible rfl
          rotate_left
          ·simp only [Act.put, List.setIfInBounds_toArray, List.set_cons_zero, List.set_cons_succ, i64_w, i32_w]
           rfl
          refine pure_ (i := 11) (N := some 37) (v := ?_) (a' := ?_) #[true, true, true, true, true, true, true, true, false, true, true, true, false, false, false, false, false, false] rfl rfl (any_of HT_.out zK) (fun _ _ _ h => h) (Or.inl ⟨by rfl, ?_⟩) ?_ ?_
          rotate_left
          ·intro w'
           go_simp
           with_reducible rfl
          rotate_left
          ·simp only [Act.put, List.setIfInBounds_toArray, List.set_cons_zero, List.set_cons_succ, i64_w, i32_w]
           rfl
          refine pure_ (i := 12) (N := some 38) (v := ?_) (a' := ?_) #[true, true, true, true, true, true, true, true, false, true, true, true, true, false, false, false, false, false] rfl rfl (any_of HT_.out zK) (fun _ _ _ h => h) (Or.inl ⟨by rfl, ?_⟩) ?_ ?_
          rotate_left
          ·intro w'
           go_simp
           with_reducible rfl
          rotate_left
          ·simp only [Act.put, List.setIfInBounds_toArray, List.set_cons_zero, List.set_cons_succ, i64_w, i32_w]
           rfl
          refine take_ (i := 8) (N := some 34) (v := ?_) (a' := ?_) #[true, true, true, true, true, true, true, true, true, true, true, true, true, false, false, false, false, false] rfl rfl (take_ofW HT_.out HW_.out zK) (fun _ _ _ h => h) (Or.inl ⟨by rfl, ?_⟩) hHeld ?_ ?_
          rotate_left
          ·rintro w' ⟨s0, s1⟩
           go_simp
           with_reducible rfl
          rotate_left
          ·simp only [Act.put, List.setIfInBounds_toArray, List.set_cons_zero, List.set_cons_succ, i64_w, i32_w]
           rfl
          refine take_ (i := 13) (N := some 39) (v := ?_) (a' := ?_) #[true, true, true, true, true, true, true, true, true, true, true, true, true, true, false, false, false, false] rfl rfl (take_ofW HT_.out HW_.out zK) (fun _ _ _ h => h) (Or.inl ⟨by rfl, ?_⟩) hHeld ?_ ?_
          rotate_left
          ·rintro w' ⟨s0, s1⟩
           go_simp
           with_reducible rfl
          rotate_left
          ·simp only [Act.put, List.setIfInBounds_toArray, List.set_cons_zero, List.set_cons_succ, i64_w, i32_w]
           rfl
          refine pure_ (i := 14) (N := some 40) (v := ?_) (a' := ?_) #[true, true, true, true, true, true, true, true, true, true, true, true, true, true, true, false, false, false] rfl rfl (any_of HT_.out zK) (fun _ _ _ h => h) (Or.inl ⟨by rfl, ?_⟩) ?_ ?_
          rotate_left
          ·intro w'
           go_simp
           with_reducible rfl
          rotate_left
          ·simp only [Act.put, List.setIfInBounds_toArray, List.set_cons_zero, List.set_cons_succ, i64_w, i32_w]
           rfl
          refine last_ (i := 15) (N := none) #[true, true, true, true, true, true, true, true, true, true, true, true, true, true, true, true, false, false] rfl rfl (one_of HT_.out zK) (by decide) (fun K hK => ?_)
          refine skip_ (w1 := ?_) (by rfl) rfl ?_ ?_
          rotate_left
          ·go_simp
           rfl
          refine hK.out _ _ ?_
          clear hK K
          refine pure_ (i := 16) (N := some 41) (v := ?_) (a' := ?_) #[true, true, true, true, true, true, true, true, true, true, true, true, true, true, true, true, true, false] rfl rfl (any_of HT_.out zK) (fun _ _ _ h => h) (Or.inl ⟨by rfl, ?_⟩) ?_ ?_
          rotate_left
          ·intro w'
           go_simp
           with_reducible rfl
          rotate_left
          ·simp only [Act.put, List.setIfInBounds_toArray, List.set_cons_zero, List.set_cons_succ, i64_w, i32_w]
           rfl
          refine last_ (i := 17) (N := none) #[true, true, true, true, true, true, true, true, true, true, true, true, true, true, true, true, true, true] rfl rfl (one_of HT_.out zK) (by decide) (fun K hK => ?_)
          refine skip_ (w1 := ?_) (by rfl) rfl ?_ ?_
          rotate_left
          ·go_simp
           rfl
          refine hK.out _ _ ?_
          clear hK K
          refine done_ (done_of HT_.out zK) ?_
          try go_wp2
          go_step3
          refine ⟨rfl, ?_⟩
          refine hK_ _ _ ?_
          go_roundg k1
          case measure => have := HK1.out; omega
          case rel => exact ⟨(y196), (ji7), (by first | rfl | (simp; done) | (simp only [← hji7] <;> (first | rfl | simp)) | (simp [*]; done)), H', ⟨by have := HK1.out; omega⟩, ⟨zR HQ20⟩, ⟨by repeat (first | (with_reducible first | exact HB.out | apply bA | apply bN | apply bD | refine below_set ?_ GB14.out | refine below_set ?_ GB14.out) | exact HB.out)⟩⟩
         ·replace c13 := Bool.eq_false_iff.mpr c13
          subst c13
          rw [if_neg (show ¬ (false = true) by decide)] at H
          have H' := aM H
          clear H
          obtain ⟨Ao21, co21, eo21⟩ := Kd.R_slice HO_3.out
          subst eo21
          try go_wp2
          have n0_ := aM (Kd.R_drew HO_3.out)
          have n1_ := aM (bD HB.out)
          clear HO_3
          clear HB
          have HO_3 := n0_
          have HB := n1_
          clear n0_ n1_
          have p190 : 0 ≤ ((ji7) : Int) := zoA
          have q190 : (ji7) < (x3_1.length : Int) := zoA
          obtain ⟨ad190, e190, hx190_0⟩ := Kd.at_int (Kd.R_reads' HO_3.out).2.2 (ji7) p190 q190
          cases e190
          replace p190 := eq_true p190
          replace q190 := eq_true q190
          have p191 : 0 ≤ (x4_1 : Int) := zoA
          have q191 : x4_1 < (x3_1.length : Int) := zoA
          obtain ⟨ad191, e191, hx191_0⟩ := Kd.at_int (Kd.R_reads' HO_3.out).2.2 x4_1 p191 q191
          obtain rfl : ad190 = ad191 := (by injection e191)
          replace p191 := eq_true p191
          replace q191 := eq_true q191
          refine start_ (n := 14) (S := fun w' => w'.cell? (ad190.add ((ji7)).toNat) = some (.int .i32 (rd x3_1 (ji7))) ∧ w'.cell? (ad190.add (x4_1).toNat) = some (.int .i32 (rd x3_1 x4_1))) (ds := []) #[false, false, false, false, false, false, false, false, false, false, false, false, false, false] zK rfl rfl ⟨hx190_0, hx191_0⟩ (fun hHeld => ?_); refine with_tabW arrange_Order.tab5 arrange_Order.bits5 (fun HT_ HW_ => ?_)
          generalize wr.drew = w22 at HO_3 HB hx190_0 hx191_0 hHeld ⊢
          refine pure_ (i := 0) (N := some 12) (v := ?_) (a' := ?_) #[true, false, false, false, false, false, false, false, false, false, false, false, false, false] rfl rfl (any_of HT_.out zK) (fun _ _ _ h => h) (Or.inl ⟨by rfl, ?_⟩) ?_ ?_
          rotate_left
          ·intro w'
           go_simp
           with_reducible rfl
          rotate_left
          ·simp only [Act.put, List.setIfInBounds_toArray, List.set_cons_zero, List.set_cons_succ, i64_w, i32_w]
           rfl
          refine pure_ (i := 1) (N := some 13) (v := ?_) (a' := ?_) #[true, true, false, false, false, false, false, false, false, false, false, false, false, false] rfl rfl (any_of HT_.out zK) (fun _ _ _ h => h) (Or.inl ⟨by rfl, ?_⟩) ?_ ?_
          rotate_left
          ·intro w'
           go_simp
           with_reducible rfl
          rotate_left
          ·simp only [Act.put, List.setIfInBounds_toArray, List.set_cons_zero, List.set_cons_succ, i64_w, i32_w]
           rfl
          refine pure_ (i := 2) (N := some 14) (v := ?_) (a' := ?_) #[true, true, true, false, false, false, false, false, false, false, false, false, false, false] rfl rfl (any_of HT_.out zK) (fun _ _ _ h => h) (Or.inl ⟨by rfl, ?_⟩) ?_ ?_
          rotate_left
          ·intro w'
           go_simp
           with_reducible rfl
          rotate_left
          ·simp only [Act.put, List.setIfInBounds_toArray, List.set_cons_zero, List.set_cons_succ, i64_w, i32_w]
           rfl
          refine pure_ (i := 3) (N := some 15) (v := ?_) (a' := ?_) #[true, true, true, true, false, false, false, false, false, false, false, false, false, false] rfl rfl (any_of HT_.out zK) (fun _ _ _ h => h) (Or.inl ⟨by rfl, ?_⟩) ?_ ?_
          rotate_left
          ·intro w'
           go_simp
           with_reducible rfl
          rotate_left
          ·simp only [Act.put, List.setIfInBounds_toArray, List.set_cons_zero, List.set_cons_succ, i64_w, i32_w]
           rfl
          refine pure_ (i := 4) (N := some 16) (v := ?_) (a' := ?_) #[true, true, true, true, true, false, false, false, false, false, false, false, false, false] rfl rfl (any_of HT_.out zK) (fun _ _ _ h => h) (Or.inl ⟨by rfl, ?_⟩) ?_ ?_
          rotate_left
          ·intro w'
           go_simp
           with_reducible rfl
          rotate_left
          ·simp only [Act.put, List.setIfInBounds_toArray, List.set_cons_zero, List.set_cons_succ, i64_w, i32_w]
           rfl
          refine pure_ (i := 5) (N := some 17) (v := ?_) (a' := ?_) #[true, true, true, true, true, true, false, false, false, false, false, false, false, false] rfl rfl (any_of HT_.out zK) (fun _ _ _ h => h) (Or.inl ⟨by rfl, ?_⟩) ?_ ?_
          rotate_left
          ·intro w'
           go_simp
           with_reducible rfl
          rotate_left
          ·simp only [Act.put, List.setIfInBounds_toArray, List.set_cons_zero, List.set_cons_succ, i64_w, i32_w]
           rfl
          refine pure_ (i := 6) (N := some 18) (v := ?_) (a' := ?_) #[true, true, true, true, true, true, true, false, false, false, false, false, false, false] rfl rfl (any_of HT_.out zK) (fun _ _ _ h => h) (Or.inl ⟨by rfl, ?_⟩) ?_ ?_
          rotate_left
          ·intro w'
           go_simp
           with_reducible rfl
          rotate_left
          ·simp only [Act.put, List.setIfInBounds_toArray, List.set_cons_zero, List.set_cons_succ, i64_w, i32_w]
           rfl
          refine pure_ (i := 8) (N := some 20) (v := ?_) (a' := ?_) #[true, true, true, true, true, true, true, false, true, false, false, false, false, false] rfl rfl (any_of HT_.out zK) (fun _ _ _ h => h) (Or.inl ⟨by rfl, ?_⟩) ?_ ?_
          rotate_left
          ·intro w'
           go_simp
           with_reducible rfl
          rotate_left
          ·simp only [Act.put, List.setIfInBounds_toArray, List.set_cons_zero, List.set_cons_succ, i64_w, i32_w]
           rfl
          refine pure_ (i := 9) (N := some 21) (v := ?_) (a' := ?_) #[true, true, true, true, true, true, true, false, true, true, false, false, false, false] rfl rfl (any_of HT_.out zK) (fun _ _ _ h => h) (Or.inl ⟨by rfl, ?_⟩) ?_ ?_
          rotate_left
          ·intro w'
           go_simp
           with_reducible rfl
          rotate_left
          ·simp only [Act.put, List.setIfInBounds_toArray, List.set_cons_zero, List.set_cons_succ, i64_w, i32_w]
           rfl
          refine pure_ (i := 10) (N := some 22) (v := ?_) (a' := ?_) #[true, true, true, true, true, true, true, false, true, true, true, false, false, false] rfl rfl (any_of HT_.out zK) (fun _ _ _ h => h) (Or.inl ⟨by rfl, ?_⟩) ?_ ?_
          rotate_left
          ·intro w'
           go_simp
           with_reducible rfl
          rotate_left
          ·simp only [Act.put, List.setIfInBounds_toArray, List.set_cons_zero, List.set_cons_succ, i64_w, i32_w]
           rfl
          refine take_ (i := 7) (N := some 19) (v := ?_) (a' := ?_) #[true, true, true, true, true, true, true, true, true, true, true, false, false, false] rfl rfl (take_ofW HT_.out HW_.out zK) (fun _ _ _ h => h) (Or.inl ⟨by rfl, ?_⟩) hHeld ?_ ?_
          rotate_left
          ·rintro w' ⟨s0, s1⟩
           go_simp
           with_reducible rfl
          rotate_left
          ·simp only [Act.put, List.setIfInBounds_toArray, List.set_cons_zero, List.set_cons_succ, i64_w, i32_w]
           rfl
          refine take_ (i := 11) (N := some 23) (v := ?_) (a' := ?_) #[true, true, true, true, true, true, true, true, true, true, true, true, false, false] rfl rfl (take_ofW HT_.out HW_.out zK) (fun _ _ _ h => h) (Or.inl ⟨by rfl, ?_⟩) hHeld ?_ ?_
          rotate_left
          ·rintro w' ⟨s0, s1⟩
           go_simp
           with_reducible rfl
          rotate_left
          ·simp only [Act.put, List.setIfInBounds_toArray, List.set_cons_zero, List.set_cons_succ, i64_w, i32_w]
           rfl
          refine one_ (i := 12) (N := some 24) #[true, true, true, true, true, true, true, true, true, true, true, true, true, false] rfl rfl (one_of HT_.out zK) (by decide) (fun K hK => ?_)
          refine goes_ Try.func33 zK rfl #[.int .i32 (rd x3_1 (ji7)), .int .i32 (rd x3_1 x4_1)] (by rfl) rfl rfl (by (try simp only [List.map_toArray, List.map_cons, List.map_nil]); first | done | (simp only [hji7]; rfl) | rfl | (simp only [List.length_drop, List.length_take]; rfl)) ?_
          with_reducible refine (arrange_wrong.calls k1 (rd x3_1 (ji7)) (rd x3_1 x4_1) false _ A12.out).mono ?_
          rintro e w' ⟨rfl, ⟨nd, rfl⟩⟩
          refine ⟨_, rfl, ?_⟩
          refine hK.out _ _ ⟨hHeld.1, hHeld.2⟩ (fun hHeld => ?_)
          clear hK K
          refine norm_ (a' := ?_) ?_ ?_
          rotate_left
          ·show Act.put _ (some 24) _ = _
           simp only [Act.put, List.setIfInBounds_toArray, List.set_cons_zero, List.set_cons_succ, i64_w, i32_w]
           rfl
          refine pure_ (i := 13) (N := some 25) (v := ?_) (a' := ?_) #[true, true, true, true, true, true, true, true, true, true, true, true, true, true] rfl rfl (any_of HT_.out zK) (fun _ _ _ h => h) (Or.inl ⟨by rfl, ?_⟩) ?_ ?_
          rotate_left
          ·intro w'
           go_simp
           with_reducible rfl
          rotate_left
          ·simp only [Act.put, List.setIfInBounds_toArray, List.set_cons_zero, List.set_cons_succ, i64_w, i32_w]
           rfl
          refine done_ (done_of HT_.out zK) ?_
          try go_wp2
          go_step3
          refine ⟨rfl, ?_⟩
          refine hK_ _ _ ?_
          go_roundg k1
          case measure => have := HK1.out; omega
          case rel => exact ⟨(x3_1), (wrap64 (x4_1 + 1)), zP, H', ⟨by have := HK1.out; omega⟩, ⟨zR HO_3⟩, ⟨zB⟩⟩
        ·rw [if_neg c11] at H
         exact absurd H (by simp)
       ·rw [if_neg c10] at H
        exact absurd H (by simp)
      ·rw [if_neg c9] at H
       exact absurd H (by simp)
     ·rw [if_neg c8] at H
      exact absurd H (by simp)
    ·rw [if_neg c6] at H
     have c6b0 : decide (0 < x4_1) = false := decide_eq_false c6
     clear c6
     have H' := aM H
     clear H
     obtain ⟨Ao23, co23, eo23⟩ := Kd.R_slice HO_3.out
     subst eo23
     try go_wp2
     have n0_ := aM (Kd.R_drew HO_3.out)
     have n1_ := aM (bD HB.out)
     clear HO_3
     clear HB
     have HO_3 := n0_
     have HB := n1_
     clear n0_ n1_
     refine start_ (n := 14) (S := fun w' => True) (ds := []) #[false, false, false, false, false, false, false, false, false, false, false, false, false, false] zK rfl rfl trivial (fun hHeld => ?_); refine with_tabW arrange_Order.tab5 arrange_Order.bits5 (fun HT_ HW_ => ?_)
     generalize wr.drew = w24 at HO_3 HB hHeld ⊢
     refine pure_ (i := 0) (N := some 12) (v := ?_) (a' := ?_) #[true, false, false, false, false, false, false, false, false, false, false, false, false, false] rfl rfl (any_of HT_.out zK) (fun _ _ _ h => h) (Or.inl ⟨by rfl, ?_⟩) ?_ ?_
     rotate_left
     ·intro w'
      go_simp
      with_reducible rfl
     rotate_left
     ·simp only [Act.put, List.setIfInBounds_toArray, List.set_cons_zero, List.set_cons_succ, i64_w, i32_w]
      rfl
     refine pure_ (i := 1) (N := some 13) (v := ?_) (a' := ?_) #[true, true, false, false, false, false, false, false, false, false, false, false, false, false] rfl rfl (any_of HT_.out zK) (fun _ _ _ h => h) (Or.inl ⟨by rfl, ?_⟩) ?_ ?_
     rotate_left
     ·intro w'
      go_simp
      with_reducible rfl
     rotate_left
     ·simp only [Act.put, List.setIfInBounds_toArray, List.set_cons_zero, List.set_cons_succ, i64_w, i32_w]
      rfl
     refine pure_ (i := 2) (N := some 14) (v := ?_) (a' := ?_) #[true, true, true, false, false, false, false, false, false, false, false, false, false, false] rfl rfl (any_of HT_.out zK) (fun _ _ _ h => h) (Or.inl ⟨by rfl, ?_⟩) ?_ ?_
     rotate_left
     ·intro w'
      go_simp
      with_reducible rfl
     rotate_left
     ·simp only [Act.put, List.setIfInBounds_toArray, List.set_cons_zero, List.set_cons_succ, i64_w, i32_w]
      rfl
     refine pure_ (i := 3) (N := some 15) (v := undef) (a' := ?_) #[true, true, true, true, false, false, false, false, false, false, false, false, false, false] rfl rfl (any_of HT_.out zK) (fun _ _ _ h => h) (Or.inr ⟨by rfl, rfl⟩) ?_ ?_
     rotate_left
     ·simp only [Act.put, List.setIfInBounds_toArray, List.set_cons_zero, List.set_cons_succ, i64_w, i32_w]
      rfl
     refine pure_ (i := 4) (N := some 16) (v := undef) (a' := ?_) #[true, true, true, true, true, false, false, false, false, false, false, false, false, false] rfl rfl (any_of HT_.out zK) (fun _ _ _ h => h) (Or.inr ⟨by rfl, rfl⟩) ?_ ?_
     rotate_left
     ·simp only [Act.put, List.setIfInBounds_toArray, List.set_cons_zero, List.set_cons_succ, i64_w, i32_w]
      rfl
     refine pure_ (i := 5) (N := some 17) (v := undef) (a' := ?_) #[true, true, true, true, true, true, false, false, false, false, false, false, false, false] rfl rfl (any_of HT_.out zK) (fun _ _ _ h => h) (Or.inr ⟨by rfl, rfl⟩) ?_ ?_
     rotate_left
     ·simp only [Act.put, List.setIfInBounds_toArray, List.set_cons_zero, List.set_cons_succ, i64_w, i32_w]
      rfl
     refine pure_ (i := 6) (N := some 18) (v := undef) (a' := ?_) #[true, true, true, true, true, true, true, false, false, false, false, false, false, false] rfl rfl (any_of HT_.out zK) (fun _ _ _ h => h) (Or.inr ⟨by rfl, rfl⟩) ?_ ?_
     rotate_left
     ·simp only [Act.put, List.setIfInBounds_toArray, List.set_cons_zero, List.set_cons_succ, i64_w, i32_w]
      rfl
     refine pure_ (i := 7) (N := some 19) (v := undef) (a' := ?_) #[true, true, true, true, true, true, true, true, false, false, false, false, false, false] rfl rfl (any_of HT_.out zK) (fun _ _ _ h => h) (Or.inr ⟨by rfl, rfl⟩) ?_ ?_
     rotate_left
     ·simp only [Act.put, List.setIfInBounds_toArray, List.set_cons_zero, List.set_cons_succ, i64_w, i32_w]
      rfl
     refine pure_ (i := 8) (N := some 20) (v := undef) (a' := ?_) #[true, true, true, true, true, true, true, true, true, false, false, false, false, false] rfl rfl (any_of HT_.out zK) (fun _ _ _ h => h) (Or.inr ⟨by rfl, rfl⟩) ?_ ?_
     rotate_left
     ·simp only [Act.put, List.setIfInBounds_toArray, List.set_cons_zero, List.set_cons_succ, i64_w, i32_w]
      rfl
     refine pure_ (i := 9) (N := some 21) (v := undef) (a' := ?_) #[true, true, true, true, true, true, true, true, true, true, false, false, false, false] rfl rfl (any_of HT_.out zK) (fun _ _ _ h => h) (Or.inr ⟨by rfl, rfl⟩) ?_ ?_
     rotate_left
     ·simp only [Act.put, List.setIfInBounds_toArray, List.set_cons_zero, List.set_cons_succ, i64_w, i32_w]
      rfl
     refine pure_ (i := 10) (N := some 22) (v := undef) (a' := ?_) #[true, true, true, true, true, true, true, true, true, true, true, false, false, false] rfl rfl (any_of HT_.out zK) (fun _ _ _ h => h) (Or.inr ⟨by rfl, rfl⟩) ?_ ?_
     rotate_left
     ·simp only [Act.put, List.setIfInBounds_toArray, List.set_cons_zero, List.set_cons_succ, i64_w, i32_w]
      rfl
     refine pure_ (i := 11) (N := some 23) (v := undef) (a' := ?_) #[true, true, true, true, true, true, true, true, true, true, true, true, false, false] rfl rfl (any_of HT_.out zK) (fun _ _ _ h => h) (Or.inr ⟨by rfl, rfl⟩) ?_ ?_
     rotate_left
     ·simp only [Act.put, List.setIfInBounds_toArray, List.set_cons_zero, List.set_cons_succ, i64_w, i32_w]
      rfl
     refine pure_ (i := 12) (N := some 24) (v := undef) (a' := ?_) #[true, true, true, true, true, true, true, true, true, true, true, true, true, false] rfl rfl (any_of HT_.out zK) (fun _ _ _ h => h) (Or.inr ⟨by rfl, rfl⟩) ?_ ?_
     rotate_left
     ·simp only [Act.put, List.setIfInBounds_toArray, List.set_cons_zero, List.set_cons_succ, i64_w, i32_w]
      rfl
     refine pure_ (i := 13) (N := some 25) (v := ?_) (a' := ?_) #[true, true, true, true, true, true, true, true, true, true, true, true, true, true] rfl rfl (any_of HT_.out zK) (fun _ _ _ h => h) (Or.inl ⟨by rfl, ?_⟩) ?_ ?_
     rotate_left
     ·intro w'
      go_simp
      with_reducible rfl
     rotate_left
     ·simp only [Act.put, List.setIfInBounds_toArray, List.set_cons_zero, List.set_cons_succ, i64_w, i32_w]
      rfl
     refine done_ (done_of HT_.out zK) ?_
     try go_wp2
     go_step3
     refine ⟨rfl, ?_⟩
     refine hK_ _ _ ?_
     go_roundg k1
     case measure => have := HK1.out; omega
     case rel => exact ⟨(x3_1), (wrap64 (x4_1 + 1)), zP, H', ⟨by have := HK1.out; omega⟩, ⟨zR HO_3⟩, ⟨zB⟩⟩

/-! ### nfkc_plain_1: function 41 -/
def nfkc_plain_1.f (a0 : Int) : Option (Bool) := if a0 < 0 then (some true) else (some (decide (a0 ≥ 128)))
set_option maxHeartbeats 8000000 in
set_option maxRecDepth 100000 in
theorem nfkc_plain_1.calls (a0 : Int) (r : Bool) (w : World) (h : nfkc_plain_1.f a0 = some r) :
  Calls Try.prog 41 #[.int .i32 a0] w fun e w' => e = .returned (.bool r) ∧ Drawn0 w w' := by
 have H : (if a0 < 0 then (some true) else (some (decide (a0 ≥ 128)))) = some r := h
 clear h
 by_cases c2 : a0 < 0
 ·rw [if_pos c2] at H
  have c2b0 : decide (a0 < 0) = true := decide_eq_true c2
  clear c2
  obtain rfl := sI H
  go_enter Try.func41, Try.ntmps41
  go_wp2
  go_ret
  exact ⟨zP, zD⟩
 ·rw [if_neg c2] at H
  have c2b0 : decide (a0 < 0) = false := decide_eq_false c2
  clear c2
  obtain rfl := sI H
  go_enter Try.func41, Try.ntmps41
  go_wp2
  go_ret
  exact ⟨zP, zD⟩

end Go.Proofs.Ytpihglokjcbjkaa.P
