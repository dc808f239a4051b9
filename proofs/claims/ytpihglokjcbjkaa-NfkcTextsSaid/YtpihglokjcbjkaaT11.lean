-- Printed by wip/mk.py (this session's driver over the kit's print) and from wip/manual.
import Derived.Test.YtpihglokjcbjkaaT0
import Derived.Test.YtpihglokjcbjkaaT4
import Derived.Test.YtpihglokjcbjkaaT5
import Derived.Test.YtpihglokjcbjkaaT6
import Derived.Test.YtpihglokjcbjkaaT8
import Derived.Test.YtpihglokjcbjkaaT9
import Derived.Test.YtpihglokjcbjkaaT10
namespace Go.Proofs.Ytpihglokjcbjkaa.P
open Go.RowKit Go.Proofs.YtpihglokjcbjkaaW.PrintWords Go.Proofs.YtpihglokjcbjkaaW.PrintLast Go.Proofs.YtpihglokjcbjkaaW.PrintMore
attribute [local go_sem] max2_int min2_int max_two min_two max_three min_three max_four min_four   -- for this text's walks alone
set_option linter.unusedVariables false
set_option linter.unusedSimpArgs false

/-! ### toponymref05_One: function 39, by hand (toponymref05.One.tpl), and toponymref05_All: function 21 -/
mutual
def toponymref05_One.f : Nat → Int → Bool → Option (List Int)
 | 0, _, _ => none
 | k + 1, a0, a1 => if a0 < 160 then (some (([a0] : List Int))) else ((toponymref04_Syllable.f a0).bind fun t602 => (if t602 = true then ((toponymref04_Apart.f a0).bind fun t603 => (some t603)) else ((toponymref05_Pair.f k a0).bind fun bt606 => (if bt606.2.2 = true then ((toponymref05_One.f k bt606.1 a1).bind fun t609 => (if t609.length < 35184372088832 then (some (t609 ++ [bt606.2.1])) else (none))) else ((toponymref05_Single.f a0).bind fun bt615 => (if bt615.2 = true then ((toponymref05_One.f k bt615.1 a1).bind fun t617 => (some t617)) else ((toponymref05_Loose.f k a0).bind fun t620 => (if a1 = true then (if (t620.length : Int) > 0 then ((toponymref05_All.l0 k a1 t620 ([] : List Int) 0).bind fun t623 => (some t623)) else (some (([a0] : List Int)))) else (some (([a0] : List Int)))))))))))
def toponymref05_All.l0 : Nat → Bool → List Int → List Int → Int → Option (List Int)
 | 0, _, _, _, _ => none
 | k + 1, x0, x1, x5, x6 => if x6 < (x1.length : Int) then (if 0 ≤ x6 then ((toponymref05_One.f k (rd x1 x6) x0).bind fun t593 => (if x5.length + t593.length < 35184372088832 then (toponymref05_All.l0 k x0 x1 (x5 ++ t593) (wrap64 (x6 + 1))) else (none))) else (none)) else (some x5)
end
@[reducible] def toponymref05_All.f (k : Nat) (a0 : Bool) (l1 : List Int) : Option (List Int) := toponymref05_All.l0 k a0 l1 ([] : List Int) 0
theorem toponymref05_One.mono_l : ∀ k, (∀ y0 y1, LeO (toponymref05_One.f k y0 y1) (toponymref05_One.f (k + 1) y0 y1)) ∧ (∀ y0 y1 y2 y3, LeO (toponymref05_All.l0 k y0 y1 y2 y3) (toponymref05_All.l0 (k + 1) y0 y1 y2 y3))
  | 0 => ⟨fun _ _ r h => by simp [toponymref05_One.f] at h, fun _ _ _ _ r h => by simp [toponymref05_All.l0] at h⟩
  | k + 1 => by
    obtain ⟨ih0, ih1⟩ := toponymref05_One.mono_l k
    refine ⟨?_, ?_⟩
    · intro y0 y1
      unfold toponymref05_One.f
      repeat' first
      | (with_reducible exact ih0 _ _)
      | (with_reducible exact ih1 _ _ _ _)
      | (with_reducible exact LeO.refl _)
      | (with_reducible exact toponymref05_Loose.mono _ _)
      | (with_reducible exact toponymref05_Pair.mono _ _)
      | (with_reducible refine LeO.ite ?_ ?_)
      | (with_reducible refine LeO.bind ?_ (fun _ => ?_))
      | exact ih1 _ _ _ _
    · intro y0 y1 y2 y3
      unfold toponymref05_All.l0
      repeat' first
      | (with_reducible exact ih0 _ _)
      | (with_reducible exact ih1 _ _ _ _)
      | (with_reducible exact LeO.refl _)
      | (with_reducible exact toponymref05_Loose.mono _ _)
      | (with_reducible exact toponymref05_Pair.mono _ _)
      | (with_reducible refine LeO.ite ?_ ?_)
      | (with_reducible refine LeO.bind ?_ (fun _ => ?_))
      | exact ih1 _ _ _ _
theorem toponymref05_One.mono : ∀ a0 a1 k, LeO (toponymref05_One.f k a0 a1) (toponymref05_One.f (k + 1) a0 a1) := fun a0 a1 k => (toponymref05_One.mono_l k).1 _ _
theorem toponymref05_All.mono : ∀ a0 a1 k, LeO (toponymref05_All.f k a0 a1) (toponymref05_All.f (k + 1) a0 a1) := fun a0 a1 k => (toponymref05_One.mono_l k).2 _ _ _ _
@[reducible] def toponymref05_One.Says (k : Nat) : Prop := ∀ (a0 : Int) (a1 : Bool) (r : List Int) (w : World) (h : toponymref05_One.f k a0 a1 = some r),
  Calls Try.prog 39 #[.int .i32 a0, .bool a1] w fun e w' => ∃ v0_ : Value, e = .returned (v0_) ∧ Kd.R (Kd.int .i32) 21 w' w.heap.size (fun _ => True) v0_ r ∧ Below w.heap.size w w'
theorem toponymref05_One.Says.use {k : Nat} (h : toponymref05_One.Says k) (a0 : Int) (a1 : Bool) (r : List Int) (w : World) (H : toponymref05_One.f k a0 a1 = some r) :
    Calls Try.prog 39 #[.int .i32 a0, .bool a1] w fun e w' => ∃ v0_ : Value, e = .returned (v0_) ∧ Kd.R (Kd.int .i32) 21 w' w.heap.size (fun _ => True) v0_ r ∧ Below w.heap.size w w' := h a0 a1 r w H
set_option maxHeartbeats 8000000 in
set_option maxRecDepth 100000 in
theorem toponymref05_All.calls_of (k : Nat) (hOne : ∀ k1, k1 < k → toponymref05_One.Says k1) (a0 : Bool) (A1 : Option Addr) (c1 : Nat) (l1 : List Int) (r : List Int) (w : World) (hr1 : Kd.C (Kd.int .i32) w A1 l1.length l1) (hc1 : l1.length ≤ c1) (h : toponymref05_All.f k a0 l1 = some r) :
  Calls Try.prog 21 #[.bool a0, .slice A1 l1.length c1] w fun e w' => ∃ v0_ : Value, e = .returned (v0_) ∧ Kd.R (Kd.int .i32) 21 w' w.heap.size (fun _ => True) v0_ r ∧ Below w.heap.size w w' := by
 have HR1 := aM hr1
 have HC1 := aM hc1
 clear hr1 hc1
 have HB := aM (Below.refl w.heap.size w)
 have H : (toponymref05_All.l0 k a0 l1 ([] : List Int) 0) = some r := h
 clear h
 have H' := aM H
 clear H
 go_enter Try.func21, Try.ntmps21
 go_wp2
 go_loopg [5, 6] k (fun kq v5 v6 w' => ∃ (x5_1 : List Int) (x6_1 : Int), v6 = .int .i64 x6_1 ∧ Aside0 (toponymref05_All.l0 kq a0 l1 x5_1 x6_1 = some r) ∧ Aside0 (kq ≤ k) ∧ Aside0 (Kd.R (Kd.int .i32) 21 w' w.heap.size (fun _ => True) v5 x5_1) ∧ Aside0 (Below w.heap.size w w'))
 case atStart => exact ⟨(([] : List Int)), (0), zP, H', ⟨Nat.le_refl _⟩, ⟨zL⟩, ⟨zB⟩⟩
 case round =>
  clear H'
  try clear c1
  try clear c2
  try clear p2
  obtain ⟨x5_1, x6_1, rfl, HA, HK1, HO_5, HB⟩ := hrel
  cases gk with
  | zero => exact absurd HA.out (by simp [toponymref05_All.l0])
  | succ k1 =>
   have H := HA.out
   clear HA
   simp only [toponymref05_All.l0] at H
   by_cases c3 : x6_1 < (l1.length : Int)
   ·rw [if_pos c3] at H
    have c3b0 : decide (x6_1 < (l1.length : Int)) = true := decide_eq_true c3
    clear c3
    by_cases c4 : 0 ≤ x6_1
    ·rw [if_pos c4] at H
     have c4b0 : decide (0 ≤ x6_1) = true := decide_eq_true c4
     clear c4
     obtain ⟨t593, A5, H⟩ := zO H
     by_cases c6 : x5_1.length + t593.length < 35184372088832
     ·rw [if_pos c6] at H
      have LMc6 := aM c6
      clear c6
      obtain ⟨y596, hy596⟩ : ∃ y_ : List Int, y_ = (x5_1 ++ t593) := ⟨_, rfl⟩
      replace H : (toponymref05_All.l0 k1 a0 l1 y596 (wrap64 (x6_1 + 1))) = some r := zY hy596 H
      have Ny596 := aM hy596
      clear hy596
      have H' := aM H
      clear H
      have p592 : 0 ≤ (x6_1 : Int) := zoA
      have q592 : x6_1 < (l1.length : Int) := zoA
      obtain ⟨ad592, e592, hx592_0⟩ := Kd.at_int HR1.out x6_1 p592 q592
      cases e592
      replace hx592_0 := (HB.out.cell (World.block_lt_of_cell? w _ hx592_0)).trans hx592_0
      replace p592 := eq_true p592
      replace q592 := eq_true q592
      go_wp2_with (first | ((with_reducible refine gate_callee (f := 39) rfl ?_); refine goesL_ (some 19) rfl rfl Try.func39 zK rfl #[.int .i32 (rd l1 x6_1), .bool a0] rfl zM ?_; (with_reducible refine (toponymref05_One.Says.use (hOne k1 (by have := HK1.out; omega)) (rd l1 x6_1) a0 t593 _ A5.out).mono ?_); rintro e w7 ⟨v594, rfl, ho0, hb⟩; refine ⟨_, rfl, ?_⟩; have n_ := zI (aM (Kd.R_elder' (zR HO_5) (Kd.R_base ho0) hb)) (zI (aM (Kd.R_lower (Kd.R_new' ho0 (Kd.R_lt (zR HO_5))) (below_size zB))) (aM (below_step zB hb))); clear HO_5 HB; obtain ⟨HO_5, HO595, HB⟩ := n_; (try clear hb); (try clear hk); (try clear ho0); obtain ⟨Ao9, co9, rfl⟩ := Kd.R_slice HO595.out) | ((with_reducible refine gate_builtin (b := .append) (xs := #[.tmp 13, .tmp 19]) rfl ?_); at_builtin; refine Kd.R_append_rows (Kd.int .i32) (w0 := w) w.heap.size rfl (.tmp 13) (.tmp 19) 22 21 (.int .i32 0) 4 rfl Try.underlying22 info21 rfl (by decide) (by omega) u5 x5_1 t593 _ _ _ (fun k_ => some k_ ≠ (.slice Ao9 t593.length co9 : Value).ownBlock) (fun _ => False) rfl rfl ?aO ?aR (fun _ _ h => h) (fun _ h => h.elim) ?aF ?aB ?aS ?aL ?_; (case aR => repeat (first | exact (Kd.R_reads' HO595.out).2.2 | (with_reducible refine Kd.C_alloc ?_ _) | (with_reducible refine Kd.C_drewN ?_ _) | (with_reducible refine Kd.C_drew ?_))); (case aB => exact zB); (case aF => exact (fun k_ hk => Kd.fresh' (Kd.R_lt (zR HO595)) k_ hk)); (case aO => exact (by (with_reducible repeat (first | apply Kd.R_alloc | apply Kd.R_drewN | apply Kd.R_drew)); exact Kd.R_mono HO_5.out (fun _ hk => hk.2))); (case aS => exact (below_size zB)); (case aL => have := LMc6.out; omega); intro v597 w8 ho hb hg hat; rw [← Ny596.out] at ho; have n_ := zI (aM (Kd.R_after (ok := (fun _ => True)) (zR HO595) hg hat)) (zI (aM (hb)) (aM (ho))); clear HO595 HB HO_5; obtain ⟨HO595, HB, HO598⟩ := n_; clear ho hb hg hat))
      go_roundg k1
      case measure => have := HK1.out; omega
      case rel => exact ⟨(y596), (wrap64 (x6_1 + 1)), zP, H', ⟨by have := HK1.out; omega⟩, ⟨by (with_reducible repeat (first | apply Kd.R_alloc | apply Kd.R_drewN | apply Kd.R_drew)); exact Kd.R_mono HO598.out (fun _ hk => trivial)⟩, ⟨zB⟩⟩
     ·rw [if_neg c6] at H
      exact absurd H (by simp)
    ·rw [if_neg c4] at H
     exact absurd H (by simp)
   ·rw [if_neg c3] at H
    have c3b0 : decide (x6_1 < (l1.length : Int)) = false := decide_eq_false c3
    clear c3
    obtain rfl := sI H
    go_wp2
    go_ret
    exact ⟨_, zE, zR HO_5, zB⟩

set_option maxHeartbeats 8000000 in
set_option maxRecDepth 100000 in
theorem toponymref05_One.calls (k : Nat) : ∀ (a0 : Int) (a1 : Bool) (r : List Int) (w : World) (h : toponymref05_One.f k a0 a1 = some r),
  Calls Try.prog 39 #[.int .i32 a0, .bool a1] w fun e w' => ∃ v0_ : Value, e = .returned (v0_) ∧ Kd.R (Kd.int .i32) 21 w' w.heap.size (fun _ => True) v0_ r ∧ Below w.heap.size w w' := by
 induction k using Nat.strongRecOn with
 | _ k ih =>
 intro a0 a1 r w h
 cases k with
 | zero => exact absurd h (by simp [toponymref05_One.f])
 | succ k =>
 simp only [toponymref05_One.f] at h
 have HB := aM (Below.refl w.heap.size w)
 have H : (if a0 < 160 then (some (([a0] : List Int))) else ((toponymref04_Syllable.f a0).bind fun t602 => (if t602 = true then ((toponymref04_Apart.f a0).bind fun t603 => (some t603)) else ((toponymref05_Pair.f k a0).bind fun bt606 => (if bt606.2.2 = true then ((toponymref05_One.f k bt606.1 a1).bind fun t609 => (if t609.length < 35184372088832 then (some (t609 ++ [bt606.2.1])) else (none))) else ((toponymref05_Single.f a0).bind fun bt615 => (if bt615.2 = true then ((toponymref05_One.f k bt615.1 a1).bind fun t617 => (some t617)) else ((toponymref05_Loose.f k a0).bind fun t620 => (if a1 = true then (if (t620.length : Int) > 0 then ((toponymref05_All.f k a1 t620).bind fun t623 => (some t623)) else (some (([a0] : List Int)))) else (some (([a0] : List Int)))))))))))) = some r := h
 clear h
 by_cases c3 : a0 < 160
 ·rw [if_pos c3] at H
  have c3b0 : decide (a0 < 160) = true := decide_eq_true c3
  clear c3
  obtain ⟨y599, hy599⟩ : ∃ y_ : List Int, y_ = (([a0] : List Int)) := ⟨_, rfl⟩
  replace H : (some y599) = some r := zY hy599 H
  have Ny599 := aM hy599
  clear hy599
  obtain rfl := sI H
  go_enter Try.func39, Try.ntmps39
  go_wp2_with (first | ((with_reducible refine gate_dst (N := 14) rfl ?_); (try (refine gate_guard (by rfl) ?_; dsimp only)); refine Kd.R_lit (Kd.int .i32) _ 21 ?hg (N := 14) ?hd (xs := ([a0] : List Int)) (inner := [.int .i32 a0]) (ok := fun _ => True) (okp := fun _ => True) ?hr ?hp (fun _ hk => hk) trivial (Below.refl _ _) (Nat.le_refl _) (by simp) ?_; (case hd => rfl); (case hg => rfl); (case hr => first | (go_simp; done) | (go_simp; rfl)); (case hp => exact (Reps.one (show Kd.M (Kd.int .i32) _ _ _ a0 [.int .i32 a0] from rfl) (Reps.none _ _))); intro v600 w4 ho5 hb hg_ hnew_; clear hg_ hnew_; (first | rw [← Ny599.out] at ho5 | (simp only [Int.reduceToNat] at ho5; rw [← Ny599.out] at ho5)); have n_ := zI (aM (Kd.R_lower ho5 (below_size zB))) (aM (below_step zB hb)); clear HB; obtain ⟨HO601, HB⟩ := n_; clear hb ho5))
  go_ret
  exact ⟨_, zE, zR HO601, zB⟩
 ·rw [if_neg c3] at H
  have c3b0 : decide (a0 < 160) = false := decide_eq_false c3
  clear c3
  obtain ⟨t602, A6, H⟩ := zO H
  by_cases c7 : t602 = true
  ·subst c7
   rw [if_pos rfl] at H
   obtain ⟨t603, A8, H⟩ := zO H
   obtain rfl := sI H
   go_enter Try.func39, Try.ntmps39
   go_wp2_with (first | ((with_reducible refine gate_callee (f := 57) rfl ?_); refine goesL_ (some 16) rfl rfl Try.func57 zK rfl #[.int .i32 a0] rfl zM ?_; (with_reducible refine (toponymref04_Syllable.calls a0 true _ A6.out).mono ?_); rintro e w' ⟨rfl, ⟨nd, rfl⟩⟩; refine ⟨_, rfl, ?_⟩) | ((with_reducible refine gate_callee (f := 58) rfl ?_); refine goesL_ (some 18) rfl rfl Try.func58 zK rfl #[.int .i32 a0] rfl zM ?_; (with_reducible refine (toponymref04_Apart.calls a0 t603 _ A8.out).mono ?_); rintro e w9 ⟨v604, rfl, ho0, hb⟩; refine ⟨_, rfl, ?_⟩; have n_ := zI (aM (Kd.R_lower ho0 (below_size zB))) (aM (below_step zB hb)); clear HB; obtain ⟨HO605, HB⟩ := n_; (try clear hb); (try clear ho0)))
   go_ret
   exact ⟨_, zE, zR HO605, zB⟩
  ·replace c7 := Bool.eq_false_iff.mpr c7
   subst c7
   rw [if_neg (show ¬ (false = true) by decide)] at H
   obtain ⟨⟨t606, t607, t608⟩, A10, H⟩ := zO H
   try dsimp only at H
   by_cases c11 : t608 = true
   ·subst c11
    rw [if_pos rfl] at H
    obtain ⟨t609, A12, H⟩ := zO H
    by_cases c13 : t609.length < 35184372088832
    ·rw [if_pos c13] at H
     have LMc13 := aM c13
     clear c13
     obtain ⟨y612, hy612⟩ : ∃ y_ : List Int, y_ = (t609 ++ [t607]) := ⟨_, rfl⟩
     replace H : (some y612) = some r := zY hy612 H
     have Ny612 := aM hy612
     clear hy612
     obtain rfl := sI H
     go_enter Try.func39, Try.ntmps39
     go_wp2_with (first | ((with_reducible refine gate_callee (f := 57) rfl ?_); refine goesL_ (some 16) rfl rfl Try.func57 zK rfl #[.int .i32 a0] rfl zM ?_; (with_reducible refine (toponymref04_Syllable.calls a0 false _ A6.out).mono ?_); rintro e w' ⟨rfl, ⟨nd, rfl⟩⟩; refine ⟨_, rfl, ?_⟩) | ((with_reducible refine gate_callee (f := 59) rfl ?_); refine goesL_ (some 21) rfl rfl Try.func59 zK rfl #[.int .i32 a0] rfl zM ?_; (with_reducible refine (toponymref05_Pair.calls k a0 t606 t607 true _ A10.out).mono ?_); rintro e w14 ⟨rfl, hb⟩; refine ⟨_, rfl, ?_⟩; replace HB := aM (below_step zB hb); (try clear hb); (try clear hk)) | ((with_reducible refine gate_callee (f := 39) rfl ?_); refine goesL_ (some 28) rfl rfl Try.func39 zK rfl #[.int .i32 t606, .bool a1] rfl zM ?_; (with_reducible refine (ih k (by omega) t606 a1 t609 _ A12.out).mono ?_); rintro e w15 ⟨v610, rfl, ho0, hb⟩; refine ⟨_, rfl, ?_⟩; have n_ := zI (aM (Kd.R_lower ho0 (below_size zB))) (aM (below_step zB hb)); clear HB; obtain ⟨HO611, HB⟩ := n_; (try clear hb); (try clear hk); (try clear ho0)) | ((with_reducible refine gate_builtin (b := .append) (xs := #[.tmp 28, .tmp 30]) rfl ?_); (try (refine gate_guard (by rfl) ?_; dsimp only)); at_builtin; refine Kd.R_append (Kd.int .i32) (w0 := w) w.heap.size rfl (.tmp 28) (.tmp 30) 22 21 (.int .i32 0) 4 rfl Try.underlying22 info21 rfl (by decide) (by omega) v610 t609 t607 [.int .i32 t607] (fun _ => True) (fun _ => False) rfl rfl ?aP (fun _ hk => hk.elim) ?aF ?aO ?aB ?aS ?aL ?_; (case aP => exact rfl); (case aB => exact zB); (case aF => exact (fun _ _ => trivial)); (case aO => exact (zR HO611)); (case aS => exact (below_size zB)); (case aL => have := LMc13.out; omega); intro v613 w16 ho hb hg hat; rw [← Ny612.out] at ho; have n_ := zI (aM (hb)) (aM (ho)); clear HB HO611; obtain ⟨HB, HO614⟩ := n_; clear ho hb hg hat))
     go_ret
     exact ⟨_, zE, zR HO614, zB⟩
    ·rw [if_neg c13] at H
     exact absurd H (by simp)
   ·replace c11 := Bool.eq_false_iff.mpr c11
    subst c11
    rw [if_neg (show ¬ (false = true) by decide)] at H
    obtain ⟨⟨t615, t616⟩, A17, H⟩ := zO H
    try dsimp only at H
    by_cases c18 : t616 = true
    ·subst c18
     rw [if_pos rfl] at H
     obtain ⟨t617, A19, H⟩ := zO H
     obtain rfl := sI H
     go_enter Try.func39, Try.ntmps39
     go_wp2_with (first | ((with_reducible refine gate_callee (f := 57) rfl ?_); refine goesL_ (some 16) rfl rfl Try.func57 zK rfl #[.int .i32 a0] rfl zM ?_; (with_reducible refine (toponymref04_Syllable.calls a0 false _ A6.out).mono ?_); rintro e w' ⟨rfl, ⟨nd, rfl⟩⟩; refine ⟨_, rfl, ?_⟩) | ((with_reducible refine gate_callee (f := 59) rfl ?_); refine goesL_ (some 21) rfl rfl Try.func59 zK rfl #[.int .i32 a0] rfl zM ?_; (with_reducible refine (toponymref05_Pair.calls k a0 t606 t607 false _ A10.out).mono ?_); rintro e w20 ⟨rfl, hb⟩; refine ⟨_, rfl, ?_⟩; replace HB := aM (below_step zB hb); (try clear hb)) | ((with_reducible refine gate_callee (f := 60) rfl ?_); refine goesL_ (some 34) rfl rfl Try.func60 zK rfl #[.int .i32 a0] rfl zM ?_; (with_reducible refine (toponymref05_Single.calls a0 t615 true _ A17.out).mono ?_); rintro e w' ⟨rfl, ⟨nd, rfl⟩⟩; refine ⟨_, rfl, ?_⟩) | ((with_reducible refine gate_callee (f := 39) rfl ?_); refine goesL_ (some 40) rfl rfl Try.func39 zK rfl #[.int .i32 t615, .bool a1] rfl zM ?_; (with_reducible refine (ih k (by omega) t615 a1 t617 _ A19.out).mono ?_); rintro e w21 ⟨v618, rfl, ho0, hb⟩; refine ⟨_, rfl, ?_⟩; have n_ := zI (aM (Kd.R_lower ho0 (below_size zB))) (aM (below_step zB hb)); clear HB; obtain ⟨HO619, HB⟩ := n_; (try clear hb); (try clear ho0)))
     go_ret
     exact ⟨_, zE, zR HO619, zB⟩
    ·replace c18 := Bool.eq_false_iff.mpr c18
     subst c18
     rw [if_neg (show ¬ (false = true) by decide)] at H
     obtain ⟨t620, A22, H⟩ := zO H
     by_cases c23 : a1 = true
     ·subst c23
      rw [if_pos rfl] at H
      by_cases c24 : (t620.length : Int) > 0
      ·rw [if_pos c24] at H
       have c24b0 : decide (0 < (t620.length : Int)) = true := decide_eq_true c24
       have c24b1 : decide (0 < t620.length) = true := decide_eq_true (by omega)
       clear c24
       obtain ⟨t623, A25, H⟩ := zO H
       obtain rfl := sI H
       go_enter Try.func39, Try.ntmps39
       go_wp2_with (first | ((with_reducible refine gate_callee (f := 57) rfl ?_); refine goesL_ (some 16) rfl rfl Try.func57 zK rfl #[.int .i32 a0] rfl zM ?_; (with_reducible refine (toponymref04_Syllable.calls a0 false _ A6.out).mono ?_); rintro e w' ⟨rfl, ⟨nd, rfl⟩⟩; refine ⟨_, rfl, ?_⟩) | ((with_reducible refine gate_callee (f := 59) rfl ?_); refine goesL_ (some 21) rfl rfl Try.func59 zK rfl #[.int .i32 a0] rfl zM ?_; (with_reducible refine (toponymref05_Pair.calls k a0 t606 t607 false _ A10.out).mono ?_); rintro e w26 ⟨rfl, hb⟩; refine ⟨_, rfl, ?_⟩; replace HB := aM (below_step zB hb); (try clear hb)) | ((with_reducible refine gate_callee (f := 60) rfl ?_); refine goesL_ (some 34) rfl rfl Try.func60 zK rfl #[.int .i32 a0] rfl zM ?_; (with_reducible refine (toponymref05_Single.calls a0 t615 false _ A17.out).mono ?_); rintro e w' ⟨rfl, ⟨nd, rfl⟩⟩; refine ⟨_, rfl, ?_⟩) | ((with_reducible refine gate_callee (f := 61) rfl ?_); refine goesL_ (some 42) rfl rfl Try.func61 zK rfl #[.int .i32 a0] rfl zM ?_; (with_reducible refine (toponymref05_Loose.calls k a0 t620 _ A22.out).mono ?_); rintro e w27 ⟨v621, rfl, ho0, hb⟩; refine ⟨_, rfl, ?_⟩; have n_ := zI (aM (Kd.R_lower ho0 (below_size zB))) (aM (below_step zB hb)); clear HB; obtain ⟨HO622, HB⟩ := n_; (try clear hb); (try clear ho0); obtain ⟨Ao28, co28, rfl⟩ := Kd.R_slice HO622.out) | ((with_reducible refine gate_callee (f := 21) rfl ?_); refine goesL_ (some 51) rfl rfl Try.func21 zK rfl #[.bool true, .slice Ao28 t620.length co28] rfl zM ?_; (with_reducible refine (toponymref05_All.calls_of k (fun k1 h1 => ih k1 (by omega)) true _ _ t620 t623 _ ?side1 ?side2 A25.out).mono ?_); (case side1 => exact zC (Kd.R_reads' HO622.out).2.2); (case side2 => exact (Kd.R_reads' HO622.out).2.1); rintro e w29 ⟨v624, rfl, ho0, hb⟩; refine ⟨_, rfl, ?_⟩; have n_ := zI (aM (Kd.R_elder' (zR HO622) (Kd.R_base ho0) hb)) (zI (aM (Kd.R_lower (Kd.R_new' ho0 (Kd.R_lt (zR HO622))) (below_size zB))) (aM (below_step zB hb))); clear HO622 HB; obtain ⟨HO622, HO625, HB⟩ := n_; (try clear hb); (try clear ho0)))
       go_ret
       exact ⟨_, zE, by (with_reducible repeat (first | apply Kd.R_alloc | apply Kd.R_drewN | apply Kd.R_drew)); exact Kd.R_mono HO625.out (fun _ hk => trivial), zB⟩
      ·rw [if_neg c24] at H
       have c24b0 : decide (0 < (t620.length : Int)) = false := decide_eq_false c24
       have c24b1 : decide (0 < t620.length) = false := decide_eq_false (by omega)
       clear c24
       obtain ⟨y626, hy626⟩ : ∃ y_ : List Int, y_ = (([a0] : List Int)) := ⟨_, rfl⟩
       replace H : (some y626) = some r := zY hy626 H
       have Ny626 := aM hy626
       clear hy626
       obtain rfl := sI H
       go_enter Try.func39, Try.ntmps39
       go_wp2_with (first | ((with_reducible refine gate_callee (f := 57) rfl ?_); refine goesL_ (some 16) rfl rfl Try.func57 zK rfl #[.int .i32 a0] rfl zM ?_; (with_reducible refine (toponymref04_Syllable.calls a0 false _ A6.out).mono ?_); rintro e w' ⟨rfl, ⟨nd, rfl⟩⟩; refine ⟨_, rfl, ?_⟩) | ((with_reducible refine gate_callee (f := 59) rfl ?_); refine goesL_ (some 21) rfl rfl Try.func59 zK rfl #[.int .i32 a0] rfl zM ?_; (with_reducible refine (toponymref05_Pair.calls k a0 t606 t607 false _ A10.out).mono ?_); rintro e w30 ⟨rfl, hb⟩; refine ⟨_, rfl, ?_⟩; replace HB := aM (below_step zB hb); (try clear hb); (try clear hk)) | ((with_reducible refine gate_callee (f := 60) rfl ?_); refine goesL_ (some 34) rfl rfl Try.func60 zK rfl #[.int .i32 a0] rfl zM ?_; (with_reducible refine (toponymref05_Single.calls a0 t615 false _ A17.out).mono ?_); rintro e w' ⟨rfl, ⟨nd, rfl⟩⟩; refine ⟨_, rfl, ?_⟩) | ((with_reducible refine gate_callee (f := 61) rfl ?_); refine goesL_ (some 42) rfl rfl Try.func61 zK rfl #[.int .i32 a0] rfl zM ?_; (with_reducible refine (toponymref05_Loose.calls k a0 t620 _ A22.out).mono ?_); rintro e w31 ⟨v621, rfl, ho0, hb⟩; refine ⟨_, rfl, ?_⟩; have n_ := zI (aM (Kd.R_lower ho0 (below_size zB))) (aM (below_step zB hb)); clear HB; obtain ⟨HO622, HB⟩ := n_; (try clear hb); (try clear hk); (try clear ho0); obtain ⟨Ao32, co32, rfl⟩ := Kd.R_slice HO622.out) | ((with_reducible refine gate_dst (N := 53) rfl ?_); (try (refine gate_guard (by rfl) ?_; dsimp only)); refine Kd.R_lit (Kd.int .i32) _ 21 ?hg (N := 53) ?hd (xs := ([a0] : List Int)) (inner := [.int .i32 a0]) (ok := fun _ => True) (okp := fun _ => True) ?hr ?hp (fun _ hk => hk) trivial (Below.refl _ _) (Nat.le_refl _) (by simp) ?_; (case hd => rfl); (case hg => rfl); (case hr => first | (go_simp; done) | (go_simp; rfl)); (case hp => exact (Reps.one (show Kd.M (Kd.int .i32) _ _ _ a0 [.int .i32 a0] from rfl) (Reps.none _ _))); intro v627 w33 ho34 hb hg_ hnew_; clear hg_ hnew_; (first | rw [← Ny626.out] at ho34 | (simp only [Int.reduceToNat] at ho34; rw [← Ny626.out] at ho34)); have n_ := zI (aM (Kd.R_elder' (zR HO622) (Kd.R_base ho34) hb)) (zI (aM (Kd.R_lower (Kd.R_new' ho34 (Kd.R_lt (zR HO622))) (below_size zB))) (aM (below_step zB hb))); clear HO622 HB; obtain ⟨HO622, HO628, HB⟩ := n_; clear hb ho34))
       go_ret
       exact ⟨_, zE, by (with_reducible repeat (first | apply Kd.R_alloc | apply Kd.R_drewN | apply Kd.R_drew)); exact Kd.R_mono HO628.out (fun _ hk => trivial), zB⟩
     ·replace c23 := Bool.eq_false_iff.mpr c23
      subst c23
      rw [if_neg (show ¬ (false = true) by decide)] at H
      obtain ⟨y629, hy629⟩ : ∃ y_ : List Int, y_ = (([a0] : List Int)) := ⟨_, rfl⟩
      replace H : (some y629) = some r := zY hy629 H
      have Ny629 := aM hy629
      clear hy629
      obtain rfl := sI H
      go_enter Try.func39, Try.ntmps39
      go_wp2_with (first | ((with_reducible refine gate_callee (f := 57) rfl ?_); refine goesL_ (some 16) rfl rfl Try.func57 zK rfl #[.int .i32 a0] rfl zM ?_; (with_reducible refine (toponymref04_Syllable.calls a0 false _ A6.out).mono ?_); rintro e w' ⟨rfl, ⟨nd, rfl⟩⟩; refine ⟨_, rfl, ?_⟩) | ((with_reducible refine gate_callee (f := 59) rfl ?_); refine goesL_ (some 21) rfl rfl Try.func59 zK rfl #[.int .i32 a0] rfl zM ?_; (with_reducible refine (toponymref05_Pair.calls k a0 t606 t607 false _ A10.out).mono ?_); rintro e w35 ⟨rfl, hb⟩; refine ⟨_, rfl, ?_⟩; replace HB := aM (below_step zB hb); (try clear hb); (try clear hk)) | ((with_reducible refine gate_callee (f := 60) rfl ?_); refine goesL_ (some 34) rfl rfl Try.func60 zK rfl #[.int .i32 a0] rfl zM ?_; (with_reducible refine (toponymref05_Single.calls a0 t615 false _ A17.out).mono ?_); rintro e w' ⟨rfl, ⟨nd, rfl⟩⟩; refine ⟨_, rfl, ?_⟩) | ((with_reducible refine gate_callee (f := 61) rfl ?_); refine goesL_ (some 42) rfl rfl Try.func61 zK rfl #[.int .i32 a0] rfl zM ?_; (with_reducible refine (toponymref05_Loose.calls k a0 t620 _ A22.out).mono ?_); rintro e w36 ⟨v621, rfl, ho0, hb⟩; refine ⟨_, rfl, ?_⟩; have n_ := zI (aM (Kd.R_lower ho0 (below_size zB))) (aM (below_step zB hb)); clear HB; obtain ⟨HO622, HB⟩ := n_; (try clear hb); (try clear hk); (try clear ho0)) | ((with_reducible refine gate_dst (N := 53) rfl ?_); (try (refine gate_guard (by rfl) ?_; dsimp only)); refine Kd.R_lit (Kd.int .i32) _ 21 ?hg (N := 53) ?hd (xs := ([a0] : List Int)) (inner := [.int .i32 a0]) (ok := fun _ => True) (okp := fun _ => True) ?hr ?hp (fun _ hk => hk) trivial (Below.refl _ _) (Nat.le_refl _) (by simp) ?_; (case hd => rfl); (case hg => rfl); (case hr => first | (go_simp; done) | (go_simp; rfl)); (case hp => exact (Reps.one (show Kd.M (Kd.int .i32) _ _ _ a0 [.int .i32 a0] from rfl) (Reps.none _ _))); intro v630 w37 ho38 hb hg_ hnew_; clear hg_ hnew_; (first | rw [← Ny629.out] at ho38 | (simp only [Int.reduceToNat] at ho38; rw [← Ny629.out] at ho38)); have n_ := zI (aM (Kd.R_elder' (zR HO622) (Kd.R_base ho38) hb)) (zI (aM (Kd.R_lower (Kd.R_new' ho38 (Kd.R_lt (zR HO622))) (below_size zB))) (aM (below_step zB hb))); clear HO622 HB; obtain ⟨HO622, HO631, HB⟩ := n_; clear hb ho38))
      go_ret
      exact ⟨_, zE, by (with_reducible repeat (first | apply Kd.R_alloc | apply Kd.R_drewN | apply Kd.R_drew)); exact Kd.R_mono HO631.out (fun _ hk => trivial), zB⟩

theorem toponymref05_All.calls (k : Nat) (a0 : Bool) (A1 : Option Addr) (c1 : Nat) (l1 : List Int) (r : List Int) (w : World) (hr1 : Kd.C (Kd.int .i32) w A1 l1.length l1) (hc1 : l1.length ≤ c1) (h : toponymref05_All.f k a0 l1 = some r) :
  Calls Try.prog 21 #[.bool a0, .slice A1 l1.length c1] w fun e w' => ∃ v0_ : Value, e = .returned (v0_) ∧ Kd.R (Kd.int .i32) 21 w' w.heap.size (fun _ => True) v0_ r ∧ Below w.heap.size w w' := toponymref05_All.calls_of k (fun k1 _ => toponymref05_One.calls k1) a0 A1 c1 l1 r w hr1 hc1 h

/-! ### toponymref08_Runes: function 9 -/
def toponymref08_Runes.f (k : Nat) (a0 : Bool) (l1 : List Int) : Option (List Int) := (toponymref05_All.f k a0 l1).bind fun t632 => ((toponymref06_Order.f k t632).bind fun t635 => ((toponymref07_All.f k t635).bind fun t638 => (some t638)))
theorem toponymref08_Runes.mono : ∀ a0 a1 k, LeO (toponymref08_Runes.f k a0 a1) (toponymref08_Runes.f (k + 1) a0 a1) := by
 intro a0 a1 k
 unfold toponymref08_Runes.f
 repeat' first
   | (with_reducible exact toponymref05_All.mono _ _ _)
   | (with_reducible exact toponymref06_Order.mono _ _)
   | (with_reducible exact toponymref07_All.mono _ _)
   | (with_reducible exact LeO.refl _)
   | exact toponymref05_All.mono _ _ _
   | exact toponymref06_Order.mono _ _
   | exact toponymref07_All.mono _ _
   | exact LeO.none _
   | refine LeO.ite ?_ ?_
   | refine LeO.bind ?_ (fun _ => ?_)
set_option maxHeartbeats 8000000 in
set_option maxRecDepth 100000 in
theorem toponymref08_Runes.calls (k : Nat) (a0 : Bool) (A1 : Option Addr) (c1 : Nat) (l1 : List Int) (r : List Int) (w : World) (hr1 : Kd.C (Kd.int .i32) w A1 l1.length l1) (hc1 : l1.length ≤ c1) (h : toponymref08_Runes.f k a0 l1 = some r) :
  Calls Try.prog 9 #[.bool a0, .slice A1 l1.length c1] w fun e w' => ∃ v0_ : Value, e = .returned (v0_) ∧ Kd.R (Kd.int .i32) 21 w' w.heap.size (fun _ => True) v0_ r ∧ Below w.heap.size w w' := by
 have HR1 := aM hr1
 have HC1 := aM hc1
 clear hr1 hc1
 have HB := aM (Below.refl w.heap.size w)
 have H : ((toponymref05_All.f k a0 l1).bind fun t632 => ((toponymref06_Order.f k t632).bind fun t635 => ((toponymref07_All.f k t635).bind fun t638 => (some t638)))) = some r := h
 clear h
 obtain ⟨t632, A3, H⟩ := zO H
 obtain ⟨t635, A4, H⟩ := zO H
 obtain ⟨t638, A5, H⟩ := zO H
 obtain rfl := sI H
 go_enter Try.func9, Try.ntmps9
 go_wp2_with (first | ((with_reducible refine gate_callee (f := 21) rfl ?_); refine goesL_ (some 7) rfl rfl Try.func21 zK rfl #[.bool a0, .slice A1 l1.length c1] rfl zM ?_; (with_reducible refine (toponymref05_All.calls k a0 _ _ l1 t632 _ ?side1 ?side2 A3.out).mono ?_); (case side1 => exact zC HR1.out); (case side2 => exact HC1.out); rintro e w6 ⟨v633, rfl, ho0, hb⟩; refine ⟨_, rfl, ?_⟩; have n_ := zI (aM (Kd.R_lower ho0 (below_size zB))) (aM (below_step zB hb)); clear HB; obtain ⟨HO634, HB⟩ := n_; (try clear hb); (try clear ho0); obtain ⟨Ao7, co7, rfl⟩ := Kd.R_slice HO634.out) | ((with_reducible refine gate_callee (f := 20) rfl ?_); refine goesL_ (some 8) rfl rfl Try.func20 zK rfl #[.slice Ao7 t632.length co7] rfl zM ?_; (with_reducible refine (toponymref06_Order.calls k _ _ t632 t635 _ ?side1 ?side2 A4.out).mono ?_); (case side1 => exact zC (Kd.R_reads' HO634.out).2.2); (case side2 => exact (Kd.R_reads' HO634.out).2.1); rintro e w8 ⟨v636, rfl, ho0, hb⟩; refine ⟨_, rfl, ?_⟩; have n_ := zI (aM (Kd.R_elder' (zR HO634) (Kd.R_base ho0) hb)) (zI (aM (Kd.R_lower (Kd.R_new' ho0 (Kd.R_lt (zR HO634))) (below_size zB))) (aM (below_step zB hb))); clear HO634 HB; obtain ⟨HO634, HO637, HB⟩ := n_; (try clear hb); (try clear ho0); obtain ⟨Ao9, co9, rfl⟩ := Kd.R_slice HO637.out) | ((with_reducible refine gate_callee (f := 19) rfl ?_); refine goesL_ (some 9) rfl rfl Try.func19 zK rfl #[.slice Ao9 t635.length co9] rfl zM ?_; (with_reducible refine (toponymref07_All.calls k _ _ t635 t638 _ ?side1 ?side2 A5.out).mono ?_); (case side1 => exact zC (Kd.R_reads' HO637.out).2.2); (case side2 => exact (Kd.R_reads' HO637.out).2.1); rintro e w10 ⟨v639, rfl, ho0, hb⟩; refine ⟨_, rfl, ?_⟩; have n_ := zI (aM (Kd.R_elder' (zR HO634) (Kd.R_base ho0) hb)) (zI (aM (Kd.R_elder' (zR HO637) (Kd.R_base ho0) hb)) (zI (aM (Kd.R_lower (Kd.R_new' (Kd.R_new' ho0 (Kd.R_lt (zR HO634))) (Kd.R_lt (zR HO637))) (below_size zB))) (aM (below_step zB hb)))); clear HO634 HO637 HB; obtain ⟨HO634, HO637, HO640, HB⟩ := n_; (try clear hb); (try clear ho0)))
 go_ret
 exact ⟨_, zE, by (with_reducible repeat (first | apply Kd.R_alloc | apply Kd.R_drewN | apply Kd.R_drew)); exact Kd.R_mono HO640.out (fun _ hk => trivial), zB⟩

/-! ### toponymref01_Same: function 10 -/
def toponymref01_Same.l0 : Nat → List Int → List Int → Int → Option (Bool)
 | 0, _, _, _ => none
 | k + 1, x0, x1, x5 => if x5 < (x0.length : Int) then (if 0 ≤ x5 then (if x5 < (x1.length : Int) then (if (rd x0 x5) = (rd x1 x5) then (toponymref01_Same.l0 k x0 x1 (wrap64 (x5 + 1))) else (some false)) else (none)) else (none)) else (some true)
def toponymref01_Same.f (k : Nat) (l0 : List Int) (l1 : List Int) : Option (Bool) := if (l0.length : Int) = (l1.length : Int) then (toponymref01_Same.l0 k l0 l1 0) else (some false)
theorem toponymref01_Same.mono_l : ∀ k, (∀ y0 y1 y2, LeO (toponymref01_Same.l0 k y0 y1 y2) (toponymref01_Same.l0 (k + 1) y0 y1 y2))
 | 0 => fun _ _ _ r h => by simp [toponymref01_Same.l0] at h
 | k + 1 => by
  have ih0 := toponymref01_Same.mono_l k
  ·intro y0 y1 y2
   unfold toponymref01_Same.l0
   repeat' first
   | (with_reducible exact ih0 _ _ _)
   | (with_reducible exact LeO.refl _)
   | exact ih0 _ _ _
   | exact LeO.none _
   | refine LeO.ite ?_ ?_
   | refine LeO.bind ?_ (fun _ => ?_)
theorem toponymref01_Same.mono : ∀ a0 a1 k, LeO (toponymref01_Same.f k a0 a1) (toponymref01_Same.f (k + 1) a0 a1) := by
 intro a0 a1 k
 have ih0 := toponymref01_Same.mono_l k
 unfold toponymref01_Same.f
 repeat' first
   | (with_reducible exact ih0 _ _ _)
   | (with_reducible exact LeO.refl _)
   | exact ih0 _ _ _
   | exact LeO.none _
   | refine LeO.ite ?_ ?_
   | refine LeO.bind ?_ (fun _ => ?_)
set_option maxHeartbeats 8000000 in
set_option maxRecDepth 100000 in
theorem toponymref01_Same.calls (k : Nat) (A0 : Option Addr) (c0 : Nat) (l0 : List Int) (A1 : Option Addr) (c1 : Nat) (l1 : List Int) (r : Bool) (w : World) (hr0 : Kd.C (Kd.int .i32) w A0 l0.length l0) (hc0 : l0.length ≤ c0) (hr1 : Kd.C (Kd.int .i32) w A1 l1.length l1) (hc1 : l1.length ≤ c1) (h : toponymref01_Same.f k l0 l1 = some r) :
  Calls Try.prog 10 #[.slice A0 l0.length c0, .slice A1 l1.length c1] w fun e w' => e = .returned (.bool r) ∧ Drawn0 w w' := by
 have HR0 := aM hr0
 have HC0 := aM hc0
 clear hr0 hc0
 have HR1 := aM hr1
 have HC1 := aM hc1
 clear hr1 hc1
 have H : (if (l0.length : Int) = (l1.length : Int) then (toponymref01_Same.l0 k l0 l1 0) else (some false)) = some r := h
 clear h
 by_cases c3 : (l0.length : Int) = (l1.length : Int)
 ·rw [if_pos c3] at H
  have c3b0 : ((l0.length : Int) == (l1.length : Int)) = true := beq_iff_eq.mpr c3
  have c3b1 : ((l0.length : Int) != (l1.length : Int)) = false := bne_eq_false_iff_eq.mpr c3
  have c3b2 : (l0.length == l1.length) = true := by first | simpa using c3 | (simp at c3 ⊢; omega)
  clear c3
  have H' := aM H
  clear H
  go_enter Try.func10, Try.ntmps10
  go_wp2
  repeat (go_quiet (fail); try go_wp2)
  go_loopg [5] k (fun kq v5 w' => ∃ (x5_1 : Int), v5 = .int .i64 x5_1 ∧ Aside0 (toponymref01_Same.l0 kq l0 l1 x5_1 = some r) ∧ Aside0 (kq ≤ k) ∧ Drawn0 w w')
  case atStart => exact ⟨(0), zP, H', ⟨Nat.le_refl _⟩, zD⟩
  case round =>
   clear H'
   try clear c1
   try clear p2
   try clear c3
   try clear c3b0
   try clear c3b1
   try clear c3b2
   obtain ⟨x5_1, rfl, HA, HK1, ⟨m1, rfl⟩⟩ := hrel
   cases gk with
   | zero => exact absurd HA.out (by simp [toponymref01_Same.l0])
   | succ k1 =>
    have H := HA.out
    clear HA
    simp only [toponymref01_Same.l0] at H
    by_cases c4 : x5_1 < (l0.length : Int)
    ·rw [if_pos c4] at H
     have c4b0 : decide (x5_1 < (l0.length : Int)) = true := decide_eq_true c4
     clear c4
     by_cases c5 : 0 ≤ x5_1
     ·rw [if_pos c5] at H
      have c5b0 : decide (0 ≤ x5_1) = true := decide_eq_true c5
      clear c5
      by_cases c6 : x5_1 < (l1.length : Int)
      ·rw [if_pos c6] at H
       have c6b0 : decide (x5_1 < (l1.length : Int)) = true := decide_eq_true c6
       clear c6
       by_cases c7 : (rd l0 x5_1) = (rd l1 x5_1)
       ·rw [if_pos c7] at H
        have c7b0 : ((rd l0 x5_1) == (rd l1 x5_1)) = true := beq_iff_eq.mpr c7
        have c7b1 : ((rd l0 x5_1) != (rd l1 x5_1)) = false := bne_eq_false_iff_eq.mpr c7
        clear c7
        have H' := aM H
        clear H
        have p641 : 0 ≤ (x5_1 : Int) := zoA
        have q641 : x5_1 < (l0.length : Int) := zoA
        obtain ⟨ad641, e641, hx641_0⟩ := Kd.at_int HR0.out x5_1 p641 q641
        cases e641
        replace p641 := eq_true p641
        replace q641 := eq_true q641
        have p642 : 0 ≤ (x5_1 : Int) := zoA
        have q642 : x5_1 < (l1.length : Int) := zoA
        obtain ⟨ad642, e642, hx642_0⟩ := Kd.at_int HR1.out x5_1 p642 q642
        cases e642
        replace p642 := eq_true p642
        replace q642 := eq_true q642
        go_wp2
        repeat (go_quiet (fail); try go_wp2)
        go_roundg k1
        case measure => have := HK1.out; omega
        case rel => exact ⟨(wrap64 (x5_1 + 1)), zP, H', ⟨by have := HK1.out; omega⟩, zD⟩
       ·rw [if_neg c7] at H
        have c7b0 : ((rd l0 x5_1) == (rd l1 x5_1)) = false := beq_eq_false_iff_ne.mpr c7
        have c7b1 : ((rd l0 x5_1) != (rd l1 x5_1)) = true := bne_iff_ne.mpr c7
        obtain rfl := sI H
        have p641 : 0 ≤ (x5_1 : Int) := zoA
        have q641 : x5_1 < (l0.length : Int) := zoA
        obtain ⟨ad641, e641, hx641_0⟩ := Kd.at_int HR0.out x5_1 p641 q641
        cases e641
        replace p641 := eq_true p641
        replace q641 := eq_true q641
        have p642 : 0 ≤ (x5_1 : Int) := zoA
        have q642 : x5_1 < (l1.length : Int) := zoA
        obtain ⟨ad642, e642, hx642_0⟩ := Kd.at_int HR1.out x5_1 p642 q642
        cases e642
        replace p642 := eq_true p642
        replace q642 := eq_true q642
        go_wp2
        repeat (go_quiet (fail); try go_wp2)
        go_ret
        exact ⟨zP, zD⟩
      ·rw [if_neg c6] at H
       exact absurd H (by simp)
     ·rw [if_neg c5] at H
      exact absurd H (by simp)
    ·rw [if_neg c4] at H
     have c4b0 : decide (x5_1 < (l0.length : Int)) = false := decide_eq_false c4
     clear c4
     obtain rfl := sI H
     go_wp2
     repeat (go_quiet (fail); try go_wp2)
     go_ret
     exact ⟨zP, zD⟩
 ·rw [if_neg c3] at H
  have c3b0 : ((l0.length : Int) == (l1.length : Int)) = false := beq_eq_false_iff_ne.mpr c3
  have c3b1 : ((l0.length : Int) != (l1.length : Int)) = true := bne_iff_ne.mpr c3
  have c3b2 : (l0.length == l1.length) = false := by first | simpa using c3 | (simp at c3 ⊢; omega)
  obtain rfl := sI H
  go_enter Try.func10, Try.ntmps10
  go_wp2
  repeat (go_quiet (fail); try go_wp2)
  go_ret
  exact ⟨zP, zD⟩

/-! ### toponymlaw08_NfkcRunes: function 3 -/
def toponymlaw08_NfkcRunes.f (k : Nat) (a0 : Bool) (l1 : List Int) : Option (Bool) := if (l1.length : Int) > 150 then ((toponymlaw08_awake.f k).bind fun t643 => (some t643)) else ((toponymref08_Runes.f k a0 l1).bind fun t644 => ((nfkc_Runes.f k a0 l1).bind fun t647 => ((toponymref01_Same.f k t647 t644).bind fun t650 => (if t650 = true then ((nfkc_Is.f k a0 l1).bind fun t651 => ((toponymref01_Same.f k l1 t644).bind fun t652 => (if (t651 == t652) = true then ((toponymlaw08_awake.f k).bind fun t653 => (some t653)) else (some false)))) else (some false)))))
theorem toponymlaw08_NfkcRunes.mono : ∀ a0 a1 k, LeO (toponymlaw08_NfkcRunes.f k a0 a1) (toponymlaw08_NfkcRunes.f (k + 1) a0 a1) := by
 intro a0 a1 k
 unfold toponymlaw08_NfkcRunes.f
 repeat' first
   | (with_reducible exact nfkc_Is.mono _ _ _)
   | (with_reducible exact nfkc_Runes.mono _ _ _)
   | (with_reducible exact toponymlaw08_awake.mono _)
   | (with_reducible exact toponymref01_Same.mono _ _ _)
   | (with_reducible exact toponymref08_Runes.mono _ _ _)
   | (with_reducible exact LeO.refl _)
   | exact nfkc_Is.mono _ _ _
   | exact nfkc_Runes.mono _ _ _
   | exact toponymlaw08_awake.mono _
   | exact toponymref01_Same.mono _ _ _
   | exact toponymref08_Runes.mono _ _ _
   | exact LeO.none _
   | refine LeO.ite ?_ ?_
   | refine LeO.bind ?_ (fun _ => ?_)
set_option maxHeartbeats 8000000 in
set_option maxRecDepth 100000 in
theorem toponymlaw08_NfkcRunes.calls (k : Nat) (a0 : Bool) (A1 : Option Addr) (c1 : Nat) (l1 : List Int) (r : Bool) (w : World) (hr1 : Kd.C (Kd.int .i32) w A1 l1.length l1) (hc1 : l1.length ≤ c1) (h : toponymlaw08_NfkcRunes.f k a0 l1 = some r) (hT_ : r = true) :
  Calls Try.prog 3 #[.bool a0, .slice A1 l1.length c1] w fun e w' => e = .returned (.bool r) ∧ Below w.heap.size w w' := by
 have hT := aM hT_
 clear hT_
 have HR1 := aM hr1
 have HC1 := aM hc1
 clear hr1 hc1
 have HB := aM (Below.refl w.heap.size w)
 have H : (if (l1.length : Int) > 150 then ((toponymlaw08_awake.f k).bind fun t643 => (some t643)) else ((toponymref08_Runes.f k a0 l1).bind fun t644 => ((nfkc_Runes.f k a0 l1).bind fun t647 => ((toponymref01_Same.f k t647 t644).bind fun t650 => (if t650 = true then ((nfkc_Is.f k a0 l1).bind fun t651 => ((toponymref01_Same.f k l1 t644).bind fun t652 => (if (t651 == t652) = true then ((toponymlaw08_awake.f k).bind fun t653 => (some t653)) else (some false)))) else (some false)))))) = some r := h
 clear h
 by_cases c3 : (l1.length : Int) > 150
 ·rw [if_pos c3] at H
  have c3b0 : decide (150 < (l1.length : Int)) = true := decide_eq_true c3
  have c3b1 : decide (150 < l1.length) = true := decide_eq_true (by omega)
  clear c3
  obtain ⟨t643, A4, H⟩ := zO H
  obtain rfl := sI H
  go_enter Try.func3, Try.ntmps3
  go_wp2_with (first | ((with_reducible refine gate_callee (f := 8) rfl ?_); refine goesL_ (some 9) rfl rfl Try.func8 zK rfl #[] rfl zM ?_; (with_reducible refine (toponymlaw08_awake.calls k  t643 _ A4.out).mono ?_); rintro e w5 ⟨rfl, hb⟩; (try clear A4); refine ⟨_, rfl, ?_⟩; replace HB := aM (below_step zB hb); (try clear hb)))
  go_ret
  exact ⟨zE, zB⟩
 ·rw [if_neg c3] at H
  have c3b0 : decide (150 < (l1.length : Int)) = false := decide_eq_false c3
  have c3b1 : decide (150 < l1.length) = false := decide_eq_false (by omega)
  clear c3
  obtain ⟨t644, A6, H⟩ := zO H
  obtain ⟨t647, A7, H⟩ := zO H
  obtain ⟨t650, A8, H⟩ := zO H
  by_cases c9 : t650 = true
  ·subst c9
   rw [if_pos rfl] at H
   obtain ⟨t651, A10, H⟩ := zO H
   obtain ⟨t652, A11, H⟩ := zO H
   by_cases c12 : (t651 == t652) = true
   ·rw [if_pos c12] at H
    have c12b0 : (t651 == t652) = true := c12
    (try (have c12b1 : decide (t651 = t652) = true := by simpa using c12))
    (try (have c12b2 : (t651 == t652) = true := by simpa using c12))
    clear c12
    obtain ⟨t653, A13, H⟩ := zO H
    obtain rfl := sI H
    go_enter Try.func3, Try.ntmps3
    go_wp2_with (first | ((with_reducible refine gate_callee (f := 9) rfl ?_); refine goesL_ (some 12) rfl rfl Try.func9 zK rfl #[.bool a0, .slice A1 l1.length c1] rfl zM ?_; (with_reducible refine (toponymref08_Runes.calls k a0 _ _ l1 t644 _ ?side1 ?side2 A6.out).mono ?_); (case side1 => exact zC HR1.out); (case side2 => exact HC1.out); rintro e w14 ⟨v645, rfl, ho0, hb⟩; refine ⟨_, rfl, ?_⟩; have n_ := zI (aM (Kd.R_lower ho0 (below_size zB))) (aM (below_step zB hb)); clear HB; obtain ⟨HO646, HB⟩ := n_; (try clear hb); (try clear ho0)) | ((with_reducible refine gate_callee (f := 11) rfl ?_); refine goesL_ (some 15) rfl rfl Try.func11 zK rfl #[.bool a0, .slice A1 l1.length c1] rfl zM ?_; (with_reducible refine (nfkc_Runes.calls k a0 _ _ l1 t647 _ ?side1 ?side2 A7.out).mono ?_); (case side1 => exact zCB HR1); (case side2 => exact HC1.out); rintro e w15 ⟨v648, rfl, ho0, hb⟩; refine ⟨_, rfl, ?_⟩; have n_ := zI (aM (Kd.R_elder' (zR HO646) (Kd.R_base ho0) hb)) (zI (aM (Kd.R_lower (Kd.R_new' ho0 (Kd.R_lt (zR HO646))) (below_size zB))) (aM (below_step zB hb))); clear HO646 HB; obtain ⟨HO646, HO649, HB⟩ := n_; (try clear hb); (try clear ho0); obtain ⟨Ao16, co16, rfl⟩ := Kd.R_slice HO649.out; obtain ⟨Ao17, co17, rfl⟩ := Kd.R_slice HO646.out) | ((with_reducible refine gate_callee (f := 10) rfl ?_); refine goesL_ (some 17) rfl rfl Try.func10 zK rfl #[.slice Ao16 t647.length co16, .slice Ao17 t644.length co17] rfl zM ?_; (with_reducible refine (toponymref01_Same.calls k _ _ t647 _ _ t644 true _ ?side1 ?side2 ?side3 ?side4 A8.out).mono ?_); (case side1 => exact zC (Kd.R_reads' HO649.out).2.2); (case side2 => exact (Kd.R_reads' HO649.out).2.1); (case side3 => exact zC (Kd.R_reads' HO646.out).2.2); (case side4 => exact (Kd.R_reads' HO646.out).2.1); rintro e w' ⟨rfl, ⟨nd, rfl⟩⟩; (try clear A8); refine ⟨_, rfl, ?_⟩) | (go_at_call 12; (with_reducible refine (nfkc_Is.calls k a0 _ _ l1 t651 _ ?side1 ?side2 A10.out).mono ?_); (case side1 => exact zCB HR1); (case side2 => exact HC1.out); rintro e w18 ⟨rfl, hb⟩; have n_ := zI (aM (Kd.R_below (zR HO646) hb)) (zI (aM (Kd.R_below (zR HO649) hb)) (aM (below_step zB hb))); clear HO646 HO649 HB; obtain ⟨HO646, HO649, HB⟩ := n_; (try clear hb)) | (go_at_call 10; (with_reducible refine (toponymref01_Same.calls k _ _ l1 _ _ t644 t652 _ ?side1 ?side2 ?side3 ?side4 A11.out).mono ?_); (case side1 => exact zCB HR1); (case side2 => exact HC1.out); (case side3 => exact zC (Kd.R_reads' HO646.out).2.2); (case side4 => exact (Kd.R_reads' HO646.out).2.1); rintro e w' ⟨rfl, ⟨nd, rfl⟩⟩; (try clear A11)) | (go_at_call 8; (with_reducible refine (toponymlaw08_awake.calls k  t653 _ A13.out).mono ?_); rintro e w19 ⟨rfl, hb⟩; (try clear A13); have n_ := zI (aM (Kd.R_below (zR HO646) hb)) (zI (aM (Kd.R_below (zR HO649) hb)) (aM (below_step zB hb))); clear HO646 HO649 HB; obtain ⟨HO646, HO649, HB⟩ := n_; (try clear hb)))
    go_ret
    exact ⟨zE, zB⟩
   ·rw [if_neg c12] at H
    have c12b0 : (t651 == t652) = false := by simpa using c12
    (try (have c12b1 : decide (t651 = t652) = false := by simpa using c12))
    (try (have c12b2 : (t651 == t652) = false := by simpa using c12))
    (try (have c12b3 : ¬ (t651 = t652) := by simpa using c12))
    clear c12
    obtain rfl := sI H
    go_enter Try.func3, Try.ntmps3
    go_wp2_with (first | ((with_reducible refine gate_callee (f := 9) rfl ?_); refine goesL_ (some 12) rfl rfl Try.func9 zK rfl #[.bool a0, .slice A1 l1.length c1] rfl zM ?_; (with_reducible refine (toponymref08_Runes.calls k a0 _ _ l1 t644 _ ?side1 ?side2 A6.out).mono ?_); (case side1 => exact zC HR1.out); (case side2 => exact HC1.out); rintro e w20 ⟨v645, rfl, ho0, hb⟩; refine ⟨_, rfl, ?_⟩; have n_ := zI (aM (Kd.R_lower ho0 (below_size zB))) (aM (below_step zB hb)); clear HB; obtain ⟨HO646, HB⟩ := n_; (try clear hb); (try clear ho0)) | ((with_reducible refine gate_callee (f := 11) rfl ?_); refine goesL_ (some 15) rfl rfl Try.func11 zK rfl #[.bool a0, .slice A1 l1.length c1] rfl zM ?_; (with_reducible refine (nfkc_Runes.calls k a0 _ _ l1 t647 _ ?side1 ?side2 A7.out).mono ?_); (case side1 => exact zCB HR1); (case side2 => exact HC1.out); rintro e w21 ⟨v648, rfl, ho0, hb⟩; refine ⟨_, rfl, ?_⟩; have n_ := zI (aM (Kd.R_elder' (zR HO646) (Kd.R_base ho0) hb)) (zI (aM (Kd.R_lower (Kd.R_new' ho0 (Kd.R_lt (zR HO646))) (below_size zB))) (aM (below_step zB hb))); clear HO646 HB; obtain ⟨HO646, HO649, HB⟩ := n_; (try clear hb); (try clear ho0); obtain ⟨Ao22, co22, rfl⟩ := Kd.R_slice HO649.out; obtain ⟨Ao23, co23, rfl⟩ := Kd.R_slice HO646.out) | ((with_reducible refine gate_callee (f := 10) rfl ?_); refine goesL_ (some 17) rfl rfl Try.func10 zK rfl #[.slice Ao22 t647.length co22, .slice Ao23 t644.length co23] rfl zM ?_; (with_reducible refine (toponymref01_Same.calls k _ _ t647 _ _ t644 true _ ?side1 ?side2 ?side3 ?side4 A8.out).mono ?_); (case side1 => exact zC (Kd.R_reads' HO649.out).2.2); (case side2 => exact (Kd.R_reads' HO649.out).2.1); (case side3 => exact zC (Kd.R_reads' HO646.out).2.2); (case side4 => exact (Kd.R_reads' HO646.out).2.1); rintro e w' ⟨rfl, ⟨nd, rfl⟩⟩; (try clear A8); refine ⟨_, rfl, ?_⟩) | (go_at_call 12; (with_reducible refine (nfkc_Is.calls k a0 _ _ l1 t651 _ ?side1 ?side2 A10.out).mono ?_); (case side1 => exact zCB HR1); (case side2 => exact HC1.out); rintro e w24 ⟨rfl, hb⟩; have n_ := zI (aM (Kd.R_below (zR HO646) hb)) (zI (aM (Kd.R_below (zR HO649) hb)) (aM (below_step zB hb))); clear HO646 HO649 HB; obtain ⟨HO646, HO649, HB⟩ := n_; (try clear hb)) | (go_at_call 10; (with_reducible refine (toponymref01_Same.calls k _ _ l1 _ _ t644 t652 _ ?side1 ?side2 ?side3 ?side4 A11.out).mono ?_); (case side1 => exact zCB HR1); (case side2 => exact HC1.out); (case side3 => exact zC (Kd.R_reads' HO646.out).2.2); (case side4 => exact (Kd.R_reads' HO646.out).2.1); rintro e w' ⟨rfl, ⟨nd, rfl⟩⟩; (try clear A11)))
    go_ret
    exact ⟨zE, zB⟩
  ·replace c9 := Bool.eq_false_iff.mpr c9
   subst c9
   rw [if_neg (show ¬ (false = true) by decide)] at H
   exact absurd ((sI H).trans hT.out) (by decide)
/-- THE ONE PURE STATEMENT of toponymlaw08_NfkcRunes: yours. -/
def toponymlaw08_NfkcRunes.Pure : Prop := ∀ (a0 : Bool) (l1 : List Int), l1.length ≤ maxLen → l1.length * 4 ≤ 140737488351232 → (∀ x ∈ l1, (Lit.int .i32 x).wf = true) → ∃ k, toponymlaw08_NfkcRunes.f k a0 l1 = some true
theorem toponymlaw08_NfkcRunes.walk (P : toponymlaw08_NfkcRunes.Pure) (a0 : Bool) (a1 : Option Addr) (len1 cap1 : Nat) (z1 : List Int) (w : World) (w1 : (a1 = none ∧ len1 = 0 ∧ cap1 = 0 ∧ z1 = []) ∨ ∃ x, a1 = some x ∧ len1 ≤ cap1 ∧ cap1 ≤ maxLen ∧ z1.length = cap1 ∧ (∀ i, i < z1.length → w.cell? (x.add i) = some (.int .i32 (z1.getD i 0))) ∧ ∀ n ∈ z1, (Lit.int .i32 n).wf = true) (y1 : len1 * 4 ≤ 140737488351232) :
  Calls Try.prog 3 #[.bool a0, .slice a1 len1 cap1] w fun e w' => e = .returned (.bool true) ∧ Below w.heap.size w w' := by
 obtain ⟨l1, rfl, hr1, hm1, hw1, hc1⟩ := ReadsInt.ofRowC w1
 obtain ⟨k, h⟩ := P a0 l1 hm1 y1 hw1
 refine (toponymlaw08_NfkcRunes.calls k a0 _ _ l1 true w (Kd.C_of_reads (d := (0 : Int)) (h1 := fun _ => rfl) hr1) hc1 h rfl).mono ?_
 rintro e w' ⟨rfl, hd⟩
 exact ⟨rfl, hd⟩

/-! ### toponymref01_Point: function 46 -/
def toponymref01_Point.f (a0 : Int) : Option (Bool) := if (wrap64 (a0)) ≥ 0 then (if (wrap64 (a0)) ≤ 1114111 then (if (wrap64 (a0)) ≥ 55296 then (some (!(decide ((wrap64 (a0)) ≤ 57343)))) else (some (!false))) else (some false)) else (some false)
set_option maxHeartbeats 8000000 in
set_option maxRecDepth 100000 in
theorem toponymref01_Point.calls (a0 : Int) (r : Bool) (w : World) (h : toponymref01_Point.f a0 = some r) :
  Calls Try.prog 46 #[.int .i32 a0] w fun e w' => e = .returned (.bool r) ∧ Drawn0 w w' := by
 have H : (if (wrap64 (a0)) ≥ 0 then (if (wrap64 (a0)) ≤ 1114111 then (if (wrap64 (a0)) ≥ 55296 then (some (!(decide ((wrap64 (a0)) ≤ 57343)))) else (some (!false))) else (some false)) else (some false)) = some r := h
 clear h
 by_cases c2 : (wrap64 (a0)) ≥ 0
 ·rw [if_pos c2] at H
  have c2b0 : decide (0 ≤ (wrap64 (a0))) = true := decide_eq_true c2
  clear c2
  by_cases c3 : (wrap64 (a0)) ≤ 1114111
  ·rw [if_pos c3] at H
   have c3b0 : decide ((wrap64 (a0)) ≤ 1114111) = true := decide_eq_true c3
   clear c3
   by_cases c4 : (wrap64 (a0)) ≥ 55296
   ·rw [if_pos c4] at H
    have c4b0 : decide (55296 ≤ (wrap64 (a0))) = true := decide_eq_true c4
    clear c4
    obtain rfl := sI H
    go_enter Try.func46, Try.ntmps46
    go_wp2
    go_ret
    exact ⟨zP, zD⟩
   ·rw [if_neg c4] at H
    have c4b0 : decide (55296 ≤ (wrap64 (a0))) = false := decide_eq_false c4
    clear c4
    obtain rfl := sI H
    go_enter Try.func46, Try.ntmps46
    go_wp2
    go_ret
    exact ⟨zP, zD⟩
  ·rw [if_neg c3] at H
   have c3b0 : decide ((wrap64 (a0)) ≤ 1114111) = false := decide_eq_false c3
   clear c3
   obtain rfl := sI H
   go_enter Try.func46, Try.ntmps46
   go_wp2
   go_ret
   exact ⟨zP, zD⟩
 ·rw [if_neg c2] at H
  have c2b0 : decide (0 ≤ (wrap64 (a0))) = false := decide_eq_false c2
  clear c2
  obtain rfl := sI H
  go_enter Try.func46, Try.ntmps46
  go_wp2
  go_ret
  exact ⟨zP, zD⟩

/-! ### toponymref01_one: function 47 -/
def toponymref01_one.f (a0 : Int) : Option (ByteArray) := if (wrap64 (a0)) < 128 then (some (strOfNums (([(wrap64 (a0)) % 256] : List Int)))) else (if (wrap64 (a0)) < 2048 then (some (strOfNums (([(wrap64 (192 + (wrap64 (Int.tdiv (wrap64 (a0)) 64)))) % 256, (wrap64 (128 + (Int.tmod (wrap64 (a0)) 64))) % 256] : List Int)))) else (if (wrap64 (a0)) < 65536 then (some (strOfNums (([(wrap64 (224 + (wrap64 (Int.tdiv (wrap64 (a0)) 4096)))) % 256, (wrap64 (128 + (Int.tmod (wrap64 (Int.tdiv (wrap64 (a0)) 64)) 64))) % 256, (wrap64 (128 + (Int.tmod (wrap64 (a0)) 64))) % 256] : List Int)))) else (some (strOfNums (([(wrap64 (240 + (wrap64 (Int.tdiv (wrap64 (a0)) 262144)))) % 256, (wrap64 (128 + (Int.tmod (wrap64 (Int.tdiv (wrap64 (a0)) 4096)) 64))) % 256, (wrap64 (128 + (Int.tmod (wrap64 (Int.tdiv (wrap64 (a0)) 64)) 64))) % 256, (wrap64 (128 + (Int.tmod (wrap64 (a0)) 64))) % 256] : List Int))))))
set_option maxHeartbeats 8000000 in
set_option maxRecDepth 100000 in
theorem toponymref01_one.calls (a0 : Int) (r : ByteArray) (w : World) (h : toponymref01_one.f a0 = some r) :
  Calls Try.prog 47 #[.int .i32 a0] w fun e w' => e = .returned (.string r) ∧ Below w.heap.size w w' := by
 have HB := aM (Below.refl w.heap.size w)
 have H : (if (wrap64 (a0)) < 128 then (some (strOfNums (([(wrap64 (a0)) % 256] : List Int)))) else (if (wrap64 (a0)) < 2048 then (some (strOfNums (([(wrap64 (192 + (wrap64 (Int.tdiv (wrap64 (a0)) 64)))) % 256, (wrap64 (128 + (Int.tmod (wrap64 (a0)) 64))) % 256] : List Int)))) else (if (wrap64 (a0)) < 65536 then (some (strOfNums (([(wrap64 (224 + (wrap64 (Int.tdiv (wrap64 (a0)) 4096)))) % 256, (wrap64 (128 + (Int.tmod (wrap64 (Int.tdiv (wrap64 (a0)) 64)) 64))) % 256, (wrap64 (128 + (Int.tmod (wrap64 (a0)) 64))) % 256] : List Int)))) else (some (strOfNums (([(wrap64 (240 + (wrap64 (Int.tdiv (wrap64 (a0)) 262144)))) % 256, (wrap64 (128 + (Int.tmod (wrap64 (Int.tdiv (wrap64 (a0)) 4096)) 64))) % 256, (wrap64 (128 + (Int.tmod (wrap64 (Int.tdiv (wrap64 (a0)) 64)) 64))) % 256, (wrap64 (128 + (Int.tmod (wrap64 (a0)) 64))) % 256] : List Int))))))) = some r := h
 clear h
 by_cases c2 : (wrap64 (a0)) < 128
 ·rw [if_pos c2] at H
  have c2b0 : decide ((wrap64 (a0)) < 128) = true := decide_eq_true c2
  clear c2
  obtain ⟨y654, hy654⟩ : ∃ y_ : List Int, y_ = (([(wrap64 (a0)) % 256] : List Int)) := ⟨_, rfl⟩
  replace H : (some (strOfNums y654)) = some r := zY hy654 H
  have Ny654 := aM hy654
  clear hy654
  obtain rfl := sI H
  go_enter Try.func47, Try.ntmps47
  go_wp2_with (first | ((with_reducible refine gate_dst (N := 10) rfl ?_); refine Kd.R_lit (Kd.int .u8) _ 5 ?hg (N := 10) ?hd (xs := ([(wrap64 (a0)) % 256] : List Int)) (inner := [.int .u8 ((wrap64 (a0)) % 256)]) (ok := fun _ => True) (okp := fun _ => True) ?hr ?hp (fun _ hk => hk) trivial (Below.refl _ _) (Nat.le_refl _) (by simp) ?_; (case hd => rfl); (case hg => rfl); (case hr => first | (go_simp; done) | (go_simp; rfl)); (case hp => exact (Reps.one (show Kd.M (Kd.int .u8) _ _ _ ((wrap64 (a0)) % 256) [.int .u8 ((wrap64 (a0)) % 256)] from rfl) (Reps.none _ _))); intro v655 w3 ho4 hb hg_ hnew_; clear hg_ hnew_; (first | rw [← Ny654.out] at ho4 | (simp only [Int.reduceToNat] at ho4; rw [← Ny654.out] at ho4)); have n_ := zI (aM (Kd.R_lower ho4 (below_size zB))) (aM (below_step zB hb)); clear HB; obtain ⟨HO656, HB⟩ := n_; clear hb ho4; have hcv5 := own_string (P := Try.prog) Try.underlying63 Try.underlying5 Try.underlying9 (Kd.own_of_R HO656.out)))
  go_ret
  exact ⟨zE, zB⟩
 ·rw [if_neg c2] at H
  have c2b0 : decide ((wrap64 (a0)) < 128) = false := decide_eq_false c2
  clear c2
  by_cases c6 : (wrap64 (a0)) < 2048
  ·rw [if_pos c6] at H
   have c6b0 : decide ((wrap64 (a0)) < 2048) = true := decide_eq_true c6
   clear c6
   obtain ⟨y657, hy657⟩ : ∃ y_ : List Int, y_ = (([(wrap64 (192 + (wrap64 (Int.tdiv (wrap64 (a0)) 64)))) % 256, (wrap64 (128 + (Int.tmod (wrap64 (a0)) 64))) % 256] : List Int)) := ⟨_, rfl⟩
   replace H : (some (strOfNums y657)) = some r := zY hy657 H
   have Ny657 := aM hy657
   clear hy657
   obtain rfl := sI H
   go_enter Try.func47, Try.ntmps47
   go_wp2_with (first | ((with_reducible refine gate_dst (N := 22) rfl ?_); refine Kd.R_lit (Kd.int .u8) _ 5 ?hg (N := 22) ?hd (xs := ([(wrap64 (192 + (wrap64 (Int.tdiv (wrap64 (a0)) 64)))) % 256, (wrap64 (128 + (Int.tmod (wrap64 (a0)) 64))) % 256] : List Int)) (inner := [.int .u8 ((wrap64 (192 + (wrap64 (Int.tdiv (wrap64 (a0)) 64)))) % 256), .int .u8 ((wrap64 (128 + (Int.tmod (wrap64 (a0)) 64))) % 256)]) (ok := fun _ => True) (okp := fun _ => True) ?hr ?hp (fun _ hk => hk) trivial (Below.refl _ _) (Nat.le_refl _) (by simp) ?_; (case hd => rfl); (case hg => rfl); (case hr => first | (go_simp; done) | (go_simp; rfl)); (case hp => exact (Reps.one (show Kd.M (Kd.int .u8) _ _ _ ((wrap64 (192 + (wrap64 (Int.tdiv (wrap64 (a0)) 64)))) % 256) [.int .u8 ((wrap64 (192 + (wrap64 (Int.tdiv (wrap64 (a0)) 64)))) % 256)] from rfl) (Reps.one (show Kd.M (Kd.int .u8) _ _ _ ((wrap64 (128 + (Int.tmod (wrap64 (a0)) 64))) % 256) [.int .u8 ((wrap64 (128 + (Int.tmod (wrap64 (a0)) 64))) % 256)] from rfl) (Reps.none _ _)))); intro v658 w7 ho8 hb hg_ hnew_; clear hg_ hnew_; (first | rw [← Ny657.out] at ho8 | (simp only [Int.reduceToNat] at ho8; rw [← Ny657.out] at ho8)); have n_ := zI (aM (Kd.R_lower ho8 (below_size zB))) (aM (below_step zB hb)); clear HB; obtain ⟨HO659, HB⟩ := n_; clear hb ho8; have hcv9 := own_string (P := Try.prog) Try.underlying63 Try.underlying5 Try.underlying9 (Kd.own_of_R HO659.out)))
   go_ret
   exact ⟨zE, zB⟩
  ·rw [if_neg c6] at H
   have c6b0 : decide ((wrap64 (a0)) < 2048) = false := decide_eq_false c6
   clear c6
   by_cases c10 : (wrap64 (a0)) < 65536
   ·rw [if_pos c10] at H
    have c10b0 : decide ((wrap64 (a0)) < 65536) = true := decide_eq_true c10
    clear c10
    obtain ⟨y660, hy660⟩ : ∃ y_ : List Int, y_ = (([(wrap64 (224 + (wrap64 (Int.tdiv (wrap64 (a0)) 4096)))) % 256, (wrap64 (128 + (Int.tmod (wrap64 (Int.tdiv (wrap64 (a0)) 64)) 64))) % 256, (wrap64 (128 + (Int.tmod (wrap64 (a0)) 64))) % 256] : List Int)) := ⟨_, rfl⟩
    replace H : (some (strOfNums y660)) = some r := zY hy660 H
    have Ny660 := aM hy660
    clear hy660
    obtain rfl := sI H
    go_enter Try.func47, Try.ntmps47
    go_wp2_with (first | ((with_reducible refine gate_dst (N := 39) rfl ?_); refine Kd.R_lit (Kd.int .u8) _ 5 ?hg (N := 39) ?hd (xs := ([(wrap64 (224 + (wrap64 (Int.tdiv (wrap64 (a0)) 4096)))) % 256, (wrap64 (128 + (Int.tmod (wrap64 (Int.tdiv (wrap64 (a0)) 64)) 64))) % 256, (wrap64 (128 + (Int.tmod (wrap64 (a0)) 64))) % 256] : List Int)) (inner := [.int .u8 ((wrap64 (224 + (wrap64 (Int.tdiv (wrap64 (a0)) 4096)))) % 256), .int .u8 ((wrap64 (128 + (Int.tmod (wrap64 (Int.tdiv (wrap64 (a0)) 64)) 64))) % 256), .int .u8 ((wrap64 (128 + (Int.tmod (wrap64 (a0)) 64))) % 256)]) (ok := fun _ => True) (okp := fun _ => True) ?hr ?hp (fun _ hk => hk) trivial (Below.refl _ _) (Nat.le_refl _) (by simp) ?_; (case hd => rfl); (case hg => rfl); (case hr => first | (go_simp; done) | (go_simp; rfl)); (case hp => exact (Reps.one (show Kd.M (Kd.int .u8) _ _ _ ((wrap64 (224 + (wrap64 (Int.tdiv (wrap64 (a0)) 4096)))) % 256) [.int .u8 ((wrap64 (224 + (wrap64 (Int.tdiv (wrap64 (a0)) 4096)))) % 256)] from rfl) (Reps.one (show Kd.M (Kd.int .u8) _ _ _ ((wrap64 (128 + (Int.tmod (wrap64 (Int.tdiv (wrap64 (a0)) 64)) 64))) % 256) [.int .u8 ((wrap64 (128 + (Int.tmod (wrap64 (Int.tdiv (wrap64 (a0)) 64)) 64))) % 256)] from rfl) (Reps.one (show Kd.M (Kd.int .u8) _ _ _ ((wrap64 (128 + (Int.tmod (wrap64 (a0)) 64))) % 256) [.int .u8 ((wrap64 (128 + (Int.tmod (wrap64 (a0)) 64))) % 256)] from rfl) (Reps.none _ _))))); intro v661 w11 ho12 hb hg_ hnew_; clear hg_ hnew_; (first | rw [← Ny660.out] at ho12 | (simp only [Int.reduceToNat] at ho12; rw [← Ny660.out] at ho12)); have n_ := zI (aM (Kd.R_lower ho12 (below_size zB))) (aM (below_step zB hb)); clear HB; obtain ⟨HO662, HB⟩ := n_; clear hb ho12; have hcv13 := own_string (P := Try.prog) Try.underlying63 Try.underlying5 Try.underlying9 (Kd.own_of_R HO662.out)))
    go_ret
    exact ⟨zE, zB⟩
   ·rw [if_neg c10] at H
    have c10b0 : decide ((wrap64 (a0)) < 65536) = false := decide_eq_false c10
    clear c10
    obtain ⟨y663, hy663⟩ : ∃ y_ : List Int, y_ = (([(wrap64 (240 + (wrap64 (Int.tdiv (wrap64 (a0)) 262144)))) % 256, (wrap64 (128 + (Int.tmod (wrap64 (Int.tdiv (wrap64 (a0)) 4096)) 64))) % 256, (wrap64 (128 + (Int.tmod (wrap64 (Int.tdiv (wrap64 (a0)) 64)) 64))) % 256, (wrap64 (128 + (Int.tmod (wrap64 (a0)) 64))) % 256] : List Int)) := ⟨_, rfl⟩
    replace H : (some (strOfNums y663)) = some r := zY hy663 H
    have Ny663 := aM hy663
    clear hy663
    obtain rfl := sI H
    go_enter Try.func47, Try.ntmps47
    go_wp2_with (first | ((with_reducible refine gate_dst (N := 59) rfl ?_); refine Kd.R_lit (Kd.int .u8) _ 5 ?hg (N := 59) ?hd (xs := ([(wrap64 (240 + (wrap64 (Int.tdiv (wrap64 (a0)) 262144)))) % 256, (wrap64 (128 + (Int.tmod (wrap64 (Int.tdiv (wrap64 (a0)) 4096)) 64))) % 256, (wrap64 (128 + (Int.tmod (wrap64 (Int.tdiv (wrap64 (a0)) 64)) 64))) % 256, (wrap64 (128 + (Int.tmod (wrap64 (a0)) 64))) % 256] : List Int)) (inner := [.int .u8 ((wrap64 (240 + (wrap64 (Int.tdiv (wrap64 (a0)) 262144)))) % 256), .int .u8 ((wrap64 (128 + (Int.tmod (wrap64 (Int.tdiv (wrap64 (a0)) 4096)) 64))) % 256), .int .u8 ((wrap64 (128 + (Int.tmod (wrap64 (Int.tdiv (wrap64 (a0)) 64)) 64))) % 256), .int .u8 ((wrap64 (128 + (Int.tmod (wrap64 (a0)) 64))) % 256)]) (ok := fun _ => True) (okp := fun _ => True) ?hr ?hp (fun _ hk => hk) trivial (Below.refl _ _) (Nat.le_refl _) (by simp) ?_; (case hd => rfl); (case hg => rfl); (case hr => first | (go_simp; done) | (go_simp; rfl)); (case hp => exact (Reps.one (show Kd.M (Kd.int .u8) _ _ _ ((wrap64 (240 + (wrap64 (Int.tdiv (wrap64 (a0)) 262144)))) % 256) [.int .u8 ((wrap64 (240 + (wrap64 (Int.tdiv (wrap64 (a0)) 262144)))) % 256)] from rfl) (Reps.one (show Kd.M (Kd.int .u8) _ _ _ ((wrap64 (128 + (Int.tmod (wrap64 (Int.tdiv (wrap64 (a0)) 4096)) 64))) % 256) [.int .u8 ((wrap64 (128 + (Int.tmod (wrap64 (Int.tdiv (wrap64 (a0)) 4096)) 64))) % 256)] from rfl) (Reps.one (show Kd.M (Kd.int .u8) _ _ _ ((wrap64 (128 + (Int.tmod (wrap64 (Int.tdiv (wrap64 (a0)) 64)) 64))) % 256) [.int .u8 ((wrap64 (128 + (Int.tmod (wrap64 (Int.tdiv (wrap64 (a0)) 64)) 64))) % 256)] from rfl) (Reps.one (show Kd.M (Kd.int .u8) _ _ _ ((wrap64 (128 + (Int.tmod (wrap64 (a0)) 64))) % 256) [.int .u8 ((wrap64 (128 + (Int.tmod (wrap64 (a0)) 64))) % 256)] from rfl) (Reps.none _ _)))))); intro v664 w14 ho15 hb hg_ hnew_; clear hg_ hnew_; (first | rw [← Ny663.out] at ho15 | (simp only [Int.reduceToNat] at ho15; rw [← Ny663.out] at ho15)); have n_ := zI (aM (Kd.R_lower ho15 (below_size zB))) (aM (below_step zB hb)); clear HB; obtain ⟨HO665, HB⟩ := n_; clear hb ho15; have hcv16 := own_string (P := Try.prog) Try.underlying63 Try.underlying5 Try.underlying9 (Kd.own_of_R HO665.out)))
    go_ret
    exact ⟨zE, zB⟩

/-! ### toponymref01_guess: function 66 -/
mutual
def toponymref01_guess.j0 : Nat → ByteArray → Int → Option (Int)
 | 0, _, _ => none
 | k + 1, x0, x3 => toponymref01_guess.l0 k x0 x3 1
def toponymref01_guess.l0 : Nat → ByteArray → Int → Int → Option (Int)
 | 0, _, _, _ => none
 | k + 1, x0, x3, x4 => if x4 < (x0.size : Int) then (if 0 ≤ x4 then (toponymref01_guess.l0 k x0 (wrap64 ((wrap64 (64 * x3)) + (Int.tmod (wrap64 (bt x0 x4)) 64))) (wrap64 (x4 + 1))) else (none)) else (some (wrap32 (x3)))
end
def toponymref01_guess.f (k : Nat) (a0 : ByteArray) : Option (Int) := if 0 < (a0.size : Int) then (if (a0.size : Int) = 2 then (toponymref01_guess.j0 k a0 (Int.tmod (wrap64 (bt a0 0)) 32)) else (if (a0.size : Int) = 3 then (toponymref01_guess.j0 k a0 (Int.tmod (wrap64 (bt a0 0)) 16)) else (if (a0.size : Int) = 4 then (toponymref01_guess.j0 k a0 (Int.tmod (wrap64 (bt a0 0)) 8)) else (toponymref01_guess.j0 k a0 (wrap64 (bt a0 0)))))) else (none)
theorem toponymref01_guess.mono_l : ∀ k, (∀ y0 y1, LeO (toponymref01_guess.j0 k y0 y1) (toponymref01_guess.j0 (k + 1) y0 y1)) ∧ (∀ y0 y1 y2, LeO (toponymref01_guess.l0 k y0 y1 y2) (toponymref01_guess.l0 (k + 1) y0 y1 y2))
 | 0 => ⟨fun _ _ r h => by simp [toponymref01_guess.j0] at h, fun _ _ _ r h => by simp [toponymref01_guess.l0] at h⟩
 | k + 1 => by
  obtain ⟨ih0, ih1⟩ := toponymref01_guess.mono_l k
  refine ⟨?_, ?_⟩
  ·intro y0 y1
   unfold toponymref01_guess.j0
   repeat' first
   | (with_reducible exact ih0 _ _)
   | (with_reducible exact ih1 _ _ _)
   | (with_reducible exact LeO.refl _)
   | exact ih0 _ _
   | exact ih1 _ _ _
   | exact LeO.none _
   | refine LeO.ite ?_ ?_
   | refine LeO.bind ?_ (fun _ => ?_)
  ·intro y0 y1 y2
   unfold toponymref01_guess.l0
   repeat' first
   | (with_reducible exact ih0 _ _)
   | (with_reducible exact ih1 _ _ _)
   | (with_reducible exact LeO.refl _)
   | exact ih0 _ _
   | exact ih1 _ _ _
   | exact LeO.none _
   | refine LeO.ite ?_ ?_
   | refine LeO.bind ?_ (fun _ => ?_)
theorem toponymref01_guess.mono : ∀ a0 k, LeO (toponymref01_guess.f k a0) (toponymref01_guess.f (k + 1) a0) := by
 intro a0 k
 obtain ⟨ih0, ih1⟩ := toponymref01_guess.mono_l k
 unfold toponymref01_guess.f
 repeat' first
   | (with_reducible exact ih0 _ _)
   | (with_reducible exact ih1 _ _ _)
   | (with_reducible exact LeO.refl _)
   | exact ih0 _ _
   | exact ih1 _ _ _
   | exact LeO.none _
   | refine LeO.ite ?_ ?_
   | refine LeO.bind ?_ (fun _ => ?_)
set_option maxHeartbeats 8000000 in
set_option maxRecDepth 100000 in
theorem toponymref01_guess.calls (k : Nat) (a0 : ByteArray) (r : Int) (w : World) (h : toponymref01_guess.f k a0 = some r) :
  Calls Try.prog 66 #[.string a0] w fun e w' => e = .returned (.int .i32 r) ∧ Drawn0 w w' := by
 have H : (if 0 < (a0.size : Int) then (if (a0.size : Int) = 2 then (toponymref01_guess.j0 k a0 (Int.tmod (wrap64 (bt a0 0)) 32)) else (if (a0.size : Int) = 3 then (toponymref01_guess.j0 k a0 (Int.tmod (wrap64 (bt a0 0)) 16)) else (if (a0.size : Int) = 4 then (toponymref01_guess.j0 k a0 (Int.tmod (wrap64 (bt a0 0)) 8)) else (toponymref01_guess.j0 k a0 (wrap64 (bt a0 0)))))) else (none)) = some r := h
 clear h
 by_cases c2 : 0 < (a0.size : Int)
 ·rw [if_pos c2] at H
  have c2b0 : decide (0 < (a0.size : Int)) = true := decide_eq_true c2
  have c2b1 : decide (0 < a0.size) = true := decide_eq_true (by omega)
  clear c2
  have HC4 := aM H
  clear H
  have p3 : 0 ≤ (0 : Int) := (by omega)
  have q3 : 0 < a0.size := (by have : (0 : Int) < (a0.size : Int) := zoA; omega)
  have hx3 : ∀ h : 0 < a0.size, ((a0[0]'h).toNat : Int) = bt a0 0 := bt_at a0 0
  clear p3
  have qi3 : (0 < (a0.size : Int)) = True := eq_true (zoA)
  replace q3 := eq_true q3
  go_enter Try.func66, Try.ntmps66
  go_upto_block 0 with (fail)
  go_cut [3] (fun v3 wc => ∃ (kq : Nat) (x3_3 : Int), v3 = .int .i64 x3_3 ∧ Aside0 (toponymref01_guess.j0 kq a0 x3_3 = some r) ∧ Aside0 (kq ≤ k) ∧ Drawn0 w wc)
  case first =>
   have H := HC4.out
   clear HC4
   by_cases c5 : (a0.size : Int) = 2
   ·rw [if_pos c5] at H
    have c5b0 : ((a0.size : Int) == 2) = true := beq_iff_eq.mpr c5
    have c5b1 : ((a0.size : Int) != 2) = false := bne_eq_false_iff_eq.mpr c5
    clear c5
    (first | rw [c5b0] | (simp only [i64_w, i32_w]; rw [c5b0]) | skip)
    have H' := aM H
    clear H
    go_wp2
    go_meet
    case rel => exact ⟨_, (Int.tmod (wrap64 (bt a0 0)) 32), zP, H', ⟨by first | omega | exact Nat.le_refl _⟩, zD⟩
   ·rw [if_neg c5] at H
    have c5b0 : ((a0.size : Int) == 2) = false := beq_eq_false_iff_ne.mpr c5
    have c5b1 : ((a0.size : Int) != 2) = true := bne_iff_ne.mpr c5
    (first | rw [c5b0] | (simp only [i64_w, i32_w]; rw [c5b0]) | skip)
    by_cases c6 : (a0.size : Int) = 3
    ·rw [if_pos c6] at H
     have c6b0 : ((a0.size : Int) == 3) = true := beq_iff_eq.mpr c6
     have c6b1 : ((a0.size : Int) != 3) = false := bne_eq_false_iff_eq.mpr c6
     clear c6
     have H' := aM H
     clear H
     go_wp2
     go_meet
     case rel => exact ⟨_, (Int.tmod (wrap64 (bt a0 0)) 16), zP, H', ⟨by first | omega | exact Nat.le_refl _⟩, zD⟩
    ·rw [if_neg c6] at H
     have c6b0 : ((a0.size : Int) == 3) = false := beq_eq_false_iff_ne.mpr c6
     have c6b1 : ((a0.size : Int) != 3) = true := bne_iff_ne.mpr c6
     by_cases c7 : (a0.size : Int) = 4
     ·rw [if_pos c7] at H
      have c7b0 : ((a0.size : Int) == 4) = true := beq_iff_eq.mpr c7
      have c7b1 : ((a0.size : Int) != 4) = false := bne_eq_false_iff_eq.mpr c7
      clear c7
      have H' := aM H
      clear H
      go_wp2
      go_meet
      case rel => exact ⟨_, (Int.tmod (wrap64 (bt a0 0)) 8), zP, H', ⟨by first | omega | exact Nat.le_refl _⟩, zD⟩
     ·rw [if_neg c7] at H
      have c7b0 : ((a0.size : Int) == 4) = false := beq_eq_false_iff_ne.mpr c7
      have c7b1 : ((a0.size : Int) != 4) = true := bne_iff_ne.mpr c7
      have H' := aM H
      clear H
      go_wp2
      go_meet
      case rel => exact ⟨_, (wrap64 (bt a0 0)), zP, H', ⟨by first | omega | exact Nat.le_refl _⟩, zD⟩
  case rest =>
   clear HC4
   try clear c2
   try clear c2b0
   try clear c2b1
   try clear p2
   try clear p3
   try clear q3
   try clear hx3
   try clear qi3
   try clear c5
   try clear c5b0
   try clear c5b1
   try clear c6
   try clear c6b0
   try clear c6b1
   try clear p6
   try clear c7
   try clear c7b0
   try clear c7b1
   try clear p3
   try clear q3
   obtain ⟨kq, x3_3, rfl, HA, HJ3, ⟨mc3, rfl⟩⟩ := hcut
   cases kq with
   | zero => exact absurd HA.out (by simp [toponymref01_guess.j0])
   | succ kj3 =>
    have H := HA.out
    clear HA
    simp only [toponymref01_guess.j0] at H
    have H' := aM H
    clear H
    go_wp2
    go_loopg [3, 4] kj3 (fun kq v3 v4 w' => ∃ (x3_2 : Int) (x4_2 : Int), v3 = .int .i64 x3_2 ∧ v4 = .int .i64 x4_2 ∧ Aside0 (toponymref01_guess.l0 kq a0 x3_2 x4_2 = some r) ∧ Aside0 (kq ≤ kj3) ∧ Drawn0 w w')
    case atStart => exact ⟨(x3_3), (1), zP, zP, H', ⟨Nat.le_refl _⟩, zD⟩
    case round =>
     clear H'
     try clear c2
     try clear c2b0
     try clear c2b1
     try clear p2
     try clear c3
     try clear p3
     try clear q3
     try clear hx3
     try clear qi3
     try clear c5
     try clear c5b0
     try clear c5b1
     try clear c6
     try clear c6b0
     try clear c6b1
     try clear p6
     try clear c7
     try clear c7b0
     try clear c7b1
     try clear p2
     try clear p3
     try clear p6
     try clear q3
     obtain ⟨x3_2, x4_2, rfl, rfl, HA, HK2, ⟨m2, rfl⟩⟩ := hrel
     cases gk with
     | zero => exact absurd HA.out (by simp [toponymref01_guess.l0])
     | succ k2 =>
      have H := HA.out
      clear HA
      simp only [toponymref01_guess.l0] at H
      by_cases c8 : x4_2 < (a0.size : Int)
      ·rw [if_pos c8] at H
       have c8b0 : decide (x4_2 < (a0.size : Int)) = true := decide_eq_true c8
       clear c8
       by_cases c9 : 0 ≤ x4_2
       ·rw [if_pos c9] at H
        have c9b0 : decide (0 ≤ x4_2) = true := decide_eq_true c9
        clear c9
        have H' := aM H
        clear H
        have p10 : 0 ≤ (x4_2 : Int) := zoA
        have q10 : x4_2 < (a0.size : Int) := zoA
        have hx10 := bt_at a0 x4_2
        replace p10 := eq_true p10
        replace q10 := eq_true q10
        go_wp2
        go_roundg k2
        case measure => have := HJ3.out; have := HK2.out; omega
        case rel => exact ⟨(wrap64 ((wrap64 (64 * x3_2)) + (Int.tmod (wrap64 (bt a0 x4_2)) 64))), (wrap64 (x4_2 + 1)), zP, zP, H', ⟨by have := HJ3.out; have := HK2.out; omega⟩, zD⟩
       ·rw [if_neg c9] at H
        exact absurd H (by simp)
      ·rw [if_neg c8] at H
       have c8b0 : decide (x4_2 < (a0.size : Int)) = false := decide_eq_false c8
       clear c8
       obtain rfl := sI H
       go_wp2
       go_ret
       exact ⟨zP, zD⟩
 ·rw [if_neg c2] at H
  exact absurd H (by simp)

end Go.Proofs.Ytpihglokjcbjkaa.P
