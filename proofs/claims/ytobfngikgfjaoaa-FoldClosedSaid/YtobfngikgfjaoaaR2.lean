-- Printed by wip/mk.py (this session's driver over the kit's print) and from wip/manual.
import Derived.Test.YtobfngikgfjaoaaR0
import Derived.Test.YtobfngikgfjaoaaR1
namespace Go.Proofs.Ytobfngikgfjaoaa.P
open Go.RowKit Go.Proofs.YtobfngikgfjaoaaW.PrintWords Go.Proofs.YtobfngikgfjaoaaW.PrintLast Go.Proofs.YtobfngikgfjaoaaW.PrintMore
attribute [local go_sem] max2_int min2_int max_two min_two max_three min_three max_four min_four   -- for this text's walks alone
set_option linter.unusedVariables false
set_option linter.unusedSimpArgs false

/-! ### fold_One: function 8, by hand (fold.One.tpl) -/
theorem info21o : (Try.prog.info? 21).map (fun i => (i.zero, i.size, i.bytes)) = some (some (.int .i32 0), 1, 4) := by kernel_rfl
def fold_One.l0 : Nat → ByteArray → Int → List Int → Nat → Option (List Int)
  | 0, _, _, _, _ => none
  | k + 1, x0, a0, x3, pos => if pos < x0.size then (if x3.length < 35184372088832 then fold_One.l0 k x0 a0 (x3 ++ [((Utf8.decode x0 pos).1 : Int)]) (pos + (Utf8.decode x0 pos).2) else none) else (if x3.length > 0 then some x3 else (fold_up.f k a0).bind fun t => some [wrap32 (a0 + t)])
def fold_One.f (k : Nat) (a0 : Int) : Option (List Int) := (fold_more.f a0).bind fun s => fold_One.l0 k s a0 [] 0
theorem fold_One.mono_l : ∀ k, (∀ y0 y1 y2 y3, LeO (fold_One.l0 k y0 y1 y2 y3) (fold_One.l0 (k + 1) y0 y1 y2 y3))
  | 0 => fun _ _ _ _ r h => by simp [fold_One.l0] at h
  | k + 1 => by
    have ih0 := fold_One.mono_l k
    intro y0 y1 y2 y3
    unfold fold_One.l0
    repeat' first
      | exact ih0 _ _ _ _
      | exact fold_up.mono _ _
      | exact LeO.refl _
      | refine LeO.ite ?_ ?_
      | refine LeO.bind ?_ (fun _ => ?_)
theorem fold_One.mono : ∀ a0 k, LeO (fold_One.f k a0) (fold_One.f (k + 1) a0) := fun a0 k => LeO.bind (LeO.refl _) (fun _ => fold_One.mono_l k _ _ _ _)
set_option maxHeartbeats 8000000 in
set_option maxRecDepth 100000 in
theorem fold_One.calls (k : Nat) (a0 : Int) (r : List Int) (w : World) (h : fold_One.f k a0 = some r) :
    Calls Try.prog 8 #[.int .i32 a0] w fun e w' => ∃ v0_ : Value, e = .returned (v0_) ∧ Kd.R (Kd.int .i32) 21 w' w.heap.size (fun _ => True) (v0_) (r) ∧ Below w.heap.size w w' := by
  unfold fold_One.f at h
  replace h := Option.bind_eq_some_iff.mp h
  obtain ⟨s, A1, H⟩ := h
  have H' := Aside0.mk H
  have A1' := Aside0.mk A1
  clear H A1
  go_enter Try.func8, Try.ntmps8
  go_wp2_with fail
  (with_reducible refine (fold_more.calls a0 s _ A1'.out).mono ?_)
  rintro e w1 ⟨rfl, hd⟩
  have HD := Aside0.mk hd
  clear hd
  go_wp2
  go_loopg [3] k (fun kq v3 W => ∃ (x3 : List Int) (pos : Nat), Aside0 (fold_One.l0 kq s a0 x3 pos = some r) ∧ Aside0 (kq ≤ k) ∧ Aside0 (W.heap[w1.heap.size]? = some (.stringIter s pos)) ∧ Aside0 (Kd.R (Kd.int .i32) 21 W w.heap.size (fun k_ => k_ ≠ w1.heap.size) v3 x3) ∧ Aside0 (Below w.heap.size w W))
  case atStart => exact ⟨[], 0, H', ⟨Nat.le_refl _⟩, ⟨World.iter_heap _ _ _⟩, ⟨Kd.R_nil _ _ _ _ _⟩, ⟨below_alloc HD.out.below _⟩⟩
  case round =>
    clear H'
    obtain ⟨x3, pos, HA, HK, HI, HO, HB⟩ := hrel
    cases gk with
    | zero => exact absurd HA.out (by simp [fold_One.l0])
    | succ k1 =>
      have H := HA.out
      clear HA
      simp only [fold_One.l0] at H
      by_cases d1 : pos < s.size
      · rw [if_pos d1] at H
        by_cases d2 : x3.length < 35184372088832
        · rw [if_pos d2] at H
          have H' := Aside0.mk H
          have LM := Aside0.mk d2
          clear H d2
          have hnx := fun ty => Lib.run_next_any_at (P := Try.prog) wr w1.heap.size s pos ty HI.out d1
          clear d1
          obtain ⟨W2, hW2⟩ : ∃ W2, wr.iterAt w1.heap.size s (pos + (Utf8.decode s pos).2) = W2 := ⟨_, rfl⟩
          rw [hW2] at hnx
          have HI2 := Aside0.mk (show W2.heap[w1.heap.size]? = some (.stringIter s (pos + (Utf8.decode s pos).2)) from by rw [← hW2]; exact Lib.iterAt_heap _ _ _ _ _ HI.out)
          have HO2 := Aside0.mk (show Kd.R (Kd.int .i32) 21 W2 w.heap.size (fun k_ => k_ ≠ w1.heap.size) _ x3 from by rw [← hW2]; exact Kd.R_step HO.out (fun k hk _ => Lib.iterAt_other _ _ _ _ _ hk))
          have HB2 := Aside0.mk (show Below w.heap.size w W2 from by rw [← hW2]; exact Lib.below_iterAt HB.out HD.out.below.size _ _)
          have HZ := Aside0.mk (show w1.heap.size < W2.heap.size from (Array.getElem?_eq_some_iff.1 HI2.out).1)
          clear hW2 HI HO HB
          obtain ⟨Ao, co, eo⟩ := Kd.R_slice HO2.out
          subst eo
          go_wp2_with ((with_reducible refine gate_builtin (b := .append) (xs := #[.tmp 12, .tmp 14]) rfl ?_); at_builtin; refine Kd.R_append (Kd.int .i32) (w0 := w) w.heap.size rfl (.tmp 12) (.tmp 14) 23 21 (.int .i32 0) 4 rfl Try.underlying23 info21o rfl (by decide) (by omega) (.slice Ao x3.length co) x3 (((Utf8.decode s pos).1 : Nat) : Int) [.int .i32 (((Utf8.decode s pos).1 : Nat) : Int)] (fun k_ => k_ ≠ w1.heap.size) (fun _ => False) rfl rfl ?aP (fun _ hk => hk.elim) ?aF ?aO ?aB ?aS ?aL ?_; (case aP => exact rfl); (case aB => exact HB2.out); (case aF => exact (fun k_ hk => by have := HZ.out; omega)); (case aO => exact HO2.out); (case aS => exact HB2.out.size); (case aL => have := LM.out; omega); intro v14 w14 ho hb hg hat; have HI3 := Aside0.mk (show w14.heap[w1.heap.size]? = some (.stringIter s (pos + (Utf8.decode s pos).2)) from by rw [hg.block _ HZ.out (fun e => HO2.out.1 _ e.symm rfl)]; exact HI2.out); have HO3 := Aside0.mk ho; have HB3 := Aside0.mk hb; clear HO2 HB2 HI2 HZ ho hb hg hat)
          go_roundg k1
          case measure => have := HK.out; omega
          case rel => exact ⟨_, _, H', ⟨by have := HK.out; omega⟩, HI3, HO3, HB3⟩
        · rw [if_neg d2] at H
          cases H
      · rw [if_neg d1] at H
        have hnx := fun ty => Lib.run_next_end_at (P := Try.prog) wr w1.heap.size s pos ty HI.out d1
        clear d1
        obtain ⟨Ao, co, eo⟩ := Kd.R_slice HO.out
        subst eo
        by_cases d2 : x3.length > 0
        · rw [if_pos d2] at H
          obtain rfl := Option.some.inj H
          clear H
          have d2b : decide ((0 : Int) < (x3.length : Int)) = true := decide_eq_true (by omega)
          have d2c : decide (0 < x3.length) = true := decide_eq_true d2
          clear d2
          go_wp2
          go_ret
          exact ⟨_, rfl, Kd.R_mono HO.out (fun _ _ => trivial), HB.out⟩
        · rw [if_neg d2] at H
          have d2b : decide ((0 : Int) < (x3.length : Int)) = false := decide_eq_false (by omega)
          have d2c : decide (0 < x3.length) = false := decide_eq_false d2
          clear d2
          replace H := Option.bind_eq_some_iff.mp H
          obtain ⟨t, A2, H⟩ := H
          obtain rfl := Option.some.inj H
          clear H
          have A2' := Aside0.mk A2
          clear A2
          go_wp2_with fail
          (with_reducible refine (fold_up.calls k1 a0 t _ A2'.out).mono ?_)
          rintro e w2 ⟨rfl, hd2⟩
          have HB2 := Aside0.mk (below_then HB.out HB.out.size hd2.below)
          clear hd2 HB HO HI
          go_wp2_with ((with_reducible refine gate_dst (N := 24) rfl ?_); refine Kd.R_lit (Kd.int .i32) w.heap.size 21 ?hg (N := 24) ?hd (xs := ([wrap32 (a0 + t)] : List Int)) (inner := [.int .i32 (wrap32 (a0 + t))]) (w0 := w) (ok := fun _ => True) (okp := fun _ => True) ?hr ?hp (fun _ hk => hk) trivial HB2.out HB2.out.size (by simp) ?_; (case hd => rfl); (case hg => rfl); (case hr => first | (go_simp; done) | (go_simp; rfl)); (case hp => exact ⟨rfl, fun j p hj => by cases j with | zero => (have : p = wrap32 (a0 + t) := by simpa using hj.symm); subst this; rfl | succ j => simp at hj⟩); intro v24 w24 ho hb hg hnew; have HO3 := Aside0.mk ho; have HB3 := Aside0.mk hb; clear ho hb hg hnew)
          go_ret
          exact ⟨_, rfl, HO3.out, HB3.out⟩

/-! ### toponymref01_Same: function 7 -/
def toponymref01_Same.l0 : Nat → List Int → List Int → Int → Option (Bool)
  | 0, _, _, _ => none
  | k + 1, x0, x1, x5 => if x5 < (x0.length : Int) then (if 0 ≤ x5 then (if x5 < (x1.length : Int) then (if (rd x0 x5) = (rd x1 x5) then (toponymref01_Same.l0 k x0 x1 (wrap64 (x5 + 1))) else (some false)) else (none)) else (none)) else (some true)
def toponymref01_Same.f (k : Nat) (l0 : List Int) (l1 : List Int) : Option (Bool) := if (l0.length : Int) = (l1.length : Int) then (toponymref01_Same.l0 k l0 l1 0) else (some false)
theorem toponymref01_Same.mono_l : ∀ k, (∀ y0 y1 y2, LeO (toponymref01_Same.l0 k y0 y1 y2) (toponymref01_Same.l0 (k + 1) y0 y1 y2))
  | 0 => fun _ _ _ r h => by simp [toponymref01_Same.l0] at h
  | k + 1 => by
    have ih0 := toponymref01_Same.mono_l k
    · intro y0 y1 y2
      unfold toponymref01_Same.l0
      repeat' first
      | (with_reducible exact ih0 _ _ _)
      | (with_reducible exact LeO.refl _)
      | (with_reducible exact LeO.none _)
      | (with_reducible refine LeO.ite ?_ ?_)
      | (with_reducible refine LeO.bind ?_ (fun _ => ?_))
      | exact ih0 _ _ _
      | exact LeO.none _
      | refine LeO.ite ?_ ?_
      | refine LeO.bind ?_ (fun _ => ?_)
theorem toponymref01_Same.mono : ∀ a0 a1 k, LeO (toponymref01_Same.f k a0 a1) (toponymref01_Same.f (k + 1) a0 a1) := by
  intro a0 a1 k
  have ih0 := toponymref01_Same.mono_l k
  unfold toponymref01_Same.f
  repeat' first
      | (with_reducible exact ih0 _ _ _)
      | (with_reducible exact LeO.refl _)
      | (with_reducible exact LeO.none _)
      | (with_reducible refine LeO.ite ?_ ?_)
      | (with_reducible refine LeO.bind ?_ (fun _ => ?_))
      | exact ih0 _ _ _
      | exact LeO.none _
      | refine LeO.ite ?_ ?_
      | refine LeO.bind ?_ (fun _ => ?_)
set_option maxHeartbeats 8000000 in
set_option maxRecDepth 100000 in
theorem toponymref01_Same.calls (k : Nat) (A0 : Option Addr) (c0 : Nat) (l0 : List Int) (A1 : Option Addr) (c1 : Nat) (l1 : List Int) (r : Bool) (w : World) (hr0 : Kd.C (Kd.int .i32) w A0 l0.length l0) (hc0 : l0.length ≤ c0) (hr1 : Kd.C (Kd.int .i32) w A1 l1.length l1) (hc1 : l1.length ≤ c1) (h : toponymref01_Same.f k l0 l1 = some r) :
    Calls Try.prog 7 #[.slice A0 l0.length c0, .slice A1 l1.length c1] w fun e w' => e = .returned (.bool r) ∧ Drawn0 w w' := by
  have HR0 := Aside0.mk hr0
  have HC0 := Aside0.mk hc0
  clear hr0 hc0
  have HR1 := Aside0.mk hr1
  have HC1 := Aside0.mk hc1
  clear hr1 hc1
  have H : (if (l0.length : Int) = (l1.length : Int) then (toponymref01_Same.l0 k l0 l1 0) else (some false)) = some r := h
  clear h
  by_cases c3 : (l0.length : Int) = (l1.length : Int)
  · rw [if_pos c3] at H
    have c3b0 : ((l0.length : Int) == (l1.length : Int)) = true := beq_iff_eq.mpr c3
    have c3b1 : ((l0.length : Int) != (l1.length : Int)) = false := bne_eq_false_iff_eq.mpr c3
    have c3b2 : (l0.length == l1.length) = true := by first | simpa using c3 | (simp at c3 ⊢; omega)
    clear c3
    have H' := Aside0.mk H
    clear H
    go_enter Try.func7, Try.ntmps7
    go_wp2
    repeat (go_quiet (fail); try go_wp2)
    go_loopg [5] k (fun kq v5 w' => ∃ (x5_1 : Int), v5 = .int .i64 x5_1 ∧ Aside0 (toponymref01_Same.l0 kq l0 l1 x5_1 = some r) ∧ Aside0 (kq ≤ k) ∧ Drawn0 w w')
    case atStart => exact ⟨(0), (by first | rfl | (simp; done) | (simp [*]; done)), H', ⟨Nat.le_refl _⟩, by repeat (first | exact Drawn0.refl _ | apply Drawn0.step)⟩
    case round =>
      clear H'
      try clear c1
      try clear p2
      try clear c3
      try clear c3b0
      try clear c3b1
      try clear c3b2
      obtain ⟨x5_1, rfl, HA, HK1, ⟨m1, rfl⟩⟩ := hrel
      cases gk with
      | zero => exact absurd HA.out (by simp [toponymref01_Same.l0])
      | succ k1 =>
        have H := HA.out
        clear HA
        simp only [toponymref01_Same.l0] at H
        by_cases c4 : x5_1 < (l0.length : Int)
        · rw [if_pos c4] at H
          have c4b0 : decide (x5_1 < (l0.length : Int)) = true := decide_eq_true c4
          clear c4
          by_cases c5 : 0 ≤ x5_1
          · rw [if_pos c5] at H
            have c5b0 : decide (0 ≤ x5_1) = true := decide_eq_true c5
            clear c5
            by_cases c6 : x5_1 < (l1.length : Int)
            · rw [if_pos c6] at H
              have c6b0 : decide (x5_1 < (l1.length : Int)) = true := decide_eq_true c6
              clear c6
              by_cases c7 : (rd l0 x5_1) = (rd l1 x5_1)
              · rw [if_pos c7] at H
                have c7b0 : ((rd l0 x5_1) == (rd l1 x5_1)) = true := beq_iff_eq.mpr c7
                have c7b1 : ((rd l0 x5_1) != (rd l1 x5_1)) = false := bne_eq_false_iff_eq.mpr c7
                clear c7
                have H' := Aside0.mk H
                clear H
                have p112 : 0 ≤ (x5_1 : Int) := of_decide_eq_true (by first | (with_reducible assumption) | assumption)
                have q112 : x5_1 < (l0.length : Int) := of_decide_eq_true (by first | (with_reducible assumption) | assumption)
                obtain ⟨ad112, e112, hx112_0⟩ := Kd.at_int HR0.out x5_1 p112 q112
                cases e112
                replace p112 := eq_true p112
                replace q112 := eq_true q112
                have p113 : 0 ≤ (x5_1 : Int) := of_decide_eq_true (by first | (with_reducible assumption) | assumption)
                have q113 : x5_1 < (l1.length : Int) := of_decide_eq_true (by first | (with_reducible assumption) | assumption)
                obtain ⟨ad113, e113, hx113_0⟩ := Kd.at_int HR1.out x5_1 p113 q113
                cases e113
                replace p113 := eq_true p113
                replace q113 := eq_true q113
                go_wp2
                repeat (go_quiet (fail); try go_wp2)
                go_roundg k1
                case measure => have := HK1.out; omega
                case rel => exact ⟨(wrap64 (x5_1 + 1)), (by first | rfl | (simp; done) | (simp [*]; done)), H', ⟨by have := HK1.out; omega⟩, by repeat (first | exact Drawn0.refl _ | apply Drawn0.step)⟩
              · rw [if_neg c7] at H
                have c7b0 : ((rd l0 x5_1) == (rd l1 x5_1)) = false := beq_eq_false_iff_ne.mpr c7
                have c7b1 : ((rd l0 x5_1) != (rd l1 x5_1)) = true := bne_iff_ne.mpr c7
                obtain rfl := Option.some.inj H
                have p112 : 0 ≤ (x5_1 : Int) := of_decide_eq_true (by first | (with_reducible assumption) | assumption)
                have q112 : x5_1 < (l0.length : Int) := of_decide_eq_true (by first | (with_reducible assumption) | assumption)
                obtain ⟨ad112, e112, hx112_0⟩ := Kd.at_int HR0.out x5_1 p112 q112
                cases e112
                replace p112 := eq_true p112
                replace q112 := eq_true q112
                have p113 : 0 ≤ (x5_1 : Int) := of_decide_eq_true (by first | (with_reducible assumption) | assumption)
                have q113 : x5_1 < (l1.length : Int) := of_decide_eq_true (by first | (with_reducible assumption) | assumption)
                obtain ⟨ad113, e113, hx113_0⟩ := Kd.at_int HR1.out x5_1 p113 q113
                cases e113
                replace p113 := eq_true p113
                replace q113 := eq_true q113
                go_wp2
                repeat (go_quiet (fail); try go_wp2)
                go_ret
                exact ⟨by first | rfl | (simp; done) | (simp [*]; done), by repeat (first | exact Drawn0.refl _ | apply Drawn0.step)⟩
            · rw [if_neg c6] at H
              exact absurd H (by simp)
          · rw [if_neg c5] at H
            exact absurd H (by simp)
        · rw [if_neg c4] at H
          have c4b0 : decide (x5_1 < (l0.length : Int)) = false := decide_eq_false c4
          clear c4
          obtain rfl := Option.some.inj H
          go_wp2
          repeat (go_quiet (fail); try go_wp2)
          go_ret
          exact ⟨by first | rfl | (simp; done) | (simp [*]; done), by repeat (first | exact Drawn0.refl _ | apply Drawn0.step)⟩
  · rw [if_neg c3] at H
    have c3b0 : ((l0.length : Int) == (l1.length : Int)) = false := beq_eq_false_iff_ne.mpr c3
    have c3b1 : ((l0.length : Int) != (l1.length : Int)) = true := bne_iff_ne.mpr c3
    have c3b2 : (l0.length == l1.length) = false := by first | simpa using c3 | (simp at c3 ⊢; omega)
    obtain rfl := Option.some.inj H
    go_enter Try.func7, Try.ntmps7
    go_wp2
    repeat (go_quiet (fail); try go_wp2)
    go_ret
    exact ⟨by first | rfl | (simp; done) | (simp [*]; done), by repeat (first | exact Drawn0.refl _ | apply Drawn0.step)⟩

/-! ### slices_Index_int_int: function 28 -/
def slices_Index_int_int.l0 : Nat → List Int → Int → Int → Int → Option (Int)
  | 0, _, _, _, _ => none
  | k + 1, x0, x1, x7, x8 => if x8 < x7 then (if 0 ≤ x8 then (if x8 < (x0.length : Int) then (if x1 = (rd x0 x8) then (some x8) else (slices_Index_int_int.l0 k x0 x1 x7 (wrap64 (x8 + 1)))) else (none)) else (none)) else (some (-1))
def slices_Index_int_int.f (k : Nat) (l0 : List Int) (a1 : Int) : Option (Int) := slices_Index_int_int.l0 k l0 a1 (l0.length : Int) 0
theorem slices_Index_int_int.mono_l : ∀ k, (∀ y0 y1 y2 y3, LeO (slices_Index_int_int.l0 k y0 y1 y2 y3) (slices_Index_int_int.l0 (k + 1) y0 y1 y2 y3))
  | 0 => fun _ _ _ _ r h => by simp [slices_Index_int_int.l0] at h
  | k + 1 => by
    have ih0 := slices_Index_int_int.mono_l k
    · intro y0 y1 y2 y3
      unfold slices_Index_int_int.l0
      repeat' first
      | (with_reducible exact ih0 _ _ _ _)
      | (with_reducible exact LeO.refl _)
      | (with_reducible exact LeO.none _)
      | (with_reducible refine LeO.ite ?_ ?_)
      | (with_reducible refine LeO.bind ?_ (fun _ => ?_))
      | exact ih0 _ _ _ _
      | exact LeO.none _
      | refine LeO.ite ?_ ?_
      | refine LeO.bind ?_ (fun _ => ?_)
theorem slices_Index_int_int.mono : ∀ a0 a1 k, LeO (slices_Index_int_int.f k a0 a1) (slices_Index_int_int.f (k + 1) a0 a1) := by
  intro a0 a1 k
  have ih0 := slices_Index_int_int.mono_l k
  unfold slices_Index_int_int.f
  repeat' first
      | (with_reducible exact ih0 _ _ _ _)
      | (with_reducible exact LeO.refl _)
      | (with_reducible exact LeO.none _)
      | (with_reducible refine LeO.ite ?_ ?_)
      | (with_reducible refine LeO.bind ?_ (fun _ => ?_))
      | exact ih0 _ _ _ _
      | exact LeO.none _
      | refine LeO.ite ?_ ?_
      | refine LeO.bind ?_ (fun _ => ?_)
set_option maxHeartbeats 8000000 in
set_option maxRecDepth 100000 in
theorem slices_Index_int_int.calls (k : Nat) (A0 : Option Addr) (c0 : Nat) (l0 : List Int) (a1 : Int) (r : Int) (w : World) (hr0 : Kd.C (Kd.int .i64) w A0 l0.length l0) (hc0 : l0.length ≤ c0) (h : slices_Index_int_int.f k l0 a1 = some r) :
    Calls Try.prog 28 #[.slice A0 l0.length c0, .int .i64 a1] w fun e w' => e = .returned (.int .i64 r) ∧ Drawn0 w w' := by
  have HR0 := Aside0.mk hr0
  have HC0 := Aside0.mk hc0
  clear hr0 hc0
  have H : (slices_Index_int_int.l0 k l0 a1 (l0.length : Int) 0) = some r := h
  clear h
  have H' := Aside0.mk H
  clear H
  go_enter Try.func28, Try.ntmps28
  go_wp2
  go_loopg [8] k (fun kq v8 w' => ∃ (x8_1 : Int), v8 = .int .i64 x8_1 ∧ Aside0 (slices_Index_int_int.l0 kq l0 a1 (l0.length : Int) x8_1 = some r) ∧ Aside0 (kq ≤ k) ∧ Drawn0 w w')
  case atStart => exact ⟨(0), (by first | rfl | (simp; done) | (simp [*]; done)), H', ⟨Nat.le_refl _⟩, by repeat (first | exact Drawn0.refl _ | apply Drawn0.step)⟩
  case round =>
    clear H'
    try clear c2
    try clear p2
    obtain ⟨x8_1, rfl, HA, HK1, ⟨m1, rfl⟩⟩ := hrel
    cases gk with
    | zero => exact absurd HA.out (by simp [slices_Index_int_int.l0])
    | succ k1 =>
      have H := HA.out
      clear HA
      simp only [slices_Index_int_int.l0] at H
      by_cases c3 : x8_1 < (l0.length : Int)
      · rw [if_pos c3] at H
        have c3b0 : decide (x8_1 < (l0.length : Int)) = true := decide_eq_true c3
        clear c3
        by_cases c4 : 0 ≤ x8_1
        · rw [if_pos c4] at H
          have c4b0 : decide (0 ≤ x8_1) = true := decide_eq_true c4
          clear c4
          by_cases c5 : x8_1 < (l0.length : Int)
          · rw [if_pos c5] at H
            have c5b0 : decide (x8_1 < (l0.length : Int)) = true := decide_eq_true c5
            clear c5
            by_cases c6 : a1 = (rd l0 x8_1)
            · rw [if_pos c6] at H
              have c6b0 : (a1 == (rd l0 x8_1)) = true := beq_iff_eq.mpr c6
              have c6b1 : (a1 != (rd l0 x8_1)) = false := bne_eq_false_iff_eq.mpr c6
              clear c6
              obtain rfl := Option.some.inj H
              have p114 : 0 ≤ (x8_1 : Int) := of_decide_eq_true (by first | (with_reducible assumption) | assumption)
              have q114 : x8_1 < (l0.length : Int) := of_decide_eq_true (by first | (with_reducible assumption) | assumption)
              obtain ⟨ad114, e114, hx114_0⟩ := Kd.at_int HR0.out x8_1 p114 q114
              cases e114
              replace p114 := eq_true p114
              replace q114 := eq_true q114
              go_wp2
              go_ret
              exact ⟨by first | rfl | (simp; done) | (simp [*]; done), by repeat (first | exact Drawn0.refl _ | apply Drawn0.step)⟩
            · rw [if_neg c6] at H
              have c6b0 : (a1 == (rd l0 x8_1)) = false := beq_eq_false_iff_ne.mpr c6
              have c6b1 : (a1 != (rd l0 x8_1)) = true := bne_iff_ne.mpr c6
              have H' := Aside0.mk H
              clear H
              have p114 : 0 ≤ (x8_1 : Int) := of_decide_eq_true (by first | (with_reducible assumption) | assumption)
              have q114 : x8_1 < (l0.length : Int) := of_decide_eq_true (by first | (with_reducible assumption) | assumption)
              obtain ⟨ad114, e114, hx114_0⟩ := Kd.at_int HR0.out x8_1 p114 q114
              cases e114
              replace p114 := eq_true p114
              replace q114 := eq_true q114
              go_wp2
              go_roundg k1
              case measure => have := HK1.out; omega
              case rel => exact ⟨(wrap64 (x8_1 + 1)), (by first | rfl | (simp; done) | (simp [*]; done)), H', ⟨by have := HK1.out; omega⟩, by repeat (first | exact Drawn0.refl _ | apply Drawn0.step)⟩
          · rw [if_neg c5] at H
            exact absurd H (by simp)
        · rw [if_neg c4] at H
          exact absurd H (by simp)
      · rw [if_neg c3] at H
        have c3b0 : decide (x8_1 < (l0.length : Int)) = false := decide_eq_false c3
        clear c3
        obtain rfl := Option.some.inj H
        go_wp2
        go_ret
        exact ⟨by first | rfl | (simp; done) | (simp [*]; done), by repeat (first | exact Drawn0.refl _ | apply Drawn0.step)⟩

/-! ### slices_Contains_int_int: function 21 -/
def slices_Contains_int_int.f (k : Nat) (l0 : List Int) (a1 : Int) : Option (Bool) := (slices_Index_int_int.f k l0 a1).bind fun t115 => (some (decide (t115 ≥ 0)))
theorem slices_Contains_int_int.mono : ∀ a0 a1 k, LeO (slices_Contains_int_int.f k a0 a1) (slices_Contains_int_int.f (k + 1) a0 a1) := by
  intro a0 a1 k
  unfold slices_Contains_int_int.f
  repeat' first
      | (with_reducible exact slices_Index_int_int.mono _ _ _)
      | (with_reducible exact LeO.refl _)
      | (with_reducible exact LeO.none _)
      | (with_reducible refine LeO.ite ?_ ?_)
      | (with_reducible refine LeO.bind ?_ (fun _ => ?_))
      | exact slices_Index_int_int.mono _ _ _
      | exact LeO.none _
      | refine LeO.ite ?_ ?_
      | refine LeO.bind ?_ (fun _ => ?_)
set_option maxHeartbeats 8000000 in
set_option maxRecDepth 100000 in
theorem slices_Contains_int_int.calls (k : Nat) (A0 : Option Addr) (c0 : Nat) (l0 : List Int) (a1 : Int) (r : Bool) (w : World) (hr0 : Kd.C (Kd.int .i64) w A0 l0.length l0) (hc0 : l0.length ≤ c0) (h : slices_Contains_int_int.f k l0 a1 = some r) :
    Calls Try.prog 21 #[.slice A0 l0.length c0, .int .i64 a1] w fun e w' => e = .returned (.bool r) ∧ Drawn0 w w' := by
  have HR0 := Aside0.mk hr0
  have HC0 := Aside0.mk hc0
  clear hr0 hc0
  have H : ((slices_Index_int_int.f k l0 a1).bind fun t115 => (some (decide (t115 ≥ 0)))) = some r := h
  clear h
  replace H := Option.bind_eq_some_iff.mp H
  obtain ⟨t115, A30, H⟩ := H
  replace H : (some (decide (t115 ≥ 0))) = some r := H
  have A3 := Aside0.mk A30
  clear A30
  obtain rfl := Option.some.inj H
  go_enter Try.func21, Try.ntmps21
  go_wp2_with (first | ((with_reducible refine gate_callee (f := 28) rfl ?_); refine goesL_ (some 7) rfl rfl Try.func28 (by kernel_rfl) rfl #[.slice A0 l0.length c0, .int .i64 a1] rfl (by (try simp only [List.map_toArray, List.map_cons, List.map_nil]); first | done | rfl | (simp only [List.length_drop, List.length_take]; rfl)) ?_; (with_reducible refine (slices_Index_int_int.calls k _ _ l0 a1 t115 _ ?side1 ?side2 A3.out).mono ?_); (case side1 => repeat (first | exact HR0.out | (with_reducible refine Kd.C_alloc ?_ _) | (with_reducible refine Kd.C_drewN ?_ _) | (with_reducible refine Kd.C_drew ?_))); (case side2 => exact HC0.out); rintro e w' ⟨rfl, ⟨nd, rfl⟩⟩; refine ⟨_, rfl, ?_⟩))
  go_ret
  exact ⟨by first | rfl | (simp; done) | (simp [*]; done), by repeat (first | exact Drawn0.refl _ | apply Drawn0.step)⟩

/-! ### chars_letter: function 29, by hand (chars.letter.tpl) -/
def chars_letter.f (a0 : Int) : Option (Bool) := some (((((((((((((((((((((((((((((((decide (65 ≤ a0) && decide (a0 ≤ 90)) || (decide (97 ≤ a0) && decide (a0 ≤ 122))) || (a0 == 170)) || (a0 == 181)) || (a0 == 186)) || (decide (192 ≤ a0) && decide (a0 ≤ 214))) || (decide (216 ≤ a0) && decide (a0 ≤ 246))) || (decide (248 ≤ a0) && decide (a0 ≤ 383))) || (a0 == 700)) || (a0 == 902)) || (decide (904 ≤ a0) && decide (a0 ≤ 906))) || (a0 == 908)) || (decide (910 ≤ a0) && decide (a0 ≤ 929))) || (decide (931 ≤ a0) && decide (a0 ≤ 974))) || (a0 == 1025)) || (decide (1040 ≤ a0) && decide (a0 ≤ 1103))) || (a0 == 1105)) || (decide (1488 ≤ a0) && decide (a0 ≤ 1514))) || (decide (4352 ≤ a0) && decide (a0 ≤ 4370))) || (decide (4449 ≤ a0) && decide (a0 ≤ 4469))) || (decide (4520 ≤ a0) && decide (a0 ≤ 4546))) || (a0 == 8486)) || (decide (8490 ≤ a0) && decide (a0 ≤ 8491))) || (decide (8544 ≤ a0) && decide (a0 ≤ 8555))) || (decide (8560 ≤ a0) && decide (a0 ≤ 8571))) || (decide (12353 ≤ a0) && decide (a0 ≤ 12436))) || (decide (19968 ≤ a0) && decide (a0 ≤ 20223))) || (decide (44032 ≤ a0) && decide (a0 ≤ 55203))) || (decide (64256 ≤ a0) && decide (a0 ≤ 64261))) || (decide (65313 ≤ a0) && decide (a0 ≤ 65338))) || (decide (65345 ≤ a0) && decide (a0 ≤ 65370)))
set_option maxHeartbeats 8000000 in
set_option maxRecDepth 100000 in
theorem chars_letter.calls (a0 : Int) (r : Bool) (w : World) (h : chars_letter.f a0 = some r) :
    Calls Try.prog 29 #[.int .i32 a0] w fun e w' => e = .returned (.bool r) ∧ Drawn0 w w' := by
  obtain rfl := Option.some.inj h
  clear h
  go_enter Try.func29, Try.ntmps29
  refine wp_seq ?_
  refine wp_region_lit ?_
  refine wpList_step fun K0 hK0 => ?_
  refine hK0 _ _ ?_
  refine wpList_nil ?_
  show Code.wp _ _ _ _ _
  refine wp_seq ?_
  refine wp_region_lit ?_
  refine cl_first (N := 213) (j := 2) (r := a0) rfl rfl rfl (by decide) (by decide) ?_
  intro tm hc
  refine cl_range hc (i := 6) (j := 9) rfl rfl (by decide) (by decide) (by decide) ?_
  clear hc tm
  intro tm hc
  refine cl_one Try.underlying21 hc (i := 14) rfl (by decide) (by decide) (by decide) ?_
  clear hc tm
  intro tm hc
  refine cl_one Try.underlying21 hc (i := 18) rfl (by decide) (by decide) (by decide) ?_
  clear hc tm
  intro tm hc
  refine cl_one Try.underlying21 hc (i := 22) rfl (by decide) (by decide) (by decide) ?_
  clear hc tm
  intro tm hc
  refine cl_range hc (i := 26) (j := 29) rfl rfl (by decide) (by decide) (by decide) ?_
  clear hc tm
  intro tm hc
  refine cl_range hc (i := 34) (j := 37) rfl rfl (by decide) (by decide) (by decide) ?_
  clear hc tm
  intro tm hc
  refine cl_range hc (i := 42) (j := 45) rfl rfl (by decide) (by decide) (by decide) ?_
  clear hc tm
  intro tm hc
  refine cl_one Try.underlying21 hc (i := 50) rfl (by decide) (by decide) (by decide) ?_
  clear hc tm
  intro tm hc
  refine cl_one Try.underlying21 hc (i := 54) rfl (by decide) (by decide) (by decide) ?_
  clear hc tm
  intro tm hc
  refine cl_range hc (i := 58) (j := 61) rfl rfl (by decide) (by decide) (by decide) ?_
  clear hc tm
  intro tm hc
  refine cl_one Try.underlying21 hc (i := 66) rfl (by decide) (by decide) (by decide) ?_
  clear hc tm
  intro tm hc
  refine cl_range hc (i := 70) (j := 73) rfl rfl (by decide) (by decide) (by decide) ?_
  clear hc tm
  intro tm hc
  refine cl_range hc (i := 78) (j := 81) rfl rfl (by decide) (by decide) (by decide) ?_
  clear hc tm
  intro tm hc
  refine cl_one Try.underlying21 hc (i := 86) rfl (by decide) (by decide) (by decide) ?_
  clear hc tm
  intro tm hc
  refine cl_range hc (i := 90) (j := 93) rfl rfl (by decide) (by decide) (by decide) ?_
  clear hc tm
  intro tm hc
  refine cl_one Try.underlying21 hc (i := 98) rfl (by decide) (by decide) (by decide) ?_
  clear hc tm
  intro tm hc
  refine cl_range hc (i := 102) (j := 105) rfl rfl (by decide) (by decide) (by decide) ?_
  clear hc tm
  intro tm hc
  refine cl_range hc (i := 110) (j := 113) rfl rfl (by decide) (by decide) (by decide) ?_
  clear hc tm
  intro tm hc
  refine cl_range hc (i := 118) (j := 121) rfl rfl (by decide) (by decide) (by decide) ?_
  clear hc tm
  intro tm hc
  refine cl_range hc (i := 126) (j := 129) rfl rfl (by decide) (by decide) (by decide) ?_
  clear hc tm
  intro tm hc
  refine cl_one Try.underlying21 hc (i := 134) rfl (by decide) (by decide) (by decide) ?_
  clear hc tm
  intro tm hc
  refine cl_range hc (i := 138) (j := 141) rfl rfl (by decide) (by decide) (by decide) ?_
  clear hc tm
  intro tm hc
  refine cl_range hc (i := 146) (j := 149) rfl rfl (by decide) (by decide) (by decide) ?_
  clear hc tm
  intro tm hc
  refine cl_range hc (i := 154) (j := 157) rfl rfl (by decide) (by decide) (by decide) ?_
  clear hc tm
  intro tm hc
  refine cl_range hc (i := 162) (j := 165) rfl rfl (by decide) (by decide) (by decide) ?_
  clear hc tm
  intro tm hc
  refine cl_range hc (i := 170) (j := 173) rfl rfl (by decide) (by decide) (by decide) ?_
  clear hc tm
  intro tm hc
  refine cl_range hc (i := 178) (j := 181) rfl rfl (by decide) (by decide) (by decide) ?_
  clear hc tm
  intro tm hc
  refine cl_range hc (i := 186) (j := 189) rfl rfl (by decide) (by decide) (by decide) ?_
  clear hc tm
  intro tm hc
  refine cl_range hc (i := 194) (j := 197) rfl rfl (by decide) (by decide) (by decide) ?_
  clear hc tm
  intro tm hc
  refine cl_range hc (i := 202) (j := 205) rfl rfl (by decide) (by decide) (by decide) ?_
  clear hc tm
  intro tm hc
  refine st_assign ?_
  rw [hc.acc]
  refine wpList_nil ?_
  show Code.wp _ _ _ _ _
  refine wp_ret ?_
  refine bodyPost_ret (results_tmp rfl _ _ _) rfl ?_
  refine ⟨?_, Drawn0.refl _⟩
  show Ending.returned ((tm.setIfInBounds 2 _).getD 2 undef) = _
  rw [getD_set_same _ _ _ (by rw [hc.size]; decide)]

end Go.Proofs.Ytobfngikgfjaoaa.P
