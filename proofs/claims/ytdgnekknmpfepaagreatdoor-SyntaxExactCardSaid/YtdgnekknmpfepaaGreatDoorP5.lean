-- Printed by wip/mk.py (this session's driver over the kit's print) and from wip/manual.
import Derived.Test.YtdgnekknmpfepaaGreatDoorP0
import Derived.Test.YtdgnekknmpfepaaGreatDoorP4
namespace Go.Proofs.YtdgnekknmpfepaaGreatDoor.P
open Go.RowKit Go.Proofs.YtdgnekknmpfepaaGreatDoorW.PrintWords Go.Proofs.YtdgnekknmpfepaaGreatDoorW.PrintLast Go.Proofs.YtdgnekknmpfepaaGreatDoorW.PrintMore
attribute [local go_sem] run_store_float run_store_complex max2_int min2_int max_two min_two max_three min_three max_four min_four   -- for this text's walks alone
set_option linter.unusedVariables false
set_option linter.unusedSimpArgs false

/-! ### slices_Clone_rune_rune: function 131, by hand (slices.Clone.rune.tpl) -/
theorem info21c : (Tryz.prog.info? 21).map (fun i => (i.zero, i.size, i.bytes)) = some (some (.int .i32 0), 1, 4) := by kernel_rfl
def slices_Clone_rune_rune.f (l0 : List Int) : Option (List Int) := if l0.length < 35184372088832 then some l0 else none
set_option maxHeartbeats 8000000 in
set_option maxRecDepth 100000 in
theorem slices_Clone_rune_rune.calls (A0 : Option Addr) (c0 : Nat) (l0 : List Int) (r : List Int) (w : World) (hr0 : Kd.C (Kd.int .i32) w A0 l0.length l0) (hc0 : l0.length ≤ c0) (h : slices_Clone_rune_rune.f l0 = some r) :
    Calls Tryz.prog 131 #[.slice A0 l0.length c0] w fun e w' => ∃ v0_ : Value, e = .returned (v0_) ∧ Kd.R (Kd.int .i32) 21 w' w.heap.size (fun _ => True) (v0_) (r) ∧ Below w.heap.size w w' := by
  have H := h
  clear h
  unfold slices_Clone_rune_rune.f at H
  by_cases c1 : l0.length < 35184372088832
  · rw [if_pos c1] at H
    obtain rfl := Option.some.inj H
    clear H
    have LM := Aside0.mk c1
    clear c1
    have hnl := fun (w : World) => Lib.run_eql_slice_nil (P := Tryz.prog) w 65 21 A0 l0.length c0 0 0 Tryz.underlying65
    cases A0 with
    | none =>
      have hl : l0 = [] := by
        by_cases h0 : 0 < l0.length
        · obtain ⟨ad, e, _⟩ := hr0.2.2 h0
          cases e
        · exact List.length_eq_zero_iff.1 (by omega)
      subst hl
      clear hr0 LM
      simp only [Option.isNone_none, List.length_nil] at hnl ⊢
      go_enter Tryz.func131, Tryz.ntmps131
      go_wp2
      go_ret
      exact ⟨_, rfl, Kd.R_nil _ _ _ _ _, Below.refl _ _⟩
    | some ad =>
      simp only [Option.isNone_some] at hnl
      have HR := Aside0.mk hr0
      have HC := Aside0.mk hc0
      have HB := Aside0.mk (Below.refl w.heap.size w)
      clear hr0 hc0
      go_enter Tryz.func131, Tryz.ntmps131
      go_wp2_with (first | ((with_reducible refine gate_dst (N := 5) rfl ?_); refine Kd.R_lit (Kd.int .i32) _ 21 ?hg (N := 5) ?hd (xs := ([] : List Int)) (inner := []) (ok := fun _ => True) (okp := fun _ => True) ?hr ?hp (fun _ hk => hk) trivial (Below.refl _ _) (Nat.le_refl _) (by simp) ?_; (case hd => rfl); (case hg => rfl); (case hr => first | (go_simp; done) | (go_simp; rfl)); (case hp => exact (Reps.none _ _)); intro v5 w5 ho5 hb hg_ hnew_; clear hg_ hnew_ HB; have HO := Aside0.mk ho5; have HB := Aside0.mk hb; clear ho5 hb) | ((with_reducible refine gate_builtin (b := .append) (xs := #[.tmp 5, .tmp 6]) rfl ?_); at_builtin; refine Kd.R_append_rows (Kd.int .i32) (w0 := w) w.heap.size rfl (.tmp 5) (.tmp 6) 65 21 (.int .i32 0) 4 rfl Tryz.underlying65 info21c rfl (by decide) (by omega) v5 [] l0 _ _ _ (fun _ => True) (fun _ => False) rfl rfl ?aO ?aR (fun _ _ h => h) (fun _ h => h.elim) ?aF ?aB ?aS ?aL ?_; (case aR => exact Kd.C_below HR.out HB.out); (case aB => exact HB.out); (case aF => exact (fun _ _ => trivial)); (case aO => exact HO.out); (case aS => exact HB.out.size); (case aL => have := LM.out; simp only [List.length_nil]; omega); intro v7 w7 ho hb hg hat; simp only [List.nil_append] at ho; have HO7 := Aside0.mk ho; have HB7 := Aside0.mk hb; clear ho hb hg hat))
      go_ret
      exact ⟨_, rfl, HO7.out, HB7.out⟩
  · rw [if_neg c1] at H
    exact absurd H (by simp)

/-! ### decomp_All: function 132, by hand (stub.decomp.All.tpl) -/
def decomp_All.f (k : Nat) (a0 : Bool) (l1 : List Int) : Option (List Int) := stubNone _
theorem decomp_All.mono : ∀ a0 a1 k, LeO (decomp_All.f k a0 a1) (decomp_All.f (k + 1) a0 a1) := fun _ _ _ => LeO.refl _
theorem decomp_All.calls (k : Nat) (a0 : Bool) (A1 : Option Addr) (c1 : Nat) (l1 : List Int) (r : List Int) (w : World) (hr1 : Kd.C (Kd.int .i32) w A1 l1.length l1) (hc1 : l1.length ≤ c1) (h : decomp_All.f k a0 l1 = some r) :
    Calls Tryz.prog 132 #[.bool a0, .slice A1 l1.length c1] w fun e w' => ∃ v0_ : Value, e = .returned (v0_) ∧ Kd.R (Kd.int .i32) 21 w' w.heap.size (fun _ => True) v0_ r ∧ Below w.heap.size w w' := by
  cases (stubNone_eq _).symm.trans h

/-! ### compose_All: function 133, by hand (stub.compose.All.tpl) -/
def compose_All.f (k : Nat) (l0 : List Int) : Option (List Int) := stubNone _
theorem compose_All.mono : ∀ a0 k, LeO (compose_All.f k a0) (compose_All.f (k + 1) a0) := fun _ _ => LeO.refl _
theorem compose_All.calls (k : Nat) (A0 : Option Addr) (c0 : Nat) (l0 : List Int) (r : List Int) (w : World) (hr0 : Kd.C (Kd.int .i32) w A0 l0.length l0) (hc0 : l0.length ≤ c0) (h : compose_All.f k l0 = some r) :
  Calls Tryz.prog 133 #[.slice A0 l0.length c0] w fun e w' => ∃ v0_ : Value, e = .returned (v0_) ∧ Kd.R (Kd.int .i32) 21 w' w.heap.size (fun _ => True) v0_ r ∧ Below w.heap.size w w' := by
  cases (stubNone_eq _).symm.trans h

/-! ### arrange_Order: function 134, by hand (stub.arrange.Order.tpl) -/
def arrange_Order.f (k : Nat) (l0 : List Int) : Option (List Int) := stubNone _
theorem arrange_Order.mono : ∀ a0 k, LeO (arrange_Order.f k a0) (arrange_Order.f (k + 1) a0) := fun _ _ => LeO.refl _
theorem arrange_Order.calls (k : Nat) (A0 : Option Addr) (c0 : Nat) (l0 : List Int) (r : List Int) (w : World) (hr0 : Kd.C (Kd.int .i32) w A0 l0.length l0) (hc0 : l0.length ≤ c0) (h : arrange_Order.f k l0 = some r) :
  Calls Tryz.prog 134 #[.slice A0 l0.length c0] w fun e w' => ∃ v0_ : Value, e = .returned (v0_) ∧ Kd.R (Kd.int .i32) 21 w' w.heap.size (fun _ => True) v0_ r ∧ Below w.heap.size w w' := by
  cases (stubNone_eq _).symm.trans h

/-! ### nfkc_Runes: function 85 -/
def nfkc_Runes.f (k : Nat) (a0 : Bool) (l1 : List Int) : Option (List Int) := (nfkc_plain.f k l1).bind fun t144 => (if t144 = true then ((slices_Clone_rune_rune.f l1).bind fun t145 => (some t145)) else ((decomp_All.f k a0 l1).bind fun t148 => ((arrange_Order.f k t148).bind fun t151 => ((compose_All.f k t151).bind fun t154 => (some t154)))))
theorem nfkc_Runes.mono : ∀ a0 a1 k, LeO (nfkc_Runes.f k a0 a1) (nfkc_Runes.f (k + 1) a0 a1) := by
 intro a0 a1 k
 unfold nfkc_Runes.f
 repeat' first
   | (with_reducible exact arrange_Order.mono _ _)
   | (with_reducible exact compose_All.mono _ _)
   | (with_reducible exact decomp_All.mono _ _ _)
   | (with_reducible exact nfkc_plain.mono _ _)
   | (with_reducible exact LeO.refl _)
   | exact arrange_Order.mono _ _
   | exact compose_All.mono _ _
   | exact decomp_All.mono _ _ _
   | exact nfkc_plain.mono _ _
   | exact LeO.none _
   | refine LeO.ite ?_ ?_
   | refine LeO.bind ?_ (fun _ => ?_)
set_option maxHeartbeats 8000000 in
set_option maxRecDepth 100000 in
theorem nfkc_Runes.calls (k : Nat) (a0 : Bool) (A1 : Option Addr) (c1 : Nat) (l1 : List Int) (r : List Int) (w : World) (hr1 : Kd.C (Kd.int .i32) w A1 l1.length l1) (hc1 : l1.length ≤ c1) (h : nfkc_Runes.f k a0 l1 = some r) :
  Calls Tryz.prog 85 #[.bool a0, .slice A1 l1.length c1] w fun e w' => ∃ v0_ : Value, e = .returned (v0_) ∧ Kd.R (Kd.int .i32) 21 w' w.heap.size (fun _ => True) v0_ r ∧ Below w.heap.size w w' := by
 have HR1 := aM hr1
 have HC1 := aM hc1
 clear hr1 hc1
 have HB := aM (Below.refl w.heap.size w)
 have H := h
 clear h
 unfold nfkc_Runes.f at H
 obtain ⟨t144, A3, H⟩ := zO H
 by_cases c4 : t144 = true
 ·subst c4
  rw [if_pos rfl] at H
  obtain ⟨t145, A5, H⟩ := zO H
  obtain rfl := sI H
  go_enter Tryz.func85, Tryz.ntmps85
  go_wp2_with (first | ((with_reducible refine gate_callee (f := 130) rfl ?_); refine goesL_ (some 7) rfl rfl Tryz.func130 zK rfl #[.slice A1 l1.length c1] rfl zM ?_; (with_reducible refine (nfkc_plain.calls k _ _ l1 true _ ?side1 ?side2 A3.out).mono ?_); (case side1 => exact zC HR1.out); (case side2 => exact HC1.out); rintro e w' ⟨rfl, ⟨nd, rfl⟩⟩; refine ⟨_, rfl, ?_⟩) | ((with_reducible refine gate_callee (f := 131) rfl ?_); refine goesL_ (some 9) rfl rfl Tryz.func131 zK rfl #[.slice A1 l1.length c1] rfl zM ?_; (with_reducible refine (slices_Clone_rune_rune.calls _ _ l1 t145 _ ?side1 ?side2 A5.out).mono ?_); (case side1 => exact zC HR1.out); (case side2 => exact HC1.out); rintro e w6 ⟨v146, rfl, ho0, hb⟩; refine ⟨_, rfl, ?_⟩; have n_ := zI (aM (Kd.R_lower ho0 (below_size zB))) (aM (below_step zB hb)); clear HB; obtain ⟨HO147, HB⟩ := n_; (try clear hb); (try clear ho0)))
  go_ret
  exact ⟨_, zE, zR HO147, zB⟩
 ·replace c4 := Bool.eq_false_iff.mpr c4
  subst c4
  rw [if_neg (show ¬ (false = true) by decide)] at H
  obtain ⟨t148, A7, H⟩ := zO H
  obtain ⟨t151, A8, H⟩ := zO H
  obtain ⟨t154, A9, H⟩ := zO H
  obtain rfl := sI H
  go_enter Tryz.func85, Tryz.ntmps85
  go_wp2_with (first | ((with_reducible refine gate_callee (f := 130) rfl ?_); refine goesL_ (some 7) rfl rfl Tryz.func130 zK rfl #[.slice A1 l1.length c1] rfl zM ?_; (with_reducible refine (nfkc_plain.calls k _ _ l1 false _ ?side1 ?side2 A3.out).mono ?_); (case side1 => exact zC HR1.out); (case side2 => exact HC1.out); rintro e w' ⟨rfl, ⟨nd, rfl⟩⟩; refine ⟨_, rfl, ?_⟩) | ((with_reducible refine gate_callee (f := 132) rfl ?_); refine goesL_ (some 12) rfl rfl Tryz.func132 zK rfl #[.bool a0, .slice A1 l1.length c1] rfl zM ?_; (with_reducible refine (decomp_All.calls k a0 _ _ l1 t148 _ ?side1 ?side2 A7.out).mono ?_); (case side1 => exact zC HR1.out); (case side2 => exact HC1.out); rintro e w10 ⟨v149, rfl, ho0, hb⟩; refine ⟨_, rfl, ?_⟩; have n_ := zI (aM (Kd.R_lower ho0 (below_size zB))) (aM (below_step zB hb)); clear HB; obtain ⟨HO150, HB⟩ := n_; (try clear hb); (try clear ho0); obtain ⟨Ao11, co11, rfl⟩ := Kd.R_slice HO150.out) | ((with_reducible refine gate_callee (f := 134) rfl ?_); refine goesL_ (some 14) rfl rfl Tryz.func134 zK rfl #[.slice Ao11 t148.length co11] rfl zM ?_; (with_reducible refine (arrange_Order.calls k _ _ t148 t151 _ ?side1 ?side2 A8.out).mono ?_); (case side1 => exact zC (Kd.R_reads' HO150.out).2.2); (case side2 => exact (Kd.R_reads' HO150.out).2.1); rintro e w12 ⟨v152, rfl, ho0, hb⟩; refine ⟨_, rfl, ?_⟩; have n_ := zI (aM (Kd.R_elder' (zR HO150) (Kd.R_base ho0) hb)) (zI (aM (Kd.R_lower (Kd.R_new' ho0 (Kd.R_lt (zR HO150))) (below_size zB))) (aM (below_step zB hb))); clear HO150 HB; obtain ⟨HO150, HO153, HB⟩ := n_; (try clear hb); (try clear ho0); obtain ⟨Ao13, co13, rfl⟩ := Kd.R_slice HO153.out) | ((with_reducible refine gate_callee (f := 133) rfl ?_); refine goesL_ (some 15) rfl rfl Tryz.func133 zK rfl #[.slice Ao13 t151.length co13] rfl zM ?_; (with_reducible refine (compose_All.calls k _ _ t151 t154 _ ?side1 ?side2 A9.out).mono ?_); (case side1 => exact zC (Kd.R_reads' HO153.out).2.2); (case side2 => exact (Kd.R_reads' HO153.out).2.1); rintro e w14 ⟨v155, rfl, ho0, hb⟩; refine ⟨_, rfl, ?_⟩; have n_ := zI (aM (Kd.R_elder' (zR HO150) (Kd.R_base ho0) hb)) (zI (aM (Kd.R_elder' (zR HO153) (Kd.R_base ho0) hb)) (zI (aM (Kd.R_lower (Kd.R_new' (Kd.R_new' ho0 (Kd.R_lt (zR HO150))) (Kd.R_lt (zR HO153))) (below_size zB))) (aM (below_step zB hb)))); clear HO150 HO153 HB; obtain ⟨HO150, HO153, HO156, HB⟩ := n_; (try clear hb); (try clear ho0)))
  go_ret
  exact ⟨_, zE, by (with_reducible repeat (first | apply Kd.R_alloc | apply Kd.R_drewN | apply Kd.R_drew)); exact Kd.R_mono HO156.out (fun _ hk => trivial), zB⟩

/-! ### guard_Fit: function 136 -/
def guard_Fit.f (k : Nat) (a0 : Int) : Option (Bool) := (chars_Is.f k a0 (([0, 7] : List Int))).bind fun t160 => (some (!t160))
theorem guard_Fit.mono : ∀ a0 k, LeO (guard_Fit.f k a0) (guard_Fit.f (k + 1) a0) := by
 intro a0 k
 unfold guard_Fit.f
 repeat' first
   | (with_reducible exact chars_Is.mono _ _ _)
   | (with_reducible exact LeO.refl _)
   | exact chars_Is.mono _ _ _
   | exact LeO.none _
   | refine LeO.ite ?_ ?_
   | refine LeO.bind ?_ (fun _ => ?_)
set_option maxHeartbeats 8000000 in
set_option maxRecDepth 100000 in
theorem guard_Fit.calls (k : Nat) (a0 : Int) (r : Bool) (w : World) (h : guard_Fit.f k a0 = some r) :
  Calls Tryz.prog 136 #[.int .i32 a0] w fun e w' => e = .returned (.bool r) ∧ Below w.heap.size w w' := by
 have HB := aM (Below.refl w.heap.size w)
 have H := h
 clear h
 unfold guard_Fit.f at H
 obtain ⟨y157, hy157⟩ : ∃ y_ : List Int, y_ = (([0, 7] : List Int)) := ⟨_, rfl⟩
 replace H : ((chars_Is.f k a0 y157).bind fun t160 => (some (!t160))) = some r := zY hy157 H
 have Ny157 := aM hy157
 clear hy157
 obtain ⟨t160, A2, H⟩ := zO H
 obtain rfl := sI H
 go_enter Tryz.func136, Tryz.ntmps136
 go_wp2_with (first | ((with_reducible refine gate_dst (N := 4) rfl ?_); refine Kd.R_lit (Kd.int .i64) _ 3 ?hg (N := 4) ?hd (xs := ([0, 7] : List Int)) (inner := [.int .i64 0, .int .i64 7]) (ok := fun _ => True) (okp := fun _ => True) ?hr ?hp (fun _ hk => hk) trivial (Below.refl _ _) (Nat.le_refl _) (by simp) ?_; (case hd => rfl); (case hg => rfl); (case hr => first | (go_simp; done) | (go_simp; rfl)); (case hp => exact (Reps.one (show Kd.M (Kd.int .i64) _ _ _ 0 [.int .i64 0] from rfl) (Reps.one (show Kd.M (Kd.int .i64) _ _ _ 7 [.int .i64 7] from rfl) (Reps.none _ _)))); intro v158 w3 ho4 hb hg_ hnew_; clear hg_ hnew_; (first | rw [← Ny157.out] at ho4 | (simp only [Int.reduceToNat] at ho4; rw [← Ny157.out] at ho4)); have n_ := zI (aM (Kd.R_lower ho4 (below_size zB))) (aM (below_step zB hb)); clear HB; obtain ⟨HO159, HB⟩ := n_; clear hb ho4; obtain ⟨Ao5, co5, rfl⟩ := Kd.R_slice HO159.out) | ((with_reducible refine gate_callee (f := 128) rfl ?_); refine goesL_ (some 5) rfl rfl Tryz.func128 zK rfl #[.int .i32 a0, .slice Ao5 y157.length co5] rfl zM ?_; (with_reducible refine (chars_Is.calls k a0 _ _ y157 t160 _ ?side1 ?side2 A2.out).mono ?_); (case side1 => exact zC (Kd.R_reads' HO159.out).2.2); (case side2 => exact (Kd.R_reads' HO159.out).2.1); rintro e w' ⟨rfl, ⟨nd, rfl⟩⟩; refine ⟨_, rfl, ?_⟩))
 go_ret
 exact ⟨zE, zB⟩

/-! ### guard_first_rune_guard_Fit: function 274 -/
def guard_first_rune_guard_Fit.l0 : Nat → List Int → List Int → Int → Int → Option (Int)
 | 0, _, _, _, _ => none
 | k + 1, x0, x7, x8, x9 => if x9 < x8 then (if 0 ≤ x9 then (if x9 < (x7.length : Int) then ((guard_Fit.f k (rd x7 x9)).bind fun t162 => (if t162 = true then (guard_first_rune_guard_Fit.l0 k x0 x7 x8 (wrap64 (x9 + 1))) else (some x9))) else (none)) else (none)) else (some (x0.length : Int))
def guard_first_rune_guard_Fit.f (k : Nat) (l0 : List Int) (a1 : Int) : Option (Int) := guard_first_rune_guard_Fit.l0 k l0 l0 (l0.length : Int) 0
theorem guard_first_rune_guard_Fit.mono_l : ∀ k, (∀ y0 y1 y2 y3, LeO (guard_first_rune_guard_Fit.l0 k y0 y1 y2 y3) (guard_first_rune_guard_Fit.l0 (k + 1) y0 y1 y2 y3))
 | 0 => fun _ _ _ _ r h => by simp [guard_first_rune_guard_Fit.l0] at h
 | k + 1 => by
  have ih0 := guard_first_rune_guard_Fit.mono_l k
  ·intro y0 y1 y2 y3
   unfold guard_first_rune_guard_Fit.l0
   repeat' first
   | (with_reducible exact ih0 _ _ _ _)
   | (with_reducible exact guard_Fit.mono _ _)
   | (with_reducible exact LeO.refl _)
   | exact ih0 _ _ _ _
   | exact guard_Fit.mono _ _
   | exact LeO.none _
   | refine LeO.ite ?_ ?_
   | refine LeO.bind ?_ (fun _ => ?_)
theorem guard_first_rune_guard_Fit.mono : ∀ a0 a1 k, LeO (guard_first_rune_guard_Fit.f k a0 a1) (guard_first_rune_guard_Fit.f (k + 1) a0 a1) := by
 intro a0 a1 k
 have ih0 := guard_first_rune_guard_Fit.mono_l k
 unfold guard_first_rune_guard_Fit.f
 repeat' first
   | (with_reducible exact ih0 _ _ _ _)
   | (with_reducible exact guard_Fit.mono _ _)
   | (with_reducible exact LeO.refl _)
   | exact ih0 _ _ _ _
   | exact guard_Fit.mono _ _
   | exact LeO.none _
   | refine LeO.ite ?_ ?_
   | refine LeO.bind ?_ (fun _ => ?_)
set_option maxHeartbeats 8000000 in
set_option maxRecDepth 100000 in
theorem guard_first_rune_guard_Fit.calls (k : Nat) (A0 : Option Addr) (c0 : Nat) (l0 : List Int) (a1 : Int) (r : Int) (w : World) (hr0 : Kd.C (Kd.int .i32) w A0 l0.length l0) (hc0 : l0.length ≤ c0) (h : guard_first_rune_guard_Fit.f k l0 a1 = some r) :
  Calls Tryz.prog 135 #[.slice A0 l0.length c0, .func (.func 136) #[] #[]] w fun e w' => e = .returned (.int .i64 r) ∧ Below w.heap.size w w' := by
 have HR0 := aM hr0
 have HC0 := aM hc0
 clear hr0 hc0
 have HB := aM (Below.refl w.heap.size w)
 have H := h
 clear h
 unfold guard_first_rune_guard_Fit.f at H
 have H' := aM H
 clear H
 go_enter Tryz.func135, Tryz.ntmps135
 go_wp2
 go_loopg [9] k (fun kq v9 w' => ∃ (x9_1 : Int), v9 = .int .i64 x9_1 ∧ Aside0 (guard_first_rune_guard_Fit.l0 kq l0 l0 (l0.length : Int) x9_1 = some r) ∧ Aside0 (kq ≤ k) ∧ Aside0 (Below w.heap.size w w'))
 case atStart => exact ⟨(0), zP, H', ⟨Nat.le_refl _⟩, ⟨zB⟩⟩
 case round =>
  clear H'
  try clear c2
  try clear p2
  obtain ⟨x9_1, rfl, HA, HK1, HB⟩ := hrel
  cases gk with
  | zero => exact absurd HA.out (by simp [guard_first_rune_guard_Fit.l0])
  | succ k1 =>
   have H := HA.out
   clear HA
   simp only [guard_first_rune_guard_Fit.l0] at H
   by_cases c3 : x9_1 < (l0.length : Int)
   ·rw [if_pos c3] at H
    have c3b0 : decide (x9_1 < (l0.length : Int)) = true := decide_eq_true c3
    clear c3
    by_cases c4 : 0 ≤ x9_1
    ·rw [if_pos c4] at H
     have c4b0 : decide (0 ≤ x9_1) = true := decide_eq_true c4
     clear c4
     by_cases c5 : x9_1 < (l0.length : Int)
     ·rw [if_pos c5] at H
      have c5b0 : decide (x9_1 < (l0.length : Int)) = true := decide_eq_true c5
      clear c5
      obtain ⟨t162, A6, H⟩ := zO H
      by_cases c7 : t162 = true
      ·subst c7
       rw [if_pos rfl] at H
       have H' := aM H
       clear H
       have p161 : 0 ≤ (x9_1 : Int) := zoA
       have q161 : x9_1 < (l0.length : Int) := zoA
       obtain ⟨ad161, e161, hx161_0⟩ := Kd.at_int HR0.out x9_1 p161 q161
       cases e161
       replace hx161_0 := (HB.out.cell (World.block_lt_of_cell? w _ hx161_0)).trans hx161_0
       replace p161 := eq_true p161
       replace q161 := eq_true q161
       go_wp2_with (first | ((with_reducible refine gate_tmp (x := 14) rfl ?_); refine goesLT_ (some 16) (x := 14) rfl rfl rfl Tryz.func136 zK rfl #[.int .i32 (rd l0 x9_1)] rfl zM ?_; (with_reducible refine (guard_Fit.calls k1 (rd l0 x9_1) true _ A6.out).mono ?_); rintro e w8 ⟨rfl, hb⟩; refine ⟨_, rfl, ?_⟩; replace HB := aM (below_step zB hb); (try clear hb)))
       go_roundg k1
       case measure => have := HK1.out; omega
       case rel => exact ⟨(wrap64 (x9_1 + 1)), zP, H', ⟨by have := HK1.out; omega⟩, ⟨zB⟩⟩
      ·replace c7 := Bool.eq_false_iff.mpr c7
       subst c7
       rw [if_neg (show ¬ (false = true) by decide)] at H
       obtain rfl := sI H
       have p161 : 0 ≤ (x9_1 : Int) := zoA
       have q161 : x9_1 < (l0.length : Int) := zoA
       obtain ⟨ad161, e161, hx161_0⟩ := Kd.at_int HR0.out x9_1 p161 q161
       cases e161
       replace hx161_0 := (HB.out.cell (World.block_lt_of_cell? w _ hx161_0)).trans hx161_0
       replace p161 := eq_true p161
       replace q161 := eq_true q161
       go_wp2_with (first | ((with_reducible refine gate_tmp (x := 14) rfl ?_); refine goesLT_ (some 16) (x := 14) rfl rfl rfl Tryz.func136 zK rfl #[.int .i32 (rd l0 x9_1)] rfl zM ?_; (with_reducible refine (guard_Fit.calls k1 (rd l0 x9_1) false _ A6.out).mono ?_); rintro e w9 ⟨rfl, hb⟩; refine ⟨_, rfl, ?_⟩; replace HB := aM (below_step zB hb); (try clear hb)))
       go_ret
       exact ⟨zE, zB⟩
     ·rw [if_neg c5] at H
      exact absurd H (by simp)
    ·rw [if_neg c4] at H
     exact absurd H (by simp)
   ·rw [if_neg c3] at H
    have c3b0 : decide (x9_1 < (l0.length : Int)) = false := decide_eq_false c3
    clear c3
    obtain rfl := sI H
    go_wp2
    go_ret
    exact ⟨zE, zB⟩

/-! ### guard_Check: function 86 -/
def guard_Check.f (k : Nat) (l0 : List Int) : Option (Int × Int) := (guard_first_rune_guard_Fit.f k l0 7770136).bind fun t163 => (if t163 < (l0.length : Int) then (some (t163, 30)) else (some (t163, 0)))
theorem guard_Check.mono : ∀ a0 k, LeO (guard_Check.f k a0) (guard_Check.f (k + 1) a0) := by
 intro a0 k
 unfold guard_Check.f
 repeat' first
   | (with_reducible exact guard_first_rune_guard_Fit.mono _ _ _)
   | (with_reducible exact LeO.refl _)
   | exact guard_first_rune_guard_Fit.mono _ _ _
   | exact LeO.none _
   | refine LeO.ite ?_ ?_
   | refine LeO.bind ?_ (fun _ => ?_)
set_option maxHeartbeats 8000000 in
set_option maxRecDepth 100000 in
theorem guard_Check.calls (k : Nat) (A0 : Option Addr) (c0 : Nat) (l0 : List Int) (r1 : Int) (r2 : Int) (w : World) (hr0 : Kd.C (Kd.int .i32) w A0 l0.length l0) (hc0 : l0.length ≤ c0) (h : guard_Check.f k l0 = some (r1, r2)) :
  Calls Tryz.prog 86 #[.slice A0 l0.length c0] w fun e w' => e = .returned (.tuple #[.int .i64 r1, .int .i64 r2]) ∧ Below w.heap.size w w' := by
 have HR0 := aM hr0
 have HC0 := aM hc0
 clear hr0 hc0
 have HB := aM (Below.refl w.heap.size w)
 have H := h
 clear h
 unfold guard_Check.f at H
 obtain ⟨t163, A2, H⟩ := zO H
 by_cases c3 : t163 < (l0.length : Int)
 ·rw [if_pos c3] at H
  have c3b0 : decide (t163 < (l0.length : Int)) = true := decide_eq_true c3
  clear c3
  simp only [Option.some.injEq, Prod.mk.injEq] at H
  obtain ⟨rfl, rfl⟩ := H
  go_enter Tryz.func86, Tryz.ntmps86
  go_wp2_with (first | ((with_reducible refine gate_callee (f := 135) rfl ?_); refine goesL_ (some 6) rfl rfl Tryz.func135 zK rfl #[.slice A0 l0.length c0, .func (.func 136) #[] #[]] rfl zM ?_; (with_reducible refine (guard_first_rune_guard_Fit.calls k _ _ l0 7770136 t163 _ ?side1 ?side2 A2.out).mono ?_); (case side1 => exact zC HR0.out); (case side2 => exact HC0.out); rintro e w4 ⟨rfl, hb⟩; refine ⟨_, rfl, ?_⟩; replace HB := aM (below_step zB hb); (try clear hb)))
  go_ret2
  exact ⟨zE, zB⟩
 ·rw [if_neg c3] at H
  have c3b0 : decide (t163 < (l0.length : Int)) = false := decide_eq_false c3
  clear c3
  simp only [Option.some.injEq, Prod.mk.injEq] at H
  obtain ⟨rfl, rfl⟩ := H
  go_enter Tryz.func86, Tryz.ntmps86
  go_wp2_with (first | ((with_reducible refine gate_callee (f := 135) rfl ?_); refine goesL_ (some 6) rfl rfl Tryz.func135 zK rfl #[.slice A0 l0.length c0, .func (.func 136) #[] #[]] rfl zM ?_; (with_reducible refine (guard_first_rune_guard_Fit.calls k _ _ l0 7770136 t163 _ ?side1 ?side2 A2.out).mono ?_); (case side1 => exact zC HR0.out); (case side2 => exact HC0.out); rintro e w5 ⟨rfl, hb⟩; refine ⟨_, rfl, ?_⟩; replace HB := aM (below_step zB hb); (try clear hb)))
  go_ret2
  exact ⟨zE, zB⟩

/-! ### blanks_bare: function 182 -/
def blanks_bare.f (k : Nat) (l0 : List Int) (a1 : Int) : Option (Bool) := if (wrap64 (a1 + 1)) = (l0.length : Int) then (some true) else (if 0 ≤ (wrap64 (a1 + 1)) then (if (wrap64 (a1 + 1)) < (l0.length : Int) then ((chars_Is.f k (rd l0 (wrap64 (a1 + 1))) (([3] : List Int))).bind fun t168 => (some (!t168))) else (none)) else (none))
theorem blanks_bare.mono : ∀ a0 a1 k, LeO (blanks_bare.f k a0 a1) (blanks_bare.f (k + 1) a0 a1) := by
 intro a0 a1 k
 unfold blanks_bare.f
 repeat' first
   | (with_reducible exact chars_Is.mono _ _ _)
   | (with_reducible exact LeO.refl _)
   | exact chars_Is.mono _ _ _
   | exact LeO.none _
   | refine LeO.ite ?_ ?_
   | refine LeO.bind ?_ (fun _ => ?_)
set_option maxHeartbeats 8000000 in
set_option maxRecDepth 100000 in
theorem blanks_bare.calls (k : Nat) (A0 : Option Addr) (c0 : Nat) (l0 : List Int) (a1 : Int) (r : Bool) (w : World) (hr0 : Kd.C (Kd.int .i32) w A0 l0.length l0) (hc0 : l0.length ≤ c0) (h : blanks_bare.f k l0 a1 = some r) :
  Calls Tryz.prog 182 #[.slice A0 l0.length c0, .int .i64 a1] w fun e w' => e = .returned (.bool r) ∧ Below w.heap.size w w' := by
 have HR0 := aM hr0
 have HC0 := aM hc0
 clear hr0 hc0
 have HB := aM (Below.refl w.heap.size w)
 have H := h
 clear h
 unfold blanks_bare.f at H
 by_cases c3 : (wrap64 (a1 + 1)) = (l0.length : Int)
 ·rw [if_pos c3] at H
  have c3b0 : ((wrap64 (a1 + 1)) == (l0.length : Int)) = true := beq_iff_eq.mpr c3
  have c3b1 : ((wrap64 (a1 + 1)) != (l0.length : Int)) = false := bne_eq_false_iff_eq.mpr c3
  clear c3
  obtain rfl := sI H
  go_enter Tryz.func182, Tryz.ntmps182
  go_wp2
  go_ret
  exact ⟨zE, zB⟩
 ·rw [if_neg c3] at H
  have c3b0 : ((wrap64 (a1 + 1)) == (l0.length : Int)) = false := beq_eq_false_iff_ne.mpr c3
  have c3b1 : ((wrap64 (a1 + 1)) != (l0.length : Int)) = true := bne_iff_ne.mpr c3
  obtain ⟨ji4, hji4⟩ : ∃ j_ : Int, (wrap64 (a1 + 1)) = j_ := ⟨_, rfl⟩
  replace H : (if 0 ≤ (ji4) then (if (ji4) < (l0.length : Int) then ((chars_Is.f k (rd l0 (ji4)) (([3] : List Int))).bind fun t168 => (some (!t168))) else (none)) else (none)) = some r := by first | (rw [hji4] at H; exact H) | (simp only [hji4] at H ⊢; exact H)
  (try rw [hji4] at c3b0)
  (try rw [hji4] at c3b1)
  have hji4w : (IntKind.i64.wrap (a1 + 1)) = ji4 := (i64_w _).trans hji4
  by_cases c5 : 0 ≤ (ji4)
  ·rw [if_pos c5] at H
   have c5b0 : decide (0 ≤ (ji4)) = true := decide_eq_true c5
   clear c5
   by_cases c6 : (ji4) < (l0.length : Int)
   ·rw [if_pos c6] at H
    have c6b0 : decide ((ji4) < (l0.length : Int)) = true := decide_eq_true c6
    clear c6
    obtain ⟨y165, hy165⟩ : ∃ y_ : List Int, y_ = (([3] : List Int)) := ⟨_, rfl⟩
    replace H : ((chars_Is.f k (rd l0 (ji4)) y165).bind fun t168 => (some (!t168))) = some r := zY hy165 H
    have Ny165 := aM hy165
    clear hy165
    obtain ⟨t168, A7, H⟩ := zO H
    obtain rfl := sI H
    have p164 : 0 ≤ ((ji4) : Int) := zoA
    have q164 : (ji4) < (l0.length : Int) := zoA
    obtain ⟨ad164, e164, hx164_0⟩ := Kd.at_int HR0.out (ji4) p164 q164
    cases e164
    replace p164 := eq_true p164
    replace q164 := eq_true q164
    go_enter Tryz.func182, Tryz.ntmps182
    go_wp2_with (first | ((with_reducible refine gate_dst (N := 16) rfl ?_); (try (refine gate_guard (by rfl) ?_; dsimp only)); refine Kd.R_lit (Kd.int .i64) _ 3 ?hg (N := 16) ?hd (xs := ([3] : List Int)) (inner := [.int .i64 3]) (ok := fun _ => True) (okp := fun _ => True) ?hr ?hp (fun _ hk => hk) trivial (Below.refl _ _) (Nat.le_refl _) (by simp) ?_; (case hd => rfl); (case hg => rfl); (case hr => first | (go_simp; done) | (go_simp; rfl)); (case hp => exact (Reps.one (show Kd.M (Kd.int .i64) _ _ _ 3 [.int .i64 3] from rfl) (Reps.none _ _))); intro v166 w8 ho9 hb hg_ hnew_; clear hg_ hnew_; (first | rw [← Ny165.out] at ho9 | (simp only [Int.reduceToNat] at ho9; rw [← Ny165.out] at ho9)); have n_ := zI (aM (Kd.R_lower ho9 (below_size zB))) (aM (below_step zB hb)); clear HB; obtain ⟨HO167, HB⟩ := n_; clear hb ho9; obtain ⟨Ao10, co10, rfl⟩ := Kd.R_slice HO167.out) | (go_at_call 128; (with_reducible refine (chars_Is.calls k (rd l0 (ji4)) _ _ y165 t168 _ ?side1 ?side2 A7.out).mono ?_); (case side1 => exact zC (Kd.R_reads' HO167.out).2.2); (case side2 => exact (Kd.R_reads' HO167.out).2.1); rintro e w' ⟨rfl, ⟨nd, rfl⟩⟩))
    go_ret
    exact ⟨by first | rfl | (simp [errW_none, errW_some] <;> rfl) | (simp only [← hji4]; first | rfl | (simp [errW_none, errW_some] <;> rfl)) | (simp [*, errW_none, errW_some] <;> rfl), zB⟩
   ·rw [if_neg c6] at H
    exact absurd H (by simp)
  ·rw [if_neg c5] at H
   exact absurd H (by simp)

/-! ### blanks_Space: function 138 -/
def blanks_Space.f (k : Nat) (l0 : List Int) (a1 : Int) : Option (Bool) := if a1 ≥ 0 then (if a1 < (l0.length : Int) then (if 0 ≤ a1 then (if (rd l0 a1) = 32 then ((blanks_bare.f k l0 a1).bind fun t170 => (some t170)) else (some false)) else (none)) else (some false)) else (some false)
theorem blanks_Space.mono : ∀ a0 a1 k, LeO (blanks_Space.f k a0 a1) (blanks_Space.f (k + 1) a0 a1) := by
 intro a0 a1 k
 unfold blanks_Space.f
 repeat' first
   | (with_reducible exact blanks_bare.mono _ _ _)
   | (with_reducible exact LeO.refl _)
   | exact blanks_bare.mono _ _ _
   | exact LeO.none _
   | refine LeO.ite ?_ ?_
   | refine LeO.bind ?_ (fun _ => ?_)
set_option maxHeartbeats 8000000 in
set_option maxRecDepth 100000 in
theorem blanks_Space.calls (k : Nat) (A0 : Option Addr) (c0 : Nat) (l0 : List Int) (a1 : Int) (r : Bool) (w : World) (hr0 : Kd.C (Kd.int .i32) w A0 l0.length l0) (hc0 : l0.length ≤ c0) (h : blanks_Space.f k l0 a1 = some r) :
  Calls Tryz.prog 138 #[.slice A0 l0.length c0, .int .i64 a1] w fun e w' => e = .returned (.bool r) ∧ Below w.heap.size w w' := by
 have HR0 := aM hr0
 have HC0 := aM hc0
 clear hr0 hc0
 have HB := aM (Below.refl w.heap.size w)
 have H := h
 clear h
 unfold blanks_Space.f at H
 by_cases c3 : a1 ≥ 0
 ·rw [if_pos c3] at H
  have c3b0 : decide (0 ≤ a1) = true := decide_eq_true c3
  clear c3
  by_cases c4 : a1 < (l0.length : Int)
  ·rw [if_pos c4] at H
   have c4b0 : decide (a1 < (l0.length : Int)) = true := decide_eq_true c4
   clear c4
   by_cases c5 : 0 ≤ a1
   ·rw [if_pos c5] at H
    have c5b0 : decide (0 ≤ a1) = true := decide_eq_true c5
    clear c5
    by_cases c6 : (rd l0 a1) = 32
    ·rw [if_pos c6] at H
     have c6b0 : ((rd l0 a1) == 32) = true := beq_iff_eq.mpr c6
     have c6b1 : ((rd l0 a1) != 32) = false := bne_eq_false_iff_eq.mpr c6
     clear c6
     obtain ⟨t170, A7, H⟩ := zO H
     obtain rfl := sI H
     have p169 : 0 ≤ (a1 : Int) := zoA
     have q169 : a1 < (l0.length : Int) := zoA
     obtain ⟨ad169, e169, hx169_0⟩ := Kd.at_int HR0.out a1 p169 q169
     cases e169
     replace p169 := eq_true p169
     replace q169 := eq_true q169
     go_enter Tryz.func138, Tryz.ntmps138
     go_wp2_with (first | (go_at_call 182; (with_reducible refine (blanks_bare.calls k _ _ l0 a1 t170 _ ?side1 ?side2 A7.out).mono ?_); (case side1 => exact zC HR0.out); (case side2 => exact HC0.out); rintro e w8 ⟨rfl, hb⟩; replace HB := aM (below_step zB hb); (try clear hb)))
     go_ret
     exact ⟨zE, zB⟩
    ·rw [if_neg c6] at H
     have c6b0 : ((rd l0 a1) == 32) = false := beq_eq_false_iff_ne.mpr c6
     have c6b1 : ((rd l0 a1) != 32) = true := bne_iff_ne.mpr c6
     obtain rfl := sI H
     have p169 : 0 ≤ (a1 : Int) := zoA
     have q169 : a1 < (l0.length : Int) := zoA
     obtain ⟨ad169, e169, hx169_0⟩ := Kd.at_int HR0.out a1 p169 q169
     cases e169
     replace p169 := eq_true p169
     replace q169 := eq_true q169
     go_enter Tryz.func138, Tryz.ntmps138
     go_wp2
     go_ret
     exact ⟨zE, zB⟩
   ·rw [if_neg c5] at H
    exact absurd H (by simp)
  ·rw [if_neg c4] at H
   have c4b0 : decide (a1 < (l0.length : Int)) = false := decide_eq_false c4
   clear c4
   obtain rfl := sI H
   go_enter Tryz.func138, Tryz.ntmps138
   go_wp2
   go_ret
   exact ⟨zE, zB⟩
 ·rw [if_neg c3] at H
  have c3b0 : decide (0 ≤ a1) = false := decide_eq_false c3
  clear c3
  obtain rfl := sI H
  go_enter Tryz.func138, Tryz.ntmps138
  go_wp2
  go_ret
  exact ⟨zE, zB⟩

/-! ### blanks_Numeric: function 87, by hand (stub.blanks.Numeric.tpl) -/
def blanks_Numeric.f (k : Nat) (l0 : List Int) : Option (List Int) := stubNone _
theorem blanks_Numeric.mono : ∀ a0 k, LeO (blanks_Numeric.f k a0) (blanks_Numeric.f (k + 1) a0) := fun _ _ => LeO.refl _
theorem blanks_Numeric.calls (k : Nat) (A0 : Option Addr) (c0 : Nat) (l0 : List Int) (r : List Int) (w : World) (hr0 : Kd.C (Kd.int .i32) w A0 l0.length l0) (hc0 : l0.length ≤ c0) (h : blanks_Numeric.f k l0 = some r) :
  Calls Tryz.prog 87 #[.slice A0 l0.length c0] w fun e w' => ∃ v0_ : Value, e = .returned (v0_) ∧ Kd.R (Kd.int .i32) 21 w' w.heap.size (fun _ => True) v0_ r ∧ Below w.heap.size w w' := by
  cases (stubNone_eq _).symm.trans h

/-! ### blanks_Phone: function 88, by hand (stub.blanks.Phone.tpl) -/
def blanks_Phone.f (k : Nat) (l0 : List Int) : Option (List Int) := stubNone _
theorem blanks_Phone.mono : ∀ a0 k, LeO (blanks_Phone.f k a0) (blanks_Phone.f (k + 1) a0) := fun _ _ => LeO.refl _
theorem blanks_Phone.calls (k : Nat) (A0 : Option Addr) (c0 : Nat) (l0 : List Int) (r : List Int) (w : World) (hr0 : Kd.C (Kd.int .i32) w A0 l0.length l0) (hc0 : l0.length ≤ c0) (h : blanks_Phone.f k l0 = some r) :
  Calls Tryz.prog 88 #[.slice A0 l0.length c0] w fun e w' => ∃ v0_ : Value, e = .returned (v0_) ∧ Kd.R (Kd.int .i32) 21 w' w.heap.size (fun _ => True) v0_ r ∧ Below w.heap.size w w' := by
  cases (stubNone_eq _).symm.trans h

/-! ### blanks_edged: function 141 -/
def blanks_edged.f (l0 : List Int) (a1 : Bool) (a2 : Bool) : Option (List Int) := if a1 = true then (if ([] : List Int).length < 35184372088832 then ((some (([] : List Int) ++ [32] : List Int)).bind fun y171 => (if y171.length + l0.length < 35184372088832 then ((some (y171 ++ l0 : List Int)).bind fun y174 => (if a2 = true then (if y174.length < 35184372088832 then (some (y174 ++ [32])) else (none)) else (some y174))) else (none))) else (none)) else (if ([] : List Int).length + l0.length < 35184372088832 then ((some (([] : List Int) ++ l0 : List Int)).bind fun y180 => (if a2 = true then (if y180.length < 35184372088832 then (some (y180 ++ [32])) else (none)) else (some y180))) else (none))
set_option maxHeartbeats 8000000 in
set_option maxRecDepth 100000 in
theorem blanks_edged.calls (A0 : Option Addr) (c0 : Nat) (l0 : List Int) (a1 : Bool) (a2 : Bool) (r : List Int) (w : World) (hr0 : Kd.C (Kd.int .i32) w A0 l0.length l0) (hc0 : l0.length ≤ c0) (h : blanks_edged.f l0 a1 a2 = some r) :
  Calls Tryz.prog 141 #[.slice A0 l0.length c0, .bool a1, .bool a2] w fun e w' => ∃ v0_ : Value, e = .returned (v0_) ∧ Kd.R (Kd.int .i32) 21 w' w.heap.size (fun _ => True) v0_ r ∧ Below w.heap.size w w' := by
 have HR0 := aM hr0
 have HC0 := aM hc0
 clear hr0 hc0
 have HB := aM (Below.refl w.heap.size w)
 have H := h
 clear h
 unfold blanks_edged.f at H
 by_cases c4 : a1 = true
 ·subst c4
  rw [if_pos rfl] at H
  by_cases c5 : ([] : List Int).length < 35184372088832
  ·rw [if_pos c5] at H
   have LMc5 := aM c5
   clear c5
   obtain ⟨y171, hy171⟩ : ∃ y_ : List Int, y_ = (([] : List Int) ++ [32]) := ⟨_, rfl⟩
   replace H : (if y171.length + l0.length < 35184372088832 then ((some (y171 ++ l0 : List Int)).bind fun y174 => (if a2 = true then (if y174.length < 35184372088832 then (some (y174 ++ [32])) else (none)) else (some y174))) else (none)) = some r := zY hy171 H
   have Ny171 := aM hy171
   clear hy171
   by_cases c6 : y171.length + l0.length < 35184372088832
   ·rw [if_pos c6] at H
    have LMc6 := aM c6
    clear c6
    obtain ⟨y174, hy174⟩ : ∃ y_ : List Int, y_ = (y171 ++ l0) := ⟨_, rfl⟩
    replace H : (if a2 = true then (if y174.length < 35184372088832 then (some (y174 ++ [32])) else (none)) else (some y174)) = some r := zY hy174 H
    have Ny174 := aM hy174
    clear hy174
    by_cases c7 : a2 = true
    ·subst c7
     rw [if_pos rfl] at H
     by_cases c8 : y174.length < 35184372088832
     ·rw [if_pos c8] at H
      have LMc8 := aM c8
      clear c8
      obtain ⟨y177, hy177⟩ : ∃ y_ : List Int, y_ = (y174 ++ [32]) := ⟨_, rfl⟩
      replace H : (some y177) = some r := zY hy177 H
      have Ny177 := aM hy177
      clear hy177
      obtain rfl := sI H
      go_enter Tryz.func141, Tryz.ntmps141
      go_wp2_with (first | ((with_reducible refine gate_builtin (b := .append) (xs := #[.tmp 9, .tmp 10]) rfl ?_); at_builtin; refine Kd.R_append (Kd.int .i32) (w0 := w) w.heap.size rfl (.tmp 9) (.tmp 10) 65 21 (.int .i32 0) 4 rfl Tryz.underlying65 info21 rfl (by decide) (by omega) (.slice none 0 0) ([] : List Int) 32 [.int .i32 32] (fun _ => True) (fun _ => False) rfl rfl ?aP (fun _ hk => hk.elim) ?aF ?aO ?aB ?aS ?aL ?_; (case aP => exact rfl); (case aB => exact zB); (case aF => exact (fun _ _ => trivial)); (case aO => exact ((Kd.R_nil _ _ _ _ (fun _ => True)))); (case aS => exact (below_size zB)); (case aL => have := LMc5.out; omega); intro v172 w9 ho hb hg hat; rw [← Ny171.out] at ho; have n_ := zI (aM (hb)) (aM (ho)); clear HB; obtain ⟨HB, HO173⟩ := n_; clear ho hb hg hat) | ((with_reducible refine gate_builtin (b := .append) (xs := #[.tmp 12, .tmp 13]) rfl ?_); at_builtin; refine Kd.R_append_rows (Kd.int .i32) (w0 := w) w.heap.size rfl (.tmp 12) (.tmp 13) 65 21 (.int .i32 0) 4 rfl Tryz.underlying65 info21 rfl (by decide) (by omega) v172 y171 l0 _ _ _ (fun _ => True) (fun _ => False) rfl rfl ?aO ?aR (fun _ _ h => h) (fun _ h => h.elim) ?aF ?aB ?aS ?aL ?_; (case aR => repeat (first | exact (Kd.C_below HR0.out HB.out) | (with_reducible refine Kd.C_alloc ?_ _) | (with_reducible refine Kd.C_drewN ?_ _) | (with_reducible refine Kd.C_drew ?_))); (case aB => exact zB); (case aF => exact (fun _ _ => trivial)); (case aO => exact (zR HO173)); (case aS => exact (below_size zB)); (case aL => have := LMc6.out; omega); intro v175 w10 ho hb hg hat; rw [← Ny174.out] at ho; have n_ := zI (aM (hb)) (aM (ho)); clear HB HO173; obtain ⟨HB, HO176⟩ := n_; clear ho hb hg hat) | ((with_reducible refine gate_builtin (b := .append) (xs := #[.tmp 16, .tmp 17]) rfl ?_); at_builtin; refine Kd.R_append (Kd.int .i32) (w0 := w) w.heap.size rfl (.tmp 16) (.tmp 17) 65 21 (.int .i32 0) 4 rfl Tryz.underlying65 info21 rfl (by decide) (by omega) v175 y174 32 [.int .i32 32] (fun _ => True) (fun _ => False) rfl rfl ?aP (fun _ hk => hk.elim) ?aF ?aO ?aB ?aS ?aL ?_; (case aP => exact rfl); (case aB => exact zB); (case aF => exact (fun _ _ => trivial)); (case aO => exact (zR HO176)); (case aS => exact (below_size zB)); (case aL => have := LMc8.out; omega); intro v178 w11 ho hb hg hat; rw [← Ny177.out] at ho; have n_ := zI (aM (hb)) (aM (ho)); clear HB HO176; obtain ⟨HB, HO179⟩ := n_; clear ho hb hg hat))
      go_ret
      exact ⟨_, zE, zR HO179, zB⟩
     ·rw [if_neg c8] at H
      exact absurd H (by simp)
    ·replace c7 := Bool.eq_false_iff.mpr c7
     subst c7
     rw [if_neg (show ¬ (false = true) by decide)] at H
     obtain rfl := sI H
     go_enter Tryz.func141, Tryz.ntmps141
     go_wp2_with (first | ((with_reducible refine gate_builtin (b := .append) (xs := #[.tmp 9, .tmp 10]) rfl ?_); at_builtin; refine Kd.R_append (Kd.int .i32) (w0 := w) w.heap.size rfl (.tmp 9) (.tmp 10) 65 21 (.int .i32 0) 4 rfl Tryz.underlying65 info21 rfl (by decide) (by omega) (.slice none 0 0) ([] : List Int) 32 [.int .i32 32] (fun _ => True) (fun _ => False) rfl rfl ?aP (fun _ hk => hk.elim) ?aF ?aO ?aB ?aS ?aL ?_; (case aP => exact rfl); (case aB => exact zB); (case aF => exact (fun _ _ => trivial)); (case aO => exact ((Kd.R_nil _ _ _ _ (fun _ => True)))); (case aS => exact (below_size zB)); (case aL => have := LMc5.out; omega); intro v172 w12 ho hb hg hat; rw [← Ny171.out] at ho; have n_ := zI (aM (hb)) (aM (ho)); clear HB; obtain ⟨HB, HO173⟩ := n_; clear ho hb hg hat) | ((with_reducible refine gate_builtin (b := .append) (xs := #[.tmp 12, .tmp 13]) rfl ?_); at_builtin; refine Kd.R_append_rows (Kd.int .i32) (w0 := w) w.heap.size rfl (.tmp 12) (.tmp 13) 65 21 (.int .i32 0) 4 rfl Tryz.underlying65 info21 rfl (by decide) (by omega) v172 y171 l0 _ _ _ (fun _ => True) (fun _ => False) rfl rfl ?aO ?aR (fun _ _ h => h) (fun _ h => h.elim) ?aF ?aB ?aS ?aL ?_; (case aR => repeat (first | exact (Kd.C_below HR0.out HB.out) | (with_reducible refine Kd.C_alloc ?_ _) | (with_reducible refine Kd.C_drewN ?_ _) | (with_reducible refine Kd.C_drew ?_))); (case aB => exact zB); (case aF => exact (fun _ _ => trivial)); (case aO => exact (zR HO173)); (case aS => exact (below_size zB)); (case aL => have := LMc6.out; omega); intro v175 w13 ho hb hg hat; rw [← Ny174.out] at ho; have n_ := zI (aM (hb)) (aM (ho)); clear HB HO173; obtain ⟨HB, HO176⟩ := n_; clear ho hb hg hat))
     go_ret
     exact ⟨_, zE, zR HO176, zB⟩
   ·rw [if_neg c6] at H
    exact absurd H (by simp)
  ·rw [if_neg c5] at H
   exact absurd H (by simp)
 ·replace c4 := Bool.eq_false_iff.mpr c4
  subst c4
  rw [if_neg (show ¬ (false = true) by decide)] at H
  by_cases c14 : ([] : List Int).length + l0.length < 35184372088832
  ·rw [if_pos c14] at H
   have LMc14 := aM c14
   clear c14
   obtain ⟨y180, hy180⟩ : ∃ y_ : List Int, y_ = (([] : List Int) ++ l0) := ⟨_, rfl⟩
   replace H : (if a2 = true then (if y180.length < 35184372088832 then (some (y180 ++ [32])) else (none)) else (some y180)) = some r := zY hy180 H
   have Ny180 := aM hy180
   clear hy180
   by_cases c15 : a2 = true
   ·subst c15
    rw [if_pos rfl] at H
    by_cases c16 : y180.length < 35184372088832
    ·rw [if_pos c16] at H
     have LMc16 := aM c16
     clear c16
     obtain ⟨y183, hy183⟩ : ∃ y_ : List Int, y_ = (y180 ++ [32]) := ⟨_, rfl⟩
     replace H : (some y183) = some r := zY hy183 H
     have Ny183 := aM hy183
     clear hy183
     obtain rfl := sI H
     go_enter Tryz.func141, Tryz.ntmps141
     go_wp2_with (first | ((with_reducible refine gate_builtin (b := .append) (xs := #[.tmp 12, .tmp 13]) rfl ?_); at_builtin; refine Kd.R_append_rows (Kd.int .i32) (w0 := w) w.heap.size rfl (.tmp 12) (.tmp 13) 65 21 (.int .i32 0) 4 rfl Tryz.underlying65 info21 rfl (by decide) (by omega) (.slice none 0 0) ([] : List Int) l0 _ _ _ (fun _ => True) (fun _ => False) rfl rfl ?aO ?aR (fun _ _ h => h) (fun _ h => h.elim) ?aF ?aB ?aS ?aL ?_; (case aR => repeat (first | exact HR0.out | (with_reducible refine Kd.C_alloc ?_ _) | (with_reducible refine Kd.C_drewN ?_ _) | (with_reducible refine Kd.C_drew ?_))); (case aB => exact zB); (case aF => exact (fun _ _ => trivial)); (case aO => exact ((Kd.R_nil _ _ _ _ (fun _ => True)))); (case aS => exact (below_size zB)); (case aL => have := LMc14.out; omega); intro v181 w17 ho hb hg hat; rw [← Ny180.out] at ho; have n_ := zI (aM (hb)) (aM (ho)); clear HB; obtain ⟨HB, HO182⟩ := n_; clear ho hb hg hat) | ((with_reducible refine gate_builtin (b := .append) (xs := #[.tmp 16, .tmp 17]) rfl ?_); at_builtin; refine Kd.R_append (Kd.int .i32) (w0 := w) w.heap.size rfl (.tmp 16) (.tmp 17) 65 21 (.int .i32 0) 4 rfl Tryz.underlying65 info21 rfl (by decide) (by omega) v181 y180 32 [.int .i32 32] (fun _ => True) (fun _ => False) rfl rfl ?aP (fun _ hk => hk.elim) ?aF ?aO ?aB ?aS ?aL ?_; (case aP => exact rfl); (case aB => exact zB); (case aF => exact (fun _ _ => trivial)); (case aO => exact (zR HO182)); (case aS => exact (below_size zB)); (case aL => have := LMc16.out; omega); intro v184 w18 ho hb hg hat; rw [← Ny183.out] at ho; have n_ := zI (aM (hb)) (aM (ho)); clear HB HO182; obtain ⟨HB, HO185⟩ := n_; clear ho hb hg hat))
     go_ret
     exact ⟨_, zE, zR HO185, zB⟩
    ·rw [if_neg c16] at H
     exact absurd H (by simp)
   ·replace c15 := Bool.eq_false_iff.mpr c15
    subst c15
    rw [if_neg (show ¬ (false = true) by decide)] at H
    obtain rfl := sI H
    go_enter Tryz.func141, Tryz.ntmps141
    go_wp2_with (first | ((with_reducible refine gate_builtin (b := .append) (xs := #[.tmp 12, .tmp 13]) rfl ?_); at_builtin; refine Kd.R_append_rows (Kd.int .i32) (w0 := w) w.heap.size rfl (.tmp 12) (.tmp 13) 65 21 (.int .i32 0) 4 rfl Tryz.underlying65 info21 rfl (by decide) (by omega) (.slice none 0 0) ([] : List Int) l0 _ _ _ (fun _ => True) (fun _ => False) rfl rfl ?aO ?aR (fun _ _ h => h) (fun _ h => h.elim) ?aF ?aB ?aS ?aL ?_; (case aR => repeat (first | exact HR0.out | (with_reducible refine Kd.C_alloc ?_ _) | (with_reducible refine Kd.C_drewN ?_ _) | (with_reducible refine Kd.C_drew ?_))); (case aB => exact zB); (case aF => exact (fun _ _ => trivial)); (case aO => exact ((Kd.R_nil _ _ _ _ (fun _ => True)))); (case aS => exact (below_size zB)); (case aL => have := LMc14.out; omega); intro v181 w19 ho hb hg hat; rw [← Ny180.out] at ho; have n_ := zI (aM (hb)) (aM (ho)); clear HB; obtain ⟨HB, HO182⟩ := n_; clear ho hb hg hat))
    go_ret
    exact ⟨_, zE, zR HO182, zB⟩
  ·rw [if_neg c14] at H
   exact absurd H (by simp)

/-! ### blanks_joined: function 142 -/
def blanks_joined.l0 : Nat → List Int → List (List Int) → Int → Int → Option (List Int)
 | 0, _, _, _, _ => none
 | k + 1, x3, x6, x7, x8 => if x8 < x7 then (if 0 ≤ x8 then (if x8 < (x6.length : Int) then (if x8 > 0 then ((some (([32, 32] : List Int) : List Int)).bind fun y187 => (if x3.length + y187.length < 35184372088832 then ((some (x3 ++ y187 : List Int)).bind fun y190 => (if y190.length + (rd_L4 x6 x8).length < 35184372088832 then (blanks_joined.l0 k (y190 ++ (rd_L4 x6 x8)) x6 x7 (wrap64 (x8 + 1))) else (none))) else (none))) else (if x3.length + (rd_L4 x6 x8).length < 35184372088832 then (blanks_joined.l0 k (x3 ++ (rd_L4 x6 x8)) x6 x7 (wrap64 (x8 + 1))) else (none))) else (none)) else (none)) else (some x3)
def blanks_joined.f (k : Nat) (l0 : List (List Int)) : Option (List Int) := blanks_joined.l0 k ([] : List Int) l0 (l0.length : Int) 0
theorem blanks_joined.mono_l : ∀ k, (∀ y0 y1 y2 y3, LeO (blanks_joined.l0 k y0 y1 y2 y3) (blanks_joined.l0 (k + 1) y0 y1 y2 y3))
 | 0 => fun _ _ _ _ r h => by simp [blanks_joined.l0] at h
 | k + 1 => by
  have ih0 := blanks_joined.mono_l k
  ·intro y0 y1 y2 y3
   unfold blanks_joined.l0
   repeat' first
   | (with_reducible exact ih0 _ _ _ _)
   | (with_reducible exact LeO.refl _)
   | exact ih0 _ _ _ _
   | exact LeO.none _
   | refine LeO.ite ?_ ?_
   | refine LeO.bind ?_ (fun _ => ?_)
theorem blanks_joined.mono : ∀ a0 k, LeO (blanks_joined.f k a0) (blanks_joined.f (k + 1) a0) := by
 intro a0 k
 have ih0 := blanks_joined.mono_l k
 unfold blanks_joined.f
 repeat' first
   | (with_reducible exact ih0 _ _ _ _)
   | (with_reducible exact LeO.refl _)
   | exact ih0 _ _ _ _
   | exact LeO.none _
   | refine LeO.ite ?_ ?_
   | refine LeO.bind ?_ (fun _ => ?_)
set_option maxHeartbeats 8000000 in
set_option maxRecDepth 100000 in
theorem blanks_joined.calls (k : Nat) (A0 : Option Addr) (c0 : Nat) (l0 : List (List Int)) (r : List Int) (w : World) (hr0 : Kd.C (Kd.slice 21 (Kd.int .i32)) w A0 l0.length l0) (hc0 : l0.length ≤ c0) (h : blanks_joined.f k l0 = some r) :
  Calls Tryz.prog 142 #[.slice A0 l0.length c0] w fun e w' => ∃ v0_ : Value, e = .returned (v0_) ∧ Kd.R (Kd.int .i32) 21 w' w.heap.size (fun _ => True) v0_ r ∧ Below w.heap.size w w' := by
 have HR0 := aM hr0
 have HC0 := aM hc0
 clear hr0 hc0
 have HB := aM (Below.refl w.heap.size w)
 have H := h
 clear h
 unfold blanks_joined.f at H
 have H' := aM H
 clear H
 go_enter Tryz.func142, Tryz.ntmps142
 go_wp2
 go_loopg [3, 8] k (fun kq v3 v8 w' => ∃ (x3_1 : List Int) (x8_1 : Int), v8 = .int .i64 x8_1 ∧ Aside0 (blanks_joined.l0 kq x3_1 l0 (l0.length : Int) x8_1 = some r) ∧ Aside0 (kq ≤ k) ∧ Aside0 (Kd.R (Kd.int .i32) 21 w' w.heap.size (fun _ => True) v3 x3_1) ∧ Aside0 (Below w.heap.size w w'))
 case atStart => exact ⟨(([] : List Int)), (0), zP, H', ⟨Nat.le_refl _⟩, ⟨zL⟩, ⟨zB⟩⟩
 case round =>
  clear H'
  try clear c1
  obtain ⟨x3_1, x8_1, rfl, HA, HK1, HO_3, HB⟩ := hrel
  cases gk with
  | zero => exact absurd HA.out (by simp [blanks_joined.l0])
  | succ k1 =>
   have H := HA.out
   clear HA
   simp only [blanks_joined.l0] at H
   by_cases c2 : x8_1 < (l0.length : Int)
   ·rw [if_pos c2] at H
    have c2b0 : decide (x8_1 < (l0.length : Int)) = true := decide_eq_true c2
    clear c2
    by_cases c3 : 0 ≤ x8_1
    ·rw [if_pos c3] at H
     have c3b0 : decide (0 ≤ x8_1) = true := decide_eq_true c3
     clear c3
     by_cases c4 : x8_1 < (l0.length : Int)
     ·rw [if_pos c4] at H
      have c4b0 : decide (x8_1 < (l0.length : Int)) = true := decide_eq_true c4
      clear c4
      by_cases c5 : x8_1 > 0
      ·rw [if_pos c5] at H
       have c5b0 : decide (0 < x8_1) = true := decide_eq_true c5
       clear c5
       obtain ⟨y187, hy187⟩ : ∃ y_ : List Int, y_ = (([32, 32] : List Int)) := ⟨_, rfl⟩
       replace H : (if x3_1.length + y187.length < 35184372088832 then ((some (x3_1 ++ y187 : List Int)).bind fun y190 => (if y190.length + (rd_L4 l0 x8_1).length < 35184372088832 then (blanks_joined.l0 k1 (y190 ++ (rd_L4 l0 x8_1)) l0 (l0.length : Int) (wrap64 (x8_1 + 1))) else (none))) else (none)) = some r := zY hy187 H
       have Ny187 := aM hy187
       clear hy187
       by_cases c6 : x3_1.length + y187.length < 35184372088832
       ·rw [if_pos c6] at H
        have LMc6 := aM c6
        clear c6
        obtain ⟨y190, hy190⟩ : ∃ y_ : List Int, y_ = (x3_1 ++ y187) := ⟨_, rfl⟩
        replace H : (if y190.length + (rd_L4 l0 x8_1).length < 35184372088832 then (blanks_joined.l0 k1 (y190 ++ (rd_L4 l0 x8_1)) l0 (l0.length : Int) (wrap64 (x8_1 + 1))) else (none)) = some r := zY hy190 H
        have Ny190 := aM hy190
        clear hy190
        by_cases c7 : y190.length + (rd_L4 l0 x8_1).length < 35184372088832
        ·rw [if_pos c7] at H
         have LMc7 := aM c7
         clear c7
         obtain ⟨y193, hy193⟩ : ∃ y_ : List Int, y_ = (y190 ++ (rd_L4 l0 x8_1)) := ⟨_, rfl⟩
         replace H : (blanks_joined.l0 k1 y193 l0 (l0.length : Int) (wrap64 (x8_1 + 1))) = some r := zY hy193 H
         have Ny193 := aM hy193
         clear hy193
         have H' := aM H
         clear H
         have p186 : 0 ≤ (x8_1 : Int) := zoA
         have q186 : x8_1 < (l0.length : Int) := zoA
         obtain ⟨ad186, A186_0, c186_0, e186, hx186_0, hl186_0, hi186_0⟩ := at_L4 HR0.out x8_1 p186 q186
         cases e186
         replace hx186_0 := (HB.out.cell (World.block_lt_of_cell? w _ hx186_0)).trans hx186_0
         have HR186_0 := aM hi186_0
         have HC186_0 := aM hl186_0
         clear hi186_0 hl186_0
         replace p186 := eq_true p186
         replace q186 := eq_true q186
         go_wp2_with (first | ((with_reducible refine gate_dst (N := 16) rfl ?_); refine Kd.R_lit (Kd.int .i32) _ 21 ?hg (N := 16) ?hd (xs := ([32, 32] : List Int)) (inner := [.int .i32 32, .int .i32 32]) (ok := fun _ => True) (okp := fun _ => True) ?hr ?hp (fun _ hk => hk) trivial (Below.refl _ _) (Nat.le_refl _) (by simp) ?_; (case hd => rfl); (case hg => rfl); (case hr => first | (go_simp; done) | (go_simp; rfl)); (case hp => exact (Reps.one (show Kd.M (Kd.int .i32) _ _ _ 32 [.int .i32 32] from rfl) (Reps.one (show Kd.M (Kd.int .i32) _ _ _ 32 [.int .i32 32] from rfl) (Reps.none _ _)))); intro v188 w8 ho9 hb hg_ hnew_; clear hg_ hnew_; (first | rw [← Ny187.out] at ho9 | (simp only [Int.reduceToNat] at ho9; rw [← Ny187.out] at ho9)); have n_ := zI (aM (Kd.R_elder' (zR HO_3) (Kd.R_base ho9) hb)) (zI (aM (Kd.R_lower (Kd.R_new' ho9 (Kd.R_lt (zR HO_3))) (below_size zB))) (aM (below_step zB hb))); clear HO_3 HB; obtain ⟨HO_3, HO189, HB⟩ := n_; clear hb ho9; obtain ⟨Ao11, co11, rfl⟩ := Kd.R_slice HO189.out) | ((with_reducible refine gate_builtin (b := .append) (xs := #[.tmp 15, .tmp 16]) rfl ?_); at_builtin; refine Kd.R_append_rows (Kd.int .i32) (w0 := w) w.heap.size rfl (.tmp 15) (.tmp 16) 65 21 (.int .i32 0) 4 rfl Tryz.underlying65 info21 rfl (by decide) (by omega) u3 x3_1 y187 _ _ _ (fun k_ => some k_ ≠ (.slice Ao11 y187.length co11 : Value).ownBlock) (fun _ => False) rfl rfl ?aO ?aR (fun _ _ h => h) (fun _ h => h.elim) ?aF ?aB ?aS ?aL ?_; (case aR => repeat (first | exact (Kd.R_reads' HO189.out).2.2 | (with_reducible refine Kd.C_alloc ?_ _) | (with_reducible refine Kd.C_drewN ?_ _) | (with_reducible refine Kd.C_drew ?_))); (case aB => exact zB); (case aF => exact (fun k_ hk => Kd.fresh' (Kd.R_lt (zR HO189)) k_ hk)); (case aO => exact (by (with_reducible repeat (first | apply Kd.R_alloc | apply Kd.R_drewN | apply Kd.R_drew)); exact Kd.R_mono HO_3.out (fun _ hk => hk.2))); (case aS => exact (below_size zB)); (case aL => have := LMc6.out; omega); intro v191 w10 ho hb hg hat; rw [← Ny190.out] at ho; have n_ := zI (aM (Kd.R_after (ok := (fun _ => True)) (zR HO189) hg hat)) (zI (aM (hb)) (aM (ho))); clear HO189 HB HO_3; obtain ⟨HO189, HB, HO192⟩ := n_; clear ho hb hg hat) | ((with_reducible refine gate_builtin (b := .append) (xs := #[.tmp 18, .tmp 19]) rfl ?_); at_builtin; refine Kd.R_append_rows (Kd.int .i32) (w0 := w) w.heap.size rfl (.tmp 18) (.tmp 19) 65 21 (.int .i32 0) 4 rfl Tryz.underlying65 info21 rfl (by decide) (by omega) v191 y190 (rd_L4 l0 x8_1) _ _ _ (fun k_ => some k_ ≠ (.slice Ao11 y187.length co11 : Value).ownBlock) (fun _ => False) rfl rfl ?aO ?aR (fun _ _ h => h) (fun _ h => h.elim) ?aF ?aB ?aS ?aL ?_; (case aR => repeat (first | exact (Kd.C_below HR186_0.out HB.out) | (with_reducible refine Kd.C_alloc ?_ _) | (with_reducible refine Kd.C_drewN ?_ _) | (with_reducible refine Kd.C_drew ?_))); (case aB => exact zB); (case aF => exact (fun k_ hk => Kd.fresh' (Kd.R_lt (zR HO189)) k_ hk)); (case aO => exact (zR HO192)); (case aS => exact (below_size zB)); (case aL => have := LMc7.out; omega); intro v194 w12 ho hb hg hat; rw [← Ny193.out] at ho; have n_ := zI (aM (Kd.R_after (ok := (fun _ => True)) (zR HO189) hg hat)) (zI (aM (hb)) (aM (ho))); clear HO189 HB HO192; obtain ⟨HO189, HB, HO195⟩ := n_; clear ho hb hg hat))
         go_roundg k1
         case measure => have := HK1.out; omega
         case rel => exact ⟨(y193), (wrap64 (x8_1 + 1)), zP, H', ⟨by have := HK1.out; omega⟩, ⟨by (with_reducible repeat (first | apply Kd.R_alloc | apply Kd.R_drewN | apply Kd.R_drew)); exact Kd.R_mono HO195.out (fun _ hk => trivial)⟩, ⟨zB⟩⟩
        ·rw [if_neg c7] at H
         exact absurd H (by simp)
       ·rw [if_neg c6] at H
        exact absurd H (by simp)
      ·rw [if_neg c5] at H
       have c5b0 : decide (0 < x8_1) = false := decide_eq_false c5
       clear c5
       by_cases c13 : x3_1.length + (rd_L4 l0 x8_1).length < 35184372088832
       ·rw [if_pos c13] at H
        have LMc13 := aM c13
        clear c13
        obtain ⟨y196, hy196⟩ : ∃ y_ : List Int, y_ = (x3_1 ++ (rd_L4 l0 x8_1)) := ⟨_, rfl⟩
        replace H : (blanks_joined.l0 k1 y196 l0 (l0.length : Int) (wrap64 (x8_1 + 1))) = some r := zY hy196 H
        have Ny196 := aM hy196
        clear hy196
        have H' := aM H
        clear H
        have p186 : 0 ≤ (x8_1 : Int) := zoA
        have q186 : x8_1 < (l0.length : Int) := zoA
        obtain ⟨ad186, A186_0, c186_0, e186, hx186_0, hl186_0, hi186_0⟩ := at_L4 HR0.out x8_1 p186 q186
        cases e186
        replace hx186_0 := (HB.out.cell (World.block_lt_of_cell? w _ hx186_0)).trans hx186_0
        have HR186_0 := aM hi186_0
        have HC186_0 := aM hl186_0
        clear hi186_0 hl186_0
        replace p186 := eq_true p186
        replace q186 := eq_true q186
        go_wp2_with (first | ((with_reducible refine gate_builtin (b := .append) (xs := #[.tmp 18, .tmp 19]) rfl ?_); at_builtin; refine Kd.R_append_rows (Kd.int .i32) (w0 := w) w.heap.size rfl (.tmp 18) (.tmp 19) 65 21 (.int .i32 0) 4 rfl Tryz.underlying65 info21 rfl (by decide) (by omega) u3 x3_1 (rd_L4 l0 x8_1) _ _ _ (fun _ => True) (fun _ => False) rfl rfl ?aO ?aR (fun _ _ h => h) (fun _ h => h.elim) ?aF ?aB ?aS ?aL ?_; (case aR => repeat (first | exact (Kd.C_below HR186_0.out HB.out) | (with_reducible refine Kd.C_alloc ?_ _) | (with_reducible refine Kd.C_drewN ?_ _) | (with_reducible refine Kd.C_drew ?_))); (case aB => exact zB); (case aF => exact (fun _ _ => trivial)); (case aO => exact (zR HO_3)); (case aS => exact (below_size zB)); (case aL => have := LMc13.out; omega); intro v197 w14 ho hb hg hat; rw [← Ny196.out] at ho; have n_ := zI (aM (hb)) (aM (ho)); clear HB HO_3; obtain ⟨HB, HO198⟩ := n_; clear ho hb hg hat))
        go_roundg k1
        case measure => have := HK1.out; omega
        case rel => exact ⟨(y196), (wrap64 (x8_1 + 1)), zP, H', ⟨by have := HK1.out; omega⟩, ⟨zR HO198⟩, ⟨zB⟩⟩
       ·rw [if_neg c13] at H
        exact absurd H (by simp)
     ·rw [if_neg c4] at H
      exact absurd H (by simp)
    ·rw [if_neg c3] at H
     exact absurd H (by simp)
   ·rw [if_neg c2] at H
    have c2b0 : decide (x8_1 < (l0.length : Int)) = false := decide_eq_false c2
    clear c2
    obtain rfl := sI H
    go_wp2
    go_ret
    exact ⟨_, zE, zR HO_3, zB⟩

/-! ### blanks_words: function 143 -/
mutual
def blanks_words.l0 : Nat → List Int → List (List Int) → Int → Option ((List (List Int)))
 | 0, _, _, _ => none
 | k + 1, x0, x3, x4 => blanks_words.l1 k x0 x3 x4
def blanks_words.l1 : Nat → List Int → List (List Int) → Int → Option ((List (List Int)))
 | 0, _, _, _ => none
 | k + 1, x0, x3, x4 => (blanks_Space.f k x0 x4).bind fun t199 => (if t199 = true then (blanks_words.l1 k x0 x3 (wrap64 (x4 + 1))) else (if x4 = (x0.length : Int) then (some x3) else (blanks_words.l2 k x0 x3 x4 x4)))
def blanks_words.l2 : Nat → List Int → List (List Int) → Int → Int → Option ((List (List Int)))
 | 0, _, _, _, _ => none
 | k + 1, x0, x3, x4, x5 => if x4 < (x0.length : Int) then ((blanks_Space.f k x0 x4).bind fun t200 => (if t200 = true then (if 0 ≤ x5 then (if x5 ≤ x4 then (if x4 ≤ (x0.length : Int) then (if x3.length < 5864062014805 then (blanks_words.l0 k x0 (x3 ++ [((x0.take (x4 : Int).toNat).drop (x5 : Int).toNat)]) x4) else (none)) else (none)) else (none)) else (none)) else (blanks_words.l2 k x0 x3 (wrap64 (x4 + 1)) x5))) else (if 0 ≤ x5 then (if x5 ≤ x4 then (if x4 ≤ (x0.length : Int) then (if x3.length < 5864062014805 then (blanks_words.l0 k x0 (x3 ++ [((x0.take (x4 : Int).toNat).drop (x5 : Int).toNat)]) x4) else (none)) else (none)) else (none)) else (none))
end
def blanks_words.f (k : Nat) (l0 : List Int) : Option ((List (List Int))) := blanks_words.l0 k l0 ([] : List (List Int)) 0
theorem blanks_words.mono_l : ∀ k, (∀ y0 y1 y2, LeO (blanks_words.l0 k y0 y1 y2) (blanks_words.l0 (k + 1) y0 y1 y2)) ∧ (∀ y0 y1 y2, LeO (blanks_words.l1 k y0 y1 y2) (blanks_words.l1 (k + 1) y0 y1 y2)) ∧ (∀ y0 y1 y2 y3, LeO (blanks_words.l2 k y0 y1 y2 y3) (blanks_words.l2 (k + 1) y0 y1 y2 y3))
 | 0 => ⟨fun _ _ _ r h => by simp [blanks_words.l0] at h, fun _ _ _ r h => by simp [blanks_words.l1] at h, fun _ _ _ _ r h => by simp [blanks_words.l2] at h⟩
 | k + 1 => by
  obtain ⟨ih0, ih1, ih2⟩ := blanks_words.mono_l k
  refine ⟨?_, ?_, ?_⟩
  ·intro y0 y1 y2
   unfold blanks_words.l0
   repeat' first
   | (with_reducible exact ih0 _ _ _)
   | (with_reducible exact ih1 _ _ _)
   | (with_reducible exact ih2 _ _ _ _)
   | (with_reducible exact blanks_Space.mono _ _ _)
   | (with_reducible exact LeO.refl _)
   | exact ih0 _ _ _
   | exact ih1 _ _ _
   | exact ih2 _ _ _ _
   | exact blanks_Space.mono _ _ _
   | exact LeO.none _
   | refine LeO.ite ?_ ?_
   | refine LeO.bind ?_ (fun _ => ?_)
  ·intro y0 y1 y2
   unfold blanks_words.l1
   repeat' first
   | (with_reducible exact ih0 _ _ _)
   | (with_reducible exact ih1 _ _ _)
   | (with_reducible exact ih2 _ _ _ _)
   | (with_reducible exact blanks_Space.mono _ _ _)
   | (with_reducible exact LeO.refl _)
   | exact ih0 _ _ _
   | exact ih1 _ _ _
   | exact ih2 _ _ _ _
   | exact blanks_Space.mono _ _ _
   | exact LeO.none _
   | refine LeO.ite ?_ ?_
   | refine LeO.bind ?_ (fun _ => ?_)
  ·intro y0 y1 y2 y3
   unfold blanks_words.l2
   repeat' first
   | (with_reducible exact ih0 _ _ _)
   | (with_reducible exact ih1 _ _ _)
   | (with_reducible exact ih2 _ _ _ _)
   | (with_reducible exact blanks_Space.mono _ _ _)
   | (with_reducible exact LeO.refl _)
   | exact ih0 _ _ _
   | exact ih1 _ _ _
   | exact ih2 _ _ _ _
   | exact blanks_Space.mono _ _ _
   | exact LeO.none _
   | refine LeO.ite ?_ ?_
   | refine LeO.bind ?_ (fun _ => ?_)
theorem blanks_words.mono : ∀ a0 k, LeO (blanks_words.f k a0) (blanks_words.f (k + 1) a0) := by
 intro a0 k
 obtain ⟨ih0, ih1, ih2⟩ := blanks_words.mono_l k
 unfold blanks_words.f
 repeat' first
   | (with_reducible exact ih0 _ _ _)
   | (with_reducible exact ih1 _ _ _)
   | (with_reducible exact ih2 _ _ _ _)
   | (with_reducible exact blanks_Space.mono _ _ _)
   | (with_reducible exact LeO.refl _)
   | exact ih0 _ _ _
   | exact ih1 _ _ _
   | exact ih2 _ _ _ _
   | exact blanks_Space.mono _ _ _
   | exact LeO.none _
   | refine LeO.ite ?_ ?_
   | refine LeO.bind ?_ (fun _ => ?_)
set_option maxHeartbeats 8000000 in
set_option maxRecDepth 100000 in
theorem blanks_words.calls (k : Nat) (P0_ : Nat → Prop) (A0 : Option Addr) (c0 : Nat) (l0 : List Int) (r : List (List Int)) (w : World) (hs0 : Kd.V (Kd.int .i32) 21 w w.heap.size (fun k_ => P0_ k_) (.slice A0 l0.length c0) l0) (h : blanks_words.f k l0 = some r) :
  Calls Tryz.prog 143 #[.slice A0 l0.length c0] w fun e w' => ∃ v0_ : Value, e = .returned (v0_) ∧ Kd.N (Kd.slice 21 (Kd.int .i32)) 65 w' w.heap.size (fun k_ => (P0_ k_ ∨ w.heap.size ≤ k_)) v0_ r ∧ Below w.heap.size w w' := by
 have HO0 := aM (show Kd.V (Kd.int .i32) 21 w w.heap.size (fun k_ => (P0_ k_ ∨ w.heap.size ≤ k_)) (.slice A0 l0.length c0) l0 from Kd.V_mono hs0 (fun k_ hk => .inl hk))
 have HB := aM (Below.refl w.heap.size w)
 have H := h
 clear h
 unfold blanks_words.f at H
 have H' := aM H
 clear H
 go_enter Tryz.func143, Tryz.ntmps143
 go_wp2
 refine wp_scope_back 0 rfl ?_
 go_wp2
 go_step3
 (try simp only [Exit.then])
 go_step
 refine wp_back_ghost (fun a0 kq a' w' => ∃ (u2 u3 u4 u5 u6 u7 u8 u9 u10 u11 u12 u13 u14 u15 u16 u17 u18 u19 u20 u21 u22 u23 u24 u25 u26 u27 u28 u29 u30 u31 u32 u33 u34 u35 : Value), (∃ (x3_1 : List (List Int)) (x4_1 : Int), u4 = .int .i64 x4_1 ∧ Aside0 (blanks_words.l0 kq l0 x3_1 x4_1 = some r) ∧ Aside0 (kq ≤ k) ∧ Aside0 (Kd.V (Kd.int .i32) 21 w' w.heap.size (fun k_ => (P0_ k_ ∨ w.heap.size ≤ k_) ∧ some k_ ≠ (u3 : Value).ownBlock) (.slice A0 l0.length c0) l0) ∧ Aside0 (Kd.N (Kd.slice 21 (Kd.int .i32)) 65 w' w.heap.size (fun k_ => (P0_ k_ ∨ w.heap.size ≤ k_)) u3 x3_1) ∧ Aside0 (Below w.heap.size w w')) ∧ a' = ⟨((((((((((((((((((((((((((((((((((a0.tmps.setIfInBounds 2 u2).setIfInBounds 3 u3).setIfInBounds 4 u4).setIfInBounds 5 u5).setIfInBounds 6 u6).setIfInBounds 7 u7).setIfInBounds 8 u8).setIfInBounds 9 u9).setIfInBounds 10 u10).setIfInBounds 11 u11).setIfInBounds 12 u12).setIfInBounds 13 u13).setIfInBounds 14 u14).setIfInBounds 15 u15).setIfInBounds 16 u16).setIfInBounds 17 u17).setIfInBounds 18 u18).setIfInBounds 19 u19).setIfInBounds 20 u20).setIfInBounds 21 u21).setIfInBounds 22 u22).setIfInBounds 23 u23).setIfInBounds 24 u24).setIfInBounds 25 u25).setIfInBounds 26 u26).setIfInBounds 27 u27).setIfInBounds 28 u28).setIfInBounds 29 u29).setIfInBounds 30 u30).setIfInBounds 31 u31).setIfInBounds 32 u32).setIfInBounds 33 u33).setIfInBounds 34 u34).setIfInBounds 35 u35), a0.defers⟩) k ?atStart ?round
 case' atStart => (repeat apply Exists.intro); refine ⟨?_, ?_⟩; rotate_left; (try simp only [List.setIfInBounds_toArray, List.set_cons_zero, List.set_cons_succ]); exact rfl
 case' round => intro gk _ wr hinv; obtain ⟨u2, u3, u4, u5, u6, u7, u8, u9, u10, u11, u12, u13, u14, u15, u16, u17, u18, u19, u20, u21, u22, u23, u24, u25, u26, u27, u28, u29, u30, u31, u32, u33, u34, u35, hrel, ha⟩ := hinv; subst ha; (try simp only [List.setIfInBounds_toArray, List.set_cons_zero, List.set_cons_succ]); intro J_ K_ hJ_ hK_
 case atStart => exact ⟨(([] : List (List Int))), (0), zP, H', ⟨Nat.le_refl _⟩, ⟨by (with_reducible repeat (first | apply Kd.V_alloc | apply Kd.V_drewN | apply Kd.V_drew)); exact Kd.V_mono HO0.out (fun _ hk => ⟨hk, (by simp [Value.ownBlock])⟩)⟩, ⟨by first | exact Kd.S_nil _ _ _ _ _ | exact Kd.N_nil _ _ _ _ _ | exact Kd.V_nil _ _ _ _ _ | exact Kd.Q_nil _ _ _ _ _ | exact Kd.R_nil _ _ _ _ _⟩, ⟨zB⟩⟩
 case round =>
  clear H'
  try clear c1
  obtain ⟨x3_1, x4_1, rfl, HA, HK1, HO_0, HO_3, HB⟩ := hrel
  cases gk with
  | zero => exact absurd HA.out (by simp [blanks_words.l0])
  | succ k1 =>
   have H := HA.out
   clear HA
   simp only [blanks_words.l0] at H
   have H' := aM H
   clear H
   go_wp2
   go_loopg [4] k1 (fun kq v4 w' => ∃ (x4_2 : Int), v4 = .int .i64 x4_2 ∧ Aside0 (blanks_words.l1 kq l0 x3_1 x4_2 = some r) ∧ Aside0 (kq ≤ k1) ∧ Aside0 (Kd.V (Kd.int .i32) 21 w' w.heap.size (fun k_ => (P0_ k_ ∨ w.heap.size ≤ k_) ∧ some k_ ≠ (u3 : Value).ownBlock) (.slice A0 l0.length c0) l0) ∧ Aside0 (Kd.N (Kd.slice 21 (Kd.int .i32)) 65 w' w.heap.size (fun k_ => (P0_ k_ ∨ w.heap.size ≤ k_)) u3 x3_1) ∧ Aside0 (Below w.heap.size w w'))
   case atStart => exact ⟨(x4_1), zP, H', ⟨Nat.le_refl _⟩, ⟨zV HO_0⟩, ⟨zN HO_3⟩, ⟨zB⟩⟩
   case round =>
    clear H'
    try clear c1
    obtain ⟨x4_2, rfl, HA, HK2, HO_0, HO_3, HB⟩ := hrel
    cases gk with
    | zero => exact absurd HA.out (by simp [blanks_words.l1])
    | succ k2 =>
     have H := HA.out
     clear HA
     simp only [blanks_words.l1] at H
     obtain ⟨t199, A2, H⟩ := zO H
     by_cases c3 : t199 = true
     ·subst c3
      rw [if_pos rfl] at H
      have H' := aM H
      clear H
      go_wp2_with (first | ((with_reducible refine gate_callee (f := 138) rfl ?_); refine goesL_ (some 8) rfl rfl Tryz.func138 zK rfl #[.slice A0 l0.length c0, .int .i64 x4_2] rfl zM ?_; (with_reducible refine (blanks_Space.calls k2 _ _ l0 x4_2 true _ ?side1 ?side2 A2.out).mono ?_); (case side1 => exact zC (Kd.V_reads' HO_0.out).2.2); (case side2 => exact (Kd.V_reads' HO_0.out).2.1); rintro e w4 ⟨rfl, hb⟩; (try clear A2); refine ⟨_, rfl, ?_⟩; have n_ := zI (aM (Kd.V_below (zV HO_0) hb)) (zI (aM (Kd.N_below (zN HO_3) hb)) (aM (below_step zB hb))); clear HO_0 HO_3 HB; obtain ⟨HO_0, HO_3, HB⟩ := n_; (try clear hb)))
      go_roundg k2
      case measure => have := HK1.out; have := HK2.out; omega
      case rel => exact ⟨(wrap64 (x4_2 + 1)), zP, H', ⟨by have := HK1.out; have := HK2.out; omega⟩, ⟨zV HO_0⟩, ⟨zN HO_3⟩, ⟨zB⟩⟩
     ·replace c3 := Bool.eq_false_iff.mpr c3
      subst c3
      rw [if_neg (show ¬ (false = true) by decide)] at H
      by_cases c5 : x4_2 = (l0.length : Int)
      ·rw [if_pos c5] at H
       have c5b0 : (x4_2 == (l0.length : Int)) = true := beq_iff_eq.mpr c5
       have c5b1 : (x4_2 != (l0.length : Int)) = false := bne_eq_false_iff_eq.mpr c5
       clear c5
       obtain rfl := sI H
       go_wp2_with (first | ((with_reducible refine gate_callee (f := 138) rfl ?_); refine goesL_ (some 8) rfl rfl Tryz.func138 zK rfl #[.slice A0 l0.length c0, .int .i64 x4_2] rfl zM ?_; (with_reducible refine (blanks_Space.calls k2 _ _ l0 x4_2 false _ ?side1 ?side2 A2.out).mono ?_); (case side1 => exact zC (Kd.V_reads' HO_0.out).2.2); (case side2 => exact (Kd.V_reads' HO_0.out).2.1); rintro e w6 ⟨rfl, hb⟩; (try clear A2); refine ⟨_, rfl, ?_⟩; have n_ := zI (aM (Kd.V_below (zV HO_0) hb)) (zI (aM (Kd.N_below (zN HO_3) hb)) (aM (below_step zB hb))); clear HO_0 HO_3 HB; obtain ⟨HO_0, HO_3, HB⟩ := n_; (try clear hb)))
       (try rw [Exit.noGoto_ret])
       go_ret
       exact ⟨_, zE, zN HO_3, zB⟩
      ·rw [if_neg c5] at H
       have c5b0 : (x4_2 == (l0.length : Int)) = false := beq_eq_false_iff_ne.mpr c5
       have c5b1 : (x4_2 != (l0.length : Int)) = true := bne_iff_ne.mpr c5
       have H' := aM H
       clear H
       go_wp2_with (first | ((with_reducible refine gate_callee (f := 138) rfl ?_); refine goesL_ (some 8) rfl rfl Tryz.func138 zK rfl #[.slice A0 l0.length c0, .int .i64 x4_2] rfl zM ?_; (with_reducible refine (blanks_Space.calls k2 _ _ l0 x4_2 false _ ?side1 ?side2 A2.out).mono ?_); (case side1 => exact zC (Kd.V_reads' HO_0.out).2.2); (case side2 => exact (Kd.V_reads' HO_0.out).2.1); rintro e w7 ⟨rfl, hb⟩; (try clear A2); refine ⟨_, rfl, ?_⟩; have n_ := zI (aM (Kd.V_below (zV HO_0) hb)) (zI (aM (Kd.N_below (zN HO_3) hb)) (aM (below_step zB hb))); clear HO_0 HO_3 HB; obtain ⟨HO_0, HO_3, HB⟩ := n_; (try clear hb)))
       go_loopg [4] k2 (fun kq v4 w' => ∃ (x4_3 : Int), v4 = .int .i64 x4_3 ∧ Aside0 (blanks_words.l2 kq l0 x3_1 x4_3 x4_2 = some r) ∧ Aside0 (kq ≤ k2) ∧ Aside0 (Kd.V (Kd.int .i32) 21 w' w.heap.size (fun k_ => (P0_ k_ ∨ w.heap.size ≤ k_) ∧ some k_ ≠ (u3 : Value).ownBlock) (.slice A0 l0.length c0) l0) ∧ Aside0 (Kd.N (Kd.slice 21 (Kd.int .i32)) 65 w' w.heap.size (fun k_ => (P0_ k_ ∨ w.heap.size ≤ k_)) u3 x3_1) ∧ Aside0 (Below w.heap.size w w'))
       case atStart => exact ⟨(x4_2), zP, H', ⟨Nat.le_refl _⟩, ⟨zV HO_0⟩, ⟨zN HO_3⟩, ⟨zB⟩⟩
       case round =>
        clear H'
        try clear c1
        try clear p2
        try clear c3
        try clear c5
        try clear c5b0
        try clear c5b1
        try clear p6
        obtain ⟨x4_3, rfl, HA, HK3, HO_0, HO_3, HB⟩ := hrel
        cases gk with
        | zero => exact absurd HA.out (by simp [blanks_words.l2])
        | succ k3 =>
         have H := HA.out
         clear HA
         simp only [blanks_words.l2] at H
         by_cases c8 : x4_3 < (l0.length : Int)
         ·rw [if_pos c8] at H
          have c8b0 : decide (x4_3 < (l0.length : Int)) = true := decide_eq_true c8
          clear c8
          obtain ⟨t200, A9, H⟩ := zO H
          by_cases c10 : t200 = true
          ·subst c10
           rw [if_pos rfl] at H
           by_cases c11 : 0 ≤ x4_2
           ·rw [if_pos c11] at H
            have c11b0 := eq_true c11
            have c11b1 : decide (0 ≤ x4_2) = true := decide_eq_true c11
            clear c11
            by_cases c12 : x4_2 ≤ x4_3
            ·rw [if_pos c12] at H
             have c12b0 := eq_true c12
             have c12b1 : decide (x4_2 ≤ x4_3) = true := decide_eq_true c12
             clear c12
             by_cases c13 : x4_3 ≤ (l0.length : Int)
             ·rw [if_pos c13] at H
              have c13b0 := eq_true c13
              have c13b1 : decide (x4_3 ≤ (l0.length : Int)) = true := decide_eq_true c13
              clear c13
              obtain ⟨y201, hy201⟩ : ∃ y_ : List Int, y_ = ((l0.take (x4_3 : Int).toNat).drop (x4_2 : Int).toNat) := ⟨_, rfl⟩
              replace H : (if x3_1.length < 5864062014805 then (blanks_words.l0 k3 l0 (x3_1 ++ [y201]) x4_3) else (none)) = some r := zY hy201 H
              have Ny201 := aM hy201
              clear hy201
              by_cases c14 : x3_1.length < 5864062014805
              ·rw [if_pos c14] at H
               have LMc14 := aM c14
               clear c14
               obtain ⟨y206, hy206⟩ : ∃ y_ : List (List Int), y_ = (x3_1 ++ [y201]) := ⟨_, rfl⟩
               replace H : (blanks_words.l0 k3 l0 y206 x4_3) = some r := zY hy206 H
               have Ny206 := aM hy206
               clear hy206
               have H' := aM H
               clear H
               go_wp2_with (first | (go_at_call 138; (with_reducible refine (blanks_Space.calls k3 _ _ l0 x4_3 true _ ?side1 ?side2 A9.out).mono ?_); (case side1 => exact zC (Kd.V_reads' HO_0.out).2.2); (case side2 => exact (Kd.V_reads' HO_0.out).2.1); rintro e w15 ⟨rfl, hb⟩; (try clear A9); have n_ := zI (aM (Kd.V_below (zV HO_0) hb)) (zI (aM (Kd.N_below (zN HO_3) hb)) (aM (below_step zB hb))); clear HO_0 HO_3 HB; obtain ⟨HO_0, HO_3, HB⟩ := n_; (try clear hb); (try clear hk); (try clear hi); have q16 : (x4_3 : Int) ≤ ((l0.length : Int) : Int) := zoA; obtain ⟨i016, hi016, _, hsz16, _⟩ := info_parts info21; have hroom16 : l0.length ≤ c0 := (Kd.V_reads' HO_0.out).2.1; have hC16 : Kd.F (Kd.int .i32) _ _ A0 l0.length l0 := (Kd.V_at (base := w.heap.size) HO_0.out).2.2; have ql16 : (x4_2 : Int) ≤ (x4_3 : Int) := zoA; have q016 : (0 : Int) ≤ (x4_2 : Int) := zoA; have hcut16 := cut_mid (P := Tryz.prog) 65 21 .i64 .i64 Tryz.underlying65 hi016 1 hsz16 A0 l0.length c0 x4_2 x4_3 q016 ql16 q16 hroom16; have hr16 := Kd.F_mid (lo := (x4_2 : Int).toNat) (hi := (x4_3 : Int).toNat) (c := c0) hC16 (by omega) (by omega) hroom16; obtain ⟨A16, hA16⟩ : ∃ A1, A1 = (if c0 = (x4_2 : Int).toNat then A0 else (A0 : Option Addr).map (·.add ((x4_2 : Int).toNat * 1))) := ⟨_, rfl⟩; obtain ⟨c16, hc16⟩ : ∃ c1, c1 = c0 - (x4_2 : Int).toNat := ⟨_, rfl⟩; have hy16 : y201.length = (x4_3 : Int).toNat - (x4_2 : Int).toNat := (by rw [Ny201.out, List.length_drop, List.length_take] <;> omega); rw [show ((l0).take (x4_3 : Int).toNat).drop (x4_2 : Int).toNat = y201 from Ny201.out.symm] at hr16; replace hr16 : Kd.F (Kd.int .i32) _ _ A16 y201.length y201 := (by rw [hA16]; exact hr16); rw [← hy16, ← hA16, ← hc16] at hcut16; have HO205 := aM (show Kd.V (Kd.int .i32) 21 _ w.heap.size _ (.slice A16 y201.length c16) y201 from Kd.V_mk (by rw [hy16, hc16]; exact Nat.sub_le_sub_right (Nat.le_trans (by omega) hroom16) _) hr16); have HC205 := aM (show y201.length ≤ c16 from by rw [hy16, hc16]; exact Nat.sub_le_sub_right (Nat.le_trans (by omega) hroom16) _); clear hr16 hC16 hroom16 hi016 hsz16 hc16; have KY16 := aM hy16; have KA16 := aM hA16; clear hy16 hA16; replace q16 := eq_true q16) | ((with_reducible refine gate_builtin (b := .append) (xs := #[.tmp 29, .tmp 34]) rfl ?_); at_builtin; refine Kd.N_append (Kd.slice 21 (Kd.int .i32)) (w0 := w) w.heap.size rfl (.tmp 29) (.tmp 34) 172 65 (.slice none 0 0) 24 rfl Tryz.underlying172 info65 rfl (by decide) (by omega) u3 x3_1 y201 [.slice A16 y201.length c16] (fun k_ => (P0_ k_ ∨ w.heap.size ≤ k_)) (fun k_ => ((fun k_ => (P0_ k_ ∨ w.heap.size ≤ k_))) k_ ∧ some k_ ≠ (u3 : Value).ownBlock) rfl rfl ?aP (fun _ hk => hk) ?aF ?aO ?aB ?aS ?aL ?_; (case aP => exact (Kd.FK_slice_mk (Kd.V_reads' (Kd.V_mono (ok' := (fun k_ => ((fun k_ => (P0_ k_ ∨ w.heap.size ≤ k_))) k_ ∧ some k_ ≠ (u3 : Value).ownBlock)) (HO205.out) (fun k_ hk => ⟨hk.1, hk.2⟩))).2.1 (Kd.V_F (Kd.V_mono (ok' := (fun k_ => ((fun k_ => (P0_ k_ ∨ w.heap.size ≤ k_))) k_ ∧ some k_ ≠ (u3 : Value).ownBlock)) (HO205.out) (fun k_ hk => ⟨hk.1, hk.2⟩))))); (case aB => exact zB); (case aF => exact (fun k_ hk => (.inr (Nat.le_trans (below_size zB) hk)))); (case aO => exact (zN HO_3)); (case aS => exact (below_size zB)); (case aL => have := LMc14.out; omega); intro v207 w17 ho hb hg hat; rw [← Ny206.out] at ho; have n_ := zI (aM (Kd.V_afterv (ok := (fun k_ => (P0_ k_ ∨ w.heap.size ≤ k_))) (zV HO_0) hg hat)) (zI (aM (Kd.V_afterv (ok := (fun k_ => (P0_ k_ ∨ w.heap.size ≤ k_))) (zV HO205) hg hat)) (zI (aM (hb)) (aM (ho)))); clear HO_0 HO205 HB HO_3; obtain ⟨HO_0, HO205, HB, HO208⟩ := n_; clear ho hb hg hat))
               go_step3
               refine ⟨rfl, ?_⟩
               refine hK_ _ _ ?_
               go_roundg k3
               case measure => have := HK1.out; have := HK2.out; have := HK3.out; omega
               case rel => exact ⟨(y206), (x4_3), zP, H', ⟨by have := HK1.out; have := HK2.out; have := HK3.out; omega⟩, ⟨zV HO_0⟩, ⟨zN HO208⟩, ⟨zB⟩⟩
              ·rw [if_neg c14] at H
               exact absurd H (by simp)
             ·rw [if_neg c13] at H
              exact absurd H (by simp)
            ·rw [if_neg c12] at H
             exact absurd H (by simp)
           ·rw [if_neg c11] at H
            exact absurd H (by simp)
          ·replace c10 := Bool.eq_false_iff.mpr c10
           subst c10
           rw [if_neg (show ¬ (false = true) by decide)] at H
           have H' := aM H
           clear H
           go_wp2_with (first | (go_at_call 138; (with_reducible refine (blanks_Space.calls k3 _ _ l0 x4_3 false _ ?side1 ?side2 A9.out).mono ?_); (case side1 => exact zC (Kd.V_reads' HO_0.out).2.2); (case side2 => exact (Kd.V_reads' HO_0.out).2.1); rintro e w18 ⟨rfl, hb⟩; (try clear A9); have n_ := zI (aM (Kd.V_below (zV HO_0) hb)) (zI (aM (Kd.N_below (zN HO_3) hb)) (aM (below_step zB hb))); clear HO_0 HO_3 HB; obtain ⟨HO_0, HO_3, HB⟩ := n_; (try clear hb)))
           go_roundg k3
           case measure => have := HK1.out; have := HK2.out; have := HK3.out; omega
           case rel => exact ⟨(wrap64 (x4_3 + 1)), zP, H', ⟨by have := HK1.out; have := HK2.out; have := HK3.out; omega⟩, ⟨zV HO_0⟩, ⟨zN HO_3⟩, ⟨zB⟩⟩
         ·rw [if_neg c8] at H
          have c8b0 : decide (x4_3 < (l0.length : Int)) = false := decide_eq_false c8
          clear c8
          by_cases c19 : 0 ≤ x4_2
          ·rw [if_pos c19] at H
           have c19b0 := eq_true c19
           have c19b1 : decide (0 ≤ x4_2) = true := decide_eq_true c19
           clear c19
           by_cases c20 : x4_2 ≤ x4_3
           ·rw [if_pos c20] at H
            have c20b0 := eq_true c20
            have c20b1 : decide (x4_2 ≤ x4_3) = true := decide_eq_true c20
            clear c20
            by_cases c21 : x4_3 ≤ (l0.length : Int)
            ·rw [if_pos c21] at H
             have c21b0 := eq_true c21
             have c21b1 : decide (x4_3 ≤ (l0.length : Int)) = true := decide_eq_true c21
             clear c21
             obtain ⟨y209, hy209⟩ : ∃ y_ : List Int, y_ = ((l0.take (x4_3 : Int).toNat).drop (x4_2 : Int).toNat) := ⟨_, rfl⟩
             replace H : (if x3_1.length < 5864062014805 then (blanks_words.l0 k3 l0 (x3_1 ++ [y209]) x4_3) else (none)) = some r := zY hy209 H
             have Ny209 := aM hy209
             clear hy209
             by_cases c22 : x3_1.length < 5864062014805
             ·rw [if_pos c22] at H
              have LMc22 := aM c22
              clear c22
              obtain ⟨y214, hy214⟩ : ∃ y_ : List (List Int), y_ = (x3_1 ++ [y209]) := ⟨_, rfl⟩
              replace H : (blanks_words.l0 k3 l0 y214 x4_3) = some r := zY hy214 H
              have Ny214 := aM hy214
              clear hy214
              have H' := aM H
              clear H
              have q23 : (x4_3 : Int) ≤ ((l0.length : Int) : Int) := zoA
              obtain ⟨i023, hi023, _, hsz23, _⟩ := info_parts info21
              have hroom23 : l0.length ≤ c0 := (Kd.V_reads' HO_0.out).2.1
              have hC23 : Kd.F (Kd.int .i32) _ _ A0 l0.length l0 := (Kd.V_at (base := w.heap.size) HO_0.out).2.2
              have ql23 : (x4_2 : Int) ≤ (x4_3 : Int) := zoA
              have q023 : (0 : Int) ≤ (x4_2 : Int) := zoA
              have hcut23 := cut_mid (P := Tryz.prog) 65 21 .i64 .i64 Tryz.underlying65 hi023 1 hsz23 A0 l0.length c0 x4_2 x4_3 q023 ql23 q23 hroom23
              have hr23 := Kd.F_mid (lo := (x4_2 : Int).toNat) (hi := (x4_3 : Int).toNat) (c := c0) hC23 (by omega) (by omega) hroom23
              obtain ⟨A23, hA23⟩ : ∃ A1, A1 = (if c0 = (x4_2 : Int).toNat then A0 else (A0 : Option Addr).map (·.add ((x4_2 : Int).toNat * 1))) := ⟨_, rfl⟩
              obtain ⟨c23, hc23⟩ : ∃ c1, c1 = c0 - (x4_2 : Int).toNat := ⟨_, rfl⟩
              have hy23 : y209.length = (x4_3 : Int).toNat - (x4_2 : Int).toNat := (by rw [Ny209.out, List.length_drop, List.length_take] <;> omega)
              rw [show ((l0).take (x4_3 : Int).toNat).drop (x4_2 : Int).toNat = y209 from Ny209.out.symm] at hr23
              replace hr23 : Kd.F (Kd.int .i32) _ _ A23 y209.length y209 := (by rw [hA23]; exact hr23)
              rw [← hy23, ← hA23, ← hc23] at hcut23
              have HO213 := aM (show Kd.V (Kd.int .i32) 21 _ w.heap.size _ (.slice A23 y209.length c23) y209 from Kd.V_mk (by rw [hy23, hc23]; exact Nat.sub_le_sub_right (Nat.le_trans (by omega) hroom23) _) hr23)
              have HC213 := aM (show y209.length ≤ c23 from by rw [hy23, hc23]; exact Nat.sub_le_sub_right (Nat.le_trans (by omega) hroom23) _)
              clear hr23 hC23 hroom23 hi023 hsz23 hc23
              have KY23 := aM hy23
              have KA23 := aM hA23
              clear hy23 hA23
              replace q23 := eq_true q23
              go_wp2_with (first | ((with_reducible refine gate_builtin (b := .append) (xs := #[.tmp 29, .tmp 34]) rfl ?_); at_builtin; refine Kd.N_append (Kd.slice 21 (Kd.int .i32)) (w0 := w) w.heap.size rfl (.tmp 29) (.tmp 34) 172 65 (.slice none 0 0) 24 rfl Tryz.underlying172 info65 rfl (by decide) (by omega) u3 x3_1 y209 [.slice A23 y209.length c23] (fun k_ => (P0_ k_ ∨ w.heap.size ≤ k_)) (fun k_ => ((fun k_ => (P0_ k_ ∨ w.heap.size ≤ k_))) k_ ∧ some k_ ≠ (u3 : Value).ownBlock) rfl rfl ?aP (fun _ hk => hk) ?aF ?aO ?aB ?aS ?aL ?_; (case aP => exact (Kd.FK_slice_mk (Kd.V_reads' (Kd.V_mono (ok' := (fun k_ => ((fun k_ => (P0_ k_ ∨ w.heap.size ≤ k_))) k_ ∧ some k_ ≠ (u3 : Value).ownBlock)) (HO213.out) (fun k_ hk => ⟨hk.1, hk.2⟩))).2.1 (Kd.V_F (Kd.V_mono (ok' := (fun k_ => ((fun k_ => (P0_ k_ ∨ w.heap.size ≤ k_))) k_ ∧ some k_ ≠ (u3 : Value).ownBlock)) (HO213.out) (fun k_ hk => ⟨hk.1, hk.2⟩))))); (case aB => exact zB); (case aF => exact (fun k_ hk => (.inr (Nat.le_trans (below_size zB) hk)))); (case aO => exact (zN HO_3)); (case aS => exact (below_size zB)); (case aL => have := LMc22.out; omega); intro v215 w24 ho hb hg hat; rw [← Ny214.out] at ho; have n_ := zI (aM (Kd.V_afterv (ok := (fun k_ => (P0_ k_ ∨ w.heap.size ≤ k_))) (zV HO_0) hg hat)) (zI (aM (Kd.V_afterv (ok := (fun k_ => (P0_ k_ ∨ w.heap.size ≤ k_))) (zV HO213) hg hat)) (zI (aM (hb)) (aM (ho)))); clear HO_0 HO213 HB HO_3; obtain ⟨HO_0, HO213, HB, HO216⟩ := n_; clear ho hb hg hat))
              go_step3
              refine ⟨rfl, ?_⟩
              refine hK_ _ _ ?_
              go_roundg k3
              case measure => have := HK1.out; have := HK2.out; have := HK3.out; omega
              case rel => exact ⟨(y214), (x4_3), zP, H', ⟨by have := HK1.out; have := HK2.out; have := HK3.out; omega⟩, ⟨zV HO_0⟩, ⟨zN HO216⟩, ⟨zB⟩⟩
             ·rw [if_neg c22] at H
              exact absurd H (by simp)
            ·rw [if_neg c21] at H
             exact absurd H (by simp)
           ·rw [if_neg c20] at H
            exact absurd H (by simp)
          ·rw [if_neg c19] at H
           exact absurd H (by simp)

/-! ### blanks_firm: function 144 -/
def blanks_firm.f (k : Nat) (l0 : List Int) : Option (List Int) := if (l0.length : Int) > 0 then (if 0 < (l0.length : Int) then ((chars_Is.f k (rd l0 0) (([3] : List Int))).bind fun t221 => (if t221 = true then ((blanks_edged.f l0 true false).bind fun t222 => (some t222)) else (some l0))) else (none)) else (some l0)
theorem blanks_firm.mono : ∀ a0 k, LeO (blanks_firm.f k a0) (blanks_firm.f (k + 1) a0) := by
 intro a0 k
 unfold blanks_firm.f
 repeat' first
   | (with_reducible exact chars_Is.mono _ _ _)
   | (with_reducible exact LeO.refl _)
   | exact chars_Is.mono _ _ _
   | exact LeO.none _
   | refine LeO.ite ?_ ?_
   | refine LeO.bind ?_ (fun _ => ?_)
set_option maxHeartbeats 8000000 in
set_option maxRecDepth 100000 in
theorem blanks_firm.calls (k : Nat) (P0_ : Nat → Prop) (A0 : Option Addr) (c0 : Nat) (l0 : List Int) (r : List Int) (w : World) (hs0 : Kd.V (Kd.int .i32) 21 w w.heap.size (fun k_ => P0_ k_) (.slice A0 l0.length c0) l0) (h : blanks_firm.f k l0 = some r) :
  Calls Tryz.prog 144 #[.slice A0 l0.length c0] w fun e w' => ∃ v0_ : Value, e = .returned (v0_) ∧ Kd.V (Kd.int .i32) 21 w' w.heap.size (fun k_ => (P0_ k_ ∨ w.heap.size ≤ k_)) v0_ r ∧ Below w.heap.size w w' := by
 have HO0 := aM (show Kd.V (Kd.int .i32) 21 w w.heap.size (fun k_ => (P0_ k_ ∨ w.heap.size ≤ k_)) (.slice A0 l0.length c0) l0 from Kd.V_mono hs0 (fun k_ hk => .inl hk))
 have HB := aM (Below.refl w.heap.size w)
 have H := h
 clear h
 unfold blanks_firm.f at H
 by_cases c2 : (l0.length : Int) > 0
 ·rw [if_pos c2] at H
  have c2b0 : decide (0 < (l0.length : Int)) = true := decide_eq_true c2
  have c2b1 : decide (0 < l0.length) = true := decide_eq_true (by omega)
  clear c2
  by_cases c3 : 0 < (l0.length : Int)
  ·rw [if_pos c3] at H
   have c3b0 : decide (0 < (l0.length : Int)) = true := decide_eq_true c3
   have c3b1 : decide (0 < l0.length) = true := decide_eq_true (by omega)
   clear c3
   obtain ⟨y218, hy218⟩ : ∃ y_ : List Int, y_ = (([3] : List Int)) := ⟨_, rfl⟩
   replace H : ((chars_Is.f k (rd l0 0) y218).bind fun t221 => (if t221 = true then ((blanks_edged.f l0 true false).bind fun t222 => (some t222)) else (some l0))) = some r := zY hy218 H
   have Ny218 := aM hy218
   clear hy218
   obtain ⟨t221, A4, H⟩ := zO H
   by_cases c5 : t221 = true
   ·subst c5
    rw [if_pos rfl] at H
    obtain ⟨t222, A6, H⟩ := zO H
    obtain rfl := sI H
    have p217 : 0 ≤ (0 : Int) := (by omega)
    have q217 : 0 < (l0.length : Int) := zoA
    obtain ⟨ad217, e217, hx217_0⟩ := Kd.at_int (Kd.V_reads' HO0.out).2.2 0 p217 q217
    cases e217
    have qi217 : (0 < l0.length) = True := eq_true (by omega)
    (try rw [show ((0 : Int)).toNat = 0 from rfl] at hx217_0)
    (try rw [Addr.add_zero'] at hx217_0)
    replace p217 := eq_true p217
    replace q217 := eq_true q217
    go_enter Tryz.func144, Tryz.ntmps144
    go_wp2_with (first | ((with_reducible refine gate_dst (N := 10) rfl ?_); (try (refine gate_guard (by rfl) ?_; dsimp only)); refine Kd.R_lit (Kd.int .i64) _ 3 ?hg (N := 10) ?hd (xs := ([3] : List Int)) (inner := [.int .i64 3]) (ok := fun _ => True) (okp := fun _ => True) ?hr ?hp (fun _ hk => hk) trivial (Below.refl _ _) (Nat.le_refl _) (by simp) ?_; (case hd => rfl); (case hg => rfl); (case hr => first | (go_simp; done) | (go_simp; rfl)); (case hp => exact (Reps.one (show Kd.M (Kd.int .i64) _ _ _ 3 [.int .i64 3] from rfl) (Reps.none _ _))); intro v219 w7 ho8 hb hg_ hnew_; clear hg_ hnew_; (first | rw [← Ny218.out] at ho8 | (simp only [Int.reduceToNat] at ho8; rw [← Ny218.out] at ho8)); have n_ := zI (aM (Kd.V_elder' (zV HO0) (Kd.R_base ho8) hb)) (zI (aM (Kd.R_lower (Kd.R_newM (M := fun k_ => (w.heap.size ≤ k_)) ho8 (below_size zB) (fun k_ h_ => h_)) (below_size zB))) (aM (below_step zB hb))); clear HO0 HB; obtain ⟨HO0, HO220, HB⟩ := n_; clear hb ho8; obtain ⟨Ao9, co9, rfl⟩ := Kd.R_slice HO220.out) | (go_at_call 128; (with_reducible refine (chars_Is.calls k (rd l0 0) _ _ y218 true _ ?side1 ?side2 A4.out).mono ?_); (case side1 => exact zC (Kd.R_reads' HO220.out).2.2); (case side2 => exact (Kd.R_reads' HO220.out).2.1); rintro e w' ⟨rfl, ⟨nd, rfl⟩⟩) | ((with_reducible refine gate_callee (f := 141) rfl ?_); refine goesL_ (some 14) rfl rfl Tryz.func141 zK rfl #[.slice (some ad217) l0.length c0, .bool true, .bool false] rfl zM ?_; (with_reducible refine (blanks_edged.calls _ _ l0 true false t222 _ ?side1 ?side2 A6.out).mono ?_); (case side1 => exact zC (Kd.V_reads' HO0.out).2.2); (case side2 => exact (Kd.V_reads' HO0.out).2.1); rintro e w10 ⟨v223, rfl, ho0, hb⟩; refine ⟨_, rfl, ?_⟩; have n_ := zI (aM (Kd.V_elder' (zV HO0) (Kd.R_base ho0) hb)) (zI (aM (Kd.R_below (zR HO220) hb)) (zI (aM (Kd.R_lower (Kd.R_newM (M := fun k_ => (w.heap.size ≤ k_)) ho0 (below_size zB) (fun k_ h_ => h_)) (below_size zB))) (aM (below_step zB hb)))); clear HO0 HO220 HB; obtain ⟨HO0, HO220, HO224, HB⟩ := n_; (try clear hb); (try clear hk); (try clear ho0)))
    go_ret
    exact ⟨_, zE, Kd.V_mono (Kd.R_V (by (with_reducible repeat (first | apply Kd.R_alloc | apply Kd.R_drewN | apply Kd.R_drew)); exact Kd.R_mono HO224.out (fun _ hk => hk.1))) (fun k_ hk => by first | exact ⟨(.inr (hk.1)), hk.2⟩ | exact (.inr (hk))), zB⟩
   ·replace c5 := Bool.eq_false_iff.mpr c5
    subst c5
    rw [if_neg (show ¬ (false = true) by decide)] at H
    obtain rfl := sI H
    have p217 : 0 ≤ (0 : Int) := (by omega)
    have q217 : 0 < (l0.length : Int) := zoA
    obtain ⟨ad217, e217, hx217_0⟩ := Kd.at_int (Kd.V_reads' HO0.out).2.2 0 p217 q217
    cases e217
    have qi217 : (0 < l0.length) = True := eq_true (by omega)
    (try rw [show ((0 : Int)).toNat = 0 from rfl] at hx217_0)
    (try rw [Addr.add_zero'] at hx217_0)
    replace p217 := eq_true p217
    replace q217 := eq_true q217
    go_enter Tryz.func144, Tryz.ntmps144
    go_wp2_with (first | ((with_reducible refine gate_dst (N := 10) rfl ?_); (try (refine gate_guard (by rfl) ?_; dsimp only)); refine Kd.R_lit (Kd.int .i64) _ 3 ?hg (N := 10) ?hd (xs := ([3] : List Int)) (inner := [.int .i64 3]) (ok := fun _ => True) (okp := fun _ => True) ?hr ?hp (fun _ hk => hk) trivial (Below.refl _ _) (Nat.le_refl _) (by simp) ?_; (case hd => rfl); (case hg => rfl); (case hr => first | (go_simp; done) | (go_simp; rfl)); (case hp => exact (Reps.one (show Kd.M (Kd.int .i64) _ _ _ 3 [.int .i64 3] from rfl) (Reps.none _ _))); intro v219 w11 ho12 hb hg_ hnew_; clear hg_ hnew_; (first | rw [← Ny218.out] at ho12 | (simp only [Int.reduceToNat] at ho12; rw [← Ny218.out] at ho12)); have n_ := zI (aM (Kd.V_elder' (zV HO0) (Kd.R_base ho12) hb)) (zI (aM (Kd.R_lower (Kd.R_newM (M := fun k_ => (w.heap.size ≤ k_)) ho12 (below_size zB) (fun k_ h_ => h_)) (below_size zB))) (aM (below_step zB hb))); clear HO0 HB; obtain ⟨HO0, HO220, HB⟩ := n_; clear hb ho12; obtain ⟨Ao13, co13, rfl⟩ := Kd.R_slice HO220.out) | (go_at_call 128; (with_reducible refine (chars_Is.calls k (rd l0 0) _ _ y218 false _ ?side1 ?side2 A4.out).mono ?_); (case side1 => exact zC (Kd.R_reads' HO220.out).2.2); (case side2 => exact (Kd.R_reads' HO220.out).2.1); rintro e w' ⟨rfl, ⟨nd, rfl⟩⟩))
    go_ret
    exact ⟨_, zE, by (with_reducible repeat (first | apply Kd.V_alloc | apply Kd.V_drewN | apply Kd.V_drew)); exact Kd.V_mono HO0.out (fun _ hk => hk.1), zB⟩
  ·rw [if_neg c3] at H
   exact absurd H (by simp)
 ·rw [if_neg c2] at H
  have c2b0 : decide (0 < (l0.length : Int)) = false := decide_eq_false c2
  have c2b1 : decide (0 < l0.length) = false := decide_eq_false (by omega)
  clear c2
  obtain rfl := sI H
  go_enter Tryz.func144, Tryz.ntmps144
  go_wp2
  go_ret
  exact ⟨_, zE, zV HO0, zB⟩

/-! ### blanks_Value: function 89 -/
def blanks_Value.f (k : Nat) (l0 : List Int) : Option (List Int) := (blanks_firm.f k l0).bind fun t225 => ((blanks_words.f k t225).bind fun t228 => ((blanks_joined.f k t228).bind fun t231 => ((blanks_edged.f t231 true true).bind fun t234 => (some t234))))
theorem blanks_Value.mono : ∀ a0 k, LeO (blanks_Value.f k a0) (blanks_Value.f (k + 1) a0) := by
 intro a0 k
 unfold blanks_Value.f
 repeat' first
   | (with_reducible exact blanks_firm.mono _ _)
   | (with_reducible exact blanks_joined.mono _ _)
   | (with_reducible exact blanks_words.mono _ _)
   | (with_reducible exact LeO.refl _)
   | exact blanks_firm.mono _ _
   | exact blanks_joined.mono _ _
   | exact blanks_words.mono _ _
   | exact LeO.none _
   | refine LeO.ite ?_ ?_
   | refine LeO.bind ?_ (fun _ => ?_)
set_option maxHeartbeats 8000000 in
set_option maxRecDepth 100000 in
theorem blanks_Value.calls (k : Nat) (A0 : Option Addr) (c0 : Nat) (l0 : List Int) (r : List Int) (w : World) (hr0 : Kd.C (Kd.int .i32) w A0 l0.length l0) (hc0 : l0.length ≤ c0) (h : blanks_Value.f k l0 = some r) :
  Calls Tryz.prog 89 #[.slice A0 l0.length c0] w fun e w' => ∃ v0_ : Value, e = .returned (v0_) ∧ Kd.R (Kd.int .i32) 21 w' w.heap.size (fun _ => True) v0_ r ∧ Below w.heap.size w w' := by
 have HR0 := aM hr0
 have HC0 := aM hc0
 clear hr0 hc0
 have HB := aM (Below.refl w.heap.size w)
 have H := h
 clear h
 unfold blanks_Value.f at H
 obtain ⟨t225, A2, H⟩ := zO H
 obtain ⟨t228, A3, H⟩ := zO H
 obtain ⟨t231, A4, H⟩ := zO H
 obtain ⟨t234, A5, H⟩ := zO H
 obtain rfl := sI H
 go_enter Tryz.func89, Tryz.ntmps89
 go_wp2_with (first | ((with_reducible refine gate_callee (f := 144) rfl ?_); refine goesL_ (some 4) rfl rfl Tryz.func144 zK rfl #[.slice A0 l0.length c0] rfl zM ?_; (with_reducible refine (blanks_firm.calls k (fun k_ => k_ < w.heap.size) _ _ l0 t225 _ ?side1 A2.out).mono ?_); (case side1 => exact Kd.V_mk HC0.out (Kd.F_below (Kd.C_F (Kd.heap_int .i32) HR0.out) zB)); rintro e w6 ⟨v226, rfl, ho0, hb⟩; refine ⟨_, rfl, ?_⟩; have n_ := zI (aM (Kd.V_lower (Kd.V_mono (ok' := fun k_ => True) ho0 (fun k_ hk_ => trivial)) (below_size zB))) (aM (below_step zB hb)); clear HB; obtain ⟨HO227, HB⟩ := n_; (try clear hb); (try clear ho0); obtain ⟨Ao7, co7, rfl⟩ := Kd.V_slice HO227.out) | ((with_reducible refine gate_callee (f := 143) rfl ?_); refine goesL_ (some 5) rfl rfl Tryz.func143 zK rfl #[.slice Ao7 t225.length co7] rfl zM ?_; (with_reducible refine (blanks_words.calls k (fun k_ => True) _ _ t225 t228 _ ?side1 A3.out).mono ?_); (case side1 => exact HO227.out); rintro e w8 ⟨v229, rfl, ho0, hb⟩; refine ⟨_, rfl, ?_⟩; have n_ := zI (aM (Kd.V_elder' (zV HO227) (Kd.N_base ho0) hb)) (zI (aM (Kd.N_lower (Kd.N_mono (ok' := fun k_ => True) ho0 (fun k_ hk_ => trivial)) (below_size zB))) (aM (below_step zB hb))); clear HO227 HB; obtain ⟨HO227, HO230, HB⟩ := n_; (try clear hb); (try clear ho0); obtain ⟨Ao9, co9, rfl⟩ := Kd.N_slice HO230.out) | ((with_reducible refine gate_callee (f := 142) rfl ?_); refine goesL_ (some 6) rfl rfl Tryz.func142 zK rfl #[.slice Ao9 t228.length co9] rfl zM ?_; (with_reducible refine (blanks_joined.calls k _ _ t228 t231 _ ?side1 ?side2 A4.out).mono ?_); (case side1 => exact zC (Kd.N_reads' HO230.out).2.2); (case side2 => exact (Kd.N_reads' HO230.out).2.1); rintro e w10 ⟨v232, rfl, ho0, hb⟩; refine ⟨_, rfl, ?_⟩; have n_ := zI (aM (Kd.V_elder' (zV HO227) (Kd.R_base ho0) hb)) (zI (aM (Kd.N_elder' (zN HO230) (Kd.R_base ho0) hb)) (zI (aM (Kd.R_lower ho0 (below_size zB))) (aM (below_step zB hb)))); clear HO227 HO230 HB; obtain ⟨HO227, HO230, HO233, HB⟩ := n_; (try clear hb); (try clear ho0); obtain ⟨Ao11, co11, rfl⟩ := Kd.R_slice HO233.out) | ((with_reducible refine gate_callee (f := 141) rfl ?_); refine goesL_ (some 7) rfl rfl Tryz.func141 zK rfl #[.slice Ao11 t231.length co11, .bool true, .bool true] rfl zM ?_; (with_reducible refine (blanks_edged.calls _ _ t231 true true t234 _ ?side1 ?side2 A5.out).mono ?_); (case side1 => exact zC (Kd.R_reads' HO233.out).2.2); (case side2 => exact (Kd.R_reads' HO233.out).2.1); rintro e w12 ⟨v235, rfl, ho0, hb⟩; refine ⟨_, rfl, ?_⟩; have n_ := zI (aM (Kd.V_elder' (zV HO227) (Kd.R_base ho0) hb)) (zI (aM (Kd.N_elder' (zN HO230) (Kd.R_base ho0) hb)) (zI (aM (Kd.R_elder' (zR HO233) (Kd.R_base ho0) hb)) (zI (aM (Kd.R_lower (Kd.R_new' ho0 (Kd.R_lt (zR HO233))) (below_size zB))) (aM (below_step zB hb))))); clear HO227 HO230 HO233 HB; obtain ⟨HO227, HO230, HO233, HO236, HB⟩ := n_; (try clear hb); (try clear ho0)))
 go_ret
 exact ⟨_, zE, by (with_reducible repeat (first | apply Kd.R_alloc | apply Kd.R_drewN | apply Kd.R_drew)); exact Kd.R_mono HO236.out (fun _ hk => trivial), zB⟩

end Go.Proofs.YtdgnekknmpfepaaGreatDoor.P
