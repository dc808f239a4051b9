-- Printed by wip/mk.py (this session's driver over the kit's print) and from wip/manual.
import Derived.Test.YtoadfanppajhhaaDoorP0
import Derived.Test.YtoadfanppajhhaaDoorP1
namespace Go.Proofs.YtoadfanppajhhaaDoor.P
open Go.RowKit Go.Proofs.YtoadfanppajhhaaDoorW.PrintWords Go.Proofs.YtoadfanppajhhaaDoorW.PrintLast Go.Proofs.YtoadfanppajhhaaDoorW.PrintMore
attribute [local go_sem] run_store_float run_store_complex max2_int min2_int max_two min_two max_three min_three max_four min_four   -- for this text's walks alone
set_option linter.unusedVariables false
set_option linter.unusedSimpArgs false

/-! ### gauss_Norm: function 18 -/
def gauss_Norm.f (a0 : (Nat × Nat)) : Option (Int) := (gauss_parts.f a0).bind fun bt146 => (if bt146.2.2 = true then (some (wrap64 ((wrap64 (bt146.1 * bt146.1)) + (wrap64 (bt146.2.1 * bt146.2.1))))) else (some (-1)))
set_option maxHeartbeats 8000000 in
set_option maxRecDepth 100000 in
theorem gauss_Norm.calls (a0 : (Nat × Nat)) (r : Int) (w : World) (h : gauss_Norm.f a0 = some r) :
  Calls Tryd.prog 18 #[.complex .f64 a0.1 a0.2] w fun e w' => e = .returned (.int .i64 r) ∧ Below w.heap.size w w' := by
 have HB := aM (Below.refl w.heap.size w)
 have H := h
 clear h
 unfold gauss_Norm.f at H
 obtain ⟨⟨t146, t147, t148⟩, A2, H⟩ := zO H
 try dsimp only at H
 by_cases c3 : t148 = true
 ·subst c3
  rw [if_pos rfl] at H
  obtain rfl := sI H
  go_enter Tryd.func18, Tryd.ntmps18
  go_wp2_with (first | ((with_reducible refine gate_callee (f := 27) rfl ?_); refine goesL_ (some 8) rfl rfl Tryd.func27 zK rfl #[.complex .f64 a0.1 a0.2] rfl zM ?_; (with_reducible refine (gauss_parts.calls a0 t146 t147 true _ A2.out).mono ?_); rintro e w4 ⟨rfl, hb⟩; refine ⟨_, rfl, ?_⟩; replace HB := aM (below_step zB hb); (try clear hb)))
  go_ret
  exact ⟨zE, zB⟩
 ·replace c3 := Bool.eq_false_iff.mpr c3
  subst c3
  rw [if_neg (show ¬ (false = true) by decide)] at H
  obtain rfl := sI H
  go_enter Tryd.func18, Tryd.ntmps18
  go_wp2_with (first | ((with_reducible refine gate_callee (f := 27) rfl ?_); refine goesL_ (some 8) rfl rfl Tryd.func27 zK rfl #[.complex .f64 a0.1 a0.2] rfl zM ?_; (with_reducible refine (gauss_parts.calls a0 t146 t147 false _ A2.out).mono ?_); rintro e w5 ⟨rfl, hb⟩; refine ⟨_, rfl, ?_⟩; replace HB := aM (below_step zB hb); (try clear hb)))
  go_ret
  exact ⟨zE, zB⟩

/-! ### toponymref14_Norm: function 19 -/
def toponymref14_Norm.f (a0_0 : Nat) (a0_1 : Nat) : Option (Int) := (toponymref14_Parts.f a0_0 a0_1).bind fun bt150 => (if bt150.2.2 = true then (some (wrap64 ((wrap64 (bt150.1 * bt150.1)) + (wrap64 (bt150.2.1 * bt150.2.1))))) else (some (-1)))
set_option maxHeartbeats 8000000 in
set_option maxRecDepth 100000 in
theorem toponymref14_Norm.calls (a0_0 : Nat) (a0_1 : Nat) (r : Int) (w : World) (h : toponymref14_Norm.f a0_0 a0_1 = some r) :
  Calls Tryd.prog 19 #[.agg #[.float .f64 a0_0, .float .f64 a0_1]] w fun e w' => e = .returned (.int .i64 r) ∧ Below w.heap.size w w' := by
 have hu32 := Tryd.underlying32
 have HB := aM (Below.refl w.heap.size w)
 have H := h
 clear h
 unfold toponymref14_Norm.f at H
 obtain ⟨⟨t150, t151, t152⟩, A2, H⟩ := zO H
 try dsimp only at H
 by_cases c3 : t152 = true
 ·subst c3
  rw [if_pos rfl] at H
  obtain rfl := sI H
  go_enter Tryd.func19, Tryd.ntmps19
  go_wp2_with (first | ((with_reducible refine gate_dst (N := 1) rfl ?_); refine box_event ?hg (N := 1) ?hd (cs := #[.float .f64 a0_0, .float .f64 a0_1]) (t := 32) ?hr ?_; (case hd => rfl); (case hg => rfl); (case hr => first | (go_simp; done) | (go_simp; rfl)); intro gb149 hg w4 hbox hb; have n_ := zI (aM (below_step zB hb)) (zI (aM (hbox)) (zI (aM ((by rw [hg]; exact (below_size zB) : w.heap.size ≤ gb149))) (aM ((by rw [hg]; exact (below_size zB) : w.heap.size ≤ gb149))))); clear HB; obtain ⟨HB, BK149, GW149, GE149⟩ := n_; clear hb hbox hg; have hcz5_0 : w4.cell? ⟨gb149, 0, none⟩ = some (.float .f64 a0_0) := (blk_cell BK149.out 0).trans rfl; have hcz5_1 : w4.cell? ⟨gb149, 1, none⟩ = some (.float .f64 a0_1) := (blk_cell BK149.out 1).trans rfl; have hfz5_0 := blk_frozen BK149.out 0; have hfz5_1 := blk_frozen BK149.out 1) | ((with_reducible refine gate_callee (f := 15) rfl ?_); refine goesL_ (some 8) rfl rfl Tryd.func15 zK rfl #[.agg #[.float .f64 a0_0, .float .f64 a0_1]] rfl zM ?_; (with_reducible refine (toponymref14_Parts.calls a0_0 a0_1 t150 t151 true _ A2.out).mono ?_); rintro e w6 ⟨rfl, hb⟩; refine ⟨_, rfl, ?_⟩; have n_ := zI (aM (blk_below (g := gb149) (o := .cells #[.float .f64 a0_0, .float .f64 a0_1] 32 (0, 0)) (by (with_reducible repeat (first | refine blk_drewN ?_ _ | refine blk_drew ?_ | refine blk_alloc ?_ _)); exact BK149.out) hb)) (aM (below_step (by repeat (first | (with_reducible first | exact HB.out | apply bA | apply bN | apply bD | refine below_set ?_ GE149.out) | exact HB.out)) hb)); clear BK149 HB; obtain ⟨BK149, HB⟩ := n_; (try clear hb)))
  go_ret
  exact ⟨zE, by repeat (first | (with_reducible first | exact HB.out | apply bA | apply bN | apply bD | refine below_set ?_ GE149.out) | exact HB.out)⟩
 ·replace c3 := Bool.eq_false_iff.mpr c3
  subst c3
  rw [if_neg (show ¬ (false = true) by decide)] at H
  obtain rfl := sI H
  go_enter Tryd.func19, Tryd.ntmps19
  go_wp2_with (first | ((with_reducible refine gate_dst (N := 1) rfl ?_); refine box_event ?hg (N := 1) ?hd (cs := #[.float .f64 a0_0, .float .f64 a0_1]) (t := 32) ?hr ?_; (case hd => rfl); (case hg => rfl); (case hr => first | (go_simp; done) | (go_simp; rfl)); intro gb149 hg w7 hbox hb; have n_ := zI (aM (below_step zB hb)) (zI (aM (hbox)) (zI (aM ((by rw [hg]; exact (below_size zB) : w.heap.size ≤ gb149))) (aM ((by rw [hg]; exact (below_size zB) : w.heap.size ≤ gb149))))); clear HB; obtain ⟨HB, BK149, GW149, GE149⟩ := n_; clear hb hbox hg; have hcz8_0 : w7.cell? ⟨gb149, 0, none⟩ = some (.float .f64 a0_0) := (blk_cell BK149.out 0).trans rfl; have hcz8_1 : w7.cell? ⟨gb149, 1, none⟩ = some (.float .f64 a0_1) := (blk_cell BK149.out 1).trans rfl; have hfz8_0 := blk_frozen BK149.out 0; have hfz8_1 := blk_frozen BK149.out 1) | ((with_reducible refine gate_callee (f := 15) rfl ?_); refine goesL_ (some 8) rfl rfl Tryd.func15 zK rfl #[.agg #[.float .f64 a0_0, .float .f64 a0_1]] rfl zM ?_; (with_reducible refine (toponymref14_Parts.calls a0_0 a0_1 t150 t151 false _ A2.out).mono ?_); rintro e w9 ⟨rfl, hb⟩; refine ⟨_, rfl, ?_⟩; have n_ := zI (aM (blk_below (g := gb149) (o := .cells #[.float .f64 a0_0, .float .f64 a0_1] 32 (0, 0)) (by (with_reducible repeat (first | refine blk_drewN ?_ _ | refine blk_drew ?_ | refine blk_alloc ?_ _)); exact BK149.out) hb)) (aM (below_step (by repeat (first | (with_reducible first | exact HB.out | apply bA | apply bN | apply bD | refine below_set ?_ GE149.out) | exact HB.out)) hb)); clear BK149 HB; obtain ⟨BK149, HB⟩ := n_; (try clear hb)))
  go_ret
  exact ⟨zE, by repeat (first | (with_reducible first | exact HB.out | apply bA | apply bN | apply bD | refine below_set ?_ GE149.out) | exact HB.out)⟩

/-! ### stringslite_HasSuffix: function 55 -/
def stringslite_HasSuffix.f (a0 : ByteArray) (a1 : ByteArray) : Option (Bool) := if (a0.size : Int) ≥ (a1.size : Int) then (if 0 ≤ (wrap64 ((a0.size : Int) - (a1.size : Int))) then (if (wrap64 ((a0.size : Int) - (a1.size : Int))) ≤ (a0.size : Int) then (some ((a0.extract ((wrap64 ((a0.size : Int) - (a1.size : Int))) : Int).toNat a0.size).toList == a1.toList)) else (none)) else (none)) else (some false)
set_option maxHeartbeats 8000000 in
set_option maxRecDepth 100000 in
theorem stringslite_HasSuffix.calls (a0 : ByteArray) (a1 : ByteArray) (r : Bool) (w : World) (h : stringslite_HasSuffix.f a0 a1 = some r) :
  Calls Tryd.prog 55 #[.string a0, .string a1] w fun e w' => e = .returned (.bool r) ∧ Drawn0 w w' := by
 have H := h
 clear h
 unfold stringslite_HasSuffix.f at H
 by_cases c3 : (a0.size : Int) ≥ (a1.size : Int)
 ·rw [if_pos c3] at H
  have c3b0 : decide ((a1.size : Int) ≤ (a0.size : Int)) = true := decide_eq_true c3
  have c3b1 : decide (a1.size ≤ a0.size) = true := decide_eq_true (Int.ofNat_le.mp c3)
  clear c3
  obtain ⟨ji4, hji4⟩ : ∃ j_ : Int, (wrap64 ((a0.size : Int) - (a1.size : Int))) = j_ := ⟨_, rfl⟩
  replace H : (if 0 ≤ (ji4) then (if (ji4) ≤ (a0.size : Int) then (some ((a0.extract ((ji4) : Int).toNat a0.size).toList == a1.toList)) else (none)) else (none)) = some r := by first | (rw [hji4] at H; exact H) | (simp only [hji4] at H ⊢; exact H)
  have hji4w : (IntKind.i64.wrap ((a0.size : Int) - (a1.size : Int))) = ji4 := (i64_w _).trans hji4
  by_cases c5 : 0 ≤ (ji4)
  ·rw [if_pos c5] at H
   have c5b0 := eq_true c5
   have c5b1 : decide (0 ≤ (ji4)) = true := decide_eq_true c5
   clear c5
   by_cases c6 : (ji4) ≤ (a0.size : Int)
   ·rw [if_pos c6] at H
    have c6b0 := eq_true c6
    have c6b1 : decide ((ji4) ≤ (a0.size : Int)) = true := decide_eq_true c6
    clear c6
    obtain rfl := sI H
    go_enter Tryd.func55, Tryd.ntmps55
    go_wp2
    go_ret
    exact ⟨by first | rfl | (simp; done) | (simp only [← hji4] <;> (first | rfl | simp)) | (simp [*]; done), zD⟩
   ·rw [if_neg c6] at H
    exact absurd H (by simp)
  ·rw [if_neg c5] at H
   exact absurd H (by simp)
 ·rw [if_neg c3] at H
  have c3b0 : decide ((a1.size : Int) ≤ (a0.size : Int)) = false := decide_eq_false c3
  have c3b1 : decide (a1.size ≤ a0.size) = false := decide_eq_false (fun h => c3 (Int.ofNat_le.mpr h))
  clear c3
  obtain rfl := sI H
  go_enter Tryd.func55, Tryd.ntmps55
  go_wp2
  go_ret
  exact ⟨zP, zD⟩

/-! ### stringslite_CutSuffix: function 46 -/
def stringslite_CutSuffix.f (a0 : ByteArray) (a1 : ByteArray) : Option (ByteArray × Bool) := (stringslite_HasSuffix.f a0 a1).bind fun t153 => (if t153 = true then (if 0 ≤ (wrap64 ((a0.size : Int) - (a1.size : Int))) then (if (wrap64 ((a0.size : Int) - (a1.size : Int))) ≤ (a0.size : Int) then (some (a0.extract 0 ((wrap64 ((a0.size : Int) - (a1.size : Int))) : Int).toNat, true)) else (none)) else (none)) else (some (a0, false)))
set_option maxHeartbeats 8000000 in
set_option maxRecDepth 100000 in
theorem stringslite_CutSuffix.calls (a0 : ByteArray) (a1 : ByteArray) (r1 : ByteArray) (r2 : Bool) (w : World) (h : stringslite_CutSuffix.f a0 a1 = some (r1, r2)) :
  Calls Tryd.prog 46 #[.string a0, .string a1] w fun e w' => e = .returned (.tuple #[.string r1, .bool r2]) ∧ Drawn0 w w' := by
 have H := h
 clear h
 unfold stringslite_CutSuffix.f at H
 obtain ⟨t153, A3, H⟩ := zO H
 by_cases c4 : t153 = true
 ·subst c4
  rw [if_pos rfl] at H
  obtain ⟨ji5, hji5⟩ : ∃ j_ : Int, (wrap64 ((a0.size : Int) - (a1.size : Int))) = j_ := ⟨_, rfl⟩
  replace H : (if 0 ≤ (ji5) then (if (ji5) ≤ (a0.size : Int) then (some (a0.extract 0 ((ji5) : Int).toNat, true)) else (none)) else (none)) = some (r1, r2) := by first | (rw [hji5] at H; exact H) | (simp only [hji5] at H ⊢; exact H)
  (try rw [hji5] at A3)
  have hji5w : (IntKind.i64.wrap ((a0.size : Int) - (a1.size : Int))) = ji5 := (i64_w _).trans hji5
  by_cases c6 : 0 ≤ (ji5)
  ·rw [if_pos c6] at H
   have c6b0 := eq_true c6
   have c6b1 : decide (0 ≤ (ji5)) = true := decide_eq_true c6
   clear c6
   by_cases c7 : (ji5) ≤ (a0.size : Int)
   ·rw [if_pos c7] at H
    have c7b0 := eq_true c7
    have c7b1 : decide ((ji5) ≤ (a0.size : Int)) = true := decide_eq_true c7
    clear c7
    simp only [Option.some.injEq, Prod.mk.injEq] at H
    obtain ⟨rfl, rfl⟩ := H
    go_enter Tryd.func46, Tryd.ntmps46
    go_wp2_with (first | ((with_reducible refine gate_callee (f := 55) rfl ?_); refine goesL_ (some 8) rfl rfl Tryd.func55 zK rfl #[.string a0, .string a1] rfl zM ?_; (with_reducible refine (stringslite_HasSuffix.calls a0 a1 true _ A3.out).mono ?_); rintro e w' ⟨rfl, ⟨nd, rfl⟩⟩; refine ⟨_, rfl, ?_⟩))
    go_ret2
    exact ⟨by first | rfl | (simp; done) | (simp only [← hji5] <;> (first | rfl | simp)) | (simp [*]; done), zD⟩
   ·rw [if_neg c7] at H
    exact absurd H (by simp)
  ·rw [if_neg c6] at H
   exact absurd H (by simp)
 ·replace c4 := Bool.eq_false_iff.mpr c4
  subst c4
  rw [if_neg (show ¬ (false = true) by decide)] at H
  simp only [Option.some.injEq, Prod.mk.injEq] at H
  obtain ⟨rfl, rfl⟩ := H
  go_enter Tryd.func46, Tryd.ntmps46
  go_wp2_with (first | ((with_reducible refine gate_callee (f := 55) rfl ?_); refine goesL_ (some 8) rfl rfl Tryd.func55 zK rfl #[.string a0, .string a1] rfl zM ?_; (with_reducible refine (stringslite_HasSuffix.calls a0 a1 false _ A3.out).mono ?_); rintro e w' ⟨rfl, ⟨nd, rfl⟩⟩; refine ⟨_, rfl, ?_⟩))
  go_ret2
  exact ⟨zP, zD⟩

/-! ### strings_CutSuffix: function 34 -/
def strings_CutSuffix.f (a0 : ByteArray) (a1 : ByteArray) : Option (ByteArray × Bool) := (stringslite_CutSuffix.f a0 a1).bind fun bt154 => (some (bt154.1, bt154.2))
set_option maxHeartbeats 8000000 in
set_option maxRecDepth 100000 in
theorem strings_CutSuffix.calls (a0 : ByteArray) (a1 : ByteArray) (r1 : ByteArray) (r2 : Bool) (w : World) (h : strings_CutSuffix.f a0 a1 = some (r1, r2)) :
  Calls Tryd.prog 34 #[.string a0, .string a1] w fun e w' => e = .returned (.tuple #[.string r1, .bool r2]) ∧ Drawn0 w w' := by
 have H := h
 clear h
 unfold strings_CutSuffix.f at H
 obtain ⟨⟨t154, t155⟩, A3, H⟩ := zO H
 try dsimp only at H
 simp only [Option.some.injEq, Prod.mk.injEq] at H
 obtain ⟨rfl, rfl⟩ := H
 go_enter Tryd.func34, Tryd.ntmps34
 go_wp2_with (first | ((with_reducible refine gate_callee (f := 46) rfl ?_); refine goesL_ (some 8) rfl rfl Tryd.func46 zK rfl #[.string a0, .string a1] rfl zM ?_; (with_reducible refine (stringslite_CutSuffix.calls a0 a1 t154 t155 _ A3.out).mono ?_); rintro e w' ⟨rfl, ⟨nd, rfl⟩⟩; refine ⟨_, rfl, ?_⟩))
 go_ret2
 exact ⟨zP, zD⟩

/-! ### strings_LastIndex: function 35, by hand (strings.LastIndex.tpl) -/
def strings_LastIndex.f (a0 : ByteArray) (a1 : ByteArray) : Option Int := if h : a1.size = 1 ∧ a0.size < 4611686018427387904 then some (Lib.lastIndexByte a0 ((a1[0]'(by omega)).toNat : Int)) else none
theorem strings_LastIndex.calls (a0 : ByteArray) (a1 : ByteArray) (r : Int) (w : World) (h : strings_LastIndex.f a0 a1 = some r) :
    Calls Tryd.prog 35 #[.string a0, .string a1] w fun e w' => e = .returned (.int .i64 r) ∧ Drawn0 w w' := by
  unfold strings_LastIndex.f at h
  by_cases c : a1.size = 1 ∧ a0.size < 4611686018427387904
  · rw [dif_pos c] at h
    obtain rfl := Option.some.inj h
    refine (Any.strings_LastIndex_one Tryd.lays148 a0 a1 c.1 c.2 w).mono ?_
    rintro e w' ⟨rfl, rfl⟩
    exact ⟨rfl, Drawn0.refl _⟩
  · rw [dif_neg c] at h
    exact absurd h (by simp)

/-! ### stringslite_HasPrefix: function 57 -/
def stringslite_HasPrefix.f (a0 : ByteArray) (a1 : ByteArray) : Option (Bool) := if (a0.size : Int) ≥ (a1.size : Int) then (if 0 ≤ (a1.size : Int) then (if (a1.size : Int) ≤ (a0.size : Int) then (some ((a0.extract 0 ((a1.size : Int) : Int).toNat).toList == a1.toList)) else (none)) else (none)) else (some false)
set_option maxHeartbeats 8000000 in
set_option maxRecDepth 100000 in
theorem stringslite_HasPrefix.calls (a0 : ByteArray) (a1 : ByteArray) (r : Bool) (w : World) (h : stringslite_HasPrefix.f a0 a1 = some r) :
  Calls Tryd.prog 57 #[.string a0, .string a1] w fun e w' => e = .returned (.bool r) ∧ Drawn0 w w' := by
 have H := h
 clear h
 unfold stringslite_HasPrefix.f at H
 by_cases c3 : (a0.size : Int) ≥ (a1.size : Int)
 ·rw [if_pos c3] at H
  have c3b0 : decide ((a1.size : Int) ≤ (a0.size : Int)) = true := decide_eq_true c3
  have c3b1 : decide (a1.size ≤ a0.size) = true := decide_eq_true (Int.ofNat_le.mp c3)
  clear c3
  by_cases c4 : 0 ≤ (a1.size : Int)
  ·rw [if_pos c4] at H
   have c4b0 := eq_true c4
   have c4b1 : decide (0 ≤ (a1.size : Int)) = true := decide_eq_true c4
   clear c4
   by_cases c5 : (a1.size : Int) ≤ (a0.size : Int)
   ·rw [if_pos c5] at H
    have c5b0 := eq_true c5
    have c5b1 : decide ((a1.size : Int) ≤ (a0.size : Int)) = true := decide_eq_true c5
    clear c5
    obtain rfl := sI H
    go_enter Tryd.func57, Tryd.ntmps57
    go_wp2
    go_ret
    exact ⟨zP, zD⟩
   ·rw [if_neg c5] at H
    exact absurd H (by simp)
  ·rw [if_neg c4] at H
   exact absurd H (by simp)
 ·rw [if_neg c3] at H
  have c3b0 : decide ((a1.size : Int) ≤ (a0.size : Int)) = false := decide_eq_false c3
  have c3b1 : decide (a1.size ≤ a0.size) = false := decide_eq_false (fun h => c3 (Int.ofNat_le.mpr h))
  clear c3
  obtain rfl := sI H
  go_enter Tryd.func57, Tryd.ntmps57
  go_wp2
  go_ret
  exact ⟨zP, zD⟩

/-! ### stringslite_TrimPrefix: function 49 -/
def stringslite_TrimPrefix.f (a0 : ByteArray) (a1 : ByteArray) : Option (ByteArray) := (stringslite_HasPrefix.f a0 a1).bind fun t156 => (if t156 = true then (if 0 ≤ (a1.size : Int) then (if (a1.size : Int) ≤ (a0.size : Int) then (some (a0.extract ((a1.size : Int) : Int).toNat a0.size)) else (none)) else (none)) else (some a0))
set_option maxHeartbeats 8000000 in
set_option maxRecDepth 100000 in
theorem stringslite_TrimPrefix.calls (a0 : ByteArray) (a1 : ByteArray) (r : ByteArray) (w : World) (h : stringslite_TrimPrefix.f a0 a1 = some r) :
  Calls Tryd.prog 49 #[.string a0, .string a1] w fun e w' => e = .returned (.string r) ∧ Drawn0 w w' := by
 have H := h
 clear h
 unfold stringslite_TrimPrefix.f at H
 obtain ⟨t156, A3, H⟩ := zO H
 by_cases c4 : t156 = true
 ·subst c4
  rw [if_pos rfl] at H
  by_cases c5 : 0 ≤ (a1.size : Int)
  ·rw [if_pos c5] at H
   have c5b0 := eq_true c5
   have c5b1 : decide (0 ≤ (a1.size : Int)) = true := decide_eq_true c5
   clear c5
   by_cases c6 : (a1.size : Int) ≤ (a0.size : Int)
   ·rw [if_pos c6] at H
    have c6b0 := eq_true c6
    have c6b1 : decide ((a1.size : Int) ≤ (a0.size : Int)) = true := decide_eq_true c6
    clear c6
    obtain rfl := sI H
    go_enter Tryd.func49, Tryd.ntmps49
    go_wp2_with (first | ((with_reducible refine gate_callee (f := 57) rfl ?_); refine goesL_ (some 7) rfl rfl Tryd.func57 zK rfl #[.string a0, .string a1] rfl zM ?_; (with_reducible refine (stringslite_HasPrefix.calls a0 a1 true _ A3.out).mono ?_); rintro e w' ⟨rfl, ⟨nd, rfl⟩⟩; refine ⟨_, rfl, ?_⟩))
    go_ret
    exact ⟨zP, zD⟩
   ·rw [if_neg c6] at H
    exact absurd H (by simp)
  ·rw [if_neg c5] at H
   exact absurd H (by simp)
 ·replace c4 := Bool.eq_false_iff.mpr c4
  subst c4
  rw [if_neg (show ¬ (false = true) by decide)] at H
  obtain rfl := sI H
  go_enter Tryd.func49, Tryd.ntmps49
  go_wp2_with (first | ((with_reducible refine gate_callee (f := 57) rfl ?_); refine goesL_ (some 7) rfl rfl Tryd.func57 zK rfl #[.string a0, .string a1] rfl zM ?_; (with_reducible refine (stringslite_HasPrefix.calls a0 a1 false _ A3.out).mono ?_); rintro e w' ⟨rfl, ⟨nd, rfl⟩⟩; refine ⟨_, rfl, ?_⟩))
  go_ret
  exact ⟨zP, zD⟩

/-! ### strings_TrimPrefix: function 36 -/
def strings_TrimPrefix.f (a0 : ByteArray) (a1 : ByteArray) : Option (ByteArray) := (stringslite_TrimPrefix.f a0 a1).bind fun t157 => (some t157)
set_option maxHeartbeats 8000000 in
set_option maxRecDepth 100000 in
theorem strings_TrimPrefix.calls (a0 : ByteArray) (a1 : ByteArray) (r : ByteArray) (w : World) (h : strings_TrimPrefix.f a0 a1 = some r) :
  Calls Tryd.prog 36 #[.string a0, .string a1] w fun e w' => e = .returned (.string r) ∧ Drawn0 w w' := by
 have H := h
 clear h
 unfold strings_TrimPrefix.f at H
 obtain ⟨t157, A3, H⟩ := zO H
 obtain rfl := sI H
 go_enter Tryd.func36, Tryd.ntmps36
 go_wp2_with (first | ((with_reducible refine gate_callee (f := 49) rfl ?_); refine goesL_ (some 7) rfl rfl Tryd.func49 zK rfl #[.string a0, .string a1] rfl zM ?_; (with_reducible refine (stringslite_TrimPrefix.calls a0 a1 t157 _ A3.out).mono ?_); rintro e w' ⟨rfl, ⟨nd, rfl⟩⟩; refine ⟨_, rfl, ?_⟩))
 go_ret
 exact ⟨zP, zD⟩

/-! ### gauss_number: function 37, by hand (gauss.number.tpl) -/
theorem gatoi_ok (s : ByteArray) (hs : s.size ≤ 18) (v : Int) (h : Lib.atoi s.data.toList = some v) (w : World) :
    Calls Tryd.prog 50 #[.string s] w fun e w' => e = .returned (.tuple #[.int .i64 v, .nilIface]) ∧ Below w.heap.size w w' := by
  refine (Any.strconv_Atoi Tryd.lays172 s v hs h w).mono ?_
  rintro e w' ⟨rfl, t, rfl⟩
  exact ⟨rfl, Lib.bytesWorld_below _ _ _⟩
theorem gatoi_no (s : ByteArray) (hs : s.size ≤ 18) (h : Lib.atoi s.data.toList = none) (w : World) (hE : Env w) :
    Calls Tryd.prog 50 #[.string s] w fun e w' => ∃ (N : Nat), e = .returned (.tuple #[.int .i64 0, .iface 105 (.pointer (some ⟨N, 0, none⟩))]) ∧ Below w.heap.size w w' := by
  obtain ⟨_, ⟨tp, p, t2, b2, h2⟩, _, _⟩ := hE
  refine (Any.strconv_Atoi_err_var Tryd.laysC172 s hs h tp p w ?_).mono ?_
  · unfold World.var?
    rw [show Program.globalNamed Tryd.prog _ = some 2 from by kernel_rfl]
    simp only [Option.bind_some, h2]
  · rintro e w' ⟨N, rfl, _, _, hb⟩
    exact ⟨N, rfl, hb⟩
def gauss_number.f (a0 : ByteArray) : Option (Int × Bool) := if a0.size ≤ 18 then (match Lib.atoi a0.data.toList with | some n => some (n, decide (a0.size ≤ 7)) | none => some (0, false)) else none
set_option maxHeartbeats 8000000 in
set_option maxRecDepth 100000 in
theorem gauss_number.calls (a0 : ByteArray) (r1 : Int) (r2 : Bool) (w : World) (hE : Env w) (h : gauss_number.f a0 = some (r1, r2)) :
    Calls Tryd.prog 37 #[.string a0] w fun e w' => e = .returned (.tuple #[.int .i64 r1, .bool r2]) ∧ Below w.heap.size w w' := by
  unfold gauss_number.f at h
  by_cases c : a0.size ≤ 18
  rotate_left
  · rw [if_neg c] at h; exact absurd h (by simp)
  rw [if_pos c] at h
  have hC := Aside0.mk c
  have HE := Aside0.mk hE
  clear c hE
  cases hh : Lib.atoi a0.data.toList with
  | some n =>
    have HH := Aside0.mk hh
    rw [hh] at h
    clear hh
    simp only [Option.some.injEq, Prod.mk.injEq] at h
    obtain ⟨rfl, rfl⟩ := h
    by_cases c7 : a0.size ≤ 7
    all_goals
      (first | have b1 : decide (a0.size ≤ 7) = true := decide_eq_true c7 | have b1 : decide (a0.size ≤ 7) = false := decide_eq_false c7)
      (first | have b2 : decide ((a0.size : Int) ≤ 7) = true := decide_eq_true (by omega) | have b2 : decide ((a0.size : Int) ≤ 7) = false := decide_eq_false (by omega))
      clear c7
      go_enter Tryd.func37, Tryd.ntmps37
      go_wp2_with (go_at_call 50; (with_reducible refine (gatoi_ok a0 hC.out _ HH.out _).mono ?_); rintro e w1 ⟨rfl, hb⟩; have HB := Aside0.mk hb; clear hb)
      go_ret2
      exact ⟨by first | rfl | simp [b1], by first | exact HB.out | exact Below.trans (pw_below_drewN (Below.refl _ _) _) HB.out⟩
  | none =>
    have HH := Aside0.mk hh
    rw [hh] at h
    clear hh
    simp only [Option.some.injEq, Prod.mk.injEq] at h
    obtain ⟨rfl, rfl⟩ := h
    go_enter Tryd.func37, Tryd.ntmps37
    go_wp2_with (go_at_call 50; (with_reducible refine (gatoi_no a0 hC.out HH.out _ HE.out).mono ?_); rintro e w1 ⟨N, rfl, hb⟩; have HB := Aside0.mk hb; clear hb)
    go_ret2
    exact ⟨rfl, by first | exact HB.out | exact Below.trans (pw_below_drewN (Below.refl _ _) _) HB.out⟩

/-! ### gauss_Parse: function 21 -/
def gauss_Parse.j0 : Nat → ByteArray → ByteArray → ByteArray → Option ((Nat × Nat) × Int)
 | 0, _, _, _ => none
 | k + 1, x0, x4, x5 => (gauss_number.f x4).bind fun bt163 => ((gauss_number.f x5).bind fun bt165 => ((gauss_whole.f bt163.1 bt165.1).bind fun t167 => ((gauss_Show.f t167).bind fun bt168 => (if bt163.2 = true then (if bt165.2 = true then (if bt168.2 = 0 then (if bt168.1.toList = x0.toList then (some (t167, 0)) else (some ((0, 0), 140))) else (some ((0, 0), 140))) else (some ((0, 0), 140))) else (some ((0, 0), 140))))))
def gauss_Parse.f (k : Nat) (a0 : ByteArray) : Option ((Nat × Nat) × Int) := if (a0.size : Int) > 16 then (some ((0, 0), 140)) else ((strings_CutSuffix.f a0 (⟨#[105]⟩ : ByteArray)).bind fun bt158 => (if bt158.2 = true then ((strings_LastIndex.f bt158.1 (⟨#[43]⟩ : ByteArray)).bind fun t160 => ((strings_LastIndex.f bt158.1 (⟨#[45]⟩ : ByteArray)).bind fun t161 => (if (mx t160 t161) > 0 then (if 0 ≤ (mx t160 t161) then (if (mx t160 t161) ≤ (bt158.1.size : Int) then ((strings_TrimPrefix.f (bt158.1.extract ((mx t160 t161) : Int).toNat bt158.1.size) (⟨#[43]⟩ : ByteArray)).bind fun t162 => (gauss_Parse.j0 k a0 (bt158.1.extract 0 ((mx t160 t161) : Int).toNat) t162)) else (none)) else (none)) else (gauss_Parse.j0 k a0 (⟨#[48]⟩ : ByteArray) bt158.1)))) else (gauss_Parse.j0 k a0 a0 (⟨#[48]⟩ : ByteArray))))
theorem gauss_Parse.mono_l : ∀ k, (∀ y0 y1 y2, LeO (gauss_Parse.j0 k y0 y1 y2) (gauss_Parse.j0 (k + 1) y0 y1 y2))
 | 0 => fun _ _ _ r h => by simp [gauss_Parse.j0] at h
 | k + 1 => by
  have ih0 := gauss_Parse.mono_l k
  ·intro y0 y1 y2
   unfold gauss_Parse.j0
   repeat' first
   | (with_reducible exact ih0 _ _ _)
   | (with_reducible exact LeO.refl _)
   | exact ih0 _ _ _
   | exact LeO.none _
   | refine LeO.ite ?_ ?_
   | refine LeO.bind ?_ (fun _ => ?_)
theorem gauss_Parse.mono : ∀ a0 k, LeO (gauss_Parse.f k a0) (gauss_Parse.f (k + 1) a0) := by
 intro a0 k
 have ih0 := gauss_Parse.mono_l k
 unfold gauss_Parse.f
 repeat' first
   | (with_reducible exact ih0 _ _ _)
   | (with_reducible exact LeO.refl _)
   | exact ih0 _ _ _
   | exact LeO.none _
   | refine LeO.ite ?_ ?_
   | refine LeO.bind ?_ (fun _ => ?_)
set_option maxHeartbeats 8000000 in
set_option maxRecDepth 100000 in
theorem gauss_Parse.calls (k : Nat) (a0 : ByteArray) (r1 : (Nat × Nat)) (r2 : Int) (w : World) (hE : Env w) (h : gauss_Parse.f k a0 = some (r1, r2)) :
  Calls Tryd.prog 21 #[.string a0] w fun e w' => e = .returned (.tuple #[.complex .f64 r1.1 r1.2, .int .i64 r2]) ∧ Below w.heap.size w w' := by
 have HE := aM hE
 clear hE
 have HB := aM (Below.refl w.heap.size w)
 have H := h
 clear h
 unfold gauss_Parse.f at H
 by_cases c2 : (a0.size : Int) > 16
 ·rw [if_pos c2] at H
  have c2b0 : decide (16 < (a0.size : Int)) = true := decide_eq_true c2
  have c2b1 : decide (16 < a0.size) = true := decide_eq_true (by omega)
  clear c2
  simp only [Option.some.injEq, Prod.mk.injEq] at H
  obtain ⟨rfl, rfl⟩ := H
  go_enter Tryd.func21, Tryd.ntmps21
  go_wp2
  repeat (go_quiet (fail); try go_wp2)
  go_ret2
  exact ⟨zE, zB⟩
 ·rw [if_neg c2] at H
  have c2b0 : decide (16 < (a0.size : Int)) = false := decide_eq_false c2
  have c2b1 : decide (16 < a0.size) = false := decide_eq_false (by omega)
  clear c2
  obtain ⟨⟨t158, t159⟩, A3, H⟩ := zO H
  try dsimp only at H
  have HC4 := aM H
  clear H
  go_enter Tryd.func21, Tryd.ntmps21
  go_upto_if 25 with (first | (go_at_call 34; (with_reducible refine (strings_CutSuffix.calls a0 (⟨#[105]⟩ : ByteArray) t158 t159 _ A3.out).mono ?_); rintro e w' ⟨rfl, ⟨nd, rfl⟩⟩; (try first | exact ⟨rfl, _, World.drewN_drewN _ _ _⟩ | exact ⟨rfl, _, Eq.trans (World.drewN_drewN _ _ _) (congrArg (World.drewN _) (Nat.add_assoc _ _ _))⟩)))
  repeat (go_quiet (first | (go_at_call 34; (with_reducible refine (strings_CutSuffix.calls a0 (⟨#[105]⟩ : ByteArray) t158 t159 _ A3.out).mono ?_); rintro e w' ⟨rfl, ⟨nd, rfl⟩⟩; (try first | exact ⟨rfl, _, World.drewN_drewN _ _ _⟩ | exact ⟨rfl, _, Eq.trans (World.drewN_drewN _ _ _) (congrArg (World.drewN _) (Nat.add_assoc _ _ _))⟩))); go_upto_if 25 with (first | (go_at_call 34; (with_reducible refine (strings_CutSuffix.calls a0 (⟨#[105]⟩ : ByteArray) t158 t159 _ A3.out).mono ?_); rintro e w' ⟨rfl, ⟨nd, rfl⟩⟩; (try first | exact ⟨rfl, _, World.drewN_drewN _ _ _⟩ | exact ⟨rfl, _, Eq.trans (World.drewN_drewN _ _ _) (congrArg (World.drewN _) (Nat.add_assoc _ _ _))⟩))))
  (try simp only [Act.put, List.setIfInBounds_toArray, List.set_cons_zero, List.set_cons_succ])
  go_cut [4, 5] (fun v4 v5 wc => ∃ (kq : Nat) (x4_3 : ByteArray) (x5_3 : ByteArray), v4 = .string x4_3 ∧ v5 = .string x5_3 ∧ Aside0 (gauss_Parse.j0 kq a0 x4_3 x5_3 = some (r1, r2)) ∧ Aside0 (kq ≤ k) ∧ Aside0 (Below w.heap.size w wc))
  case first =>
   have H := HC4.out
   clear HC4
   by_cases c5 : t159 = true
   ·subst c5
    rw [if_pos rfl] at H
    obtain ⟨t160, A6, H⟩ := zO H
    obtain ⟨t161, A7, H⟩ := zO H
    obtain ⟨ji8, hji8⟩ : ∃ j_ : Int, (mx t160 t161) = j_ := ⟨_, rfl⟩
    replace H : (if (ji8) > 0 then (if 0 ≤ (ji8) then (if (ji8) ≤ (t158.size : Int) then ((strings_TrimPrefix.f (t158.extract ((ji8) : Int).toNat t158.size) (⟨#[43]⟩ : ByteArray)).bind fun t162 => (gauss_Parse.j0 k a0 (t158.extract 0 ((ji8) : Int).toNat) t162)) else (none)) else (none)) else (gauss_Parse.j0 k a0 (⟨#[48]⟩ : ByteArray) t158)) = some (r1, r2) := by first | (rw [hji8] at H; exact H) | (simp only [hji8] at H ⊢; exact H)
    (try rw [hji8] at A6)
    (try rw [hji8] at A7)
    have hji8_ : (if t160 < t161 then t161 else t160) = ji8 := hji8
    by_cases c9 : (ji8) > 0
    ·rw [if_pos c9] at H
     have c9b0 : decide (0 < (ji8)) = true := decide_eq_true c9
     clear c9
     (first | rw [c9b0] | (simp only [i64_w, i32_w]; rw [c9b0]) | skip)
     by_cases c10 : 0 ≤ (ji8)
     ·rw [if_pos c10] at H
      have c10b0 := eq_true c10
      have c10b1 : decide (0 ≤ (ji8)) = true := decide_eq_true c10
      clear c10
      by_cases c11 : (ji8) ≤ (t158.size : Int)
      ·rw [if_pos c11] at H
       have c11b0 := eq_true c11
       have c11b1 : decide ((ji8) ≤ (t158.size : Int)) = true := decide_eq_true c11
       clear c11
       have c12b0 := eq_true (zoA : 0 ≤ (ji8))
       have c13b0 := eq_true (zoA : (ji8) ≤ (t158.size : Int))
       obtain ⟨t162, A14, H⟩ := zO H
       have H' := aM H
       clear H
       go_wp2_with (first | (go_at_call 35; (with_reducible refine (strings_LastIndex.calls t158 (⟨#[43]⟩ : ByteArray) t160 _ A6.out).mono ?_); rintro e w' ⟨rfl, ⟨nd, rfl⟩⟩; (try clear A6); (try first | exact ⟨rfl, _, World.drewN_drewN _ _ _⟩ | exact ⟨rfl, _, Eq.trans (World.drewN_drewN _ _ _) (congrArg (World.drewN _) (Nat.add_assoc _ _ _))⟩)) | (go_at_call 35; (with_reducible refine (strings_LastIndex.calls t158 (⟨#[45]⟩ : ByteArray) t161 _ A7.out).mono ?_); rintro e w' ⟨rfl, ⟨nd, rfl⟩⟩; (try clear A7); (try first | exact ⟨rfl, _, World.drewN_drewN _ _ _⟩ | exact ⟨rfl, _, Eq.trans (World.drewN_drewN _ _ _) (congrArg (World.drewN _) (Nat.add_assoc _ _ _))⟩)) | (go_at_call 36; (with_reducible refine (strings_TrimPrefix.calls (t158.extract ((ji8) : Int).toNat t158.size) (⟨#[43]⟩ : ByteArray) t162 _ A14.out).mono ?_); rintro e w' ⟨rfl, ⟨nd, rfl⟩⟩; (try first | exact ⟨rfl, _, World.drewN_drewN _ _ _⟩ | exact ⟨rfl, _, Eq.trans (World.drewN_drewN _ _ _) (congrArg (World.drewN _) (Nat.add_assoc _ _ _))⟩)))
       repeat (go_quiet (first | (go_at_call 35; (with_reducible refine (strings_LastIndex.calls t158 (⟨#[43]⟩ : ByteArray) t160 _ A6.out).mono ?_); rintro e w' ⟨rfl, ⟨nd, rfl⟩⟩; (try clear A6); (try first | exact ⟨rfl, _, World.drewN_drewN _ _ _⟩ | exact ⟨rfl, _, Eq.trans (World.drewN_drewN _ _ _) (congrArg (World.drewN _) (Nat.add_assoc _ _ _))⟩)) | (go_at_call 35; (with_reducible refine (strings_LastIndex.calls t158 (⟨#[45]⟩ : ByteArray) t161 _ A7.out).mono ?_); rintro e w' ⟨rfl, ⟨nd, rfl⟩⟩; (try clear A7); (try first | exact ⟨rfl, _, World.drewN_drewN _ _ _⟩ | exact ⟨rfl, _, Eq.trans (World.drewN_drewN _ _ _) (congrArg (World.drewN _) (Nat.add_assoc _ _ _))⟩)) | (go_at_call 36; (with_reducible refine (strings_TrimPrefix.calls (t158.extract ((ji8) : Int).toNat t158.size) (⟨#[43]⟩ : ByteArray) t162 _ A14.out).mono ?_); rintro e w' ⟨rfl, ⟨nd, rfl⟩⟩; (try first | exact ⟨rfl, _, World.drewN_drewN _ _ _⟩ | exact ⟨rfl, _, Eq.trans (World.drewN_drewN _ _ _) (congrArg (World.drewN _) (Nat.add_assoc _ _ _))⟩))); try go_wp2_with (first | (go_at_call 35; (with_reducible refine (strings_LastIndex.calls t158 (⟨#[43]⟩ : ByteArray) t160 _ A6.out).mono ?_); rintro e w' ⟨rfl, ⟨nd, rfl⟩⟩; (try clear A6); (try first | exact ⟨rfl, _, World.drewN_drewN _ _ _⟩ | exact ⟨rfl, _, Eq.trans (World.drewN_drewN _ _ _) (congrArg (World.drewN _) (Nat.add_assoc _ _ _))⟩)) | (go_at_call 35; (with_reducible refine (strings_LastIndex.calls t158 (⟨#[45]⟩ : ByteArray) t161 _ A7.out).mono ?_); rintro e w' ⟨rfl, ⟨nd, rfl⟩⟩; (try clear A7); (try first | exact ⟨rfl, _, World.drewN_drewN _ _ _⟩ | exact ⟨rfl, _, Eq.trans (World.drewN_drewN _ _ _) (congrArg (World.drewN _) (Nat.add_assoc _ _ _))⟩)) | (go_at_call 36; (with_reducible refine (strings_TrimPrefix.calls (t158.extract ((ji8) : Int).toNat t158.size) (⟨#[43]⟩ : ByteArray) t162 _ A14.out).mono ?_); rintro e w' ⟨rfl, ⟨nd, rfl⟩⟩; (try first | exact ⟨rfl, _, World.drewN_drewN _ _ _⟩ | exact ⟨rfl, _, Eq.trans (World.drewN_drewN _ _ _) (congrArg (World.drewN _) (Nat.add_assoc _ _ _))⟩))))
       go_meet
       case rel => exact ⟨_, (t158.extract 0 ((ji8) : Int).toNat), (t162), (by first | rfl | (simp; done) | (simp only [← hji8] <;> (first | rfl | simp)) | (simp [*]; done)), zP, H', ⟨by first | omega | exact Nat.le_refl _⟩, ⟨zB⟩⟩
      ·rw [if_neg c11] at H
       exact absurd H (by simp)
     ·rw [if_neg c10] at H
      exact absurd H (by simp)
    ·rw [if_neg c9] at H
     have c9b0 : decide (0 < (ji8)) = false := decide_eq_false c9
     clear c9
     (first | rw [c9b0] | (simp only [i64_w, i32_w]; rw [c9b0]) | skip)
     have H' := aM H
     clear H
     go_wp2_with (first | (go_at_call 35; (with_reducible refine (strings_LastIndex.calls t158 (⟨#[43]⟩ : ByteArray) t160 _ A6.out).mono ?_); rintro e w' ⟨rfl, ⟨nd, rfl⟩⟩; (try clear A6); (try first | exact ⟨rfl, _, World.drewN_drewN _ _ _⟩ | exact ⟨rfl, _, Eq.trans (World.drewN_drewN _ _ _) (congrArg (World.drewN _) (Nat.add_assoc _ _ _))⟩)) | (go_at_call 35; (with_reducible refine (strings_LastIndex.calls t158 (⟨#[45]⟩ : ByteArray) t161 _ A7.out).mono ?_); rintro e w' ⟨rfl, ⟨nd, rfl⟩⟩; (try clear A7); (try first | exact ⟨rfl, _, World.drewN_drewN _ _ _⟩ | exact ⟨rfl, _, Eq.trans (World.drewN_drewN _ _ _) (congrArg (World.drewN _) (Nat.add_assoc _ _ _))⟩)))
     repeat (go_quiet (first | (go_at_call 35; (with_reducible refine (strings_LastIndex.calls t158 (⟨#[43]⟩ : ByteArray) t160 _ A6.out).mono ?_); rintro e w' ⟨rfl, ⟨nd, rfl⟩⟩; (try clear A6); (try first | exact ⟨rfl, _, World.drewN_drewN _ _ _⟩ | exact ⟨rfl, _, Eq.trans (World.drewN_drewN _ _ _) (congrArg (World.drewN _) (Nat.add_assoc _ _ _))⟩)) | (go_at_call 35; (with_reducible refine (strings_LastIndex.calls t158 (⟨#[45]⟩ : ByteArray) t161 _ A7.out).mono ?_); rintro e w' ⟨rfl, ⟨nd, rfl⟩⟩; (try clear A7); (try first | exact ⟨rfl, _, World.drewN_drewN _ _ _⟩ | exact ⟨rfl, _, Eq.trans (World.drewN_drewN _ _ _) (congrArg (World.drewN _) (Nat.add_assoc _ _ _))⟩))); try go_wp2_with (first | (go_at_call 35; (with_reducible refine (strings_LastIndex.calls t158 (⟨#[43]⟩ : ByteArray) t160 _ A6.out).mono ?_); rintro e w' ⟨rfl, ⟨nd, rfl⟩⟩; (try clear A6); (try first | exact ⟨rfl, _, World.drewN_drewN _ _ _⟩ | exact ⟨rfl, _, Eq.trans (World.drewN_drewN _ _ _) (congrArg (World.drewN _) (Nat.add_assoc _ _ _))⟩)) | (go_at_call 35; (with_reducible refine (strings_LastIndex.calls t158 (⟨#[45]⟩ : ByteArray) t161 _ A7.out).mono ?_); rintro e w' ⟨rfl, ⟨nd, rfl⟩⟩; (try clear A7); (try first | exact ⟨rfl, _, World.drewN_drewN _ _ _⟩ | exact ⟨rfl, _, Eq.trans (World.drewN_drewN _ _ _) (congrArg (World.drewN _) (Nat.add_assoc _ _ _))⟩))))
     go_meet
     case rel => exact ⟨_, ((⟨#[48]⟩ : ByteArray)), (t158), zP, zP, H', ⟨by first | omega | exact Nat.le_refl _⟩, ⟨zB⟩⟩
   ·replace c5 := Bool.eq_false_iff.mpr c5
    subst c5
    rw [if_neg (show ¬ (false = true) by decide)] at H
    have H' := aM H
    clear H
    go_wp2
    repeat (go_quiet (fail); try go_wp2)
    go_meet
    case rel => exact ⟨_, (a0), ((⟨#[48]⟩ : ByteArray)), zP, zP, H', ⟨by first | omega | exact Nat.le_refl _⟩, ⟨zB⟩⟩
  case rest =>
   clear HC4
   try clear c1
   try clear c2
   try clear c2b0
   try clear c2b1
   try clear p2
   try clear c5
   try clear c9
   try clear c9b0
   try clear c10
   try clear c10b0
   try clear c10b1
   try clear c11
   try clear c11b0
   try clear c11b1
   try clear c12
   try clear c12b0
   try clear c13
   try clear c13b0
   obtain ⟨kq, x4_3, x5_3, rfl, rfl, HA, HJ3, HB⟩ := hcut
   cases kq with
   | zero => exact absurd HA.out (by simp [gauss_Parse.j0])
   | succ kj3 =>
    have H := HA.out
    clear HA
    simp only [gauss_Parse.j0] at H
    obtain ⟨⟨t163, t164⟩, A15, H⟩ := zO H
    try dsimp only at H
    obtain ⟨⟨t165, t166⟩, A16, H⟩ := zO H
    try dsimp only at H
    obtain ⟨t167, A17, H⟩ := zO H
    obtain ⟨⟨t168, t169⟩, A18, H⟩ := zO H
    try dsimp only at H
    by_cases c19 : t164 = true
    ·subst c19
     rw [if_pos rfl] at H
     by_cases c20 : t166 = true
     ·subst c20
      rw [if_pos rfl] at H
      by_cases c21 : t169 = 0
      ·rw [if_pos c21] at H
       have c21b0 : (t169 == 0) = true := beq_iff_eq.mpr c21
       have c21b1 : (t169 != 0) = false := bne_eq_false_iff_eq.mpr c21
       clear c21
       by_cases c22 : t168.toList = a0.toList
       ·rw [if_pos c22] at H
        have c22b0 : (t168.toList == a0.toList) = true := beq_iff_eq.mpr c22
        have c22b1 : (t168.toList != a0.toList) = false := bne_eq_false_iff_eq.mpr c22
        clear c22
        simp only [Option.some.injEq, Prod.mk.injEq] at H
        obtain ⟨rfl, rfl⟩ := H
        go_wp2_with (first | (go_at_call 37; (with_reducible refine (gauss_number.calls x4_3 t163 true _ (zEnv HE) A15.out).mono ?_); rintro e w23 ⟨rfl, hb⟩; (try clear A15); replace HB := aM (below_step zB hb); (try clear hb)) | (go_at_call 37; (with_reducible refine (gauss_number.calls x5_3 t165 true _ (zEnv HE) A16.out).mono ?_); rintro e w24 ⟨rfl, hb⟩; (try clear A16); replace HB := aM (below_step zB hb); (try clear hb)) | (go_at_call 32; (with_reducible refine (gauss_whole.calls t163 t165 t167 _ A17.out).mono ?_); rintro e w25 ⟨rfl, hb⟩; replace HB := aM (below_step zB hb); (try clear hb)) | (go_at_call 9; (with_reducible refine (gauss_Show.calls t167 t168 t169 _ (zEnv HE) A18.out).mono ?_); rintro e w26 ⟨rfl, hb⟩; replace HB := aM (below_step zB hb); (try clear hb)))
        repeat (go_quiet (first | (go_at_call 37; (with_reducible refine (gauss_number.calls x4_3 t163 true _ (zEnv HE) A15.out).mono ?_); rintro e w23 ⟨rfl, hb⟩; (try clear A15); replace HB := aM (below_step zB hb); (try clear hb)) | (go_at_call 37; (with_reducible refine (gauss_number.calls x5_3 t165 true _ (zEnv HE) A16.out).mono ?_); rintro e w24 ⟨rfl, hb⟩; (try clear A16); replace HB := aM (below_step zB hb); (try clear hb)) | (go_at_call 32; (with_reducible refine (gauss_whole.calls t163 t165 t167 _ A17.out).mono ?_); rintro e w25 ⟨rfl, hb⟩; replace HB := aM (below_step zB hb); (try clear hb)) | (go_at_call 9; (with_reducible refine (gauss_Show.calls t167 t168 t169 _ (zEnv HE) A18.out).mono ?_); rintro e w26 ⟨rfl, hb⟩; replace HB := aM (below_step zB hb); (try clear hb))); try go_wp2_with (first | (go_at_call 37; (with_reducible refine (gauss_number.calls x4_3 t163 true _ (zEnv HE) A15.out).mono ?_); rintro e w23 ⟨rfl, hb⟩; (try clear A15); replace HB := aM (below_step zB hb); (try clear hb)) | (go_at_call 37; (with_reducible refine (gauss_number.calls x5_3 t165 true _ (zEnv HE) A16.out).mono ?_); rintro e w24 ⟨rfl, hb⟩; (try clear A16); replace HB := aM (below_step zB hb); (try clear hb)) | (go_at_call 32; (with_reducible refine (gauss_whole.calls t163 t165 t167 _ A17.out).mono ?_); rintro e w25 ⟨rfl, hb⟩; replace HB := aM (below_step zB hb); (try clear hb)) | (go_at_call 9; (with_reducible refine (gauss_Show.calls t167 t168 t169 _ (zEnv HE) A18.out).mono ?_); rintro e w26 ⟨rfl, hb⟩; replace HB := aM (below_step zB hb); (try clear hb))))
        go_ret2
        exact ⟨zE, zB⟩
       ·rw [if_neg c22] at H
        have c22b0 : (t168.toList == a0.toList) = false := beq_eq_false_iff_ne.mpr c22
        have c22b1 : (t168.toList != a0.toList) = true := bne_iff_ne.mpr c22
        simp only [Option.some.injEq, Prod.mk.injEq] at H
        obtain ⟨rfl, rfl⟩ := H
        go_wp2_with (first | (go_at_call 37; (with_reducible refine (gauss_number.calls x4_3 t163 true _ (zEnv HE) A15.out).mono ?_); rintro e w27 ⟨rfl, hb⟩; (try clear A15); replace HB := aM (below_step zB hb); (try clear hb)) | (go_at_call 37; (with_reducible refine (gauss_number.calls x5_3 t165 true _ (zEnv HE) A16.out).mono ?_); rintro e w28 ⟨rfl, hb⟩; (try clear A16); replace HB := aM (below_step zB hb); (try clear hb)) | (go_at_call 32; (with_reducible refine (gauss_whole.calls t163 t165 t167 _ A17.out).mono ?_); rintro e w29 ⟨rfl, hb⟩; replace HB := aM (below_step zB hb); (try clear hb)) | (go_at_call 9; (with_reducible refine (gauss_Show.calls t167 t168 t169 _ (zEnv HE) A18.out).mono ?_); rintro e w30 ⟨rfl, hb⟩; replace HB := aM (below_step zB hb); (try clear hb)))
        repeat (go_quiet (first | (go_at_call 37; (with_reducible refine (gauss_number.calls x4_3 t163 true _ (zEnv HE) A15.out).mono ?_); rintro e w27 ⟨rfl, hb⟩; (try clear A15); replace HB := aM (below_step zB hb); (try clear hb)) | (go_at_call 37; (with_reducible refine (gauss_number.calls x5_3 t165 true _ (zEnv HE) A16.out).mono ?_); rintro e w28 ⟨rfl, hb⟩; (try clear A16); replace HB := aM (below_step zB hb); (try clear hb)) | (go_at_call 32; (with_reducible refine (gauss_whole.calls t163 t165 t167 _ A17.out).mono ?_); rintro e w29 ⟨rfl, hb⟩; replace HB := aM (below_step zB hb); (try clear hb)) | (go_at_call 9; (with_reducible refine (gauss_Show.calls t167 t168 t169 _ (zEnv HE) A18.out).mono ?_); rintro e w30 ⟨rfl, hb⟩; replace HB := aM (below_step zB hb); (try clear hb))); try go_wp2_with (first | (go_at_call 37; (with_reducible refine (gauss_number.calls x4_3 t163 true _ (zEnv HE) A15.out).mono ?_); rintro e w27 ⟨rfl, hb⟩; (try clear A15); replace HB := aM (below_step zB hb); (try clear hb)) | (go_at_call 37; (with_reducible refine (gauss_number.calls x5_3 t165 true _ (zEnv HE) A16.out).mono ?_); rintro e w28 ⟨rfl, hb⟩; (try clear A16); replace HB := aM (below_step zB hb); (try clear hb)) | (go_at_call 32; (with_reducible refine (gauss_whole.calls t163 t165 t167 _ A17.out).mono ?_); rintro e w29 ⟨rfl, hb⟩; replace HB := aM (below_step zB hb); (try clear hb)) | (go_at_call 9; (with_reducible refine (gauss_Show.calls t167 t168 t169 _ (zEnv HE) A18.out).mono ?_); rintro e w30 ⟨rfl, hb⟩; replace HB := aM (below_step zB hb); (try clear hb))))
        go_ret2
        exact ⟨zE, zB⟩
      ·rw [if_neg c21] at H
       have c21b0 : (t169 == 0) = false := beq_eq_false_iff_ne.mpr c21
       have c21b1 : (t169 != 0) = true := bne_iff_ne.mpr c21
       simp only [Option.some.injEq, Prod.mk.injEq] at H
       obtain ⟨rfl, rfl⟩ := H
       go_wp2_with (first | (go_at_call 37; (with_reducible refine (gauss_number.calls x4_3 t163 true _ (zEnv HE) A15.out).mono ?_); rintro e w31 ⟨rfl, hb⟩; (try clear A15); replace HB := aM (below_step zB hb); (try clear hb)) | (go_at_call 37; (with_reducible refine (gauss_number.calls x5_3 t165 true _ (zEnv HE) A16.out).mono ?_); rintro e w32 ⟨rfl, hb⟩; (try clear A16); replace HB := aM (below_step zB hb); (try clear hb)) | (go_at_call 32; (with_reducible refine (gauss_whole.calls t163 t165 t167 _ A17.out).mono ?_); rintro e w33 ⟨rfl, hb⟩; replace HB := aM (below_step zB hb); (try clear hb)) | (go_at_call 9; (with_reducible refine (gauss_Show.calls t167 t168 t169 _ (zEnv HE) A18.out).mono ?_); rintro e w34 ⟨rfl, hb⟩; replace HB := aM (below_step zB hb); (try clear hb)))
       repeat (go_quiet (first | (go_at_call 37; (with_reducible refine (gauss_number.calls x4_3 t163 true _ (zEnv HE) A15.out).mono ?_); rintro e w31 ⟨rfl, hb⟩; (try clear A15); replace HB := aM (below_step zB hb); (try clear hb)) | (go_at_call 37; (with_reducible refine (gauss_number.calls x5_3 t165 true _ (zEnv HE) A16.out).mono ?_); rintro e w32 ⟨rfl, hb⟩; (try clear A16); replace HB := aM (below_step zB hb); (try clear hb)) | (go_at_call 32; (with_reducible refine (gauss_whole.calls t163 t165 t167 _ A17.out).mono ?_); rintro e w33 ⟨rfl, hb⟩; replace HB := aM (below_step zB hb); (try clear hb)) | (go_at_call 9; (with_reducible refine (gauss_Show.calls t167 t168 t169 _ (zEnv HE) A18.out).mono ?_); rintro e w34 ⟨rfl, hb⟩; replace HB := aM (below_step zB hb); (try clear hb))); try go_wp2_with (first | (go_at_call 37; (with_reducible refine (gauss_number.calls x4_3 t163 true _ (zEnv HE) A15.out).mono ?_); rintro e w31 ⟨rfl, hb⟩; (try clear A15); replace HB := aM (below_step zB hb); (try clear hb)) | (go_at_call 37; (with_reducible refine (gauss_number.calls x5_3 t165 true _ (zEnv HE) A16.out).mono ?_); rintro e w32 ⟨rfl, hb⟩; (try clear A16); replace HB := aM (below_step zB hb); (try clear hb)) | (go_at_call 32; (with_reducible refine (gauss_whole.calls t163 t165 t167 _ A17.out).mono ?_); rintro e w33 ⟨rfl, hb⟩; replace HB := aM (below_step zB hb); (try clear hb)) | (go_at_call 9; (with_reducible refine (gauss_Show.calls t167 t168 t169 _ (zEnv HE) A18.out).mono ?_); rintro e w34 ⟨rfl, hb⟩; replace HB := aM (below_step zB hb); (try clear hb))))
       go_ret2
       exact ⟨zE, zB⟩
     ·replace c20 := Bool.eq_false_iff.mpr c20
      subst c20
      rw [if_neg (show ¬ (false = true) by decide)] at H
      simp only [Option.some.injEq, Prod.mk.injEq] at H
      obtain ⟨rfl, rfl⟩ := H
      go_wp2_with (first | (go_at_call 37; (with_reducible refine (gauss_number.calls x4_3 t163 true _ (zEnv HE) A15.out).mono ?_); rintro e w35 ⟨rfl, hb⟩; (try clear A15); replace HB := aM (below_step zB hb); (try clear hb)) | (go_at_call 37; (with_reducible refine (gauss_number.calls x5_3 t165 false _ (zEnv HE) A16.out).mono ?_); rintro e w36 ⟨rfl, hb⟩; (try clear A16); replace HB := aM (below_step zB hb); (try clear hb)) | (go_at_call 32; (with_reducible refine (gauss_whole.calls t163 t165 t167 _ A17.out).mono ?_); rintro e w37 ⟨rfl, hb⟩; replace HB := aM (below_step zB hb); (try clear hb)) | (go_at_call 9; (with_reducible refine (gauss_Show.calls t167 t168 t169 _ (zEnv HE) A18.out).mono ?_); rintro e w38 ⟨rfl, hb⟩; replace HB := aM (below_step zB hb); (try clear hb)))
      repeat (go_quiet (first | (go_at_call 37; (with_reducible refine (gauss_number.calls x4_3 t163 true _ (zEnv HE) A15.out).mono ?_); rintro e w35 ⟨rfl, hb⟩; (try clear A15); replace HB := aM (below_step zB hb); (try clear hb)) | (go_at_call 37; (with_reducible refine (gauss_number.calls x5_3 t165 false _ (zEnv HE) A16.out).mono ?_); rintro e w36 ⟨rfl, hb⟩; (try clear A16); replace HB := aM (below_step zB hb); (try clear hb)) | (go_at_call 32; (with_reducible refine (gauss_whole.calls t163 t165 t167 _ A17.out).mono ?_); rintro e w37 ⟨rfl, hb⟩; replace HB := aM (below_step zB hb); (try clear hb)) | (go_at_call 9; (with_reducible refine (gauss_Show.calls t167 t168 t169 _ (zEnv HE) A18.out).mono ?_); rintro e w38 ⟨rfl, hb⟩; replace HB := aM (below_step zB hb); (try clear hb))); try go_wp2_with (first | (go_at_call 37; (with_reducible refine (gauss_number.calls x4_3 t163 true _ (zEnv HE) A15.out).mono ?_); rintro e w35 ⟨rfl, hb⟩; (try clear A15); replace HB := aM (below_step zB hb); (try clear hb)) | (go_at_call 37; (with_reducible refine (gauss_number.calls x5_3 t165 false _ (zEnv HE) A16.out).mono ?_); rintro e w36 ⟨rfl, hb⟩; (try clear A16); replace HB := aM (below_step zB hb); (try clear hb)) | (go_at_call 32; (with_reducible refine (gauss_whole.calls t163 t165 t167 _ A17.out).mono ?_); rintro e w37 ⟨rfl, hb⟩; replace HB := aM (below_step zB hb); (try clear hb)) | (go_at_call 9; (with_reducible refine (gauss_Show.calls t167 t168 t169 _ (zEnv HE) A18.out).mono ?_); rintro e w38 ⟨rfl, hb⟩; replace HB := aM (below_step zB hb); (try clear hb))))
      go_ret2
      exact ⟨zE, zB⟩
    ·replace c19 := Bool.eq_false_iff.mpr c19
     subst c19
     rw [if_neg (show ¬ (false = true) by decide)] at H
     simp only [Option.some.injEq, Prod.mk.injEq] at H
     obtain ⟨rfl, rfl⟩ := H
     go_wp2_with (first | (go_at_call 37; (with_reducible refine (gauss_number.calls x4_3 t163 false _ (zEnv HE) A15.out).mono ?_); rintro e w39 ⟨rfl, hb⟩; (try clear A15); replace HB := aM (below_step zB hb); (try clear hb)) | (go_at_call 37; (with_reducible refine (gauss_number.calls x5_3 t165 t166 _ (zEnv HE) A16.out).mono ?_); rintro e w40 ⟨rfl, hb⟩; (try clear A16); replace HB := aM (below_step zB hb); (try clear hb)) | (go_at_call 32; (with_reducible refine (gauss_whole.calls t163 t165 t167 _ A17.out).mono ?_); rintro e w41 ⟨rfl, hb⟩; replace HB := aM (below_step zB hb); (try clear hb)) | (go_at_call 9; (with_reducible refine (gauss_Show.calls t167 t168 t169 _ (zEnv HE) A18.out).mono ?_); rintro e w42 ⟨rfl, hb⟩; replace HB := aM (below_step zB hb); (try clear hb)))
     repeat (go_quiet (first | (go_at_call 37; (with_reducible refine (gauss_number.calls x4_3 t163 false _ (zEnv HE) A15.out).mono ?_); rintro e w39 ⟨rfl, hb⟩; (try clear A15); replace HB := aM (below_step zB hb); (try clear hb)) | (go_at_call 37; (with_reducible refine (gauss_number.calls x5_3 t165 t166 _ (zEnv HE) A16.out).mono ?_); rintro e w40 ⟨rfl, hb⟩; (try clear A16); replace HB := aM (below_step zB hb); (try clear hb)) | (go_at_call 32; (with_reducible refine (gauss_whole.calls t163 t165 t167 _ A17.out).mono ?_); rintro e w41 ⟨rfl, hb⟩; replace HB := aM (below_step zB hb); (try clear hb)) | (go_at_call 9; (with_reducible refine (gauss_Show.calls t167 t168 t169 _ (zEnv HE) A18.out).mono ?_); rintro e w42 ⟨rfl, hb⟩; replace HB := aM (below_step zB hb); (try clear hb))); try go_wp2_with (first | (go_at_call 37; (with_reducible refine (gauss_number.calls x4_3 t163 false _ (zEnv HE) A15.out).mono ?_); rintro e w39 ⟨rfl, hb⟩; (try clear A15); replace HB := aM (below_step zB hb); (try clear hb)) | (go_at_call 37; (with_reducible refine (gauss_number.calls x5_3 t165 t166 _ (zEnv HE) A16.out).mono ?_); rintro e w40 ⟨rfl, hb⟩; (try clear A16); replace HB := aM (below_step zB hb); (try clear hb)) | (go_at_call 32; (with_reducible refine (gauss_whole.calls t163 t165 t167 _ A17.out).mono ?_); rintro e w41 ⟨rfl, hb⟩; replace HB := aM (below_step zB hb); (try clear hb)) | (go_at_call 9; (with_reducible refine (gauss_Show.calls t167 t168 t169 _ (zEnv HE) A18.out).mono ?_); rintro e w42 ⟨rfl, hb⟩; replace HB := aM (below_step zB hb); (try clear hb))))
     go_ret2
     exact ⟨zE, zB⟩

/-! ### gauss_Times: function 23 -/
def gauss_Times.j0 : Nat → (Nat × Nat) → (Nat × Nat) → Bool → Option ((Nat × Nat) × Int)
 | 0, _, _, _ => none
 | k + 1, x0, x1, x16 => if x16 = true then (some ((0, 0), 140)) else (if Go.cMulBits x0.1 x0.2 x1.1 x1.2 = some (fMul x0.1 x0.2 x1.1 x1.2) then ((gauss_parts.f (fMul x0.1 x0.2 x1.1 x1.2)).bind fun bt172 => (if bt172.2.2 = true then ((gauss_whole.f bt172.1 bt172.2.1).bind fun t175 => (some (t175, 0))) else (some ((0, 0), 3)))) else (none))
def gauss_Times.f (k : Nat) (a0 : (Nat × Nat)) (a1 : (Nat × Nat)) : Option ((Nat × Nat) × Int) := (gauss_Fits.f a0).bind fun t170 => (if t170 = true then ((gauss_Fits.f a1).bind fun t171 => (gauss_Times.j0 k a0 a1 (!t171))) else (gauss_Times.j0 k a0 a1 true))
theorem gauss_Times.mono_l : ∀ k, (∀ y0 y1 y2, LeO (gauss_Times.j0 k y0 y1 y2) (gauss_Times.j0 (k + 1) y0 y1 y2))
 | 0 => fun _ _ _ r h => by simp [gauss_Times.j0] at h
 | k + 1 => by
  have ih0 := gauss_Times.mono_l k
  ·intro y0 y1 y2
   unfold gauss_Times.j0
   repeat' first
   | (with_reducible exact ih0 _ _ _)
   | (with_reducible exact LeO.refl _)
   | exact ih0 _ _ _
   | exact LeO.none _
   | refine LeO.ite ?_ ?_
   | refine LeO.bind ?_ (fun _ => ?_)
theorem gauss_Times.mono : ∀ a0 a1 k, LeO (gauss_Times.f k a0 a1) (gauss_Times.f (k + 1) a0 a1) := by
 intro a0 a1 k
 have ih0 := gauss_Times.mono_l k
 unfold gauss_Times.f
 repeat' first
   | (with_reducible exact ih0 _ _ _)
   | (with_reducible exact LeO.refl _)
   | exact ih0 _ _ _
   | exact LeO.none _
   | refine LeO.ite ?_ ?_
   | refine LeO.bind ?_ (fun _ => ?_)
set_option maxHeartbeats 8000000 in
set_option maxRecDepth 100000 in
theorem gauss_Times.calls (k : Nat) (a0 : (Nat × Nat)) (a1 : (Nat × Nat)) (r1 : (Nat × Nat)) (r2 : Int) (w : World) (h : gauss_Times.f k a0 a1 = some (r1, r2)) :
  Calls Tryd.prog 23 #[.complex .f64 a0.1 a0.2, .complex .f64 a1.1 a1.2] w fun e w' => e = .returned (.tuple #[.complex .f64 r1.1 r1.2, .int .i64 r2]) ∧ Below w.heap.size w w' := by
 have HB := aM (Below.refl w.heap.size w)
 have H := h
 clear h
 unfold gauss_Times.f at H
 have HC3 := aM H
 clear H
 go_enter Tryd.func23, Tryd.ntmps23
 go_upto_region 1 with (fail)
 go_cut [16] (fun v16 wc => ∃ (kq : Nat) (x16_2 : Bool), v16 = .bool x16_2 ∧ Aside0 (gauss_Times.j0 kq a0 a1 x16_2 = some (r1, r2)) ∧ Aside0 (kq ≤ k) ∧ Aside0 (Below w.heap.size w wc))
 case first =>
  have H := HC3.out
  clear HC3
  obtain ⟨t170, A4, H⟩ := zO H
  by_cases c5 : t170 = true
  ·subst c5
   rw [if_pos rfl] at H
   obtain ⟨t171, A6, H⟩ := zO H
   have H' := aM H
   clear H
   go_wp2_with (first | ((with_reducible refine gate_callee (f := 17) rfl ?_); refine goesL_ (some 10) rfl rfl Tryd.func17 zK rfl #[.complex .f64 a0.1 a0.2] rfl zM ?_; (with_reducible refine (gauss_Fits.calls a0 true _ A4.out).mono ?_); rintro e w7 ⟨rfl, hb⟩; (try clear A4); refine ⟨_, rfl, ?_⟩; replace HB := aM (below_step zB hb); (try clear hb)) | (go_at_call 17; (with_reducible refine (gauss_Fits.calls a1 t171 _ A6.out).mono ?_); rintro e w8 ⟨rfl, hb⟩; (try clear A6); replace HB := aM (below_step zB hb); (try clear hb)))
   go_meet
   case rel => exact ⟨_, (!t171), zP, H', ⟨by first | omega | exact Nat.le_refl _⟩, ⟨zB⟩⟩
  ·replace c5 := Bool.eq_false_iff.mpr c5
   subst c5
   rw [if_neg (show ¬ (false = true) by decide)] at H
   have H' := aM H
   clear H
   go_wp2_with (first | ((with_reducible refine gate_callee (f := 17) rfl ?_); refine goesL_ (some 10) rfl rfl Tryd.func17 zK rfl #[.complex .f64 a0.1 a0.2] rfl zM ?_; (with_reducible refine (gauss_Fits.calls a0 false _ A4.out).mono ?_); rintro e w9 ⟨rfl, hb⟩; (try clear A4); refine ⟨_, rfl, ?_⟩; replace HB := aM (below_step zB hb); (try clear hb)))
   go_meet
   case rel => exact ⟨_, (true), zP, H', ⟨by first | omega | exact Nat.le_refl _⟩, ⟨zB⟩⟩
 case rest =>
  clear HC3
  try clear c1
  try clear c2
  try clear p2
  try clear c5
  obtain ⟨kq, x16_2, rfl, HA, HJ2, HB⟩ := hcut
  cases kq with
  | zero => exact absurd HA.out (by simp [gauss_Times.j0])
  | succ kj2 =>
   have H := HA.out
   clear HA
   simp only [gauss_Times.j0] at H
   by_cases c10 : x16_2 = true
   ·subst c10
    rw [if_pos rfl] at H
    simp only [Option.some.injEq, Prod.mk.injEq] at H
    obtain ⟨rfl, rfl⟩ := H
    go_wp2
    go_ret2
    exact ⟨zE, zB⟩
   ·replace c10 := Bool.eq_false_iff.mpr c10
    subst c10
    rw [if_neg (show ¬ (false = true) by decide)] at H
    by_cases c11 : Go.cMulBits a0.1 a0.2 a1.1 a1.2 = some (fMul a0.1 a0.2 a1.1 a1.2)
    ·rw [if_pos c11] at H
     have c11f := (show ∀ (w_ : World) (t_ : TypeId), (Go.binOp .mul t_ (.complex .f64 a0.1 a0.2) (.complex .f64 a1.1 a1.2)).run Tryd.prog w_ = .ok (.complex .f64 (fMul a0.1 a0.2 a1.1 a1.2).1 (fMul a0.1 a0.2 a1.1 a1.2).2) w_ from fun w_ t_ => run_complex_mul w_ t_ _ _ _ _ _ _ c11)
     have c11b0 := eq_true c11
     have c11b1 : decide (Go.cMulBits a0.1 a0.2 a1.1 a1.2 = some (fMul a0.1 a0.2 a1.1 a1.2)) = true := decide_eq_true c11
     clear c11
     obtain ⟨⟨t172, t173, t174⟩, A12, H⟩ := zO H
     try dsimp only at H
     by_cases c13 : t174 = true
     ·subst c13
      rw [if_pos rfl] at H
      obtain ⟨t175, A14, H⟩ := zO H
      simp only [Option.some.injEq, Prod.mk.injEq] at H
      obtain ⟨rfl, rfl⟩ := H
      go_wp2_with (first | ((with_reducible refine gate_callee (f := 27) rfl ?_); refine goesL_ (some 21) rfl rfl Tryd.func27 zK rfl #[.complex .f64 (fMul a0.1 a0.2 a1.1 a1.2).1 (fMul a0.1 a0.2 a1.1 a1.2).2] rfl zM ?_; (with_reducible refine (gauss_parts.calls (fMul a0.1 a0.2 a1.1 a1.2) t172 t173 true _ A12.out).mono ?_); rintro e w15 ⟨rfl, hb⟩; refine ⟨_, rfl, ?_⟩; replace HB := aM (below_step zB hb); (try clear hb)) | ((with_reducible refine gate_callee (f := 32) rfl ?_); refine goesL_ (some 29) rfl rfl Tryd.func32 zK rfl #[.int .i64 t172, .int .i64 t173] rfl zM ?_; (with_reducible refine (gauss_whole.calls t172 t173 t175 _ A14.out).mono ?_); rintro e w16 ⟨rfl, hb⟩; refine ⟨_, rfl, ?_⟩; replace HB := aM (below_step zB hb); (try clear hb)))
      go_ret2
      exact ⟨zE, zB⟩
     ·replace c13 := Bool.eq_false_iff.mpr c13
      subst c13
      rw [if_neg (show ¬ (false = true) by decide)] at H
      simp only [Option.some.injEq, Prod.mk.injEq] at H
      obtain ⟨rfl, rfl⟩ := H
      go_wp2_with (first | ((with_reducible refine gate_callee (f := 27) rfl ?_); refine goesL_ (some 21) rfl rfl Tryd.func27 zK rfl #[.complex .f64 (fMul a0.1 a0.2 a1.1 a1.2).1 (fMul a0.1 a0.2 a1.1 a1.2).2] rfl zM ?_; (with_reducible refine (gauss_parts.calls (fMul a0.1 a0.2 a1.1 a1.2) t172 t173 false _ A12.out).mono ?_); rintro e w17 ⟨rfl, hb⟩; refine ⟨_, rfl, ?_⟩; replace HB := aM (below_step zB hb); (try clear hb)))
      go_ret2
      exact ⟨zE, zB⟩
    ·rw [if_neg c11] at H
     exact absurd H (by simp)

/-! ### cmp_isNaN_int: function 51 -/
def cmp_isNaN_int.f (a0 : Int) : Option (Bool) := some (a0 != a0)
set_option maxHeartbeats 8000000 in
set_option maxRecDepth 100000 in
theorem cmp_isNaN_int.calls (a0 : Int) (r : Bool) (w : World) (h : cmp_isNaN_int.f a0 = some r) :
  Calls Tryd.prog 51 #[.int .i64 a0] w fun e w' => e = .returned (.bool r) ∧ Drawn0 w w' := by
 have H := h
 clear h
 unfold cmp_isNaN_int.f at H
 obtain rfl := sI H
 go_enter Tryd.func51, Tryd.ntmps51
 go_wp2
 go_ret
 exact ⟨zP, zD⟩

/-! ### cmp_Compare_int: function 39 -/
def cmp_Compare_int.f (a0 : Int) (a1 : Int) : Option (Int) := (cmp_isNaN_int.f a0).bind fun t176 => ((cmp_isNaN_int.f a1).bind fun t177 => (if t176 = true then (if t177 = true then (some 0) else (some (-1))) else (if t177 = true then (some 1) else (if a0 < a1 then (some (-1)) else (if a0 > a1 then (some 1) else (some 0))))))
set_option maxHeartbeats 8000000 in
set_option maxRecDepth 100000 in
theorem cmp_Compare_int.calls (a0 : Int) (a1 : Int) (r : Int) (w : World) (h : cmp_Compare_int.f a0 a1 = some r) :
  Calls Tryd.prog 39 #[.int .i64 a0, .int .i64 a1] w fun e w' => e = .returned (.int .i64 r) ∧ Drawn0 w w' := by
 have H := h
 clear h
 unfold cmp_Compare_int.f at H
 obtain ⟨t176, A3, H⟩ := zO H
 obtain ⟨t177, A4, H⟩ := zO H
 by_cases c5 : t176 = true
 ·subst c5
  rw [if_pos rfl] at H
  by_cases c6 : t177 = true
  ·subst c6
   rw [if_pos rfl] at H
   obtain rfl := sI H
   go_enter Tryd.func39, Tryd.ntmps39
   go_wp2_with (first | ((with_reducible refine gate_callee (f := 51) rfl ?_); refine goesL_ (some 8) rfl rfl Tryd.func51 zK rfl #[.int .i64 a0] rfl zM ?_; (with_reducible refine (cmp_isNaN_int.calls a0 true _ A3.out).mono ?_); rintro e w' ⟨rfl, ⟨nd, rfl⟩⟩; (try clear A3); refine ⟨_, rfl, ?_⟩) | ((with_reducible refine gate_callee (f := 51) rfl ?_); refine goesL_ (some 10) rfl rfl Tryd.func51 zK rfl #[.int .i64 a1] rfl zM ?_; (with_reducible refine (cmp_isNaN_int.calls a1 true _ A4.out).mono ?_); rintro e w' ⟨rfl, ⟨nd, rfl⟩⟩; (try clear A4); refine ⟨_, rfl, ?_⟩))
   go_ret
   exact ⟨zP, zD⟩
  ·replace c6 := Bool.eq_false_iff.mpr c6
   subst c6
   rw [if_neg (show ¬ (false = true) by decide)] at H
   obtain rfl := sI H
   go_enter Tryd.func39, Tryd.ntmps39
   go_wp2_with (first | ((with_reducible refine gate_callee (f := 51) rfl ?_); refine goesL_ (some 8) rfl rfl Tryd.func51 zK rfl #[.int .i64 a0] rfl zM ?_; (with_reducible refine (cmp_isNaN_int.calls a0 true _ A3.out).mono ?_); rintro e w' ⟨rfl, ⟨nd, rfl⟩⟩; (try clear A3); refine ⟨_, rfl, ?_⟩) | ((with_reducible refine gate_callee (f := 51) rfl ?_); refine goesL_ (some 10) rfl rfl Tryd.func51 zK rfl #[.int .i64 a1] rfl zM ?_; (with_reducible refine (cmp_isNaN_int.calls a1 false _ A4.out).mono ?_); rintro e w' ⟨rfl, ⟨nd, rfl⟩⟩; (try clear A4); refine ⟨_, rfl, ?_⟩))
   go_ret
   exact ⟨zP, zD⟩
 ·replace c5 := Bool.eq_false_iff.mpr c5
  subst c5
  rw [if_neg (show ¬ (false = true) by decide)] at H
  by_cases c7 : t177 = true
  ·subst c7
   rw [if_pos rfl] at H
   obtain rfl := sI H
   go_enter Tryd.func39, Tryd.ntmps39
   go_wp2_with (first | ((with_reducible refine gate_callee (f := 51) rfl ?_); refine goesL_ (some 8) rfl rfl Tryd.func51 zK rfl #[.int .i64 a0] rfl zM ?_; (with_reducible refine (cmp_isNaN_int.calls a0 false _ A3.out).mono ?_); rintro e w' ⟨rfl, ⟨nd, rfl⟩⟩; (try clear A3); refine ⟨_, rfl, ?_⟩) | ((with_reducible refine gate_callee (f := 51) rfl ?_); refine goesL_ (some 10) rfl rfl Tryd.func51 zK rfl #[.int .i64 a1] rfl zM ?_; (with_reducible refine (cmp_isNaN_int.calls a1 true _ A4.out).mono ?_); rintro e w' ⟨rfl, ⟨nd, rfl⟩⟩; (try clear A4); refine ⟨_, rfl, ?_⟩))
   go_ret
   exact ⟨zP, zD⟩
  ·replace c7 := Bool.eq_false_iff.mpr c7
   subst c7
   rw [if_neg (show ¬ (false = true) by decide)] at H
   by_cases c8 : a0 < a1
   ·rw [if_pos c8] at H
    have c8b0 : decide (a0 < a1) = true := decide_eq_true c8
    clear c8
    obtain rfl := sI H
    go_enter Tryd.func39, Tryd.ntmps39
    go_wp2_with (first | ((with_reducible refine gate_callee (f := 51) rfl ?_); refine goesL_ (some 8) rfl rfl Tryd.func51 zK rfl #[.int .i64 a0] rfl zM ?_; (with_reducible refine (cmp_isNaN_int.calls a0 false _ A3.out).mono ?_); rintro e w' ⟨rfl, ⟨nd, rfl⟩⟩; (try clear A3); refine ⟨_, rfl, ?_⟩) | ((with_reducible refine gate_callee (f := 51) rfl ?_); refine goesL_ (some 10) rfl rfl Tryd.func51 zK rfl #[.int .i64 a1] rfl zM ?_; (with_reducible refine (cmp_isNaN_int.calls a1 false _ A4.out).mono ?_); rintro e w' ⟨rfl, ⟨nd, rfl⟩⟩; (try clear A4); refine ⟨_, rfl, ?_⟩))
    go_ret
    exact ⟨zP, zD⟩
   ·rw [if_neg c8] at H
    have c8b0 : decide (a0 < a1) = false := decide_eq_false c8
    clear c8
    by_cases c9 : a0 > a1
    ·rw [if_pos c9] at H
     have c9b0 : decide (a1 < a0) = true := decide_eq_true c9
     clear c9
     obtain rfl := sI H
     go_enter Tryd.func39, Tryd.ntmps39
     go_wp2_with (first | ((with_reducible refine gate_callee (f := 51) rfl ?_); refine goesL_ (some 8) rfl rfl Tryd.func51 zK rfl #[.int .i64 a0] rfl zM ?_; (with_reducible refine (cmp_isNaN_int.calls a0 false _ A3.out).mono ?_); rintro e w' ⟨rfl, ⟨nd, rfl⟩⟩; (try clear A3); refine ⟨_, rfl, ?_⟩) | ((with_reducible refine gate_callee (f := 51) rfl ?_); refine goesL_ (some 10) rfl rfl Tryd.func51 zK rfl #[.int .i64 a1] rfl zM ?_; (with_reducible refine (cmp_isNaN_int.calls a1 false _ A4.out).mono ?_); rintro e w' ⟨rfl, ⟨nd, rfl⟩⟩; (try clear A4); refine ⟨_, rfl, ?_⟩))
     go_ret
     exact ⟨zP, zD⟩
    ·rw [if_neg c9] at H
     have c9b0 : decide (a1 < a0) = false := decide_eq_false c9
     clear c9
     obtain rfl := sI H
     go_enter Tryd.func39, Tryd.ntmps39
     go_wp2_with (first | ((with_reducible refine gate_callee (f := 51) rfl ?_); refine goesL_ (some 8) rfl rfl Tryd.func51 zK rfl #[.int .i64 a0] rfl zM ?_; (with_reducible refine (cmp_isNaN_int.calls a0 false _ A3.out).mono ?_); rintro e w' ⟨rfl, ⟨nd, rfl⟩⟩; (try clear A3); refine ⟨_, rfl, ?_⟩) | ((with_reducible refine gate_callee (f := 51) rfl ?_); refine goesL_ (some 10) rfl rfl Tryd.func51 zK rfl #[.int .i64 a1] rfl zM ?_; (with_reducible refine (cmp_isNaN_int.calls a1 false _ A4.out).mono ?_); rintro e w' ⟨rfl, ⟨nd, rfl⟩⟩; (try clear A4); refine ⟨_, rfl, ?_⟩))
     go_ret
     exact ⟨zP, zD⟩

/-! ### cmp_Or_int: function 40 -/
def cmp_Or_int.l0 : Nat → Int → List Int → Int → Int → Option (Int)
 | 0, _, _, _, _ => none
 | k + 1, x3, x6, x7, x8 => if x8 < x7 then (if 0 ≤ x8 then (if x8 < (x6.length : Int) then (if (rd x6 x8) = x3 then (cmp_Or_int.l0 k x3 x6 x7 (wrap64 (x8 + 1))) else (some (rd x6 x8))) else (none)) else (none)) else (some x3)
def cmp_Or_int.f (k : Nat) (l0 : List Int) : Option (Int) := cmp_Or_int.l0 k 0 l0 (l0.length : Int) 0
theorem cmp_Or_int.mono_l : ∀ k, (∀ y0 y1 y2 y3, LeO (cmp_Or_int.l0 k y0 y1 y2 y3) (cmp_Or_int.l0 (k + 1) y0 y1 y2 y3))
 | 0 => fun _ _ _ _ r h => by simp [cmp_Or_int.l0] at h
 | k + 1 => by
  have ih0 := cmp_Or_int.mono_l k
  ·intro y0 y1 y2 y3
   unfold cmp_Or_int.l0
   repeat' first
   | (with_reducible exact ih0 _ _ _ _)
   | (with_reducible exact LeO.refl _)
   | exact ih0 _ _ _ _
   | exact LeO.none _
   | refine LeO.ite ?_ ?_
   | refine LeO.bind ?_ (fun _ => ?_)
theorem cmp_Or_int.mono : ∀ a0 k, LeO (cmp_Or_int.f k a0) (cmp_Or_int.f (k + 1) a0) := by
 intro a0 k
 have ih0 := cmp_Or_int.mono_l k
 unfold cmp_Or_int.f
 repeat' first
   | (with_reducible exact ih0 _ _ _ _)
   | (with_reducible exact LeO.refl _)
   | exact ih0 _ _ _ _
   | exact LeO.none _
   | refine LeO.ite ?_ ?_
   | refine LeO.bind ?_ (fun _ => ?_)
set_option maxHeartbeats 8000000 in
set_option maxRecDepth 100000 in
theorem cmp_Or_int.calls (k : Nat) (A0 : Option Addr) (c0 : Nat) (l0 : List Int) (r : Int) (w : World) (hr0 : Kd.C (Kd.int .i64) w A0 l0.length l0) (hc0 : l0.length ≤ c0) (h : cmp_Or_int.f k l0 = some r) :
  Calls Tryd.prog 40 #[.slice A0 l0.length c0] w fun e w' => e = .returned (.int .i64 r) ∧ Drawn0 w w' := by
 have HR0 := aM hr0
 have HC0 := aM hc0
 clear hr0 hc0
 have H := h
 clear h
 unfold cmp_Or_int.f at H
 have H' := aM H
 clear H
 go_enter Tryd.func40, Tryd.ntmps40
 go_wp2
 go_loopg [8] k (fun kq v8 w' => ∃ (x8_1 : Int), v8 = .int .i64 x8_1 ∧ Aside0 (cmp_Or_int.l0 kq 0 l0 (l0.length : Int) x8_1 = some r) ∧ Aside0 (kq ≤ k) ∧ Drawn0 w w')
 case atStart => exact ⟨(0), zP, H', ⟨Nat.le_refl _⟩, zD⟩
 case round =>
  clear H'
  obtain ⟨x8_1, rfl, HA, HK1, ⟨m1, rfl⟩⟩ := hrel
  cases gk with
  | zero => exact absurd HA.out (by simp [cmp_Or_int.l0])
  | succ k1 =>
   have H := HA.out
   clear HA
   simp only [cmp_Or_int.l0] at H
   by_cases c2 : x8_1 < (l0.length : Int)
   ·rw [if_pos c2] at H
    have c2b0 : decide (x8_1 < (l0.length : Int)) = true := decide_eq_true c2
    clear c2
    by_cases c3 : 0 ≤ x8_1
    ·rw [if_pos c3] at H
     have c3b0 : decide (0 ≤ x8_1) = true := decide_eq_true c3
     clear c3
     by_cases c4 : x8_1 < (l0.length : Int)
     ·rw [if_pos c4] at H
      have c4b0 : decide (x8_1 < (l0.length : Int)) = true := decide_eq_true c4
      clear c4
      by_cases c5 : (rd l0 x8_1) = 0
      ·rw [if_pos c5] at H
       have c5b0 : ((rd l0 x8_1) == 0) = true := beq_iff_eq.mpr c5
       have c5b1 : ((rd l0 x8_1) != 0) = false := bne_eq_false_iff_eq.mpr c5
       clear c5
       have H' := aM H
       clear H
       have p178 : 0 ≤ (x8_1 : Int) := zoA
       have q178 : x8_1 < (l0.length : Int) := zoA
       obtain ⟨ad178, e178, hx178_0⟩ := Kd.at_int HR0.out x8_1 p178 q178
       cases e178
       replace p178 := eq_true p178
       replace q178 := eq_true q178
       go_wp2
       go_roundg k1
       case measure => have := HK1.out; omega
       case rel => exact ⟨(wrap64 (x8_1 + 1)), zP, H', ⟨by have := HK1.out; omega⟩, zD⟩
      ·rw [if_neg c5] at H
       have c5b0 : ((rd l0 x8_1) == 0) = false := beq_eq_false_iff_ne.mpr c5
       have c5b1 : ((rd l0 x8_1) != 0) = true := bne_iff_ne.mpr c5
       obtain rfl := sI H
       have p178 : 0 ≤ (x8_1 : Int) := zoA
       have q178 : x8_1 < (l0.length : Int) := zoA
       obtain ⟨ad178, e178, hx178_0⟩ := Kd.at_int HR0.out x8_1 p178 q178
       cases e178
       replace p178 := eq_true p178
       replace q178 := eq_true q178
       go_wp2
       go_ret
       exact ⟨zP, zD⟩
     ·rw [if_neg c4] at H
      exact absurd H (by simp)
    ·rw [if_neg c3] at H
     exact absurd H (by simp)
   ·rw [if_neg c2] at H
    have c2b0 : decide (x8_1 < (l0.length : Int)) = false := decide_eq_false c2
    clear c2
    obtain rfl := sI H
    go_wp2
    go_ret
    exact ⟨zP, zD⟩

/-! ### cmp_isNaN_float64: function 52 -/
def cmp_isNaN_float64.f (a0 : Nat) : Option (Bool) := some (Go.FloatKind.f64.format.order a0 a0 != some .eq)
set_option maxHeartbeats 8000000 in
set_option maxRecDepth 100000 in
theorem cmp_isNaN_float64.calls (a0 : Nat) (r : Bool) (w : World) (h : cmp_isNaN_float64.f a0 = some r) :
  Calls Tryd.prog 52 #[.float .f64 a0] w fun e w' => e = .returned (.bool r) ∧ Drawn0 w w' := by
 have H := h
 clear h
 unfold cmp_isNaN_float64.f at H
 obtain rfl := sI H
 go_enter Tryd.func52, Tryd.ntmps52
 go_wp2
 go_ret
 exact ⟨zP, zD⟩

/-! ### cmp_Compare_float64: function 41 -/
def cmp_Compare_float64.f (a0 : Nat) (a1 : Nat) : Option (Int) := (cmp_isNaN_float64.f a0).bind fun t179 => ((cmp_isNaN_float64.f a1).bind fun t180 => (if t179 = true then (if t180 = true then (some 0) else (some (-1))) else (if t180 = true then (some 1) else (if (Go.FloatKind.f64.format.order a0 a1 == some .lt) = true then (some (-1)) else (if (Go.FloatKind.f64.format.order a0 a1 == some .gt) = true then (some 1) else (some 0))))))
set_option maxHeartbeats 8000000 in
set_option maxRecDepth 100000 in
theorem cmp_Compare_float64.calls (a0 : Nat) (a1 : Nat) (r : Int) (w : World) (h : cmp_Compare_float64.f a0 a1 = some r) :
  Calls Tryd.prog 41 #[.float .f64 a0, .float .f64 a1] w fun e w' => e = .returned (.int .i64 r) ∧ Drawn0 w w' := by
 have H := h
 clear h
 unfold cmp_Compare_float64.f at H
 obtain ⟨t179, A3, H⟩ := zO H
 obtain ⟨t180, A4, H⟩ := zO H
 by_cases c5 : t179 = true
 ·subst c5
  rw [if_pos rfl] at H
  by_cases c6 : t180 = true
  ·subst c6
   rw [if_pos rfl] at H
   obtain rfl := sI H
   go_enter Tryd.func41, Tryd.ntmps41
   go_wp2_with (first | ((with_reducible refine gate_callee (f := 52) rfl ?_); refine goesL_ (some 8) rfl rfl Tryd.func52 zK rfl #[.float .f64 a0] rfl zM ?_; (with_reducible refine (cmp_isNaN_float64.calls a0 true _ A3.out).mono ?_); rintro e w' ⟨rfl, ⟨nd, rfl⟩⟩; (try clear A3); refine ⟨_, rfl, ?_⟩) | ((with_reducible refine gate_callee (f := 52) rfl ?_); refine goesL_ (some 10) rfl rfl Tryd.func52 zK rfl #[.float .f64 a1] rfl zM ?_; (with_reducible refine (cmp_isNaN_float64.calls a1 true _ A4.out).mono ?_); rintro e w' ⟨rfl, ⟨nd, rfl⟩⟩; (try clear A4); refine ⟨_, rfl, ?_⟩))
   go_ret
   exact ⟨zP, zD⟩
  ·replace c6 := Bool.eq_false_iff.mpr c6
   subst c6
   rw [if_neg (show ¬ (false = true) by decide)] at H
   obtain rfl := sI H
   go_enter Tryd.func41, Tryd.ntmps41
   go_wp2_with (first | ((with_reducible refine gate_callee (f := 52) rfl ?_); refine goesL_ (some 8) rfl rfl Tryd.func52 zK rfl #[.float .f64 a0] rfl zM ?_; (with_reducible refine (cmp_isNaN_float64.calls a0 true _ A3.out).mono ?_); rintro e w' ⟨rfl, ⟨nd, rfl⟩⟩; (try clear A3); refine ⟨_, rfl, ?_⟩) | ((with_reducible refine gate_callee (f := 52) rfl ?_); refine goesL_ (some 10) rfl rfl Tryd.func52 zK rfl #[.float .f64 a1] rfl zM ?_; (with_reducible refine (cmp_isNaN_float64.calls a1 false _ A4.out).mono ?_); rintro e w' ⟨rfl, ⟨nd, rfl⟩⟩; (try clear A4); refine ⟨_, rfl, ?_⟩))
   go_ret
   exact ⟨zP, zD⟩
 ·replace c5 := Bool.eq_false_iff.mpr c5
  subst c5
  rw [if_neg (show ¬ (false = true) by decide)] at H
  by_cases c7 : t180 = true
  ·subst c7
   rw [if_pos rfl] at H
   obtain rfl := sI H
   go_enter Tryd.func41, Tryd.ntmps41
   go_wp2_with (first | ((with_reducible refine gate_callee (f := 52) rfl ?_); refine goesL_ (some 8) rfl rfl Tryd.func52 zK rfl #[.float .f64 a0] rfl zM ?_; (with_reducible refine (cmp_isNaN_float64.calls a0 false _ A3.out).mono ?_); rintro e w' ⟨rfl, ⟨nd, rfl⟩⟩; (try clear A3); refine ⟨_, rfl, ?_⟩) | ((with_reducible refine gate_callee (f := 52) rfl ?_); refine goesL_ (some 10) rfl rfl Tryd.func52 zK rfl #[.float .f64 a1] rfl zM ?_; (with_reducible refine (cmp_isNaN_float64.calls a1 true _ A4.out).mono ?_); rintro e w' ⟨rfl, ⟨nd, rfl⟩⟩; (try clear A4); refine ⟨_, rfl, ?_⟩))
   go_ret
   exact ⟨zP, zD⟩
  ·replace c7 := Bool.eq_false_iff.mpr c7
   subst c7
   rw [if_neg (show ¬ (false = true) by decide)] at H
   by_cases c8 : (Go.FloatKind.f64.format.order a0 a1 == some .lt) = true
   ·rw [if_pos c8] at H
    have c8b0 : (Go.FloatKind.f64.format.order a0 a1 == some .lt) = true := c8
    (try (have c8b1 : decide (Go.FloatKind.f64.format.order a0 a1 = some .lt) = true := by simpa using c8))
    (try (have c8b2 : (Go.FloatKind.f64.format.order a0 a1 == some .lt) = true := by simpa using c8))
    clear c8
    obtain rfl := sI H
    go_enter Tryd.func41, Tryd.ntmps41
    go_wp2_with (first | ((with_reducible refine gate_callee (f := 52) rfl ?_); refine goesL_ (some 8) rfl rfl Tryd.func52 zK rfl #[.float .f64 a0] rfl zM ?_; (with_reducible refine (cmp_isNaN_float64.calls a0 false _ A3.out).mono ?_); rintro e w' ⟨rfl, ⟨nd, rfl⟩⟩; (try clear A3); refine ⟨_, rfl, ?_⟩) | ((with_reducible refine gate_callee (f := 52) rfl ?_); refine goesL_ (some 10) rfl rfl Tryd.func52 zK rfl #[.float .f64 a1] rfl zM ?_; (with_reducible refine (cmp_isNaN_float64.calls a1 false _ A4.out).mono ?_); rintro e w' ⟨rfl, ⟨nd, rfl⟩⟩; (try clear A4); refine ⟨_, rfl, ?_⟩))
    go_ret
    exact ⟨zP, zD⟩
   ·rw [if_neg c8] at H
    have c8b0 : (Go.FloatKind.f64.format.order a0 a1 == some .lt) = false := by simpa using c8
    (try (have c8b1 : decide (Go.FloatKind.f64.format.order a0 a1 = some .lt) = false := by simpa using c8))
    (try (have c8b2 : (Go.FloatKind.f64.format.order a0 a1 == some .lt) = false := by simpa using c8))
    (try (have c8b3 : ¬ (Go.FloatKind.f64.format.order a0 a1 = some .lt) := by simpa using c8))
    clear c8
    by_cases c9 : (Go.FloatKind.f64.format.order a0 a1 == some .gt) = true
    ·rw [if_pos c9] at H
     have c9b0 : (Go.FloatKind.f64.format.order a0 a1 == some .gt) = true := c9
     (try (have c9b1 : decide (Go.FloatKind.f64.format.order a0 a1 = some .gt) = true := by simpa using c9))
     (try (have c9b2 : (Go.FloatKind.f64.format.order a0 a1 == some .gt) = true := by simpa using c9))
     clear c9
     obtain rfl := sI H
     go_enter Tryd.func41, Tryd.ntmps41
     go_wp2_with (first | ((with_reducible refine gate_callee (f := 52) rfl ?_); refine goesL_ (some 8) rfl rfl Tryd.func52 zK rfl #[.float .f64 a0] rfl zM ?_; (with_reducible refine (cmp_isNaN_float64.calls a0 false _ A3.out).mono ?_); rintro e w' ⟨rfl, ⟨nd, rfl⟩⟩; (try clear A3); refine ⟨_, rfl, ?_⟩) | ((with_reducible refine gate_callee (f := 52) rfl ?_); refine goesL_ (some 10) rfl rfl Tryd.func52 zK rfl #[.float .f64 a1] rfl zM ?_; (with_reducible refine (cmp_isNaN_float64.calls a1 false _ A4.out).mono ?_); rintro e w' ⟨rfl, ⟨nd, rfl⟩⟩; (try clear A4); refine ⟨_, rfl, ?_⟩))
     go_ret
     exact ⟨zP, zD⟩
    ·rw [if_neg c9] at H
     have c9b0 : (Go.FloatKind.f64.format.order a0 a1 == some .gt) = false := by simpa using c9
     (try (have c9b1 : decide (Go.FloatKind.f64.format.order a0 a1 = some .gt) = false := by simpa using c9))
     (try (have c9b2 : (Go.FloatKind.f64.format.order a0 a1 == some .gt) = false := by simpa using c9))
     (try (have c9b3 : ¬ (Go.FloatKind.f64.format.order a0 a1 = some .gt) := by simpa using c9))
     clear c9
     obtain rfl := sI H
     go_enter Tryd.func41, Tryd.ntmps41
     go_wp2_with (first | ((with_reducible refine gate_callee (f := 52) rfl ?_); refine goesL_ (some 8) rfl rfl Tryd.func52 zK rfl #[.float .f64 a0] rfl zM ?_; (with_reducible refine (cmp_isNaN_float64.calls a0 false _ A3.out).mono ?_); rintro e w' ⟨rfl, ⟨nd, rfl⟩⟩; (try clear A3); refine ⟨_, rfl, ?_⟩) | ((with_reducible refine gate_callee (f := 52) rfl ?_); refine goesL_ (some 10) rfl rfl Tryd.func52 zK rfl #[.float .f64 a1] rfl zM ?_; (with_reducible refine (cmp_isNaN_float64.calls a1 false _ A4.out).mono ?_); rintro e w' ⟨rfl, ⟨nd, rfl⟩⟩; (try clear A4); refine ⟨_, rfl, ?_⟩))
     go_ret
     exact ⟨zP, zD⟩

/-! ### gauss_Cmp: function 25 -/
def gauss_Cmp.j0 : Nat → (Nat × Nat) → (Nat × Nat) → Int → Bool → Option (Int)
 | 0, _, _, _, _ => none
 | k + 1, x0, x1, x5, x17 => if x17 = true then (some x5) else ((cmp_Compare_float64.f x0.1 x1.1).bind fun t185 => ((cmp_Compare_float64.f x0.2 x1.2).bind fun t186 => ((cmp_Or_int.f k (([t185, t186] : List Int))).bind fun t190 => (some t190))))
def gauss_Cmp.f (k : Nat) (a0 : (Nat × Nat)) (a1 : (Nat × Nat)) : Option (Int) := (gauss_Norm.f a0).bind fun t181 => ((gauss_Norm.f a1).bind fun t182 => ((cmp_Compare_int.f t181 t182).bind fun t183 => (if t183 = 0 then ((gauss_Fits.f a0).bind fun t184 => (gauss_Cmp.j0 k a0 a1 t183 (!t184))) else (gauss_Cmp.j0 k a0 a1 t183 true))))
theorem gauss_Cmp.mono_l : ∀ k, (∀ y0 y1 y2 y3, LeO (gauss_Cmp.j0 k y0 y1 y2 y3) (gauss_Cmp.j0 (k + 1) y0 y1 y2 y3))
 | 0 => fun _ _ _ _ r h => by simp [gauss_Cmp.j0] at h
 | k + 1 => by
  have ih0 := gauss_Cmp.mono_l k
  ·intro y0 y1 y2 y3
   unfold gauss_Cmp.j0
   repeat' first
   | (with_reducible exact ih0 _ _ _ _)
   | (with_reducible exact cmp_Or_int.mono _ _)
   | (with_reducible exact LeO.refl _)
   | exact ih0 _ _ _ _
   | exact cmp_Or_int.mono _ _
   | exact LeO.none _
   | refine LeO.ite ?_ ?_
   | refine LeO.bind ?_ (fun _ => ?_)
theorem gauss_Cmp.mono : ∀ a0 a1 k, LeO (gauss_Cmp.f k a0 a1) (gauss_Cmp.f (k + 1) a0 a1) := by
 intro a0 a1 k
 have ih0 := gauss_Cmp.mono_l k
 unfold gauss_Cmp.f
 repeat' first
   | (with_reducible exact ih0 _ _ _ _)
   | (with_reducible exact cmp_Or_int.mono _ _)
   | (with_reducible exact LeO.refl _)
   | exact ih0 _ _ _ _
   | exact cmp_Or_int.mono _ _
   | exact LeO.none _
   | refine LeO.ite ?_ ?_
   | refine LeO.bind ?_ (fun _ => ?_)
set_option maxHeartbeats 8000000 in
set_option maxRecDepth 100000 in
theorem gauss_Cmp.calls (k : Nat) (a0 : (Nat × Nat)) (a1 : (Nat × Nat)) (r : Int) (w : World) (h : gauss_Cmp.f k a0 a1 = some r) :
  Calls Tryd.prog 25 #[.complex .f64 a0.1 a0.2, .complex .f64 a1.1 a1.2] w fun e w' => e = .returned (.int .i64 r) ∧ Below w.heap.size w w' := by
 have HB := aM (Below.refl w.heap.size w)
 have H := h
 clear h
 unfold gauss_Cmp.f at H
 obtain ⟨t181, A3, H⟩ := zO H
 obtain ⟨t182, A4, H⟩ := zO H
 obtain ⟨t183, A5, H⟩ := zO H
 have HC6 := aM H
 clear H
 go_enter Tryd.func25, Tryd.ntmps25
 go_upto_region 2 with (first | ((with_reducible refine gate_callee (f := 18) rfl ?_); refine goesL_ (some 7) rfl rfl Tryd.func18 zK rfl #[.complex .f64 a0.1 a0.2] rfl zM ?_; (with_reducible refine (gauss_Norm.calls a0 t181 _ A3.out).mono ?_); rintro e w7 ⟨rfl, hb⟩; (try clear A3); refine ⟨_, rfl, ?_⟩; replace HB := aM (below_step zB hb); (try clear hb)) | ((with_reducible refine gate_callee (f := 18) rfl ?_); refine goesL_ (some 9) rfl rfl Tryd.func18 zK rfl #[.complex .f64 a1.1 a1.2] rfl zM ?_; (with_reducible refine (gauss_Norm.calls a1 t182 _ A4.out).mono ?_); rintro e w8 ⟨rfl, hb⟩; (try clear A4); refine ⟨_, rfl, ?_⟩; replace HB := aM (below_step zB hb); (try clear hb)) | ((with_reducible refine gate_callee (f := 39) rfl ?_); refine goesL_ (some 10) rfl rfl Tryd.func39 zK rfl #[.int .i64 t181, .int .i64 t182] rfl zM ?_; (with_reducible refine (cmp_Compare_int.calls t181 t182 t183 _ A5.out).mono ?_); rintro e w' ⟨rfl, ⟨nd, rfl⟩⟩; refine ⟨_, rfl, ?_⟩))
 (try simp only [Act.put, List.setIfInBounds_toArray, List.set_cons_zero, List.set_cons_succ])
 go_cut [17] (fun v17 wc => ∃ (kq : Nat) (x17_5 : Bool), v17 = .bool x17_5 ∧ Aside0 (gauss_Cmp.j0 kq a0 a1 t183 x17_5 = some r) ∧ Aside0 (kq ≤ k) ∧ Aside0 (Below w.heap.size w wc))
 case first =>
  have H := HC6.out
  clear HC6
  by_cases c9 : t183 = 0
  ·rw [if_pos c9] at H
   have c9b0 : (t183 == 0) = true := beq_iff_eq.mpr c9
   have c9b1 : (t183 != 0) = false := bne_eq_false_iff_eq.mpr c9
   clear c9
   (first | rw [c9b0] | (simp only [i64_w, i32_w]; rw [c9b0]) | skip)
   obtain ⟨t184, A10, H⟩ := zO H
   have H' := aM H
   clear H
   go_wp2_with (first | (go_at_call 17; (with_reducible refine (gauss_Fits.calls a0 t184 _ A10.out).mono ?_); rintro e w11 ⟨rfl, hb⟩; replace HB := aM (below_step zB hb); (try clear hb)))
   go_meet
   case rel => exact ⟨_, (!t184), zP, H', ⟨by first | omega | exact Nat.le_refl _⟩, ⟨zB⟩⟩
  ·rw [if_neg c9] at H
   have c9b0 : (t183 == 0) = false := beq_eq_false_iff_ne.mpr c9
   have c9b1 : (t183 != 0) = true := bne_iff_ne.mpr c9
   (first | rw [c9b0] | (simp only [i64_w, i32_w]; rw [c9b0]) | skip)
   have H' := aM H
   clear H
   go_wp2
   go_meet
   case rel => exact ⟨_, (true), zP, H', ⟨by first | omega | exact Nat.le_refl _⟩, ⟨zB⟩⟩
 case rest =>
  clear HC6
  try clear c1
  try clear c2
  try clear p2
  try clear c3
  try clear c9
  try clear c9b0
  try clear c9b1
  obtain ⟨kq, x17_5, rfl, HA, HJ5, HB⟩ := hcut
  cases kq with
  | zero => exact absurd HA.out (by simp [gauss_Cmp.j0])
  | succ kj5 =>
   have H := HA.out
   clear HA
   simp only [gauss_Cmp.j0] at H
   by_cases c12 : x17_5 = true
   ·subst c12
    rw [if_pos rfl] at H
    obtain rfl := sI H
    go_wp2
    go_ret
    exact ⟨zE, zB⟩
   ·replace c12 := Bool.eq_false_iff.mpr c12
    subst c12
    rw [if_neg (show ¬ (false = true) by decide)] at H
    obtain ⟨t185, A13, H⟩ := zO H
    obtain ⟨t186, A14, H⟩ := zO H
    obtain ⟨y187, hy187⟩ : ∃ y_ : List Int, y_ = (([t185, t186] : List Int)) := ⟨_, rfl⟩
    replace H : ((cmp_Or_int.f kj5 y187).bind fun t190 => (some t190)) = some r := zY hy187 H
    have Ny187 := aM hy187
    clear hy187
    obtain ⟨t190, A15, H⟩ := zO H
    obtain rfl := sI H
    go_wp2_with (first | ((with_reducible refine gate_callee (f := 41) rfl ?_); refine goesL_ (some 23) rfl rfl Tryd.func41 zK rfl #[.float .f64 a0.1, .float .f64 a1.1] rfl zM ?_; (with_reducible refine (cmp_Compare_float64.calls a0.1 a1.1 t185 _ A13.out).mono ?_); rintro e w' ⟨rfl, ⟨nd, rfl⟩⟩; (try clear A13); refine ⟨_, rfl, ?_⟩) | ((with_reducible refine gate_callee (f := 41) rfl ?_); refine goesL_ (some 28) rfl rfl Tryd.func41 zK rfl #[.float .f64 a0.2, .float .f64 a1.2] rfl zM ?_; (with_reducible refine (cmp_Compare_float64.calls a0.2 a1.2 t186 _ A14.out).mono ?_); rintro e w' ⟨rfl, ⟨nd, rfl⟩⟩; (try clear A14); refine ⟨_, rfl, ?_⟩) | ((with_reducible refine gate_dst (N := 29) rfl ?_); refine Kd.R_lit (Kd.int .i64) _ 3 ?hg (N := 29) ?hd (xs := ([t185, t186] : List Int)) (inner := [.int .i64 t185, .int .i64 t186]) (ok := fun _ => True) (okp := fun _ => True) ?hr ?hp (fun _ hk => hk) trivial (Below.refl _ _) (Nat.le_refl _) (by simp) ?_; (case hd => rfl); (case hg => rfl); (case hr => first | (go_simp; done) | (go_simp; rfl)); (case hp => exact (Reps.one (show Kd.M (Kd.int .i64) _ _ _ t185 [.int .i64 t185] from rfl) (Reps.one (show Kd.M (Kd.int .i64) _ _ _ t186 [.int .i64 t186] from rfl) (Reps.none _ _)))); intro v188 w16 ho17 hb hg_ hnew_; clear hg_ hnew_; (first | rw [← Ny187.out] at ho17 | (simp only [Int.reduceToNat] at ho17; rw [← Ny187.out] at ho17)); have n_ := zI (aM (Kd.R_lower ho17 (below_size zB))) (aM (below_step zB hb)); clear HB; obtain ⟨HO189, HB⟩ := n_; clear hb ho17; obtain ⟨Ao18, co18, rfl⟩ := Kd.R_slice HO189.out) | ((with_reducible refine gate_callee (f := 40) rfl ?_); refine goesL_ (some 30) rfl rfl Tryd.func40 zK rfl #[.slice Ao18 y187.length co18] rfl zM ?_; (with_reducible refine (cmp_Or_int.calls kj5 _ _ y187 t190 _ ?side1 ?side2 A15.out).mono ?_); (case side1 => exact zC (Kd.R_reads' HO189.out).2.2); (case side2 => exact (Kd.R_reads' HO189.out).2.1); rintro e w' ⟨rfl, ⟨nd, rfl⟩⟩; refine ⟨_, rfl, ?_⟩))
    go_ret
    exact ⟨zE, zB⟩

/-! ### toponymlaw14_awake: function 20 -/
def toponymlaw14_awake.f (k : Nat)  : Option (Bool) := (gauss_Parse.f k (⟨#[51, 43, 52, 105]⟩ : ByteArray)).bind fun bt191 => ((gauss_Show.f (0, 13830554455654793216)).bind fun bt193 => ((gauss_Turn.f bt191.1 1).bind fun bt195 => ((gauss_Parse.f k (⟨#[49, 43, 48, 105]⟩ : ByteArray)).bind fun bt197 => ((gauss_Times.f k (4696837138094751744, 0) (4611686018427387904, 0)).bind fun bt199 => (if (Go.FloatKind.f64.format.order bt191.1.1 4613937818241073152 == some .eq && Go.FloatKind.f64.format.order bt191.1.2 4616189618054758400 == some .eq) = true then (if bt191.2 = 0 then (if bt193.1.toList = ([45, 49, 105] : List UInt8) then (if bt193.2 = 0 then (if (Go.FloatKind.f64.format.order bt195.1.1 13839561654909534208 == some .eq && Go.FloatKind.f64.format.order bt195.1.2 4613937818241073152 == some .eq) = true then (if bt195.2 = 0 then (if bt197.2 = 140 then (if bt199.2 = 3 then ((gauss_Norm.f bt191.1).bind fun t201 => (if t201 = 25 then ((gauss_Cmp.f k bt191.1 (0, 4617315517961601024)).bind fun t202 => (if t202 = 1 then ((gauss_Norm.f (4602678819172646912, 0)).bind fun t203 => (some (t203 == (-1)))) else (some false))) else (some false))) else (some false)) else (some false)) else (some false)) else (some false)) else (some false)) else (some false)) else (some false)) else (some false))))))
theorem toponymlaw14_awake.mono : ∀ k, LeO (toponymlaw14_awake.f k ) (toponymlaw14_awake.f (k + 1) ) := by
 intro  k
 unfold toponymlaw14_awake.f
 repeat' first
   | (with_reducible exact gauss_Cmp.mono _ _ _)
   | (with_reducible exact gauss_Parse.mono _ _)
   | (with_reducible exact gauss_Times.mono _ _ _)
   | (with_reducible exact LeO.refl _)
   | exact gauss_Cmp.mono _ _ _
   | exact gauss_Parse.mono _ _
   | exact gauss_Times.mono _ _ _
   | exact LeO.none _
   | refine LeO.ite ?_ ?_
   | refine LeO.bind ?_ (fun _ => ?_)
set_option maxHeartbeats 8000000 in
set_option maxRecDepth 100000 in
theorem toponymlaw14_awake.calls (k : Nat)  (r : Bool) (w : World) (hE : Env w) (h : toponymlaw14_awake.f k  = some r) :
  Calls Tryd.prog 20 #[] w fun e w' => e = .returned (.bool r) ∧ Below w.heap.size w w' := by
 have hT := aM (yes_of toponymlaw14_awake.mono (n := 100) (by decide +kernel) h)
 have HE := aM hE
 clear hE
 have HB := aM (Below.refl w.heap.size w)
 have H := h
 clear h
 unfold toponymlaw14_awake.f at H
 obtain ⟨⟨t191, t192⟩, A1, H⟩ := zO H
 try dsimp only at H
 obtain ⟨⟨t193, t194⟩, A2, H⟩ := zO H
 try dsimp only at H
 obtain ⟨⟨t195, t196⟩, A3, H⟩ := zO H
 try dsimp only at H
 obtain ⟨⟨t197, t198⟩, A4, H⟩ := zO H
 try dsimp only at H
 obtain ⟨⟨t199, t200⟩, A5, H⟩ := zO H
 try dsimp only at H
 by_cases c6 : (Go.FloatKind.f64.format.order t191.1 4613937818241073152 == some .eq && Go.FloatKind.f64.format.order t191.2 4616189618054758400 == some .eq) = true
 ·rw [if_pos c6] at H
  have c6b0 : (Go.FloatKind.f64.format.order t191.1 4613937818241073152 == some .eq && Go.FloatKind.f64.format.order t191.2 4616189618054758400 == some .eq) = true := c6
  (try (have c6b1 : decide (Go.FloatKind.f64.format.order t191.1 4613937818241073152 = some .eq && Go.FloatKind.f64.format.order t191.2 4616189618054758400 == some .eq) = true := by simpa using c6))
  (try (have c6b2 : (Go.FloatKind.f64.format.order t191.1 4613937818241073152 == some .eq && Go.FloatKind.f64.format.order t191.2 4616189618054758400 == some .eq) = true := by simpa using c6))
  clear c6
  by_cases c7 : t192 = 0
  ·rw [if_pos c7] at H
   have c7b0 : (t192 == 0) = true := beq_iff_eq.mpr c7
   have c7b1 : (t192 != 0) = false := bne_eq_false_iff_eq.mpr c7
   clear c7
   by_cases c8 : t193.toList = ([45, 49, 105] : List UInt8)
   ·rw [if_pos c8] at H
    have c8b0 : (t193.toList == ([45, 49, 105] : List UInt8)) = true := beq_iff_eq.mpr c8
    have c8b1 : (t193.toList != ([45, 49, 105] : List UInt8)) = false := bne_eq_false_iff_eq.mpr c8
    clear c8
    by_cases c9 : t194 = 0
    ·rw [if_pos c9] at H
     have c9b0 : (t194 == 0) = true := beq_iff_eq.mpr c9
     have c9b1 : (t194 != 0) = false := bne_eq_false_iff_eq.mpr c9
     clear c9
     by_cases c10 : (Go.FloatKind.f64.format.order t195.1 13839561654909534208 == some .eq && Go.FloatKind.f64.format.order t195.2 4613937818241073152 == some .eq) = true
     ·rw [if_pos c10] at H
      have c10b0 : (Go.FloatKind.f64.format.order t195.1 13839561654909534208 == some .eq && Go.FloatKind.f64.format.order t195.2 4613937818241073152 == some .eq) = true := c10
      (try (have c10b1 : decide (Go.FloatKind.f64.format.order t195.1 13839561654909534208 = some .eq && Go.FloatKind.f64.format.order t195.2 4613937818241073152 == some .eq) = true := by simpa using c10))
      (try (have c10b2 : (Go.FloatKind.f64.format.order t195.1 13839561654909534208 == some .eq && Go.FloatKind.f64.format.order t195.2 4613937818241073152 == some .eq) = true := by simpa using c10))
      clear c10
      by_cases c11 : t196 = 0
      ·rw [if_pos c11] at H
       have c11b0 : (t196 == 0) = true := beq_iff_eq.mpr c11
       have c11b1 : (t196 != 0) = false := bne_eq_false_iff_eq.mpr c11
       clear c11
       by_cases c12 : t198 = 140
       ·rw [if_pos c12] at H
        have c12b0 : (t198 == 140) = true := beq_iff_eq.mpr c12
        have c12b1 : (t198 != 140) = false := bne_eq_false_iff_eq.mpr c12
        clear c12
        by_cases c13 : t200 = 3
        ·rw [if_pos c13] at H
         have c13b0 : (t200 == 3) = true := beq_iff_eq.mpr c13
         have c13b1 : (t200 != 3) = false := bne_eq_false_iff_eq.mpr c13
         clear c13
         obtain ⟨t201, A14, H⟩ := zO H
         by_cases c15 : t201 = 25
         ·rw [if_pos c15] at H
          have c15b0 : (t201 == 25) = true := beq_iff_eq.mpr c15
          have c15b1 : (t201 != 25) = false := bne_eq_false_iff_eq.mpr c15
          clear c15
          obtain ⟨t202, A16, H⟩ := zO H
          by_cases c17 : t202 = 1
          ·rw [if_pos c17] at H
           have c17b0 : (t202 == 1) = true := beq_iff_eq.mpr c17
           have c17b1 : (t202 != 1) = false := bne_eq_false_iff_eq.mpr c17
           clear c17
           obtain ⟨t203, A18, H⟩ := zO H
           obtain rfl := sI H
           go_enter Tryd.func20, Tryd.ntmps20
           go_wp2_with (first | ((with_reducible refine gate_callee (f := 21) rfl ?_); refine goesL_ (some 12) rfl rfl Tryd.func21 zK rfl #[.string (⟨#[51, 43, 52, 105]⟩ : ByteArray)] rfl zM ?_; (with_reducible refine (gauss_Parse.calls k (⟨#[51, 43, 52, 105]⟩ : ByteArray) t191 t192 _ (zEnv HE) A1.out).mono ?_); rintro e w19 ⟨rfl, hb⟩; (try clear A1); refine ⟨_, rfl, ?_⟩; replace HB := aM (below_step zB hb); (try clear hb)) | ((with_reducible refine gate_callee (f := 9) rfl ?_); refine goesL_ (some 16) rfl rfl Tryd.func9 zK rfl #[.complex .f64 0 13830554455654793216] rfl zM ?_; (with_reducible refine (gauss_Show.calls (0, 13830554455654793216) t193 t194 _ (zEnv HE) A2.out).mono ?_); rintro e w20 ⟨rfl, hb⟩; refine ⟨_, rfl, ?_⟩; replace HB := aM (below_step zB hb); (try clear hb)) | ((with_reducible refine gate_callee (f := 13) rfl ?_); refine goesL_ (some 21) rfl rfl Tryd.func13 zK rfl #[.complex .f64 t191.1 t191.2, .int .i64 1] rfl zM ?_; (with_reducible refine (gauss_Turn.calls t191 1 t195 t196 _ A3.out).mono ?_); rintro e w21 ⟨rfl, hb⟩; refine ⟨_, rfl, ?_⟩; replace HB := aM (below_step zB hb); (try clear hb)) | ((with_reducible refine gate_callee (f := 21) rfl ?_); refine goesL_ (some 25) rfl rfl Tryd.func21 zK rfl #[.string (⟨#[49, 43, 48, 105]⟩ : ByteArray)] rfl zM ?_; (with_reducible refine (gauss_Parse.calls k (⟨#[49, 43, 48, 105]⟩ : ByteArray) t197 t198 _ (zEnv HE) A4.out).mono ?_); rintro e w22 ⟨rfl, hb⟩; (try clear A4); refine ⟨_, rfl, ?_⟩; replace HB := aM (below_step zB hb); (try clear hb)) | ((with_reducible refine gate_callee (f := 23) rfl ?_); refine goesL_ (some 29) rfl rfl Tryd.func23 zK rfl #[.complex .f64 4696837138094751744 0, .complex .f64 4611686018427387904 0] rfl zM ?_; (with_reducible refine (gauss_Times.calls k (4696837138094751744, 0) (4611686018427387904, 0) t199 t200 _ A5.out).mono ?_); rintro e w23 ⟨rfl, hb⟩; refine ⟨_, rfl, ?_⟩; replace HB := aM (below_step zB hb); (try clear hb)) | (go_at_call 18; (with_reducible refine (gauss_Norm.calls t191 t201 _ A14.out).mono ?_); rintro e w24 ⟨rfl, hb⟩; (try clear A14); replace HB := aM (below_step zB hb); (try clear hb)) | (go_at_call 25; (with_reducible refine (gauss_Cmp.calls k t191 (0, 4617315517961601024) t202 _ A16.out).mono ?_); rintro e w25 ⟨rfl, hb⟩; replace HB := aM (below_step zB hb); (try clear hb)) | (go_at_call 18; (with_reducible refine (gauss_Norm.calls (4602678819172646912, 0) t203 _ A18.out).mono ?_); rintro e w26 ⟨rfl, hb⟩; (try clear A18); replace HB := aM (below_step zB hb); (try clear hb)))
           go_ret
           exact ⟨zE, zB⟩
          ·rw [if_neg c17] at H
           exact absurd ((sI H).trans hT.out) (by decide)
         ·rw [if_neg c15] at H
          exact absurd ((sI H).trans hT.out) (by decide)
        ·rw [if_neg c13] at H
         exact absurd ((sI H).trans hT.out) (by decide)
       ·rw [if_neg c12] at H
        exact absurd ((sI H).trans hT.out) (by decide)
      ·rw [if_neg c11] at H
       exact absurd ((sI H).trans hT.out) (by decide)
     ·rw [if_neg c10] at H
      exact absurd ((sI H).trans hT.out) (by decide)
    ·rw [if_neg c9] at H
     exact absurd ((sI H).trans hT.out) (by decide)
   ·rw [if_neg c8] at H
    exact absurd ((sI H).trans hT.out) (by decide)
  ·rw [if_neg c7] at H
   exact absurd ((sI H).trans hT.out) (by decide)
 ·rw [if_neg c6] at H
  exact absurd ((sI H).trans hT.out) (by decide)
end Go.Proofs.YtoadfanppajhhaaDoor.P
