-- Printed by wip/mk.py (this session's driver over the kit's print) and from wip/manual.
import Derived.Test.YtmnfdoldoomcgaaDoorP0
import Derived.Test.YtmnfdoldoomcgaaDoorP1
namespace Go.Proofs.YtmnfdoldoomcgaaDoor.P
open Go.RowKit Go.Proofs.YtmnfdoldoomcgaaDoorW.PrintWords Go.Proofs.YtmnfdoldoomcgaaDoorW.PrintLast Go.Proofs.YtmnfdoldoomcgaaDoorW.PrintMore
attribute [local go_sem] max2_int min2_int max_two min_two max_three min_three max_four min_four   -- for this text's walks alone
set_option linter.unusedVariables false
set_option linter.unusedSimpArgs false

/-! ### oid_Under: function 21 -/
def oid_Under.f (k : Nat) (l0 : List Int) (l1 : List Int) : Option (Bool) := (oid_Check.f k l0).bind fun t123 => (if t123 = 0 then ((oid_Check.f k l1).bind fun t124 => (if t124 = 0 then (if (l0.length : Int) ≥ (l1.length : Int) then (if 0 ≤ (l1.length : Int) then (if (l1.length : Int) ≤ (l0.length : Int) then ((slices_Equal_int_int.f k (l0.take ((l1.length : Int) : Int).toNat) l1).bind fun t126 => (some t126)) else (none)) else (none)) else (some false)) else (some false))) else (some false))
theorem oid_Under.mono : ∀ a0 a1 k, LeO (oid_Under.f k a0 a1) (oid_Under.f (k + 1) a0 a1) := by
 intro a0 a1 k
 unfold oid_Under.f
 repeat' first
   | (with_reducible exact oid_Check.mono _ _)
   | (with_reducible exact slices_Equal_int_int.mono _ _ _)
   | (with_reducible exact LeO.refl _)
   | exact oid_Check.mono _ _
   | exact slices_Equal_int_int.mono _ _ _
   | exact LeO.none _
   | refine LeO.ite ?_ ?_
   | refine LeO.bind ?_ (fun _ => ?_)
set_option maxHeartbeats 8000000 in
set_option maxRecDepth 100000 in
theorem oid_Under.calls (k : Nat) (A0 : Option Addr) (c0 : Nat) (l0 : List Int) (A1 : Option Addr) (c1 : Nat) (l1 : List Int) (r : Bool) (w : World) (hr0 : Kd.C (Kd.int .i64) w A0 l0.length l0) (hc0 : l0.length ≤ c0) (hr1 : Kd.C (Kd.int .i64) w A1 l1.length l1) (hc1 : l1.length ≤ c1) (h : oid_Under.f k l0 l1 = some r) :
  Calls Tryd.prog 21 #[.slice A0 l0.length c0, .slice A1 l1.length c1] w fun e w' => e = .returned (.bool r) ∧ Drawn0 w w' := by
 have HR0 := aM hr0
 have HC0 := aM hc0
 clear hr0 hc0
 have HR1 := aM hr1
 have HC1 := aM hc1
 clear hr1 hc1
 have H := h
 clear h
 unfold oid_Under.f at H
 obtain ⟨t123, A3, H⟩ := zO H
 by_cases c4 : t123 = 0
 ·rw [if_pos c4] at H
  have c4b0 : (t123 == 0) = true := beq_iff_eq.mpr c4
  have c4b1 : (t123 != 0) = false := bne_eq_false_iff_eq.mpr c4
  clear c4
  obtain ⟨t124, A5, H⟩ := zO H
  by_cases c6 : t124 = 0
  ·rw [if_pos c6] at H
   have c6b0 : (t124 == 0) = true := beq_iff_eq.mpr c6
   have c6b1 : (t124 != 0) = false := bne_eq_false_iff_eq.mpr c6
   clear c6
   by_cases c7 : (l0.length : Int) ≥ (l1.length : Int)
   ·rw [if_pos c7] at H
    have c7b0 : decide ((l1.length : Int) ≤ (l0.length : Int)) = true := decide_eq_true c7
    have c7b1 : decide (l1.length ≤ l0.length) = true := decide_eq_true (Int.ofNat_le.mp c7)
    clear c7
    by_cases c8 : 0 ≤ (l1.length : Int)
    ·rw [if_pos c8] at H
     have c8b0 := eq_true c8
     have c8b1 : decide (0 ≤ (l1.length : Int)) = true := decide_eq_true c8
     clear c8
     by_cases c9 : (l1.length : Int) ≤ (l0.length : Int)
     ·rw [if_pos c9] at H
      have c9b0 := eq_true c9
      have c9b1 : decide ((l1.length : Int) ≤ (l0.length : Int)) = true := decide_eq_true c9
      clear c9
      obtain ⟨t126, A10, H⟩ := zO H
      obtain rfl := sI H
      go_enter Tryd.func21, Tryd.ntmps21
      go_wp2_with (first | ((with_reducible refine gate_callee (f := 12) rfl ?_); refine goesL_ (some 6) rfl rfl Tryd.func12 zK rfl #[.slice A0 l0.length c0] rfl zM ?_; (with_reducible refine (oid_Check.calls k _ _ l0 t123 _ ?side1 ?side2 A3.out).mono ?_); (case side1 => exact zC HR0.out); (case side2 => exact HC0.out); rintro e w' ⟨rfl, ⟨nd, rfl⟩⟩; (try clear A3); refine ⟨_, rfl, ?_⟩) | (go_at_call 12; (with_reducible refine (oid_Check.calls k _ _ l1 t124 _ ?side1 ?side2 A5.out).mono ?_); (case side1 => exact zC HR1.out); (case side2 => exact HC1.out); rintro e w' ⟨rfl, ⟨nd, rfl⟩⟩; (try clear A5); obtain ⟨i011, hi011, _, hsz11, _⟩ := info_parts info3; obtain ⟨hcut11, hA11, hC11⟩ := print_take_of (P := Tryd.prog) (Value.int .i64) 0 22 3 .i64 Tryd.underlying22 hi011 hsz11 A0 c0 l0 (l1.length : Int) (zoA) (zoA) HC0.out; have HR125 := aM (Kd.C_of_reads (h1 := fun _ => rfl) (hA11 _ (Kd.reads_of_C HR0.out))); have HC125 := aM hC11; clear hA11 hC11 hi011 hsz11) | (go_at_call 32; (try rw [show min l1.length l0.length = (List.take ((l1.length : Int) : Int).toNat l0).length from by simp]); (with_reducible refine (slices_Equal_int_int.calls k _ _ (l0.take ((l1.length : Int) : Int).toNat) _ _ l1 t126 _ ?side1 ?side2 ?side3 ?side4 A10.out).mono ?_); (case side1 => exact zC HR125.out); (case side2 => exact HC125.out); (case side3 => exact zC HR1.out); (case side4 => exact HC1.out); rintro e w' ⟨rfl, ⟨nd, rfl⟩⟩))
      go_ret
      exact ⟨zP, zD⟩
     ·rw [if_neg c9] at H
      exact absurd H (by simp)
    ·rw [if_neg c8] at H
     exact absurd H (by simp)
   ·rw [if_neg c7] at H
    have c7b0 : decide ((l1.length : Int) ≤ (l0.length : Int)) = false := decide_eq_false c7
    have c7b1 : decide (l1.length ≤ l0.length) = false := decide_eq_false (fun h => c7 (Int.ofNat_le.mpr h))
    clear c7
    obtain rfl := sI H
    go_enter Tryd.func21, Tryd.ntmps21
    go_wp2_with (first | ((with_reducible refine gate_callee (f := 12) rfl ?_); refine goesL_ (some 6) rfl rfl Tryd.func12 zK rfl #[.slice A0 l0.length c0] rfl zM ?_; (with_reducible refine (oid_Check.calls k _ _ l0 t123 _ ?side1 ?side2 A3.out).mono ?_); (case side1 => exact zC HR0.out); (case side2 => exact HC0.out); rintro e w' ⟨rfl, ⟨nd, rfl⟩⟩; (try clear A3); refine ⟨_, rfl, ?_⟩) | (go_at_call 12; (with_reducible refine (oid_Check.calls k _ _ l1 t124 _ ?side1 ?side2 A5.out).mono ?_); (case side1 => exact zC HR1.out); (case side2 => exact HC1.out); rintro e w' ⟨rfl, ⟨nd, rfl⟩⟩; (try clear A5)))
    go_ret
    exact ⟨zP, zD⟩
  ·rw [if_neg c6] at H
   have c6b0 : (t124 == 0) = false := beq_eq_false_iff_ne.mpr c6
   have c6b1 : (t124 != 0) = true := bne_iff_ne.mpr c6
   obtain rfl := sI H
   go_enter Tryd.func21, Tryd.ntmps21
   go_wp2_with (first | ((with_reducible refine gate_callee (f := 12) rfl ?_); refine goesL_ (some 6) rfl rfl Tryd.func12 zK rfl #[.slice A0 l0.length c0] rfl zM ?_; (with_reducible refine (oid_Check.calls k _ _ l0 t123 _ ?side1 ?side2 A3.out).mono ?_); (case side1 => exact zC HR0.out); (case side2 => exact HC0.out); rintro e w' ⟨rfl, ⟨nd, rfl⟩⟩; (try clear A3); refine ⟨_, rfl, ?_⟩) | (go_at_call 12; (with_reducible refine (oid_Check.calls k _ _ l1 t124 _ ?side1 ?side2 A5.out).mono ?_); (case side1 => exact zC HR1.out); (case side2 => exact HC1.out); rintro e w' ⟨rfl, ⟨nd, rfl⟩⟩; (try clear A5)))
   go_ret
   exact ⟨zP, zD⟩
 ·rw [if_neg c4] at H
  have c4b0 : (t123 == 0) = false := beq_eq_false_iff_ne.mpr c4
  have c4b1 : (t123 != 0) = true := bne_iff_ne.mpr c4
  obtain rfl := sI H
  go_enter Tryd.func21, Tryd.ntmps21
  go_wp2_with (first | ((with_reducible refine gate_callee (f := 12) rfl ?_); refine goesL_ (some 6) rfl rfl Tryd.func12 zK rfl #[.slice A0 l0.length c0] rfl zM ?_; (with_reducible refine (oid_Check.calls k _ _ l0 t123 _ ?side1 ?side2 A3.out).mono ?_); (case side1 => exact zC HR0.out); (case side2 => exact HC0.out); rintro e w' ⟨rfl, ⟨nd, rfl⟩⟩; (try clear A3); refine ⟨_, rfl, ?_⟩))
  go_ret
  exact ⟨zP, zD⟩

/-! ### toponymlaw17_awake: function 9 -/
def toponymlaw17_awake.f (k : Nat)  : Option (Bool) := (oid_Parse.f k (⟨#[50, 46, 53, 46, 52, 46, 51]⟩ : ByteArray)).bind fun bt127 => ((oid_Show.f k (([2, 5, 4] : List Int))).bind fun bt134 => ((oid_Parse.f k (⟨#[49, 46, 52, 48]⟩ : ByteArray)).bind fun bt136 => (if (bt127.1.length : Int) = 4 then (if 3 < (bt127.1.length : Int) then (if (rd bt127.1 3) = 3 then (if bt127.2 = 0 then (if bt134.1.toList = ([50, 46, 53, 46, 52] : List UInt8) then (if bt134.2 = 0 then (if bt136.2 = 170 then ((oid_Under.f k bt127.1 (([2, 5, 4] : List Int))).bind fun t144 => (if t144 = true then ((oid_Cmp.f k bt127.1 (([2, 5, 4] : List Int))).bind fun t148 => (if t148 = 1 then ((oid_Above.f k (([2, 5, 4] : List Int))).bind fun t152 => (if (t152.length : Int) = 2 then ((oid_Above.f k (([2, 5] : List Int))).bind fun t158 => (some ((t158.length : Int) == 0))) else (some false))) else (some false))) else (some false))) else (some false)) else (some false)) else (some false)) else (some false)) else (some false)) else (none)) else (some false))))
theorem toponymlaw17_awake.mono : ∀ k, LeO (toponymlaw17_awake.f k ) (toponymlaw17_awake.f (k + 1) ) := by
 intro  k
 unfold toponymlaw17_awake.f
 repeat' first
   | (with_reducible exact oid_Above.mono _ _)
   | (with_reducible exact oid_Cmp.mono _ _ _)
   | (with_reducible exact oid_Parse.mono _ _)
   | (with_reducible exact oid_Show.mono _ _)
   | (with_reducible exact oid_Under.mono _ _ _)
   | (with_reducible exact LeO.refl _)
   | exact oid_Above.mono _ _
   | exact oid_Cmp.mono _ _ _
   | exact oid_Parse.mono _ _
   | exact oid_Show.mono _ _
   | exact oid_Under.mono _ _ _
   | exact LeO.none _
   | refine LeO.ite ?_ ?_
   | refine LeO.bind ?_ (fun _ => ?_)
set_option maxHeartbeats 8000000 in
set_option maxRecDepth 100000 in
theorem toponymlaw17_awake.calls (k : Nat)  (r : Bool) (w : World) (hE : Env w) (h : toponymlaw17_awake.f k  = some r) :
  Calls Tryd.prog 9 #[] w fun e w' => e = .returned (.bool r) ∧ Below w.heap.size w w' := by
 have hT := aM (yes_of toponymlaw17_awake.mono (n := 100) (by decide +kernel) h)
 have HE := aM hE
 clear hE
 have HB := aM (Below.refl w.heap.size w)
 have H := h
 clear h
 unfold toponymlaw17_awake.f at H
 obtain ⟨⟨t127, t128⟩, A1, H⟩ := zO H
 try dsimp only at H
 obtain ⟨y131, hy131⟩ : ∃ y_ : List Int, y_ = (([2, 5, 4] : List Int)) := ⟨_, rfl⟩
 replace H : ((oid_Show.f k y131).bind fun bt134 => ((oid_Parse.f k (⟨#[49, 46, 52, 48]⟩ : ByteArray)).bind fun bt136 => (if (t127.length : Int) = 4 then (if 3 < (t127.length : Int) then (if (rd t127 3) = 3 then (if t128 = 0 then (if bt134.1.toList = ([50, 46, 53, 46, 52] : List UInt8) then (if bt134.2 = 0 then (if bt136.2 = 170 then ((oid_Under.f k t127 (([2, 5, 4] : List Int))).bind fun t144 => (if t144 = true then ((oid_Cmp.f k t127 (([2, 5, 4] : List Int))).bind fun t148 => (if t148 = 1 then ((oid_Above.f k (([2, 5, 4] : List Int))).bind fun t152 => (if (t152.length : Int) = 2 then ((oid_Above.f k (([2, 5] : List Int))).bind fun t158 => (some ((t158.length : Int) == 0))) else (some false))) else (some false))) else (some false))) else (some false)) else (some false)) else (some false)) else (some false)) else (some false)) else (none)) else (some false)))) = some r := zY hy131 H
 have Ny131 := aM hy131
 clear hy131
 obtain ⟨⟨t134, t135⟩, A2, H⟩ := zO H
 try dsimp only at H
 obtain ⟨⟨t136, t137⟩, A3, H⟩ := zO H
 try dsimp only at H
 by_cases c4 : (t127.length : Int) = 4
 ·rw [if_pos c4] at H
  have c4b0 : ((t127.length : Int) == 4) = true := beq_iff_eq.mpr c4
  have c4b1 : ((t127.length : Int) != 4) = false := bne_eq_false_iff_eq.mpr c4
  clear c4
  by_cases c5 : 3 < (t127.length : Int)
  ·rw [if_pos c5] at H
   have c5b0 : decide (3 < (t127.length : Int)) = true := decide_eq_true c5
   have c5b1 : decide (3 < t127.length) = true := decide_eq_true (by omega)
   clear c5
   by_cases c6 : (rd t127 3) = 3
   ·rw [if_pos c6] at H
    have c6b0 : ((rd t127 3) == 3) = true := beq_iff_eq.mpr c6
    have c6b1 : ((rd t127 3) != 3) = false := bne_eq_false_iff_eq.mpr c6
    clear c6
    by_cases c7 : t128 = 0
    ·rw [if_pos c7] at H
     have c7b0 : (t128 == 0) = true := beq_iff_eq.mpr c7
     have c7b1 : (t128 != 0) = false := bne_eq_false_iff_eq.mpr c7
     clear c7
     by_cases c8 : t134.toList = ([50, 46, 53, 46, 52] : List UInt8)
     ·rw [if_pos c8] at H
      have c8b0 : (t134.toList == ([50, 46, 53, 46, 52] : List UInt8)) = true := beq_iff_eq.mpr c8
      have c8b1 : (t134.toList != ([50, 46, 53, 46, 52] : List UInt8)) = false := bne_eq_false_iff_eq.mpr c8
      clear c8
      by_cases c9 : t135 = 0
      ·rw [if_pos c9] at H
       have c9b0 : (t135 == 0) = true := beq_iff_eq.mpr c9
       have c9b1 : (t135 != 0) = false := bne_eq_false_iff_eq.mpr c9
       clear c9
       by_cases c10 : t137 = 170
       ·rw [if_pos c10] at H
        have c10b0 : (t137 == 170) = true := beq_iff_eq.mpr c10
        have c10b1 : (t137 != 170) = false := bne_eq_false_iff_eq.mpr c10
        clear c10
        obtain ⟨y141, hy141⟩ : ∃ y_ : List Int, y_ = (([2, 5, 4] : List Int)) := ⟨_, rfl⟩
        replace H : ((oid_Under.f k t127 y141).bind fun t144 => (if t144 = true then ((oid_Cmp.f k t127 (([2, 5, 4] : List Int))).bind fun t148 => (if t148 = 1 then ((oid_Above.f k (([2, 5, 4] : List Int))).bind fun t152 => (if (t152.length : Int) = 2 then ((oid_Above.f k (([2, 5] : List Int))).bind fun t158 => (some ((t158.length : Int) == 0))) else (some false))) else (some false))) else (some false))) = some r := zY hy141 H
        have Ny141 := aM hy141
        clear hy141
        obtain ⟨t144, A11, H⟩ := zO H
        by_cases c12 : t144 = true
        ·subst c12
         rw [if_pos rfl] at H
         obtain ⟨y145, hy145⟩ : ∃ y_ : List Int, y_ = (([2, 5, 4] : List Int)) := ⟨_, rfl⟩
         replace H : ((oid_Cmp.f k t127 y145).bind fun t148 => (if t148 = 1 then ((oid_Above.f k (([2, 5, 4] : List Int))).bind fun t152 => (if (t152.length : Int) = 2 then ((oid_Above.f k (([2, 5] : List Int))).bind fun t158 => (some ((t158.length : Int) == 0))) else (some false))) else (some false))) = some r := zY hy145 H
         have Ny145 := aM hy145
         clear hy145
         obtain ⟨t148, A13, H⟩ := zO H
         by_cases c14 : t148 = 1
         ·rw [if_pos c14] at H
          have c14b0 : (t148 == 1) = true := beq_iff_eq.mpr c14
          have c14b1 : (t148 != 1) = false := bne_eq_false_iff_eq.mpr c14
          clear c14
          obtain ⟨y149, hy149⟩ : ∃ y_ : List Int, y_ = (([2, 5, 4] : List Int)) := ⟨_, rfl⟩
          replace H : ((oid_Above.f k y149).bind fun t152 => (if (t152.length : Int) = 2 then ((oid_Above.f k (([2, 5] : List Int))).bind fun t158 => (some ((t158.length : Int) == 0))) else (some false))) = some r := zY hy149 H
          have Ny149 := aM hy149
          clear hy149
          obtain ⟨t152, A15, H⟩ := zO H
          by_cases c16 : (t152.length : Int) = 2
          ·rw [if_pos c16] at H
           have c16b0 : ((t152.length : Int) == 2) = true := beq_iff_eq.mpr c16
           have c16b1 : ((t152.length : Int) != 2) = false := bne_eq_false_iff_eq.mpr c16
           clear c16
           obtain ⟨y155, hy155⟩ : ∃ y_ : List Int, y_ = (([2, 5] : List Int)) := ⟨_, rfl⟩
           replace H : ((oid_Above.f k y155).bind fun t158 => (some ((t158.length : Int) == 0))) = some r := zY hy155 H
           have Ny155 := aM hy155
           clear hy155
           obtain ⟨t158, A17, H⟩ := zO H
           obtain rfl := sI H
           go_enter Tryd.func9, Tryd.ntmps9
           go_wp2_with (first | ((with_reducible refine gate_callee (f := 17) rfl ?_); refine goesL_ (some 8) rfl rfl Tryd.func17 zK rfl #[.string (⟨#[50, 46, 53, 46, 52, 46, 51]⟩ : ByteArray)] rfl zM ?_; (with_reducible refine (oid_Parse.calls k (⟨#[50, 46, 53, 46, 52, 46, 51]⟩ : ByteArray) t127 t128 _ (zEnv HE) A1.out).mono ?_); rintro e w18 ⟨v129, rfl, ho0, hb⟩; (try clear A1); refine ⟨_, rfl, ?_⟩; have n_ := zI (aM (Kd.R_lower ho0 (below_size zB))) (aM (below_step zB hb)); clear HB; obtain ⟨HO130, HB⟩ := n_; (try clear hb); (try clear hk); (try clear ho0)) | ((with_reducible refine gate_dst (N := 12) rfl ?_); (try (refine gate_guard (by rfl) ?_; dsimp only)); refine Kd.R_lit (Kd.int .i64) _ 3 ?hg (N := 12) ?hd (xs := ([2, 5, 4] : List Int)) (inner := [.int .i64 2, .int .i64 5, .int .i64 4]) (ok := fun _ => True) (okp := fun _ => True) ?hr ?hp (fun _ hk => hk) trivial (Below.refl _ _) (Nat.le_refl _) (by simp) ?_; (case hd => rfl); (case hg => rfl); (case hr => first | (go_simp; done) | (go_simp; rfl)); (case hp => exact (Reps.one (show Kd.M (Kd.int .i64) _ _ _ 2 [.int .i64 2] from rfl) (Reps.one (show Kd.M (Kd.int .i64) _ _ _ 5 [.int .i64 5] from rfl) (Reps.one (show Kd.M (Kd.int .i64) _ _ _ 4 [.int .i64 4] from rfl) (Reps.none _ _))))); intro v132 w19 ho20 hb hg_ hnew_; clear hg_ hnew_; (first | rw [← Ny131.out] at ho20 | (simp only [Int.reduceToNat] at ho20; rw [← Ny131.out] at ho20)); have n_ := zI (aM (Kd.R_elder' (zR HO130) (Kd.R_base ho20) hb)) (zI (aM (Kd.R_lower (Kd.R_new' ho20 (Kd.R_lt (zR HO130))) (below_size zB))) (aM (below_step zB hb))); clear HO130 HB; obtain ⟨HO130, HO133, HB⟩ := n_; clear hb ho20; obtain ⟨Ao21, co21, rfl⟩ := Kd.R_slice HO133.out) | ((with_reducible refine gate_callee (f := 10) rfl ?_); refine goesL_ (some 13) rfl rfl Tryd.func10 zK rfl #[.slice Ao21 y131.length co21] rfl zM ?_; (with_reducible refine (oid_Show.calls k _ _ y131 t134 t135 _ (zEnv HE) ?side1 ?side2 A2.out).mono ?_); (case side1 => exact zC (Kd.R_reads' HO133.out).2.2); (case side2 => exact (Kd.R_reads' HO133.out).2.1); rintro e w22 ⟨rfl, hb⟩; refine ⟨_, rfl, ?_⟩; have n_ := zI (aM (Kd.R_below (zR HO130) hb)) (zI (aM (Kd.R_below (zR HO133) hb)) (aM (below_step zB hb))); clear HO130 HO133 HB; obtain ⟨HO130, HO133, HB⟩ := n_; (try clear hb); (try clear hk)) | ((with_reducible refine gate_callee (f := 17) rfl ?_); refine goesL_ (some 17) rfl rfl Tryd.func17 zK rfl #[.string (⟨#[49, 46, 52, 48]⟩ : ByteArray)] rfl zM ?_; (with_reducible refine (oid_Parse.calls k (⟨#[49, 46, 52, 48]⟩ : ByteArray) t136 t137 _ (zEnv HE) A3.out).mono ?_); rintro e w23 ⟨v138, rfl, ho0, hb⟩; (try clear A3); refine ⟨_, rfl, ?_⟩; have n_ := zI (aM (Kd.R_elder' (zR HO130) (Kd.R_base ho0) hb)) (zI (aM (Kd.R_elder' (zR HO133) (Kd.R_base ho0) hb)) (zI (aM (Kd.R_lower (Kd.R_new' (Kd.R_new' ho0 (Kd.R_lt (zR HO130))) (Kd.R_lt (zR HO133))) (below_size zB))) (aM (below_step zB hb)))); clear HO130 HO133 HB; obtain ⟨HO130, HO133, HO139, HB⟩ := n_; (try clear hb); (try clear hk); (try clear ho0); obtain ⟨Ao24, co24, rfl⟩ := Kd.R_slice HO130.out; have p140 : 0 ≤ (3 : Int) := (by omega); have q140 : 3 < (t127.length : Int) := zoA; obtain ⟨ad140, e140, hx140_0⟩ := Kd.at_int (Kd.R_reads' HO130.out).2.2 3 p140 q140; cases e140; (try simp only [show (3 : Int).toNat = 3 from rfl, Nat.reduceMul, Nat.reduceEqDiff, Go.Addr.add, ↓reduceIte] at hx140_0); have qi140 : (3 < t127.length) = True := eq_true (by omega); (try rw [show ((3 : Int)).toNat = 3 from rfl] at hx140_0); replace p140 := eq_true p140; replace q140 := eq_true q140) | ((with_reducible refine gate_dst (N := 47) rfl ?_); (try (refine gate_guard (by rfl) ?_; dsimp only)); refine Kd.R_lit (Kd.int .i64) _ 3 ?hg (N := 47) ?hd (xs := ([2, 5, 4] : List Int)) (inner := [.int .i64 2, .int .i64 5, .int .i64 4]) (ok := fun _ => True) (okp := fun _ => True) ?hr ?hp (fun _ hk => hk) trivial (Below.refl _ _) (Nat.le_refl _) (by simp) ?_; (case hd => rfl); (case hg => rfl); (case hr => first | (go_simp; done) | (go_simp; rfl)); (case hp => exact (Reps.one (show Kd.M (Kd.int .i64) _ _ _ 2 [.int .i64 2] from rfl) (Reps.one (show Kd.M (Kd.int .i64) _ _ _ 5 [.int .i64 5] from rfl) (Reps.one (show Kd.M (Kd.int .i64) _ _ _ 4 [.int .i64 4] from rfl) (Reps.none _ _))))); intro v142 w25 ho26 hb hg_ hnew_; clear hg_ hnew_; (first | rw [← Ny141.out] at ho26 | (simp only [Int.reduceToNat] at ho26; rw [← Ny141.out] at ho26)); have n_ := zI (aM (Kd.R_elder' (zR HO130) (Kd.R_base ho26) hb)) (zI (aM (Kd.R_elder' (zR HO133) (Kd.R_base ho26) hb)) (zI (aM (Kd.R_elder' (zR HO139) (Kd.R_base ho26) hb)) (zI (aM (Kd.R_lower (Kd.R_new' (Kd.R_new' (Kd.R_new' ho26 (Kd.R_lt (zR HO130))) (Kd.R_lt (zR HO133))) (Kd.R_lt (zR HO139))) (below_size zB))) (aM (below_step zB hb))))); clear HO130 HO133 HO139 HB; obtain ⟨HO130, HO133, HO139, HO143, HB⟩ := n_; clear hb ho26; obtain ⟨Ao27, co27, rfl⟩ := Kd.R_slice HO143.out) | (go_at_call 21; (with_reducible refine (oid_Under.calls k _ _ t127 _ _ y141 true _ ?side1 ?side2 ?side3 ?side4 A11.out).mono ?_); (case side1 => exact zC (Kd.R_reads' HO130.out).2.2); (case side2 => exact (Kd.R_reads' HO130.out).2.1); (case side3 => exact zC (Kd.R_reads' HO143.out).2.2); (case side4 => exact (Kd.R_reads' HO143.out).2.1); rintro e w' ⟨rfl, ⟨nd, rfl⟩⟩) | ((with_reducible refine gate_dst (N := 52) rfl ?_); (try (refine gate_guard (by rfl) ?_; dsimp only)); refine Kd.R_lit (Kd.int .i64) _ 3 ?hg (N := 52) ?hd (xs := ([2, 5, 4] : List Int)) (inner := [.int .i64 2, .int .i64 5, .int .i64 4]) (ok := fun _ => True) (okp := fun _ => True) ?hr ?hp (fun _ hk => hk) trivial (Below.refl _ _) (Nat.le_refl _) (by simp) ?_; (case hd => rfl); (case hg => rfl); (case hr => first | (go_simp; done) | (go_simp; rfl)); (case hp => exact (Reps.one (show Kd.M (Kd.int .i64) _ _ _ 2 [.int .i64 2] from rfl) (Reps.one (show Kd.M (Kd.int .i64) _ _ _ 5 [.int .i64 5] from rfl) (Reps.one (show Kd.M (Kd.int .i64) _ _ _ 4 [.int .i64 4] from rfl) (Reps.none _ _))))); intro v146 w28 ho29 hb hg_ hnew_; clear hg_ hnew_; (first | rw [← Ny145.out] at ho29 | (simp only [Int.reduceToNat] at ho29; rw [← Ny145.out] at ho29)); have n_ := zI (aM (Kd.R_elder' (zR HO130) (Kd.R_base ho29) hb)) (zI (aM (Kd.R_elder' (zR HO133) (Kd.R_base ho29) hb)) (zI (aM (Kd.R_elder' (zR HO139) (Kd.R_base ho29) hb)) (zI (aM (Kd.R_elder' (zR HO143) (Kd.R_base ho29) hb)) (zI (aM (Kd.R_lower (Kd.R_new' (Kd.R_new' (Kd.R_new' (Kd.R_new' ho29 (Kd.R_lt (zR HO130))) (Kd.R_lt (zR HO133))) (Kd.R_lt (zR HO139))) (Kd.R_lt (zR HO143))) (below_size zB))) (aM (below_step zB hb)))))); clear HO130 HO133 HO139 HO143 HB; obtain ⟨HO130, HO133, HO139, HO143, HO147, HB⟩ := n_; clear hb ho29; obtain ⟨Ao30, co30, rfl⟩ := Kd.R_slice HO147.out) | (go_at_call 19; (with_reducible refine (oid_Cmp.calls k _ _ t127 _ _ y145 t148 _ ?side1 ?side2 ?side3 ?side4 A13.out).mono ?_); (case side1 => exact zC (Kd.R_reads' HO130.out).2.2); (case side2 => exact (Kd.R_reads' HO130.out).2.1); (case side3 => exact zC (Kd.R_reads' HO147.out).2.2); (case side4 => exact (Kd.R_reads' HO147.out).2.1); rintro e w' ⟨rfl, ⟨nd, rfl⟩⟩) | ((with_reducible refine gate_dst (N := 57) rfl ?_); (try (refine gate_guard (by rfl) ?_; dsimp only)); refine Kd.R_lit (Kd.int .i64) _ 3 ?hg (N := 57) ?hd (xs := ([2, 5, 4] : List Int)) (inner := [.int .i64 2, .int .i64 5, .int .i64 4]) (ok := fun _ => True) (okp := fun _ => True) ?hr ?hp (fun _ hk => hk) trivial (Below.refl _ _) (Nat.le_refl _) (by simp) ?_; (case hd => rfl); (case hg => rfl); (case hr => first | (go_simp; done) | (go_simp; rfl)); (case hp => exact (Reps.one (show Kd.M (Kd.int .i64) _ _ _ 2 [.int .i64 2] from rfl) (Reps.one (show Kd.M (Kd.int .i64) _ _ _ 5 [.int .i64 5] from rfl) (Reps.one (show Kd.M (Kd.int .i64) _ _ _ 4 [.int .i64 4] from rfl) (Reps.none _ _))))); intro v150 w31 ho32 hb hg_ hnew_; clear hg_ hnew_; (first | rw [← Ny149.out] at ho32 | (simp only [Int.reduceToNat] at ho32; rw [← Ny149.out] at ho32)); have n_ := zI (aM (Kd.R_elder' (zR HO130) (Kd.R_base ho32) hb)) (zI (aM (Kd.R_elder' (zR HO133) (Kd.R_base ho32) hb)) (zI (aM (Kd.R_elder' (zR HO139) (Kd.R_base ho32) hb)) (zI (aM (Kd.R_elder' (zR HO143) (Kd.R_base ho32) hb)) (zI (aM (Kd.R_elder' (zR HO147) (Kd.R_base ho32) hb)) (zI (aM (Kd.R_lower (Kd.R_new' (Kd.R_new' (Kd.R_new' (Kd.R_new' (Kd.R_new' ho32 (Kd.R_lt (zR HO130))) (Kd.R_lt (zR HO133))) (Kd.R_lt (zR HO139))) (Kd.R_lt (zR HO143))) (Kd.R_lt (zR HO147))) (below_size zB))) (aM (below_step zB hb))))))); clear HO130 HO133 HO139 HO143 HO147 HB; obtain ⟨HO130, HO133, HO139, HO143, HO147, HO151, HB⟩ := n_; clear hb ho32; obtain ⟨Ao33, co33, rfl⟩ := Kd.R_slice HO151.out) | (go_at_call 15; (with_reducible refine (oid_Above.calls k _ _ y149 t152 _ ?side1 ?side2 A15.out).mono ?_); (case side1 => exact zC (Kd.R_reads' HO151.out).2.2); (case side2 => exact (Kd.R_reads' HO151.out).2.1); rintro e w34 ⟨v153, rfl, ho0, hb⟩; (try clear A15); have n_ := zI (aM (Kd.R_below (zR HO130) hb)) (zI (aM (Kd.R_below (zR HO133) hb)) (zI (aM (Kd.R_below (zR HO139) hb)) (zI (aM (Kd.R_below (zR HO143) hb)) (zI (aM (Kd.R_below (zR HO147) hb)) (zI (aM (Kd.R_below (zR HO151) hb)) (zI (aM (Kd.V_lower (Kd.V_mono (ok' := fun k_ => some k_ ≠ (.slice (some ad140) t127.length co24 : Value).ownBlock ∧ some k_ ≠ (.slice Ao21 y131.length co21 : Value).ownBlock ∧ some k_ ≠ (v138 : Value).ownBlock ∧ some k_ ≠ (.slice Ao27 y141.length co27 : Value).ownBlock ∧ some k_ ≠ (.slice Ao30 y145.length co30 : Value).ownBlock ∧ some k_ ≠ (.slice Ao33 y149.length co33 : Value).ownBlock) ho0 (fun k_ hk_ => ⟨(Kd.fresh' (Kd.R_lt (zR HO130)) k_ hk_), (Kd.fresh' (Kd.R_lt (zR HO133)) k_ hk_), (Kd.fresh' (Kd.R_lt (zR HO139)) k_ hk_), (Kd.fresh' (Kd.R_lt (zR HO143)) k_ hk_), (Kd.fresh' (Kd.R_lt (zR HO147)) k_ hk_), (Kd.fresh' (Kd.R_lt (zR HO151)) k_ hk_)⟩)) (below_size zB))) (aM (below_step zB hb)))))))); clear HO130 HO133 HO139 HO143 HO147 HO151 HB; obtain ⟨HO130, HO133, HO139, HO143, HO147, HO151, HO154, HB⟩ := n_; (try clear hb); (try clear hk); (try clear ho0); obtain ⟨Ao35, co35, rfl⟩ := Kd.V_slice HO154.out) | ((with_reducible refine gate_dst (N := 63) rfl ?_); (try (refine gate_guard (by rfl) ?_; dsimp only)); refine Kd.R_lit (Kd.int .i64) _ 3 ?hg (N := 63) ?hd (xs := ([2, 5] : List Int)) (inner := [.int .i64 2, .int .i64 5]) (ok := fun _ => True) (okp := fun _ => True) ?hr ?hp (fun _ hk => hk) trivial (Below.refl _ _) (Nat.le_refl _) (by simp) ?_; (case hd => rfl); (case hg => rfl); (case hr => first | (go_simp; done) | (go_simp; rfl)); (case hp => exact (Reps.one (show Kd.M (Kd.int .i64) _ _ _ 2 [.int .i64 2] from rfl) (Reps.one (show Kd.M (Kd.int .i64) _ _ _ 5 [.int .i64 5] from rfl) (Reps.none _ _)))); intro v156 w36 ho37 hb hg_ hnew_; clear hg_ hnew_; (first | rw [← Ny155.out] at ho37 | (simp only [Int.reduceToNat] at ho37; rw [← Ny155.out] at ho37)); have n_ := zI (aM (Kd.R_elder' (zR HO130) (Kd.R_base ho37) hb)) (zI (aM (Kd.R_elder' (zR HO133) (Kd.R_base ho37) hb)) (zI (aM (Kd.R_elder' (zR HO139) (Kd.R_base ho37) hb)) (zI (aM (Kd.R_elder' (zR HO143) (Kd.R_base ho37) hb)) (zI (aM (Kd.R_elder' (zR HO147) (Kd.R_base ho37) hb)) (zI (aM (Kd.R_elder' (zR HO151) (Kd.R_base ho37) hb)) (zI (aM (Kd.V_elder' (zV HO154) (Kd.R_base ho37) hb)) (zI (aM (Kd.R_lower (Kd.R_new' (Kd.R_new' (Kd.R_new' (Kd.R_new' (Kd.R_new' (Kd.R_new' ho37 (Kd.R_lt (zR HO130))) (Kd.R_lt (zR HO133))) (Kd.R_lt (zR HO139))) (Kd.R_lt (zR HO143))) (Kd.R_lt (zR HO147))) (Kd.R_lt (zR HO151))) (below_size zB))) (aM (below_step zB hb))))))))); clear HO130 HO133 HO139 HO143 HO147 HO151 HO154 HB; obtain ⟨HO130, HO133, HO139, HO143, HO147, HO151, HO154, HO157, HB⟩ := n_; clear hb ho37; obtain ⟨Ao38, co38, rfl⟩ := Kd.R_slice HO157.out) | (go_at_call 15; (with_reducible refine (oid_Above.calls k _ _ y155 t158 _ ?side1 ?side2 A17.out).mono ?_); (case side1 => exact zC (Kd.R_reads' HO157.out).2.2); (case side2 => exact (Kd.R_reads' HO157.out).2.1); rintro e w39 ⟨v159, rfl, ho0, hb⟩; (try clear A17); have n_ := zI (aM (Kd.R_below (zR HO130) hb)) (zI (aM (Kd.R_below (zR HO133) hb)) (zI (aM (Kd.R_below (zR HO139) hb)) (zI (aM (Kd.R_below (zR HO143) hb)) (zI (aM (Kd.R_below (zR HO147) hb)) (zI (aM (Kd.R_below (zR HO151) hb)) (zI (aM (Kd.V_below (zV HO154) hb)) (zI (aM (Kd.R_below (zR HO157) hb)) (zI (aM (Kd.V_lower (Kd.V_mono (ok' := fun k_ => some k_ ≠ (.slice (some ad140) t127.length co24 : Value).ownBlock ∧ some k_ ≠ (.slice Ao21 y131.length co21 : Value).ownBlock ∧ some k_ ≠ (v138 : Value).ownBlock ∧ some k_ ≠ (.slice Ao27 y141.length co27 : Value).ownBlock ∧ some k_ ≠ (.slice Ao30 y145.length co30 : Value).ownBlock ∧ some k_ ≠ (.slice Ao33 y149.length co33 : Value).ownBlock ∧ some k_ ≠ (.slice Ao38 y155.length co38 : Value).ownBlock) ho0 (fun k_ hk_ => ⟨(Kd.fresh' (Kd.R_lt (zR HO130)) k_ hk_), (Kd.fresh' (Kd.R_lt (zR HO133)) k_ hk_), (Kd.fresh' (Kd.R_lt (zR HO139)) k_ hk_), (Kd.fresh' (Kd.R_lt (zR HO143)) k_ hk_), (Kd.fresh' (Kd.R_lt (zR HO147)) k_ hk_), (Kd.fresh' (Kd.R_lt (zR HO151)) k_ hk_), (Kd.fresh' (Kd.R_lt (zR HO157)) k_ hk_)⟩)) (below_size zB))) (aM (below_step zB hb)))))))))); clear HO130 HO133 HO139 HO143 HO147 HO151 HO154 HO157 HB; obtain ⟨HO130, HO133, HO139, HO143, HO147, HO151, HO154, HO157, HO160, HB⟩ := n_; (try clear hb); (try clear hk); (try clear ho0); obtain ⟨Ao40, co40, rfl⟩ := Kd.V_slice HO160.out))
           go_ret
           exact ⟨zE, zB⟩
          ·rw [if_neg c16] at H
           exact absurd ((sI H).trans hT.out) (by decide)
         ·rw [if_neg c14] at H
          exact absurd ((sI H).trans hT.out) (by decide)
        ·replace c12 := Bool.eq_false_iff.mpr c12
         subst c12
         rw [if_neg (show ¬ (false = true) by decide)] at H
         exact absurd ((sI H).trans hT.out) (by decide)
       ·rw [if_neg c10] at H
        exact absurd ((sI H).trans hT.out) (by decide)
      ·rw [if_neg c9] at H
       exact absurd ((sI H).trans hT.out) (by decide)
     ·rw [if_neg c8] at H
      exact absurd ((sI H).trans hT.out) (by decide)
    ·rw [if_neg c7] at H
     exact absurd ((sI H).trans hT.out) (by decide)
   ·rw [if_neg c6] at H
    exact absurd ((sI H).trans hT.out) (by decide)
  ·rw [if_neg c5] at H
   exact absurd H (by simp)
 ·rw [if_neg c4] at H
  exact absurd ((sI H).trans hT.out) (by decide)
/-! ### toponymref17_Check: function 13 -/
mutual
def toponymref17_Check.j0 : Nat → List Int → Bool → Option (Int)
 | 0, _, _ => none
 | k + 1, x0, x12 => if x12 = true then (some 170) else (toponymref17_Check.l0 k x0 0)
def toponymref17_Check.l0 : Nat → List Int → Int → Option (Int)
 | 0, _, _ => none
 | k + 1, x0, x3 => if x3 < (x0.length : Int) then (if x3 = 0 then (toponymref17_Check.j2 k x0 x3 2) else (toponymref17_Check.j2 k x0 x3 99999)) else (some 0)
def toponymref17_Check.j2 : Nat → List Int → Int → Int → Option (Int)
 | 0, _, _, _ => none
 | k + 1, x0, x3, x4 => if x3 = 1 then (if 0 < (x0.length : Int) then (toponymref17_Check.j3 k x0 x3 x4 ((rd x0 0) != 2)) else (none)) else (toponymref17_Check.j3 k x0 x3 x4 false)
def toponymref17_Check.j3 : Nat → List Int → Int → Int → Bool → Option (Int)
 | 0, _, _, _, _ => none
 | k + 1, x0, x3, x4, x28 => if x28 = true then (if 0 ≤ x3 then (if x3 < (x0.length : Int) then (if (rd x0 x3) < 0 then (some 170) else (if (rd x0 x3) > 39 then (some 170) else (toponymref17_Check.l0 k x0 (wrap64 (x3 + 1))))) else (none)) else (none)) else (if 0 ≤ x3 then (if x3 < (x0.length : Int) then (if (rd x0 x3) < 0 then (some 170) else (if (rd x0 x3) > x4 then (some 170) else (toponymref17_Check.l0 k x0 (wrap64 (x3 + 1))))) else (none)) else (none))
end
def toponymref17_Check.f (k : Nat) (l0 : List Int) : Option (Int) := if (l0.length : Int) < 2 then (toponymref17_Check.j0 k l0 true) else (toponymref17_Check.j0 k l0 (decide ((l0.length : Int) > 12)))
theorem toponymref17_Check.mono_l : ∀ k, (∀ y0 y1, LeO (toponymref17_Check.j0 k y0 y1) (toponymref17_Check.j0 (k + 1) y0 y1)) ∧ (∀ y0 y1, LeO (toponymref17_Check.l0 k y0 y1) (toponymref17_Check.l0 (k + 1) y0 y1)) ∧ (∀ y0 y1 y2, LeO (toponymref17_Check.j2 k y0 y1 y2) (toponymref17_Check.j2 (k + 1) y0 y1 y2)) ∧ (∀ y0 y1 y2 y3, LeO (toponymref17_Check.j3 k y0 y1 y2 y3) (toponymref17_Check.j3 (k + 1) y0 y1 y2 y3))
 | 0 => ⟨fun _ _ r h => by simp [toponymref17_Check.j0] at h, fun _ _ r h => by simp [toponymref17_Check.l0] at h, fun _ _ _ r h => by simp [toponymref17_Check.j2] at h, fun _ _ _ _ r h => by simp [toponymref17_Check.j3] at h⟩
 | k + 1 => by
  obtain ⟨ih0, ih1, ih2, ih3⟩ := toponymref17_Check.mono_l k
  refine ⟨?_, ?_, ?_, ?_⟩
  ·intro y0 y1
   unfold toponymref17_Check.j0
   repeat' first
   | (with_reducible exact ih0 _ _)
   | (with_reducible exact ih1 _ _)
   | (with_reducible exact ih2 _ _ _)
   | (with_reducible exact ih3 _ _ _ _)
   | (with_reducible exact LeO.refl _)
   | exact ih0 _ _
   | exact ih1 _ _
   | exact ih2 _ _ _
   | exact ih3 _ _ _ _
   | exact LeO.none _
   | refine LeO.ite ?_ ?_
   | refine LeO.bind ?_ (fun _ => ?_)
  ·intro y0 y1
   unfold toponymref17_Check.l0
   repeat' first
   | (with_reducible exact ih0 _ _)
   | (with_reducible exact ih1 _ _)
   | (with_reducible exact ih2 _ _ _)
   | (with_reducible exact ih3 _ _ _ _)
   | (with_reducible exact LeO.refl _)
   | exact ih0 _ _
   | exact ih1 _ _
   | exact ih2 _ _ _
   | exact ih3 _ _ _ _
   | exact LeO.none _
   | refine LeO.ite ?_ ?_
   | refine LeO.bind ?_ (fun _ => ?_)
  ·intro y0 y1 y2
   unfold toponymref17_Check.j2
   repeat' first
   | (with_reducible exact ih0 _ _)
   | (with_reducible exact ih1 _ _)
   | (with_reducible exact ih2 _ _ _)
   | (with_reducible exact ih3 _ _ _ _)
   | (with_reducible exact LeO.refl _)
   | exact ih0 _ _
   | exact ih1 _ _
   | exact ih2 _ _ _
   | exact ih3 _ _ _ _
   | exact LeO.none _
   | refine LeO.ite ?_ ?_
   | refine LeO.bind ?_ (fun _ => ?_)
  ·intro y0 y1 y2 y3
   unfold toponymref17_Check.j3
   repeat' first
   | (with_reducible exact ih0 _ _)
   | (with_reducible exact ih1 _ _)
   | (with_reducible exact ih2 _ _ _)
   | (with_reducible exact ih3 _ _ _ _)
   | (with_reducible exact LeO.refl _)
   | exact ih0 _ _
   | exact ih1 _ _
   | exact ih2 _ _ _
   | exact ih3 _ _ _ _
   | exact LeO.none _
   | refine LeO.ite ?_ ?_
   | refine LeO.bind ?_ (fun _ => ?_)
theorem toponymref17_Check.mono : ∀ a0 k, LeO (toponymref17_Check.f k a0) (toponymref17_Check.f (k + 1) a0) := by
 intro a0 k
 obtain ⟨ih0, ih1, ih2, ih3⟩ := toponymref17_Check.mono_l k
 unfold toponymref17_Check.f
 repeat' first
   | (with_reducible exact ih0 _ _)
   | (with_reducible exact ih1 _ _)
   | (with_reducible exact ih2 _ _ _)
   | (with_reducible exact ih3 _ _ _ _)
   | (with_reducible exact LeO.refl _)
   | exact ih0 _ _
   | exact ih1 _ _
   | exact ih2 _ _ _
   | exact ih3 _ _ _ _
   | exact LeO.none _
   | refine LeO.ite ?_ ?_
   | refine LeO.bind ?_ (fun _ => ?_)
set_option maxHeartbeats 8000000 in
set_option maxRecDepth 100000 in
theorem toponymref17_Check.calls (k : Nat) (A0 : Option Addr) (c0 : Nat) (l0 : List Int) (r : Int) (w : World) (hr0 : Kd.C (Kd.int .i64) w A0 l0.length l0) (hc0 : l0.length ≤ c0) (h : toponymref17_Check.f k l0 = some r) :
  Calls Tryd.prog 13 #[.slice A0 l0.length c0] w fun e w' => e = .returned (.int .i64 r) ∧ Drawn0 w w' := by
 have HR0 := aM hr0
 have HC0 := aM hc0
 clear hr0 hc0
 have H := h
 clear h
 unfold toponymref17_Check.f at H
 have HC2 := aM H
 clear H
 go_enter Tryd.func13, Tryd.ntmps13
 go_upto_region 1 with (fail)
 go_cut [12] (fun v12 wc => ∃ (kq : Nat) (x12_1 : Bool), v12 = .bool x12_1 ∧ Aside0 (toponymref17_Check.j0 kq l0 x12_1 = some r) ∧ Aside0 (kq ≤ k) ∧ Drawn0 w wc)
 case first =>
  have H := HC2.out
  clear HC2
  by_cases c3 : (l0.length : Int) < 2
  ·rw [if_pos c3] at H
   have c3b0 : decide ((l0.length : Int) < 2) = true := decide_eq_true c3
   have c3b1 : decide (l0.length < 2) = true := decide_eq_true (by omega)
   clear c3
   (first | rw [c3b0] | (simp only [i64_w, i32_w]; rw [c3b0]) | skip)
   have H' := aM H
   clear H
   go_wp2
   go_meet
   case rel => exact ⟨_, (true), zP, H', ⟨by first | omega | exact Nat.le_refl _⟩, zD⟩
  ·rw [if_neg c3] at H
   have c3b0 : decide ((l0.length : Int) < 2) = false := decide_eq_false c3
   have c3b1 : decide (l0.length < 2) = false := decide_eq_false (by omega)
   clear c3
   (first | rw [c3b0] | (simp only [i64_w, i32_w]; rw [c3b0]) | skip)
   have H' := aM H
   clear H
   go_wp2
   go_meet
   case rel => exact ⟨_, (decide ((l0.length : Int) > 12)), zP, H', ⟨by first | omega | exact Nat.le_refl _⟩, zD⟩
 case rest =>
  clear HC2
  try clear c1
  try clear p2
  try clear c3
  try clear c3b0
  try clear c3b1
  obtain ⟨kq, x12_1, rfl, HA, HJ1, ⟨mc1, rfl⟩⟩ := hcut
  cases kq with
  | zero => exact absurd HA.out (by simp [toponymref17_Check.j0])
  | succ kj1 =>
   have H := HA.out
   clear HA
   simp only [toponymref17_Check.j0] at H
   by_cases c4 : x12_1 = true
   ·subst c4
    rw [if_pos rfl] at H
    obtain rfl := sI H
    go_wp2
    go_ret
    exact ⟨zP, zD⟩
   ·replace c4 := Bool.eq_false_iff.mpr c4
    subst c4
    rw [if_neg (show ¬ (false = true) by decide)] at H
    have H' := aM H
    clear H
    go_wp2
    go_loopg [3] kj1 (fun kq v3 w' => ∃ (x3_2 : Int), v3 = .int .i64 x3_2 ∧ Aside0 (toponymref17_Check.l0 kq l0 x3_2 = some r) ∧ Aside0 (kq ≤ kj1) ∧ Drawn0 w w')
    case atStart => exact ⟨(0), zP, H', ⟨Nat.le_refl _⟩, zD⟩
    case round =>
     clear H'
     try clear c1
     try clear p2
     try clear c3
     try clear c3b0
     try clear c3b1
     try clear c4
     try clear p2
     obtain ⟨x3_2, rfl, HA, HK2, ⟨m2, rfl⟩⟩ := hrel
     cases gk with
     | zero => exact absurd HA.out (by simp [toponymref17_Check.l0])
     | succ k2 =>
      have H := HA.out
      clear HA
      simp only [toponymref17_Check.l0] at H
      by_cases c5 : x3_2 < (l0.length : Int)
      ·rw [if_pos c5] at H
       have c5b0 : decide (x3_2 < (l0.length : Int)) = true := decide_eq_true c5
       clear c5
       have HC6 := aM H
       clear H
       go_upto_if 20 with (fail)
       go_cut [4] (fun v4 wc => ∃ (kq : Nat) (x4_5 : Int), v4 = .int .i64 x4_5 ∧ Aside0 (toponymref17_Check.j2 kq l0 x3_2 x4_5 = some r) ∧ Aside0 (kq ≤ k2) ∧ Drawn0 w wc)
       case first =>
        have H := HC6.out
        clear HC6
        by_cases c7 : x3_2 = 0
        ·rw [if_pos c7] at H
         have c7b0 : (x3_2 == 0) = true := beq_iff_eq.mpr c7
         have c7b1 : (x3_2 != 0) = false := bne_eq_false_iff_eq.mpr c7
         clear c7
         (first | rw [c7b0] | (simp only [i64_w, i32_w]; rw [c7b0]) | skip)
         have H' := aM H
         clear H
         go_wp2
         go_meet
         case rel => exact ⟨_, (2), zP, H', ⟨by have := HJ1.out; have := HK2.out; first | omega | exact Nat.le_refl _⟩, zD⟩
        ·rw [if_neg c7] at H
         have c7b0 : (x3_2 == 0) = false := beq_eq_false_iff_ne.mpr c7
         have c7b1 : (x3_2 != 0) = true := bne_iff_ne.mpr c7
         (first | rw [c7b0] | (simp only [i64_w, i32_w]; rw [c7b0]) | skip)
         have H' := aM H
         clear H
         go_wp2
         go_meet
         case rel => exact ⟨_, (99999), zP, H', ⟨by have := HJ1.out; have := HK2.out; first | omega | exact Nat.le_refl _⟩, zD⟩
       case rest =>
        clear HC6
        try clear c1
        try clear p2
        try clear c3
        try clear c3b0
        try clear c3b1
        try clear c4
        try clear c5
        try clear c5b0
        try clear c7
        try clear c7b0
        try clear c7b1
        try clear p2
        obtain ⟨kq, x4_5, rfl, HA, HJ5, ⟨mc5, rfl⟩⟩ := hcut
        cases kq with
        | zero => exact absurd HA.out (by simp [toponymref17_Check.j2])
        | succ kj5 =>
         have H := HA.out
         clear HA
         simp only [toponymref17_Check.j2] at H
         have HC8 := aM H
         clear H
         go_upto_region 9 with (fail)
         go_cut [28] (fun v28 wc => ∃ (kq : Nat) (x28_7 : Bool), v28 = .bool x28_7 ∧ Aside0 (toponymref17_Check.j3 kq l0 x3_2 x4_5 x28_7 = some r) ∧ Aside0 (kq ≤ kj5) ∧ Drawn0 w wc)
         case first =>
          have H := HC8.out
          clear HC8
          by_cases c9 : x3_2 = 1
          ·rw [if_pos c9] at H
           have c9b0 : (x3_2 == 1) = true := beq_iff_eq.mpr c9
           have c9b1 : (x3_2 != 1) = false := bne_eq_false_iff_eq.mpr c9
           clear c9
           (first | rw [c9b0] | (simp only [i64_w, i32_w]; rw [c9b0]) | skip)
           by_cases c10 : 0 < (l0.length : Int)
           ·rw [if_pos c10] at H
            have c10b0 : decide (0 < (l0.length : Int)) = true := decide_eq_true c10
            have c10b1 : decide (0 < l0.length) = true := decide_eq_true (by omega)
            clear c10
            have H' := aM H
            clear H
            have p161 : 0 ≤ (0 : Int) := (by omega)
            have q161 : 0 < (l0.length : Int) := zoA
            obtain ⟨ad161, e161, hx161_0⟩ := Kd.at_int HR0.out 0 p161 q161
            cases e161
            have qi161 : (0 < l0.length) = True := eq_true (by omega)
            (try rw [show ((0 : Int)).toNat = 0 from rfl] at hx161_0)
            (try rw [Addr.add_zero'] at hx161_0)
            replace p161 := eq_true p161
            replace q161 := eq_true q161
            go_wp2
            go_meet
            case rel => exact ⟨_, (((rd l0 0) != 2)), zP, H', ⟨by have := HJ1.out; have := HK2.out; have := HJ5.out; first | omega | exact Nat.le_refl _⟩, zD⟩
           ·rw [if_neg c10] at H
            exact absurd H (by simp)
          ·rw [if_neg c9] at H
           have c9b0 : (x3_2 == 1) = false := beq_eq_false_iff_ne.mpr c9
           have c9b1 : (x3_2 != 1) = true := bne_iff_ne.mpr c9
           (first | rw [c9b0] | (simp only [i64_w, i32_w]; rw [c9b0]) | skip)
           have H' := aM H
           clear H
           go_wp2
           go_meet
           case rel => exact ⟨_, (false), zP, H', ⟨by have := HJ1.out; have := HK2.out; have := HJ5.out; first | omega | exact Nat.le_refl _⟩, zD⟩
         case rest =>
          clear HC8
          try clear c1
          try clear p1
          try clear q1
          try clear hx1
          try clear qi1
          try clear p2
          try clear c3
          try clear c3b0
          try clear c3b1
          try clear c4
          try clear c5
          try clear c5b0
          try clear c7
          try clear c7b0
          try clear c7b1
          try clear c9
          try clear c9b0
          try clear c9b1
          try clear c10
          try clear c10b0
          try clear c10b1
          try clear hx161_0
          try clear p161
          try clear p2
          try clear q161
          obtain ⟨kq, x28_7, rfl, HA, HJ7, ⟨mc7, rfl⟩⟩ := hcut
          cases kq with
          | zero => exact absurd HA.out (by simp [toponymref17_Check.j3])
          | succ kj7 =>
           have H := HA.out
           clear HA
           simp only [toponymref17_Check.j3] at H
           by_cases c11 : x28_7 = true
           ·subst c11
            rw [if_pos rfl] at H
            by_cases c12 : 0 ≤ x3_2
            ·rw [if_pos c12] at H
             have c12b0 : decide (0 ≤ x3_2) = true := decide_eq_true c12
             clear c12
             by_cases c13 : x3_2 < (l0.length : Int)
             ·rw [if_pos c13] at H
              have c13b0 : decide (x3_2 < (l0.length : Int)) = true := decide_eq_true c13
              clear c13
              by_cases c14 : (rd l0 x3_2) < 0
              ·rw [if_pos c14] at H
               have c14b0 : decide ((rd l0 x3_2) < 0) = true := decide_eq_true c14
               clear c14
               obtain rfl := sI H
               have p162 : 0 ≤ (x3_2 : Int) := zoA
               have q162 : x3_2 < (l0.length : Int) := zoA
               obtain ⟨ad162, e162, hx162_0⟩ := Kd.at_int HR0.out x3_2 p162 q162
               cases e162
               replace p162 := eq_true p162
               replace q162 := eq_true q162
               go_wp2
               go_ret
               exact ⟨zP, zD⟩
              ·rw [if_neg c14] at H
               have c14b0 : decide ((rd l0 x3_2) < 0) = false := decide_eq_false c14
               clear c14
               by_cases c15 : (rd l0 x3_2) > 39
               ·rw [if_pos c15] at H
                have c15b0 : decide (39 < (rd l0 x3_2)) = true := decide_eq_true c15
                clear c15
                obtain rfl := sI H
                have p162 : 0 ≤ (x3_2 : Int) := zoA
                have q162 : x3_2 < (l0.length : Int) := zoA
                obtain ⟨ad162, e162, hx162_0⟩ := Kd.at_int HR0.out x3_2 p162 q162
                cases e162
                replace p162 := eq_true p162
                replace q162 := eq_true q162
                have p163 : 0 ≤ (x3_2 : Int) := zoA
                have q163 : x3_2 < (l0.length : Int) := zoA
                obtain ⟨ad163, e163, hx163_0⟩ := Kd.at_int HR0.out x3_2 p163 q163
                obtain rfl : ad162 = ad163 := (by injection e163)
                replace p163 := eq_true p163
                replace q163 := eq_true q163
                go_wp2
                go_ret
                exact ⟨zP, zD⟩
               ·rw [if_neg c15] at H
                have c15b0 : decide (39 < (rd l0 x3_2)) = false := decide_eq_false c15
                clear c15
                have H' := aM H
                clear H
                have p162 : 0 ≤ (x3_2 : Int) := zoA
                have q162 : x3_2 < (l0.length : Int) := zoA
                obtain ⟨ad162, e162, hx162_0⟩ := Kd.at_int HR0.out x3_2 p162 q162
                cases e162
                replace p162 := eq_true p162
                replace q162 := eq_true q162
                have p163 : 0 ≤ (x3_2 : Int) := zoA
                have q163 : x3_2 < (l0.length : Int) := zoA
                obtain ⟨ad163, e163, hx163_0⟩ := Kd.at_int HR0.out x3_2 p163 q163
                obtain rfl : ad162 = ad163 := (by injection e163)
                replace p163 := eq_true p163
                replace q163 := eq_true q163
                go_wp2
                go_roundg kj7
                case measure => have := HJ1.out; have := HK2.out; have := HJ5.out; have := HJ7.out; omega
                case rel => exact ⟨(wrap64 (x3_2 + 1)), zP, H', ⟨by have := HJ1.out; have := HK2.out; have := HJ5.out; have := HJ7.out; omega⟩, zD⟩
             ·rw [if_neg c13] at H
              exact absurd H (by simp)
            ·rw [if_neg c12] at H
             exact absurd H (by simp)
           ·replace c11 := Bool.eq_false_iff.mpr c11
            subst c11
            rw [if_neg (show ¬ (false = true) by decide)] at H
            by_cases c16 : 0 ≤ x3_2
            ·rw [if_pos c16] at H
             have c16b0 : decide (0 ≤ x3_2) = true := decide_eq_true c16
             clear c16
             by_cases c17 : x3_2 < (l0.length : Int)
             ·rw [if_pos c17] at H
              have c17b0 : decide (x3_2 < (l0.length : Int)) = true := decide_eq_true c17
              clear c17
              by_cases c18 : (rd l0 x3_2) < 0
              ·rw [if_pos c18] at H
               have c18b0 : decide ((rd l0 x3_2) < 0) = true := decide_eq_true c18
               clear c18
               obtain rfl := sI H
               have p164 : 0 ≤ (x3_2 : Int) := zoA
               have q164 : x3_2 < (l0.length : Int) := zoA
               obtain ⟨ad164, e164, hx164_0⟩ := Kd.at_int HR0.out x3_2 p164 q164
               cases e164
               replace p164 := eq_true p164
               replace q164 := eq_true q164
               go_wp2
               go_ret
               exact ⟨zP, zD⟩
              ·rw [if_neg c18] at H
               have c18b0 : decide ((rd l0 x3_2) < 0) = false := decide_eq_false c18
               clear c18
               by_cases c19 : (rd l0 x3_2) > x4_5
               ·rw [if_pos c19] at H
                have c19b0 : decide (x4_5 < (rd l0 x3_2)) = true := decide_eq_true c19
                clear c19
                obtain rfl := sI H
                have p164 : 0 ≤ (x3_2 : Int) := zoA
                have q164 : x3_2 < (l0.length : Int) := zoA
                obtain ⟨ad164, e164, hx164_0⟩ := Kd.at_int HR0.out x3_2 p164 q164
                cases e164
                replace p164 := eq_true p164
                replace q164 := eq_true q164
                have p165 : 0 ≤ (x3_2 : Int) := zoA
                have q165 : x3_2 < (l0.length : Int) := zoA
                obtain ⟨ad165, e165, hx165_0⟩ := Kd.at_int HR0.out x3_2 p165 q165
                obtain rfl : ad164 = ad165 := (by injection e165)
                replace p165 := eq_true p165
                replace q165 := eq_true q165
                go_wp2
                go_ret
                exact ⟨zP, zD⟩
               ·rw [if_neg c19] at H
                have c19b0 : decide (x4_5 < (rd l0 x3_2)) = false := decide_eq_false c19
                clear c19
                have H' := aM H
                clear H
                have p164 : 0 ≤ (x3_2 : Int) := zoA
                have q164 : x3_2 < (l0.length : Int) := zoA
                obtain ⟨ad164, e164, hx164_0⟩ := Kd.at_int HR0.out x3_2 p164 q164
                cases e164
                replace p164 := eq_true p164
                replace q164 := eq_true q164
                have p165 : 0 ≤ (x3_2 : Int) := zoA
                have q165 : x3_2 < (l0.length : Int) := zoA
                obtain ⟨ad165, e165, hx165_0⟩ := Kd.at_int HR0.out x3_2 p165 q165
                obtain rfl : ad164 = ad165 := (by injection e165)
                replace p165 := eq_true p165
                replace q165 := eq_true q165
                go_wp2
                go_roundg kj7
                case measure => have := HJ1.out; have := HK2.out; have := HJ5.out; have := HJ7.out; omega
                case rel => exact ⟨(wrap64 (x3_2 + 1)), zP, H', ⟨by have := HJ1.out; have := HK2.out; have := HJ5.out; have := HJ7.out; omega⟩, zD⟩
             ·rw [if_neg c17] at H
              exact absurd H (by simp)
            ·rw [if_neg c16] at H
             exact absurd H (by simp)
      ·rw [if_neg c5] at H
       have c5b0 : decide (x3_2 < (l0.length : Int)) = false := decide_eq_false c5
       clear c5
       obtain rfl := sI H
       go_wp2
       go_ret
       exact ⟨zP, zD⟩

/-! ### toponymref17_digits: function 25 -/
def toponymref17_digits.f : Nat → Int → Option (ByteArray)
 | 0, _ => none
 | k + 1, a0 => if a0 < 10 then (some (strOfNums (([(wrap64 (48 + a0)) % 256] : List Int)))) else ((toponymref17_digits.f k (wrap64 (Int.tdiv a0 10))).bind fun t169 => ((some (([(wrap64 (48 + (Int.tmod a0 10))) % 256] : List Int) : List Int)).bind fun y170 => (if t169.size + (strOfNums y170).size ≤ 9223372036854775807 then (some (t169 ++ (strOfNums y170))) else (none))))
theorem toponymref17_digits.mono_l : ∀ k, (∀ y0, LeO (toponymref17_digits.f k y0) (toponymref17_digits.f (k + 1) y0))
 | 0 => fun _ r h => by simp [toponymref17_digits.f] at h
 | k + 1 => by
  have ih0 := toponymref17_digits.mono_l k
  ·intro y0
   unfold toponymref17_digits.f
   repeat' first
   | (with_reducible exact ih0 _)
   | (with_reducible exact LeO.refl _)
   | exact ih0 _
   | exact LeO.none _
   | refine LeO.ite ?_ ?_
   | refine LeO.bind ?_ (fun _ => ?_)
theorem toponymref17_digits.mono : ∀ a0 k, LeO (toponymref17_digits.f k a0) (toponymref17_digits.f (k + 1) a0) := by
 intro a0 k
 have ih0 := toponymref17_digits.mono_l k
 exact ih0 a0
def toponymref17_digits.T3 : Bool × List (List Nat × List Nat) := (true, [([], []), ([0], [0]), ([1], [1]), ([], []), ([3], [3]), ([4], [4]), ([5], [5]), ([6], [6]), ([7], [7]), ([2, 8], [2, 8]), ([9, 2, 0, 1, 2, 3, 4, 5, 6, 7, 8, 9], [9])])
def toponymref17_digits.B3 : List Nat := [0, 1, 3, 0, 8, 24, 56, 120, 248, 511, 1023]
theorem toponymref17_digits.tab3 : rtab .any (opsOf Tryd.f25 3) = toponymref17_digits.T3 := zK
theorem toponymref17_digits.bits3 : waitsOk toponymref17_digits.T3.2 toponymref17_digits.B3 = true := zK
set_option maxHeartbeats 8000000 in
set_option maxRecDepth 100000 in
theorem toponymref17_digits.calls (k : Nat) : ∀ (a0 : Int) (r : ByteArray) (w : World) (h : toponymref17_digits.f k a0 = some r),
  Calls Tryd.prog 25 #[.int .i64 a0] w fun e w' => e = .returned (.string r) ∧ Below w.heap.size w w' := by
 induction k using Nat.strongRecOn with
 | _ k ih =>
 intro a0 r w h
 cases k with
 | zero => exact absurd h (by simp [toponymref17_digits.f])
 | succ k =>
 simp only [toponymref17_digits.f] at h
 have HB := aM (Below.refl w.heap.size w)
 have H : (if a0 < 10 then (some (strOfNums (([(wrap64 (48 + a0)) % 256] : List Int)))) else ((toponymref17_digits.f k (wrap64 (Int.tdiv a0 10))).bind fun t169 => ((some (([(wrap64 (48 + (Int.tmod a0 10))) % 256] : List Int) : List Int)).bind fun y170 => (if t169.size + (strOfNums y170).size ≤ 9223372036854775807 then (some (t169 ++ (strOfNums y170))) else (none))))) = some r := h
 clear h
 by_cases c2 : a0 < 10
 ·rw [if_pos c2] at H
  have c2b0 : decide (a0 < 10) = true := decide_eq_true c2
  clear c2
  obtain ⟨y166, hy166⟩ : ∃ y_ : List Int, y_ = (([(wrap64 (48 + a0)) % 256] : List Int)) := ⟨_, rfl⟩
  replace H : (some (strOfNums y166)) = some r := zY hy166 H
  have Ny166 := aM hy166
  clear hy166
  obtain rfl := sI H
  go_enter Tryd.func25, Tryd.ntmps25
  go_wp2_with (first | ((with_reducible refine gate_dst (N := 8) rfl ?_); refine Kd.R_lit (Kd.int .u8) _ 5 ?hg (N := 8) ?hd (xs := ([(wrap64 (48 + a0)) % 256] : List Int)) (inner := [.int .u8 ((wrap64 (48 + a0)) % 256)]) (ok := fun _ => True) (okp := fun _ => True) ?hr ?hp (fun _ hk => hk) trivial (Below.refl _ _) (Nat.le_refl _) (by simp) ?_; (case hd => rfl); (case hg => rfl); (case hr => first | (go_simp; done) | (go_simp; rfl)); (case hp => exact (Reps.one (show Kd.M (Kd.int .u8) _ _ _ ((wrap64 (48 + a0)) % 256) [.int .u8 ((wrap64 (48 + a0)) % 256)] from rfl) (Reps.none _ _))); intro v167 w3 ho4 hb hg_ hnew_; clear hg_ hnew_; (first | rw [← Ny166.out] at ho4 | (simp only [Int.reduceToNat] at ho4; rw [← Ny166.out] at ho4)); have n_ := zI (aM (Kd.R_lower ho4 (below_size zB))) (aM (below_step zB hb)); clear HB; obtain ⟨HO168, HB⟩ := n_; clear hb ho4; have hcv5 := own_string (P := Tryd.prog) Tryd.underlying54 Tryd.underlying5 Tryd.underlying9 (Kd.own_of_R HO168.out)))
  go_ret
  exact ⟨zE, zB⟩
 ·rw [if_neg c2] at H
  have c2b0 : decide (a0 < 10) = false := decide_eq_false c2
  clear c2
  obtain ⟨t169, A6, H⟩ := zO H
  obtain ⟨y170, hy170⟩ : ∃ y_ : List Int, y_ = (([(wrap64 (48 + (Int.tmod a0 10))) % 256] : List Int)) := ⟨_, rfl⟩
  replace H : (if t169.size + (strOfNums y170).size ≤ 9223372036854775807 then (some (t169 ++ (strOfNums y170))) else (none)) = some r := zY hy170 H
  have Ny170 := aM hy170
  clear hy170
  by_cases c7 : t169.size + (strOfNums y170).size ≤ 9223372036854775807
  ·rw [if_pos c7] at H
   have c7b0 := eq_true c7
   have c7b1 : decide (t169.size + (strOfNums y170).size ≤ 9223372036854775807) = true := decide_eq_true c7
   try have c7b2 : (9223372036854775807 < t169.size + (strOfNums y170).size) = False := eq_false (Nat.not_lt.2 c7)
   obtain rfl := sI H
   go_enter Tryd.func25, Tryd.ntmps25
   try go_wp2
   have n0_ := aM (bD HB.out)
   clear HB
   have HB := n0_
   clear n0_
   refine start_ (n := 11) (S := fun w' => True) (ds := []) #[false, false, false, false, false, false, false, false, false, false, false] zK rfl rfl trivial (fun hHeld => ?_); refine with_tabW toponymref17_digits.tab3 toponymref17_digits.bits3 (fun HT_ HW_ => ?_)
   generalize w.drew = w8 at HB hHeld ⊢
   refine pure_ (i := 0) (N := some 10) (v := ?_) (a' := ?_) #[true, false, false, false, false, false, false, false, false, false, false] rfl rfl (any_of HT_.out zK) (fun _ _ _ h => h) (Or.inl ⟨by rfl, ?_⟩) ?_ ?_
   rotate_left
   ·intro w'
    go_simp
    with_reducible rfl
   rotate_left
   ·simp only [Act.put, List.setIfInBounds_toArray, List.set_cons_zero, List.set_cons_succ, i64_w, i32_w]
    rfl
   refine pure_ (i := 1) (N := some 11) (v := ?_) (a' := ?_) #[true, true, false, false, false, false, false, false, false, false, false] rfl rfl (any_of HT_.out zK) (fun _ _ _ h => h) (Or.inl ⟨by rfl, ?_⟩) ?_ ?_
   rotate_left
   ·intro w'
    go_simp
    with_reducible rfl
   rotate_left
   ·simp only [Act.put, List.setIfInBounds_toArray, List.set_cons_zero, List.set_cons_succ, i64_w, i32_w]
    rfl
   refine pure_ (i := 3) (N := some 13) (v := ?_) (a' := ?_) #[true, true, false, true, false, false, false, false, false, false, false] rfl rfl (any_of HT_.out zK) (fun _ _ _ h => h) (Or.inl ⟨by rfl, ?_⟩) ?_ ?_
   rotate_left
   ·intro w'
    go_simp
    with_reducible rfl
   rotate_left
   ·simp only [Act.put, List.setIfInBounds_toArray, List.set_cons_zero, List.set_cons_succ, i64_w, i32_w]
    rfl
   refine pure_ (i := 4) (N := some 14) (v := ?_) (a' := ?_) #[true, true, false, true, true, false, false, false, false, false, false] rfl rfl (any_of HT_.out zK) (fun _ _ _ h => h) (Or.inl ⟨by rfl, ?_⟩) ?_ ?_
   rotate_left
   ·intro w'
    go_simp
    with_reducible rfl
   rotate_left
   ·simp only [Act.put, List.setIfInBounds_toArray, List.set_cons_zero, List.set_cons_succ, i64_w, i32_w]
    rfl
   refine pure_ (i := 5) (N := some 15) (v := ?_) (a' := ?_) #[true, true, false, true, true, true, false, false, false, false, false] rfl rfl (any_of HT_.out zK) (fun _ _ _ h => h) (Or.inl ⟨by rfl, ?_⟩) ?_ ?_
   rotate_left
   ·intro w'
    go_simp
    with_reducible rfl
   rotate_left
   ·simp only [Act.put, List.setIfInBounds_toArray, List.set_cons_zero, List.set_cons_succ, i64_w, i32_w]
    rfl
   refine pure_ (i := 6) (N := some 16) (v := ?_) (a' := ?_) #[true, true, false, true, true, true, true, false, false, false, false] rfl rfl (any_of HT_.out zK) (fun _ _ _ h => h) (Or.inl ⟨by rfl, ?_⟩) ?_ ?_
   rotate_left
   ·intro w'
    go_simp
    with_reducible rfl
   rotate_left
   ·simp only [Act.put, List.setIfInBounds_toArray, List.set_cons_zero, List.set_cons_succ, i64_w, i32_w]
    rfl
   refine join_ (σ := Value) 2 #[true, true, true, true, true, true, true, true, true, false, false] (fun s_ => [(12, .string t169), (17, s_), (18, .string (strOfNums y170))]) (fun s_ w' => (Kd.R (Kd.int .u8) 5 w' w.heap.size (fun _ => True) s_ y170) ∧ (Below w.heap.size w w')) ?_ ?_
   rotate_left
   ·intro hCont
    refine two_ (i := 2) (j := 7) (Ni := some 12) (Nj := some 17) #[true, true, true, true, true, true, true, false, false, false, false] #[true, true, false, true, true, true, true, true, false, false, false] rfl rfl rfl rfl (two_of HT_.out zK) (by decide) (by decide) (fun K hK => ?_) (fun K hK => ?_)
    ·skip
     refine goes_ Tryd.func25 zK rfl #[.int .i64 (wrap64 (Int.tdiv a0 10))] (by rfl) rfl rfl zM ?_
     with_reducible refine (ih k (by omega) (wrap64 (Int.tdiv a0 10)) t169 _ A6.out).mono ?_
     rintro e w9 ⟨rfl, hb⟩
     refine ⟨_, rfl, ?_⟩
     have n0_ := aM (below_step zB hb)
     clear HB
     have HB := n0_
     clear n0_
     (try clear hb)
     (try clear hb2)
     (try clear hk)
     (try clear hi)
     refine hK.out _ _ trivial (fun hHeld => ?_)
     clear hK K
     refine norm_ (a' := ?_) ?_ ?_
     rotate_left
     ·show Act.put _ (some 12) _ = _
      simp only [Act.put, List.setIfInBounds_toArray, List.set_cons_zero, List.set_cons_succ, i64_w, i32_w]
      rfl
     refine one_ (i := 7) (N := some 17) #[true, true, true, true, true, true, true, true, false, false, false] rfl rfl (one_of HT_.out zK) (by decide) (fun K hK => ?_)
     refine Kd.R_lit_step (Kd.int .u8) _ 5 ?hg (N := 17) ?hd (xs := ([(wrap64 (48 + (Int.tmod a0 10))) % 256] : List Int)) (inner := [.int .u8 ((wrap64 (48 + (Int.tmod a0 10))) % 256)]) (ok := fun _ => True) (okp := fun _ => True) ?hr ?hp (fun _ hk => hk) trivial (Below.refl _ _) (Nat.le_refl _) (by simp) ?_; (case hd => rfl); (case hg => rfl); (case hr => first | (go_simp; done) | (go_simp; rfl)); (case hp => exact (Reps.one (show Kd.M (Kd.int .u8) _ _ _ ((wrap64 (48 + (Int.tmod a0 10))) % 256) [.int .u8 ((wrap64 (48 + (Int.tmod a0 10))) % 256)] from rfl) (Reps.none _ _)))
     intro v171 w10 ho11 hb hg_ hnew_
     clear hg_ hnew_
     (first | rw [← Ny170.out] at ho11 | (simp only [Int.reduceToNat] at ho11; rw [← Ny170.out] at ho11))
     have n0_ := aM (Kd.R_lower ho11 (below_size zB))
     have n1_ := aM (below_step zB hb)
     clear HB
     have HO172 := n0_
     have HB := n1_
     clear n0_ n1_
     clear hb ho11
     refine hK.out _ _ trivial (fun hHeld => ?_)
     clear hK K
     refine norm_ (a' := ?_) ?_ ?_
     rotate_left
     ·show Act.put _ (some 17) _ = _
      simp only [Act.put, List.setIfInBounds_toArray, List.set_cons_zero, List.set_cons_succ, i64_w, i32_w]
      rfl
     refine one_ (i := 8) (N := some 18) #[true, true, true, true, true, true, true, true, true, false, false] rfl rfl (one_of HT_.out zK) (by decide) (fun K hK => ?_)
     have hcv12 := own_string (P := Tryd.prog) Tryd.underlying54 Tryd.underlying5 Tryd.underlying9 (Kd.own_of_R HO172.out)
     refine value_ (w1 := ?_) (v := ?_) (by rfl) rfl ?_ ?_
     rotate_left 2
     ·go_simp
      constructor
      ·rfl
      ·rfl
     clear hcv12
     refine hK.out _ _ trivial (fun hHeld => ?_)
     clear hK K
     refine norm_ (a' := ?_) ?_ ?_
     rotate_left
     ·show Act.put _ (some 18) _ = _
      simp only [Act.put, List.setIfInBounds_toArray, List.set_cons_zero, List.set_cons_succ, i64_w, i32_w]
      rfl
     exact norm_ (by simp only [putAll, Act.put, List.setIfInBounds_toArray, List.set_cons_zero, List.set_cons_succ]) (hCont (v171) _ ⟨(zR HO172), zB⟩)
    ·skip
     refine Kd.R_lit_step (Kd.int .u8) _ 5 ?hg (N := 17) ?hd (xs := ([(wrap64 (48 + (Int.tmod a0 10))) % 256] : List Int)) (inner := [.int .u8 ((wrap64 (48 + (Int.tmod a0 10))) % 256)]) (ok := fun _ => True) (okp := fun _ => True) ?hr ?hp (fun _ hk => hk) trivial (Below.refl _ _) (Nat.le_refl _) (by simp) ?_; (case hd => rfl); (case hg => rfl); (case hr => first | (go_simp; done) | (go_simp; rfl)); (case hp => exact (Reps.one (show Kd.M (Kd.int .u8) _ _ _ ((wrap64 (48 + (Int.tmod a0 10))) % 256) [.int .u8 ((wrap64 (48 + (Int.tmod a0 10))) % 256)] from rfl) (Reps.none _ _)))
     intro v171 w9 ho10 hb hg_ hnew_
     clear hg_ hnew_
     (first | rw [← Ny170.out] at ho10 | (simp only [Int.reduceToNat] at ho10; rw [← Ny170.out] at ho10))
     have n0_ := aM (Kd.R_lower ho10 (below_size zB))
     have n1_ := aM (below_step zB hb)
     clear HB
     have HO172 := n0_
     have HB := n1_
     clear n0_ n1_
     clear hb ho10
     refine hK.out _ _ trivial (fun hHeld => ?_)
     clear hK K
     refine norm_ (a' := ?_) ?_ ?_
     rotate_left
     ·show Act.put _ (some 17) _ = _
      simp only [Act.put, List.setIfInBounds_toArray, List.set_cons_zero, List.set_cons_succ, i64_w, i32_w]
      rfl
     refine two_ (i := 2) (j := 8) (Ni := some 12) (Nj := some 18) #[true, true, true, true, true, true, true, true, false, false, false] #[true, true, false, true, true, true, true, true, true, false, false] rfl rfl rfl rfl (two_of HT_.out zK) (by decide) (by decide) (fun K hK => ?_) (fun K hK => ?_)
     ·skip
      refine goes_ Tryd.func25 zK rfl #[.int .i64 (wrap64 (Int.tdiv a0 10))] (by rfl) rfl rfl zM ?_
      with_reducible refine (ih k (by omega) (wrap64 (Int.tdiv a0 10)) t169 _ A6.out).mono ?_
      rintro e w11 ⟨rfl, hb⟩
      refine ⟨_, rfl, ?_⟩
      have n0_ := aM (Kd.R_below (zR HO172) hb)
      have n1_ := aM (below_step zB hb)
      clear HO172
      clear HB
      have HO172 := n0_
      have HB := n1_
      clear n0_ n1_
      (try clear hb)
      (try clear hb2)
      (try clear hk)
      (try clear hi)
      refine hK.out _ _ trivial (fun hHeld => ?_)
      clear hK K
      refine norm_ (a' := ?_) ?_ ?_
      rotate_left
      ·show Act.put _ (some 12) _ = _
       simp only [Act.put, List.setIfInBounds_toArray, List.set_cons_zero, List.set_cons_succ, i64_w, i32_w]
       rfl
      refine one_ (i := 8) (N := some 18) #[true, true, true, true, true, true, true, true, true, false, false] rfl rfl (one_of HT_.out zK) (by decide) (fun K hK => ?_)
      have hcv12 := own_string (P := Tryd.prog) Tryd.underlying54 Tryd.underlying5 Tryd.underlying9 (Kd.own_of_R HO172.out)
      refine value_ (w1 := ?_) (v := ?_) (by rfl) rfl ?_ ?_
      rotate_left 2
      ·go_simp
       constructor
       ·rfl
       ·rfl
      clear hcv12
      refine hK.out _ _ trivial (fun hHeld => ?_)
      clear hK K
      refine norm_ (a' := ?_) ?_ ?_
      rotate_left
      ·show Act.put _ (some 18) _ = _
       simp only [Act.put, List.setIfInBounds_toArray, List.set_cons_zero, List.set_cons_succ, i64_w, i32_w]
       rfl
      exact norm_ (by simp only [putAll, Act.put, List.setIfInBounds_toArray, List.set_cons_zero, List.set_cons_succ]) (hCont (v171) _ ⟨(zR HO172), zB⟩)
     ·skip
      have hcv11 := own_string (P := Tryd.prog) Tryd.underlying54 Tryd.underlying5 Tryd.underlying9 (Kd.own_of_R HO172.out)
      refine value_ (w1 := ?_) (v := ?_) (by rfl) rfl ?_ ?_
      rotate_left 2
      ·go_simp
       constructor
       ·rfl
       ·rfl
      clear hcv11
      refine hK.out _ _ trivial (fun hHeld => ?_)
      clear hK K
      refine norm_ (a' := ?_) ?_ ?_
      rotate_left
      ·show Act.put _ (some 18) _ = _
       simp only [Act.put, List.setIfInBounds_toArray, List.set_cons_zero, List.set_cons_succ, i64_w, i32_w]
       rfl
      refine one_ (i := 2) (N := some 12) #[true, true, true, true, true, true, true, true, true, false, false] rfl rfl (one_of HT_.out zK) (by decide) (fun K hK => ?_)
      refine goes_ Tryd.func25 zK rfl #[.int .i64 (wrap64 (Int.tdiv a0 10))] (by rfl) rfl rfl zM ?_
      with_reducible refine (ih k (by omega) (wrap64 (Int.tdiv a0 10)) t169 _ A6.out).mono ?_
      rintro e w12 ⟨rfl, hb⟩
      refine ⟨_, rfl, ?_⟩
      have n0_ := aM (Kd.R_below (zR HO172) hb)
      have n1_ := aM (below_step zB hb)
      clear HO172
      clear HB
      have HO172 := n0_
      have HB := n1_
      clear n0_ n1_
      (try clear hb)
      (try clear hb2)
      (try clear hk)
      (try clear hi)
      refine hK.out _ _ trivial (fun hHeld => ?_)
      clear hK K
      refine norm_ (a' := ?_) ?_ ?_
      rotate_left
      ·show Act.put _ (some 12) _ = _
       simp only [Act.put, List.setIfInBounds_toArray, List.set_cons_zero, List.set_cons_succ, i64_w, i32_w]
       rfl
      exact norm_ (by simp only [putAll, Act.put, List.setIfInBounds_toArray, List.set_cons_zero, List.set_cons_succ]) (hCont (v171) _ ⟨(zR HO172), zB⟩)
   rintro v171 w13 ⟨h0_, h1_⟩
   have n0_ : Aside0 (Kd.R (Kd.int .u8) 5 w13 w.heap.size (fun _ => True) v171 y170) := ⟨h0_⟩
   have n1_ : Aside0 (Below w.heap.size w w13) := ⟨h1_⟩
   clear HB
   clear h0_ h1_
   have HO172 := n0_
   have HB := n1_
   clear n0_ n1_
   have hHeld := trivial
   refine norm_ (a' := ?_) ?_ ?_
   rotate_left
   ·simp only [putAll, Act.put, List.setIfInBounds_toArray, List.set_cons_zero, List.set_cons_succ]
    rfl
   refine pure_ (i := 9) (N := some 19) (v := ?_) (a' := ?_) #[true, true, true, true, true, true, true, true, true, true, false] rfl rfl (any_of HT_.out zK) (fun _ _ _ h => h) (Or.inl ⟨by rfl, ?_⟩) ?_ ?_
   rotate_left
   ·intro w'
    go_simp
    with_reducible rfl
   rotate_left
   ·simp only [Act.put, List.setIfInBounds_toArray, List.set_cons_zero, List.set_cons_succ, i64_w, i32_w]
    rfl
   refine pure_ (i := 10) (N := some 2) (v := ?_) (a' := ?_) #[true, true, true, true, true, true, true, true, true, true, true] rfl rfl (any_of HT_.out zK) (fun _ _ _ h => h) (Or.inl ⟨by rfl, ?_⟩) ?_ ?_
   rotate_left
   ·intro w'
    go_simp
    with_reducible rfl
   rotate_left
   ·simp only [Act.put, List.setIfInBounds_toArray, List.set_cons_zero, List.set_cons_succ, i64_w, i32_w]
    rfl
   refine done_ (done_of HT_.out zK) ?_
   try go_wp2
   go_ret
   exact ⟨zE, zB⟩
  ·rw [if_neg c7] at H
   exact absurd H (by simp)

/-! ### toponymref17_Show: function 11 -/
def toponymref17_Show.l0 : Nat → List Int → ByteArray → Int → Option (ByteArray × Int)
 | 0, _, _, _ => none
 | k + 1, x0, x4, x5 => if x5 < (x0.length : Int) then (if x4.size + 1 ≤ 9223372036854775807 then (if 0 ≤ x5 then ((toponymref17_digits.f k (rd x0 x5)).bind fun t177 => (if (x4 ++ (⟨#[46]⟩ : ByteArray)).size + t177.size ≤ 9223372036854775807 then (toponymref17_Show.l0 k x0 ((x4 ++ (⟨#[46]⟩ : ByteArray)) ++ t177) (wrap64 (x5 + 1))) else (none))) else (none)) else (none)) else (some (x4, 0))
def toponymref17_Show.f (k : Nat) (l0 : List Int) : Option (ByteArray × Int) := (toponymref17_Check.f k l0).bind fun t173 => (if t173 = 0 then (if 0 < (l0.length : Int) then ((toponymref17_digits.f k (rd l0 0)).bind fun t175 => (toponymref17_Show.l0 k l0 t175 1)) else (none)) else (some ((⟨#[]⟩ : ByteArray), 170)))
theorem toponymref17_Show.mono_l : ∀ k, (∀ y0 y1 y2, LeO (toponymref17_Show.l0 k y0 y1 y2) (toponymref17_Show.l0 (k + 1) y0 y1 y2))
 | 0 => fun _ _ _ r h => by simp [toponymref17_Show.l0] at h
 | k + 1 => by
  have ih0 := toponymref17_Show.mono_l k
  ·intro y0 y1 y2
   unfold toponymref17_Show.l0
   repeat' first
   | (with_reducible exact ih0 _ _ _)
   | (with_reducible exact toponymref17_Check.mono _ _)
   | (with_reducible exact toponymref17_digits.mono _ _)
   | (with_reducible exact LeO.refl _)
   | exact ih0 _ _ _
   | exact toponymref17_Check.mono _ _
   | exact toponymref17_digits.mono _ _
   | exact LeO.none _
   | refine LeO.ite ?_ ?_
   | refine LeO.bind ?_ (fun _ => ?_)
theorem toponymref17_Show.mono : ∀ a0 k, LeO (toponymref17_Show.f k a0) (toponymref17_Show.f (k + 1) a0) := by
 intro a0 k
 have ih0 := toponymref17_Show.mono_l k
 unfold toponymref17_Show.f
 repeat' first
   | (with_reducible exact ih0 _ _ _)
   | (with_reducible exact toponymref17_Check.mono _ _)
   | (with_reducible exact toponymref17_digits.mono _ _)
   | (with_reducible exact LeO.refl _)
   | exact ih0 _ _ _
   | exact toponymref17_Check.mono _ _
   | exact toponymref17_digits.mono _ _
   | exact LeO.none _
   | refine LeO.ite ?_ ?_
   | refine LeO.bind ?_ (fun _ => ?_)
set_option maxHeartbeats 8000000 in
set_option maxRecDepth 100000 in
theorem toponymref17_Show.calls (k : Nat) (A0 : Option Addr) (c0 : Nat) (l0 : List Int) (r1 : ByteArray) (r2 : Int) (w : World) (hr0 : Kd.C (Kd.int .i64) w A0 l0.length l0) (hc0 : l0.length ≤ c0) (h : toponymref17_Show.f k l0 = some (r1, r2)) :
  Calls Tryd.prog 11 #[.slice A0 l0.length c0] w fun e w' => e = .returned (.tuple #[.string r1, .int .i64 r2]) ∧ Below w.heap.size w w' := by
 have HR0 := aM hr0
 have HC0 := aM hc0
 clear hr0 hc0
 have HB := aM (Below.refl w.heap.size w)
 have H := h
 clear h
 unfold toponymref17_Show.f at H
 obtain ⟨t173, A2, H⟩ := zO H
 by_cases c3 : t173 = 0
 ·rw [if_pos c3] at H
  have c3b0 : (t173 == 0) = true := beq_iff_eq.mpr c3
  have c3b1 : (t173 != 0) = false := bne_eq_false_iff_eq.mpr c3
  clear c3
  by_cases c4 : 0 < (l0.length : Int)
  ·rw [if_pos c4] at H
   have c4b0 : decide (0 < (l0.length : Int)) = true := decide_eq_true c4
   have c4b1 : decide (0 < l0.length) = true := decide_eq_true (by omega)
   clear c4
   obtain ⟨t175, A5, H⟩ := zO H
   have H' := aM H
   clear H
   go_enter Tryd.func11, Tryd.ntmps11
   go_wp2_with (first | ((with_reducible refine gate_callee (f := 13) rfl ?_); refine goesL_ (some 7) rfl rfl Tryd.func13 zK rfl #[.slice A0 l0.length c0] rfl zM ?_; (with_reducible refine (toponymref17_Check.calls k _ _ l0 t173 _ ?side1 ?side2 A2.out).mono ?_); (case side1 => exact zC HR0.out); (case side2 => exact HC0.out); rintro e w' ⟨rfl, ⟨nd, rfl⟩⟩; refine ⟨_, rfl, ?_⟩; have p174 : 0 ≤ (0 : Int) := (by omega); have q174 : 0 < (l0.length : Int) := zoA; obtain ⟨ad174, e174, hx174_0⟩ := Kd.at_int HR0.out 0 p174 q174; cases e174; have qi174 : (0 < l0.length) = True := eq_true (by omega); (try rw [show ((0 : Int)).toNat = 0 from rfl] at hx174_0); (try rw [Addr.add_zero'] at hx174_0); replace p174 := eq_true p174; replace q174 := eq_true q174) | ((with_reducible refine gate_callee (f := 25) rfl ?_); refine goesL_ (some 12) rfl rfl Tryd.func25 zK rfl #[.int .i64 (rd l0 0)] rfl zM ?_; (with_reducible refine (toponymref17_digits.calls k (rd l0 0) t175 _ A5.out).mono ?_); rintro e w6 ⟨rfl, hb⟩; (try clear A5); refine ⟨_, rfl, ?_⟩; replace HB := aM (below_step zB hb); (try clear hb)))
   go_loopg [4, 5] k (fun kq v4 v5 w' => ∃ (x4_1 : ByteArray) (x5_1 : Int), v4 = .string x4_1 ∧ v5 = .int .i64 x5_1 ∧ Aside0 (toponymref17_Show.l0 kq l0 x4_1 x5_1 = some (r1, r2)) ∧ Aside0 (kq ≤ k) ∧ Aside0 (Below w.heap.size w w'))
   case atStart => exact ⟨(t175), (1), zP, zP, H', ⟨Nat.le_refl _⟩, ⟨zB⟩⟩
   case round =>
    clear H'
    try clear c1
    try clear p1
    try clear q1
    try clear hx1
    try clear qi1
    try clear c2
    try clear p2
    try clear c3
    try clear c3b0
    try clear c3b1
    try clear c4
    try clear c4b0
    try clear c4b1
    try clear hx174_0
    try clear p174
    try clear q174
    obtain ⟨x4_1, x5_1, rfl, rfl, HA, HK1, HB⟩ := hrel
    cases gk with
    | zero => exact absurd HA.out (by simp [toponymref17_Show.l0])
    | succ k1 =>
     have H := HA.out
     clear HA
     simp only [toponymref17_Show.l0] at H
     by_cases c7 : x5_1 < (l0.length : Int)
     ·rw [if_pos c7] at H
      have c7b0 : decide (x5_1 < (l0.length : Int)) = true := decide_eq_true c7
      clear c7
      by_cases c8 : x4_1.size + 1 ≤ 9223372036854775807
      ·rw [if_pos c8] at H
       have c8b0 := eq_true c8
       have c8b1 : decide (x4_1.size + 1 ≤ 9223372036854775807) = true := decide_eq_true c8
       try have c8b2 : (9223372036854775807 < x4_1.size + 1) = False := eq_false (Nat.not_lt.2 c8)
       by_cases c9 : 0 ≤ x5_1
       ·rw [if_pos c9] at H
        have c9b0 : decide (0 ≤ x5_1) = true := decide_eq_true c9
        clear c9
        obtain ⟨t177, A10, H⟩ := zO H
        by_cases c11 : (x4_1 ++ (⟨#[46]⟩ : ByteArray)).size + t177.size ≤ 9223372036854775807
        ·rw [if_pos c11] at H
         have c11b0 := eq_true c11
         have c11b5 := eq_true (by have h_ := c11; simp only [ByteArray.size_append] at h_; exact h_ : x4_1.size + 1 + t177.size ≤ 9223372036854775807)
         have c11b6 := decide_eq_true (by have h_ := c11; simp only [ByteArray.size_append] at h_; exact h_ : x4_1.size + 1 + t177.size ≤ 9223372036854775807)
         have c11b7 := eq_false (Nat.not_lt.2 (by have h_ := c11; simp only [ByteArray.size_append] at h_; exact h_ : x4_1.size + 1 + t177.size ≤ 9223372036854775807))
         have c11b1 : decide ((x4_1 ++ (⟨#[46]⟩ : ByteArray)).size + t177.size ≤ 9223372036854775807) = true := decide_eq_true c11
         try have c11b2 : (9223372036854775807 < (x4_1 ++ (⟨#[46]⟩ : ByteArray)).size + t177.size) = False := eq_false (Nat.not_lt.2 c11)
         have H' := aM H
         clear H
         have p176 : 0 ≤ (x5_1 : Int) := zoA
         have q176 : x5_1 < (l0.length : Int) := zoA
         obtain ⟨ad176, e176, hx176_0⟩ := Kd.at_int HR0.out x5_1 p176 q176
         obtain rfl : ad174 = ad176 := (by injection e176)
         replace hx176_0 := (HB.out.cell (World.block_lt_of_cell? w _ hx176_0)).trans hx176_0
         replace p176 := eq_true p176
         replace q176 := eq_true q176
         go_wp2_with (first | ((with_reducible refine gate_callee (f := 25) rfl ?_); refine goesL_ (some 25) rfl rfl Tryd.func25 zK rfl #[.int .i64 (rd l0 x5_1)] rfl zM ?_; (with_reducible refine (toponymref17_digits.calls k1 (rd l0 x5_1) t177 _ A10.out).mono ?_); rintro e w12 ⟨rfl, hb⟩; (try clear A10); refine ⟨_, rfl, ?_⟩; replace HB := aM (below_step zB hb); (try clear hb)))
         go_roundg k1
         case measure => have := HK1.out; omega
         case rel => exact ⟨((x4_1 ++ (⟨#[46]⟩ : ByteArray)) ++ t177), (wrap64 (x5_1 + 1)), zP, zP, H', ⟨by have := HK1.out; omega⟩, ⟨zB⟩⟩
        ·rw [if_neg c11] at H
         exact absurd H (by simp)
       ·rw [if_neg c9] at H
        exact absurd H (by simp)
      ·rw [if_neg c8] at H
       exact absurd H (by simp)
     ·rw [if_neg c7] at H
      have c7b0 : decide (x5_1 < (l0.length : Int)) = false := decide_eq_false c7
      clear c7
      simp only [Option.some.injEq, Prod.mk.injEq] at H
      obtain ⟨rfl, rfl⟩ := H
      go_wp2
      go_ret2
      exact ⟨zE, zB⟩
  ·rw [if_neg c4] at H
   exact absurd H (by simp)
 ·rw [if_neg c3] at H
  have c3b0 : (t173 == 0) = false := beq_eq_false_iff_ne.mpr c3
  have c3b1 : (t173 != 0) = true := bne_iff_ne.mpr c3
  simp only [Option.some.injEq, Prod.mk.injEq] at H
  obtain ⟨rfl, rfl⟩ := H
  go_enter Tryd.func11, Tryd.ntmps11
  go_wp2_with (first | ((with_reducible refine gate_callee (f := 13) rfl ?_); refine goesL_ (some 7) rfl rfl Tryd.func13 zK rfl #[.slice A0 l0.length c0] rfl zM ?_; (with_reducible refine (toponymref17_Check.calls k _ _ l0 t173 _ ?side1 ?side2 A2.out).mono ?_); (case side1 => exact zC HR0.out); (case side2 => exact HC0.out); rintro e w' ⟨rfl, ⟨nd, rfl⟩⟩; refine ⟨_, rfl, ?_⟩))
  go_ret2
  exact ⟨zE, zB⟩

end Go.Proofs.YtmnfdoldoomcgaaDoor.P
