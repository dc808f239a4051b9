-- Printed by wip/mk.py (this session's driver over the kit's print) and from wip/manual.
import Derived.Test.YtncppcjobimilaaT0
import Derived.Test.YtncppcjobimilaaT2
namespace Go.Proofs.Ytncppcjobimilaa.P
open Go.RowKit Go.Proofs.YtncppcjobimilaaW.PrintWords Go.Proofs.YtncppcjobimilaaW.PrintLast Go.Proofs.YtncppcjobimilaaW.PrintMore
attribute [local go_sem] max2_int min2_int max_two min_two max_three min_three max_four min_four   -- for this text's walks alone
set_option linter.unusedVariables false
set_option linter.unusedSimpArgs false

/-! ### utf_Runes: function 26 -/
def utf_Runes.l0 : Nat → ByteArray → List Int → Int → Option (List Int × Int × Int)
 | 0, _, _, _ => none
 | k + 1, x0, x5, x6 => if x6 < (x0.size : Int) then ((utf_Decode.f k x0 x6).bind fun bt121 => (if bt121.2.2 = 0 then (if x5.length < 35184372088832 then (utf_Runes.l0 k x0 (x5 ++ [bt121.1]) bt121.2.1) else (none)) else (some (([] : List Int), x6, bt121.2.2)))) else (some (x5, (x0.size : Int), 0))
def utf_Runes.f (k : Nat) (a0 : ByteArray) : Option (List Int × Int × Int) := utf_Runes.l0 k a0 ([] : List Int) 0
theorem utf_Runes.mono_l : ∀ k, (∀ y0 y1 y2, LeO (utf_Runes.l0 k y0 y1 y2) (utf_Runes.l0 (k + 1) y0 y1 y2))
 | 0 => fun _ _ _ r h => by simp [utf_Runes.l0] at h
 | k + 1 => by
  have ih0 := utf_Runes.mono_l k
  ·intro y0 y1 y2
   unfold utf_Runes.l0
   repeat' first
   | (with_reducible exact ih0 _ _ _)
   | (with_reducible exact utf_Decode.mono _ _ _)
   | (with_reducible exact LeO.refl _)
   | exact ih0 _ _ _
   | exact utf_Decode.mono _ _ _
   | exact LeO.none _
   | refine LeO.ite ?_ ?_
   | refine LeO.bind ?_ (fun _ => ?_)
theorem utf_Runes.mono : ∀ a0 k, LeO (utf_Runes.f k a0) (utf_Runes.f (k + 1) a0) := by
 intro a0 k
 have ih0 := utf_Runes.mono_l k
 unfold utf_Runes.f
 repeat' first
   | (with_reducible exact ih0 _ _ _)
   | (with_reducible exact utf_Decode.mono _ _ _)
   | (with_reducible exact LeO.refl _)
   | exact ih0 _ _ _
   | exact utf_Decode.mono _ _ _
   | exact LeO.none _
   | refine LeO.ite ?_ ?_
   | refine LeO.bind ?_ (fun _ => ?_)
set_option maxHeartbeats 8000000 in
set_option maxRecDepth 100000 in
theorem utf_Runes.calls (k : Nat) (a0 : ByteArray) (r1 : List Int) (r2 : Int) (r3 : Int) (w : World) (h : utf_Runes.f k a0 = some (r1, r2, r3)) :
  Calls Try.prog 26 #[.string a0] w fun e w' => ∃ v0_ : Value, e = .returned (.tuple #[v0_, .int .i64 r2, .int .i64 r3]) ∧ Kd.R (Kd.int .i32) 21 w' w.heap.size (fun _ => True) v0_ r1 ∧ Below w.heap.size w w' := by
 have HB := aM (Below.refl w.heap.size w)
 have H := h
 clear h
 unfold utf_Runes.f at H
 have H' := aM H
 clear H
 go_enter Try.func26, Try.ntmps26
 go_wp2
 go_loopg [5, 6] k (fun kq v5 v6 w' => ∃ (x5_1 : List Int) (x6_1 : Int), v6 = .int .i64 x6_1 ∧ Aside0 (utf_Runes.l0 kq a0 x5_1 x6_1 = some (r1, r2, r3)) ∧ Aside0 (kq ≤ k) ∧ Aside0 (Kd.R (Kd.int .i32) 21 w' w.heap.size (fun _ => True) v5 x5_1) ∧ Aside0 (Below w.heap.size w w'))
 case atStart => exact ⟨(([] : List Int)), (0), zP, H', ⟨Nat.le_refl _⟩, ⟨zL⟩, ⟨zB⟩⟩
 case round =>
  clear H'
  obtain ⟨x5_1, x6_1, rfl, HA, HK1, HO_5, HB⟩ := hrel
  cases gk with
  | zero => exact absurd HA.out (by simp [utf_Runes.l0])
  | succ k1 =>
   have H := HA.out
   clear HA
   simp only [utf_Runes.l0] at H
   by_cases c2 : x6_1 < (a0.size : Int)
   ·rw [if_pos c2] at H
    have c2b0 : decide (x6_1 < (a0.size : Int)) = true := decide_eq_true c2
    clear c2
    obtain ⟨⟨t121, t122, t123⟩, A3, H⟩ := zO H
    try dsimp only at H
    by_cases c4 : t123 = 0
    ·rw [if_pos c4] at H
     have c4b0 : (t123 == 0) = true := beq_iff_eq.mpr c4
     have c4b1 : (t123 != 0) = false := bne_eq_false_iff_eq.mpr c4
     clear c4
     by_cases c5 : x5_1.length < 35184372088832
     ·rw [if_pos c5] at H
      have LMc5 := aM c5
      clear c5
      obtain ⟨y124, hy124⟩ : ∃ y_ : List Int, y_ = (x5_1 ++ [t121]) := ⟨_, rfl⟩
      replace H : (utf_Runes.l0 k1 a0 y124 t122) = some (r1, r2, r3) := zY hy124 H
      have Ny124 := aM hy124
      clear hy124
      have H' := aM H
      clear H
      go_wp2_with (first | ((with_reducible refine gate_callee (f := 38) rfl ?_); refine goesL_ (some 17) rfl rfl Try.func38 zK rfl #[.string a0, .int .i64 x6_1] rfl zM ?_; (with_reducible refine (utf_Decode.calls k1 a0 x6_1 t121 t122 t123 _ A3.out).mono ?_); rintro e w' ⟨rfl, ⟨nd, rfl⟩⟩; refine ⟨_, rfl, ?_⟩) | ((with_reducible refine gate_builtin (b := .append) (xs := #[.tmp 25, .tmp 27]) rfl ?_); at_builtin; refine Kd.R_append (Kd.int .i32) (w0 := w) w.heap.size rfl (.tmp 25) (.tmp 27) 54 21 (.int .i32 0) 4 rfl Try.underlying54 info21 rfl (by decide) (by omega) u5 x5_1 t121 [.int .i32 t121] (fun _ => True) (fun _ => False) rfl rfl ?aP (fun _ hk => hk.elim) ?aF ?aO ?aB ?aS ?aL ?_; (case aP => exact rfl); (case aB => exact zB); (case aF => exact (fun _ _ => trivial)); (case aO => exact (zR HO_5)); (case aS => exact (below_size zB)); (case aL => have := LMc5.out; omega); intro v125 w6 ho hb hg hat; rw [← Ny124.out] at ho; have n_ := zI (aM (hb)) (aM (ho)); clear HB HO_5; obtain ⟨HB, HO126⟩ := n_; clear ho hb hg hat))
      go_roundg k1
      case measure => have := HK1.out; omega
      case rel => exact ⟨(y124), (t122), zP, H', ⟨by have := HK1.out; omega⟩, ⟨zR HO126⟩, ⟨zB⟩⟩
     ·rw [if_neg c5] at H
      exact absurd H (by simp)
    ·rw [if_neg c4] at H
     have c4b0 : (t123 == 0) = false := beq_eq_false_iff_ne.mpr c4
     have c4b1 : (t123 != 0) = true := bne_iff_ne.mpr c4
     simp only [Option.some.injEq, Prod.mk.injEq] at H
     obtain ⟨rfl, rfl, rfl⟩ := H
     go_wp2_with (first | ((with_reducible refine gate_callee (f := 38) rfl ?_); refine goesL_ (some 17) rfl rfl Try.func38 zK rfl #[.string a0, .int .i64 x6_1] rfl zM ?_; (with_reducible refine (utf_Decode.calls k1 a0 x6_1 t121 t122 t123 _ A3.out).mono ?_); rintro e w' ⟨rfl, ⟨nd, rfl⟩⟩; refine ⟨_, rfl, ?_⟩))
     go_ret3
     exact ⟨_, zE, zL, zB⟩
   ·rw [if_neg c2] at H
    have c2b0 : decide (x6_1 < (a0.size : Int)) = false := decide_eq_false c2
    clear c2
    simp only [Option.some.injEq, Prod.mk.injEq] at H
    obtain ⟨rfl, rfl, rfl⟩ := H
    go_wp2
    go_ret3
    exact ⟨_, zE, zR HO_5, zB⟩

/-! ### utf_Encode: function 28 -/
mutual
def utf_Encode.l0 : Nat → List Int → List Int → Int → Int → Option (ByteArray × Int)
 | 0, _, _, _, _ => none
 | k + 1, x4, x9, x10, x11 => if x11 < x10 then (if 0 ≤ x11 then (if x11 < (x9.length : Int) then ((utf_Length.f (rd x9 x11)).bind fun t128 => (if t128 = 0 then (some ((⟨#[]⟩ : ByteArray), 10)) else (if 0 ≤ t128 then (if t128 < 5 then (if 0 ≤ (IntKind.u64.wrap (wrap64 (6 * (wrap64 (t128 - 1))))) then (if x4.length < 140737488355328 then (utf_Encode.l1 k (x4 ++ [Go.bits .or .u8 (bt (⟨#[0, 0, 192, 224, 240]⟩ : ByteArray) t128) ((shr .i32 (rd x9 x11) (IntKind.u64.wrap (wrap64 (6 * (wrap64 (t128 - 1)))))) % 256)]) (rd x9 x11) (wrap64 (t128 - 2)) x9 x10 x11) else (none)) else (none)) else (none)) else (none)))) else (none)) else (none)) else (some (strOfNums x4, 0))
def utf_Encode.l1 : Nat → List Int → Int → Int → List Int → Int → Int → Option (ByteArray × Int)
 | 0, _, _, _, _, _, _ => none
 | k + 1, x4, x6, x8, x9, x10, x11 => if x8 ≥ 0 then (if 0 ≤ (IntKind.u64.wrap (wrap64 (6 * x8))) then (if x4.length < 140737488355328 then (utf_Encode.l1 k (x4 ++ [Go.bits .or .u8 128 (Go.bits .and .u8 ((shr .i32 x6 (IntKind.u64.wrap (wrap64 (6 * x8)))) % 256) 63)]) x6 (wrap64 (x8 - 1)) x9 x10 x11) else (none)) else (none)) else (utf_Encode.l0 k x4 x9 x10 (wrap64 (x11 + 1)))
end
def utf_Encode.f (k : Nat) (l0 : List Int) : Option (ByteArray × Int) := utf_Encode.l0 k ([] : List Int) l0 (l0.length : Int) 0
theorem utf_Encode.mono_l : ∀ k, (∀ y0 y1 y2 y3, LeO (utf_Encode.l0 k y0 y1 y2 y3) (utf_Encode.l0 (k + 1) y0 y1 y2 y3)) ∧ (∀ y0 y1 y2 y3 y4 y5, LeO (utf_Encode.l1 k y0 y1 y2 y3 y4 y5) (utf_Encode.l1 (k + 1) y0 y1 y2 y3 y4 y5))
 | 0 => ⟨fun _ _ _ _ r h => by simp [utf_Encode.l0] at h, fun _ _ _ _ _ _ r h => by simp [utf_Encode.l1] at h⟩
 | k + 1 => by
  obtain ⟨ih0, ih1⟩ := utf_Encode.mono_l k
  refine ⟨?_, ?_⟩
  ·intro y0 y1 y2 y3
   unfold utf_Encode.l0
   repeat' first
   | (with_reducible exact ih0 _ _ _ _)
   | (with_reducible exact ih1 _ _ _ _ _ _)
   | (with_reducible exact LeO.refl _)
   | exact ih0 _ _ _ _
   | exact ih1 _ _ _ _ _ _
   | exact LeO.none _
   | refine LeO.ite ?_ ?_
   | refine LeO.bind ?_ (fun _ => ?_)
  ·intro y0 y1 y2 y3 y4 y5
   unfold utf_Encode.l1
   repeat' first
   | (with_reducible exact ih0 _ _ _ _)
   | (with_reducible exact ih1 _ _ _ _ _ _)
   | (with_reducible exact LeO.refl _)
   | exact ih0 _ _ _ _
   | exact ih1 _ _ _ _ _ _
   | exact LeO.none _
   | refine LeO.ite ?_ ?_
   | refine LeO.bind ?_ (fun _ => ?_)
theorem utf_Encode.mono : ∀ a0 k, LeO (utf_Encode.f k a0) (utf_Encode.f (k + 1) a0) := by
 intro a0 k
 obtain ⟨ih0, ih1⟩ := utf_Encode.mono_l k
 unfold utf_Encode.f
 repeat' first
   | (with_reducible exact ih0 _ _ _ _)
   | (with_reducible exact ih1 _ _ _ _ _ _)
   | (with_reducible exact LeO.refl _)
   | exact ih0 _ _ _ _
   | exact ih1 _ _ _ _ _ _
   | exact LeO.none _
   | refine LeO.ite ?_ ?_
   | refine LeO.bind ?_ (fun _ => ?_)
set_option maxHeartbeats 8000000 in
set_option maxRecDepth 100000 in
theorem utf_Encode.calls (k : Nat) (A0 : Option Addr) (c0 : Nat) (l0 : List Int) (r1 : ByteArray) (r2 : Int) (w : World) (hr0 : Kd.C (Kd.int .i32) w A0 l0.length l0) (hc0 : l0.length ≤ c0) (h : utf_Encode.f k l0 = some (r1, r2)) :
  Calls Try.prog 28 #[.slice A0 l0.length c0] w fun e w' => e = .returned (.tuple #[.string r1, .int .i64 r2]) ∧ Below w.heap.size w w' := by
 have HR0 := aM hr0
 have HC0 := aM hc0
 clear hr0 hc0
 have HB := aM (Below.refl w.heap.size w)
 have H := h
 clear h
 unfold utf_Encode.f at H
 have H' := aM H
 clear H
 go_enter Try.func28, Try.ntmps28
 go_wp2
 go_loopg [4, 11] k (fun kq v4 v11 w' => ∃ (x4_1 : List Int) (x11_1 : Int), v11 = .int .i64 x11_1 ∧ Aside0 (utf_Encode.l0 kq x4_1 l0 (l0.length : Int) x11_1 = some (r1, r2)) ∧ Aside0 (kq ≤ k) ∧ Aside0 (Kd.R (Kd.int .u8) 5 w' w.heap.size (fun _ => True) v4 x4_1) ∧ Aside0 (Below w.heap.size w w'))
 case atStart => exact ⟨(([] : List Int)), (0), zP, H', ⟨Nat.le_refl _⟩, ⟨zL⟩, ⟨zB⟩⟩
 case round =>
  clear H'
  obtain ⟨x4_1, x11_1, rfl, HA, HK1, HO_4, HB⟩ := hrel
  cases gk with
  | zero => exact absurd HA.out (by simp [utf_Encode.l0])
  | succ k1 =>
   have H := HA.out
   clear HA
   simp only [utf_Encode.l0] at H
   by_cases c2 : x11_1 < (l0.length : Int)
   ·rw [if_pos c2] at H
    have c2b0 : decide (x11_1 < (l0.length : Int)) = true := decide_eq_true c2
    clear c2
    by_cases c3 : 0 ≤ x11_1
    ·rw [if_pos c3] at H
     have c3b0 : decide (0 ≤ x11_1) = true := decide_eq_true c3
     clear c3
     by_cases c4 : x11_1 < (l0.length : Int)
     ·rw [if_pos c4] at H
      have c4b0 : decide (x11_1 < (l0.length : Int)) = true := decide_eq_true c4
      clear c4
      obtain ⟨t128, A5, H⟩ := zO H
      by_cases c6 : t128 = 0
      ·rw [if_pos c6] at H
       have c6b0 : (t128 == 0) = true := beq_iff_eq.mpr c6
       have c6b1 : (t128 != 0) = false := bne_eq_false_iff_eq.mpr c6
       clear c6
       simp only [Option.some.injEq, Prod.mk.injEq] at H
       obtain ⟨rfl, rfl⟩ := H
       have p127 : 0 ≤ (x11_1 : Int) := zoA
       have q127 : x11_1 < (l0.length : Int) := zoA
       obtain ⟨ad127, e127, hx127_0⟩ := Kd.at_int HR0.out x11_1 p127 q127
       cases e127
       replace hx127_0 := (HB.out.cell (World.block_lt_of_cell? w _ hx127_0)).trans hx127_0
       replace p127 := eq_true p127
       replace q127 := eq_true q127
       go_wp2_with (first | ((with_reducible refine gate_callee (f := 40) rfl ?_); refine goesL_ (some 16) rfl rfl Try.func40 zK rfl #[.int .i32 (rd l0 x11_1)] rfl zM ?_; (with_reducible refine (utf_Length.calls (rd l0 x11_1) t128 _ A5.out).mono ?_); rintro e w' ⟨rfl, ⟨nd, rfl⟩⟩; refine ⟨_, rfl, ?_⟩))
       go_ret2
       exact ⟨zE, zB⟩
      ·rw [if_neg c6] at H
       have c6b0 : (t128 == 0) = false := beq_eq_false_iff_ne.mpr c6
       have c6b1 : (t128 != 0) = true := bne_iff_ne.mpr c6
       by_cases c7 : 0 ≤ t128
       ·rw [if_pos c7] at H
        have c7b0 : decide (0 ≤ t128) = true := decide_eq_true c7
        clear c7
        by_cases c8 : t128 < 5
        ·rw [if_pos c8] at H
         have c8b0 : decide (t128 < 5) = true := decide_eq_true c8
         clear c8
         obtain ⟨ji10, hji10⟩ : ∃ j_ : Int, (IntKind.u64.wrap (wrap64 (6 * (wrap64 (t128 - 1))))) = j_ := ⟨_, rfl⟩
         replace H : (if 0 ≤ (ji10) then (if x4_1.length < 140737488355328 then (utf_Encode.l1 k1 (x4_1 ++ [Go.bits .or .u8 (bt (⟨#[0, 0, 192, 224, 240]⟩ : ByteArray) t128) ((shr .i32 (rd l0 x11_1) (ji10)) % 256)]) (rd l0 x11_1) (wrap64 (t128 - 2)) l0 (l0.length : Int) x11_1) else (none)) else (none)) = some (r1, r2) := by first | (rw [hji10] at H; exact H) | (simp only [hji10] at H ⊢; exact H)
         (try rw [hji10] at A5)
         by_cases c11 : 0 ≤ (ji10)
         ·rw [if_pos c11] at H
          have c11b0 := eq_true c11
          have c11b1 : decide (0 ≤ (ji10)) = true := decide_eq_true c11
          clear c11
          obtain ⟨ji12, hji12⟩ : ∃ j_ : Int, (shr .i32 (rd l0 x11_1) (ji10)) = j_ := ⟨_, rfl⟩
          replace H : (if x4_1.length < 140737488355328 then (utf_Encode.l1 k1 (x4_1 ++ [Go.bits .or .u8 (bt (⟨#[0, 0, 192, 224, 240]⟩ : ByteArray) t128) ((ji12) % 256)]) (rd l0 x11_1) (wrap64 (t128 - 2)) l0 (l0.length : Int) x11_1) else (none)) = some (r1, r2) := by first | (rw [hji12] at H; exact H) | (simp only [hji12] at H ⊢; exact H)
          (try rw [hji12] at A5)
          have hji12_ : ((rd l0 x11_1) / 2 ^ min (ji10).toNat 32) = ji12 := hji12
          have hji12z : (ji10) ≤ 32 → ((rd l0 x11_1) / 2 ^ (ji10).toNat) = ji12 := shr_small hji12
          by_cases c13 : x4_1.length < 140737488355328
          ·rw [if_pos c13] at H
           have LMc13 := aM c13
           clear c13
           obtain ⟨y129, hy129⟩ : ∃ y_ : List Int, y_ = (x4_1 ++ [Go.bits .or .u8 (bt (⟨#[0, 0, 192, 224, 240]⟩ : ByteArray) t128) ((ji12) % 256)]) := ⟨_, rfl⟩
           replace H : (utf_Encode.l1 k1 y129 (rd l0 x11_1) (wrap64 (t128 - 2)) l0 (l0.length : Int) x11_1) = some (r1, r2) := zY hy129 H
           have Ny129 := aM hy129
           clear hy129
           have H' := aM H
           clear H
           have p127 : 0 ≤ (x11_1 : Int) := zoA
           have q127 : x11_1 < (l0.length : Int) := zoA
           obtain ⟨ad127, e127, hx127_0⟩ := Kd.at_int HR0.out x11_1 p127 q127
           cases e127
           replace hx127_0 := (HB.out.cell (World.block_lt_of_cell? w _ hx127_0)).trans hx127_0
           replace p127 := eq_true p127
           replace q127 := eq_true q127
           go_wp2_with (first | ((with_reducible refine gate_callee (f := 40) rfl ?_); refine goesL_ (some 16) rfl rfl Try.func40 zK rfl #[.int .i32 (rd l0 x11_1)] rfl zM ?_; (with_reducible refine (utf_Length.calls (rd l0 x11_1) t128 _ A5.out).mono ?_); rintro e w' ⟨rfl, ⟨nd, rfl⟩⟩; refine ⟨_, rfl, ?_⟩; have p9 : 0 ≤ (t128 : Int) := zoA; have q9 : t128 < (5 : Int) := zoA; have hx9 := bt_at (⟨#[0, 0, 192, 224, 240]⟩ : ByteArray) t128; replace p9 := eq_true p9; replace q9 := eq_true q9) | ((with_reducible refine gate_builtin (b := .append) (xs := #[.tmp 19, .tmp 30]) rfl ?_); at_builtin; refine Kd.R_append (Kd.int .u8) (w0 := w) w.heap.size rfl (.tmp 19) (.tmp 30) 69 5 (.int .u8 0) 1 rfl Try.underlying69 info5 rfl (by decide) (by omega) u4 x4_1 (Go.bits .or .u8 (bt (⟨#[0, 0, 192, 224, 240]⟩ : ByteArray) t128) ((ji12) % 256)) [.int .u8 (Go.bits .or .u8 (bt (⟨#[0, 0, 192, 224, 240]⟩ : ByteArray) t128) ((ji12) % 256))] (fun _ => True) (fun _ => False) rfl rfl ?aP (fun _ hk => hk.elim) ?aF ?aO ?aB ?aS ?aL ?_; (case aP => exact rfl); (case aB => exact zB); (case aF => exact (fun _ _ => trivial)); (case aO => exact (zR HO_4)); (case aS => exact (below_size zB)); (case aL => have := LMc13.out; omega); intro v130 w14 ho hb hg hat; rw [← Ny129.out] at ho; have n_ := zI (aM (hb)) (aM (ho)); clear HB HO_4; obtain ⟨HB, HO131⟩ := n_; clear ho hb hg hat))
           go_loopg [4, 8] k1 (fun kq v4 v8 w' => ∃ (x4_2 : List Int) (x8_2 : Int), v8 = .int .i64 x8_2 ∧ Aside0 (utf_Encode.l1 kq x4_2 (rd l0 x11_1) x8_2 l0 (l0.length : Int) x11_1 = some (r1, r2)) ∧ Aside0 (kq ≤ k1) ∧ Aside0 (Kd.R (Kd.int .u8) 5 w' w.heap.size (fun _ => True) v4 x4_2) ∧ Aside0 (Below w.heap.size w w'))
           case atStart => exact ⟨(y129), (wrap64 (t128 - 2)), zP, H', ⟨Nat.le_refl _⟩, ⟨zR HO131⟩, ⟨zB⟩⟩
           case round =>
            clear H'
            try clear c1
            try clear p1
            try clear q1
            try clear hx1
            try clear c2
            try clear c2b0
            try clear p2
            try clear c3
            try clear c3b0
            try clear c4
            try clear c4b0
            try clear c6
            try clear c6b0
            try clear c6b1
            try clear p6
            try clear c7
            try clear c7b0
            try clear c8
            try clear c8b0
            try clear p9
            try clear q9
            try clear hx9
            try clear c11
            try clear c11b0
            try clear c11b1
            try clear p12
            try clear q12
            try clear hx12
            try clear c13
            try clear hx127_0
            try clear p127
            try clear p9
            try clear q127
            try clear q9
            obtain ⟨x4_2, x8_2, rfl, HA, HK2, HO_4, HB⟩ := hrel
            cases gk with
            | zero => exact absurd HA.out (by simp [utf_Encode.l1])
            | succ k2 =>
             have H := HA.out
             clear HA
             simp only [utf_Encode.l1] at H
             by_cases c15 : x8_2 ≥ 0
             ·rw [if_pos c15] at H
              have c15b0 : decide (0 ≤ x8_2) = true := decide_eq_true c15
              clear c15
              obtain ⟨ji16, hji16⟩ : ∃ j_ : Int, (IntKind.u64.wrap (wrap64 (6 * x8_2))) = j_ := ⟨_, rfl⟩
              replace H : (if 0 ≤ (ji16) then (if x4_2.length < 140737488355328 then (utf_Encode.l1 k2 (x4_2 ++ [Go.bits .or .u8 128 (Go.bits .and .u8 ((shr .i32 (rd l0 x11_1) (ji16)) % 256) 63)]) (rd l0 x11_1) (wrap64 (x8_2 - 1)) l0 (l0.length : Int) x11_1) else (none)) else (none)) = some (r1, r2) := by first | (rw [hji16] at H; exact H) | (simp only [hji16] at H ⊢; exact H)
              by_cases c17 : 0 ≤ (ji16)
              ·rw [if_pos c17] at H
               have c17b0 := eq_true c17
               have c17b1 : decide (0 ≤ (ji16)) = true := decide_eq_true c17
               clear c17
               obtain ⟨ji18, hji18⟩ : ∃ j_ : Int, (shr .i32 (rd l0 x11_1) (ji16)) = j_ := ⟨_, rfl⟩
               replace H : (if x4_2.length < 140737488355328 then (utf_Encode.l1 k2 (x4_2 ++ [Go.bits .or .u8 128 (Go.bits .and .u8 ((ji18) % 256) 63)]) (rd l0 x11_1) (wrap64 (x8_2 - 1)) l0 (l0.length : Int) x11_1) else (none)) = some (r1, r2) := by first | (rw [hji18] at H; exact H) | (simp only [hji18] at H ⊢; exact H)
               have hji18_ : ((rd l0 x11_1) / 2 ^ min (ji16).toNat 32) = ji18 := hji18
               have hji18z : (ji16) ≤ 32 → ((rd l0 x11_1) / 2 ^ (ji16).toNat) = ji18 := shr_small hji18
               by_cases c19 : x4_2.length < 140737488355328
               ·rw [if_pos c19] at H
                have LMc19 := aM c19
                clear c19
                obtain ⟨y132, hy132⟩ : ∃ y_ : List Int, y_ = (x4_2 ++ [Go.bits .or .u8 128 (Go.bits .and .u8 ((ji18) % 256) 63)]) := ⟨_, rfl⟩
                replace H : (utf_Encode.l1 k2 y132 (rd l0 x11_1) (wrap64 (x8_2 - 1)) l0 (l0.length : Int) x11_1) = some (r1, r2) := zY hy132 H
                rw [or_and_63] at hy132
                have Ny132 := aM hy132
                clear hy132
                have H' := aM H
                clear H
                go_wp2_with (first | ((with_reducible refine gate_builtin (b := .append) (xs := #[.tmp 38, .tmp 47]) rfl ?_); at_builtin; refine Kd.R_append (Kd.int .u8) (w0 := w) w.heap.size rfl (.tmp 38) (.tmp 47) 69 5 (.int .u8 0) 1 rfl Try.underlying69 info5 rfl (by decide) (by omega) u4 x4_2 ((128 + ji18 % 64)) [.int .u8 ((128 + ji18 % 64))] (fun _ => True) (fun _ => False) rfl rfl ?aP (fun _ hk => hk.elim) ?aF ?aO ?aB ?aS ?aL ?_; (case aP => exact rfl); (case aB => exact zB); (case aF => exact (fun _ _ => trivial)); (case aO => exact (zR HO_4)); (case aS => exact (below_size zB)); (case aL => have := LMc19.out; omega); intro v133 w20 ho hb hg hat; rw [← Ny132.out] at ho; have n_ := zI (aM (hb)) (aM (ho)); clear HB HO_4; obtain ⟨HB, HO134⟩ := n_; clear ho hb hg hat))
                go_roundg k2
                case measure => have := HK1.out; have := HK2.out; omega
                case rel => exact ⟨(y132), (wrap64 (x8_2 - 1)), zP, H', ⟨by have := HK1.out; have := HK2.out; omega⟩, ⟨zR HO134⟩, ⟨zB⟩⟩
               ·rw [if_neg c19] at H
                exact absurd H (by simp)
              ·rw [if_neg c17] at H
               exact absurd H (by simp)
             ·rw [if_neg c15] at H
              have c15b0 : decide (0 ≤ x8_2) = false := decide_eq_false c15
              clear c15
              have H' := aM H
              clear H
              go_wp2
              go_roundg k2
              case measure => have := HK1.out; have := HK2.out; omega
              case rel => exact ⟨(x4_2), (wrap64 (x11_1 + 1)), zP, H', ⟨by have := HK1.out; have := HK2.out; omega⟩, ⟨zR HO_4⟩, ⟨zB⟩⟩
          ·rw [if_neg c13] at H
           exact absurd H (by simp)
         ·rw [if_neg c11] at H
          exact absurd H (by simp)
        ·rw [if_neg c8] at H
         exact absurd H (by simp)
       ·rw [if_neg c7] at H
        exact absurd H (by simp)
     ·rw [if_neg c4] at H
      exact absurd H (by simp)
    ·rw [if_neg c3] at H
     exact absurd H (by simp)
   ·rw [if_neg c2] at H
    have c2b0 : decide (x11_1 < (l0.length : Int)) = false := decide_eq_false c2
    clear c2
    simp only [Option.some.injEq, Prod.mk.injEq] at H
    obtain ⟨rfl, rfl⟩ := H
    have hcv21 := own_string (P := Try.prog) Try.underlying69 Try.underlying5 Try.underlying9 (Kd.own_of_R HO_4.out)
    go_wp2
    go_ret2
    exact ⟨zE, zB⟩

/-! ### nfkc_plain_1: function 64 -/
def nfkc_plain_1.f (a0 : Int) : Option (Bool) := if a0 < 0 then (some true) else (some (decide (a0 ≥ 128)))
set_option maxHeartbeats 8000000 in
set_option maxRecDepth 100000 in
theorem nfkc_plain_1.calls (a0 : Int) (r : Bool) (w : World) (h : nfkc_plain_1.f a0 = some r) :
  Calls Try.prog 64 #[.int .i32 a0] w fun e w' => e = .returned (.bool r) ∧ Drawn0 w w' := by
 have H := h
 clear h
 unfold nfkc_plain_1.f at H
 by_cases c2 : a0 < 0
 ·rw [if_pos c2] at H
  have c2b0 : decide (a0 < 0) = true := decide_eq_true c2
  clear c2
  obtain rfl := sI H
  go_enter Try.func64, Try.ntmps64
  go_wp2
  go_ret
  exact ⟨zP, zD⟩
 ·rw [if_neg c2] at H
  have c2b0 : decide (a0 < 0) = false := decide_eq_false c2
  clear c2
  obtain rfl := sI H
  go_enter Try.func64, Try.ntmps64
  go_wp2
  go_ret
  exact ⟨zP, zD⟩

/-! ### slices_IndexFunc_rune_rune_nfkc_plain_1: function 121 -/
def slices_IndexFunc_rune_rune_nfkc_plain_1.l0 : Nat → List Int → Int → Int → Option (Int)
 | 0, _, _, _ => none
 | k + 1, x0, x7, x8 => if x8 < x7 then (if 0 ≤ x8 then (if x8 < (x0.length : Int) then ((nfkc_plain_1.f (rd x0 x8)).bind fun t136 => (if t136 = true then (some x8) else (slices_IndexFunc_rune_rune_nfkc_plain_1.l0 k x0 x7 (wrap64 (x8 + 1))))) else (none)) else (none)) else (some (-1))
def slices_IndexFunc_rune_rune_nfkc_plain_1.f (k : Nat) (l0 : List Int) (a1 : Int) : Option (Int) := slices_IndexFunc_rune_rune_nfkc_plain_1.l0 k l0 (l0.length : Int) 0
theorem slices_IndexFunc_rune_rune_nfkc_plain_1.mono_l : ∀ k, (∀ y0 y1 y2, LeO (slices_IndexFunc_rune_rune_nfkc_plain_1.l0 k y0 y1 y2) (slices_IndexFunc_rune_rune_nfkc_plain_1.l0 (k + 1) y0 y1 y2))
 | 0 => fun _ _ _ r h => by simp [slices_IndexFunc_rune_rune_nfkc_plain_1.l0] at h
 | k + 1 => by
  have ih0 := slices_IndexFunc_rune_rune_nfkc_plain_1.mono_l k
  ·intro y0 y1 y2
   unfold slices_IndexFunc_rune_rune_nfkc_plain_1.l0
   repeat' first
   | (with_reducible exact ih0 _ _ _)
   | (with_reducible exact LeO.refl _)
   | exact ih0 _ _ _
   | exact LeO.none _
   | refine LeO.ite ?_ ?_
   | refine LeO.bind ?_ (fun _ => ?_)
theorem slices_IndexFunc_rune_rune_nfkc_plain_1.mono : ∀ a0 a1 k, LeO (slices_IndexFunc_rune_rune_nfkc_plain_1.f k a0 a1) (slices_IndexFunc_rune_rune_nfkc_plain_1.f (k + 1) a0 a1) := by
 intro a0 a1 k
 have ih0 := slices_IndexFunc_rune_rune_nfkc_plain_1.mono_l k
 unfold slices_IndexFunc_rune_rune_nfkc_plain_1.f
 repeat' first
   | (with_reducible exact ih0 _ _ _)
   | (with_reducible exact LeO.refl _)
   | exact ih0 _ _ _
   | exact LeO.none _
   | refine LeO.ite ?_ ?_
   | refine LeO.bind ?_ (fun _ => ?_)
set_option maxHeartbeats 8000000 in
set_option maxRecDepth 100000 in
theorem slices_IndexFunc_rune_rune_nfkc_plain_1.calls (k : Nat) (A0 : Option Addr) (c0 : Nat) (l0 : List Int) (a1 : Int) (r : Int) (w : World) (hr0 : Kd.C (Kd.int .i32) w A0 l0.length l0) (hc0 : l0.length ≤ c0) (h : slices_IndexFunc_rune_rune_nfkc_plain_1.f k l0 a1 = some r) :
  Calls Try.prog 76 #[.slice A0 l0.length c0, .func (.func 64) #[] #[]] w fun e w' => e = .returned (.int .i64 r) ∧ Drawn0 w w' := by
 have HR0 := aM hr0
 have HC0 := aM hc0
 clear hr0 hc0
 have H := h
 clear h
 unfold slices_IndexFunc_rune_rune_nfkc_plain_1.f at H
 have H' := aM H
 clear H
 go_enter Try.func76, Try.ntmps76
 go_wp2
 go_loopg [8] k (fun kq v8 w' => ∃ (x8_1 : Int), v8 = .int .i64 x8_1 ∧ Aside0 (slices_IndexFunc_rune_rune_nfkc_plain_1.l0 kq l0 (l0.length : Int) x8_1 = some r) ∧ Aside0 (kq ≤ k) ∧ Drawn0 w w')
 case atStart => exact ⟨(0), zP, H', ⟨Nat.le_refl _⟩, zD⟩
 case round =>
  clear H'
  try clear c1
  try clear p2
  obtain ⟨x8_1, rfl, HA, HK1, ⟨m1, rfl⟩⟩ := hrel
  cases gk with
  | zero => exact absurd HA.out (by simp [slices_IndexFunc_rune_rune_nfkc_plain_1.l0])
  | succ k1 =>
   have H := HA.out
   clear HA
   simp only [slices_IndexFunc_rune_rune_nfkc_plain_1.l0] at H
   by_cases c3 : x8_1 < (l0.length : Int)
   ·rw [if_pos c3] at H
    have c3b0 : decide (x8_1 < (l0.length : Int)) = true := decide_eq_true c3
    clear c3
    by_cases c4 : 0 ≤ x8_1
    ·rw [if_pos c4] at H
     have c4b0 : decide (0 ≤ x8_1) = true := decide_eq_true c4
     clear c4
     by_cases c5 : x8_1 < (l0.length : Int)
     ·rw [if_pos c5] at H
      have c5b0 : decide (x8_1 < (l0.length : Int)) = true := decide_eq_true c5
      clear c5
      obtain ⟨t136, A6, H⟩ := zO H
      by_cases c7 : t136 = true
      ·subst c7
       rw [if_pos rfl] at H
       obtain rfl := sI H
       have p135 : 0 ≤ (x8_1 : Int) := zoA
       have q135 : x8_1 < (l0.length : Int) := zoA
       obtain ⟨ad135, e135, hx135_0⟩ := Kd.at_int HR0.out x8_1 p135 q135
       cases e135
       replace p135 := eq_true p135
       replace q135 := eq_true q135
       go_wp2_with (first | ((with_reducible refine gate_tmp (x := 11) rfl ?_); refine goesLT_ (some 16) (x := 11) rfl rfl rfl Try.func64 zK rfl #[.int .i32 (rd l0 x8_1)] rfl zM ?_; (with_reducible refine (nfkc_plain_1.calls (rd l0 x8_1) true _ A6.out).mono ?_); rintro e w' ⟨rfl, ⟨nd, rfl⟩⟩; refine ⟨_, rfl, ?_⟩))
       go_ret
       exact ⟨zP, zD⟩
      ·replace c7 := Bool.eq_false_iff.mpr c7
       subst c7
       rw [if_neg (show ¬ (false = true) by decide)] at H
       have H' := aM H
       clear H
       have p135 : 0 ≤ (x8_1 : Int) := zoA
       have q135 : x8_1 < (l0.length : Int) := zoA
       obtain ⟨ad135, e135, hx135_0⟩ := Kd.at_int HR0.out x8_1 p135 q135
       cases e135
       replace p135 := eq_true p135
       replace q135 := eq_true q135
       go_wp2_with (first | ((with_reducible refine gate_tmp (x := 11) rfl ?_); refine goesLT_ (some 16) (x := 11) rfl rfl rfl Try.func64 zK rfl #[.int .i32 (rd l0 x8_1)] rfl zM ?_; (with_reducible refine (nfkc_plain_1.calls (rd l0 x8_1) false _ A6.out).mono ?_); rintro e w' ⟨rfl, ⟨nd, rfl⟩⟩; refine ⟨_, rfl, ?_⟩))
       go_roundg k1
       case measure => have := HK1.out; omega
       case rel => exact ⟨(wrap64 (x8_1 + 1)), zP, H', ⟨by have := HK1.out; omega⟩, zD⟩
     ·rw [if_neg c5] at H
      exact absurd H (by simp)
    ·rw [if_neg c4] at H
     exact absurd H (by simp)
   ·rw [if_neg c3] at H
    have c3b0 : decide (x8_1 < (l0.length : Int)) = false := decide_eq_false c3
    clear c3
    obtain rfl := sI H
    go_wp2
    go_ret
    exact ⟨zP, zD⟩

/-! ### slices_ContainsFunc_rune_rune_nfkc_plain_1: function 120 -/
def slices_ContainsFunc_rune_rune_nfkc_plain_1.f (k : Nat) (l0 : List Int) (a1 : Int) : Option (Bool) := (slices_IndexFunc_rune_rune_nfkc_plain_1.f k l0 7770064).bind fun t137 => (some (decide (t137 ≥ 0)))
theorem slices_ContainsFunc_rune_rune_nfkc_plain_1.mono : ∀ a0 a1 k, LeO (slices_ContainsFunc_rune_rune_nfkc_plain_1.f k a0 a1) (slices_ContainsFunc_rune_rune_nfkc_plain_1.f (k + 1) a0 a1) := by
 intro a0 a1 k
 unfold slices_ContainsFunc_rune_rune_nfkc_plain_1.f
 repeat' first
   | (with_reducible exact slices_IndexFunc_rune_rune_nfkc_plain_1.mono _ _ _)
   | (with_reducible exact LeO.refl _)
   | exact slices_IndexFunc_rune_rune_nfkc_plain_1.mono _ _ _
   | exact LeO.none _
   | refine LeO.ite ?_ ?_
   | refine LeO.bind ?_ (fun _ => ?_)
set_option maxHeartbeats 8000000 in
set_option maxRecDepth 100000 in
theorem slices_ContainsFunc_rune_rune_nfkc_plain_1.calls (k : Nat) (A0 : Option Addr) (c0 : Nat) (l0 : List Int) (a1 : Int) (r : Bool) (w : World) (hr0 : Kd.C (Kd.int .i32) w A0 l0.length l0) (hc0 : l0.length ≤ c0) (h : slices_ContainsFunc_rune_rune_nfkc_plain_1.f k l0 a1 = some r) :
  Calls Try.prog 63 #[.slice A0 l0.length c0, .func (.func 64) #[] #[]] w fun e w' => e = .returned (.bool r) ∧ Drawn0 w w' := by
 have HR0 := aM hr0
 have HC0 := aM hc0
 clear hr0 hc0
 have H := h
 clear h
 unfold slices_ContainsFunc_rune_rune_nfkc_plain_1.f at H
 obtain ⟨t137, A3, H⟩ := zO H
 obtain rfl := sI H
 go_enter Try.func63, Try.ntmps63
 go_wp2_with (first | ((with_reducible refine gate_callee (f := 76) rfl ?_); refine goesL_ (some 7) rfl rfl Try.func76 zK rfl #[.slice A0 l0.length c0, .func (.func 64) #[] #[]] rfl zM ?_; (with_reducible refine (slices_IndexFunc_rune_rune_nfkc_plain_1.calls k _ _ l0 7770064 t137 _ ?side1 ?side2 A3.out).mono ?_); (case side1 => exact zC HR0.out); (case side2 => exact HC0.out); rintro e w' ⟨rfl, ⟨nd, rfl⟩⟩; refine ⟨_, rfl, ?_⟩))
 go_ret
 exact ⟨zP, zD⟩

/-! ### nfkc_plain: function 41 -/
def nfkc_plain.f (k : Nat) (l0 : List Int) : Option (Bool) := (slices_ContainsFunc_rune_rune_nfkc_plain_1.f k l0 7770064).bind fun t138 => (some (!t138))
theorem nfkc_plain.mono : ∀ a0 k, LeO (nfkc_plain.f k a0) (nfkc_plain.f (k + 1) a0) := by
 intro a0 k
 unfold nfkc_plain.f
 repeat' first
   | (with_reducible exact slices_ContainsFunc_rune_rune_nfkc_plain_1.mono _ _ _)
   | (with_reducible exact LeO.refl _)
   | exact slices_ContainsFunc_rune_rune_nfkc_plain_1.mono _ _ _
   | exact LeO.none _
   | refine LeO.ite ?_ ?_
   | refine LeO.bind ?_ (fun _ => ?_)
set_option maxHeartbeats 8000000 in
set_option maxRecDepth 100000 in
theorem nfkc_plain.calls (k : Nat) (A0 : Option Addr) (c0 : Nat) (l0 : List Int) (r : Bool) (w : World) (hr0 : Kd.C (Kd.int .i32) w A0 l0.length l0) (hc0 : l0.length ≤ c0) (h : nfkc_plain.f k l0 = some r) :
  Calls Try.prog 41 #[.slice A0 l0.length c0] w fun e w' => e = .returned (.bool r) ∧ Drawn0 w w' := by
 have HR0 := aM hr0
 have HC0 := aM hc0
 clear hr0 hc0
 have H := h
 clear h
 unfold nfkc_plain.f at H
 obtain ⟨t138, A2, H⟩ := zO H
 obtain rfl := sI H
 go_enter Try.func41, Try.ntmps41
 go_wp2_with (first | ((with_reducible refine gate_callee (f := 63) rfl ?_); refine goesL_ (some 4) rfl rfl Try.func63 zK rfl #[.slice A0 l0.length c0, .func (.func 64) #[] #[]] rfl zM ?_; (with_reducible refine (slices_ContainsFunc_rune_rune_nfkc_plain_1.calls k _ _ l0 7770064 t138 _ ?side1 ?side2 A2.out).mono ?_); (case side1 => exact zC HR0.out); (case side2 => exact HC0.out); rintro e w' ⟨rfl, ⟨nd, rfl⟩⟩; refine ⟨_, rfl, ?_⟩))
 go_ret
 exact ⟨zP, zD⟩

/-! ### slices_Clone_rune_rune: function 42, by hand (slices.Clone.rune.tpl) -/
theorem info21c : (Try.prog.info? 21).map (fun i => (i.zero, i.size, i.bytes)) = some (some (.int .i32 0), 1, 4) := by kernel_rfl
def slices_Clone_rune_rune.f (l0 : List Int) : Option (List Int) := if l0.length < 35184372088832 then some l0 else none
set_option maxHeartbeats 8000000 in
set_option maxRecDepth 100000 in
theorem slices_Clone_rune_rune.calls (A0 : Option Addr) (c0 : Nat) (l0 : List Int) (r : List Int) (w : World) (hr0 : Kd.C (Kd.int .i32) w A0 l0.length l0) (hc0 : l0.length ≤ c0) (h : slices_Clone_rune_rune.f l0 = some r) :
    Calls Try.prog 42 #[.slice A0 l0.length c0] w fun e w' => ∃ v0_ : Value, e = .returned (v0_) ∧ Kd.R (Kd.int .i32) 21 w' w.heap.size (fun _ => True) (v0_) (r) ∧ Below w.heap.size w w' := by
  have H := h
  clear h
  unfold slices_Clone_rune_rune.f at H
  by_cases c1 : l0.length < 35184372088832
  · rw [if_pos c1] at H
    obtain rfl := Option.some.inj H
    clear H
    have LM := Aside0.mk c1
    clear c1
    have hnl := fun (w : World) => Lib.run_eql_slice_nil (P := Try.prog) w 54 21 A0 l0.length c0 0 0 Try.underlying54
    cases A0 with
    | none =>
      have hl : l0 = [] := by
        by_cases h0 : 0 < l0.length
        · obtain ⟨ad, e, _⟩ := hr0.2.2 h0
          cases e
        · exact List.length_eq_zero_iff.1 (by omega)
      subst hl
      clear hr0 LM
      simp only [Option.isNone_none, List.length_nil] at hnl ⊢
      go_enter Try.func42, Try.ntmps42
      go_wp2
      go_ret
      exact ⟨_, rfl, Kd.R_nil _ _ _ _ _, Below.refl _ _⟩
    | some ad =>
      simp only [Option.isNone_some] at hnl
      have HR := Aside0.mk hr0
      have HC := Aside0.mk hc0
      have HB := Aside0.mk (Below.refl w.heap.size w)
      clear hr0 hc0
      go_enter Try.func42, Try.ntmps42
      go_wp2_with (first | ((with_reducible refine gate_dst (N := 5) rfl ?_); refine Kd.R_lit (Kd.int .i32) _ 21 ?hg (N := 5) ?hd (xs := ([] : List Int)) (inner := []) (ok := fun _ => True) (okp := fun _ => True) ?hr ?hp (fun _ hk => hk) trivial (Below.refl _ _) (Nat.le_refl _) (by simp) ?_; (case hd => rfl); (case hg => rfl); (case hr => first | (go_simp; done) | (go_simp; rfl)); (case hp => exact (Reps.none _ _)); intro v5 w5 ho5 hb hg_ hnew_; clear hg_ hnew_ HB; have HO := Aside0.mk ho5; have HB := Aside0.mk hb; clear ho5 hb) | ((with_reducible refine gate_builtin (b := .append) (xs := #[.tmp 5, .tmp 6]) rfl ?_); at_builtin; refine Kd.R_append_rows (Kd.int .i32) (w0 := w) w.heap.size rfl (.tmp 5) (.tmp 6) 54 21 (.int .i32 0) 4 rfl Try.underlying54 info21c rfl (by decide) (by omega) v5 [] l0 _ _ _ (fun _ => True) (fun _ => False) rfl rfl ?aO ?aR (fun _ _ h => h) (fun _ h => h.elim) ?aF ?aB ?aS ?aL ?_; (case aR => exact Kd.C_below HR.out HB.out); (case aB => exact HB.out); (case aF => exact (fun _ _ => trivial)); (case aO => exact HO.out); (case aS => exact HB.out.size); (case aL => have := LM.out; simp only [List.length_nil]; omega); intro v7 w7 ho hb hg hat; simp only [List.nil_append] at ho; have HO7 := Aside0.mk ho; have HB7 := Aside0.mk hb; clear ho hb hg hat))
      go_ret
      exact ⟨_, rfl, HO7.out, HB7.out⟩
  · rw [if_neg c1] at H
    exact absurd H (by simp)

/-! ### chars_mark: function 77 -/
def chars_mark.f (a0 : Int) : Option (Bool) := if a0 ≥ 768 then (if a0 ≤ 772 then (some true) else (if a0 ≥ 774 then (if a0 ≤ 776 then (some true) else (if a0 ≥ 778 then (if a0 ≤ 780 then (some true) else (if a0 = 803 then (some true) else (if a0 ≥ 807 then (if a0 ≤ 808 then (some true) else (if a0 ≥ 12441 then (some (decide (a0 ≤ 12442))) else (some false))) else (if a0 ≥ 12441 then (some (decide (a0 ≤ 12442))) else (some false))))) else (if a0 = 803 then (some true) else (if a0 ≥ 807 then (if a0 ≤ 808 then (some true) else (if a0 ≥ 12441 then (some (decide (a0 ≤ 12442))) else (some false))) else (if a0 ≥ 12441 then (some (decide (a0 ≤ 12442))) else (some false)))))) else (if a0 ≥ 778 then (if a0 ≤ 780 then (some true) else (if a0 = 803 then (some true) else (if a0 ≥ 807 then (if a0 ≤ 808 then (some true) else (if a0 ≥ 12441 then (some (decide (a0 ≤ 12442))) else (some false))) else (if a0 ≥ 12441 then (some (decide (a0 ≤ 12442))) else (some false))))) else (if a0 = 803 then (some true) else (if a0 ≥ 807 then (if a0 ≤ 808 then (some true) else (if a0 ≥ 12441 then (some (decide (a0 ≤ 12442))) else (some false))) else (if a0 ≥ 12441 then (some (decide (a0 ≤ 12442))) else (some false))))))) else (if a0 ≥ 774 then (if a0 ≤ 776 then (some true) else (if a0 ≥ 778 then (if a0 ≤ 780 then (some true) else (if a0 = 803 then (some true) else (if a0 ≥ 807 then (if a0 ≤ 808 then (some true) else (if a0 ≥ 12441 then (some (decide (a0 ≤ 12442))) else (some false))) else (if a0 ≥ 12441 then (some (decide (a0 ≤ 12442))) else (some false))))) else (if a0 = 803 then (some true) else (if a0 ≥ 807 then (if a0 ≤ 808 then (some true) else (if a0 ≥ 12441 then (some (decide (a0 ≤ 12442))) else (some false))) else (if a0 ≥ 12441 then (some (decide (a0 ≤ 12442))) else (some false)))))) else (if a0 ≥ 778 then (if a0 ≤ 780 then (some true) else (if a0 = 803 then (some true) else (if a0 ≥ 807 then (if a0 ≤ 808 then (some true) else (if a0 ≥ 12441 then (some (decide (a0 ≤ 12442))) else (some false))) else (if a0 ≥ 12441 then (some (decide (a0 ≤ 12442))) else (some false))))) else (if a0 = 803 then (some true) else (if a0 ≥ 807 then (if a0 ≤ 808 then (some true) else (if a0 ≥ 12441 then (some (decide (a0 ≤ 12442))) else (some false))) else (if a0 ≥ 12441 then (some (decide (a0 ≤ 12442))) else (some false))))))
set_option maxHeartbeats 8000000 in
set_option maxRecDepth 100000 in
theorem chars_mark.calls (a0 : Int) (r : Bool) (w : World) (h : chars_mark.f a0 = some r) :
  Calls Try.prog 77 #[.int .i32 a0] w fun e w' => e = .returned (.bool r) ∧ Drawn0 w w' := by
 have H := h
 clear h
 unfold chars_mark.f at H
 by_cases c2 : a0 ≥ 768
 ·rw [if_pos c2] at H
  have c2b0 : decide (768 ≤ a0) = true := decide_eq_true c2
  clear c2
  by_cases c3 : a0 ≤ 772
  ·rw [if_pos c3] at H
   have c3b0 : decide (a0 ≤ 772) = true := decide_eq_true c3
   clear c3
   obtain rfl := sI H
   go_enter Try.func77, Try.ntmps77
   go_wp2
   go_ret
   exact ⟨zP, zD⟩
  ·rw [if_neg c3] at H
   have c3b0 : decide (a0 ≤ 772) = false := decide_eq_false c3
   clear c3
   by_cases c4 : a0 ≥ 774
   ·rw [if_pos c4] at H
    have c4b0 : decide (774 ≤ a0) = true := decide_eq_true c4
    clear c4
    by_cases c5 : a0 ≤ 776
    ·rw [if_pos c5] at H
     have c5b0 : decide (a0 ≤ 776) = true := decide_eq_true c5
     clear c5
     obtain rfl := sI H
     go_enter Try.func77, Try.ntmps77
     go_wp2
     go_ret
     exact ⟨zP, zD⟩
    ·rw [if_neg c5] at H
     have c5b0 : decide (a0 ≤ 776) = false := decide_eq_false c5
     clear c5
     by_cases c6 : a0 ≥ 778
     ·rw [if_pos c6] at H
      have c6b0 : decide (778 ≤ a0) = true := decide_eq_true c6
      clear c6
      by_cases c7 : a0 ≤ 780
      ·rw [if_pos c7] at H
       have c7b0 : decide (a0 ≤ 780) = true := decide_eq_true c7
       clear c7
       obtain rfl := sI H
       go_enter Try.func77, Try.ntmps77
       go_wp2
       go_ret
       exact ⟨zP, zD⟩
      ·rw [if_neg c7] at H
       have c7b0 : decide (a0 ≤ 780) = false := decide_eq_false c7
       clear c7
       by_cases c8 : a0 = 803
       ·rw [if_pos c8] at H
        have c8b0 : (a0 == 803) = true := beq_iff_eq.mpr c8
        have c8b1 : (a0 != 803) = false := bne_eq_false_iff_eq.mpr c8
        clear c8
        obtain rfl := sI H
        go_enter Try.func77, Try.ntmps77
        go_wp2
        go_ret
        exact ⟨zP, zD⟩
       ·rw [if_neg c8] at H
        have c8b0 : (a0 == 803) = false := beq_eq_false_iff_ne.mpr c8
        have c8b1 : (a0 != 803) = true := bne_iff_ne.mpr c8
        by_cases c9 : a0 ≥ 807
        ·rw [if_pos c9] at H
         have c9b0 : decide (807 ≤ a0) = true := decide_eq_true c9
         clear c9
         by_cases c10 : a0 ≤ 808
         ·rw [if_pos c10] at H
          have c10b0 : decide (a0 ≤ 808) = true := decide_eq_true c10
          clear c10
          obtain rfl := sI H
          go_enter Try.func77, Try.ntmps77
          go_wp2
          go_ret
          exact ⟨zP, zD⟩
         ·rw [if_neg c10] at H
          have c10b0 : decide (a0 ≤ 808) = false := decide_eq_false c10
          clear c10
          by_cases c11 : a0 ≥ 12441
          ·rw [if_pos c11] at H
           have c11b0 : decide (12441 ≤ a0) = true := decide_eq_true c11
           clear c11
           obtain rfl := sI H
           go_enter Try.func77, Try.ntmps77
           go_wp2
           go_ret
           exact ⟨zP, zD⟩
          ·rw [if_neg c11] at H
           have c11b0 : decide (12441 ≤ a0) = false := decide_eq_false c11
           clear c11
           obtain rfl := sI H
           go_enter Try.func77, Try.ntmps77
           go_wp2
           go_ret
           exact ⟨zP, zD⟩
        ·rw [if_neg c9] at H
         have c9b0 : decide (807 ≤ a0) = false := decide_eq_false c9
         clear c9
         by_cases c12 : a0 ≥ 12441
         ·rw [if_pos c12] at H
          have c12b0 : decide (12441 ≤ a0) = true := decide_eq_true c12
          clear c12
          obtain rfl := sI H
          go_enter Try.func77, Try.ntmps77
          go_wp2
          go_ret
          exact ⟨zP, zD⟩
         ·rw [if_neg c12] at H
          have c12b0 : decide (12441 ≤ a0) = false := decide_eq_false c12
          clear c12
          obtain rfl := sI H
          go_enter Try.func77, Try.ntmps77
          go_wp2
          go_ret
          exact ⟨zP, zD⟩
     ·rw [if_neg c6] at H
      have c6b0 : decide (778 ≤ a0) = false := decide_eq_false c6
      clear c6
      by_cases c13 : a0 = 803
      ·rw [if_pos c13] at H
       have c13b0 : (a0 == 803) = true := beq_iff_eq.mpr c13
       have c13b1 : (a0 != 803) = false := bne_eq_false_iff_eq.mpr c13
       clear c13
       obtain rfl := sI H
       go_enter Try.func77, Try.ntmps77
       go_wp2
       go_ret
       exact ⟨zP, zD⟩
      ·rw [if_neg c13] at H
       have c13b0 : (a0 == 803) = false := beq_eq_false_iff_ne.mpr c13
       have c13b1 : (a0 != 803) = true := bne_iff_ne.mpr c13
       by_cases c14 : a0 ≥ 807
       ·rw [if_pos c14] at H
        have c14b0 : decide (807 ≤ a0) = true := decide_eq_true c14
        clear c14
        by_cases c15 : a0 ≤ 808
        ·rw [if_pos c15] at H
         have c15b0 : decide (a0 ≤ 808) = true := decide_eq_true c15
         clear c15
         obtain rfl := sI H
         go_enter Try.func77, Try.ntmps77
         go_wp2
         go_ret
         exact ⟨zP, zD⟩
        ·rw [if_neg c15] at H
         have c15b0 : decide (a0 ≤ 808) = false := decide_eq_false c15
         clear c15
         by_cases c16 : a0 ≥ 12441
         ·rw [if_pos c16] at H
          have c16b0 : decide (12441 ≤ a0) = true := decide_eq_true c16
          clear c16
          obtain rfl := sI H
          go_enter Try.func77, Try.ntmps77
          go_wp2
          go_ret
          exact ⟨zP, zD⟩
         ·rw [if_neg c16] at H
          have c16b0 : decide (12441 ≤ a0) = false := decide_eq_false c16
          clear c16
          obtain rfl := sI H
          go_enter Try.func77, Try.ntmps77
          go_wp2
          go_ret
          exact ⟨zP, zD⟩
       ·rw [if_neg c14] at H
        have c14b0 : decide (807 ≤ a0) = false := decide_eq_false c14
        clear c14
        by_cases c17 : a0 ≥ 12441
        ·rw [if_pos c17] at H
         have c17b0 : decide (12441 ≤ a0) = true := decide_eq_true c17
         clear c17
         obtain rfl := sI H
         go_enter Try.func77, Try.ntmps77
         go_wp2
         go_ret
         exact ⟨zP, zD⟩
        ·rw [if_neg c17] at H
         have c17b0 : decide (12441 ≤ a0) = false := decide_eq_false c17
         clear c17
         obtain rfl := sI H
         go_enter Try.func77, Try.ntmps77
         go_wp2
         go_ret
         exact ⟨zP, zD⟩
   ·rw [if_neg c4] at H
    have c4b0 : decide (774 ≤ a0) = false := decide_eq_false c4
    clear c4
    by_cases c18 : a0 ≥ 778
    ·rw [if_pos c18] at H
     have c18b0 : decide (778 ≤ a0) = true := decide_eq_true c18
     clear c18
     by_cases c19 : a0 ≤ 780
     ·rw [if_pos c19] at H
      have c19b0 : decide (a0 ≤ 780) = true := decide_eq_true c19
      clear c19
      obtain rfl := sI H
      go_enter Try.func77, Try.ntmps77
      go_wp2
      go_ret
      exact ⟨zP, zD⟩
     ·rw [if_neg c19] at H
      have c19b0 : decide (a0 ≤ 780) = false := decide_eq_false c19
      clear c19
      by_cases c20 : a0 = 803
      ·rw [if_pos c20] at H
       have c20b0 : (a0 == 803) = true := beq_iff_eq.mpr c20
       have c20b1 : (a0 != 803) = false := bne_eq_false_iff_eq.mpr c20
       clear c20
       obtain rfl := sI H
       go_enter Try.func77, Try.ntmps77
       go_wp2
       go_ret
       exact ⟨zP, zD⟩
      ·rw [if_neg c20] at H
       have c20b0 : (a0 == 803) = false := beq_eq_false_iff_ne.mpr c20
       have c20b1 : (a0 != 803) = true := bne_iff_ne.mpr c20
       by_cases c21 : a0 ≥ 807
       ·rw [if_pos c21] at H
        have c21b0 : decide (807 ≤ a0) = true := decide_eq_true c21
        clear c21
        by_cases c22 : a0 ≤ 808
        ·rw [if_pos c22] at H
         have c22b0 : decide (a0 ≤ 808) = true := decide_eq_true c22
         clear c22
         obtain rfl := sI H
         go_enter Try.func77, Try.ntmps77
         go_wp2
         go_ret
         exact ⟨zP, zD⟩
        ·rw [if_neg c22] at H
         have c22b0 : decide (a0 ≤ 808) = false := decide_eq_false c22
         clear c22
         by_cases c23 : a0 ≥ 12441
         ·rw [if_pos c23] at H
          have c23b0 : decide (12441 ≤ a0) = true := decide_eq_true c23
          clear c23
          obtain rfl := sI H
          go_enter Try.func77, Try.ntmps77
          go_wp2
          go_ret
          exact ⟨zP, zD⟩
         ·rw [if_neg c23] at H
          have c23b0 : decide (12441 ≤ a0) = false := decide_eq_false c23
          clear c23
          obtain rfl := sI H
          go_enter Try.func77, Try.ntmps77
          go_wp2
          go_ret
          exact ⟨zP, zD⟩
       ·rw [if_neg c21] at H
        have c21b0 : decide (807 ≤ a0) = false := decide_eq_false c21
        clear c21
        by_cases c24 : a0 ≥ 12441
        ·rw [if_pos c24] at H
         have c24b0 : decide (12441 ≤ a0) = true := decide_eq_true c24
         clear c24
         obtain rfl := sI H
         go_enter Try.func77, Try.ntmps77
         go_wp2
         go_ret
         exact ⟨zP, zD⟩
        ·rw [if_neg c24] at H
         have c24b0 : decide (12441 ≤ a0) = false := decide_eq_false c24
         clear c24
         obtain rfl := sI H
         go_enter Try.func77, Try.ntmps77
         go_wp2
         go_ret
         exact ⟨zP, zD⟩
    ·rw [if_neg c18] at H
     have c18b0 : decide (778 ≤ a0) = false := decide_eq_false c18
     clear c18
     by_cases c25 : a0 = 803
     ·rw [if_pos c25] at H
      have c25b0 : (a0 == 803) = true := beq_iff_eq.mpr c25
      have c25b1 : (a0 != 803) = false := bne_eq_false_iff_eq.mpr c25
      clear c25
      obtain rfl := sI H
      go_enter Try.func77, Try.ntmps77
      go_wp2
      go_ret
      exact ⟨zP, zD⟩
     ·rw [if_neg c25] at H
      have c25b0 : (a0 == 803) = false := beq_eq_false_iff_ne.mpr c25
      have c25b1 : (a0 != 803) = true := bne_iff_ne.mpr c25
      by_cases c26 : a0 ≥ 807
      ·rw [if_pos c26] at H
       have c26b0 : decide (807 ≤ a0) = true := decide_eq_true c26
       clear c26
       by_cases c27 : a0 ≤ 808
       ·rw [if_pos c27] at H
        have c27b0 : decide (a0 ≤ 808) = true := decide_eq_true c27
        clear c27
        obtain rfl := sI H
        go_enter Try.func77, Try.ntmps77
        go_wp2
        go_ret
        exact ⟨zP, zD⟩
       ·rw [if_neg c27] at H
        have c27b0 : decide (a0 ≤ 808) = false := decide_eq_false c27
        clear c27
        by_cases c28 : a0 ≥ 12441
        ·rw [if_pos c28] at H
         have c28b0 : decide (12441 ≤ a0) = true := decide_eq_true c28
         clear c28
         obtain rfl := sI H
         go_enter Try.func77, Try.ntmps77
         go_wp2
         go_ret
         exact ⟨zP, zD⟩
        ·rw [if_neg c28] at H
         have c28b0 : decide (12441 ≤ a0) = false := decide_eq_false c28
         clear c28
         obtain rfl := sI H
         go_enter Try.func77, Try.ntmps77
         go_wp2
         go_ret
         exact ⟨zP, zD⟩
      ·rw [if_neg c26] at H
       have c26b0 : decide (807 ≤ a0) = false := decide_eq_false c26
       clear c26
       by_cases c29 : a0 ≥ 12441
       ·rw [if_pos c29] at H
        have c29b0 : decide (12441 ≤ a0) = true := decide_eq_true c29
        clear c29
        obtain rfl := sI H
        go_enter Try.func77, Try.ntmps77
        go_wp2
        go_ret
        exact ⟨zP, zD⟩
       ·rw [if_neg c29] at H
        have c29b0 : decide (12441 ≤ a0) = false := decide_eq_false c29
        clear c29
        obtain rfl := sI H
        go_enter Try.func77, Try.ntmps77
        go_wp2
        go_ret
        exact ⟨zP, zD⟩
 ·rw [if_neg c2] at H
  have c2b0 : decide (768 ≤ a0) = false := decide_eq_false c2
  clear c2
  by_cases c30 : a0 ≥ 774
  ·rw [if_pos c30] at H
   have c30b0 : decide (774 ≤ a0) = true := decide_eq_true c30
   clear c30
   by_cases c31 : a0 ≤ 776
   ·rw [if_pos c31] at H
    have c31b0 : decide (a0 ≤ 776) = true := decide_eq_true c31
    clear c31
    obtain rfl := sI H
    go_enter Try.func77, Try.ntmps77
    go_wp2
    go_ret
    exact ⟨zP, zD⟩
   ·rw [if_neg c31] at H
    have c31b0 : decide (a0 ≤ 776) = false := decide_eq_false c31
    clear c31
    by_cases c32 : a0 ≥ 778
    ·rw [if_pos c32] at H
     have c32b0 : decide (778 ≤ a0) = true := decide_eq_true c32
     clear c32
     by_cases c33 : a0 ≤ 780
     ·rw [if_pos c33] at H
      have c33b0 : decide (a0 ≤ 780) = true := decide_eq_true c33
      clear c33
      obtain rfl := sI H
      go_enter Try.func77, Try.ntmps77
      go_wp2
      go_ret
      exact ⟨zP, zD⟩
     ·rw [if_neg c33] at H
      have c33b0 : decide (a0 ≤ 780) = false := decide_eq_false c33
      clear c33
      by_cases c34 : a0 = 803
      ·rw [if_pos c34] at H
       have c34b0 : (a0 == 803) = true := beq_iff_eq.mpr c34
       have c34b1 : (a0 != 803) = false := bne_eq_false_iff_eq.mpr c34
       clear c34
       obtain rfl := sI H
       go_enter Try.func77, Try.ntmps77
       go_wp2
       go_ret
       exact ⟨zP, zD⟩
      ·rw [if_neg c34] at H
       have c34b0 : (a0 == 803) = false := beq_eq_false_iff_ne.mpr c34
       have c34b1 : (a0 != 803) = true := bne_iff_ne.mpr c34
       by_cases c35 : a0 ≥ 807
       ·rw [if_pos c35] at H
        have c35b0 : decide (807 ≤ a0) = true := decide_eq_true c35
        clear c35
        by_cases c36 : a0 ≤ 808
        ·rw [if_pos c36] at H
         have c36b0 : decide (a0 ≤ 808) = true := decide_eq_true c36
         clear c36
         obtain rfl := sI H
         go_enter Try.func77, Try.ntmps77
         go_wp2
         go_ret
         exact ⟨zP, zD⟩
        ·rw [if_neg c36] at H
         have c36b0 : decide (a0 ≤ 808) = false := decide_eq_false c36
         clear c36
         by_cases c37 : a0 ≥ 12441
         ·rw [if_pos c37] at H
          have c37b0 : decide (12441 ≤ a0) = true := decide_eq_true c37
          clear c37
          obtain rfl := sI H
          go_enter Try.func77, Try.ntmps77
          go_wp2
          go_ret
          exact ⟨zP, zD⟩
         ·rw [if_neg c37] at H
          have c37b0 : decide (12441 ≤ a0) = false := decide_eq_false c37
          clear c37
          obtain rfl := sI H
          go_enter Try.func77, Try.ntmps77
          go_wp2
          go_ret
          exact ⟨zP, zD⟩
       ·rw [if_neg c35] at H
        have c35b0 : decide (807 ≤ a0) = false := decide_eq_false c35
        clear c35
        by_cases c38 : a0 ≥ 12441
        ·rw [if_pos c38] at H
         have c38b0 : decide (12441 ≤ a0) = true := decide_eq_true c38
         clear c38
         obtain rfl := sI H
         go_enter Try.func77, Try.ntmps77
         go_wp2
         go_ret
         exact ⟨zP, zD⟩
        ·rw [if_neg c38] at H
         have c38b0 : decide (12441 ≤ a0) = false := decide_eq_false c38
         clear c38
         obtain rfl := sI H
         go_enter Try.func77, Try.ntmps77
         go_wp2
         go_ret
         exact ⟨zP, zD⟩
    ·rw [if_neg c32] at H
     have c32b0 : decide (778 ≤ a0) = false := decide_eq_false c32
     clear c32
     by_cases c39 : a0 = 803
     ·rw [if_pos c39] at H
      have c39b0 : (a0 == 803) = true := beq_iff_eq.mpr c39
      have c39b1 : (a0 != 803) = false := bne_eq_false_iff_eq.mpr c39
      clear c39
      obtain rfl := sI H
      go_enter Try.func77, Try.ntmps77
      go_wp2
      go_ret
      exact ⟨zP, zD⟩
     ·rw [if_neg c39] at H
      have c39b0 : (a0 == 803) = false := beq_eq_false_iff_ne.mpr c39
      have c39b1 : (a0 != 803) = true := bne_iff_ne.mpr c39
      by_cases c40 : a0 ≥ 807
      ·rw [if_pos c40] at H
       have c40b0 : decide (807 ≤ a0) = true := decide_eq_true c40
       clear c40
       by_cases c41 : a0 ≤ 808
       ·rw [if_pos c41] at H
        have c41b0 : decide (a0 ≤ 808) = true := decide_eq_true c41
        clear c41
        obtain rfl := sI H
        go_enter Try.func77, Try.ntmps77
        go_wp2
        go_ret
        exact ⟨zP, zD⟩
       ·rw [if_neg c41] at H
        have c41b0 : decide (a0 ≤ 808) = false := decide_eq_false c41
        clear c41
        by_cases c42 : a0 ≥ 12441
        ·rw [if_pos c42] at H
         have c42b0 : decide (12441 ≤ a0) = true := decide_eq_true c42
         clear c42
         obtain rfl := sI H
         go_enter Try.func77, Try.ntmps77
         go_wp2
         go_ret
         exact ⟨zP, zD⟩
        ·rw [if_neg c42] at H
         have c42b0 : decide (12441 ≤ a0) = false := decide_eq_false c42
         clear c42
         obtain rfl := sI H
         go_enter Try.func77, Try.ntmps77
         go_wp2
         go_ret
         exact ⟨zP, zD⟩
      ·rw [if_neg c40] at H
       have c40b0 : decide (807 ≤ a0) = false := decide_eq_false c40
       clear c40
       by_cases c43 : a0 ≥ 12441
       ·rw [if_pos c43] at H
        have c43b0 : decide (12441 ≤ a0) = true := decide_eq_true c43
        clear c43
        obtain rfl := sI H
        go_enter Try.func77, Try.ntmps77
        go_wp2
        go_ret
        exact ⟨zP, zD⟩
       ·rw [if_neg c43] at H
        have c43b0 : decide (12441 ≤ a0) = false := decide_eq_false c43
        clear c43
        obtain rfl := sI H
        go_enter Try.func77, Try.ntmps77
        go_wp2
        go_ret
        exact ⟨zP, zD⟩
  ·rw [if_neg c30] at H
   have c30b0 : decide (774 ≤ a0) = false := decide_eq_false c30
   clear c30
   by_cases c44 : a0 ≥ 778
   ·rw [if_pos c44] at H
    have c44b0 : decide (778 ≤ a0) = true := decide_eq_true c44
    clear c44
    by_cases c45 : a0 ≤ 780
    ·rw [if_pos c45] at H
     have c45b0 : decide (a0 ≤ 780) = true := decide_eq_true c45
     clear c45
     obtain rfl := sI H
     go_enter Try.func77, Try.ntmps77
     go_wp2
     go_ret
     exact ⟨zP, zD⟩
    ·rw [if_neg c45] at H
     have c45b0 : decide (a0 ≤ 780) = false := decide_eq_false c45
     clear c45
     by_cases c46 : a0 = 803
     ·rw [if_pos c46] at H
      have c46b0 : (a0 == 803) = true := beq_iff_eq.mpr c46
      have c46b1 : (a0 != 803) = false := bne_eq_false_iff_eq.mpr c46
      clear c46
      obtain rfl := sI H
      go_enter Try.func77, Try.ntmps77
      go_wp2
      go_ret
      exact ⟨zP, zD⟩
     ·rw [if_neg c46] at H
      have c46b0 : (a0 == 803) = false := beq_eq_false_iff_ne.mpr c46
      have c46b1 : (a0 != 803) = true := bne_iff_ne.mpr c46
      by_cases c47 : a0 ≥ 807
      ·rw [if_pos c47] at H
       have c47b0 : decide (807 ≤ a0) = true := decide_eq_true c47
       clear c47
       by_cases c48 : a0 ≤ 808
       ·rw [if_pos c48] at H
        have c48b0 : decide (a0 ≤ 808) = true := decide_eq_true c48
        clear c48
        obtain rfl := sI H
        go_enter Try.func77, Try.ntmps77
        go_wp2
        go_ret
        exact ⟨zP, zD⟩
       ·rw [if_neg c48] at H
        have c48b0 : decide (a0 ≤ 808) = false := decide_eq_false c48
        clear c48
        by_cases c49 : a0 ≥ 12441
        ·rw [if_pos c49] at H
         have c49b0 : decide (12441 ≤ a0) = true := decide_eq_true c49
         clear c49
         obtain rfl := sI H
         go_enter Try.func77, Try.ntmps77
         go_wp2
         go_ret
         exact ⟨zP, zD⟩
        ·rw [if_neg c49] at H
         have c49b0 : decide (12441 ≤ a0) = false := decide_eq_false c49
         clear c49
         obtain rfl := sI H
         go_enter Try.func77, Try.ntmps77
         go_wp2
         go_ret
         exact ⟨zP, zD⟩
      ·rw [if_neg c47] at H
       have c47b0 : decide (807 ≤ a0) = false := decide_eq_false c47
       clear c47
       by_cases c50 : a0 ≥ 12441
       ·rw [if_pos c50] at H
        have c50b0 : decide (12441 ≤ a0) = true := decide_eq_true c50
        clear c50
        obtain rfl := sI H
        go_enter Try.func77, Try.ntmps77
        go_wp2
        go_ret
        exact ⟨zP, zD⟩
       ·rw [if_neg c50] at H
        have c50b0 : decide (12441 ≤ a0) = false := decide_eq_false c50
        clear c50
        obtain rfl := sI H
        go_enter Try.func77, Try.ntmps77
        go_wp2
        go_ret
        exact ⟨zP, zD⟩
   ·rw [if_neg c44] at H
    have c44b0 : decide (778 ≤ a0) = false := decide_eq_false c44
    clear c44
    by_cases c51 : a0 = 803
    ·rw [if_pos c51] at H
     have c51b0 : (a0 == 803) = true := beq_iff_eq.mpr c51
     have c51b1 : (a0 != 803) = false := bne_eq_false_iff_eq.mpr c51
     clear c51
     obtain rfl := sI H
     go_enter Try.func77, Try.ntmps77
     go_wp2
     go_ret
     exact ⟨zP, zD⟩
    ·rw [if_neg c51] at H
     have c51b0 : (a0 == 803) = false := beq_eq_false_iff_ne.mpr c51
     have c51b1 : (a0 != 803) = true := bne_iff_ne.mpr c51
     by_cases c52 : a0 ≥ 807
     ·rw [if_pos c52] at H
      have c52b0 : decide (807 ≤ a0) = true := decide_eq_true c52
      clear c52
      by_cases c53 : a0 ≤ 808
      ·rw [if_pos c53] at H
       have c53b0 : decide (a0 ≤ 808) = true := decide_eq_true c53
       clear c53
       obtain rfl := sI H
       go_enter Try.func77, Try.ntmps77
       go_wp2
       go_ret
       exact ⟨zP, zD⟩
      ·rw [if_neg c53] at H
       have c53b0 : decide (a0 ≤ 808) = false := decide_eq_false c53
       clear c53
       by_cases c54 : a0 ≥ 12441
       ·rw [if_pos c54] at H
        have c54b0 : decide (12441 ≤ a0) = true := decide_eq_true c54
        clear c54
        obtain rfl := sI H
        go_enter Try.func77, Try.ntmps77
        go_wp2
        go_ret
        exact ⟨zP, zD⟩
       ·rw [if_neg c54] at H
        have c54b0 : decide (12441 ≤ a0) = false := decide_eq_false c54
        clear c54
        obtain rfl := sI H
        go_enter Try.func77, Try.ntmps77
        go_wp2
        go_ret
        exact ⟨zP, zD⟩
     ·rw [if_neg c52] at H
      have c52b0 : decide (807 ≤ a0) = false := decide_eq_false c52
      clear c52
      by_cases c55 : a0 ≥ 12441
      ·rw [if_pos c55] at H
       have c55b0 : decide (12441 ≤ a0) = true := decide_eq_true c55
       clear c55
       obtain rfl := sI H
       go_enter Try.func77, Try.ntmps77
       go_wp2
       go_ret
       exact ⟨zP, zD⟩
      ·rw [if_neg c55] at H
       have c55b0 : decide (12441 ≤ a0) = false := decide_eq_false c55
       clear c55
       obtain rfl := sI H
       go_enter Try.func77, Try.ntmps77
       go_wp2
       go_ret
       exact ⟨zP, zD⟩

end Go.Proofs.Ytncppcjobimilaa.P
