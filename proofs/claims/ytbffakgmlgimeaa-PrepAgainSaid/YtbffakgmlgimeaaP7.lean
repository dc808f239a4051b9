-- Printed by wip/mk.py (this session's driver over the kit's print) and from wip/manual.
import Derived.Test.YtbffakgmlgimeaaP0
import Derived.Test.YtbffakgmlgimeaaP6
namespace Go.Proofs.Ytbffakgmlgimeaa.P
open Go.RowKit Go.Proofs.YtbffakgmlgimeaaW.PrintWords Go.Proofs.YtbffakgmlgimeaaW.PrintLast Go.Proofs.YtbffakgmlgimeaaW.PrintMore
attribute [local go_sem] max2_int min2_int max_two min_two max_three min_three max_four min_four   -- for this text's walks alone
set_option linter.unusedVariables false
set_option linter.unusedSimpArgs false

/-! ### decomp_Loose: function 62 -/
mutual
def decomp_Loose.j0 : Nat → Int → Bool → Option (List Int)
 | 0, _, _ => none
 | k + 1, x0, x3 => if x3 = true then ((decomp_latin.f k x0).bind fun t153 => ((decomp_list.f k t153).bind fun t154 => (some t154))) else (if x0 = 160 then (decomp_Loose.j1 k x0 true) else ((decomp_within.f x0 8194 8202).bind fun t157 => (if t157 = true then (decomp_Loose.j1 k x0 true) else (if x0 = 8239 then (decomp_Loose.j1 k x0 true) else (if x0 = 8287 then (decomp_Loose.j1 k x0 true) else (decomp_Loose.j1 k x0 (x0 == 12288)))))))
def decomp_Loose.j1 : Nat → Int → Bool → Option (List Int)
 | 0, _, _ => none
 | k + 1, x0, x14 => if x14 = true then (some (([32] : List Int))) else (if x0 = 8209 then (some (([8208] : List Int))) else (if x0 = 8304 then (decomp_Loose.j2 k x0 true) else ((decomp_within.f x0 8308 8313).bind fun t164 => (decomp_Loose.j2 k x0 t164))))
def decomp_Loose.j2 : Nat → Int → Bool → Option (List Int)
 | 0, _, _ => none
 | k + 1, x0, x38 => if x38 = true then (some (([wrap32 ((wrap32 (x0 - 8304)) + 48)] : List Int))) else ((decomp_within.f x0 8320 8329).bind fun t168 => (if t168 = true then (some (([wrap32 ((wrap32 (x0 - 8320)) + 48)] : List Int))) else ((decomp_within.f x0 8544 8555).bind fun t172 => (if t172 = true then ((decomp_numbers.f false).bind fun t173 => (if 0 ≤ (wrap32 (x0 - 8544)) then (if (wrap32 (x0 - 8544)) < (t173.length : Int) then ((decomp_list.f k (rdOf ByteArray.empty t173 (wrap32 (x0 - 8544)))).bind fun t177 => (some t177)) else (none)) else (none))) else ((decomp_within.f x0 8560 8571).bind fun t180 => (if t180 = true then ((decomp_numbers.f true).bind fun t181 => (if 0 ≤ (wrap32 (x0 - 8560)) then (if (wrap32 (x0 - 8560)) < (t181.length : Int) then ((decomp_list.f k (rdOf ByteArray.empty t181 (wrap32 (x0 - 8560)))).bind fun t185 => (some t185)) else (none)) else (none))) else ((decomp_within.f x0 64256 64261).bind fun t188 => (if t188 = true then ((some (([(⟨#[102, 102]⟩ : ByteArray), (⟨#[102, 105]⟩ : ByteArray), (⟨#[102, 108]⟩ : ByteArray), (⟨#[102, 102, 105]⟩ : ByteArray), (⟨#[102, 102, 108]⟩ : ByteArray), (⟨#[197, 191, 116]⟩ : ByteArray)] : List ByteArray) : List ByteArray)).bind fun y189 => (if 0 ≤ (wrap32 (x0 - 64256)) then (if (wrap32 (x0 - 64256)) < (y189.length : Int) then ((decomp_list.f k (rdOf ByteArray.empty y189 (wrap32 (x0 - 64256)))).bind fun t193 => (some t193)) else (none)) else (none))) else ((decomp_within.f x0 65281 65374).bind fun t196 => (if t196 = true then (some (([wrap32 ((wrap32 (x0 - 65281)) + 33)] : List Int))) else (some ([] : List Int))))))))))))
end
def decomp_Loose.f (k : Nat) (a0 : Int) : Option (List Int) := if a0 < 384 then ((decomp_latin.f k a0).bind fun t152 => (decomp_Loose.j0 k a0 (t152.toList != ([] : List UInt8)))) else (decomp_Loose.j0 k a0 false)
theorem decomp_Loose.mono_l : ∀ k, (∀ y0 y1, LeO (decomp_Loose.j0 k y0 y1) (decomp_Loose.j0 (k + 1) y0 y1)) ∧ (∀ y0 y1, LeO (decomp_Loose.j1 k y0 y1) (decomp_Loose.j1 (k + 1) y0 y1)) ∧ (∀ y0 y1, LeO (decomp_Loose.j2 k y0 y1) (decomp_Loose.j2 (k + 1) y0 y1))
 | 0 => ⟨fun _ _ r h => by simp [decomp_Loose.j0] at h, fun _ _ r h => by simp [decomp_Loose.j1] at h, fun _ _ r h => by simp [decomp_Loose.j2] at h⟩
 | k + 1 => by
  obtain ⟨ih0, ih1, ih2⟩ := decomp_Loose.mono_l k
  refine ⟨?_, ?_, ?_⟩
  ·intro y0 y1
   unfold decomp_Loose.j0
   repeat' first
   | (with_reducible exact ih0 _ _)
   | (with_reducible exact ih1 _ _)
   | (with_reducible exact ih2 _ _)
   | (with_reducible exact decomp_latin.mono _ _)
   | (with_reducible exact decomp_list.mono _ _)
   | (with_reducible exact LeO.refl _)
   | exact ih0 _ _
   | exact ih1 _ _
   | exact ih2 _ _
   | exact decomp_latin.mono _ _
   | exact decomp_list.mono _ _
   | exact LeO.none _
   | refine LeO.ite ?_ ?_
   | refine LeO.bind ?_ (fun _ => ?_)
  ·intro y0 y1
   unfold decomp_Loose.j1
   repeat' first
   | (with_reducible exact ih0 _ _)
   | (with_reducible exact ih1 _ _)
   | (with_reducible exact ih2 _ _)
   | (with_reducible exact decomp_latin.mono _ _)
   | (with_reducible exact decomp_list.mono _ _)
   | (with_reducible exact LeO.refl _)
   | exact ih0 _ _
   | exact ih1 _ _
   | exact ih2 _ _
   | exact decomp_latin.mono _ _
   | exact decomp_list.mono _ _
   | exact LeO.none _
   | refine LeO.ite ?_ ?_
   | refine LeO.bind ?_ (fun _ => ?_)
  ·intro y0 y1
   unfold decomp_Loose.j2
   repeat' first
   | (with_reducible exact ih0 _ _)
   | (with_reducible exact ih1 _ _)
   | (with_reducible exact ih2 _ _)
   | (with_reducible exact decomp_latin.mono _ _)
   | (with_reducible exact decomp_list.mono _ _)
   | (with_reducible exact LeO.refl _)
   | exact ih0 _ _
   | exact ih1 _ _
   | exact ih2 _ _
   | exact decomp_latin.mono _ _
   | exact decomp_list.mono _ _
   | exact LeO.none _
   | refine LeO.ite ?_ ?_
   | refine LeO.bind ?_ (fun _ => ?_)
theorem decomp_Loose.mono : ∀ a0 k, LeO (decomp_Loose.f k a0) (decomp_Loose.f (k + 1) a0) := by
 intro a0 k
 obtain ⟨ih0, ih1, ih2⟩ := decomp_Loose.mono_l k
 unfold decomp_Loose.f
 repeat' first
   | (with_reducible exact ih0 _ _)
   | (with_reducible exact ih1 _ _)
   | (with_reducible exact ih2 _ _)
   | (with_reducible exact decomp_latin.mono _ _)
   | (with_reducible exact decomp_list.mono _ _)
   | (with_reducible exact LeO.refl _)
   | exact ih0 _ _
   | exact ih1 _ _
   | exact ih2 _ _
   | exact decomp_latin.mono _ _
   | exact decomp_list.mono _ _
   | exact LeO.none _
   | refine LeO.ite ?_ ?_
   | refine LeO.bind ?_ (fun _ => ?_)
set_option maxHeartbeats 8000000 in
set_option maxRecDepth 100000 in
theorem decomp_Loose.calls (k : Nat) (a0 : Int) (r : List Int) (w : World) (h : decomp_Loose.f k a0 = some r) :
  Calls Try.prog 62 #[.int .i32 a0] w fun e w' => ∃ v0_ : Value, e = .returned (v0_) ∧ Kd.R (Kd.int .i32) 21 w' w.heap.size (fun _ => True) v0_ r ∧ Below w.heap.size w w' := by
 have HB := aM (Below.refl w.heap.size w)
 have H := h
 clear h
 unfold decomp_Loose.f at H
 have HC2 := aM H
 clear H
 go_enter Try.func62, Try.ntmps62
 go_upto_region 1 with (fail)
 go_cut [3] (fun v3 wc => ∃ (kq : Nat) (x3_1 : Bool), v3 = .bool x3_1 ∧ Aside0 (decomp_Loose.j0 kq a0 x3_1 = some r) ∧ Aside0 (kq ≤ k) ∧ Aside0 (Below w.heap.size w wc))
 case first =>
  have H := HC2.out
  clear HC2
  by_cases c3 : a0 < 384
  ·rw [if_pos c3] at H
   have c3b0 : decide (a0 < 384) = true := decide_eq_true c3
   clear c3
   (first | rw [c3b0] | (simp only [i64_w, i32_w]; rw [c3b0]) | skip)
   obtain ⟨t152, A4, H⟩ := zO H
   have H' := aM H
   clear H
   go_wp2_with (first | (go_at_call 74; (with_reducible refine (decomp_latin.calls k a0 t152 _ A4.out).mono ?_); rintro e w5 ⟨rfl, hb⟩; (try clear A4); replace HB := aM (below_step zB hb); (try clear hb)))
   go_meet
   case rel => exact ⟨_, ((t152.toList != ([] : List UInt8))), (by first | rfl | (simp; done) | (simp [*]; done) | (cases t152.toList <;> rfl)), H', ⟨by first | omega | exact Nat.le_refl _⟩, ⟨zB⟩⟩
  ·rw [if_neg c3] at H
   have c3b0 : decide (a0 < 384) = false := decide_eq_false c3
   clear c3
   (first | rw [c3b0] | (simp only [i64_w, i32_w]; rw [c3b0]) | skip)
   have H' := aM H
   clear H
   go_wp2
   go_meet
   case rel => exact ⟨_, (false), zP, H', ⟨by first | omega | exact Nat.le_refl _⟩, ⟨zB⟩⟩
 case rest =>
  clear HC2
  try clear p2
  try clear c3
  try clear c3b0
  obtain ⟨kq, x3_1, rfl, HA, HJ1, HB⟩ := hcut
  cases kq with
  | zero => exact absurd HA.out (by simp [decomp_Loose.j0])
  | succ kj1 =>
   have H := HA.out
   clear HA
   simp only [decomp_Loose.j0] at H
   by_cases c6 : x3_1 = true
   ·subst c6
    rw [if_pos rfl] at H
    obtain ⟨t153, A7, H⟩ := zO H
    obtain ⟨t154, A8, H⟩ := zO H
    obtain rfl := sI H
    go_wp2_with (first | ((with_reducible refine gate_callee (f := 74) rfl ?_); refine goesL_ (some 12) rfl rfl Try.func74 zK rfl #[.int .i32 a0] rfl zM ?_; (with_reducible refine (decomp_latin.calls kj1 a0 t153 _ A7.out).mono ?_); rintro e w9 ⟨rfl, hb⟩; (try clear A7); refine ⟨_, rfl, ?_⟩; replace HB := aM (below_step zB hb); (try clear hb)) | ((with_reducible refine gate_callee (f := 75) rfl ?_); refine goesL_ (some 13) rfl rfl Try.func75 zK rfl #[.string t153] rfl zM ?_; (with_reducible refine (decomp_list.calls kj1 t153 t154 _ A8.out).mono ?_); rintro e w10 ⟨v155, rfl, ho0, hb⟩; (try clear A8); refine ⟨_, rfl, ?_⟩; have n_ := zI (aM (Kd.R_lower ho0 (below_size zB))) (aM (below_step zB hb)); clear HB; obtain ⟨HO156, HB⟩ := n_; (try clear hb); (try clear ho0)))
    go_ret
    exact ⟨_, zE, zR HO156, zB⟩
   ·replace c6 := Bool.eq_false_iff.mpr c6
    subst c6
    rw [if_neg (show ¬ (false = true) by decide)] at H
    have HC11 := aM H
    clear H
    go_upto_region 3 with (fail)
    go_cut [14] (fun v14 wc => ∃ (kq : Nat) (x14_10 : Bool), v14 = .bool x14_10 ∧ Aside0 (decomp_Loose.j1 kq a0 x14_10 = some r) ∧ Aside0 (kq ≤ kj1) ∧ Aside0 (Below w.heap.size w wc))
    case first =>
     have H := HC11.out
     clear HC11
     by_cases c12 : a0 = 160
     ·rw [if_pos c12] at H
      have c12b0 : (a0 == 160) = true := beq_iff_eq.mpr c12
      have c12b1 : (a0 != 160) = false := bne_eq_false_iff_eq.mpr c12
      clear c12
      (first | rw [c12b0] | (simp only [i64_w, i32_w]; rw [c12b0]) | skip)
      have H' := aM H
      clear H
      go_wp2
      go_meet
      case rel => exact ⟨_, (true), zP, H', ⟨by have := HJ1.out; first | omega | exact Nat.le_refl _⟩, ⟨zB⟩⟩
     ·rw [if_neg c12] at H
      have c12b0 : (a0 == 160) = false := beq_eq_false_iff_ne.mpr c12
      have c12b1 : (a0 != 160) = true := bne_iff_ne.mpr c12
      (first | rw [c12b0] | (simp only [i64_w, i32_w]; rw [c12b0]) | skip)
      obtain ⟨t157, A13, H⟩ := zO H
      by_cases c14 : t157 = true
      ·subst c14
       rw [if_pos rfl] at H
       have H' := aM H
       clear H
       go_wp2_with (first | (go_at_call 76; (with_reducible refine (decomp_within.calls a0 8194 8202 true _ A13.out).mono ?_); rintro e w' ⟨rfl, ⟨nd, rfl⟩⟩; (try clear A13)))
       go_meet
       case rel => exact ⟨_, (true), zP, H', ⟨by have := HJ1.out; first | omega | exact Nat.le_refl _⟩, ⟨zB⟩⟩
      ·replace c14 := Bool.eq_false_iff.mpr c14
       subst c14
       rw [if_neg (show ¬ (false = true) by decide)] at H
       by_cases c15 : a0 = 8239
       ·rw [if_pos c15] at H
        have c15b0 : (a0 == 8239) = true := beq_iff_eq.mpr c15
        have c15b1 : (a0 != 8239) = false := bne_eq_false_iff_eq.mpr c15
        clear c15
        have H' := aM H
        clear H
        go_wp2_with (first | (go_at_call 76; (with_reducible refine (decomp_within.calls a0 8194 8202 false _ A13.out).mono ?_); rintro e w' ⟨rfl, ⟨nd, rfl⟩⟩; (try clear A13)))
        go_meet
        case rel => exact ⟨_, (true), zP, H', ⟨by have := HJ1.out; first | omega | exact Nat.le_refl _⟩, ⟨zB⟩⟩
       ·rw [if_neg c15] at H
        have c15b0 : (a0 == 8239) = false := beq_eq_false_iff_ne.mpr c15
        have c15b1 : (a0 != 8239) = true := bne_iff_ne.mpr c15
        by_cases c16 : a0 = 8287
        ·rw [if_pos c16] at H
         have c16b0 : (a0 == 8287) = true := beq_iff_eq.mpr c16
         have c16b1 : (a0 != 8287) = false := bne_eq_false_iff_eq.mpr c16
         clear c16
         have H' := aM H
         clear H
         go_wp2_with (first | (go_at_call 76; (with_reducible refine (decomp_within.calls a0 8194 8202 false _ A13.out).mono ?_); rintro e w' ⟨rfl, ⟨nd, rfl⟩⟩; (try clear A13)))
         go_meet
         case rel => exact ⟨_, (true), zP, H', ⟨by have := HJ1.out; first | omega | exact Nat.le_refl _⟩, ⟨zB⟩⟩
        ·rw [if_neg c16] at H
         have c16b0 : (a0 == 8287) = false := beq_eq_false_iff_ne.mpr c16
         have c16b1 : (a0 != 8287) = true := bne_iff_ne.mpr c16
         have H' := aM H
         clear H
         go_wp2_with (first | (go_at_call 76; (with_reducible refine (decomp_within.calls a0 8194 8202 false _ A13.out).mono ?_); rintro e w' ⟨rfl, ⟨nd, rfl⟩⟩; (try clear A13)))
         go_meet
         case rel => exact ⟨_, ((a0 == 12288)), zP, H', ⟨by have := HJ1.out; first | omega | exact Nat.le_refl _⟩, ⟨zB⟩⟩
    case rest =>
     clear HC11
     try clear c1
     try clear p2
     try clear c3
     try clear c3b0
     try clear c6
     try clear c7
     try clear c12
     try clear c12b0
     try clear c12b1
     try clear c14
     try clear c15
     try clear c15b0
     try clear c15b1
     try clear c16
     try clear c16b0
     try clear c16b1
     try clear p2
     obtain ⟨kq, x14_10, rfl, HA, HJ10, HB⟩ := hcut
     cases kq with
     | zero => exact absurd HA.out (by simp [decomp_Loose.j1])
     | succ kj10 =>
      have H := HA.out
      clear HA
      simp only [decomp_Loose.j1] at H
      by_cases c17 : x14_10 = true
      ·subst c17
       rw [if_pos rfl] at H
       obtain ⟨y158, hy158⟩ : ∃ y_ : List Int, y_ = (([32] : List Int)) := ⟨_, rfl⟩
       replace H : (some y158) = some r := zY hy158 H
       have Ny158 := aM hy158
       clear hy158
       obtain rfl := sI H
       go_wp2_with (first | ((with_reducible refine gate_dst (N := 33) rfl ?_); refine Kd.R_lit (Kd.int .i32) _ 21 ?hg (N := 33) ?hd (xs := ([32] : List Int)) (inner := [.int .i32 32]) (ok := fun _ => True) (okp := fun _ => True) ?hr ?hp (fun _ hk => hk) trivial (Below.refl _ _) (Nat.le_refl _) (by simp) ?_; (case hd => rfl); (case hg => rfl); (case hr => first | (go_simp; done) | (go_simp; rfl)); (case hp => exact (Reps.one (show Kd.M (Kd.int .i32) _ _ _ 32 [.int .i32 32] from rfl) (Reps.none _ _))); intro v159 w18 ho19 hb hg_ hnew_; clear hg_ hnew_; (first | rw [← Ny158.out] at ho19 | (simp only [Int.reduceToNat] at ho19; rw [← Ny158.out] at ho19)); have n_ := zI (aM (Kd.R_lower ho19 (below_size zB))) (aM (below_step zB hb)); clear HB; obtain ⟨HO160, HB⟩ := n_; clear hb ho19))
       go_ret
       exact ⟨_, zE, zR HO160, zB⟩
      ·replace c17 := Bool.eq_false_iff.mpr c17
       subst c17
       rw [if_neg (show ¬ (false = true) by decide)] at H
       by_cases c20 : a0 = 8209
       ·rw [if_pos c20] at H
        have c20b0 : (a0 == 8209) = true := beq_iff_eq.mpr c20
        have c20b1 : (a0 != 8209) = false := bne_eq_false_iff_eq.mpr c20
        clear c20
        obtain ⟨y161, hy161⟩ : ∃ y_ : List Int, y_ = (([8208] : List Int)) := ⟨_, rfl⟩
        replace H : (some y161) = some r := zY hy161 H
        have Ny161 := aM hy161
        clear hy161
        obtain rfl := sI H
        go_wp2_with (first | ((with_reducible refine gate_dst (N := 37) rfl ?_); refine Kd.R_lit (Kd.int .i32) _ 21 ?hg (N := 37) ?hd (xs := ([8208] : List Int)) (inner := [.int .i32 8208]) (ok := fun _ => True) (okp := fun _ => True) ?hr ?hp (fun _ hk => hk) trivial (Below.refl _ _) (Nat.le_refl _) (by simp) ?_; (case hd => rfl); (case hg => rfl); (case hr => first | (go_simp; done) | (go_simp; rfl)); (case hp => exact (Reps.one (show Kd.M (Kd.int .i32) _ _ _ 8208 [.int .i32 8208] from rfl) (Reps.none _ _))); intro v162 w21 ho22 hb hg_ hnew_; clear hg_ hnew_; (first | rw [← Ny161.out] at ho22 | (simp only [Int.reduceToNat] at ho22; rw [← Ny161.out] at ho22)); have n_ := zI (aM (Kd.R_lower ho22 (below_size zB))) (aM (below_step zB hb)); clear HB; obtain ⟨HO163, HB⟩ := n_; clear hb ho22))
        go_ret
        exact ⟨_, zE, zR HO163, zB⟩
       ·rw [if_neg c20] at H
        have c20b0 : (a0 == 8209) = false := beq_eq_false_iff_ne.mpr c20
        have c20b1 : (a0 != 8209) = true := bne_iff_ne.mpr c20
        have HC23 := aM H
        clear H
        go_upto_region 7 with (fail)
        go_cut [38] (fun v38 wc => ∃ (kq : Nat) (x38_22 : Bool), v38 = .bool x38_22 ∧ Aside0 (decomp_Loose.j2 kq a0 x38_22 = some r) ∧ Aside0 (kq ≤ kj10) ∧ Aside0 (Below w.heap.size w wc))
        case first =>
         have H := HC23.out
         clear HC23
         by_cases c24 : a0 = 8304
         ·rw [if_pos c24] at H
          have c24b0 : (a0 == 8304) = true := beq_iff_eq.mpr c24
          have c24b1 : (a0 != 8304) = false := bne_eq_false_iff_eq.mpr c24
          clear c24
          (first | rw [c24b0] | (simp only [i64_w, i32_w]; rw [c24b0]) | skip)
          have H' := aM H
          clear H
          go_wp2
          go_meet
          case rel => exact ⟨_, (true), zP, H', ⟨by have := HJ1.out; have := HJ10.out; first | omega | exact Nat.le_refl _⟩, ⟨zB⟩⟩
         ·rw [if_neg c24] at H
          have c24b0 : (a0 == 8304) = false := beq_eq_false_iff_ne.mpr c24
          have c24b1 : (a0 != 8304) = true := bne_iff_ne.mpr c24
          (first | rw [c24b0] | (simp only [i64_w, i32_w]; rw [c24b0]) | skip)
          obtain ⟨t164, A25, H⟩ := zO H
          have H' := aM H
          clear H
          go_wp2_with (first | (go_at_call 76; (with_reducible refine (decomp_within.calls a0 8308 8313 t164 _ A25.out).mono ?_); rintro e w' ⟨rfl, ⟨nd, rfl⟩⟩; (try clear A25)))
          go_meet
          case rel => exact ⟨_, (t164), zP, H', ⟨by have := HJ1.out; have := HJ10.out; first | omega | exact Nat.le_refl _⟩, ⟨zB⟩⟩
        case rest =>
         clear HC23
         try clear c1
         try clear c2
         try clear p2
         try clear c3
         try clear c3b0
         try clear c6
         try clear c7
         try clear c12
         try clear c12b0
         try clear c12b1
         try clear c14
         try clear c15
         try clear c15b0
         try clear c15b1
         try clear c16
         try clear c16b0
         try clear c16b1
         try clear c17
         try clear c20
         try clear c20b0
         try clear c20b1
         try clear c24
         try clear c24b0
         try clear c24b1
         try clear p2
         obtain ⟨kq, x38_22, rfl, HA, HJ22, HB⟩ := hcut
         cases kq with
         | zero => exact absurd HA.out (by simp [decomp_Loose.j2])
         | succ kj22 =>
          have H := HA.out
          clear HA
          simp only [decomp_Loose.j2] at H
          by_cases c26 : x38_22 = true
          ·subst c26
           rw [if_pos rfl] at H
           obtain ⟨y165, hy165⟩ : ∃ y_ : List Int, y_ = (([wrap32 ((wrap32 (a0 - 8304)) + 48)] : List Int)) := ⟨_, rfl⟩
           replace H : (some y165) = some r := zY hy165 H
           have Ny165 := aM hy165
           clear hy165
           obtain rfl := sI H
           go_wp2_with (first | ((with_reducible refine gate_dst (N := 48) rfl ?_); refine Kd.R_lit (Kd.int .i32) _ 21 ?hg (N := 48) ?hd (xs := ([wrap32 ((wrap32 (a0 - 8304)) + 48)] : List Int)) (inner := [.int .i32 (wrap32 ((wrap32 (a0 - 8304)) + 48))]) (ok := fun _ => True) (okp := fun _ => True) ?hr ?hp (fun _ hk => hk) trivial (Below.refl _ _) (Nat.le_refl _) (by simp) ?_; (case hd => rfl); (case hg => rfl); (case hr => first | (go_simp; done) | (go_simp; rfl)); (case hp => exact (Reps.one (show Kd.M (Kd.int .i32) _ _ _ (wrap32 ((wrap32 (a0 - 8304)) + 48)) [.int .i32 (wrap32 ((wrap32 (a0 - 8304)) + 48))] from rfl) (Reps.none _ _))); intro v166 w27 ho28 hb hg_ hnew_; clear hg_ hnew_; (first | rw [← Ny165.out] at ho28 | (simp only [Int.reduceToNat] at ho28; rw [← Ny165.out] at ho28)); have n_ := zI (aM (Kd.R_lower ho28 (below_size zB))) (aM (below_step zB hb)); clear HB; obtain ⟨HO167, HB⟩ := n_; clear hb ho28))
           go_ret
           exact ⟨_, zE, zR HO167, zB⟩
          ·replace c26 := Bool.eq_false_iff.mpr c26
           subst c26
           rw [if_neg (show ¬ (false = true) by decide)] at H
           obtain ⟨t168, A29, H⟩ := zO H
           by_cases c30 : t168 = true
           ·subst c30
            rw [if_pos rfl] at H
            obtain ⟨y169, hy169⟩ : ∃ y_ : List Int, y_ = (([wrap32 ((wrap32 (a0 - 8320)) + 48)] : List Int)) := ⟨_, rfl⟩
            replace H : (some y169) = some r := zY hy169 H
            have Ny169 := aM hy169
            clear hy169
            obtain rfl := sI H
            go_wp2_with (first | ((with_reducible refine gate_callee (f := 76) rfl ?_); refine goesL_ (some 51) rfl rfl Try.func76 zK rfl #[.int .i32 a0, .int .i32 8320, .int .i32 8329] rfl zM ?_; (with_reducible refine (decomp_within.calls a0 8320 8329 true _ A29.out).mono ?_); rintro e w' ⟨rfl, ⟨nd, rfl⟩⟩; (try clear A29); refine ⟨_, rfl, ?_⟩) | ((with_reducible refine gate_dst (N := 55) rfl ?_); refine Kd.R_lit (Kd.int .i32) _ 21 ?hg (N := 55) ?hd (xs := ([wrap32 ((wrap32 (a0 - 8320)) + 48)] : List Int)) (inner := [.int .i32 (wrap32 ((wrap32 (a0 - 8320)) + 48))]) (ok := fun _ => True) (okp := fun _ => True) ?hr ?hp (fun _ hk => hk) trivial (Below.refl _ _) (Nat.le_refl _) (by simp) ?_; (case hd => rfl); (case hg => rfl); (case hr => first | (go_simp; done) | (go_simp; rfl)); (case hp => exact (Reps.one (show Kd.M (Kd.int .i32) _ _ _ (wrap32 ((wrap32 (a0 - 8320)) + 48)) [.int .i32 (wrap32 ((wrap32 (a0 - 8320)) + 48))] from rfl) (Reps.none _ _))); intro v170 w31 ho32 hb hg_ hnew_; clear hg_ hnew_; (first | rw [← Ny169.out] at ho32 | (simp only [Int.reduceToNat] at ho32; rw [← Ny169.out] at ho32)); have n_ := zI (aM (Kd.R_lower ho32 (below_size zB))) (aM (below_step zB hb)); clear HB; obtain ⟨HO171, HB⟩ := n_; clear hb ho32))
            go_ret
            exact ⟨_, zE, zR HO171, zB⟩
           ·replace c30 := Bool.eq_false_iff.mpr c30
            subst c30
            rw [if_neg (show ¬ (false = true) by decide)] at H
            obtain ⟨t172, A33, H⟩ := zO H
            by_cases c34 : t172 = true
            ·subst c34
             rw [if_pos rfl] at H
             obtain ⟨t173, A35, H⟩ := zO H
             obtain ⟨ji36, hji36⟩ : ∃ j_ : Int, (wrap32 (a0 - 8544)) = j_ := ⟨_, rfl⟩
             replace H : (if 0 ≤ (ji36) then (if (ji36) < (t173.length : Int) then ((decomp_list.f kj22 (rdOf ByteArray.empty t173 (ji36))).bind fun t177 => (some t177)) else (none)) else (none)) = some r := by first | (rw [hji36] at H; exact H) | (simp only [hji36] at H ⊢; exact H)
             (try rw [hji36] at A29)
             (try rw [hji36] at A33)
             (try rw [hji36] at A35)
             have hji36w : (IntKind.i32.wrap (a0 - 8544)) = ji36 := (i32_w _).trans hji36
             by_cases c37 : 0 ≤ (ji36)
             ·rw [if_pos c37] at H
              have c37b0 : decide (0 ≤ (ji36)) = true := decide_eq_true c37
              clear c37
              by_cases c38 : (ji36) < (t173.length : Int)
              ·rw [if_pos c38] at H
               have c38b0 : decide ((ji36) < (t173.length : Int)) = true := decide_eq_true c38
               clear c38
               obtain ⟨t177, A39, H⟩ := zO H
               obtain rfl := sI H
               go_wp2_with (first | ((with_reducible refine gate_callee (f := 76) rfl ?_); refine goesL_ (some 51) rfl rfl Try.func76 zK rfl #[.int .i32 a0, .int .i32 8320, .int .i32 8329] rfl zM ?_; (with_reducible refine (decomp_within.calls a0 8320 8329 false _ A29.out).mono ?_); rintro e w' ⟨rfl, ⟨nd, rfl⟩⟩; (try clear A29); refine ⟨_, rfl, ?_⟩) | ((with_reducible refine gate_callee (f := 76) rfl ?_); refine goesL_ (some 58) rfl rfl Try.func76 zK rfl #[.int .i32 a0, .int .i32 8544, .int .i32 8555] rfl zM ?_; (with_reducible refine (decomp_within.calls a0 8544 8555 true _ A33.out).mono ?_); rintro e w' ⟨rfl, ⟨nd, rfl⟩⟩; (try clear A33); refine ⟨_, rfl, ?_⟩) | ((with_reducible refine gate_callee (f := 77) rfl ?_); refine goesL_ (some 59) rfl rfl Try.func77 zK rfl #[.bool false] rfl zM ?_; (with_reducible refine (decomp_numbers.calls false t173 _ A35.out).mono ?_); rintro e w40 ⟨v174, rfl, ho0, hb⟩; (try clear A35); refine ⟨_, rfl, ?_⟩; have n_ := zI (aM (Kd.R_lower ho0 (below_size zB))) (aM (below_step zB hb)); clear HB; obtain ⟨HO175, HB⟩ := n_; (try clear hb); (try clear ho0); obtain ⟨Ao41, co41, rfl⟩ := Kd.R_slice HO175.out; have p176 : 0 ≤ ((ji36) : Int) := zoA; have q176 : (ji36) < (t173.length : Int) := zoA; obtain ⟨ad176, e176, hx176_0⟩ := Kd.at_string (Kd.R_reads' HO175.out).2.2 (ji36) p176 q176; cases e176; replace p176 := eq_true p176; replace q176 := eq_true q176) | ((with_reducible refine gate_callee (f := 75) rfl ?_); refine goesL_ (some 64) rfl rfl Try.func75 zK rfl #[.string (rdOf ByteArray.empty t173 (ji36))] rfl (by (try simp only [List.map_toArray, List.map_cons, List.map_nil]); first | done | (simp only [hji36]; rfl) | rfl | (simp only [List.length_drop, List.length_take]; rfl)) ?_; (with_reducible refine (decomp_list.calls kj22 (rdOf ByteArray.empty t173 (ji36)) t177 _ A39.out).mono ?_); rintro e w42 ⟨v178, rfl, ho0, hb⟩; (try clear A39); refine ⟨_, rfl, ?_⟩; have n_ := zI (aM (Kd.R_below (zR HO175) hb)) (zI (aM (Kd.R_lower ho0 (below_size zB))) (aM (below_step zB hb))); clear HO175 HB; obtain ⟨HO175, HO179, HB⟩ := n_; (try clear hb); (try clear ho0)))
               go_ret
               exact ⟨_, by first | rfl | (simp [errW_none, errW_some] <;> rfl) | (simp only [← hji36]; first | rfl | (simp [errW_none, errW_some] <;> rfl)) | (simp [*, errW_none, errW_some] <;> rfl), zR HO179, zB⟩
              ·rw [if_neg c38] at H
               exact absurd H (by simp)
             ·rw [if_neg c37] at H
              exact absurd H (by simp)
            ·replace c34 := Bool.eq_false_iff.mpr c34
             subst c34
             rw [if_neg (show ¬ (false = true) by decide)] at H
             obtain ⟨t180, A43, H⟩ := zO H
             by_cases c44 : t180 = true
             ·subst c44
              rw [if_pos rfl] at H
              obtain ⟨t181, A45, H⟩ := zO H
              obtain ⟨ji46, hji46⟩ : ∃ j_ : Int, (wrap32 (a0 - 8560)) = j_ := ⟨_, rfl⟩
              replace H : (if 0 ≤ (ji46) then (if (ji46) < (t181.length : Int) then ((decomp_list.f kj22 (rdOf ByteArray.empty t181 (ji46))).bind fun t185 => (some t185)) else (none)) else (none)) = some r := by first | (rw [hji46] at H; exact H) | (simp only [hji46] at H ⊢; exact H)
              (try rw [hji46] at A29)
              (try rw [hji46] at A33)
              (try rw [hji46] at A43)
              (try rw [hji46] at A45)
              have hji46w : (IntKind.i32.wrap (a0 - 8560)) = ji46 := (i32_w _).trans hji46
              by_cases c47 : 0 ≤ (ji46)
              ·rw [if_pos c47] at H
               have c47b0 : decide (0 ≤ (ji46)) = true := decide_eq_true c47
               clear c47
               by_cases c48 : (ji46) < (t181.length : Int)
               ·rw [if_pos c48] at H
                have c48b0 : decide ((ji46) < (t181.length : Int)) = true := decide_eq_true c48
                clear c48
                obtain ⟨t185, A49, H⟩ := zO H
                obtain rfl := sI H
                go_wp2_with (first | ((with_reducible refine gate_callee (f := 76) rfl ?_); refine goesL_ (some 51) rfl rfl Try.func76 zK rfl #[.int .i32 a0, .int .i32 8320, .int .i32 8329] rfl zM ?_; (with_reducible refine (decomp_within.calls a0 8320 8329 false _ A29.out).mono ?_); rintro e w' ⟨rfl, ⟨nd, rfl⟩⟩; (try clear A29); refine ⟨_, rfl, ?_⟩) | ((with_reducible refine gate_callee (f := 76) rfl ?_); refine goesL_ (some 58) rfl rfl Try.func76 zK rfl #[.int .i32 a0, .int .i32 8544, .int .i32 8555] rfl zM ?_; (with_reducible refine (decomp_within.calls a0 8544 8555 false _ A33.out).mono ?_); rintro e w' ⟨rfl, ⟨nd, rfl⟩⟩; (try clear A33); refine ⟨_, rfl, ?_⟩) | ((with_reducible refine gate_callee (f := 76) rfl ?_); refine goesL_ (some 67) rfl rfl Try.func76 zK rfl #[.int .i32 a0, .int .i32 8560, .int .i32 8571] rfl zM ?_; (with_reducible refine (decomp_within.calls a0 8560 8571 true _ A43.out).mono ?_); rintro e w' ⟨rfl, ⟨nd, rfl⟩⟩; (try clear A43); refine ⟨_, rfl, ?_⟩) | ((with_reducible refine gate_callee (f := 77) rfl ?_); refine goesL_ (some 68) rfl rfl Try.func77 zK rfl #[.bool true] rfl zM ?_; (with_reducible refine (decomp_numbers.calls true t181 _ A45.out).mono ?_); rintro e w50 ⟨v182, rfl, ho0, hb⟩; (try clear A45); refine ⟨_, rfl, ?_⟩; have n_ := zI (aM (Kd.R_lower ho0 (below_size zB))) (aM (below_step zB hb)); clear HB; obtain ⟨HO183, HB⟩ := n_; (try clear hb); (try clear ho0); obtain ⟨Ao51, co51, rfl⟩ := Kd.R_slice HO183.out; have p184 : 0 ≤ ((ji46) : Int) := zoA; have q184 : (ji46) < (t181.length : Int) := zoA; obtain ⟨ad184, e184, hx184_0⟩ := Kd.at_string (Kd.R_reads' HO183.out).2.2 (ji46) p184 q184; cases e184; replace p184 := eq_true p184; replace q184 := eq_true q184) | ((with_reducible refine gate_callee (f := 75) rfl ?_); refine goesL_ (some 73) rfl rfl Try.func75 zK rfl #[.string (rdOf ByteArray.empty t181 (ji46))] rfl (by (try simp only [List.map_toArray, List.map_cons, List.map_nil]); first | done | (simp only [hji46]; rfl) | rfl | (simp only [List.length_drop, List.length_take]; rfl)) ?_; (with_reducible refine (decomp_list.calls kj22 (rdOf ByteArray.empty t181 (ji46)) t185 _ A49.out).mono ?_); rintro e w52 ⟨v186, rfl, ho0, hb⟩; (try clear A49); refine ⟨_, rfl, ?_⟩; have n_ := zI (aM (Kd.R_below (zR HO183) hb)) (zI (aM (Kd.R_lower ho0 (below_size zB))) (aM (below_step zB hb))); clear HO183 HB; obtain ⟨HO183, HO187, HB⟩ := n_; (try clear hb); (try clear ho0)))
                go_ret
                exact ⟨_, by first | rfl | (simp [errW_none, errW_some] <;> rfl) | (simp only [← hji46]; first | rfl | (simp [errW_none, errW_some] <;> rfl)) | (simp [*, errW_none, errW_some] <;> rfl), zR HO187, zB⟩
               ·rw [if_neg c48] at H
                exact absurd H (by simp)
              ·rw [if_neg c47] at H
               exact absurd H (by simp)
             ·replace c44 := Bool.eq_false_iff.mpr c44
              subst c44
              rw [if_neg (show ¬ (false = true) by decide)] at H
              obtain ⟨t188, A53, H⟩ := zO H
              by_cases c54 : t188 = true
              ·subst c54
               rw [if_pos rfl] at H
               obtain ⟨y189, hy189⟩ : ∃ y_ : List ByteArray, y_ = (([(⟨#[102, 102]⟩ : ByteArray), (⟨#[102, 105]⟩ : ByteArray), (⟨#[102, 108]⟩ : ByteArray), (⟨#[102, 102, 105]⟩ : ByteArray), (⟨#[102, 102, 108]⟩ : ByteArray), (⟨#[197, 191, 116]⟩ : ByteArray)] : List ByteArray)) := ⟨_, rfl⟩
               replace H : (if 0 ≤ (wrap32 (a0 - 64256)) then (if (wrap32 (a0 - 64256)) < (y189.length : Int) then ((decomp_list.f kj22 (rdOf ByteArray.empty y189 (wrap32 (a0 - 64256)))).bind fun t193 => (some t193)) else (none)) else (none)) = some r := zY hy189 H
               have Ny189 := aM hy189
               clear hy189
               obtain ⟨ji55, hji55⟩ : ∃ j_ : Int, (wrap32 (a0 - 64256)) = j_ := ⟨_, rfl⟩
               replace H : (if 0 ≤ (ji55) then (if (ji55) < (y189.length : Int) then ((decomp_list.f kj22 (rdOf ByteArray.empty y189 (ji55))).bind fun t193 => (some t193)) else (none)) else (none)) = some r := by first | (rw [hji55] at H; exact H) | (simp only [hji55] at H ⊢; exact H)
               (try rw [hji55] at A29)
               (try rw [hji55] at A33)
               (try rw [hji55] at A43)
               (try rw [hji55] at A53)
               have hji55w : (IntKind.i32.wrap (a0 - 64256)) = ji55 := (i32_w _).trans hji55
               by_cases c56 : 0 ≤ (ji55)
               ·rw [if_pos c56] at H
                have c56b0 : decide (0 ≤ (ji55)) = true := decide_eq_true c56
                clear c56
                by_cases c57 : (ji55) < (y189.length : Int)
                ·rw [if_pos c57] at H
                 have c57b0 : decide ((ji55) < (y189.length : Int)) = true := decide_eq_true c57
                 clear c57
                 obtain ⟨t193, A58, H⟩ := zO H
                 obtain rfl := sI H
                 go_wp2_with (first | ((with_reducible refine gate_callee (f := 76) rfl ?_); refine goesL_ (some 51) rfl rfl Try.func76 zK rfl #[.int .i32 a0, .int .i32 8320, .int .i32 8329] rfl zM ?_; (with_reducible refine (decomp_within.calls a0 8320 8329 false _ A29.out).mono ?_); rintro e w' ⟨rfl, ⟨nd, rfl⟩⟩; (try clear A29); refine ⟨_, rfl, ?_⟩) | ((with_reducible refine gate_callee (f := 76) rfl ?_); refine goesL_ (some 58) rfl rfl Try.func76 zK rfl #[.int .i32 a0, .int .i32 8544, .int .i32 8555] rfl zM ?_; (with_reducible refine (decomp_within.calls a0 8544 8555 false _ A33.out).mono ?_); rintro e w' ⟨rfl, ⟨nd, rfl⟩⟩; (try clear A33); refine ⟨_, rfl, ?_⟩) | ((with_reducible refine gate_callee (f := 76) rfl ?_); refine goesL_ (some 67) rfl rfl Try.func76 zK rfl #[.int .i32 a0, .int .i32 8560, .int .i32 8571] rfl zM ?_; (with_reducible refine (decomp_within.calls a0 8560 8571 false _ A43.out).mono ?_); rintro e w' ⟨rfl, ⟨nd, rfl⟩⟩; (try clear A43); refine ⟨_, rfl, ?_⟩) | ((with_reducible refine gate_callee (f := 76) rfl ?_); refine goesL_ (some 76) rfl rfl Try.func76 zK rfl #[.int .i32 a0, .int .i32 64256, .int .i32 64261] rfl zM ?_; (with_reducible refine (decomp_within.calls a0 64256 64261 true _ A53.out).mono ?_); rintro e w' ⟨rfl, ⟨nd, rfl⟩⟩; (try clear A53); refine ⟨_, rfl, ?_⟩) | ((with_reducible refine gate_dst (N := 77) rfl ?_); refine Kd.R_lit Kd.string _ 9 ?hg (N := 77) ?hd (xs := ([(⟨#[102, 102]⟩ : ByteArray), (⟨#[102, 105]⟩ : ByteArray), (⟨#[102, 108]⟩ : ByteArray), (⟨#[102, 102, 105]⟩ : ByteArray), (⟨#[102, 102, 108]⟩ : ByteArray), (⟨#[197, 191, 116]⟩ : ByteArray)] : List ByteArray)) (inner := [.string (⟨#[102, 102]⟩ : ByteArray), .string (⟨#[102, 105]⟩ : ByteArray), .string (⟨#[102, 108]⟩ : ByteArray), .string (⟨#[102, 102, 105]⟩ : ByteArray), .string (⟨#[102, 102, 108]⟩ : ByteArray), .string (⟨#[197, 191, 116]⟩ : ByteArray)]) (ok := fun _ => True) (okp := fun _ => True) ?hr ?hp (fun _ hk => hk) trivial (Below.refl _ _) (Nat.le_refl _) (by simp) ?_; (case hd => rfl); (case hg => rfl); (case hr => first | (go_simp; done) | (go_simp; rfl)); (case hp => exact (Reps.one (show Kd.M Kd.string _ _ _ (⟨#[102, 102]⟩ : ByteArray) [.string (⟨#[102, 102]⟩ : ByteArray)] from rfl) (Reps.one (show Kd.M Kd.string _ _ _ (⟨#[102, 105]⟩ : ByteArray) [.string (⟨#[102, 105]⟩ : ByteArray)] from rfl) (Reps.one (show Kd.M Kd.string _ _ _ (⟨#[102, 108]⟩ : ByteArray) [.string (⟨#[102, 108]⟩ : ByteArray)] from rfl) (Reps.one (show Kd.M Kd.string _ _ _ (⟨#[102, 102, 105]⟩ : ByteArray) [.string (⟨#[102, 102, 105]⟩ : ByteArray)] from rfl) (Reps.one (show Kd.M Kd.string _ _ _ (⟨#[102, 102, 108]⟩ : ByteArray) [.string (⟨#[102, 102, 108]⟩ : ByteArray)] from rfl) (Reps.one (show Kd.M Kd.string _ _ _ (⟨#[197, 191, 116]⟩ : ByteArray) [.string (⟨#[197, 191, 116]⟩ : ByteArray)] from rfl) (Reps.none _ _)))))))); intro v190 w59 ho60 hb hg_ hnew_; clear hg_ hnew_; (first | rw [← Ny189.out] at ho60 | (simp only [Int.reduceToNat] at ho60; rw [← Ny189.out] at ho60)); have n_ := zI (aM (Kd.R_lower ho60 (below_size zB))) (aM (below_step zB hb)); clear HB; obtain ⟨HO191, HB⟩ := n_; clear hb ho60; obtain ⟨Ao61, co61, rfl⟩ := Kd.R_slice HO191.out; have p192 : 0 ≤ ((ji55) : Int) := zoA; have q192 : (ji55) < (y189.length : Int) := zoA; obtain ⟨ad192, e192, hx192_0⟩ := Kd.at_string (Kd.R_reads' HO191.out).2.2 (ji55) p192 q192; cases e192; replace p192 := eq_true p192; replace q192 := eq_true q192) | ((with_reducible refine gate_callee (f := 75) rfl ?_); refine goesL_ (some 82) rfl rfl Try.func75 zK rfl #[.string (rdOf ByteArray.empty y189 (ji55))] rfl (by (try simp only [List.map_toArray, List.map_cons, List.map_nil]); first | done | (simp only [hji55]; rfl) | rfl | (simp only [List.length_drop, List.length_take]; rfl)) ?_; (with_reducible refine (decomp_list.calls kj22 (rdOf ByteArray.empty y189 (ji55)) t193 _ A58.out).mono ?_); rintro e w62 ⟨v194, rfl, ho0, hb⟩; (try clear A58); refine ⟨_, rfl, ?_⟩; have n_ := zI (aM (Kd.R_below (zR HO191) hb)) (zI (aM (Kd.R_lower ho0 (below_size zB))) (aM (below_step zB hb))); clear HO191 HB; obtain ⟨HO191, HO195, HB⟩ := n_; (try clear hb); (try clear hk); (try clear ho0)))
                 go_ret
                 exact ⟨_, by first | rfl | (simp [errW_none, errW_some] <;> rfl) | (simp only [← hji55]; first | rfl | (simp [errW_none, errW_some] <;> rfl)) | (simp [*, errW_none, errW_some] <;> rfl), zR HO195, zB⟩
                ·rw [if_neg c57] at H
                 exact absurd H (by simp)
               ·rw [if_neg c56] at H
                exact absurd H (by simp)
              ·replace c54 := Bool.eq_false_iff.mpr c54
               subst c54
               rw [if_neg (show ¬ (false = true) by decide)] at H
               obtain ⟨t196, A63, H⟩ := zO H
               by_cases c64 : t196 = true
               ·subst c64
                rw [if_pos rfl] at H
                obtain ⟨y197, hy197⟩ : ∃ y_ : List Int, y_ = (([wrap32 ((wrap32 (a0 - 65281)) + 33)] : List Int)) := ⟨_, rfl⟩
                replace H : (some y197) = some r := zY hy197 H
                have Ny197 := aM hy197
                clear hy197
                obtain rfl := sI H
                go_wp2_with (first | ((with_reducible refine gate_callee (f := 76) rfl ?_); refine goesL_ (some 51) rfl rfl Try.func76 zK rfl #[.int .i32 a0, .int .i32 8320, .int .i32 8329] rfl zM ?_; (with_reducible refine (decomp_within.calls a0 8320 8329 false _ A29.out).mono ?_); rintro e w' ⟨rfl, ⟨nd, rfl⟩⟩; (try clear A29); refine ⟨_, rfl, ?_⟩) | ((with_reducible refine gate_callee (f := 76) rfl ?_); refine goesL_ (some 58) rfl rfl Try.func76 zK rfl #[.int .i32 a0, .int .i32 8544, .int .i32 8555] rfl zM ?_; (with_reducible refine (decomp_within.calls a0 8544 8555 false _ A33.out).mono ?_); rintro e w' ⟨rfl, ⟨nd, rfl⟩⟩; (try clear A33); refine ⟨_, rfl, ?_⟩) | ((with_reducible refine gate_callee (f := 76) rfl ?_); refine goesL_ (some 67) rfl rfl Try.func76 zK rfl #[.int .i32 a0, .int .i32 8560, .int .i32 8571] rfl zM ?_; (with_reducible refine (decomp_within.calls a0 8560 8571 false _ A43.out).mono ?_); rintro e w' ⟨rfl, ⟨nd, rfl⟩⟩; (try clear A43); refine ⟨_, rfl, ?_⟩) | ((with_reducible refine gate_callee (f := 76) rfl ?_); refine goesL_ (some 76) rfl rfl Try.func76 zK rfl #[.int .i32 a0, .int .i32 64256, .int .i32 64261] rfl zM ?_; (with_reducible refine (decomp_within.calls a0 64256 64261 false _ A53.out).mono ?_); rintro e w' ⟨rfl, ⟨nd, rfl⟩⟩; (try clear A53); refine ⟨_, rfl, ?_⟩) | ((with_reducible refine gate_callee (f := 76) rfl ?_); refine goesL_ (some 85) rfl rfl Try.func76 zK rfl #[.int .i32 a0, .int .i32 65281, .int .i32 65374] rfl zM ?_; (with_reducible refine (decomp_within.calls a0 65281 65374 true _ A63.out).mono ?_); rintro e w' ⟨rfl, ⟨nd, rfl⟩⟩; (try clear A63); refine ⟨_, rfl, ?_⟩) | ((with_reducible refine gate_dst (N := 89) rfl ?_); refine Kd.R_lit (Kd.int .i32) _ 21 ?hg (N := 89) ?hd (xs := ([wrap32 ((wrap32 (a0 - 65281)) + 33)] : List Int)) (inner := [.int .i32 (wrap32 ((wrap32 (a0 - 65281)) + 33))]) (ok := fun _ => True) (okp := fun _ => True) ?hr ?hp (fun _ hk => hk) trivial (Below.refl _ _) (Nat.le_refl _) (by simp) ?_; (case hd => rfl); (case hg => rfl); (case hr => first | (go_simp; done) | (go_simp; rfl)); (case hp => exact (Reps.one (show Kd.M (Kd.int .i32) _ _ _ (wrap32 ((wrap32 (a0 - 65281)) + 33)) [.int .i32 (wrap32 ((wrap32 (a0 - 65281)) + 33))] from rfl) (Reps.none _ _))); intro v198 w65 ho66 hb hg_ hnew_; clear hg_ hnew_; (first | rw [← Ny197.out] at ho66 | (simp only [Int.reduceToNat] at ho66; rw [← Ny197.out] at ho66)); have n_ := zI (aM (Kd.R_lower ho66 (below_size zB))) (aM (below_step zB hb)); clear HB; obtain ⟨HO199, HB⟩ := n_; clear hb ho66))
                go_ret
                exact ⟨_, zE, zR HO199, zB⟩
               ·replace c64 := Bool.eq_false_iff.mpr c64
                subst c64
                rw [if_neg (show ¬ (false = true) by decide)] at H
                obtain rfl := sI H
                go_wp2_with (first | ((with_reducible refine gate_callee (f := 76) rfl ?_); refine goesL_ (some 51) rfl rfl Try.func76 zK rfl #[.int .i32 a0, .int .i32 8320, .int .i32 8329] rfl zM ?_; (with_reducible refine (decomp_within.calls a0 8320 8329 false _ A29.out).mono ?_); rintro e w' ⟨rfl, ⟨nd, rfl⟩⟩; (try clear A29); refine ⟨_, rfl, ?_⟩) | ((with_reducible refine gate_callee (f := 76) rfl ?_); refine goesL_ (some 58) rfl rfl Try.func76 zK rfl #[.int .i32 a0, .int .i32 8544, .int .i32 8555] rfl zM ?_; (with_reducible refine (decomp_within.calls a0 8544 8555 false _ A33.out).mono ?_); rintro e w' ⟨rfl, ⟨nd, rfl⟩⟩; (try clear A33); refine ⟨_, rfl, ?_⟩) | ((with_reducible refine gate_callee (f := 76) rfl ?_); refine goesL_ (some 67) rfl rfl Try.func76 zK rfl #[.int .i32 a0, .int .i32 8560, .int .i32 8571] rfl zM ?_; (with_reducible refine (decomp_within.calls a0 8560 8571 false _ A43.out).mono ?_); rintro e w' ⟨rfl, ⟨nd, rfl⟩⟩; (try clear A43); refine ⟨_, rfl, ?_⟩) | ((with_reducible refine gate_callee (f := 76) rfl ?_); refine goesL_ (some 76) rfl rfl Try.func76 zK rfl #[.int .i32 a0, .int .i32 64256, .int .i32 64261] rfl zM ?_; (with_reducible refine (decomp_within.calls a0 64256 64261 false _ A53.out).mono ?_); rintro e w' ⟨rfl, ⟨nd, rfl⟩⟩; (try clear A53); refine ⟨_, rfl, ?_⟩) | ((with_reducible refine gate_callee (f := 76) rfl ?_); refine goesL_ (some 85) rfl rfl Try.func76 zK rfl #[.int .i32 a0, .int .i32 65281, .int .i32 65374] rfl zM ?_; (with_reducible refine (decomp_within.calls a0 65281 65374 false _ A63.out).mono ?_); rintro e w' ⟨rfl, ⟨nd, rfl⟩⟩; (try clear A63); refine ⟨_, rfl, ?_⟩))
                go_ret
                exact ⟨_, zE, zL, zB⟩


/-! ### decomp_One: function 48, by hand (decomp.One.tpl), and decomp_All: function 31 -/
mutual
def decomp_One.f : Nat → Int → Bool → Option (List Int)
  | 0, _, _ => none
  | k + 1, r, b => (hangul_Syllable.f r).bind fun s => if s = true then hangul_Apart.f r else ((decomp_Pair.f k r).bind fun p => if p.2.2 = true then (if 44032 ≤ p.1 ∧ p.1 ≤ 55203 then none else ((decomp_One.f k p.1 b).bind fun x => if x.length < 35184372088832 then some (x ++ [p.2.1]) else none)) else ((decomp_Single.f k r).bind fun q => if q.2 = true then (if 44032 ≤ q.1 ∧ q.1 ≤ 55203 then none else decomp_One.f k q.1 b) else ((decomp_Loose.f k r).bind fun l => if b = true then (if (l.length : Int) > 0 then decomp_All.l0 k b [] l (l.length : Int) 0 else some [r]) else some [r])))
def decomp_All.l0 : Nat → Bool → List Int → List Int → Int → Int → Option (List Int)
 | 0, _, _, _, _, _ => none
 | k + 1, x0, x5, x8, x9, x10 => if x10 < x9 then (if 0 ≤ x10 then (if x10 < (x8.length : Int) then (if (rd x8 x10) < 128 then (if x5.length < 35184372088832 then (decomp_All.l0 k x0 (x5 ++ [rd x8 x10]) x8 x9 (wrap64 (x10 + 1))) else (none)) else ((chars_Class.f k (rd x8 x10)).bind fun t204 => (if t204 > 0 then (if x5.length < 35184372088832 then (decomp_All.l0 k x0 (x5 ++ [rd x8 x10]) x8 x9 (wrap64 (x10 + 1))) else (none)) else ((decomp_One.f k (rd x8 x10) x0).bind fun t208 => (if x5.length + t208.length < 35184372088832 then (decomp_All.l0 k x0 (x5 ++ t208) x8 x9 (wrap64 (x10 + 1))) else (none)))))) else (none)) else (none)) else (some x5)
end
def decomp_All.f (k : Nat) (a0 : Bool) (l1 : List Int) : Option (List Int) := decomp_All.l0 k a0 ([] : List Int) l1 (l1.length : Int) 0
theorem decomp_One.mono_l : ∀ k, (∀ y0 y1, LeO (decomp_One.f k y0 y1) (decomp_One.f (k + 1) y0 y1)) ∧ (∀ y0 y1 y2 y3 y4, LeO (decomp_All.l0 k y0 y1 y2 y3 y4) (decomp_All.l0 (k + 1) y0 y1 y2 y3 y4))
  | 0 => ⟨fun _ _ r h => by simp [decomp_One.f] at h, fun _ _ _ _ _ r h => by simp [decomp_All.l0] at h⟩
  | k + 1 => by
    obtain ⟨ih0, ih1⟩ := decomp_One.mono_l k
    refine ⟨?_, ?_⟩
    · intro y0 y1
      unfold decomp_One.f
      repeat' first
        | (with_reducible exact ih0 _ _)
        | (with_reducible exact ih1 _ _ _ _ _)
        | (with_reducible exact decomp_Pair.mono _ _)
        | (with_reducible exact decomp_Single.mono _ _)
        | (with_reducible exact decomp_Loose.mono _ _)
        | (with_reducible exact LeO.refl _)
        | (with_reducible refine LeO.ite ?_ ?_)
        | (with_reducible refine LeO.bind ?_ (fun _ => ?_))
    · intro y0 y1 y2 y3 y4
      unfold decomp_All.l0
      repeat' first
        | (with_reducible exact ih1 _ _ _ _ _)
        | (with_reducible exact ih0 _ _)
        | (with_reducible exact chars_Class.mono _ _)
        | (with_reducible exact LeO.refl _)
        | (with_reducible refine LeO.ite ?_ ?_)
        | (with_reducible refine LeO.bind ?_ (fun _ => ?_))
theorem decomp_One.mono : ∀ a0 a1 k, LeO (decomp_One.f k a0 a1) (decomp_One.f (k + 1) a0 a1) := fun a0 a1 k => (decomp_One.mono_l k).1 _ _
theorem decomp_All.mono : ∀ a0 a1 k, LeO (decomp_All.f k a0 a1) (decomp_All.f (k + 1) a0 a1) := fun a0 a1 k => (decomp_One.mono_l k).2 _ _ _ _ _
/-- The contract of One, at one number of rounds. -/
def decomp_One.Says (k : Nat) : Prop := ∀ (a0 : Int) (a1 : Bool) (r : List Int) (w : World), decomp_One.f k a0 a1 = some r →
    Calls Try.prog 48 #[.int .i32 a0, .bool a1] w fun e w' => ∃ v0_ : Value, e = .returned (v0_) ∧ Kd.V (Kd.int .i32) 21 w' w.heap.size (fun k_ => (w.heap.size ≤ k_)) (v0_) (r) ∧ Below w.heap.size w w'
theorem decomp_One.Says.use {k : Nat} (h : decomp_One.Says k) (a0 : Int) (a1 : Bool) (r : List Int) (w : World) (H : decomp_One.f k a0 a1 = some r) :
    Calls Try.prog 48 #[.int .i32 a0, .bool a1] w fun e w' => ∃ v0_ : Value, e = .returned (v0_) ∧ Kd.V (Kd.int .i32) 21 w' w.heap.size (fun k_ => (w.heap.size ≤ k_)) (v0_) (r) ∧ Below w.heap.size w w' := h a0 a1 r w H
/-- The same of what is no syllable: a row of the call's own. -/
def decomp_One.Own (k : Nat) : Prop := ∀ (a0 : Int) (a1 : Bool) (r : List Int) (w : World), ¬ (44032 ≤ a0 ∧ a0 ≤ 55203) → decomp_One.f k a0 a1 = some r →
    Calls Try.prog 48 #[.int .i32 a0, .bool a1] w fun e w' => ∃ v0_ : Value, e = .returned (v0_) ∧ Kd.R (Kd.int .i32) 21 w' w.heap.size (fun _ => True) (v0_) (r) ∧ Below w.heap.size w w'
set_option maxHeartbeats 8000000 in
set_option maxRecDepth 100000 in
theorem decomp_One.says_of (k : Nat) (ho : decomp_One.Own k) : decomp_One.Says k := by
  intro a0 a1 r w h
  by_cases hs : 44032 ≤ a0 ∧ a0 ≤ 55203
  · cases k with
    | zero => exact absurd h (by simp [decomp_One.f])
    | succ k =>
      simp only [decomp_One.f] at h
      have A : hangul_Syllable.f a0 = some true := by
        unfold hangul_Syllable.f
        rw [if_pos hs.1]
        simp [hs.2]
      rw [A] at h
      simp only [Option.bind_some, if_true] at h
      have A' := Aside0.mk A
      have H' := Aside0.mk h
      clear A h hs ho
      go_enter Try.func48, Try.ntmps48
      go_wp2_with fail
      (with_reducible refine (hangul_Syllable.calls a0 _ _ A'.out).mono ?_)
      rintro e w1 ⟨rfl, hd⟩
      have HD := Aside0.mk hd
      clear hd
      go_wp2_with fail
      (with_reducible refine (hangul_Apart.calls a0 r _ H'.out).mono ?_)
      rintro e w2 ⟨v, rfl, ho, hb⟩
      have HO := Aside0.mk ho
      have HB := Aside0.mk hb
      clear ho hb
      go_wp2
      go_ret
      exact ⟨_, rfl, Kd.V_mono HO.out (fun k_ hk => Nat.le_trans HD.out.below.size hk), below_then HD.out.below HD.out.below.size HB.out⟩
  · refine (ho a0 a1 r w hs h).mono ?_
    rintro e w1 ⟨v, rfl, hr, hb⟩
    exact ⟨v, rfl, Kd.V_mono (Kd.R_V (Kd.R_bound hr)) (fun k_ hk => hk.2.1), hb⟩
set_option maxHeartbeats 8000000 in
set_option maxRecDepth 100000 in
theorem decomp_All.calls_of (k : Nat) (hOne : ∀ k1, k1 < k → decomp_One.Says k1) (a0 : Bool) (A1 : Option Addr) (c1 : Nat) (l1 : List Int) (r : List Int) (w : World) (hr1 : Kd.C (Kd.int .i32) w A1 l1.length l1) (hc1 : l1.length ≤ c1) (h : decomp_All.f k a0 l1 = some r) :
  Calls Try.prog 31 #[.bool a0, .slice A1 l1.length c1] w fun e w' => ∃ v0_ : Value, e = .returned (v0_) ∧ Kd.R (Kd.int .i32) 21 w' w.heap.size (fun _ => True) v0_ r ∧ Below w.heap.size w w' := by
 have HR1 := aM hr1
 have HC1 := aM hc1
 clear hr1 hc1
 have HB := aM (Below.refl w.heap.size w)
 have H := h
 clear h
 unfold decomp_All.f at H
 have H' := aM H
 clear H
 go_enter Try.func31, Try.ntmps31
 go_wp2
 go_loopg [5, 10] k (fun kq v5 v10 w' => ∃ (x5_1 : List Int) (x10_1 : Int), v10 = .int .i64 x10_1 ∧ Aside0 (decomp_All.l0 kq a0 x5_1 l1 (l1.length : Int) x10_1 = some r) ∧ Aside0 (kq ≤ k) ∧ Aside0 (Kd.R (Kd.int .i32) 21 w' w.heap.size (fun _ => True) v5 x5_1) ∧ Aside0 (Below w.heap.size w w'))
 case atStart => exact ⟨(([] : List Int)), (0), zP, H', ⟨Nat.le_refl _⟩, ⟨zL⟩, ⟨zB⟩⟩
 case round =>
  clear H'
  try clear c1
  try clear p2
  obtain ⟨x5_1, x10_1, rfl, HA, HK1, HO_5, HB⟩ := hrel
  cases gk with
  | zero => exact absurd HA.out (by simp [decomp_All.l0])
  | succ k1 =>
   have H := HA.out
   clear HA
   simp only [decomp_All.l0] at H
   by_cases c3 : x10_1 < (l1.length : Int)
   ·rw [if_pos c3] at H
    have c3b0 : decide (x10_1 < (l1.length : Int)) = true := decide_eq_true c3
    clear c3
    by_cases c4 : 0 ≤ x10_1
    ·rw [if_pos c4] at H
     have c4b0 : decide (0 ≤ x10_1) = true := decide_eq_true c4
     clear c4
     by_cases c5 : x10_1 < (l1.length : Int)
     ·rw [if_pos c5] at H
      have c5b0 : decide (x10_1 < (l1.length : Int)) = true := decide_eq_true c5
      clear c5
      by_cases c6 : (rd l1 x10_1) < 128
      ·rw [if_pos c6] at H
       have c6b0 : decide ((rd l1 x10_1) < 128) = true := decide_eq_true c6
       clear c6
       by_cases c7 : x5_1.length < 35184372088832
       ·rw [if_pos c7] at H
        have LMc7 := aM c7
        clear c7
        obtain ⟨y201, hy201⟩ : ∃ y_ : List Int, y_ = (x5_1 ++ [rd l1 x10_1]) := ⟨_, rfl⟩
        replace H : (decomp_All.l0 k1 a0 y201 l1 (l1.length : Int) (wrap64 (x10_1 + 1))) = some r := zY hy201 H
        have Ny201 := aM hy201
        clear hy201
        have H' := aM H
        clear H
        have p200 : 0 ≤ (x10_1 : Int) := zoA
        have q200 : x10_1 < (l1.length : Int) := zoA
        obtain ⟨ad200, e200, hx200_0⟩ := Kd.at_int HR1.out x10_1 p200 q200
        cases e200
        replace hx200_0 := (HB.out.cell (World.block_lt_of_cell? w _ hx200_0)).trans hx200_0
        replace p200 := eq_true p200
        replace q200 := eq_true q200
        go_wp2_with (first | ((with_reducible refine gate_builtin (b := .append) (xs := #[.tmp 21, .tmp 23]) rfl ?_); at_builtin; refine Kd.R_append (Kd.int .i32) (w0 := w) w.heap.size rfl (.tmp 21) (.tmp 23) 34 21 (.int .i32 0) 4 rfl Try.underlying34 info21 rfl (by decide) (by omega) u5 x5_1 (rd l1 x10_1) [.int .i32 (rd l1 x10_1)] (fun _ => True) (fun _ => False) rfl rfl ?aP (fun _ hk => hk.elim) ?aF ?aO ?aB ?aS ?aL ?_; (case aP => exact rfl); (case aB => exact zB); (case aF => exact (fun _ _ => trivial)); (case aO => exact (zR HO_5)); (case aS => exact (below_size zB)); (case aL => have := LMc7.out; omega); intro v202 w8 ho hb hg hat; rw [← Ny201.out] at ho; have n_ := zI (aM (hb)) (aM (ho)); clear HB HO_5; obtain ⟨HB, HO203⟩ := n_; clear ho hb hg hat))
        go_roundg k1
        case measure => have := HK1.out; omega
        case rel => exact ⟨(y201), (wrap64 (x10_1 + 1)), zP, H', ⟨by have := HK1.out; omega⟩, ⟨zR HO203⟩, ⟨zB⟩⟩
       ·rw [if_neg c7] at H
        exact absurd H (by simp)
      ·rw [if_neg c6] at H
       have c6b0 : decide ((rd l1 x10_1) < 128) = false := decide_eq_false c6
       clear c6
       obtain ⟨t204, A9, H⟩ := zO H
       by_cases c10 : t204 > 0
       ·rw [if_pos c10] at H
        have c10b0 : decide (0 < t204) = true := decide_eq_true c10
        clear c10
        by_cases c11 : x5_1.length < 35184372088832
        ·rw [if_pos c11] at H
         have LMc11 := aM c11
         clear c11
         obtain ⟨y205, hy205⟩ : ∃ y_ : List Int, y_ = (x5_1 ++ [rd l1 x10_1]) := ⟨_, rfl⟩
         replace H : (decomp_All.l0 k1 a0 y205 l1 (l1.length : Int) (wrap64 (x10_1 + 1))) = some r := zY hy205 H
         have Ny205 := aM hy205
         clear hy205
         have H' := aM H
         clear H
         have p200 : 0 ≤ (x10_1 : Int) := zoA
         have q200 : x10_1 < (l1.length : Int) := zoA
         obtain ⟨ad200, e200, hx200_0⟩ := Kd.at_int HR1.out x10_1 p200 q200
         cases e200
         replace hx200_0 := (HB.out.cell (World.block_lt_of_cell? w _ hx200_0)).trans hx200_0
         replace p200 := eq_true p200
         replace q200 := eq_true q200
         go_wp2_with (first | (go_at_call 47; (with_reducible refine (chars_Class.calls k1 (rd l1 x10_1) t204 _ A9.out).mono ?_); rintro e w' ⟨rfl, ⟨nd, rfl⟩⟩) | ((with_reducible refine gate_builtin (b := .append) (xs := #[.tmp 21, .tmp 23]) rfl ?_); at_builtin; refine Kd.R_append (Kd.int .i32) (w0 := w) w.heap.size rfl (.tmp 21) (.tmp 23) 34 21 (.int .i32 0) 4 rfl Try.underlying34 info21 rfl (by decide) (by omega) u5 x5_1 (rd l1 x10_1) [.int .i32 (rd l1 x10_1)] (fun _ => True) (fun _ => False) rfl rfl ?aP (fun _ hk => hk.elim) ?aF ?aO ?aB ?aS ?aL ?_; (case aP => exact rfl); (case aB => exact zB); (case aF => exact (fun _ _ => trivial)); (case aO => exact (zR HO_5)); (case aS => exact (below_size zB)); (case aL => have := LMc11.out; omega); intro v206 w12 ho hb hg hat; rw [← Ny205.out] at ho; have n_ := zI (aM (hb)) (aM (ho)); clear HB HO_5; obtain ⟨HB, HO207⟩ := n_; clear ho hb hg hat))
         go_roundg k1
         case measure => have := HK1.out; omega
         case rel => exact ⟨(y205), (wrap64 (x10_1 + 1)), zP, H', ⟨by have := HK1.out; omega⟩, ⟨zR HO207⟩, ⟨zB⟩⟩
        ·rw [if_neg c11] at H
         exact absurd H (by simp)
       ·rw [if_neg c10] at H
        have c10b0 : decide (0 < t204) = false := decide_eq_false c10
        clear c10
        obtain ⟨t208, A13, H⟩ := zO H
        by_cases c14 : x5_1.length + t208.length < 35184372088832
        ·rw [if_pos c14] at H
         have LMc14 := aM c14
         clear c14
         obtain ⟨y211, hy211⟩ : ∃ y_ : List Int, y_ = (x5_1 ++ t208) := ⟨_, rfl⟩
         replace H : (decomp_All.l0 k1 a0 y211 l1 (l1.length : Int) (wrap64 (x10_1 + 1))) = some r := zY hy211 H
         have Ny211 := aM hy211
         clear hy211
         have H' := aM H
         clear H
         have p200 : 0 ≤ (x10_1 : Int) := zoA
         have q200 : x10_1 < (l1.length : Int) := zoA
         obtain ⟨ad200, e200, hx200_0⟩ := Kd.at_int HR1.out x10_1 p200 q200
         cases e200
         replace hx200_0 := (HB.out.cell (World.block_lt_of_cell? w _ hx200_0)).trans hx200_0
         replace p200 := eq_true p200
         replace q200 := eq_true q200
         go_wp2_with (first | (go_at_call 47; (with_reducible refine (chars_Class.calls k1 (rd l1 x10_1) t204 _ A9.out).mono ?_); rintro e w' ⟨rfl, ⟨nd, rfl⟩⟩) | ((with_reducible refine gate_callee (f := 48) rfl ?_); refine goesL_ (some 28) rfl rfl Try.func48 zK rfl #[.int .i32 (rd l1 x10_1), .bool a0] rfl zM ?_; (with_reducible refine (decomp_One.Says.use (hOne k1 (by have := HK1.out; omega)) (rd l1 x10_1) a0 t208 _ A13.out).mono ?_); rintro e w15 ⟨v209, rfl, ho0, hb⟩; refine ⟨_, rfl, ?_⟩; have n_ := zI (aM (Kd.R_below (zR HO_5) hb)) (zI (aM (Kd.V_lower (Kd.V_mono (ok' := fun k_ => some k_ ≠ (u5 : Value).ownBlock) ho0 (fun k_ hk_ => (Kd.fresh' (Kd.R_lt (zR HO_5)) k_ hk_))) (below_size zB))) (aM (below_step zB hb))); clear HO_5 HB; obtain ⟨HO_5, HO210, HB⟩ := n_; (try clear hb); (try clear hk); (try clear ho0); obtain ⟨Ao17, co17, rfl⟩ := Kd.V_slice HO210.out) | ((with_reducible refine gate_builtin (b := .append) (xs := #[.tmp 25, .tmp 28]) rfl ?_); at_builtin; refine Kd.R_append_rows (Kd.int .i32) (w0 := w) w.heap.size rfl (.tmp 25) (.tmp 28) 34 21 (.int .i32 0) 4 rfl Try.underlying34 info21 rfl (by decide) (by omega) u5 x5_1 t208 _ _ _ (fun _ => True) (fun _ => False) rfl rfl ?aO ?aR (fun _ _ h => h) (fun _ h => h.elim) ?aF ?aB ?aS ?aL ?_; (case aR => repeat (first | exact (Kd.V_reads' HO210.out).2.2 | (with_reducible refine Kd.C_alloc ?_ _) | (with_reducible refine Kd.C_drewN ?_ _) | (with_reducible refine Kd.C_drew ?_))); (case aB => exact zB); (case aF => exact (fun _ _ => trivial)); (case aO => exact (zR HO_5)); (case aS => exact (below_size zB)); (case aL => have := LMc14.out; omega); intro v212 w16 ho hb hg hat; rw [← Ny211.out] at ho; have n_ := zI (aM (Kd.V_afterv (ok := (fun _ => True)) (by (with_reducible repeat (first | apply Kd.V_alloc | apply Kd.V_drewN | apply Kd.V_drew)); exact Kd.V_mono HO210.out (fun _ hk => ⟨trivial, hk⟩)) hg hat)) (zI (aM (hb)) (aM (ho))); clear HO210 HB HO_5; obtain ⟨HO210, HB, HO213⟩ := n_; clear ho hb hg hat))
         go_roundg k1
         case measure => have := HK1.out; omega
         case rel => exact ⟨(y211), (wrap64 (x10_1 + 1)), zP, H', ⟨by have := HK1.out; omega⟩, ⟨zR HO213⟩, ⟨zB⟩⟩
        ·rw [if_neg c14] at H
         exact absurd H (by simp)
     ·rw [if_neg c5] at H
      exact absurd H (by simp)
    ·rw [if_neg c4] at H
     exact absurd H (by simp)
   ·rw [if_neg c3] at H
    have c3b0 : decide (x10_1 < (l1.length : Int)) = false := decide_eq_false c3
    clear c3
    obtain rfl := sI H
    go_wp2
    go_ret
    exact ⟨_, zE, zR HO_5, zB⟩

set_option maxHeartbeats 8000000 in
set_option maxRecDepth 100000 in
theorem decomp_One.own (k : Nat) : decomp_One.Own k := by
  induction k using Nat.strongRecOn with
  | _ k ih =>
  intro a0 a1 r w hs H
  cases k with
  | zero => exact absurd H (by simp [decomp_One.f])
  | succ k =>
  have hOwn := ih k (Nat.lt_succ_self k)
  have hAll := fun (A1 : Option Addr) (c1 : Nat) (l1 : List Int) (r : List Int) (w : World) => decomp_All.calls_of k (fun k1 h1 => decomp_One.says_of k1 (ih k1 (by omega))) true A1 c1 l1 r w
  clear ih
  have HOwn := Aside0.mk hOwn
  have HAll := Aside0.mk hAll
  clear hOwn hAll
  simp only [decomp_One.f] at H
  have A : hangul_Syllable.f a0 = some false := by
    unfold hangul_Syllable.f
    by_cases h1 : a0 ≥ 44032
    · rw [if_pos h1]
      have : ¬ a0 ≤ 55203 := fun h2 => hs ⟨h1, h2⟩
      simp [this]
    · rw [if_neg h1]
  rw [A] at H
  simp only [Option.bind_some, Bool.false_eq_true, if_false] at H
  have A' := Aside0.mk A
  clear A hs
  replace H := Option.bind_eq_some_iff.mp H
  obtain ⟨⟨p1, p2, p3⟩, B1, H⟩ := H
  have B1' := Aside0.mk B1
  clear B1
  simp only at H
  cases p3 with
  | true =>
    simp only [if_true] at H
    by_cases hp : 44032 ≤ p1 ∧ p1 ≤ 55203
    · rw [if_pos hp] at H; cases H
    rw [if_neg hp] at H
    replace H := Option.bind_eq_some_iff.mp H
    obtain ⟨x, B2, H⟩ := H
    by_cases hx : x.length < 35184372088832
    · rw [if_pos hx] at H
      obtain rfl := Option.some.inj H
      clear H
      have B2' := Aside0.mk (HOwn.out p1 a1 x · hp B2)
      have LM := Aside0.mk hx
      clear hx B2 hp
      go_enter Try.func48, Try.ntmps48
      go_wp2_with fail
      (with_reducible refine (hangul_Syllable.calls a0 _ _ A'.out).mono ?_)
      rintro e w1 ⟨rfl, hd⟩
      have HD := Aside0.mk hd
      clear hd
      go_wp2_with fail
      (with_reducible refine (decomp_Pair.calls k a0 p1 p2 true _ B1'.out).mono ?_)
      rintro e w2 ⟨rfl, hb⟩
      have HB := Aside0.mk (below_then HD.out.below HD.out.below.size hb)
      clear hb
      go_wp2_with fail
      (with_reducible refine (B2'.out _).mono ?_)
      rintro e w3 ⟨v, rfl, ho, hb⟩
      have HO := Aside0.mk (Kd.R_lower ho HB.out.size)
      have HB3 := Aside0.mk (below_then HB.out HB.out.size hb)
      clear ho hb
      obtain ⟨Ao, co, eo⟩ := Kd.R_slice HO.out
      subst eo
      go_wp2_with ((with_reducible refine gate_builtin (b := .append) (xs := #[.tmp 24, .tmp 26]) rfl ?_); at_builtin; refine Kd.R_append (Kd.int .i32) (w0 := w) w.heap.size rfl (.tmp 24) (.tmp 26) 34 21 (.int .i32 0) 4 rfl Try.underlying34 (by kernel_rfl) rfl (by decide) (by omega) (.slice Ao x.length co) x p2 [.int .i32 p2] (fun _ => True) (fun _ => False) rfl rfl ?aP (fun _ hk => hk.elim) ?aF ?aO ?aB ?aS ?aL ?_; (case aP => exact rfl); (case aB => exact HB3.out); (case aF => exact (fun _ _ => trivial)); (case aO => exact HO.out); (case aS => exact HB3.out.size); (case aL => have := LM.out; omega); intro v14 w14 ho hb hg hat; have HO3 := Aside0.mk ho; have HB4 := Aside0.mk hb; clear ho hb hg hat)
      go_ret
      exact ⟨_, rfl, HO3.out, HB4.out⟩
    · rw [if_neg hx] at H; cases H
  | false =>
    simp only [Bool.false_eq_true, if_false] at H
    replace H := Option.bind_eq_some_iff.mp H
    obtain ⟨⟨q1, q2⟩, B2, H⟩ := H
    have B2' := Aside0.mk B2
    clear B2
    simp only at H
    cases q2 with
    | true =>
      simp only [if_true] at H
      by_cases hq : 44032 ≤ q1 ∧ q1 ≤ 55203
      · rw [if_pos hq] at H; cases H
      rw [if_neg hq] at H
      have B3' := Aside0.mk (HOwn.out q1 a1 r · hq H)
      clear H hq
      go_enter Try.func48, Try.ntmps48
      go_wp2_with fail
      (with_reducible refine (hangul_Syllable.calls a0 _ _ A'.out).mono ?_)
      rintro e w1 ⟨rfl, hd⟩
      have HD := Aside0.mk hd
      clear hd
      go_wp2_with fail
      (with_reducible refine (decomp_Pair.calls k a0 p1 p2 false _ B1'.out).mono ?_)
      rintro e w2 ⟨rfl, hb⟩
      have HB := Aside0.mk (below_then HD.out.below HD.out.below.size hb)
      clear hb
      go_wp2_with fail
      (with_reducible refine (decomp_Single.calls k a0 q1 true _ B2'.out).mono ?_)
      rintro e w3 ⟨rfl, hd3⟩
      have HB2 := Aside0.mk (below_then HB.out HB.out.size hd3.below)
      clear hd3
      go_wp2_with fail
      (with_reducible refine (B3'.out _).mono ?_)
      rintro e w4 ⟨v, rfl, ho, hb⟩
      have HO := Aside0.mk (Kd.R_lower ho HB2.out.size)
      have HB3 := Aside0.mk (below_then HB2.out HB2.out.size hb)
      clear ho hb
      go_wp2
      go_ret
      exact ⟨_, rfl, HO.out, HB3.out⟩
    | false =>
      simp only [Bool.false_eq_true, if_false] at H
      replace H := Option.bind_eq_some_iff.mp H
      obtain ⟨l, B3, H⟩ := H
      have B3' := Aside0.mk B3
      clear B3
      have hstart : ∀ (R : Ending → World → Prop), True := fun _ => trivial
      clear hstart
      have hlone : r = [a0] → (a1 = false ∨ ¬ (l.length : Int) > 0) → Calls Try.prog 48 #[.int .i32 a0, .bool a1] w fun e w' => ∃ v0_ : Value, e = .returned (v0_) ∧ Kd.R (Kd.int .i32) 21 w' w.heap.size (fun _ => True) (v0_) (r) ∧ Below w.heap.size w w' := by
        rintro rfl hcase
        clear H
        have hg : decide ((0 : Int) < (l.length : Int)) = false ∨ a1 = false := by
          rcases hcase with h | h
          · exact .inr h
          · exact .inl (decide_eq_false h)
        clear hcase
        cases a1 with
        | false =>
          clear hg
          go_enter Try.func48, Try.ntmps48
          go_wp2_with fail
          (with_reducible refine (hangul_Syllable.calls a0 _ _ A'.out).mono ?_)
          rintro e w1 ⟨rfl, hd⟩
          have HD := Aside0.mk hd
          clear hd
          go_wp2_with fail
          (with_reducible refine (decomp_Pair.calls k a0 p1 p2 false _ B1'.out).mono ?_)
          rintro e w2 ⟨rfl, hb⟩
          have HB := Aside0.mk (below_then HD.out.below HD.out.below.size hb)
          clear hb
          go_wp2_with fail
          (with_reducible refine (decomp_Single.calls k a0 q1 false _ B2'.out).mono ?_)
          rintro e w3 ⟨rfl, hd3⟩
          have HB2 := Aside0.mk (below_then HB.out HB.out.size hd3.below)
          clear hd3
          go_wp2_with fail
          (with_reducible refine (decomp_Loose.calls k a0 l _ B3'.out).mono ?_)
          rintro e w4 ⟨v, rfl, ho, hb⟩
          have HB3 := Aside0.mk (below_then HB2.out HB2.out.size hb)
          clear ho hb HB HB2 HD
          go_wp2_with ((with_reducible refine gate_dst (N := 49) rfl ?_); refine Kd.R_lit (Kd.int .i32) w.heap.size 21 ?hg (N := 49) ?hd (xs := ([a0] : List Int)) (inner := [.int .i32 a0]) (w0 := w) (ok := fun _ => True) (okp := fun _ => True) ?hr ?hp (fun _ hk => hk) trivial HB3.out HB3.out.size (by simp) ?_; (case hd => rfl); (case hg => rfl); (case hr => first | (go_simp; done) | (go_simp; rfl)); (case hp => exact ⟨rfl, fun j p hj => by cases j with | zero => (have : p = a0 := by simpa using hj.symm); subst this; rfl | succ j => simp at hj⟩); intro v24 w24 ho hb hg hnew; have HO3 := Aside0.mk ho; have HB4 := Aside0.mk hb; clear ho hb hg hnew)
          go_ret
          exact ⟨_, rfl, HO3.out, HB4.out⟩
        | true =>
          have hg1 : decide ((0 : Int) < (l.length : Int)) = false := by
            rcases hg with h | h
            · exact h
            · cases h
          have hg2 : decide (0 < l.length) = false := by
            have := of_decide_eq_false hg1
            exact decide_eq_false (by omega)
          clear hg
          go_enter Try.func48, Try.ntmps48
          go_wp2_with fail
          (with_reducible refine (hangul_Syllable.calls a0 _ _ A'.out).mono ?_)
          rintro e w1 ⟨rfl, hd⟩
          have HD := Aside0.mk hd
          clear hd
          go_wp2_with fail
          (with_reducible refine (decomp_Pair.calls k a0 p1 p2 false _ B1'.out).mono ?_)
          rintro e w2 ⟨rfl, hb⟩
          have HB := Aside0.mk (below_then HD.out.below HD.out.below.size hb)
          clear hb
          go_wp2_with fail
          (with_reducible refine (decomp_Single.calls k a0 q1 false _ B2'.out).mono ?_)
          rintro e w3 ⟨rfl, hd3⟩
          have HB2 := Aside0.mk (below_then HB.out HB.out.size hd3.below)
          clear hd3
          go_wp2_with fail
          (with_reducible refine (decomp_Loose.calls k a0 l _ B3'.out).mono ?_)
          rintro e w4 ⟨v, rfl, ho, hb⟩
          have HB3 := Aside0.mk (below_then HB2.out HB2.out.size hb)
          obtain ⟨Ao, co, eo⟩ := Kd.R_slice ho
          subst eo
          clear ho hb HB HB2 HD
          go_wp2_with ((with_reducible refine gate_dst (N := 49) rfl ?_); refine Kd.R_lit (Kd.int .i32) w.heap.size 21 ?hg (N := 49) ?hd (xs := ([a0] : List Int)) (inner := [.int .i32 a0]) (w0 := w) (ok := fun _ => True) (okp := fun _ => True) ?hr ?hp (fun _ hk => hk) trivial HB3.out HB3.out.size (by simp) ?_; (case hd => rfl); (case hg => rfl); (case hr => first | (go_simp; done) | (go_simp; rfl)); (case hp => exact ⟨rfl, fun j p hj => by cases j with | zero => (have : p = a0 := by simpa using hj.symm); subst this; rfl | succ j => simp at hj⟩); intro v24 w24 ho hb hg hnew; have HO3 := Aside0.mk ho; have HB4 := Aside0.mk hb; clear ho hb hg hnew)
          go_ret
          exact ⟨_, rfl, HO3.out, HB4.out⟩
      cases a1 with
      | false =>
        simp only [Bool.false_eq_true, if_false] at H
        exact hlone (Option.some.inj H).symm (.inl rfl)
      | true =>
        simp only [if_true] at H
        by_cases hl : (l.length : Int) > 0
        · clear hlone
          rw [if_pos hl] at H
          have hg1 : decide ((0 : Int) < (l.length : Int)) = true := decide_eq_true hl
          have hg2 : decide (0 < l.length) = true := decide_eq_true (by omega)
          have H' := Aside0.mk (show decomp_All.f k true l = some r from H)
          clear hl H
          go_enter Try.func48, Try.ntmps48
          go_wp2_with fail
          (with_reducible refine (hangul_Syllable.calls a0 _ _ A'.out).mono ?_)
          rintro e w1 ⟨rfl, hd⟩
          have HD := Aside0.mk hd
          clear hd
          go_wp2_with fail
          (with_reducible refine (decomp_Pair.calls k a0 p1 p2 false _ B1'.out).mono ?_)
          rintro e w2 ⟨rfl, hb⟩
          have HB := Aside0.mk (below_then HD.out.below HD.out.below.size hb)
          clear hb
          go_wp2_with fail
          (with_reducible refine (decomp_Single.calls k a0 q1 false _ B2'.out).mono ?_)
          rintro e w3 ⟨rfl, hd3⟩
          have HB2 := Aside0.mk (below_then HB.out HB.out.size hd3.below)
          clear hd3
          go_wp2_with fail
          (with_reducible refine (decomp_Loose.calls k a0 l _ B3'.out).mono ?_)
          rintro e w4 ⟨v, rfl, ho, hb⟩
          have HB3 := Aside0.mk (below_then HB2.out HB2.out.size hb)
          obtain ⟨Ao, co, eo⟩ := Kd.R_slice ho
          subst eo
          have HL := Aside0.mk (Kd.R_reads' ho)
          clear ho hb HB HB2 HD
          go_wp2_with fail
          (with_reducible refine (HAll.out _ _ l r _ HL.out.2.2 HL.out.2.1 H'.out).mono ?_)
          rintro e w5 ⟨v, rfl, ho, hb⟩
          have HO := Aside0.mk (Kd.R_lower ho HB3.out.size)
          have HB5 := Aside0.mk (below_then HB3.out HB3.out.size hb)
          clear ho hb
          go_wp2
          go_ret
          exact ⟨_, rfl, HO.out, HB5.out⟩
        · rw [if_neg hl] at H
          exact hlone (Option.some.inj H).symm (.inr hl)
theorem decomp_One.calls (k : Nat) (a0 : Int) (a1 : Bool) (r : List Int) (w : World) (h : decomp_One.f k a0 a1 = some r) :
    Calls Try.prog 48 #[.int .i32 a0, .bool a1] w fun e w' => ∃ v0_ : Value, e = .returned (v0_) ∧ Kd.V (Kd.int .i32) 21 w' w.heap.size (fun k_ => (w.heap.size ≤ k_)) (v0_) (r) ∧ Below w.heap.size w w' := decomp_One.says_of k (decomp_One.own k) a0 a1 r w h
theorem decomp_All.calls (k : Nat) (a0 : Bool) (A1 : Option Addr) (c1 : Nat) (l1 : List Int) (r : List Int) (w : World) (hr1 : Kd.C (Kd.int .i32) w A1 l1.length l1) (hc1 : l1.length ≤ c1) (h : decomp_All.f k a0 l1 = some r) :
    Calls Try.prog 31 #[.bool a0, .slice A1 l1.length c1] w fun e w' => ∃ v0_ : Value, e = .returned (v0_) ∧ Kd.R (Kd.int .i32) 21 w' w.heap.size (fun _ => True) v0_ r ∧ Below w.heap.size w w' :=
  decomp_All.calls_of k (fun k1 _ => decomp_One.says_of k1 (decomp_One.own k1)) a0 A1 c1 l1 r w hr1 hc1 h

/-! ### hangul_within: function 82 -/
def hangul_within.f (a0 : Int) (a1 : Int) (a2 : Int) : Option (Bool) := if a0 ≥ a1 then (some (decide (a0 < (wrap32 (a1 + a2))))) else (some false)
set_option maxHeartbeats 8000000 in
set_option maxRecDepth 100000 in
theorem hangul_within.calls (a0 : Int) (a1 : Int) (a2 : Int) (r : Bool) (w : World) (h : hangul_within.f a0 a1 a2 = some r) :
  Calls Try.prog 82 #[.int .i32 a0, .int .i32 a1, .int .i32 a2] w fun e w' => e = .returned (.bool r) ∧ Drawn0 w w' := by
 have H := h
 clear h
 unfold hangul_within.f at H
 by_cases c4 : a0 ≥ a1
 ·rw [if_pos c4] at H
  have c4b0 : decide (a1 ≤ a0) = true := decide_eq_true c4
  clear c4
  obtain rfl := sI H
  go_enter Try.func82, Try.ntmps82
  go_wp2
  go_ret
  exact ⟨zP, zD⟩
 ·rw [if_neg c4] at H
  have c4b0 : decide (a1 ≤ a0) = false := decide_eq_false c4
  clear c4
  obtain rfl := sI H
  go_enter Try.func82, Try.ntmps82
  go_wp2
  go_ret
  exact ⟨zP, zD⟩

/-! ### hangul_Part: function 78 -/
def hangul_Part.j0 : Nat → Int → Bool → Option (Int)
 | 0, _, _ => none
 | k + 1, x0, x12 => if x12 = true then (some 4) else ((hangul_Syllable.f x0).bind fun t218 => (if t218 = true then (some 5) else (some 0)))
def hangul_Part.f (k : Nat) (a0 : Int) : Option (Int) := (hangul_within.f a0 4352 19).bind fun t214 => (if t214 = true then (some 1) else ((hangul_within.f a0 4449 21).bind fun t215 => (if t215 = true then (some 2) else ((hangul_within.f a0 4520 27).bind fun t216 => (if t216 = true then (some 3) else ((hangul_Syllable.f a0).bind fun t217 => (if t217 = true then (hangul_Part.j0 k a0 ((Int.tmod (wrap32 (a0 - 44032)) 28) == 0)) else (hangul_Part.j0 k a0 false))))))))
theorem hangul_Part.mono_l : ∀ k, (∀ y0 y1, LeO (hangul_Part.j0 k y0 y1) (hangul_Part.j0 (k + 1) y0 y1))
 | 0 => fun _ _ r h => by simp [hangul_Part.j0] at h
 | k + 1 => by
  have ih0 := hangul_Part.mono_l k
  ·intro y0 y1
   unfold hangul_Part.j0
   repeat' first
   | (with_reducible exact ih0 _ _)
   | (with_reducible exact LeO.refl _)
   | exact ih0 _ _
   | exact LeO.none _
   | refine LeO.ite ?_ ?_
   | refine LeO.bind ?_ (fun _ => ?_)
theorem hangul_Part.mono : ∀ a0 k, LeO (hangul_Part.f k a0) (hangul_Part.f (k + 1) a0) := by
 intro a0 k
 have ih0 := hangul_Part.mono_l k
 unfold hangul_Part.f
 repeat' first
   | (with_reducible exact ih0 _ _)
   | (with_reducible exact LeO.refl _)
   | exact ih0 _ _
   | exact LeO.none _
   | refine LeO.ite ?_ ?_
   | refine LeO.bind ?_ (fun _ => ?_)
set_option maxHeartbeats 8000000 in
set_option maxRecDepth 100000 in
theorem hangul_Part.calls (k : Nat) (a0 : Int) (r : Int) (w : World) (h : hangul_Part.f k a0 = some r) :
  Calls Try.prog 78 #[.int .i32 a0] w fun e w' => e = .returned (.int .i64 r) ∧ Drawn0 w w' := by
 have H := h
 clear h
 unfold hangul_Part.f at H
 obtain ⟨t214, A2, H⟩ := zO H
 by_cases c3 : t214 = true
 ·subst c3
  rw [if_pos rfl] at H
  obtain rfl := sI H
  go_enter Try.func78, Try.ntmps78
  go_wp2_with (first | ((with_reducible refine gate_callee (f := 82) rfl ?_); refine goesL_ (some 5) rfl rfl Try.func82 zK rfl #[.int .i32 a0, .int .i32 4352, .int .i32 19] rfl zM ?_; (with_reducible refine (hangul_within.calls a0 4352 19 true _ A2.out).mono ?_); rintro e w' ⟨rfl, ⟨nd, rfl⟩⟩; (try clear A2); refine ⟨_, rfl, ?_⟩))
  go_ret
  exact ⟨zP, zD⟩
 ·replace c3 := Bool.eq_false_iff.mpr c3
  subst c3
  rw [if_neg (show ¬ (false = true) by decide)] at H
  obtain ⟨t215, A4, H⟩ := zO H
  by_cases c5 : t215 = true
  ·subst c5
   rw [if_pos rfl] at H
   obtain rfl := sI H
   go_enter Try.func78, Try.ntmps78
   go_wp2_with (first | ((with_reducible refine gate_callee (f := 82) rfl ?_); refine goesL_ (some 5) rfl rfl Try.func82 zK rfl #[.int .i32 a0, .int .i32 4352, .int .i32 19] rfl zM ?_; (with_reducible refine (hangul_within.calls a0 4352 19 false _ A2.out).mono ?_); rintro e w' ⟨rfl, ⟨nd, rfl⟩⟩; (try clear A2); refine ⟨_, rfl, ?_⟩) | ((with_reducible refine gate_callee (f := 82) rfl ?_); refine goesL_ (some 8) rfl rfl Try.func82 zK rfl #[.int .i32 a0, .int .i32 4449, .int .i32 21] rfl zM ?_; (with_reducible refine (hangul_within.calls a0 4449 21 true _ A4.out).mono ?_); rintro e w' ⟨rfl, ⟨nd, rfl⟩⟩; (try clear A4); refine ⟨_, rfl, ?_⟩))
   go_ret
   exact ⟨zP, zD⟩
  ·replace c5 := Bool.eq_false_iff.mpr c5
   subst c5
   rw [if_neg (show ¬ (false = true) by decide)] at H
   obtain ⟨t216, A6, H⟩ := zO H
   by_cases c7 : t216 = true
   ·subst c7
    rw [if_pos rfl] at H
    obtain rfl := sI H
    go_enter Try.func78, Try.ntmps78
    go_wp2_with (first | ((with_reducible refine gate_callee (f := 82) rfl ?_); refine goesL_ (some 5) rfl rfl Try.func82 zK rfl #[.int .i32 a0, .int .i32 4352, .int .i32 19] rfl zM ?_; (with_reducible refine (hangul_within.calls a0 4352 19 false _ A2.out).mono ?_); rintro e w' ⟨rfl, ⟨nd, rfl⟩⟩; (try clear A2); refine ⟨_, rfl, ?_⟩) | ((with_reducible refine gate_callee (f := 82) rfl ?_); refine goesL_ (some 8) rfl rfl Try.func82 zK rfl #[.int .i32 a0, .int .i32 4449, .int .i32 21] rfl zM ?_; (with_reducible refine (hangul_within.calls a0 4449 21 false _ A4.out).mono ?_); rintro e w' ⟨rfl, ⟨nd, rfl⟩⟩; (try clear A4); refine ⟨_, rfl, ?_⟩) | ((with_reducible refine gate_callee (f := 82) rfl ?_); refine goesL_ (some 11) rfl rfl Try.func82 zK rfl #[.int .i32 a0, .int .i32 4520, .int .i32 27] rfl zM ?_; (with_reducible refine (hangul_within.calls a0 4520 27 true _ A6.out).mono ?_); rintro e w' ⟨rfl, ⟨nd, rfl⟩⟩; (try clear A6); refine ⟨_, rfl, ?_⟩))
    go_ret
    exact ⟨zP, zD⟩
   ·replace c7 := Bool.eq_false_iff.mpr c7
    subst c7
    rw [if_neg (show ¬ (false = true) by decide)] at H
    have HC8 := aM H
    clear H
    go_enter Try.func78, Try.ntmps78
    go_upto_region 7 with (first | ((with_reducible refine gate_callee (f := 82) rfl ?_); refine goesL_ (some 5) rfl rfl Try.func82 zK rfl #[.int .i32 a0, .int .i32 4352, .int .i32 19] rfl zM ?_; (with_reducible refine (hangul_within.calls a0 4352 19 false _ A2.out).mono ?_); rintro e w' ⟨rfl, ⟨nd, rfl⟩⟩; (try clear A2); refine ⟨_, rfl, ?_⟩) | ((with_reducible refine gate_callee (f := 82) rfl ?_); refine goesL_ (some 8) rfl rfl Try.func82 zK rfl #[.int .i32 a0, .int .i32 4449, .int .i32 21] rfl zM ?_; (with_reducible refine (hangul_within.calls a0 4449 21 false _ A4.out).mono ?_); rintro e w' ⟨rfl, ⟨nd, rfl⟩⟩; (try clear A4); refine ⟨_, rfl, ?_⟩) | ((with_reducible refine gate_callee (f := 82) rfl ?_); refine goesL_ (some 11) rfl rfl Try.func82 zK rfl #[.int .i32 a0, .int .i32 4520, .int .i32 27] rfl zM ?_; (with_reducible refine (hangul_within.calls a0 4520 27 false _ A6.out).mono ?_); rintro e w' ⟨rfl, ⟨nd, rfl⟩⟩; (try clear A6); refine ⟨_, rfl, ?_⟩))
    (try simp only [Act.put, List.setIfInBounds_toArray, List.set_cons_zero, List.set_cons_succ])
    go_cut [12] (fun v12 wc => ∃ (kq : Nat) (x12_7 : Bool), v12 = .bool x12_7 ∧ Aside0 (hangul_Part.j0 kq a0 x12_7 = some r) ∧ Aside0 (kq ≤ k) ∧ Drawn0 w wc)
    case first =>
     have H := HC8.out
     clear HC8
     obtain ⟨t217, A9, H⟩ := zO H
     by_cases c10 : t217 = true
     ·subst c10
      rw [if_pos rfl] at H
      have H' := aM H
      clear H
      go_wp2_with (first | ((with_reducible refine gate_callee (f := 58) rfl ?_); refine goesL_ (some 14) rfl rfl Try.func58 zK rfl #[.int .i32 a0] rfl zM ?_; (with_reducible refine (hangul_Syllable.calls a0 true _ A9.out).mono ?_); rintro e w' ⟨rfl, ⟨nd, rfl⟩⟩; (try clear A9); refine ⟨_, rfl, ?_⟩))
      go_meet
      case rel => exact ⟨_, (((Int.tmod (wrap32 (a0 - 44032)) 28) == 0)), zP, H', ⟨by first | omega | exact Nat.le_refl _⟩, zD⟩
     ·replace c10 := Bool.eq_false_iff.mpr c10
      subst c10
      rw [if_neg (show ¬ (false = true) by decide)] at H
      have H' := aM H
      clear H
      go_wp2_with (first | ((with_reducible refine gate_callee (f := 58) rfl ?_); refine goesL_ (some 14) rfl rfl Try.func58 zK rfl #[.int .i32 a0] rfl zM ?_; (with_reducible refine (hangul_Syllable.calls a0 false _ A9.out).mono ?_); rintro e w' ⟨rfl, ⟨nd, rfl⟩⟩; (try clear A9); refine ⟨_, rfl, ?_⟩))
      go_meet
      case rel => exact ⟨_, (false), zP, H', ⟨by first | omega | exact Nat.le_refl _⟩, zD⟩
    case rest =>
     clear HC8
     try clear c1
     try clear p2
     try clear c3
     try clear p3
     try clear c5
     try clear c7
     try clear c8
     try clear c10
     obtain ⟨kq, x12_7, rfl, HA, HJ7, ⟨mc7, rfl⟩⟩ := hcut
     cases kq with
     | zero => exact absurd HA.out (by simp [hangul_Part.j0])
     | succ kj7 =>
      have H := HA.out
      clear HA
      simp only [hangul_Part.j0] at H
      by_cases c11 : x12_7 = true
      ·subst c11
       rw [if_pos rfl] at H
       obtain rfl := sI H
       go_wp2
       go_ret
       exact ⟨zP, zD⟩
      ·replace c11 := Bool.eq_false_iff.mpr c11
       subst c11
       rw [if_neg (show ¬ (false = true) by decide)] at H
       obtain ⟨t218, A12, H⟩ := zO H
       by_cases c13 : t218 = true
       ·subst c13
        rw [if_pos rfl] at H
        obtain rfl := sI H
        go_wp2_with (first | ((with_reducible refine gate_callee (f := 58) rfl ?_); refine goesL_ (some 23) rfl rfl Try.func58 zK rfl #[.int .i32 a0] rfl zM ?_; (with_reducible refine (hangul_Syllable.calls a0 true _ A12.out).mono ?_); rintro e w' ⟨rfl, ⟨nd, rfl⟩⟩; (try clear A12); refine ⟨_, rfl, ?_⟩))
        go_ret
        exact ⟨zP, zD⟩
       ·replace c13 := Bool.eq_false_iff.mpr c13
        subst c13
        rw [if_neg (show ¬ (false = true) by decide)] at H
        obtain rfl := sI H
        go_wp2_with (first | ((with_reducible refine gate_callee (f := 58) rfl ?_); refine goesL_ (some 23) rfl rfl Try.func58 zK rfl #[.int .i32 a0] rfl zM ?_; (with_reducible refine (hangul_Syllable.calls a0 false _ A12.out).mono ?_); rintro e w' ⟨rfl, ⟨nd, rfl⟩⟩; (try clear A12); refine ⟨_, rfl, ?_⟩))
        go_ret
        exact ⟨zP, zD⟩

/-! ### hangul_Join: function 63, by hand (hangul.Join.tpl) -/
def hangul_Join.f (k : Nat) (a0 : Int) (a1 : Int) : Option (Int × Bool) := (hangul_Part.f k a0).bind fun t1 => (hangul_Part.f k a1).bind fun t2 => (if t1 = 1 ∧ t2 = 2 then some (wrap32 (44032 + wrap32 (wrap32 (wrap32 (wrap32 (wrap32 (a0 - 4352) * 21) + a1) - 4449) * 28)), true) else if t1 = 4 ∧ t2 = 3 then some (wrap32 (wrap32 (wrap32 (a0 + a1) - 4520) + 1), true) else some (0, false))
theorem hangul_Join.mono : ∀ a0 a1 k, LeO (hangul_Join.f k a0 a1) (hangul_Join.f (k + 1) a0 a1) := by
  intro a0 a1 k
  unfold hangul_Join.f
  repeat' first
      | exact hangul_Part.mono _ _
      | exact LeO.refl _
      | refine LeO.ite ?_ ?_
      | refine LeO.bind ?_ (fun _ => ?_)
set_option maxHeartbeats 8000000 in
set_option maxRecDepth 100000 in
theorem hangul_Join.calls (k : Nat) (a0 : Int) (a1 : Int) (r1 : Int) (r2 : Bool) (w : World) (h : hangul_Join.f k a0 a1 = some (r1, r2)) :
    Calls Try.prog 63 #[.int .i32 a0, .int .i32 a1] w fun e w' => e = .returned (.tuple #[.int .i32 r1, .bool r2]) ∧ Drawn0 w w' := by
  have H := h
  clear h
  unfold hangul_Join.f at H
  replace H := Option.bind_eq_some_iff.mp H
  obtain ⟨t1, A1, H⟩ := H
  replace H := Option.bind_eq_some_iff.mp H
  obtain ⟨t2, A2, H⟩ := H
  have A1' := Aside0.mk A1
  have A2' := Aside0.mk A2
  clear A1 A2
  have hsz : ∀ w, (sizeOf 3).run Try.prog w = .ok 1 w := fun w => by kernel_rfl
  have E1 := fun (w : World) => run_eqA2 (P := Try.prog) w 82 3 Try.underlying82 Try.underlying3 hsz t1 t2 1 2
  have E2 := fun (w : World) => run_eqA2 (P := Try.prog) w 82 3 Try.underlying82 Try.underlying3 hsz t1 t2 4 3
  clear hsz
  by_cases c1 : t1 = 1 ∧ t2 = 2
  · rw [if_pos c1] at H
    have b1 : (t1 == 1 && t2 == 2) = true := by simp [c1]
    simp only [b1] at E1
    clear b1 c1
    simp only [Option.some.injEq, Prod.mk.injEq] at H
    obtain ⟨rfl, rfl⟩ := H
    go_enter Try.func63, Try.ntmps63
    go_wp2_with fail
    (with_reducible refine (hangul_Part.calls k a0 t1 _ A1'.out).mono ?_)
    rintro e w' ⟨rfl, ⟨nd, rfl⟩⟩
    go_wp2_with fail
    (with_reducible refine (hangul_Part.calls k a1 t2 _ A2'.out).mono ?_)
    rintro e w' ⟨rfl, ⟨nd, rfl⟩⟩
    go_wp2
    go_ret2
    exact ⟨by first | rfl | (simp; done) | (simp [*]; done), by repeat (first | exact Drawn0.refl _ | apply Drawn0.step)⟩
  · rw [if_neg c1] at H
    have b1 : (t1 == 1 && t2 == 2) = false := by simpa using c1
    simp only [b1] at E1
    clear b1 c1
    by_cases c2 : t1 = 4 ∧ t2 = 3
    · rw [if_pos c2] at H
      have b1 : (t1 == 4 && t2 == 3) = true := by simp [c2]
      simp only [b1] at E2
      clear b1 c2
      simp only [Option.some.injEq, Prod.mk.injEq] at H
      obtain ⟨rfl, rfl⟩ := H
      go_enter Try.func63, Try.ntmps63
      go_wp2_with fail
      (with_reducible refine (hangul_Part.calls k a0 t1 _ A1'.out).mono ?_)
      rintro e w' ⟨rfl, ⟨nd, rfl⟩⟩
      go_wp2_with fail
      (with_reducible refine (hangul_Part.calls k a1 t2 _ A2'.out).mono ?_)
      rintro e w' ⟨rfl, ⟨nd, rfl⟩⟩
      go_wp2
      go_ret2
      exact ⟨by first | rfl | (simp; done) | (simp [*]; done), by repeat (first | exact Drawn0.refl _ | apply Drawn0.step)⟩
    · rw [if_neg c2] at H
      have b1 : (t1 == 4 && t2 == 3) = false := by simpa using c2
      simp only [b1] at E2
      clear b1 c2
      simp only [Option.some.injEq, Prod.mk.injEq] at H
      obtain ⟨rfl, rfl⟩ := H
      go_enter Try.func63, Try.ntmps63
      go_wp2_with fail
      (with_reducible refine (hangul_Part.calls k a0 t1 _ A1'.out).mono ?_)
      rintro e w' ⟨rfl, ⟨nd, rfl⟩⟩
      go_wp2_with fail
      (with_reducible refine (hangul_Part.calls k a1 t2 _ A2'.out).mono ?_)
      rintro e w' ⟨rfl, ⟨nd, rfl⟩⟩
      go_wp2
      go_ret2
      exact ⟨by first | rfl | (simp; done) | (simp [*]; done), by repeat (first | exact Drawn0.refl _ | apply Drawn0.step)⟩

end Go.Proofs.Ytbffakgmlgimeaa.P
