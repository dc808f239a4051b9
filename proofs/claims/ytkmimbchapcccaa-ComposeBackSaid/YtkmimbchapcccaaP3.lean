-- Printed by wip/mk.py (this session's driver over the kit's print) and from wip/manual.
import Derived.Test.YtkmimbchapcccaaP0
import Derived.Test.YtkmimbchapcccaaP1
import Derived.Test.YtkmimbchapcccaaP2
namespace Go.Proofs.Ytkmimbchapcccaa.P
open Go.RowKit Go.Proofs.YtkmimbchapcccaaW.PrintWords Go.Proofs.YtkmimbchapcccaaW.PrintLast Go.Proofs.YtkmimbchapcccaaW.PrintMore
attribute [local go_sem] max2_int min2_int max_two min_two max_three min_three max_four min_four   -- for this text's walks alone
set_option linter.unusedVariables false
set_option linter.unusedSimpArgs false

/-! ### letters_find: function 37, by hand (letters.find.tpl) -/
def letters_find.l0 : Nat → ByteArray → Int → Int → Nat → Option Int
  | 0, _, _, _, _ => none
  | k + 1, x0, x1, x5, pos => if pos < x0.size then (if ((Utf8.decode x0 pos).1 : Int) = x1 then some x5 else letters_find.l0 k x0 x1 (wrap64 (x5 + 1)) (pos + (Utf8.decode x0 pos).2)) else some (-1)
def letters_find.f (k : Nat) (a0 : ByteArray) (a1 : Int) : Option Int := letters_find.l0 k a0 a1 0 0
theorem letters_find.mono_l : ∀ k, (∀ y0 y1 y2 y3, LeO (letters_find.l0 k y0 y1 y2 y3) (letters_find.l0 (k + 1) y0 y1 y2 y3))
  | 0 => fun _ _ _ _ r h => by simp [letters_find.l0] at h
  | k + 1 => by
    have ih0 := letters_find.mono_l k
    intro y0 y1 y2 y3
    unfold letters_find.l0
    repeat' first
      | exact ih0 _ _ _ _
      | exact LeO.refl _
      | refine LeO.ite ?_ ?_
theorem letters_find.mono : ∀ a0 a1 k, LeO (letters_find.f k a0 a1) (letters_find.f (k + 1) a0 a1) := fun a0 a1 k => letters_find.mono_l k _ _ _ _
set_option maxHeartbeats 8000000 in
set_option maxRecDepth 100000 in
theorem letters_find.calls (k : Nat) (a0 : ByteArray) (a1 : Int) (r : Int) (w : World) (h : letters_find.f k a0 a1 = some r) :
    Calls Try.prog 37 #[.string a0, .int .i32 a1] w fun e w' => e = .returned (.int .i64 r) ∧ Below w.heap.size w w' := by
  have H' := Aside0.mk h
  clear h
  go_enter Try.func37, Try.ntmps37
  go_wp2
  go_loopg [5] k (fun kq v5 w' => ∃ (x5 : Int) (pos : Nat), v5 = .int .i64 x5 ∧ Aside0 (letters_find.l0 kq a0 a1 x5 pos = some r) ∧ Aside0 (kq ≤ k) ∧ w' = w.iter a0 pos)
  case atStart => exact ⟨_, 0, rfl, H', ⟨Nat.le_refl _⟩, rfl⟩
  case round =>
    clear H'
    obtain ⟨x5, pos, rfl, HA, HK, rfl⟩ := hrel
    cases gk with
    | zero => exact absurd HA.out (by simp [letters_find.l0])
    | succ k1 =>
      have H := HA.out
      clear HA
      simp only [letters_find.l0] at H
      by_cases d1 : pos < a0.size
      · rw [if_pos d1] at H
        have hnx : ∀ ty, (Instr.next (.pointer (some ⟨w.heap.size, 0, none⟩)) true ty).run Try.prog (w.iter a0 pos) = _ := fun ty => run_next_any w a0 pos ty d1
        by_cases d2 : ((Utf8.decode a0 pos).1 : Int) = a1
        · rw [if_pos d2] at H
          obtain rfl := Option.some.inj H
          clear H
          have b1 : (((Utf8.decode a0 pos).1 : Int) == a1) = true := beq_iff_eq.mpr d2
          clear d1 d2
          go_wp2
          go_ret
          exact ⟨rfl, below_alloc (Below.refl _ _) _⟩
        · rw [if_neg d2] at H
          have H' := Aside0.mk H
          clear H
          have b1 : (((Utf8.decode a0 pos).1 : Int) == a1) = false := beq_eq_false_iff_ne.mpr d2
          clear d1 d2
          go_wp2
          go_roundg k1
          case measure => have := HK.out; omega
          case rel => exact ⟨_, _, rfl, H', ⟨by have := HK.out; omega⟩, rfl⟩
      · rw [if_neg d1] at H
        obtain rfl := Option.some.inj H
        clear H
        have hnx : ∀ ty, (Instr.next (.pointer (some ⟨w.heap.size, 0, none⟩)) true ty).run Try.prog (w.iter a0 pos) = _ := fun ty => run_next_end w a0 pos ty d1
        clear d1
        go_wp2
        go_ret
        exact ⟨rfl, below_alloc (Below.refl _ _) _⟩

/-! ### letters_nth: function 38, by hand (letters.nth.tpl) -/
def letters_nth.l0 : Nat → ByteArray → Int → Nat → Option Int
  | 0, _, _, _ => none
  | k + 1, x0, x1, pos => if pos < x0.size then (if x1 = 0 then some ((Utf8.decode x0 pos).1 : Int) else letters_nth.l0 k x0 (wrap64 (x1 - 1)) (pos + (Utf8.decode x0 pos).2)) else some 0
def letters_nth.f (k : Nat) (a0 : ByteArray) (a1 : Int) : Option Int := letters_nth.l0 k a0 a1 0
theorem letters_nth.mono_l : ∀ k, (∀ y0 y1 y2, LeO (letters_nth.l0 k y0 y1 y2) (letters_nth.l0 (k + 1) y0 y1 y2))
  | 0 => fun _ _ _ r h => by simp [letters_nth.l0] at h
  | k + 1 => by
    have ih0 := letters_nth.mono_l k
    intro y0 y1 y2
    unfold letters_nth.l0
    repeat' first
      | exact ih0 _ _ _
      | exact LeO.refl _
      | refine LeO.ite ?_ ?_
theorem letters_nth.mono : ∀ a0 a1 k, LeO (letters_nth.f k a0 a1) (letters_nth.f (k + 1) a0 a1) := fun a0 a1 k => letters_nth.mono_l k _ _ _
set_option maxHeartbeats 8000000 in
set_option maxRecDepth 100000 in
theorem letters_nth.calls (k : Nat) (a0 : ByteArray) (a1 : Int) (r : Int) (w : World) (h : letters_nth.f k a0 a1 = some r) :
    Calls Try.prog 38 #[.string a0, .int .i64 a1] w fun e w' => e = .returned (.int .i32 r) ∧ Below w.heap.size w w' := by
  have H' := Aside0.mk h
  clear h
  go_enter Try.func38, Try.ntmps38
  go_wp2
  go_loopg [1] k (fun kq v5 w' => ∃ (x5 : Int) (pos : Nat), v5 = .int .i64 x5 ∧ Aside0 (letters_nth.l0 kq a0 x5 pos = some r) ∧ Aside0 (kq ≤ k) ∧ w' = w.iter a0 pos)
  case atStart => exact ⟨_, 0, rfl, H', ⟨Nat.le_refl _⟩, rfl⟩
  case round =>
    clear H'
    obtain ⟨x5, pos, rfl, HA, HK, rfl⟩ := hrel
    cases gk with
    | zero => exact absurd HA.out (by simp [letters_nth.l0])
    | succ k1 =>
      have H := HA.out
      clear HA
      simp only [letters_nth.l0] at H
      by_cases d1 : pos < a0.size
      · rw [if_pos d1] at H
        have hnx : ∀ ty, (Instr.next (.pointer (some ⟨w.heap.size, 0, none⟩)) true ty).run Try.prog (w.iter a0 pos) = _ := fun ty => run_next_any w a0 pos ty d1
        by_cases d2 : x5 = 0
        · rw [if_pos d2] at H
          obtain rfl := Option.some.inj H
          clear H
          have b1 : (x5 == 0) = true := beq_iff_eq.mpr d2
          clear d1 d2
          go_wp2
          go_ret
          exact ⟨rfl, below_alloc (Below.refl _ _) _⟩
        · rw [if_neg d2] at H
          have H' := Aside0.mk H
          clear H
          have b1 : (x5 == 0) = false := beq_eq_false_iff_ne.mpr d2
          clear d1 d2
          go_wp2
          go_roundg k1
          case measure => have := HK.out; omega
          case rel => exact ⟨_, _, rfl, H', ⟨by have := HK.out; omega⟩, rfl⟩
      · rw [if_neg d1] at H
        obtain rfl := Option.some.inj H
        clear H
        have hnx : ∀ ty, (Instr.next (.pointer (some ⟨w.heap.size, 0, none⟩)) true ty).run Try.prog (w.iter a0 pos) = _ := fun ty => run_next_end w a0 pos ty d1
        clear d1
        go_wp2
        go_ret
        exact ⟨rfl, below_alloc (Below.refl _ _) _⟩

/-! ### letters_Made: function 21 -/
def letters_Made.l0 : Nat → Int → Int → List (S47) → Int → Int → Option (Int)
  | 0, _, _, _, _, _ => none
  | k + 1, x0, x1, x8, x9, x10 => if x10 < x9 then (if 0 ≤ x10 then (if x10 < (x8.length : Int) then ((letters_find.f k ((rd_T47 x8 x10).f2) x0).bind fun t115 => (if ((rd_T47 x8 x10).f0) = x1 then (if t115 ≥ 0 then ((letters_nth.f k ((rd_T47 x8 x10).f1) t115).bind fun t116 => (some t116)) else (letters_Made.l0 k x0 x1 x8 x9 (wrap64 (x10 + 1)))) else (letters_Made.l0 k x0 x1 x8 x9 (wrap64 (x10 + 1))))) else (none)) else (none)) else (some 0)
def letters_Made.f (k : Nat) (a0 : Int) (a1 : Int) : Option (Int) := (letters_Rows.f).bind fun t110 => (letters_Made.l0 k a0 a1 t110 (t110.length : Int) 0)
theorem letters_Made.mono_l : ∀ k, (∀ y0 y1 y2 y3 y4, LeO (letters_Made.l0 k y0 y1 y2 y3 y4) (letters_Made.l0 (k + 1) y0 y1 y2 y3 y4))
  | 0 => fun _ _ _ _ _ r h => by simp [letters_Made.l0] at h
  | k + 1 => by
    have ih0 := letters_Made.mono_l k
    · intro y0 y1 y2 y3 y4
      unfold letters_Made.l0
      repeat' first
      | (with_reducible exact ih0 _ _ _ _ _)
      | (with_reducible exact letters_find.mono _ _ _)
      | (with_reducible exact letters_nth.mono _ _ _)
      | (with_reducible exact LeO.refl _)
      | (with_reducible exact LeO.none _)
      | (with_reducible refine LeO.ite ?_ ?_)
      | (with_reducible refine LeO.bind ?_ (fun _ => ?_))
      | exact ih0 _ _ _ _ _
      | exact letters_find.mono _ _ _
      | exact letters_nth.mono _ _ _
      | exact LeO.none _
      | refine LeO.ite ?_ ?_
      | refine LeO.bind ?_ (fun _ => ?_)
theorem letters_Made.mono : ∀ a0 a1 k, LeO (letters_Made.f k a0 a1) (letters_Made.f (k + 1) a0 a1) := by
  intro a0 a1 k
  have ih0 := letters_Made.mono_l k
  unfold letters_Made.f
  repeat' first
      | (with_reducible exact ih0 _ _ _ _ _)
      | (with_reducible exact letters_find.mono _ _ _)
      | (with_reducible exact letters_nth.mono _ _ _)
      | (with_reducible exact LeO.refl _)
      | (with_reducible exact LeO.none _)
      | (with_reducible refine LeO.ite ?_ ?_)
      | (with_reducible refine LeO.bind ?_ (fun _ => ?_))
      | exact ih0 _ _ _ _ _
      | exact letters_find.mono _ _ _
      | exact letters_nth.mono _ _ _
      | exact LeO.none _
      | refine LeO.ite ?_ ?_
      | refine LeO.bind ?_ (fun _ => ?_)
set_option maxHeartbeats 8000000 in
set_option maxRecDepth 100000 in
theorem letters_Made.calls (k : Nat) (a0 : Int) (a1 : Int) (r : Int) (w : World) (h : letters_Made.f k a0 a1 = some r) :
    Calls Try.prog 21 #[.int .i32 a0, .int .i32 a1] w fun e w' => e = .returned (.int .i32 r) ∧ Below w.heap.size w w' := by
  have hu47 := Try.underlying47
  have HB := Aside0.mk (Below.refl w.heap.size w)
  have H : ((letters_Rows.f).bind fun t110 => (letters_Made.l0 k a0 a1 t110 (t110.length : Int) 0)) = some r := h
  clear h
  replace H := Option.bind_eq_some_iff.mp H
  obtain ⟨t110, A30, H⟩ := H
  replace H : (letters_Made.l0 k a0 a1 t110 (t110.length : Int) 0) = some r := H
  have A3 := Aside0.mk A30
  clear A30
  have H' := Aside0.mk H
  clear H
  go_enter Try.func21, Try.ntmps21
  go_wp2_with (first | ((with_reducible refine gate_callee (f := 36) rfl ?_); refine goesL_ (some 8) rfl rfl Try.func36 (by kernel_rfl) rfl #[] rfl (by (try simp only [List.map_toArray, List.map_cons, List.map_nil]); first | done | rfl | (simp only [List.length_drop, List.length_take]; rfl)) ?_; (with_reducible refine (letters_Rows.calls  t110 _ A3.out).mono ?_); rintro e w4 ⟨v111, rfl, ho0, hb⟩; refine ⟨_, rfl, ?_⟩; have n0_ := Aside0.mk (Kd.R_lower ho0 (below_size (by repeat (first | (with_reducible first | exact HB.out | apply below_alloc | apply pw_below_drewN | apply below_drew1) | exact HB.out)))); have n1_ := Aside0.mk (below_step (by repeat (first | (with_reducible first | exact HB.out | apply below_alloc | apply pw_below_drewN | apply below_drew1) | exact HB.out)) hb); clear HB; have HO112 := n0_; have HB := n1_; clear n0_ n1_; (try clear hb); (try clear hb2); (try clear hk); (try clear hi); (try clear ho0); obtain ⟨Ao5, co5, eo5⟩ := Kd.R_slice HO112.out; subst eo5))
  go_loopg [10] k (fun kq v10 w' => ∃ (x10_1 : Int), v10 = .int .i64 x10_1 ∧ Aside0 (letters_Made.l0 kq a0 a1 t110 (t110.length : Int) x10_1 = some r) ∧ Aside0 (kq ≤ k) ∧ Aside0 (Kd.R k47 47 w' w.heap.size (fun _ => True) (.slice Ao5 t110.length co5) t110) ∧ Aside0 (Below w.heap.size w w'))
  case atStart => exact ⟨(0), (by first | rfl | (simp; done) | (simp [*]; done)), H', ⟨Nat.le_refl _⟩, ⟨by (with_reducible repeat (first | apply Kd.R_alloc | apply Kd.R_drewN | apply Kd.R_drew)); exact HO112.out⟩, ⟨by repeat (first | (with_reducible first | exact HB.out | apply below_alloc | apply pw_below_drewN | apply below_drew1) | exact HB.out)⟩⟩
  case round =>
    clear H'
    try clear c2
    try clear p2
    try clear c3
    obtain ⟨x10_1, rfl, HA, HK1, HO_8, HB⟩ := hrel
    cases gk with
    | zero => exact absurd HA.out (by simp [letters_Made.l0])
    | succ k1 =>
      have H := HA.out
      clear HA
      simp only [letters_Made.l0] at H
      by_cases c6 : x10_1 < (t110.length : Int)
      · rw [if_pos c6] at H
        have c6b0 : decide (x10_1 < (t110.length : Int)) = true := decide_eq_true c6
        clear c6
        by_cases c7 : 0 ≤ x10_1
        · rw [if_pos c7] at H
          have c7b0 : decide (0 ≤ x10_1) = true := decide_eq_true c7
          clear c7
          by_cases c8 : x10_1 < (t110.length : Int)
          · rw [if_pos c8] at H
            have c8b0 : decide (x10_1 < (t110.length : Int)) = true := decide_eq_true c8
            clear c8
            replace H := Option.bind_eq_some_iff.mp H
            obtain ⟨t115, A90, H⟩ := H
            replace H : (if ((rd_T47 t110 x10_1).f0) = a1 then (if t115 ≥ 0 then ((letters_nth.f k1 ((rd_T47 t110 x10_1).f1) t115).bind fun t116 => (some t116)) else (letters_Made.l0 k1 a0 a1 t110 (t110.length : Int) (wrap64 (x10_1 + 1)))) else (letters_Made.l0 k1 a0 a1 t110 (t110.length : Int) (wrap64 (x10_1 + 1)))) = some r := H
            have A9 := Aside0.mk A90
            clear A90
            by_cases c10 : ((rd_T47 t110 x10_1).f0) = a1
            · rw [if_pos c10] at H
              have c10b0 : (((rd_T47 t110 x10_1).f0) == a1) = true := beq_iff_eq.mpr c10
              have c10b1 : (((rd_T47 t110 x10_1).f0) != a1) = false := bne_eq_false_iff_eq.mpr c10
              clear c10
              by_cases c11 : t115 ≥ 0
              · rw [if_pos c11] at H
                have c11b0 : decide (0 ≤ t115) = true := decide_eq_true c11
                clear c11
                replace H := Option.bind_eq_some_iff.mp H
                obtain ⟨t116, A120, H⟩ := H
                replace H : (some t116) = some r := H
                have A12 := Aside0.mk A120
                clear A120
                obtain rfl := Option.some.inj H
                have p113 : 0 ≤ (x10_1 : Int) := of_decide_eq_true (by first | (with_reducible assumption) | assumption)
                have q113 : x10_1 < (t110.length : Int) := of_decide_eq_true (by first | (with_reducible assumption) | assumption)
                obtain ⟨ad113, e113, hx113_0, hx113_1, hx113_2⟩ := at_T47 (Kd.R_reads' HO_8.out).2.2 x10_1 p113 q113
                cases e113
                replace p113 := eq_true p113
                replace q113 := eq_true q113
                go_wp2_with (first | ((with_reducible refine gate_dst (N := 6) rfl ?_); refine box_event ?hg (N := 6) ?hd (cs := #[.int .i32 0, .string (⟨#[]⟩ : ByteArray), .string (⟨#[]⟩ : ByteArray)]) (t := 47) ?hr ?_; (case hd => rfl); (case hg => rfl); (case hr => first | (go_simp; done) | (go_simp; rfl)); intro gb114 hg w13 hbox hb; have n0_ := Aside0.mk (Kd.R_below (Kd.R_elderB (by (with_reducible repeat (first | apply Kd.R_alloc | apply Kd.R_drewN | apply Kd.R_drew)); exact HO_8.out) gb114 (Nat.le_of_eq hg.symm)) hb); have n1_ := Aside0.mk (below_step (by repeat (first | (with_reducible first | exact HB.out | apply below_alloc | apply pw_below_drewN | apply below_drew1) | exact HB.out)) hb); have n2_ := Aside0.mk (hbox); have n3_ := Aside0.mk ((by rw [hg]; exact (below_size (by repeat (first | (with_reducible first | exact HB.out | apply below_alloc | apply pw_below_drewN | apply below_drew1) | exact HB.out))) : w.heap.size ≤ gb114)); have n4_ := Aside0.mk ((by rw [hg]; exact (below_size (by repeat (first | (with_reducible first | exact HB.out | apply below_alloc | apply pw_below_drewN | apply below_drew1) | exact HB.out))) : w.heap.size ≤ gb114)); clear HO_8; clear HB; have HO_8 := n0_; have HB := n1_; have BK114 := n2_; have GW114 := n3_; have GE114 := n4_; clear n0_ n1_ n2_ n3_ n4_; clear hb hbox hg; have hcz14_0 : w13.cell? ⟨gb114, 0, none⟩ = some (.int .i32 0) := (blk_cell BK114.out 0).trans rfl; have hcz14_1 : w13.cell? ⟨gb114, 1, none⟩ = some (.string (⟨#[]⟩ : ByteArray)) := (blk_cell BK114.out 1).trans rfl; have hcz14_2 : w13.cell? ⟨gb114, 2, none⟩ = some (.string (⟨#[]⟩ : ByteArray)) := (blk_cell BK114.out 2).trans rfl; have hfz14_0 := blk_frozen BK114.out 0; have hfz14_1 := blk_frozen BK114.out 1; have hfz14_2 := blk_frozen BK114.out 2) | ((with_reducible refine gate_callee (f := 37) rfl ?_); refine goesL_ (some 17) rfl rfl Try.func37 (by kernel_rfl) rfl #[.string ((rd_T47 t110 x10_1).f2), .int .i32 a0] rfl (by (try simp only [List.map_toArray, List.map_cons, List.map_nil]); first | done | rfl | (simp only [List.length_drop, List.length_take]; rfl)) ?_; (with_reducible refine (letters_find.calls k1 ((rd_T47 t110 x10_1).f2) a0 t115 _ A9.out).mono ?_); rintro e w15 ⟨rfl, hb⟩; refine ⟨_, rfl, ?_⟩; have n0_ := Aside0.mk (Kd.R_below (by (with_reducible repeat (first | apply Kd.R_alloc | apply Kd.R_drewN | apply Kd.R_drew)); exact (Kd.R_mono (Kd.R_far (p := ⟨gb114, 2, none⟩) (Kd.R_far (p := ⟨gb114, 1, none⟩) (Kd.R_far (p := ⟨gb114, 0, none⟩) (Kd.R_mono HO_8.out (fun k_ hk => (⟨hk, hk.2⟩ : _ ∧ k_ ≠ gb114))) (fun _ hk => hk.2) (.int .i32 ((rd_T47 t110 x10_1).f0))) (fun _ hk => hk.2) (.string ((rd_T47 t110 x10_1).f1))) (fun _ hk => hk.2) (.string ((rd_T47 t110 x10_1).f2))) (fun _ h_ => h_.1))) hb); have n1_ := Aside0.mk (blk_below (g := gb114) (o := .cells #[.int .i32 ((rd_T47 t110 x10_1).f0), .string ((rd_T47 t110 x10_1).f1), .string ((rd_T47 t110 x10_1).f2)] 47 (0, 0)) (by (with_reducible repeat (first | refine blk_drewN ?_ _ | refine blk_drew ?_ | refine blk_alloc ?_ _)); refine blk_put (cs := #[.int .i32 ((rd_T47 t110 x10_1).f0), .string ((rd_T47 t110 x10_1).f1), .string (⟨#[]⟩ : ByteArray)]) ?_ 2 _ rfl; (with_reducible repeat (first | refine blk_drewN ?_ _ | refine blk_drew ?_ | refine blk_alloc ?_ _)); refine blk_put (cs := #[.int .i32 ((rd_T47 t110 x10_1).f0), .string (⟨#[]⟩ : ByteArray), .string (⟨#[]⟩ : ByteArray)]) ?_ 1 _ rfl; (with_reducible repeat (first | refine blk_drewN ?_ _ | refine blk_drew ?_ | refine blk_alloc ?_ _)); refine blk_put (cs := #[.int .i32 0, .string (⟨#[]⟩ : ByteArray), .string (⟨#[]⟩ : ByteArray)]) ?_ 0 _ rfl; (with_reducible repeat (first | refine blk_drewN ?_ _ | refine blk_drew ?_ | refine blk_alloc ?_ _)); exact BK114.out) hb); have n2_ := Aside0.mk (below_step (by repeat (first | (with_reducible first | exact HB.out | apply below_alloc | apply pw_below_drewN | apply below_drew1 | refine below_set ?_ GE114.out) | exact HB.out)) hb); clear HO_8; clear BK114; clear HB; have HO_8 := n0_; have BK114 := n1_; have HB := n2_; clear n0_ n1_ n2_; (try clear hb); (try clear hb2); (try clear hk); (try clear hi); have hcz16_0 : w15.cell? ⟨gb114, 0, none⟩ = some (.int .i32 ((rd_T47 t110 x10_1).f0)) := (blk_cell BK114.out 0).trans rfl; have hcz16_1 : w15.cell? ⟨gb114, 1, none⟩ = some (.string ((rd_T47 t110 x10_1).f1)) := (blk_cell BK114.out 1).trans rfl; have hcz16_2 : w15.cell? ⟨gb114, 2, none⟩ = some (.string ((rd_T47 t110 x10_1).f2)) := (blk_cell BK114.out 2).trans rfl; have hfz16_0 := blk_frozen BK114.out 0; have hfz16_1 := blk_frozen BK114.out 1; have hfz16_2 := blk_frozen BK114.out 2) | ((with_reducible refine gate_callee (f := 38) rfl ?_); refine goesL_ (some 29) rfl rfl Try.func38 (by kernel_rfl) rfl #[.string ((rd_T47 t110 x10_1).f1), .int .i64 t115] rfl (by (try simp only [List.map_toArray, List.map_cons, List.map_nil]); first | done | rfl | (simp only [List.length_drop, List.length_take]; rfl)) ?_; (with_reducible refine (letters_nth.calls k1 ((rd_T47 t110 x10_1).f1) t115 t116 _ A12.out).mono ?_); rintro e w17 ⟨rfl, hb⟩; refine ⟨_, rfl, ?_⟩; have n0_ := Aside0.mk (Kd.R_below (by (with_reducible repeat (first | apply Kd.R_alloc | apply Kd.R_drewN | apply Kd.R_drew)); exact HO_8.out) hb); have n1_ := Aside0.mk (blk_below (g := gb114) (o := .cells #[.int .i32 ((rd_T47 t110 x10_1).f0), .string ((rd_T47 t110 x10_1).f1), .string ((rd_T47 t110 x10_1).f2)] 47 (0, 0)) (by (with_reducible repeat (first | refine blk_drewN ?_ _ | refine blk_drew ?_ | refine blk_alloc ?_ _)); exact BK114.out) hb); have n2_ := Aside0.mk (below_step (by repeat (first | (with_reducible first | exact HB.out | apply below_alloc | apply pw_below_drewN | apply below_drew1 | refine below_set ?_ GE114.out) | exact HB.out)) hb); clear HO_8; clear BK114; clear HB; have HO_8 := n0_; have BK114 := n1_; have HB := n2_; clear n0_ n1_ n2_; (try clear hb); (try clear hb2); (try clear hk); (try clear hi)))
                go_ret
                exact ⟨by first | rfl | (simp [errW_none, errW_some] <;> rfl) | (simp [*, errW_none, errW_some] <;> rfl), by repeat (first | (with_reducible first | exact HB.out | apply below_alloc | apply pw_below_drewN | apply below_drew1 | refine below_set ?_ GE114.out) | exact HB.out)⟩
              · rw [if_neg c11] at H
                have c11b0 : decide (0 ≤ t115) = false := decide_eq_false c11
                clear c11
                have H' := Aside0.mk H
                clear H
                have p113 : 0 ≤ (x10_1 : Int) := of_decide_eq_true (by first | (with_reducible assumption) | assumption)
                have q113 : x10_1 < (t110.length : Int) := of_decide_eq_true (by first | (with_reducible assumption) | assumption)
                obtain ⟨ad113, e113, hx113_0, hx113_1, hx113_2⟩ := at_T47 (Kd.R_reads' HO_8.out).2.2 x10_1 p113 q113
                cases e113
                replace p113 := eq_true p113
                replace q113 := eq_true q113
                go_wp2_with (first | ((with_reducible refine gate_dst (N := 6) rfl ?_); refine box_event ?hg (N := 6) ?hd (cs := #[.int .i32 0, .string (⟨#[]⟩ : ByteArray), .string (⟨#[]⟩ : ByteArray)]) (t := 47) ?hr ?_; (case hd => rfl); (case hg => rfl); (case hr => first | (go_simp; done) | (go_simp; rfl)); intro gb114 hg w18 hbox hb; have n0_ := Aside0.mk (Kd.R_below (Kd.R_elderB (by (with_reducible repeat (first | apply Kd.R_alloc | apply Kd.R_drewN | apply Kd.R_drew)); exact HO_8.out) gb114 (Nat.le_of_eq hg.symm)) hb); have n1_ := Aside0.mk (below_step (by repeat (first | (with_reducible first | exact HB.out | apply below_alloc | apply pw_below_drewN | apply below_drew1) | exact HB.out)) hb); have n2_ := Aside0.mk (hbox); have n3_ := Aside0.mk ((by rw [hg]; exact (below_size (by repeat (first | (with_reducible first | exact HB.out | apply below_alloc | apply pw_below_drewN | apply below_drew1) | exact HB.out))) : w.heap.size ≤ gb114)); have n4_ := Aside0.mk ((by rw [hg]; exact (below_size (by repeat (first | (with_reducible first | exact HB.out | apply below_alloc | apply pw_below_drewN | apply below_drew1) | exact HB.out))) : w.heap.size ≤ gb114)); clear HO_8; clear HB; have HO_8 := n0_; have HB := n1_; have BK114 := n2_; have GW114 := n3_; have GE114 := n4_; clear n0_ n1_ n2_ n3_ n4_; clear hb hbox hg; have hcz19_0 : w18.cell? ⟨gb114, 0, none⟩ = some (.int .i32 0) := (blk_cell BK114.out 0).trans rfl; have hcz19_1 : w18.cell? ⟨gb114, 1, none⟩ = some (.string (⟨#[]⟩ : ByteArray)) := (blk_cell BK114.out 1).trans rfl; have hcz19_2 : w18.cell? ⟨gb114, 2, none⟩ = some (.string (⟨#[]⟩ : ByteArray)) := (blk_cell BK114.out 2).trans rfl; have hfz19_0 := blk_frozen BK114.out 0; have hfz19_1 := blk_frozen BK114.out 1; have hfz19_2 := blk_frozen BK114.out 2) | ((with_reducible refine gate_callee (f := 37) rfl ?_); refine goesL_ (some 17) rfl rfl Try.func37 (by kernel_rfl) rfl #[.string ((rd_T47 t110 x10_1).f2), .int .i32 a0] rfl (by (try simp only [List.map_toArray, List.map_cons, List.map_nil]); first | done | rfl | (simp only [List.length_drop, List.length_take]; rfl)) ?_; (with_reducible refine (letters_find.calls k1 ((rd_T47 t110 x10_1).f2) a0 t115 _ A9.out).mono ?_); rintro e w20 ⟨rfl, hb⟩; refine ⟨_, rfl, ?_⟩; have n0_ := Aside0.mk (Kd.R_below (by (with_reducible repeat (first | apply Kd.R_alloc | apply Kd.R_drewN | apply Kd.R_drew)); exact (Kd.R_mono (Kd.R_far (p := ⟨gb114, 2, none⟩) (Kd.R_far (p := ⟨gb114, 1, none⟩) (Kd.R_far (p := ⟨gb114, 0, none⟩) (Kd.R_mono HO_8.out (fun k_ hk => (⟨hk, hk.2⟩ : _ ∧ k_ ≠ gb114))) (fun _ hk => hk.2) (.int .i32 ((rd_T47 t110 x10_1).f0))) (fun _ hk => hk.2) (.string ((rd_T47 t110 x10_1).f1))) (fun _ hk => hk.2) (.string ((rd_T47 t110 x10_1).f2))) (fun _ h_ => h_.1))) hb); have n1_ := Aside0.mk (blk_below (g := gb114) (o := .cells #[.int .i32 ((rd_T47 t110 x10_1).f0), .string ((rd_T47 t110 x10_1).f1), .string ((rd_T47 t110 x10_1).f2)] 47 (0, 0)) (by (with_reducible repeat (first | refine blk_drewN ?_ _ | refine blk_drew ?_ | refine blk_alloc ?_ _)); refine blk_put (cs := #[.int .i32 ((rd_T47 t110 x10_1).f0), .string ((rd_T47 t110 x10_1).f1), .string (⟨#[]⟩ : ByteArray)]) ?_ 2 _ rfl; (with_reducible repeat (first | refine blk_drewN ?_ _ | refine blk_drew ?_ | refine blk_alloc ?_ _)); refine blk_put (cs := #[.int .i32 ((rd_T47 t110 x10_1).f0), .string (⟨#[]⟩ : ByteArray), .string (⟨#[]⟩ : ByteArray)]) ?_ 1 _ rfl; (with_reducible repeat (first | refine blk_drewN ?_ _ | refine blk_drew ?_ | refine blk_alloc ?_ _)); refine blk_put (cs := #[.int .i32 0, .string (⟨#[]⟩ : ByteArray), .string (⟨#[]⟩ : ByteArray)]) ?_ 0 _ rfl; (with_reducible repeat (first | refine blk_drewN ?_ _ | refine blk_drew ?_ | refine blk_alloc ?_ _)); exact BK114.out) hb); have n2_ := Aside0.mk (below_step (by repeat (first | (with_reducible first | exact HB.out | apply below_alloc | apply pw_below_drewN | apply below_drew1 | refine below_set ?_ GE114.out) | exact HB.out)) hb); clear HO_8; clear BK114; clear HB; have HO_8 := n0_; have BK114 := n1_; have HB := n2_; clear n0_ n1_ n2_; (try clear hb); (try clear hb2); (try clear hk); (try clear hi); have hcz21_0 : w20.cell? ⟨gb114, 0, none⟩ = some (.int .i32 ((rd_T47 t110 x10_1).f0)) := (blk_cell BK114.out 0).trans rfl; have hcz21_1 : w20.cell? ⟨gb114, 1, none⟩ = some (.string ((rd_T47 t110 x10_1).f1)) := (blk_cell BK114.out 1).trans rfl; have hcz21_2 : w20.cell? ⟨gb114, 2, none⟩ = some (.string ((rd_T47 t110 x10_1).f2)) := (blk_cell BK114.out 2).trans rfl; have hfz21_0 := blk_frozen BK114.out 0; have hfz21_1 := blk_frozen BK114.out 1; have hfz21_2 := blk_frozen BK114.out 2))
                go_roundg k1
                case measure => have := HK1.out; omega
                case rel => exact ⟨(wrap64 (x10_1 + 1)), (by first | rfl | (simp; done) | (simp [*]; done)), H', ⟨by have := HK1.out; omega⟩, ⟨by (with_reducible repeat (first | apply Kd.R_alloc | apply Kd.R_drewN | apply Kd.R_drew)); exact Kd.R_mono HO_8.out (fun _ hk => trivial)⟩, ⟨by repeat (first | (with_reducible first | exact HB.out | apply below_alloc | apply pw_below_drewN | apply below_drew1 | refine below_set ?_ GE114.out) | exact HB.out)⟩⟩
            · rw [if_neg c10] at H
              have c10b0 : (((rd_T47 t110 x10_1).f0) == a1) = false := beq_eq_false_iff_ne.mpr c10
              have c10b1 : (((rd_T47 t110 x10_1).f0) != a1) = true := bne_iff_ne.mpr c10
              have H' := Aside0.mk H
              clear H
              have p113 : 0 ≤ (x10_1 : Int) := of_decide_eq_true (by first | (with_reducible assumption) | assumption)
              have q113 : x10_1 < (t110.length : Int) := of_decide_eq_true (by first | (with_reducible assumption) | assumption)
              obtain ⟨ad113, e113, hx113_0, hx113_1, hx113_2⟩ := at_T47 (Kd.R_reads' HO_8.out).2.2 x10_1 p113 q113
              cases e113
              replace p113 := eq_true p113
              replace q113 := eq_true q113
              go_wp2_with (first | ((with_reducible refine gate_dst (N := 6) rfl ?_); refine box_event ?hg (N := 6) ?hd (cs := #[.int .i32 0, .string (⟨#[]⟩ : ByteArray), .string (⟨#[]⟩ : ByteArray)]) (t := 47) ?hr ?_; (case hd => rfl); (case hg => rfl); (case hr => first | (go_simp; done) | (go_simp; rfl)); intro gb114 hg w22 hbox hb; have n0_ := Aside0.mk (Kd.R_below (Kd.R_elderB (by (with_reducible repeat (first | apply Kd.R_alloc | apply Kd.R_drewN | apply Kd.R_drew)); exact HO_8.out) gb114 (Nat.le_of_eq hg.symm)) hb); have n1_ := Aside0.mk (below_step (by repeat (first | (with_reducible first | exact HB.out | apply below_alloc | apply pw_below_drewN | apply below_drew1) | exact HB.out)) hb); have n2_ := Aside0.mk (hbox); have n3_ := Aside0.mk ((by rw [hg]; exact (below_size (by repeat (first | (with_reducible first | exact HB.out | apply below_alloc | apply pw_below_drewN | apply below_drew1) | exact HB.out))) : w.heap.size ≤ gb114)); have n4_ := Aside0.mk ((by rw [hg]; exact (below_size (by repeat (first | (with_reducible first | exact HB.out | apply below_alloc | apply pw_below_drewN | apply below_drew1) | exact HB.out))) : w.heap.size ≤ gb114)); clear HO_8; clear HB; have HO_8 := n0_; have HB := n1_; have BK114 := n2_; have GW114 := n3_; have GE114 := n4_; clear n0_ n1_ n2_ n3_ n4_; clear hb hbox hg; have hcz23_0 : w22.cell? ⟨gb114, 0, none⟩ = some (.int .i32 0) := (blk_cell BK114.out 0).trans rfl; have hcz23_1 : w22.cell? ⟨gb114, 1, none⟩ = some (.string (⟨#[]⟩ : ByteArray)) := (blk_cell BK114.out 1).trans rfl; have hcz23_2 : w22.cell? ⟨gb114, 2, none⟩ = some (.string (⟨#[]⟩ : ByteArray)) := (blk_cell BK114.out 2).trans rfl; have hfz23_0 := blk_frozen BK114.out 0; have hfz23_1 := blk_frozen BK114.out 1; have hfz23_2 := blk_frozen BK114.out 2) | ((with_reducible refine gate_callee (f := 37) rfl ?_); refine goesL_ (some 17) rfl rfl Try.func37 (by kernel_rfl) rfl #[.string ((rd_T47 t110 x10_1).f2), .int .i32 a0] rfl (by (try simp only [List.map_toArray, List.map_cons, List.map_nil]); first | done | rfl | (simp only [List.length_drop, List.length_take]; rfl)) ?_; (with_reducible refine (letters_find.calls k1 ((rd_T47 t110 x10_1).f2) a0 t115 _ A9.out).mono ?_); rintro e w24 ⟨rfl, hb⟩; refine ⟨_, rfl, ?_⟩; have n0_ := Aside0.mk (Kd.R_below (by (with_reducible repeat (first | apply Kd.R_alloc | apply Kd.R_drewN | apply Kd.R_drew)); exact (Kd.R_mono (Kd.R_far (p := ⟨gb114, 2, none⟩) (Kd.R_far (p := ⟨gb114, 1, none⟩) (Kd.R_far (p := ⟨gb114, 0, none⟩) (Kd.R_mono HO_8.out (fun k_ hk => (⟨hk, hk.2⟩ : _ ∧ k_ ≠ gb114))) (fun _ hk => hk.2) (.int .i32 ((rd_T47 t110 x10_1).f0))) (fun _ hk => hk.2) (.string ((rd_T47 t110 x10_1).f1))) (fun _ hk => hk.2) (.string ((rd_T47 t110 x10_1).f2))) (fun _ h_ => h_.1))) hb); have n1_ := Aside0.mk (blk_below (g := gb114) (o := .cells #[.int .i32 ((rd_T47 t110 x10_1).f0), .string ((rd_T47 t110 x10_1).f1), .string ((rd_T47 t110 x10_1).f2)] 47 (0, 0)) (by (with_reducible repeat (first | refine blk_drewN ?_ _ | refine blk_drew ?_ | refine blk_alloc ?_ _)); refine blk_put (cs := #[.int .i32 ((rd_T47 t110 x10_1).f0), .string ((rd_T47 t110 x10_1).f1), .string (⟨#[]⟩ : ByteArray)]) ?_ 2 _ rfl; (with_reducible repeat (first | refine blk_drewN ?_ _ | refine blk_drew ?_ | refine blk_alloc ?_ _)); refine blk_put (cs := #[.int .i32 ((rd_T47 t110 x10_1).f0), .string (⟨#[]⟩ : ByteArray), .string (⟨#[]⟩ : ByteArray)]) ?_ 1 _ rfl; (with_reducible repeat (first | refine blk_drewN ?_ _ | refine blk_drew ?_ | refine blk_alloc ?_ _)); refine blk_put (cs := #[.int .i32 0, .string (⟨#[]⟩ : ByteArray), .string (⟨#[]⟩ : ByteArray)]) ?_ 0 _ rfl; (with_reducible repeat (first | refine blk_drewN ?_ _ | refine blk_drew ?_ | refine blk_alloc ?_ _)); exact BK114.out) hb); have n2_ := Aside0.mk (below_step (by repeat (first | (with_reducible first | exact HB.out | apply below_alloc | apply pw_below_drewN | apply below_drew1 | refine below_set ?_ GE114.out) | exact HB.out)) hb); clear HO_8; clear BK114; clear HB; have HO_8 := n0_; have BK114 := n1_; have HB := n2_; clear n0_ n1_ n2_; (try clear hb); (try clear hb2); (try clear hk); (try clear hi); have hcz25_0 : w24.cell? ⟨gb114, 0, none⟩ = some (.int .i32 ((rd_T47 t110 x10_1).f0)) := (blk_cell BK114.out 0).trans rfl; have hcz25_1 : w24.cell? ⟨gb114, 1, none⟩ = some (.string ((rd_T47 t110 x10_1).f1)) := (blk_cell BK114.out 1).trans rfl; have hcz25_2 : w24.cell? ⟨gb114, 2, none⟩ = some (.string ((rd_T47 t110 x10_1).f2)) := (blk_cell BK114.out 2).trans rfl; have hfz25_0 := blk_frozen BK114.out 0; have hfz25_1 := blk_frozen BK114.out 1; have hfz25_2 := blk_frozen BK114.out 2))
              go_roundg k1
              case measure => have := HK1.out; omega
              case rel => exact ⟨(wrap64 (x10_1 + 1)), (by first | rfl | (simp; done) | (simp [*]; done)), H', ⟨by have := HK1.out; omega⟩, ⟨by (with_reducible repeat (first | apply Kd.R_alloc | apply Kd.R_drewN | apply Kd.R_drew)); exact Kd.R_mono HO_8.out (fun _ hk => trivial)⟩, ⟨by repeat (first | (with_reducible first | exact HB.out | apply below_alloc | apply pw_below_drewN | apply below_drew1 | refine below_set ?_ GE114.out) | exact HB.out)⟩⟩
          · rw [if_neg c8] at H
            exact absurd H (by simp)
        · rw [if_neg c7] at H
          exact absurd H (by simp)
      · rw [if_neg c6] at H
        have c6b0 : decide (x10_1 < (t110.length : Int)) = false := decide_eq_false c6
        clear c6
        obtain rfl := Option.some.inj H
        go_wp2
        go_ret
        exact ⟨by first | rfl | (simp [errW_none, errW_some] <;> rfl) | (simp [*, errW_none, errW_some] <;> rfl), by repeat (first | (with_reducible first | exact HB.out | apply below_alloc | apply pw_below_drewN | apply below_drew1) | exact HB.out)⟩

/-! ### compose_Pair: function 7 -/
def compose_Pair.f (k : Nat) (a0 : Int) (a1 : Int) : Option (Int × Bool) := (hangul_Join.f k a0 a1).bind fun bt117 => (if bt117.2 = true then (some (bt117.1, true)) else ((chars_Class.f k a1).bind fun t119 => (if t119 > 0 then ((letters_Made.f k a0 a1).bind fun t120 => (some (t120, (t120 != 0)))) else (some (0, (0 != 0))))))
theorem compose_Pair.mono : ∀ a0 a1 k, LeO (compose_Pair.f k a0 a1) (compose_Pair.f (k + 1) a0 a1) := by
  intro a0 a1 k
  unfold compose_Pair.f
  repeat' first
      | (with_reducible exact chars_Class.mono _ _)
      | (with_reducible exact hangul_Join.mono _ _ _)
      | (with_reducible exact letters_Made.mono _ _ _)
      | (with_reducible exact LeO.refl _)
      | (with_reducible exact LeO.none _)
      | (with_reducible refine LeO.ite ?_ ?_)
      | (with_reducible refine LeO.bind ?_ (fun _ => ?_))
      | exact chars_Class.mono _ _
      | exact hangul_Join.mono _ _ _
      | exact letters_Made.mono _ _ _
      | exact LeO.none _
      | refine LeO.ite ?_ ?_
      | refine LeO.bind ?_ (fun _ => ?_)
set_option maxHeartbeats 8000000 in
set_option maxRecDepth 100000 in
theorem compose_Pair.calls (k : Nat) (a0 : Int) (a1 : Int) (r1 : Int) (r2 : Bool) (w : World) (h : compose_Pair.f k a0 a1 = some (r1, r2)) :
    Calls Try.prog 7 #[.int .i32 a0, .int .i32 a1] w fun e w' => e = .returned (.tuple #[.int .i32 r1, .bool r2]) ∧ Below w.heap.size w w' := by
  have HB := Aside0.mk (Below.refl w.heap.size w)
  have H : ((hangul_Join.f k a0 a1).bind fun bt117 => (if bt117.2 = true then (some (bt117.1, true)) else ((chars_Class.f k a1).bind fun t119 => (if t119 > 0 then ((letters_Made.f k a0 a1).bind fun t120 => (some (t120, (t120 != 0)))) else (some (0, (0 != 0))))))) = some (r1, r2) := h
  clear h
  replace H := Option.bind_eq_some_iff.mp H
  obtain ⟨⟨t117, t118⟩, A30, H⟩ := H
  replace H : (if t118 = true then (some (t117, true)) else ((chars_Class.f k a1).bind fun t119 => (if t119 > 0 then ((letters_Made.f k a0 a1).bind fun t120 => (some (t120, (t120 != 0)))) else (some (0, (0 != 0)))))) = some (r1, r2) := H
  have A3 := Aside0.mk A30
  clear A30
  by_cases c4 : t118 = true
  · subst c4
    have H1 : (some (t117, true)) = some (r1, r2) := by rw [if_pos rfl] at H; exact H
    clear H
    have H := H1
    clear H1
    simp only [Option.some.injEq, Prod.mk.injEq] at H
    obtain ⟨rfl, rfl⟩ := H
    go_enter Try.func7, Try.ntmps7
    go_wp2_with (first | ((with_reducible refine gate_callee (f := 19) rfl ?_); refine goesL_ (some 12) rfl rfl Try.func19 (by kernel_rfl) rfl #[.int .i32 a0, .int .i32 a1] rfl (by (try simp only [List.map_toArray, List.map_cons, List.map_nil]); first | done | rfl | (simp only [List.length_drop, List.length_take]; rfl)) ?_; (with_reducible refine (hangul_Join.calls k a0 a1 t117 true _ A3.out).mono ?_); rintro e w' ⟨rfl, ⟨nd, rfl⟩⟩; refine ⟨_, rfl, ?_⟩))
    go_ret2
    exact ⟨by first | rfl | (simp [errW_none, errW_some] <;> rfl) | (simp [*, errW_none, errW_some] <;> rfl), by repeat (first | (with_reducible first | exact HB.out | apply below_alloc | apply pw_below_drewN | apply below_drew1) | exact HB.out)⟩
  · replace c4 := Bool.eq_false_iff.mpr c4
    subst c4
    have H1 : ((chars_Class.f k a1).bind fun t119 => (if t119 > 0 then ((letters_Made.f k a0 a1).bind fun t120 => (some (t120, (t120 != 0)))) else (some (0, (0 != 0))))) = some (r1, r2) := by rw [if_neg (show ¬ (false = true) by decide)] at H; exact H
    clear H
    have H := H1
    clear H1
    replace H := Option.bind_eq_some_iff.mp H
    obtain ⟨t119, A50, H⟩ := H
    replace H : (if t119 > 0 then ((letters_Made.f k a0 a1).bind fun t120 => (some (t120, (t120 != 0)))) else (some (0, (0 != 0)))) = some (r1, r2) := H
    have A5 := Aside0.mk A50
    clear A50
    by_cases c6 : t119 > 0
    · rw [if_pos c6] at H
      have c6b0 : decide (0 < t119) = true := decide_eq_true c6
      clear c6
      replace H := Option.bind_eq_some_iff.mp H
      obtain ⟨t120, A70, H⟩ := H
      replace H : (some (t120, (t120 != 0))) = some (r1, r2) := H
      have A7 := Aside0.mk A70
      clear A70
      simp only [Option.some.injEq, Prod.mk.injEq] at H
      obtain ⟨rfl, rfl⟩ := H
      go_enter Try.func7, Try.ntmps7
      go_wp2_with (first | ((with_reducible refine gate_callee (f := 19) rfl ?_); refine goesL_ (some 12) rfl rfl Try.func19 (by kernel_rfl) rfl #[.int .i32 a0, .int .i32 a1] rfl (by (try simp only [List.map_toArray, List.map_cons, List.map_nil]); first | done | rfl | (simp only [List.length_drop, List.length_take]; rfl)) ?_; (with_reducible refine (hangul_Join.calls k a0 a1 t117 false _ A3.out).mono ?_); rintro e w' ⟨rfl, ⟨nd, rfl⟩⟩; refine ⟨_, rfl, ?_⟩) | ((with_reducible refine gate_callee (f := 20) rfl ?_); refine goesL_ (some 18) rfl rfl Try.func20 (by kernel_rfl) rfl #[.int .i32 a1] rfl (by (try simp only [List.map_toArray, List.map_cons, List.map_nil]); first | done | rfl | (simp only [List.length_drop, List.length_take]; rfl)) ?_; (with_reducible refine (chars_Class.calls k a1 t119 _ A5.out).mono ?_); rintro e w' ⟨rfl, ⟨nd, rfl⟩⟩; refine ⟨_, rfl, ?_⟩) | ((with_reducible refine gate_callee (f := 21) rfl ?_); refine goesL_ (some 22) rfl rfl Try.func21 (by kernel_rfl) rfl #[.int .i32 a0, .int .i32 a1] rfl (by (try simp only [List.map_toArray, List.map_cons, List.map_nil]); first | done | rfl | (simp only [List.length_drop, List.length_take]; rfl)) ?_; (with_reducible refine (letters_Made.calls k a0 a1 t120 _ A7.out).mono ?_); rintro e w8 ⟨rfl, hb⟩; refine ⟨_, rfl, ?_⟩; have n0_ := Aside0.mk (below_step (by repeat (first | (with_reducible first | exact HB.out | apply below_alloc | apply pw_below_drewN | apply below_drew1) | exact HB.out)) hb); clear HB; have HB := n0_; clear n0_; (try clear hb); (try clear hb2); (try clear hk); (try clear hi)))
      go_ret2
      exact ⟨by first | rfl | (simp [errW_none, errW_some] <;> rfl) | (simp [*, errW_none, errW_some] <;> rfl), by repeat (first | (with_reducible first | exact HB.out | apply below_alloc | apply pw_below_drewN | apply below_drew1) | exact HB.out)⟩
    · rw [if_neg c6] at H
      have c6b0 : decide (0 < t119) = false := decide_eq_false c6
      clear c6
      simp only [Option.some.injEq, Prod.mk.injEq] at H
      obtain ⟨rfl, rfl⟩ := H
      go_enter Try.func7, Try.ntmps7
      go_wp2_with (first | ((with_reducible refine gate_callee (f := 19) rfl ?_); refine goesL_ (some 12) rfl rfl Try.func19 (by kernel_rfl) rfl #[.int .i32 a0, .int .i32 a1] rfl (by (try simp only [List.map_toArray, List.map_cons, List.map_nil]); first | done | rfl | (simp only [List.length_drop, List.length_take]; rfl)) ?_; (with_reducible refine (hangul_Join.calls k a0 a1 t117 false _ A3.out).mono ?_); rintro e w' ⟨rfl, ⟨nd, rfl⟩⟩; refine ⟨_, rfl, ?_⟩) | ((with_reducible refine gate_callee (f := 20) rfl ?_); refine goesL_ (some 18) rfl rfl Try.func20 (by kernel_rfl) rfl #[.int .i32 a1] rfl (by (try simp only [List.map_toArray, List.map_cons, List.map_nil]); first | done | rfl | (simp only [List.length_drop, List.length_take]; rfl)) ?_; (with_reducible refine (chars_Class.calls k a1 t119 _ A5.out).mono ?_); rintro e w' ⟨rfl, ⟨nd, rfl⟩⟩; refine ⟨_, rfl, ?_⟩))
      go_ret2
      exact ⟨by first | rfl | (simp [errW_none, errW_some] <;> rfl) | (simp [*, errW_none, errW_some] <;> rfl), by repeat (first | (with_reducible first | exact HB.out | apply below_alloc | apply pw_below_drewN | apply below_drew1) | exact HB.out)⟩

/-! ### toponymref03_ascii: function 48 -/
mutual
def toponymref03_ascii.j0 : Nat → Int → Bool → Option (Int)
  | 0, _, _ => none
  | k + 1, x0, x3 => if x3 = true then (some 1) else (if x0 ≥ 48 then (toponymref03_ascii.j1 k x0 (decide (x0 ≤ 57))) else (toponymref03_ascii.j1 k x0 false))
def toponymref03_ascii.j1 : Nat → Int → Bool → Option (Int)
  | 0, _, _ => none
  | k + 1, x0, x18 => if x18 = true then (some 2) else (if x0 = 32 then (toponymref03_ascii.j2 k x0 true) else (if x0 ≥ 9 then (toponymref03_ascii.j2 k x0 (decide (x0 ≤ 13))) else (toponymref03_ascii.j2 k x0 false)))
def toponymref03_ascii.j2 : Nat → Int → Bool → Option (Int)
  | 0, _, _ => none
  | k + 1, x0, x25 => if x25 = true then (some 5) else (if x0 < 32 then (some 6) else (if x0 = 127 then (some 6) else (some 4)))
end
def toponymref03_ascii.f (k : Nat) (a0 : Int) : Option (Int) := if a0 ≥ 97 then (if a0 ≤ 122 then (toponymref03_ascii.j0 k a0 true) else (if a0 ≥ 65 then (toponymref03_ascii.j0 k a0 (decide (a0 ≤ 90))) else (toponymref03_ascii.j0 k a0 false))) else (if a0 ≥ 65 then (toponymref03_ascii.j0 k a0 (decide (a0 ≤ 90))) else (toponymref03_ascii.j0 k a0 false))
theorem toponymref03_ascii.mono_l : ∀ k, (∀ y0 y1, LeO (toponymref03_ascii.j0 k y0 y1) (toponymref03_ascii.j0 (k + 1) y0 y1)) ∧ (∀ y0 y1, LeO (toponymref03_ascii.j1 k y0 y1) (toponymref03_ascii.j1 (k + 1) y0 y1)) ∧ (∀ y0 y1, LeO (toponymref03_ascii.j2 k y0 y1) (toponymref03_ascii.j2 (k + 1) y0 y1))
  | 0 => ⟨fun _ _ r h => by simp [toponymref03_ascii.j0] at h, fun _ _ r h => by simp [toponymref03_ascii.j1] at h, fun _ _ r h => by simp [toponymref03_ascii.j2] at h⟩
  | k + 1 => by
    obtain ⟨ih0, ih1, ih2⟩ := toponymref03_ascii.mono_l k
    refine ⟨?_, ?_, ?_⟩
    · intro y0 y1
      unfold toponymref03_ascii.j0
      repeat' first
      | (with_reducible exact ih0 _ _)
      | (with_reducible exact ih1 _ _)
      | (with_reducible exact ih2 _ _)
      | (with_reducible exact LeO.refl _)
      | (with_reducible exact LeO.none _)
      | (with_reducible refine LeO.ite ?_ ?_)
      | (with_reducible refine LeO.bind ?_ (fun _ => ?_))
      | exact ih0 _ _
      | exact ih1 _ _
      | exact ih2 _ _
      | exact LeO.none _
      | refine LeO.ite ?_ ?_
      | refine LeO.bind ?_ (fun _ => ?_)
    · intro y0 y1
      unfold toponymref03_ascii.j1
      repeat' first
      | (with_reducible exact ih0 _ _)
      | (with_reducible exact ih1 _ _)
      | (with_reducible exact ih2 _ _)
      | (with_reducible exact LeO.refl _)
      | (with_reducible exact LeO.none _)
      | (with_reducible refine LeO.ite ?_ ?_)
      | (with_reducible refine LeO.bind ?_ (fun _ => ?_))
      | exact ih0 _ _
      | exact ih1 _ _
      | exact ih2 _ _
      | exact LeO.none _
      | refine LeO.ite ?_ ?_
      | refine LeO.bind ?_ (fun _ => ?_)
    · intro y0 y1
      unfold toponymref03_ascii.j2
      repeat' first
      | (with_reducible exact ih0 _ _)
      | (with_reducible exact ih1 _ _)
      | (with_reducible exact ih2 _ _)
      | (with_reducible exact LeO.refl _)
      | (with_reducible exact LeO.none _)
      | (with_reducible refine LeO.ite ?_ ?_)
      | (with_reducible refine LeO.bind ?_ (fun _ => ?_))
      | exact ih0 _ _
      | exact ih1 _ _
      | exact ih2 _ _
      | exact LeO.none _
      | refine LeO.ite ?_ ?_
      | refine LeO.bind ?_ (fun _ => ?_)
theorem toponymref03_ascii.mono : ∀ a0 k, LeO (toponymref03_ascii.f k a0) (toponymref03_ascii.f (k + 1) a0) := by
  intro a0 k
  obtain ⟨ih0, ih1, ih2⟩ := toponymref03_ascii.mono_l k
  unfold toponymref03_ascii.f
  repeat' first
      | (with_reducible exact ih0 _ _)
      | (with_reducible exact ih1 _ _)
      | (with_reducible exact ih2 _ _)
      | (with_reducible exact LeO.refl _)
      | (with_reducible exact LeO.none _)
      | (with_reducible refine LeO.ite ?_ ?_)
      | (with_reducible refine LeO.bind ?_ (fun _ => ?_))
      | exact ih0 _ _
      | exact ih1 _ _
      | exact ih2 _ _
      | exact LeO.none _
      | refine LeO.ite ?_ ?_
      | refine LeO.bind ?_ (fun _ => ?_)
set_option maxHeartbeats 8000000 in
set_option maxRecDepth 100000 in
theorem toponymref03_ascii.calls (k : Nat) (a0 : Int) (r : Int) (w : World) (h : toponymref03_ascii.f k a0 = some r) :
    Calls Try.prog 48 #[.int .i32 a0] w fun e w' => e = .returned (.int .i64 r) ∧ Drawn0 w w' := by
  have H : (if a0 ≥ 97 then (if a0 ≤ 122 then (toponymref03_ascii.j0 k a0 true) else (if a0 ≥ 65 then (toponymref03_ascii.j0 k a0 (decide (a0 ≤ 90))) else (toponymref03_ascii.j0 k a0 false))) else (if a0 ≥ 65 then (toponymref03_ascii.j0 k a0 (decide (a0 ≤ 90))) else (toponymref03_ascii.j0 k a0 false))) = some r := h
  clear h
  have HC2 := Aside0.mk H
  clear H
  go_enter Try.func48, Try.ntmps48
  go_upto_region 1 with (fail)
  go_cut [3] (fun v3 wc => ∃ (kq : Nat) (x3_1 : Bool), v3 = .bool x3_1 ∧ Aside0 (toponymref03_ascii.j0 kq a0 x3_1 = some r) ∧ Aside0 (kq ≤ k) ∧ Drawn0 w wc)
  case first =>
    have H := HC2.out
    clear HC2
    by_cases c3 : a0 ≥ 97
    · rw [if_pos c3] at H
      have c3b0 : decide (97 ≤ a0) = true := decide_eq_true c3
      clear c3
      (first | rw [c3b0] | (simp only [i64_w, i32_w]; rw [c3b0]) | skip)
      by_cases c4 : a0 ≤ 122
      · rw [if_pos c4] at H
        have c4b0 : decide (a0 ≤ 122) = true := decide_eq_true c4
        clear c4
        have H' := Aside0.mk H
        clear H
        go_wp2
        go_meet
        case rel => exact ⟨_, (true), (by first | rfl | (simp; done) | (simp [*]; done)), H', ⟨by first | omega | exact Nat.le_refl _⟩, by repeat (first | exact Drawn0.refl _ | apply Drawn0.step)⟩
      · rw [if_neg c4] at H
        have c4b0 : decide (a0 ≤ 122) = false := decide_eq_false c4
        clear c4
        by_cases c5 : a0 ≥ 65
        · rw [if_pos c5] at H
          have c5b0 : decide (65 ≤ a0) = true := decide_eq_true c5
          clear c5
          have H' := Aside0.mk H
          clear H
          go_wp2
          go_meet
          case rel => exact ⟨_, (decide (a0 ≤ 90)), (by first | rfl | (simp; done) | (simp [*]; done)), H', ⟨by first | omega | exact Nat.le_refl _⟩, by repeat (first | exact Drawn0.refl _ | apply Drawn0.step)⟩
        · rw [if_neg c5] at H
          have c5b0 : decide (65 ≤ a0) = false := decide_eq_false c5
          clear c5
          have H' := Aside0.mk H
          clear H
          go_wp2
          go_meet
          case rel => exact ⟨_, (false), (by first | rfl | (simp; done) | (simp [*]; done)), H', ⟨by first | omega | exact Nat.le_refl _⟩, by repeat (first | exact Drawn0.refl _ | apply Drawn0.step)⟩
    · rw [if_neg c3] at H
      have c3b0 : decide (97 ≤ a0) = false := decide_eq_false c3
      clear c3
      (first | rw [c3b0] | (simp only [i64_w, i32_w]; rw [c3b0]) | skip)
      by_cases c6 : a0 ≥ 65
      · rw [if_pos c6] at H
        have c6b0 : decide (65 ≤ a0) = true := decide_eq_true c6
        clear c6
        have H' := Aside0.mk H
        clear H
        go_wp2
        go_meet
        case rel => exact ⟨_, (decide (a0 ≤ 90)), (by first | rfl | (simp; done) | (simp [*]; done)), H', ⟨by first | omega | exact Nat.le_refl _⟩, by repeat (first | exact Drawn0.refl _ | apply Drawn0.step)⟩
      · rw [if_neg c6] at H
        have c6b0 : decide (65 ≤ a0) = false := decide_eq_false c6
        clear c6
        have H' := Aside0.mk H
        clear H
        go_wp2
        go_meet
        case rel => exact ⟨_, (false), (by first | rfl | (simp; done) | (simp [*]; done)), H', ⟨by first | omega | exact Nat.le_refl _⟩, by repeat (first | exact Drawn0.refl _ | apply Drawn0.step)⟩
  case rest =>
    clear HC2
    try clear p2
    try clear c3
    try clear c3b0
    try clear c4
    try clear c4b0
    try clear c5
    try clear c5b0
    try clear c6
    try clear c6b0
    obtain ⟨kq, x3_1, rfl, HA, HJ1, ⟨mc1, rfl⟩⟩ := hcut
    cases kq with
    | zero => exact absurd HA.out (by simp [toponymref03_ascii.j0])
    | succ kj1 =>
      have H := HA.out
      clear HA
      simp only [toponymref03_ascii.j0] at H
      by_cases c7 : x3_1 = true
      · subst c7
        have H1 : (some 1) = some r := by rw [if_pos rfl] at H; exact H
        clear H
        have H := H1
        clear H1
        obtain rfl := Option.some.inj H
        go_wp2
        go_ret
        exact ⟨by first | rfl | (simp; done) | (simp [*]; done), by repeat (first | exact Drawn0.refl _ | apply Drawn0.step)⟩
      · replace c7 := Bool.eq_false_iff.mpr c7
        subst c7
        have H1 : (if a0 ≥ 48 then (toponymref03_ascii.j1 kj1 a0 (decide (a0 ≤ 57))) else (toponymref03_ascii.j1 kj1 a0 false)) = some r := by rw [if_neg (show ¬ (false = true) by decide)] at H; exact H
        clear H
        have H := H1
        clear H1
        have HC8 := Aside0.mk H
        clear H
        go_upto_region 3 with (fail)
        go_cut [18] (fun v18 wc => ∃ (kq : Nat) (x18_7 : Bool), v18 = .bool x18_7 ∧ Aside0 (toponymref03_ascii.j1 kq a0 x18_7 = some r) ∧ Aside0 (kq ≤ kj1) ∧ Drawn0 w wc)
        case first =>
          have H := HC8.out
          clear HC8
          by_cases c9 : a0 ≥ 48
          · rw [if_pos c9] at H
            have c9b0 : decide (48 ≤ a0) = true := decide_eq_true c9
            clear c9
            (first | rw [c9b0] | (simp only [i64_w, i32_w]; rw [c9b0]) | skip)
            have H' := Aside0.mk H
            clear H
            go_wp2
            go_meet
            case rel => exact ⟨_, (decide (a0 ≤ 57)), (by first | rfl | (simp; done) | (simp [*]; done)), H', ⟨by have := HJ1.out; first | omega | exact Nat.le_refl _⟩, by repeat (first | exact Drawn0.refl _ | apply Drawn0.step)⟩
          · rw [if_neg c9] at H
            have c9b0 : decide (48 ≤ a0) = false := decide_eq_false c9
            clear c9
            (first | rw [c9b0] | (simp only [i64_w, i32_w]; rw [c9b0]) | skip)
            have H' := Aside0.mk H
            clear H
            go_wp2
            go_meet
            case rel => exact ⟨_, (false), (by first | rfl | (simp; done) | (simp [*]; done)), H', ⟨by have := HJ1.out; first | omega | exact Nat.le_refl _⟩, by repeat (first | exact Drawn0.refl _ | apply Drawn0.step)⟩
        case rest =>
          clear HC8
          try clear c1
          try clear p2
          try clear c3
          try clear c3b0
          try clear c4
          try clear c4b0
          try clear c5
          try clear c5b0
          try clear c6
          try clear c6b0
          try clear c7
          try clear c9
          try clear c9b0
          try clear p2
          obtain ⟨kq, x18_7, rfl, HA, HJ7, ⟨mc7, rfl⟩⟩ := hcut
          cases kq with
          | zero => exact absurd HA.out (by simp [toponymref03_ascii.j1])
          | succ kj7 =>
            have H := HA.out
            clear HA
            simp only [toponymref03_ascii.j1] at H
            by_cases c10 : x18_7 = true
            · subst c10
              have H1 : (some 2) = some r := by rw [if_pos rfl] at H; exact H
              clear H
              have H := H1
              clear H1
              obtain rfl := Option.some.inj H
              go_wp2
              go_ret
              exact ⟨by first | rfl | (simp; done) | (simp [*]; done), by repeat (first | exact Drawn0.refl _ | apply Drawn0.step)⟩
            · replace c10 := Bool.eq_false_iff.mpr c10
              subst c10
              have H1 : (if a0 = 32 then (toponymref03_ascii.j2 kj7 a0 true) else (if a0 ≥ 9 then (toponymref03_ascii.j2 kj7 a0 (decide (a0 ≤ 13))) else (toponymref03_ascii.j2 kj7 a0 false))) = some r := by rw [if_neg (show ¬ (false = true) by decide)] at H; exact H
              clear H
              have H := H1
              clear H1
              have HC11 := Aside0.mk H
              clear H
              go_upto_region 5 with (fail)
              go_cut [25] (fun v25 wc => ∃ (kq : Nat) (x25_10 : Bool), v25 = .bool x25_10 ∧ Aside0 (toponymref03_ascii.j2 kq a0 x25_10 = some r) ∧ Aside0 (kq ≤ kj7) ∧ Drawn0 w wc)
              case first =>
                have H := HC11.out
                clear HC11
                by_cases c12 : a0 = 32
                · rw [if_pos c12] at H
                  have c12b0 : (a0 == 32) = true := beq_iff_eq.mpr c12
                  have c12b1 : (a0 != 32) = false := bne_eq_false_iff_eq.mpr c12
                  clear c12
                  (first | rw [c12b0] | (simp only [i64_w, i32_w]; rw [c12b0]) | skip)
                  have H' := Aside0.mk H
                  clear H
                  go_wp2
                  go_meet
                  case rel => exact ⟨_, (true), (by first | rfl | (simp; done) | (simp [*]; done)), H', ⟨by have := HJ1.out; have := HJ7.out; first | omega | exact Nat.le_refl _⟩, by repeat (first | exact Drawn0.refl _ | apply Drawn0.step)⟩
                · rw [if_neg c12] at H
                  have c12b0 : (a0 == 32) = false := beq_eq_false_iff_ne.mpr c12
                  have c12b1 : (a0 != 32) = true := bne_iff_ne.mpr c12
                  (first | rw [c12b0] | (simp only [i64_w, i32_w]; rw [c12b0]) | skip)
                  by_cases c13 : a0 ≥ 9
                  · rw [if_pos c13] at H
                    have c13b0 : decide (9 ≤ a0) = true := decide_eq_true c13
                    clear c13
                    have H' := Aside0.mk H
                    clear H
                    go_wp2
                    go_meet
                    case rel => exact ⟨_, (decide (a0 ≤ 13)), (by first | rfl | (simp; done) | (simp [*]; done)), H', ⟨by have := HJ1.out; have := HJ7.out; first | omega | exact Nat.le_refl _⟩, by repeat (first | exact Drawn0.refl _ | apply Drawn0.step)⟩
                  · rw [if_neg c13] at H
                    have c13b0 : decide (9 ≤ a0) = false := decide_eq_false c13
                    clear c13
                    have H' := Aside0.mk H
                    clear H
                    go_wp2
                    go_meet
                    case rel => exact ⟨_, (false), (by first | rfl | (simp; done) | (simp [*]; done)), H', ⟨by have := HJ1.out; have := HJ7.out; first | omega | exact Nat.le_refl _⟩, by repeat (first | exact Drawn0.refl _ | apply Drawn0.step)⟩
              case rest =>
                clear HC11
                try clear c1
                try clear p2
                try clear c3
                try clear c3b0
                try clear c4
                try clear c4b0
                try clear c5
                try clear c5b0
                try clear c6
                try clear c6b0
                try clear c7
                try clear c9
                try clear c9b0
                try clear c10
                try clear c12
                try clear c12b0
                try clear c12b1
                try clear c13
                try clear c13b0
                try clear p2
                obtain ⟨kq, x25_10, rfl, HA, HJ10, ⟨mc10, rfl⟩⟩ := hcut
                cases kq with
                | zero => exact absurd HA.out (by simp [toponymref03_ascii.j2])
                | succ kj10 =>
                  have H := HA.out
                  clear HA
                  simp only [toponymref03_ascii.j2] at H
                  by_cases c14 : x25_10 = true
                  · subst c14
                    have H1 : (some 5) = some r := by rw [if_pos rfl] at H; exact H
                    clear H
                    have H := H1
                    clear H1
                    obtain rfl := Option.some.inj H
                    go_wp2
                    go_ret
                    exact ⟨by first | rfl | (simp; done) | (simp [*]; done), by repeat (first | exact Drawn0.refl _ | apply Drawn0.step)⟩
                  · replace c14 := Bool.eq_false_iff.mpr c14
                    subst c14
                    have H1 : (if a0 < 32 then (some 6) else (if a0 = 127 then (some 6) else (some 4))) = some r := by rw [if_neg (show ¬ (false = true) by decide)] at H; exact H
                    clear H
                    have H := H1
                    clear H1
                    by_cases c15 : a0 < 32
                    · rw [if_pos c15] at H
                      have c15b0 : decide (a0 < 32) = true := decide_eq_true c15
                      clear c15
                      obtain rfl := Option.some.inj H
                      go_wp2
                      go_ret
                      exact ⟨by first | rfl | (simp; done) | (simp [*]; done), by repeat (first | exact Drawn0.refl _ | apply Drawn0.step)⟩
                    · rw [if_neg c15] at H
                      have c15b0 : decide (a0 < 32) = false := decide_eq_false c15
                      clear c15
                      by_cases c16 : a0 = 127
                      · rw [if_pos c16] at H
                        have c16b0 : (a0 == 127) = true := beq_iff_eq.mpr c16
                        have c16b1 : (a0 != 127) = false := bne_eq_false_iff_eq.mpr c16
                        clear c16
                        obtain rfl := Option.some.inj H
                        go_wp2
                        go_ret
                        exact ⟨by first | rfl | (simp; done) | (simp [*]; done), by repeat (first | exact Drawn0.refl _ | apply Drawn0.step)⟩
                      · rw [if_neg c16] at H
                        have c16b0 : (a0 == 127) = false := beq_eq_false_iff_ne.mpr c16
                        have c16b1 : (a0 != 127) = true := bne_iff_ne.mpr c16
                        obtain rfl := Option.some.inj H
                        go_wp2
                        go_ret
                        exact ⟨by first | rfl | (simp; done) | (simp [*]; done), by repeat (first | exact Drawn0.refl _ | apply Drawn0.step)⟩

/-! ### toponymref03_lower: function 53 -/
def toponymref03_lower.f  : Option ((List (S65))) := some (([(⟨0, 8, 6⟩ : S65), (⟨9, 13, 5⟩ : S65), (⟨14, 31, 6⟩ : S65), (⟨32, 32, 5⟩ : S65), (⟨33, 47, 4⟩ : S65), (⟨48, 57, 2⟩ : S65), (⟨58, 64, 4⟩ : S65), (⟨65, 90, 1⟩ : S65), (⟨91, 96, 4⟩ : S65), (⟨97, 122, 1⟩ : S65), (⟨123, 126, 4⟩ : S65), (⟨127, 132, 6⟩ : S65), (⟨133, 133, 5⟩ : S65), (⟨134, 159, 6⟩ : S65), (⟨160, 160, 5⟩ : S65), (⟨161, 169, 4⟩ : S65), (⟨170, 170, 1⟩ : S65), (⟨171, 172, 4⟩ : S65), (⟨173, 173, 6⟩ : S65), (⟨174, 177, 4⟩ : S65), (⟨178, 179, 2⟩ : S65), (⟨180, 180, 4⟩ : S65), (⟨181, 181, 1⟩ : S65), (⟨182, 184, 4⟩ : S65), (⟨185, 185, 2⟩ : S65), (⟨186, 186, 1⟩ : S65), (⟨187, 191, 4⟩ : S65), (⟨192, 214, 1⟩ : S65), (⟨215, 215, 4⟩ : S65), (⟨216, 246, 1⟩ : S65), (⟨247, 247, 4⟩ : S65), (⟨248, 383, 1⟩ : S65), (⟨700, 700, 1⟩ : S65), (⟨768, 772, 3⟩ : S65), (⟨774, 776, 3⟩ : S65), (⟨778, 780, 3⟩ : S65), (⟨803, 803, 3⟩ : S65), (⟨807, 808, 3⟩ : S65), (⟨832, 833, 7⟩ : S65), (⟨847, 847, 6⟩ : S65), (⟨902, 902, 1⟩ : S65), (⟨904, 906, 1⟩ : S65), (⟨908, 908, 1⟩ : S65), (⟨910, 929, 1⟩ : S65), (⟨931, 974, 1⟩ : S65)] : List (S65)))
set_option maxHeartbeats 8000000 in
set_option maxRecDepth 100000 in
theorem toponymref03_lower.calls  (r : List (S65)) (w : World) (h : toponymref03_lower.f  = some r) :
    Calls Try.prog 53 #[] w fun e w' => ∃ v0_ : Value, e = .returned (v0_) ∧ Kd.R k65 65 w' w.heap.size (fun _ => True) v0_ r ∧ Below w.heap.size w w' := by
  have hu65 := Try.underlying65
  have HB := Aside0.mk (Below.refl w.heap.size w)
  have H : (some (([(⟨0, 8, 6⟩ : S65), (⟨9, 13, 5⟩ : S65), (⟨14, 31, 6⟩ : S65), (⟨32, 32, 5⟩ : S65), (⟨33, 47, 4⟩ : S65), (⟨48, 57, 2⟩ : S65), (⟨58, 64, 4⟩ : S65), (⟨65, 90, 1⟩ : S65), (⟨91, 96, 4⟩ : S65), (⟨97, 122, 1⟩ : S65), (⟨123, 126, 4⟩ : S65), (⟨127, 132, 6⟩ : S65), (⟨133, 133, 5⟩ : S65), (⟨134, 159, 6⟩ : S65), (⟨160, 160, 5⟩ : S65), (⟨161, 169, 4⟩ : S65), (⟨170, 170, 1⟩ : S65), (⟨171, 172, 4⟩ : S65), (⟨173, 173, 6⟩ : S65), (⟨174, 177, 4⟩ : S65), (⟨178, 179, 2⟩ : S65), (⟨180, 180, 4⟩ : S65), (⟨181, 181, 1⟩ : S65), (⟨182, 184, 4⟩ : S65), (⟨185, 185, 2⟩ : S65), (⟨186, 186, 1⟩ : S65), (⟨187, 191, 4⟩ : S65), (⟨192, 214, 1⟩ : S65), (⟨215, 215, 4⟩ : S65), (⟨216, 246, 1⟩ : S65), (⟨247, 247, 4⟩ : S65), (⟨248, 383, 1⟩ : S65), (⟨700, 700, 1⟩ : S65), (⟨768, 772, 3⟩ : S65), (⟨774, 776, 3⟩ : S65), (⟨778, 780, 3⟩ : S65), (⟨803, 803, 3⟩ : S65), (⟨807, 808, 3⟩ : S65), (⟨832, 833, 7⟩ : S65), (⟨847, 847, 6⟩ : S65), (⟨902, 902, 1⟩ : S65), (⟨904, 906, 1⟩ : S65), (⟨908, 908, 1⟩ : S65), (⟨910, 929, 1⟩ : S65), (⟨931, 974, 1⟩ : S65)] : List (S65)))) = some r := h
  clear h
  obtain ⟨y121, hy121⟩ : ∃ y_ : List (S65), y_ = (([(⟨0, 8, 6⟩ : S65), (⟨9, 13, 5⟩ : S65), (⟨14, 31, 6⟩ : S65), (⟨32, 32, 5⟩ : S65), (⟨33, 47, 4⟩ : S65), (⟨48, 57, 2⟩ : S65), (⟨58, 64, 4⟩ : S65), (⟨65, 90, 1⟩ : S65), (⟨91, 96, 4⟩ : S65), (⟨97, 122, 1⟩ : S65), (⟨123, 126, 4⟩ : S65), (⟨127, 132, 6⟩ : S65), (⟨133, 133, 5⟩ : S65), (⟨134, 159, 6⟩ : S65), (⟨160, 160, 5⟩ : S65), (⟨161, 169, 4⟩ : S65), (⟨170, 170, 1⟩ : S65), (⟨171, 172, 4⟩ : S65), (⟨173, 173, 6⟩ : S65), (⟨174, 177, 4⟩ : S65), (⟨178, 179, 2⟩ : S65), (⟨180, 180, 4⟩ : S65), (⟨181, 181, 1⟩ : S65), (⟨182, 184, 4⟩ : S65), (⟨185, 185, 2⟩ : S65), (⟨186, 186, 1⟩ : S65), (⟨187, 191, 4⟩ : S65), (⟨192, 214, 1⟩ : S65), (⟨215, 215, 4⟩ : S65), (⟨216, 246, 1⟩ : S65), (⟨247, 247, 4⟩ : S65), (⟨248, 383, 1⟩ : S65), (⟨700, 700, 1⟩ : S65), (⟨768, 772, 3⟩ : S65), (⟨774, 776, 3⟩ : S65), (⟨778, 780, 3⟩ : S65), (⟨803, 803, 3⟩ : S65), (⟨807, 808, 3⟩ : S65), (⟨832, 833, 7⟩ : S65), (⟨847, 847, 6⟩ : S65), (⟨902, 902, 1⟩ : S65), (⟨904, 906, 1⟩ : S65), (⟨908, 908, 1⟩ : S65), (⟨910, 929, 1⟩ : S65), (⟨931, 974, 1⟩ : S65)] : List (S65))) := ⟨_, rfl⟩
  replace H : (some y121) = some r := by first | (rw [hy121]; with_reducible exact H) | (have H2_ := (Option.bind_some _ _).symm.trans H; rw [hy121]; with_reducible exact H2_) | (have H2_ := (Option.bind_some _ _).symm.trans H; with_reducible exact H2_) | with_reducible exact H | (rw [hy121]; exact H) | exact H
  have Ny121 := Aside0.mk hy121
  clear hy121
  obtain rfl := Option.some.inj H
  go_enter Try.func53, Try.ntmps53
  go_wp2_with (first | ((with_reducible refine gate_dst (N := 46) rfl ?_); refine Kd.R_lit k65 _ 65 ?hg (N := 46) ?hd (xs := ([(⟨0, 8, 6⟩ : S65), (⟨9, 13, 5⟩ : S65), (⟨14, 31, 6⟩ : S65), (⟨32, 32, 5⟩ : S65), (⟨33, 47, 4⟩ : S65), (⟨48, 57, 2⟩ : S65), (⟨58, 64, 4⟩ : S65), (⟨65, 90, 1⟩ : S65), (⟨91, 96, 4⟩ : S65), (⟨97, 122, 1⟩ : S65), (⟨123, 126, 4⟩ : S65), (⟨127, 132, 6⟩ : S65), (⟨133, 133, 5⟩ : S65), (⟨134, 159, 6⟩ : S65), (⟨160, 160, 5⟩ : S65), (⟨161, 169, 4⟩ : S65), (⟨170, 170, 1⟩ : S65), (⟨171, 172, 4⟩ : S65), (⟨173, 173, 6⟩ : S65), (⟨174, 177, 4⟩ : S65), (⟨178, 179, 2⟩ : S65), (⟨180, 180, 4⟩ : S65), (⟨181, 181, 1⟩ : S65), (⟨182, 184, 4⟩ : S65), (⟨185, 185, 2⟩ : S65), (⟨186, 186, 1⟩ : S65), (⟨187, 191, 4⟩ : S65), (⟨192, 214, 1⟩ : S65), (⟨215, 215, 4⟩ : S65), (⟨216, 246, 1⟩ : S65), (⟨247, 247, 4⟩ : S65), (⟨248, 383, 1⟩ : S65), (⟨700, 700, 1⟩ : S65), (⟨768, 772, 3⟩ : S65), (⟨774, 776, 3⟩ : S65), (⟨778, 780, 3⟩ : S65), (⟨803, 803, 3⟩ : S65), (⟨807, 808, 3⟩ : S65), (⟨832, 833, 7⟩ : S65), (⟨847, 847, 6⟩ : S65), (⟨902, 902, 1⟩ : S65), (⟨904, 906, 1⟩ : S65), (⟨908, 908, 1⟩ : S65), (⟨910, 929, 1⟩ : S65), (⟨931, 974, 1⟩ : S65)] : List (S65))) (inner := [.int .i32 0, .int .i32 8, .int .i64 6, .int .i32 9, .int .i32 13, .int .i64 5, .int .i32 14, .int .i32 31, .int .i64 6, .int .i32 32, .int .i32 32, .int .i64 5, .int .i32 33, .int .i32 47, .int .i64 4, .int .i32 48, .int .i32 57, .int .i64 2, .int .i32 58, .int .i32 64, .int .i64 4, .int .i32 65, .int .i32 90, .int .i64 1, .int .i32 91, .int .i32 96, .int .i64 4, .int .i32 97, .int .i32 122, .int .i64 1, .int .i32 123, .int .i32 126, .int .i64 4, .int .i32 127, .int .i32 132, .int .i64 6, .int .i32 133, .int .i32 133, .int .i64 5, .int .i32 134, .int .i32 159, .int .i64 6, .int .i32 160, .int .i32 160, .int .i64 5, .int .i32 161, .int .i32 169, .int .i64 4, .int .i32 170, .int .i32 170, .int .i64 1, .int .i32 171, .int .i32 172, .int .i64 4, .int .i32 173, .int .i32 173, .int .i64 6, .int .i32 174, .int .i32 177, .int .i64 4, .int .i32 178, .int .i32 179, .int .i64 2, .int .i32 180, .int .i32 180, .int .i64 4, .int .i32 181, .int .i32 181, .int .i64 1, .int .i32 182, .int .i32 184, .int .i64 4, .int .i32 185, .int .i32 185, .int .i64 2, .int .i32 186, .int .i32 186, .int .i64 1, .int .i32 187, .int .i32 191, .int .i64 4, .int .i32 192, .int .i32 214, .int .i64 1, .int .i32 215, .int .i32 215, .int .i64 4, .int .i32 216, .int .i32 246, .int .i64 1, .int .i32 247, .int .i32 247, .int .i64 4, .int .i32 248, .int .i32 383, .int .i64 1, .int .i32 700, .int .i32 700, .int .i64 1, .int .i32 768, .int .i32 772, .int .i64 3, .int .i32 774, .int .i32 776, .int .i64 3, .int .i32 778, .int .i32 780, .int .i64 3, .int .i32 803, .int .i32 803, .int .i64 3, .int .i32 807, .int .i32 808, .int .i64 3, .int .i32 832, .int .i32 833, .int .i64 7, .int .i32 847, .int .i32 847, .int .i64 6, .int .i32 902, .int .i32 902, .int .i64 1, .int .i32 904, .int .i32 906, .int .i64 1, .int .i32 908, .int .i32 908, .int .i64 1, .int .i32 910, .int .i32 929, .int .i64 1, .int .i32 931, .int .i32 974, .int .i64 1]) (ok := fun _ => True) (okp := fun _ => True) ?hr ?hp (fun _ hk => hk) trivial (Below.refl _ _) (Nat.le_refl _) (by simp) ?_; (case hd => rfl); (case hg => rfl); (case hr => kernel_rfl); (case hp => exact (Reps.c3 (show Kd.M k65 _ _ _ (⟨0, 8, 6⟩ : S65) [.int .i32 0, .int .i32 8, .int .i64 6] from (k65_mkM _ _ _ (⟨0, 8, 6⟩ : S65) )) (Reps.c3 (show Kd.M k65 _ _ _ (⟨9, 13, 5⟩ : S65) [.int .i32 9, .int .i32 13, .int .i64 5] from (k65_mkM _ _ _ (⟨9, 13, 5⟩ : S65) )) (Reps.c3 (show Kd.M k65 _ _ _ (⟨14, 31, 6⟩ : S65) [.int .i32 14, .int .i32 31, .int .i64 6] from (k65_mkM _ _ _ (⟨14, 31, 6⟩ : S65) )) (Reps.c3 (show Kd.M k65 _ _ _ (⟨32, 32, 5⟩ : S65) [.int .i32 32, .int .i32 32, .int .i64 5] from (k65_mkM _ _ _ (⟨32, 32, 5⟩ : S65) )) (Reps.c3 (show Kd.M k65 _ _ _ (⟨33, 47, 4⟩ : S65) [.int .i32 33, .int .i32 47, .int .i64 4] from (k65_mkM _ _ _ (⟨33, 47, 4⟩ : S65) )) (Reps.c3 (show Kd.M k65 _ _ _ (⟨48, 57, 2⟩ : S65) [.int .i32 48, .int .i32 57, .int .i64 2] from (k65_mkM _ _ _ (⟨48, 57, 2⟩ : S65) )) (Reps.c3 (show Kd.M k65 _ _ _ (⟨58, 64, 4⟩ : S65) [.int .i32 58, .int .i32 64, .int .i64 4] from (k65_mkM _ _ _ (⟨58, 64, 4⟩ : S65) )) (Reps.c3 (show Kd.M k65 _ _ _ (⟨65, 90, 1⟩ : S65) [.int .i32 65, .int .i32 90, .int .i64 1] from (k65_mkM _ _ _ (⟨65, 90, 1⟩ : S65) )) (Reps.c3 (show Kd.M k65 _ _ _ (⟨91, 96, 4⟩ : S65) [.int .i32 91, .int .i32 96, .int .i64 4] from (k65_mkM _ _ _ (⟨91, 96, 4⟩ : S65) )) (Reps.c3 (show Kd.M k65 _ _ _ (⟨97, 122, 1⟩ : S65) [.int .i32 97, .int .i32 122, .int .i64 1] from (k65_mkM _ _ _ (⟨97, 122, 1⟩ : S65) )) (Reps.c3 (show Kd.M k65 _ _ _ (⟨123, 126, 4⟩ : S65) [.int .i32 123, .int .i32 126, .int .i64 4] from (k65_mkM _ _ _ (⟨123, 126, 4⟩ : S65) )) (Reps.c3 (show Kd.M k65 _ _ _ (⟨127, 132, 6⟩ : S65) [.int .i32 127, .int .i32 132, .int .i64 6] from (k65_mkM _ _ _ (⟨127, 132, 6⟩ : S65) )) (Reps.c3 (show Kd.M k65 _ _ _ (⟨133, 133, 5⟩ : S65) [.int .i32 133, .int .i32 133, .int .i64 5] from (k65_mkM _ _ _ (⟨133, 133, 5⟩ : S65) )) (Reps.c3 (show Kd.M k65 _ _ _ (⟨134, 159, 6⟩ : S65) [.int .i32 134, .int .i32 159, .int .i64 6] from (k65_mkM _ _ _ (⟨134, 159, 6⟩ : S65) )) (Reps.c3 (show Kd.M k65 _ _ _ (⟨160, 160, 5⟩ : S65) [.int .i32 160, .int .i32 160, .int .i64 5] from (k65_mkM _ _ _ (⟨160, 160, 5⟩ : S65) )) (Reps.c3 (show Kd.M k65 _ _ _ (⟨161, 169, 4⟩ : S65) [.int .i32 161, .int .i32 169, .int .i64 4] from (k65_mkM _ _ _ (⟨161, 169, 4⟩ : S65) )) (Reps.c3 (show Kd.M k65 _ _ _ (⟨170, 170, 1⟩ : S65) [.int .i32 170, .int .i32 170, .int .i64 1] from (k65_mkM _ _ _ (⟨170, 170, 1⟩ : S65) )) (Reps.c3 (show Kd.M k65 _ _ _ (⟨171, 172, 4⟩ : S65) [.int .i32 171, .int .i32 172, .int .i64 4] from (k65_mkM _ _ _ (⟨171, 172, 4⟩ : S65) )) (Reps.c3 (show Kd.M k65 _ _ _ (⟨173, 173, 6⟩ : S65) [.int .i32 173, .int .i32 173, .int .i64 6] from (k65_mkM _ _ _ (⟨173, 173, 6⟩ : S65) )) (Reps.c3 (show Kd.M k65 _ _ _ (⟨174, 177, 4⟩ : S65) [.int .i32 174, .int .i32 177, .int .i64 4] from (k65_mkM _ _ _ (⟨174, 177, 4⟩ : S65) )) (Reps.c3 (show Kd.M k65 _ _ _ (⟨178, 179, 2⟩ : S65) [.int .i32 178, .int .i32 179, .int .i64 2] from (k65_mkM _ _ _ (⟨178, 179, 2⟩ : S65) )) (Reps.c3 (show Kd.M k65 _ _ _ (⟨180, 180, 4⟩ : S65) [.int .i32 180, .int .i32 180, .int .i64 4] from (k65_mkM _ _ _ (⟨180, 180, 4⟩ : S65) )) (Reps.c3 (show Kd.M k65 _ _ _ (⟨181, 181, 1⟩ : S65) [.int .i32 181, .int .i32 181, .int .i64 1] from (k65_mkM _ _ _ (⟨181, 181, 1⟩ : S65) )) (Reps.c3 (show Kd.M k65 _ _ _ (⟨182, 184, 4⟩ : S65) [.int .i32 182, .int .i32 184, .int .i64 4] from (k65_mkM _ _ _ (⟨182, 184, 4⟩ : S65) )) (Reps.c3 (show Kd.M k65 _ _ _ (⟨185, 185, 2⟩ : S65) [.int .i32 185, .int .i32 185, .int .i64 2] from (k65_mkM _ _ _ (⟨185, 185, 2⟩ : S65) )) (Reps.c3 (show Kd.M k65 _ _ _ (⟨186, 186, 1⟩ : S65) [.int .i32 186, .int .i32 186, .int .i64 1] from (k65_mkM _ _ _ (⟨186, 186, 1⟩ : S65) )) (Reps.c3 (show Kd.M k65 _ _ _ (⟨187, 191, 4⟩ : S65) [.int .i32 187, .int .i32 191, .int .i64 4] from (k65_mkM _ _ _ (⟨187, 191, 4⟩ : S65) )) (Reps.c3 (show Kd.M k65 _ _ _ (⟨192, 214, 1⟩ : S65) [.int .i32 192, .int .i32 214, .int .i64 1] from (k65_mkM _ _ _ (⟨192, 214, 1⟩ : S65) )) (Reps.c3 (show Kd.M k65 _ _ _ (⟨215, 215, 4⟩ : S65) [.int .i32 215, .int .i32 215, .int .i64 4] from (k65_mkM _ _ _ (⟨215, 215, 4⟩ : S65) )) (Reps.c3 (show Kd.M k65 _ _ _ (⟨216, 246, 1⟩ : S65) [.int .i32 216, .int .i32 246, .int .i64 1] from (k65_mkM _ _ _ (⟨216, 246, 1⟩ : S65) )) (Reps.c3 (show Kd.M k65 _ _ _ (⟨247, 247, 4⟩ : S65) [.int .i32 247, .int .i32 247, .int .i64 4] from (k65_mkM _ _ _ (⟨247, 247, 4⟩ : S65) )) (Reps.c3 (show Kd.M k65 _ _ _ (⟨248, 383, 1⟩ : S65) [.int .i32 248, .int .i32 383, .int .i64 1] from (k65_mkM _ _ _ (⟨248, 383, 1⟩ : S65) )) (Reps.c3 (show Kd.M k65 _ _ _ (⟨700, 700, 1⟩ : S65) [.int .i32 700, .int .i32 700, .int .i64 1] from (k65_mkM _ _ _ (⟨700, 700, 1⟩ : S65) )) (Reps.c3 (show Kd.M k65 _ _ _ (⟨768, 772, 3⟩ : S65) [.int .i32 768, .int .i32 772, .int .i64 3] from (k65_mkM _ _ _ (⟨768, 772, 3⟩ : S65) )) (Reps.c3 (show Kd.M k65 _ _ _ (⟨774, 776, 3⟩ : S65) [.int .i32 774, .int .i32 776, .int .i64 3] from (k65_mkM _ _ _ (⟨774, 776, 3⟩ : S65) )) (Reps.c3 (show Kd.M k65 _ _ _ (⟨778, 780, 3⟩ : S65) [.int .i32 778, .int .i32 780, .int .i64 3] from (k65_mkM _ _ _ (⟨778, 780, 3⟩ : S65) )) (Reps.c3 (show Kd.M k65 _ _ _ (⟨803, 803, 3⟩ : S65) [.int .i32 803, .int .i32 803, .int .i64 3] from (k65_mkM _ _ _ (⟨803, 803, 3⟩ : S65) )) (Reps.c3 (show Kd.M k65 _ _ _ (⟨807, 808, 3⟩ : S65) [.int .i32 807, .int .i32 808, .int .i64 3] from (k65_mkM _ _ _ (⟨807, 808, 3⟩ : S65) )) (Reps.c3 (show Kd.M k65 _ _ _ (⟨832, 833, 7⟩ : S65) [.int .i32 832, .int .i32 833, .int .i64 7] from (k65_mkM _ _ _ (⟨832, 833, 7⟩ : S65) )) (Reps.c3 (show Kd.M k65 _ _ _ (⟨847, 847, 6⟩ : S65) [.int .i32 847, .int .i32 847, .int .i64 6] from (k65_mkM _ _ _ (⟨847, 847, 6⟩ : S65) )) (Reps.c3 (show Kd.M k65 _ _ _ (⟨902, 902, 1⟩ : S65) [.int .i32 902, .int .i32 902, .int .i64 1] from (k65_mkM _ _ _ (⟨902, 902, 1⟩ : S65) )) (Reps.c3 (show Kd.M k65 _ _ _ (⟨904, 906, 1⟩ : S65) [.int .i32 904, .int .i32 906, .int .i64 1] from (k65_mkM _ _ _ (⟨904, 906, 1⟩ : S65) )) (Reps.c3 (show Kd.M k65 _ _ _ (⟨908, 908, 1⟩ : S65) [.int .i32 908, .int .i32 908, .int .i64 1] from (k65_mkM _ _ _ (⟨908, 908, 1⟩ : S65) )) (Reps.c3 (show Kd.M k65 _ _ _ (⟨910, 929, 1⟩ : S65) [.int .i32 910, .int .i32 929, .int .i64 1] from (k65_mkM _ _ _ (⟨910, 929, 1⟩ : S65) )) (Reps.c3 (show Kd.M k65 _ _ _ (⟨931, 974, 1⟩ : S65) [.int .i32 931, .int .i32 974, .int .i64 1] from (k65_mkM _ _ _ (⟨931, 974, 1⟩ : S65) )) (Reps.none _ _))))))))))))))))))))))))))))))))))))))))))))))); intro v122 w1 ho2 hb hg_ hnew_; clear hg_ hnew_; (first | rw [← Ny121.out] at ho2 | (simp only [Int.reduceToNat] at ho2; rw [← Ny121.out] at ho2)); have n0_ := Aside0.mk (Kd.R_lower ho2 (below_size (by repeat (first | (with_reducible first | exact HB.out | apply below_alloc | apply pw_below_drewN | apply below_drew1) | exact HB.out)))); have n1_ := Aside0.mk (below_step (by repeat (first | (with_reducible first | exact HB.out | apply below_alloc | apply pw_below_drewN | apply below_drew1) | exact HB.out)) hb); clear HB; have HO123 := n0_; have HB := n1_; clear n0_ n1_; clear hb ho2))
  go_ret
  exact ⟨_, by first | rfl | (simp [errW_none, errW_some] <;> rfl) | (simp [*, errW_none, errW_some] <;> rfl), by (with_reducible repeat (first | apply Kd.R_alloc | apply Kd.R_drewN | apply Kd.R_drew)); exact HO123.out, by repeat (first | (with_reducible first | exact HB.out | apply below_alloc | apply pw_below_drewN | apply below_drew1) | exact HB.out)⟩

/-! ### toponymref03_upper: function 54 -/
def toponymref03_upper.f  : Option ((List (S65))) := some (([(⟨1025, 1025, 1⟩ : S65), (⟨1040, 1103, 1⟩ : S65), (⟨1105, 1105, 1⟩ : S65), (⟨1488, 1514, 1⟩ : S65), (⟨1632, 1641, 2⟩ : S65), (⟨4352, 4370, 1⟩ : S65), (⟨4449, 4469, 1⟩ : S65), (⟨4520, 4546, 1⟩ : S65), (⟨8192, 8202, 5⟩ : S65), (⟨8203, 8207, 6⟩ : S65), (⟨8208, 8209, 4⟩ : S65), (⟨8232, 8233, 5⟩ : S65), (⟨8234, 8238, 6⟩ : S65), (⟨8239, 8239, 5⟩ : S65), (⟨8260, 8260, 4⟩ : S65), (⟨8287, 8287, 5⟩ : S65), (⟨8288, 8291, 6⟩ : S65), (⟨8298, 8303, 6⟩ : S65), (⟨8304, 8304, 2⟩ : S65), (⟨8308, 8313, 2⟩ : S65), (⟨8320, 8329, 2⟩ : S65), (⟨8486, 8486, 1⟩ : S65), (⟨8490, 8491, 1⟩ : S65), (⟨8544, 8555, 1⟩ : S65), (⟨8560, 8571, 1⟩ : S65), (⟨8722, 8722, 4⟩ : S65), (⟨12288, 12288, 5⟩ : S65), (⟨12353, 12436, 1⟩ : S65), (⟨12441, 12442, 3⟩ : S65), (⟨19968, 20223, 1⟩ : S65), (⟨44032, 55203, 1⟩ : S65), (⟨57344, 63743, 7⟩ : S65), (⟨64256, 64261, 1⟩ : S65), (⟨64976, 65007, 7⟩ : S65), (⟨65024, 65039, 6⟩ : S65), (⟨65279, 65279, 6⟩ : S65), (⟨65281, 65295, 4⟩ : S65), (⟨65296, 65305, 2⟩ : S65), (⟨65306, 65312, 4⟩ : S65), (⟨65313, 65338, 1⟩ : S65), (⟨65339, 65344, 4⟩ : S65), (⟨65345, 65370, 1⟩ : S65), (⟨65371, 65374, 4⟩ : S65), (⟨65529, 65532, 6⟩ : S65), (⟨65533, 65535, 7⟩ : S65)] : List (S65)))
set_option maxHeartbeats 8000000 in
set_option maxRecDepth 100000 in
theorem toponymref03_upper.calls  (r : List (S65)) (w : World) (h : toponymref03_upper.f  = some r) :
    Calls Try.prog 54 #[] w fun e w' => ∃ v0_ : Value, e = .returned (v0_) ∧ Kd.R k65 65 w' w.heap.size (fun _ => True) v0_ r ∧ Below w.heap.size w w' := by
  have hu65 := Try.underlying65
  have HB := Aside0.mk (Below.refl w.heap.size w)
  have H : (some (([(⟨1025, 1025, 1⟩ : S65), (⟨1040, 1103, 1⟩ : S65), (⟨1105, 1105, 1⟩ : S65), (⟨1488, 1514, 1⟩ : S65), (⟨1632, 1641, 2⟩ : S65), (⟨4352, 4370, 1⟩ : S65), (⟨4449, 4469, 1⟩ : S65), (⟨4520, 4546, 1⟩ : S65), (⟨8192, 8202, 5⟩ : S65), (⟨8203, 8207, 6⟩ : S65), (⟨8208, 8209, 4⟩ : S65), (⟨8232, 8233, 5⟩ : S65), (⟨8234, 8238, 6⟩ : S65), (⟨8239, 8239, 5⟩ : S65), (⟨8260, 8260, 4⟩ : S65), (⟨8287, 8287, 5⟩ : S65), (⟨8288, 8291, 6⟩ : S65), (⟨8298, 8303, 6⟩ : S65), (⟨8304, 8304, 2⟩ : S65), (⟨8308, 8313, 2⟩ : S65), (⟨8320, 8329, 2⟩ : S65), (⟨8486, 8486, 1⟩ : S65), (⟨8490, 8491, 1⟩ : S65), (⟨8544, 8555, 1⟩ : S65), (⟨8560, 8571, 1⟩ : S65), (⟨8722, 8722, 4⟩ : S65), (⟨12288, 12288, 5⟩ : S65), (⟨12353, 12436, 1⟩ : S65), (⟨12441, 12442, 3⟩ : S65), (⟨19968, 20223, 1⟩ : S65), (⟨44032, 55203, 1⟩ : S65), (⟨57344, 63743, 7⟩ : S65), (⟨64256, 64261, 1⟩ : S65), (⟨64976, 65007, 7⟩ : S65), (⟨65024, 65039, 6⟩ : S65), (⟨65279, 65279, 6⟩ : S65), (⟨65281, 65295, 4⟩ : S65), (⟨65296, 65305, 2⟩ : S65), (⟨65306, 65312, 4⟩ : S65), (⟨65313, 65338, 1⟩ : S65), (⟨65339, 65344, 4⟩ : S65), (⟨65345, 65370, 1⟩ : S65), (⟨65371, 65374, 4⟩ : S65), (⟨65529, 65532, 6⟩ : S65), (⟨65533, 65535, 7⟩ : S65)] : List (S65)))) = some r := h
  clear h
  obtain ⟨y124, hy124⟩ : ∃ y_ : List (S65), y_ = (([(⟨1025, 1025, 1⟩ : S65), (⟨1040, 1103, 1⟩ : S65), (⟨1105, 1105, 1⟩ : S65), (⟨1488, 1514, 1⟩ : S65), (⟨1632, 1641, 2⟩ : S65), (⟨4352, 4370, 1⟩ : S65), (⟨4449, 4469, 1⟩ : S65), (⟨4520, 4546, 1⟩ : S65), (⟨8192, 8202, 5⟩ : S65), (⟨8203, 8207, 6⟩ : S65), (⟨8208, 8209, 4⟩ : S65), (⟨8232, 8233, 5⟩ : S65), (⟨8234, 8238, 6⟩ : S65), (⟨8239, 8239, 5⟩ : S65), (⟨8260, 8260, 4⟩ : S65), (⟨8287, 8287, 5⟩ : S65), (⟨8288, 8291, 6⟩ : S65), (⟨8298, 8303, 6⟩ : S65), (⟨8304, 8304, 2⟩ : S65), (⟨8308, 8313, 2⟩ : S65), (⟨8320, 8329, 2⟩ : S65), (⟨8486, 8486, 1⟩ : S65), (⟨8490, 8491, 1⟩ : S65), (⟨8544, 8555, 1⟩ : S65), (⟨8560, 8571, 1⟩ : S65), (⟨8722, 8722, 4⟩ : S65), (⟨12288, 12288, 5⟩ : S65), (⟨12353, 12436, 1⟩ : S65), (⟨12441, 12442, 3⟩ : S65), (⟨19968, 20223, 1⟩ : S65), (⟨44032, 55203, 1⟩ : S65), (⟨57344, 63743, 7⟩ : S65), (⟨64256, 64261, 1⟩ : S65), (⟨64976, 65007, 7⟩ : S65), (⟨65024, 65039, 6⟩ : S65), (⟨65279, 65279, 6⟩ : S65), (⟨65281, 65295, 4⟩ : S65), (⟨65296, 65305, 2⟩ : S65), (⟨65306, 65312, 4⟩ : S65), (⟨65313, 65338, 1⟩ : S65), (⟨65339, 65344, 4⟩ : S65), (⟨65345, 65370, 1⟩ : S65), (⟨65371, 65374, 4⟩ : S65), (⟨65529, 65532, 6⟩ : S65), (⟨65533, 65535, 7⟩ : S65)] : List (S65))) := ⟨_, rfl⟩
  replace H : (some y124) = some r := by first | (rw [hy124]; with_reducible exact H) | (have H2_ := (Option.bind_some _ _).symm.trans H; rw [hy124]; with_reducible exact H2_) | (have H2_ := (Option.bind_some _ _).symm.trans H; with_reducible exact H2_) | with_reducible exact H | (rw [hy124]; exact H) | exact H
  have Ny124 := Aside0.mk hy124
  clear hy124
  obtain rfl := Option.some.inj H
  go_enter Try.func54, Try.ntmps54
  go_wp2_with (first | ((with_reducible refine gate_dst (N := 46) rfl ?_); refine Kd.R_lit k65 _ 65 ?hg (N := 46) ?hd (xs := ([(⟨1025, 1025, 1⟩ : S65), (⟨1040, 1103, 1⟩ : S65), (⟨1105, 1105, 1⟩ : S65), (⟨1488, 1514, 1⟩ : S65), (⟨1632, 1641, 2⟩ : S65), (⟨4352, 4370, 1⟩ : S65), (⟨4449, 4469, 1⟩ : S65), (⟨4520, 4546, 1⟩ : S65), (⟨8192, 8202, 5⟩ : S65), (⟨8203, 8207, 6⟩ : S65), (⟨8208, 8209, 4⟩ : S65), (⟨8232, 8233, 5⟩ : S65), (⟨8234, 8238, 6⟩ : S65), (⟨8239, 8239, 5⟩ : S65), (⟨8260, 8260, 4⟩ : S65), (⟨8287, 8287, 5⟩ : S65), (⟨8288, 8291, 6⟩ : S65), (⟨8298, 8303, 6⟩ : S65), (⟨8304, 8304, 2⟩ : S65), (⟨8308, 8313, 2⟩ : S65), (⟨8320, 8329, 2⟩ : S65), (⟨8486, 8486, 1⟩ : S65), (⟨8490, 8491, 1⟩ : S65), (⟨8544, 8555, 1⟩ : S65), (⟨8560, 8571, 1⟩ : S65), (⟨8722, 8722, 4⟩ : S65), (⟨12288, 12288, 5⟩ : S65), (⟨12353, 12436, 1⟩ : S65), (⟨12441, 12442, 3⟩ : S65), (⟨19968, 20223, 1⟩ : S65), (⟨44032, 55203, 1⟩ : S65), (⟨57344, 63743, 7⟩ : S65), (⟨64256, 64261, 1⟩ : S65), (⟨64976, 65007, 7⟩ : S65), (⟨65024, 65039, 6⟩ : S65), (⟨65279, 65279, 6⟩ : S65), (⟨65281, 65295, 4⟩ : S65), (⟨65296, 65305, 2⟩ : S65), (⟨65306, 65312, 4⟩ : S65), (⟨65313, 65338, 1⟩ : S65), (⟨65339, 65344, 4⟩ : S65), (⟨65345, 65370, 1⟩ : S65), (⟨65371, 65374, 4⟩ : S65), (⟨65529, 65532, 6⟩ : S65), (⟨65533, 65535, 7⟩ : S65)] : List (S65))) (inner := [.int .i32 1025, .int .i32 1025, .int .i64 1, .int .i32 1040, .int .i32 1103, .int .i64 1, .int .i32 1105, .int .i32 1105, .int .i64 1, .int .i32 1488, .int .i32 1514, .int .i64 1, .int .i32 1632, .int .i32 1641, .int .i64 2, .int .i32 4352, .int .i32 4370, .int .i64 1, .int .i32 4449, .int .i32 4469, .int .i64 1, .int .i32 4520, .int .i32 4546, .int .i64 1, .int .i32 8192, .int .i32 8202, .int .i64 5, .int .i32 8203, .int .i32 8207, .int .i64 6, .int .i32 8208, .int .i32 8209, .int .i64 4, .int .i32 8232, .int .i32 8233, .int .i64 5, .int .i32 8234, .int .i32 8238, .int .i64 6, .int .i32 8239, .int .i32 8239, .int .i64 5, .int .i32 8260, .int .i32 8260, .int .i64 4, .int .i32 8287, .int .i32 8287, .int .i64 5, .int .i32 8288, .int .i32 8291, .int .i64 6, .int .i32 8298, .int .i32 8303, .int .i64 6, .int .i32 8304, .int .i32 8304, .int .i64 2, .int .i32 8308, .int .i32 8313, .int .i64 2, .int .i32 8320, .int .i32 8329, .int .i64 2, .int .i32 8486, .int .i32 8486, .int .i64 1, .int .i32 8490, .int .i32 8491, .int .i64 1, .int .i32 8544, .int .i32 8555, .int .i64 1, .int .i32 8560, .int .i32 8571, .int .i64 1, .int .i32 8722, .int .i32 8722, .int .i64 4, .int .i32 12288, .int .i32 12288, .int .i64 5, .int .i32 12353, .int .i32 12436, .int .i64 1, .int .i32 12441, .int .i32 12442, .int .i64 3, .int .i32 19968, .int .i32 20223, .int .i64 1, .int .i32 44032, .int .i32 55203, .int .i64 1, .int .i32 57344, .int .i32 63743, .int .i64 7, .int .i32 64256, .int .i32 64261, .int .i64 1, .int .i32 64976, .int .i32 65007, .int .i64 7, .int .i32 65024, .int .i32 65039, .int .i64 6, .int .i32 65279, .int .i32 65279, .int .i64 6, .int .i32 65281, .int .i32 65295, .int .i64 4, .int .i32 65296, .int .i32 65305, .int .i64 2, .int .i32 65306, .int .i32 65312, .int .i64 4, .int .i32 65313, .int .i32 65338, .int .i64 1, .int .i32 65339, .int .i32 65344, .int .i64 4, .int .i32 65345, .int .i32 65370, .int .i64 1, .int .i32 65371, .int .i32 65374, .int .i64 4, .int .i32 65529, .int .i32 65532, .int .i64 6, .int .i32 65533, .int .i32 65535, .int .i64 7]) (ok := fun _ => True) (okp := fun _ => True) ?hr ?hp (fun _ hk => hk) trivial (Below.refl _ _) (Nat.le_refl _) (by simp) ?_; (case hd => rfl); (case hg => rfl); (case hr => kernel_rfl); (case hp => exact (Reps.c3 (show Kd.M k65 _ _ _ (⟨1025, 1025, 1⟩ : S65) [.int .i32 1025, .int .i32 1025, .int .i64 1] from (k65_mkM _ _ _ (⟨1025, 1025, 1⟩ : S65) )) (Reps.c3 (show Kd.M k65 _ _ _ (⟨1040, 1103, 1⟩ : S65) [.int .i32 1040, .int .i32 1103, .int .i64 1] from (k65_mkM _ _ _ (⟨1040, 1103, 1⟩ : S65) )) (Reps.c3 (show Kd.M k65 _ _ _ (⟨1105, 1105, 1⟩ : S65) [.int .i32 1105, .int .i32 1105, .int .i64 1] from (k65_mkM _ _ _ (⟨1105, 1105, 1⟩ : S65) )) (Reps.c3 (show Kd.M k65 _ _ _ (⟨1488, 1514, 1⟩ : S65) [.int .i32 1488, .int .i32 1514, .int .i64 1] from (k65_mkM _ _ _ (⟨1488, 1514, 1⟩ : S65) )) (Reps.c3 (show Kd.M k65 _ _ _ (⟨1632, 1641, 2⟩ : S65) [.int .i32 1632, .int .i32 1641, .int .i64 2] from (k65_mkM _ _ _ (⟨1632, 1641, 2⟩ : S65) )) (Reps.c3 (show Kd.M k65 _ _ _ (⟨4352, 4370, 1⟩ : S65) [.int .i32 4352, .int .i32 4370, .int .i64 1] from (k65_mkM _ _ _ (⟨4352, 4370, 1⟩ : S65) )) (Reps.c3 (show Kd.M k65 _ _ _ (⟨4449, 4469, 1⟩ : S65) [.int .i32 4449, .int .i32 4469, .int .i64 1] from (k65_mkM _ _ _ (⟨4449, 4469, 1⟩ : S65) )) (Reps.c3 (show Kd.M k65 _ _ _ (⟨4520, 4546, 1⟩ : S65) [.int .i32 4520, .int .i32 4546, .int .i64 1] from (k65_mkM _ _ _ (⟨4520, 4546, 1⟩ : S65) )) (Reps.c3 (show Kd.M k65 _ _ _ (⟨8192, 8202, 5⟩ : S65) [.int .i32 8192, .int .i32 8202, .int .i64 5] from (k65_mkM _ _ _ (⟨8192, 8202, 5⟩ : S65) )) (Reps.c3 (show Kd.M k65 _ _ _ (⟨8203, 8207, 6⟩ : S65) [.int .i32 8203, .int .i32 8207, .int .i64 6] from (k65_mkM _ _ _ (⟨8203, 8207, 6⟩ : S65) )) (Reps.c3 (show Kd.M k65 _ _ _ (⟨8208, 8209, 4⟩ : S65) [.int .i32 8208, .int .i32 8209, .int .i64 4] from (k65_mkM _ _ _ (⟨8208, 8209, 4⟩ : S65) )) (Reps.c3 (show Kd.M k65 _ _ _ (⟨8232, 8233, 5⟩ : S65) [.int .i32 8232, .int .i32 8233, .int .i64 5] from (k65_mkM _ _ _ (⟨8232, 8233, 5⟩ : S65) )) (Reps.c3 (show Kd.M k65 _ _ _ (⟨8234, 8238, 6⟩ : S65) [.int .i32 8234, .int .i32 8238, .int .i64 6] from (k65_mkM _ _ _ (⟨8234, 8238, 6⟩ : S65) )) (Reps.c3 (show Kd.M k65 _ _ _ (⟨8239, 8239, 5⟩ : S65) [.int .i32 8239, .int .i32 8239, .int .i64 5] from (k65_mkM _ _ _ (⟨8239, 8239, 5⟩ : S65) )) (Reps.c3 (show Kd.M k65 _ _ _ (⟨8260, 8260, 4⟩ : S65) [.int .i32 8260, .int .i32 8260, .int .i64 4] from (k65_mkM _ _ _ (⟨8260, 8260, 4⟩ : S65) )) (Reps.c3 (show Kd.M k65 _ _ _ (⟨8287, 8287, 5⟩ : S65) [.int .i32 8287, .int .i32 8287, .int .i64 5] from (k65_mkM _ _ _ (⟨8287, 8287, 5⟩ : S65) )) (Reps.c3 (show Kd.M k65 _ _ _ (⟨8288, 8291, 6⟩ : S65) [.int .i32 8288, .int .i32 8291, .int .i64 6] from (k65_mkM _ _ _ (⟨8288, 8291, 6⟩ : S65) )) (Reps.c3 (show Kd.M k65 _ _ _ (⟨8298, 8303, 6⟩ : S65) [.int .i32 8298, .int .i32 8303, .int .i64 6] from (k65_mkM _ _ _ (⟨8298, 8303, 6⟩ : S65) )) (Reps.c3 (show Kd.M k65 _ _ _ (⟨8304, 8304, 2⟩ : S65) [.int .i32 8304, .int .i32 8304, .int .i64 2] from (k65_mkM _ _ _ (⟨8304, 8304, 2⟩ : S65) )) (Reps.c3 (show Kd.M k65 _ _ _ (⟨8308, 8313, 2⟩ : S65) [.int .i32 8308, .int .i32 8313, .int .i64 2] from (k65_mkM _ _ _ (⟨8308, 8313, 2⟩ : S65) )) (Reps.c3 (show Kd.M k65 _ _ _ (⟨8320, 8329, 2⟩ : S65) [.int .i32 8320, .int .i32 8329, .int .i64 2] from (k65_mkM _ _ _ (⟨8320, 8329, 2⟩ : S65) )) (Reps.c3 (show Kd.M k65 _ _ _ (⟨8486, 8486, 1⟩ : S65) [.int .i32 8486, .int .i32 8486, .int .i64 1] from (k65_mkM _ _ _ (⟨8486, 8486, 1⟩ : S65) )) (Reps.c3 (show Kd.M k65 _ _ _ (⟨8490, 8491, 1⟩ : S65) [.int .i32 8490, .int .i32 8491, .int .i64 1] from (k65_mkM _ _ _ (⟨8490, 8491, 1⟩ : S65) )) (Reps.c3 (show Kd.M k65 _ _ _ (⟨8544, 8555, 1⟩ : S65) [.int .i32 8544, .int .i32 8555, .int .i64 1] from (k65_mkM _ _ _ (⟨8544, 8555, 1⟩ : S65) )) (Reps.c3 (show Kd.M k65 _ _ _ (⟨8560, 8571, 1⟩ : S65) [.int .i32 8560, .int .i32 8571, .int .i64 1] from (k65_mkM _ _ _ (⟨8560, 8571, 1⟩ : S65) )) (Reps.c3 (show Kd.M k65 _ _ _ (⟨8722, 8722, 4⟩ : S65) [.int .i32 8722, .int .i32 8722, .int .i64 4] from (k65_mkM _ _ _ (⟨8722, 8722, 4⟩ : S65) )) (Reps.c3 (show Kd.M k65 _ _ _ (⟨12288, 12288, 5⟩ : S65) [.int .i32 12288, .int .i32 12288, .int .i64 5] from (k65_mkM _ _ _ (⟨12288, 12288, 5⟩ : S65) )) (Reps.c3 (show Kd.M k65 _ _ _ (⟨12353, 12436, 1⟩ : S65) [.int .i32 12353, .int .i32 12436, .int .i64 1] from (k65_mkM _ _ _ (⟨12353, 12436, 1⟩ : S65) )) (Reps.c3 (show Kd.M k65 _ _ _ (⟨12441, 12442, 3⟩ : S65) [.int .i32 12441, .int .i32 12442, .int .i64 3] from (k65_mkM _ _ _ (⟨12441, 12442, 3⟩ : S65) )) (Reps.c3 (show Kd.M k65 _ _ _ (⟨19968, 20223, 1⟩ : S65) [.int .i32 19968, .int .i32 20223, .int .i64 1] from (k65_mkM _ _ _ (⟨19968, 20223, 1⟩ : S65) )) (Reps.c3 (show Kd.M k65 _ _ _ (⟨44032, 55203, 1⟩ : S65) [.int .i32 44032, .int .i32 55203, .int .i64 1] from (k65_mkM _ _ _ (⟨44032, 55203, 1⟩ : S65) )) (Reps.c3 (show Kd.M k65 _ _ _ (⟨57344, 63743, 7⟩ : S65) [.int .i32 57344, .int .i32 63743, .int .i64 7] from (k65_mkM _ _ _ (⟨57344, 63743, 7⟩ : S65) )) (Reps.c3 (show Kd.M k65 _ _ _ (⟨64256, 64261, 1⟩ : S65) [.int .i32 64256, .int .i32 64261, .int .i64 1] from (k65_mkM _ _ _ (⟨64256, 64261, 1⟩ : S65) )) (Reps.c3 (show Kd.M k65 _ _ _ (⟨64976, 65007, 7⟩ : S65) [.int .i32 64976, .int .i32 65007, .int .i64 7] from (k65_mkM _ _ _ (⟨64976, 65007, 7⟩ : S65) )) (Reps.c3 (show Kd.M k65 _ _ _ (⟨65024, 65039, 6⟩ : S65) [.int .i32 65024, .int .i32 65039, .int .i64 6] from (k65_mkM _ _ _ (⟨65024, 65039, 6⟩ : S65) )) (Reps.c3 (show Kd.M k65 _ _ _ (⟨65279, 65279, 6⟩ : S65) [.int .i32 65279, .int .i32 65279, .int .i64 6] from (k65_mkM _ _ _ (⟨65279, 65279, 6⟩ : S65) )) (Reps.c3 (show Kd.M k65 _ _ _ (⟨65281, 65295, 4⟩ : S65) [.int .i32 65281, .int .i32 65295, .int .i64 4] from (k65_mkM _ _ _ (⟨65281, 65295, 4⟩ : S65) )) (Reps.c3 (show Kd.M k65 _ _ _ (⟨65296, 65305, 2⟩ : S65) [.int .i32 65296, .int .i32 65305, .int .i64 2] from (k65_mkM _ _ _ (⟨65296, 65305, 2⟩ : S65) )) (Reps.c3 (show Kd.M k65 _ _ _ (⟨65306, 65312, 4⟩ : S65) [.int .i32 65306, .int .i32 65312, .int .i64 4] from (k65_mkM _ _ _ (⟨65306, 65312, 4⟩ : S65) )) (Reps.c3 (show Kd.M k65 _ _ _ (⟨65313, 65338, 1⟩ : S65) [.int .i32 65313, .int .i32 65338, .int .i64 1] from (k65_mkM _ _ _ (⟨65313, 65338, 1⟩ : S65) )) (Reps.c3 (show Kd.M k65 _ _ _ (⟨65339, 65344, 4⟩ : S65) [.int .i32 65339, .int .i32 65344, .int .i64 4] from (k65_mkM _ _ _ (⟨65339, 65344, 4⟩ : S65) )) (Reps.c3 (show Kd.M k65 _ _ _ (⟨65345, 65370, 1⟩ : S65) [.int .i32 65345, .int .i32 65370, .int .i64 1] from (k65_mkM _ _ _ (⟨65345, 65370, 1⟩ : S65) )) (Reps.c3 (show Kd.M k65 _ _ _ (⟨65371, 65374, 4⟩ : S65) [.int .i32 65371, .int .i32 65374, .int .i64 4] from (k65_mkM _ _ _ (⟨65371, 65374, 4⟩ : S65) )) (Reps.c3 (show Kd.M k65 _ _ _ (⟨65529, 65532, 6⟩ : S65) [.int .i32 65529, .int .i32 65532, .int .i64 6] from (k65_mkM _ _ _ (⟨65529, 65532, 6⟩ : S65) )) (Reps.c3 (show Kd.M k65 _ _ _ (⟨65533, 65535, 7⟩ : S65) [.int .i32 65533, .int .i32 65535, .int .i64 7] from (k65_mkM _ _ _ (⟨65533, 65535, 7⟩ : S65) )) (Reps.none _ _))))))))))))))))))))))))))))))))))))))))))))))); intro v125 w1 ho2 hb hg_ hnew_; clear hg_ hnew_; (first | rw [← Ny124.out] at ho2 | (simp only [Int.reduceToNat] at ho2; rw [← Ny124.out] at ho2)); have n0_ := Aside0.mk (Kd.R_lower ho2 (below_size (by repeat (first | (with_reducible first | exact HB.out | apply below_alloc | apply pw_below_drewN | apply below_drew1) | exact HB.out)))); have n1_ := Aside0.mk (below_step (by repeat (first | (with_reducible first | exact HB.out | apply below_alloc | apply pw_below_drewN | apply below_drew1) | exact HB.out)) hb); clear HB; have HO126 := n0_; have HB := n1_; clear n0_ n1_; clear hb ho2))
  go_ret
  exact ⟨_, by first | rfl | (simp [errW_none, errW_some] <;> rfl) | (simp [*, errW_none, errW_some] <;> rfl), by (with_reducible repeat (first | apply Kd.R_alloc | apply Kd.R_drewN | apply Kd.R_drew)); exact HO126.out, by repeat (first | (with_reducible first | exact HB.out | apply below_alloc | apply pw_below_drewN | apply below_drew1) | exact HB.out)⟩

/-! ### toponymref03_planes: function 55 -/
def toponymref03_planes.l0 : Nat → List (S65) → Int → Option ((List (S65)))
  | 0, _, _ => none
  | k + 1, x1, x2 => if x2 ≤ 16 then (if x1.length < 8796093022208 then (toponymref03_planes.l0 k (x1 ++ [(⟨wrap32 (wrap64 ((wrap64 (65536 * x2)) + 65534)), wrap32 ((wrap32 (wrap64 ((wrap64 (65536 * x2)) + 65534))) + 1), 7⟩ : S65)]) (wrap64 (x2 + 1))) else (none)) else (some x1)
def toponymref03_planes.f (k : Nat)  : Option ((List (S65))) := toponymref03_planes.l0 k ([] : List (S65)) 1
theorem toponymref03_planes.mono_l : ∀ k, (∀ y0 y1, LeO (toponymref03_planes.l0 k y0 y1) (toponymref03_planes.l0 (k + 1) y0 y1))
  | 0 => fun _ _ r h => by simp [toponymref03_planes.l0] at h
  | k + 1 => by
    have ih0 := toponymref03_planes.mono_l k
    · intro y0 y1
      unfold toponymref03_planes.l0
      repeat' first
      | (with_reducible exact ih0 _ _)
      | (with_reducible exact LeO.refl _)
      | (with_reducible exact LeO.none _)
      | (with_reducible refine LeO.ite ?_ ?_)
      | (with_reducible refine LeO.bind ?_ (fun _ => ?_))
      | exact ih0 _ _
      | exact LeO.none _
      | refine LeO.ite ?_ ?_
      | refine LeO.bind ?_ (fun _ => ?_)
theorem toponymref03_planes.mono : ∀ k, LeO (toponymref03_planes.f k ) (toponymref03_planes.f (k + 1) ) := by
  intro  k
  have ih0 := toponymref03_planes.mono_l k
  unfold toponymref03_planes.f
  repeat' first
      | (with_reducible exact ih0 _ _)
      | (with_reducible exact LeO.refl _)
      | (with_reducible exact LeO.none _)
      | (with_reducible refine LeO.ite ?_ ?_)
      | (with_reducible refine LeO.bind ?_ (fun _ => ?_))
      | exact ih0 _ _
      | exact LeO.none _
      | refine LeO.ite ?_ ?_
      | refine LeO.bind ?_ (fun _ => ?_)
set_option maxHeartbeats 8000000 in
set_option maxRecDepth 100000 in
theorem toponymref03_planes.calls (k : Nat)  (r : List (S65)) (w : World) (h : toponymref03_planes.f k  = some r) :
    Calls Try.prog 55 #[] w fun e w' => ∃ v0_ : Value, e = .returned (v0_) ∧ Kd.R k65 65 w' w.heap.size (fun _ => True) v0_ r ∧ Below w.heap.size w w' := by
  have hu65 := Try.underlying65
  have HB := Aside0.mk (Below.refl w.heap.size w)
  have H : (toponymref03_planes.l0 k ([] : List (S65)) 1) = some r := h
  clear h
  have H' := Aside0.mk H
  clear H
  go_enter Try.func55, Try.ntmps55
  go_wp2
  go_loopg [1, 2] k (fun kq v1 v2 w' => ∃ (x1_1 : List (S65)) (x2_1 : Int), v2 = .int .i64 x2_1 ∧ Aside0 (toponymref03_planes.l0 kq x1_1 x2_1 = some r) ∧ Aside0 (kq ≤ k) ∧ Aside0 (Kd.R k65 65 w' w.heap.size (fun _ => True) v1 x1_1) ∧ Aside0 (Below w.heap.size w w'))
  case atStart => exact ⟨(([] : List (S65))), (1), (by first | rfl | (simp; done) | (simp [*]; done)), H', ⟨Nat.le_refl _⟩, ⟨by first | exact Kd.R_nil _ _ _ _ _ | exact Kd.N_nil _ _ _ _ _ | exact Kd.V_nil _ _ _ _ _ | exact Kd.Q_nil _ _ _ _ _ | exact Kd.S_nil _ _ _ _ _⟩, ⟨by repeat (first | (with_reducible first | exact HB.out | apply below_alloc | apply pw_below_drewN | apply below_drew1) | exact HB.out)⟩⟩
  case round =>
    clear H'
    obtain ⟨x1_1, x2_1, rfl, HA, HK1, HO_1, HB⟩ := hrel
    cases gk with
    | zero => exact absurd HA.out (by simp [toponymref03_planes.l0])
    | succ k1 =>
      have H := HA.out
      clear HA
      simp only [toponymref03_planes.l0] at H
      by_cases c1 : x2_1 ≤ 16
      · rw [if_pos c1] at H
        have c1b0 : decide (x2_1 ≤ 16) = true := decide_eq_true c1
        clear c1
        by_cases c2 : x1_1.length < 8796093022208
        · rw [if_pos c2] at H
          have LMc2 := Aside0.mk c2
          clear c2
          obtain ⟨y127, hy127⟩ : ∃ y_ : List (S65), y_ = (x1_1 ++ [(⟨wrap32 (wrap64 ((wrap64 (65536 * x2_1)) + 65534)), wrap32 ((wrap32 (wrap64 ((wrap64 (65536 * x2_1)) + 65534))) + 1), 7⟩ : S65)]) := ⟨_, rfl⟩
          replace H : (toponymref03_planes.l0 k1 y127 (wrap64 (x2_1 + 1))) = some r := by first | (rw [hy127]; with_reducible exact H) | (have H2_ := (Option.bind_some _ _).symm.trans H; rw [hy127]; with_reducible exact H2_) | (have H2_ := (Option.bind_some _ _).symm.trans H; with_reducible exact H2_) | with_reducible exact H | (rw [hy127]; exact H) | exact H
          have Ny127 := Aside0.mk hy127
          clear hy127
          have H' := Aside0.mk H
          clear H
          go_wp2_with (first | ((with_reducible refine gate_builtin (b := .append) (xs := #[.tmp 12, .tmp 17]) rfl ?_); at_builtin; refine Kd.R_append k65 (w0 := w) w.heap.size rfl (.tmp 12) (.tmp 17) 62 65 (.agg #[(.int .i32 0), (.int .i32 0), (.int .i64 0)]) 16 rfl Try.underlying62 info65 rfl (by decide) (by omega) u1 x1_1 (⟨wrap32 (wrap64 ((wrap64 (65536 * x2_1)) + 65534)), wrap32 ((wrap32 (wrap64 ((wrap64 (65536 * x2_1)) + 65534))) + 1), 7⟩ : S65) [.int .i32 (wrap32 (wrap64 ((wrap64 (65536 * x2_1)) + 65534))), .int .i32 (wrap32 ((wrap32 (wrap64 ((wrap64 (65536 * x2_1)) + 65534))) + 1)), .int .i64 7] (fun _ => True) (fun _ => False) rfl rfl ?aP (fun _ hk => hk.elim) ?aF ?aO ?aB ?aS ?aL ?_; (case aP => exact k65_mkM _ _ _ (⟨wrap32 (wrap64 ((wrap64 (65536 * x2_1)) + 65534)), wrap32 ((wrap32 (wrap64 ((wrap64 (65536 * x2_1)) + 65534))) + 1), 7⟩ : S65)); (case aB => exact (by repeat (first | (with_reducible first | exact HB.out | apply below_alloc | apply pw_below_drewN | apply below_drew1) | exact HB.out))); (case aF => exact (fun _ _ => trivial)); (case aO => exact (by (with_reducible repeat (first | apply Kd.R_alloc | apply Kd.R_drewN | apply Kd.R_drew)); exact HO_1.out)); (case aS => exact (below_size (by repeat (first | (with_reducible first | exact HB.out | apply below_alloc | apply pw_below_drewN | apply below_drew1) | exact HB.out)))); (case aL => have := LMc2.out; omega); intro v128 w3 ho hb hg hat; rw [← Ny127.out] at ho; have n0_ := Aside0.mk (hb); have n1_ := Aside0.mk (ho); clear HB; clear HO_1; have HB := n0_; have HO129 := n1_; clear n0_ n1_; clear ho hb hg hat))
          go_roundg k1
          case measure => have := HK1.out; omega
          case rel => exact ⟨(y127), (wrap64 (x2_1 + 1)), (by first | rfl | (simp; done) | (simp [*]; done)), H', ⟨by have := HK1.out; omega⟩, ⟨by (with_reducible repeat (first | apply Kd.R_alloc | apply Kd.R_drewN | apply Kd.R_drew)); exact HO129.out⟩, ⟨by repeat (first | (with_reducible first | exact HB.out | apply below_alloc | apply pw_below_drewN | apply below_drew1) | exact HB.out)⟩⟩
        · rw [if_neg c2] at H
          exact absurd H (by simp)
      · rw [if_neg c1] at H
        have c1b0 : decide (x2_1 ≤ 16) = false := decide_eq_false c1
        clear c1
        obtain rfl := Option.some.inj H
        go_wp2
        go_ret
        exact ⟨_, by first | rfl | (simp [errW_none, errW_some] <;> rfl) | (simp [*, errW_none, errW_some] <;> rfl), by (with_reducible repeat (first | apply Kd.R_alloc | apply Kd.R_drewN | apply Kd.R_drew)); exact HO_1.out, by repeat (first | (with_reducible first | exact HB.out | apply below_alloc | apply pw_below_drewN | apply below_drew1) | exact HB.out)⟩

end Go.Proofs.Ytkmimbchapcccaa.P
