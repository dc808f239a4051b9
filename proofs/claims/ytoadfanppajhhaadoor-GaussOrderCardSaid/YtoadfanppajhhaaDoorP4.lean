-- Printed by wip/mk.py (this session's driver over the kit's print) and from wip/manual.
import Derived.Test.YtoadfanppajhhaaDoorP0
import Derived.Test.YtoadfanppajhhaaDoorP1
import Derived.Test.YtoadfanppajhhaaDoorP2
import Derived.Test.YtoadfanppajhhaaDoorP3
namespace Go.Proofs.YtoadfanppajhhaaDoor.P
open Go.RowKit Go.Proofs.YtoadfanppajhhaaDoorW.PrintWords Go.Proofs.YtoadfanppajhhaaDoorW.PrintLast Go.Proofs.YtoadfanppajhhaaDoorW.PrintMore
attribute [local go_sem] run_store_float run_store_complex max2_int min2_int max_two min_two max_three min_three max_four min_four   -- for this text's walks alone
set_option linter.unusedVariables false
set_option linter.unusedSimpArgs false

/-! ### toponymlaw14_GaussParses: function 4 -/
def toponymlaw14_GaussParses.f (k : Nat) (a0 : ByteArray) : Option (Bool) := (gauss_Parse.f k a0).bind fun bt241 => ((toponymref14_Parse.f k a0).bind fun bt243 => ((toponymlaw14_is.f bt241.1 bt243.1 bt243.2.1).bind fun t246 => (if t246 = true then (if bt241.2 = bt243.2.2 then ((toponymlaw14_awake.f k).bind fun t247 => (some t247)) else (some false)) else (some false))))
theorem toponymlaw14_GaussParses.mono : ∀ a0 k, LeO (toponymlaw14_GaussParses.f k a0) (toponymlaw14_GaussParses.f (k + 1) a0) := by
 intro a0 k
 unfold toponymlaw14_GaussParses.f
 repeat' first
   | (with_reducible exact gauss_Parse.mono _ _)
   | (with_reducible exact toponymlaw14_awake.mono _)
   | (with_reducible exact toponymref14_Parse.mono _ _)
   | (with_reducible exact LeO.refl _)
   | exact gauss_Parse.mono _ _
   | exact toponymlaw14_awake.mono _
   | exact toponymref14_Parse.mono _ _
   | exact LeO.none _
   | refine LeO.ite ?_ ?_
   | refine LeO.bind ?_ (fun _ => ?_)
set_option maxHeartbeats 8000000 in
set_option maxRecDepth 100000 in
theorem toponymlaw14_GaussParses.calls (k : Nat) (a0 : ByteArray) (r : Bool) (w : World) (hE : Env w) (h : toponymlaw14_GaussParses.f k a0 = some r) (hT_ : r = true) :
  Calls Tryd.prog 4 #[.string a0] w fun e w' => e = .returned (.bool r) ∧ Below w.heap.size w w' := by
 have hT := aM hT_
 clear hT_
 have HE := aM hE
 clear hE
 have HB := aM (Below.refl w.heap.size w)
 have H := h
 clear h
 unfold toponymlaw14_GaussParses.f at H
 obtain ⟨⟨t241, t242⟩, A2, H⟩ := zO H
 try dsimp only at H
 obtain ⟨⟨t243, t244, t245⟩, A3, H⟩ := zO H
 try dsimp only at H
 obtain ⟨t246, A4, H⟩ := zO H
 by_cases c5 : t246 = true
 ·subst c5
  rw [if_pos rfl] at H
  by_cases c6 : t242 = t245
  ·rw [if_pos c6] at H
   have c6b0 : (t242 == t245) = true := beq_iff_eq.mpr c6
   have c6b1 : (t242 != t245) = false := bne_eq_false_iff_eq.mpr c6
   clear c6
   obtain ⟨t247, A7, H⟩ := zO H
   obtain rfl := sI H
   go_enter Tryd.func4, Tryd.ntmps4
   go_wp2_with (first | ((with_reducible refine gate_callee (f := 21) rfl ?_); refine goesL_ (some 10) rfl rfl Tryd.func21 zK rfl #[.string a0] rfl zM ?_; (with_reducible refine (gauss_Parse.calls k a0 t241 t242 _ (zEnv HE) A2.out).mono ?_); rintro e w8 ⟨rfl, hb⟩; refine ⟨_, rfl, ?_⟩; replace HB := aM (below_step zB hb); (try clear hb)) | ((with_reducible refine gate_callee (f := 22) rfl ?_); refine goesL_ (some 15) rfl rfl Tryd.func22 zK rfl #[.string a0] rfl zM ?_; (with_reducible refine (toponymref14_Parse.calls k a0 t243 t244 t245 _ A3.out).mono ?_); rintro e w9 ⟨rfl, hb⟩; refine ⟨_, rfl, ?_⟩; replace HB := aM (below_step zB hb); (try clear hb)) | ((with_reducible refine gate_callee (f := 16) rfl ?_); refine goesL_ (some 22) rfl rfl Tryd.func16 zK rfl #[.complex .f64 t241.1 t241.2, .int .i64 t243, .int .i64 t244] rfl zM ?_; (with_reducible refine (toponymlaw14_is.calls t241 t243 t244 true _ A4.out).mono ?_); rintro e w10 ⟨rfl, hb⟩; refine ⟨_, rfl, ?_⟩; replace HB := aM (below_step zB hb); (try clear hb)) | (go_at_call 20; (with_reducible refine (toponymlaw14_awake.calls k  t247 _ (zEnv HE) A7.out).mono ?_); rintro e w11 ⟨rfl, hb⟩; replace HB := aM (below_step zB hb); (try clear hb)))
   go_ret
   exact ⟨zE, zB⟩
  ·rw [if_neg c6] at H
   exact absurd ((sI H).trans hT.out) (by decide)
 ·replace c5 := Bool.eq_false_iff.mpr c5
  subst c5
  rw [if_neg (show ¬ (false = true) by decide)] at H
  exact absurd ((sI H).trans hT.out) (by decide)
/-- THE ONE PURE STATEMENT of toponymlaw14_GaussParses: yours. -/
def toponymlaw14_GaussParses.Pure : Prop := ∀ (a0 : ByteArray), a0.size ≤ 140737488351232 → ∃ k, toponymlaw14_GaussParses.f k a0 = some true
theorem toponymlaw14_GaussParses.walk (P : toponymlaw14_GaussParses.Pure) (a0 : ByteArray) (w : World) (hE : Env w) (w0 : a0.size ≤ 140737488351232) :
  Calls Tryd.prog 4 #[.string a0] w fun e w' => e = .returned (.bool true) ∧ Below w.heap.size w w' := by
 obtain ⟨k, h⟩ := P a0 w0
 refine (toponymlaw14_GaussParses.calls k a0 true w hE h rfl).mono ?_
 rintro e w' ⟨rfl, hd⟩
 exact ⟨rfl, hd⟩

/-! ### toponymref14_Times: function 24 -/
def toponymref14_Times.j0 : Nat → Int → Int → Int → Int → Bool → Option (Int × Int × Int)
 | 0, _, _, _, _, _ => none
 | k + 1, x7, x8, x10, x11, x32 => if x32 = true then (some (0, 0, 140)) else (if (wrap64 ((wrap64 (x7 * x10)) - (wrap64 (x8 * x11)))) < (-999999) then (some (0, 0, 3)) else (if (wrap64 ((wrap64 (x7 * x10)) - (wrap64 (x8 * x11)))) > 999999 then (some (0, 0, 3)) else (if (wrap64 ((wrap64 (x7 * x11)) + (wrap64 (x8 * x10)))) < (-999999) then (some (0, 0, 3)) else (if (wrap64 ((wrap64 (x7 * x11)) + (wrap64 (x8 * x10)))) > 999999 then (some (0, 0, 3)) else (some (wrap64 ((wrap64 (x7 * x10)) - (wrap64 (x8 * x11))), wrap64 ((wrap64 (x7 * x11)) + (wrap64 (x8 * x10))), 0))))))
def toponymref14_Times.f (k : Nat) (a0_0 : Nat) (a0_1 : Nat) (a1_0 : Nat) (a1_1 : Nat) : Option (Int × Int × Int) := (toponymref14_Parts.f a0_0 a0_1).bind fun bt250 => ((toponymref14_Parts.f a1_0 a1_1).bind fun bt253 => (if bt250.2.2 = true then (toponymref14_Times.j0 k bt250.1 bt250.2.1 bt253.1 bt253.2.1 (!bt253.2.2)) else (toponymref14_Times.j0 k bt250.1 bt250.2.1 bt253.1 bt253.2.1 true)))
theorem toponymref14_Times.mono_l : ∀ k, (∀ y0 y1 y2 y3 y4, LeO (toponymref14_Times.j0 k y0 y1 y2 y3 y4) (toponymref14_Times.j0 (k + 1) y0 y1 y2 y3 y4))
 | 0 => fun _ _ _ _ _ r h => by simp [toponymref14_Times.j0] at h
 | k + 1 => by
  have ih0 := toponymref14_Times.mono_l k
  ·intro y0 y1 y2 y3 y4
   unfold toponymref14_Times.j0
   repeat' first
   | (with_reducible exact ih0 _ _ _ _ _)
   | (with_reducible exact LeO.refl _)
   | exact ih0 _ _ _ _ _
   | exact LeO.none _
   | refine LeO.ite ?_ ?_
   | refine LeO.bind ?_ (fun _ => ?_)
theorem toponymref14_Times.mono : ∀ a0 a1 a2 a3 k, LeO (toponymref14_Times.f k a0 a1 a2 a3) (toponymref14_Times.f (k + 1) a0 a1 a2 a3) := by
 intro a0 a1 a2 a3 k
 have ih0 := toponymref14_Times.mono_l k
 unfold toponymref14_Times.f
 repeat' first
   | (with_reducible exact ih0 _ _ _ _ _)
   | (with_reducible exact LeO.refl _)
   | exact ih0 _ _ _ _ _
   | exact LeO.none _
   | refine LeO.ite ?_ ?_
   | refine LeO.bind ?_ (fun _ => ?_)
set_option maxHeartbeats 8000000 in
set_option maxRecDepth 100000 in
theorem toponymref14_Times.calls (k : Nat) (a0_0 : Nat) (a0_1 : Nat) (a1_0 : Nat) (a1_1 : Nat) (r1 : Int) (r2 : Int) (r3 : Int) (w : World) (h : toponymref14_Times.f k a0_0 a0_1 a1_0 a1_1 = some (r1, r2, r3)) :
  Calls Tryd.prog 24 #[.agg #[.float .f64 a0_0, .float .f64 a0_1], .agg #[.float .f64 a1_0, .float .f64 a1_1]] w fun e w' => e = .returned (.tuple #[.int .i64 r1, .int .i64 r2, .int .i64 r3]) ∧ Below w.heap.size w w' := by
 have hu32 := Tryd.underlying32
 have HB := aM (Below.refl w.heap.size w)
 have H := h
 clear h
 unfold toponymref14_Times.f at H
 obtain ⟨⟨t250, t251, t252⟩, A3, H⟩ := zO H
 try dsimp only at H
 obtain ⟨⟨t253, t254, t255⟩, A4, H⟩ := zO H
 try dsimp only at H
 have HC5 := aM H
 clear H
 go_enter Tryd.func24, Tryd.ntmps24
 go_upto_region 3 with (first | ((with_reducible refine gate_dst (N := 2) rfl ?_); refine box_event ?hg (N := 2) ?hd (cs := #[.float .f64 a0_0, .float .f64 a0_1]) (t := 32) ?hr ?_; (case hd => rfl); (case hg => rfl); (case hr => first | (go_simp; done) | (go_simp; rfl)); intro gb248 hg w6 hbox hb; have n_ := zI (aM (below_step zB hb)) (zI (aM (hbox)) (zI (aM ((by rw [hg]; exact (below_size zB) : w.heap.size ≤ gb248))) (aM ((by rw [hg]; exact (below_size zB) : w.heap.size ≤ gb248))))); clear HB; obtain ⟨HB, BK248, GW248, GE248⟩ := n_; clear hb hbox hg) | ((with_reducible refine gate_dst (N := 3) rfl ?_); refine box_event ?hg (N := 3) ?hd (cs := #[.float .f64 a1_0, .float .f64 a1_1]) (t := 32) ?hr ?_; (case hd => rfl); (case hg => rfl); (case hr => first | (go_simp; done) | (go_simp; rfl)); intro gb249 hg w7 hbox hb; have n_ := zI (aM (blk_below (g := gb248) (o := .cells #[.float .f64 a0_0, .float .f64 a0_1] 32 (0, 0)) (by (with_reducible repeat (first | refine blk_drewN ?_ _ | refine blk_drew ?_ | refine blk_alloc ?_ _)); exact BK248.out) hb)) (zI (aM (below_step (by repeat (first | (with_reducible first | exact HB.out | apply bA | apply bN | apply bD | refine below_set ?_ GE248.out) | exact HB.out)) hb)) (zI (aM (hbox)) (zI (aM ((by rw [hg]; exact (below_size (by repeat (first | (with_reducible first | exact HB.out | apply bA | apply bN | apply bD | refine below_set ?_ GE248.out) | exact HB.out))) : w.heap.size ≤ gb249))) (zI (aM ((by rw [hg]; exact (below_size (by repeat (first | (with_reducible first | exact HB.out | apply bA | apply bN | apply bD | refine below_set ?_ GE248.out) | exact HB.out))) : w.heap.size ≤ gb249))) (zI (aM ((by rw [hg]; exact Nat.ne_of_lt (blk_lt (g := gb248) (o := .cells #[.float .f64 a0_0, .float .f64 a0_1] 32 (0, 0)) (by (with_reducible repeat (first | refine blk_drewN ?_ _ | refine blk_drew ?_ | refine blk_alloc ?_ _)); exact BK248.out)) : gb248 ≠ gb249))) (aM ((by rw [hg]; exact Nat.ne_of_gt (blk_lt (g := gb248) (o := .cells #[.float .f64 a0_0, .float .f64 a0_1] 32 (0, 0)) (by (with_reducible repeat (first | refine blk_drewN ?_ _ | refine blk_drew ?_ | refine blk_alloc ?_ _)); exact BK248.out)) : gb249 ≠ gb248)))))))); clear BK248 HB; obtain ⟨BK248, HB, BK249, GW249, GE249, NB248_249, NB249_248⟩ := n_; clear hb hbox hg; have hnb8 := NB248_249.out; have hnc8 := NB249_248.out; have hcz9_0 : w7.cell? ⟨gb248, 0, none⟩ = some (.float .f64 a0_0) := (blk_cell BK248.out 0).trans rfl; have hcz9_1 : w7.cell? ⟨gb248, 1, none⟩ = some (.float .f64 a0_1) := (blk_cell BK248.out 1).trans rfl; have hfz9_0 := blk_frozen BK248.out 0; have hfz9_1 := blk_frozen BK248.out 1) | ((with_reducible refine gate_callee (f := 15) rfl ?_); refine goesL_ (some 17) rfl rfl Tryd.func15 zK rfl #[.agg #[.float .f64 a0_0, .float .f64 a0_1]] rfl zM ?_; (with_reducible refine (toponymref14_Parts.calls a0_0 a0_1 t250 t251 t252 _ A3.out).mono ?_); rintro e w10 ⟨rfl, hb⟩; (try clear A3); refine ⟨_, rfl, ?_⟩; have n_ := zI (aM (blk_below (g := gb248) (o := .cells #[.float .f64 a0_0, .float .f64 a0_1] 32 (0, 0)) (by (with_reducible repeat (first | refine blk_drewN ?_ _ | refine blk_drew ?_ | refine blk_alloc ?_ _)); exact BK248.out) hb)) (zI (aM (blk_below (g := gb249) (o := .cells #[.float .f64 a1_0, .float .f64 a1_1] 32 (0, 0)) (by (with_reducible repeat (first | refine blk_drewN ?_ _ | refine blk_drew ?_ | refine blk_alloc ?_ _)); exact BK249.out) hb)) (aM (below_step (by repeat (first | (with_reducible first | exact HB.out | apply bA | apply bN | apply bD | refine below_set ?_ GE248.out | refine below_set ?_ GE249.out) | exact HB.out)) hb))); clear BK248 BK249 HB; obtain ⟨BK248, BK249, HB⟩ := n_; (try clear hb); have hcz11_0 : w10.cell? ⟨gb249, 0, none⟩ = some (.float .f64 a1_0) := (blk_cell BK249.out 0).trans rfl; have hcz11_1 : w10.cell? ⟨gb249, 1, none⟩ = some (.float .f64 a1_1) := (blk_cell BK249.out 1).trans rfl; have hfz11_0 := blk_frozen BK249.out 0; have hfz11_1 := blk_frozen BK249.out 1) | ((with_reducible refine gate_callee (f := 15) rfl ?_); refine goesL_ (some 23) rfl rfl Tryd.func15 zK rfl #[.agg #[.float .f64 a1_0, .float .f64 a1_1]] rfl zM ?_; (with_reducible refine (toponymref14_Parts.calls a1_0 a1_1 t253 t254 t255 _ A4.out).mono ?_); rintro e w12 ⟨rfl, hb⟩; (try clear A4); refine ⟨_, rfl, ?_⟩; have n_ := zI (aM (blk_below (g := gb248) (o := .cells #[.float .f64 a0_0, .float .f64 a0_1] 32 (0, 0)) (by (with_reducible repeat (first | refine blk_drewN ?_ _ | refine blk_drew ?_ | refine blk_alloc ?_ _)); exact BK248.out) hb)) (zI (aM (blk_below (g := gb249) (o := .cells #[.float .f64 a1_0, .float .f64 a1_1] 32 (0, 0)) (by (with_reducible repeat (first | refine blk_drewN ?_ _ | refine blk_drew ?_ | refine blk_alloc ?_ _)); exact BK249.out) hb)) (aM (below_step (by repeat (first | (with_reducible first | exact HB.out | apply bA | apply bN | apply bD | refine below_set ?_ GE248.out | refine below_set ?_ GE249.out) | exact HB.out)) hb))); clear BK248 BK249 HB; obtain ⟨BK248, BK249, HB⟩ := n_; (try clear hb)))
 (try simp only [Act.put, List.setIfInBounds_toArray, List.set_cons_zero, List.set_cons_succ])
 go_cut [32] (fun v32 wc => ∃ (kq : Nat) (x32_4 : Bool), v32 = .bool x32_4 ∧ Aside0 (toponymref14_Times.j0 kq t250 t251 t253 t254 x32_4 = some (r1, r2, r3)) ∧ Aside0 (kq ≤ k) ∧ Aside0 (wc.heap[gb248]? = some (.cells #[.float .f64 a0_0, .float .f64 a0_1] 32 (0, 0))) ∧ Aside0 (wc.heap[gb249]? = some (.cells #[.float .f64 a1_0, .float .f64 a1_1] 32 (0, 0))) ∧ Aside0 (Below w.heap.size w wc))
 case first =>
  have H := HC5.out
  clear HC5
  by_cases c13 : t252 = true
  ·subst c13
   rw [if_pos rfl] at H
   have H' := aM H
   clear H
   go_wp2
   go_meet
   case rel => exact ⟨_, (!t255), zP, H', ⟨by first | omega | exact Nat.le_refl _⟩, ⟨by (with_reducible repeat (first | refine blk_drewN ?_ _ | refine blk_drew ?_ | refine blk_alloc ?_ _)); exact BK248.out⟩, ⟨by (with_reducible repeat (first | refine blk_drewN ?_ _ | refine blk_drew ?_ | refine blk_alloc ?_ _)); exact BK249.out⟩, ⟨by repeat (first | (with_reducible first | exact HB.out | apply bA | apply bN | apply bD | refine below_set ?_ GE248.out | refine below_set ?_ GE249.out) | exact HB.out)⟩⟩
  ·replace c13 := Bool.eq_false_iff.mpr c13
   subst c13
   rw [if_neg (show ¬ (false = true) by decide)] at H
   have H' := aM H
   clear H
   go_wp2
   go_meet
   case rel => exact ⟨_, (true), zP, H', ⟨by first | omega | exact Nat.le_refl _⟩, ⟨by (with_reducible repeat (first | refine blk_drewN ?_ _ | refine blk_drew ?_ | refine blk_alloc ?_ _)); exact BK248.out⟩, ⟨by (with_reducible repeat (first | refine blk_drewN ?_ _ | refine blk_drew ?_ | refine blk_alloc ?_ _)); exact BK249.out⟩, ⟨by repeat (first | (with_reducible first | exact HB.out | apply bA | apply bN | apply bD | refine below_set ?_ GE248.out | refine below_set ?_ GE249.out) | exact HB.out)⟩⟩
 case rest =>
  clear HC5
  try clear c1
  try clear c2
  try clear p2
  try clear c8
  try clear c13
  try clear hcz11_0
  try clear hcz11_1
  try clear hcz9_0
  try clear hcz9_1
  try clear hfz11_0
  try clear hfz11_1
  try clear hfz9_0
  try clear hfz9_1
  obtain ⟨kq, x32_4, rfl, HA, HJ4, BK248, BK249, HB⟩ := hcut
  cases kq with
  | zero => exact absurd HA.out (by simp [toponymref14_Times.j0])
  | succ kj4 =>
   have H := HA.out
   clear HA
   simp only [toponymref14_Times.j0] at H
   by_cases c14 : x32_4 = true
   ·subst c14
    rw [if_pos rfl] at H
    simp only [Option.some.injEq, Prod.mk.injEq] at H
    obtain ⟨rfl, rfl, rfl⟩ := H
    go_wp2
    go_ret3
    exact ⟨zE, by repeat (first | (with_reducible first | exact HB.out | apply bA | apply bN | apply bD | refine below_set ?_ GE248.out | refine below_set ?_ GE249.out) | exact HB.out)⟩
   ·replace c14 := Bool.eq_false_iff.mpr c14
    subst c14
    rw [if_neg (show ¬ (false = true) by decide)] at H
    by_cases c15 : (wrap64 ((wrap64 (t250 * t253)) - (wrap64 (t251 * t254)))) < (-999999)
    ·rw [if_pos c15] at H
     have c15b0 : decide ((wrap64 ((wrap64 (t250 * t253)) - (wrap64 (t251 * t254)))) < (-999999)) = true := decide_eq_true c15
     clear c15
     simp only [Option.some.injEq, Prod.mk.injEq] at H
     obtain ⟨rfl, rfl, rfl⟩ := H
     go_wp2
     go_ret3
     exact ⟨zE, by repeat (first | (with_reducible first | exact HB.out | apply bA | apply bN | apply bD | refine below_set ?_ GE248.out | refine below_set ?_ GE249.out) | exact HB.out)⟩
    ·rw [if_neg c15] at H
     have c15b0 : decide ((wrap64 ((wrap64 (t250 * t253)) - (wrap64 (t251 * t254)))) < (-999999)) = false := decide_eq_false c15
     clear c15
     by_cases c16 : (wrap64 ((wrap64 (t250 * t253)) - (wrap64 (t251 * t254)))) > 999999
     ·rw [if_pos c16] at H
      have c16b0 : decide (999999 < (wrap64 ((wrap64 (t250 * t253)) - (wrap64 (t251 * t254))))) = true := decide_eq_true c16
      clear c16
      simp only [Option.some.injEq, Prod.mk.injEq] at H
      obtain ⟨rfl, rfl, rfl⟩ := H
      go_wp2
      go_ret3
      exact ⟨zE, by repeat (first | (with_reducible first | exact HB.out | apply bA | apply bN | apply bD | refine below_set ?_ GE248.out | refine below_set ?_ GE249.out) | exact HB.out)⟩
     ·rw [if_neg c16] at H
      have c16b0 : decide (999999 < (wrap64 ((wrap64 (t250 * t253)) - (wrap64 (t251 * t254))))) = false := decide_eq_false c16
      clear c16
      by_cases c17 : (wrap64 ((wrap64 (t250 * t254)) + (wrap64 (t251 * t253)))) < (-999999)
      ·rw [if_pos c17] at H
       have c17b0 : decide ((wrap64 ((wrap64 (t250 * t254)) + (wrap64 (t251 * t253)))) < (-999999)) = true := decide_eq_true c17
       clear c17
       simp only [Option.some.injEq, Prod.mk.injEq] at H
       obtain ⟨rfl, rfl, rfl⟩ := H
       go_wp2
       go_ret3
       exact ⟨zE, by repeat (first | (with_reducible first | exact HB.out | apply bA | apply bN | apply bD | refine below_set ?_ GE248.out | refine below_set ?_ GE249.out) | exact HB.out)⟩
      ·rw [if_neg c17] at H
       have c17b0 : decide ((wrap64 ((wrap64 (t250 * t254)) + (wrap64 (t251 * t253)))) < (-999999)) = false := decide_eq_false c17
       clear c17
       by_cases c18 : (wrap64 ((wrap64 (t250 * t254)) + (wrap64 (t251 * t253)))) > 999999
       ·rw [if_pos c18] at H
        have c18b0 : decide (999999 < (wrap64 ((wrap64 (t250 * t254)) + (wrap64 (t251 * t253))))) = true := decide_eq_true c18
        clear c18
        simp only [Option.some.injEq, Prod.mk.injEq] at H
        obtain ⟨rfl, rfl, rfl⟩ := H
        go_wp2
        go_ret3
        exact ⟨zE, by repeat (first | (with_reducible first | exact HB.out | apply bA | apply bN | apply bD | refine below_set ?_ GE248.out | refine below_set ?_ GE249.out) | exact HB.out)⟩
       ·rw [if_neg c18] at H
        have c18b0 : decide (999999 < (wrap64 ((wrap64 (t250 * t254)) + (wrap64 (t251 * t253))))) = false := decide_eq_false c18
        clear c18
        simp only [Option.some.injEq, Prod.mk.injEq] at H
        obtain ⟨rfl, rfl, rfl⟩ := H
        go_wp2
        go_ret3
        exact ⟨zE, by repeat (first | (with_reducible first | exact HB.out | apply bA | apply bN | apply bD | refine below_set ?_ GE248.out | refine below_set ?_ GE249.out) | exact HB.out)⟩

/-! ### toponymref14_Cmp: function 26 -/
def toponymref14_Cmp.f (a0_0 : Nat) (a0_1 : Nat) (a1_0 : Nat) (a1_1 : Nat) : Option (Int) := (toponymref14_Parts.f a0_0 a0_1).bind fun bt258 => ((toponymref14_Parts.f a1_0 a1_1).bind fun bt261 => ((toponymref14_Norm.f a0_0 a0_1).bind fun t264 => ((toponymref14_Norm.f a1_0 a1_1).bind fun t265 => (if t264 < t265 then (some (-1)) else (if t264 > t265 then (some 1) else (if bt258.1 < bt261.1 then (some (-1)) else (if bt258.1 > bt261.1 then (some 1) else (if bt258.2.1 < bt261.2.1 then (some (-1)) else (if bt258.2.1 > bt261.2.1 then (some 1) else (some 0))))))))))
set_option maxHeartbeats 8000000 in
set_option maxRecDepth 100000 in
theorem toponymref14_Cmp.calls (a0_0 : Nat) (a0_1 : Nat) (a1_0 : Nat) (a1_1 : Nat) (r : Int) (w : World) (h : toponymref14_Cmp.f a0_0 a0_1 a1_0 a1_1 = some r) :
  Calls Tryd.prog 26 #[.agg #[.float .f64 a0_0, .float .f64 a0_1], .agg #[.float .f64 a1_0, .float .f64 a1_1]] w fun e w' => e = .returned (.int .i64 r) ∧ Below w.heap.size w w' := by
 have hu32 := Tryd.underlying32
 have HB := aM (Below.refl w.heap.size w)
 have H := h
 clear h
 unfold toponymref14_Cmp.f at H
 obtain ⟨⟨t258, t259, t260⟩, A3, H⟩ := zO H
 try dsimp only at H
 obtain ⟨⟨t261, t262, t263⟩, A4, H⟩ := zO H
 try dsimp only at H
 obtain ⟨t264, A5, H⟩ := zO H
 obtain ⟨t265, A6, H⟩ := zO H
 by_cases c7 : t264 < t265
 ·rw [if_pos c7] at H
  have c7b0 : decide (t264 < t265) = true := decide_eq_true c7
  clear c7
  obtain rfl := sI H
  go_enter Tryd.func26, Tryd.ntmps26
  try go_wp2_with (first | ((with_reducible refine gate_dst (N := 2) rfl ?_); refine box_event ?hg (N := 2) ?hd (cs := #[.float .f64 a0_0, .float .f64 a0_1]) (t := 32) ?hr ?_; (case hd => rfl); (case hg => rfl); (case hr => first | (go_simp; done) | (go_simp; rfl)); intro gb256 hg w8 hbox hb; have n_ := zI (aM (below_step zB hb)) (zI (aM (hbox)) (zI (aM ((by rw [hg]; exact (below_size zB) : w.heap.size ≤ gb256))) (aM ((by rw [hg]; exact (below_size zB) : w.heap.size ≤ gb256))))); clear HB; obtain ⟨HB, BK256, GW256, GE256⟩ := n_; clear hb hbox hg) | ((with_reducible refine gate_dst (N := 3) rfl ?_); refine box_event ?hg (N := 3) ?hd (cs := #[.float .f64 a1_0, .float .f64 a1_1]) (t := 32) ?hr ?_; (case hd => rfl); (case hg => rfl); (case hr => first | (go_simp; done) | (go_simp; rfl)); intro gb257 hg w9 hbox hb; have n_ := zI (aM (blk_below (g := gb256) (o := .cells #[.float .f64 a0_0, .float .f64 a0_1] 32 (0, 0)) (by (with_reducible repeat (first | refine blk_drewN ?_ _ | refine blk_drew ?_ | refine blk_alloc ?_ _)); exact BK256.out) hb)) (zI (aM (below_step (by repeat (first | (with_reducible first | exact HB.out | apply bA | apply bN | apply bD | refine below_set ?_ GE256.out) | exact HB.out)) hb)) (zI (aM (hbox)) (zI (aM ((by rw [hg]; exact (below_size (by repeat (first | (with_reducible first | exact HB.out | apply bA | apply bN | apply bD | refine below_set ?_ GE256.out) | exact HB.out))) : w.heap.size ≤ gb257))) (zI (aM ((by rw [hg]; exact (below_size (by repeat (first | (with_reducible first | exact HB.out | apply bA | apply bN | apply bD | refine below_set ?_ GE256.out) | exact HB.out))) : w.heap.size ≤ gb257))) (zI (aM ((by rw [hg]; exact Nat.ne_of_lt (blk_lt (g := gb256) (o := .cells #[.float .f64 a0_0, .float .f64 a0_1] 32 (0, 0)) (by (with_reducible repeat (first | refine blk_drewN ?_ _ | refine blk_drew ?_ | refine blk_alloc ?_ _)); exact BK256.out)) : gb256 ≠ gb257))) (aM ((by rw [hg]; exact Nat.ne_of_gt (blk_lt (g := gb256) (o := .cells #[.float .f64 a0_0, .float .f64 a0_1] 32 (0, 0)) (by (with_reducible repeat (first | refine blk_drewN ?_ _ | refine blk_drew ?_ | refine blk_alloc ?_ _)); exact BK256.out)) : gb257 ≠ gb256)))))))); clear BK256 HB; obtain ⟨BK256, HB, BK257, GW257, GE257, NB256_257, NB257_256⟩ := n_; clear hb hbox hg; have hnb10 := NB256_257.out; have hnc10 := NB257_256.out; have hcz11_0 : w9.cell? ⟨gb256, 0, none⟩ = some (.float .f64 a0_0) := (blk_cell BK256.out 0).trans rfl; have hcz11_1 : w9.cell? ⟨gb256, 1, none⟩ = some (.float .f64 a0_1) := (blk_cell BK256.out 1).trans rfl; have hfz11_0 := blk_frozen BK256.out 0; have hfz11_1 := blk_frozen BK256.out 1) | ((with_reducible refine gate_callee (f := 15) rfl ?_); refine goesL_ (some 15) rfl rfl Tryd.func15 zK rfl #[.agg #[.float .f64 a0_0, .float .f64 a0_1]] rfl zM ?_; (with_reducible refine (toponymref14_Parts.calls a0_0 a0_1 t258 t259 t260 _ A3.out).mono ?_); rintro e w12 ⟨rfl, hb⟩; (try clear A3); refine ⟨_, rfl, ?_⟩; have n_ := zI (aM (blk_below (g := gb256) (o := .cells #[.float .f64 a0_0, .float .f64 a0_1] 32 (0, 0)) (by (with_reducible repeat (first | refine blk_drewN ?_ _ | refine blk_drew ?_ | refine blk_alloc ?_ _)); exact BK256.out) hb)) (zI (aM (blk_below (g := gb257) (o := .cells #[.float .f64 a1_0, .float .f64 a1_1] 32 (0, 0)) (by (with_reducible repeat (first | refine blk_drewN ?_ _ | refine blk_drew ?_ | refine blk_alloc ?_ _)); exact BK257.out) hb)) (aM (below_step (by repeat (first | (with_reducible first | exact HB.out | apply bA | apply bN | apply bD | refine below_set ?_ GE256.out | refine below_set ?_ GE257.out) | exact HB.out)) hb))); clear BK256 BK257 HB; obtain ⟨BK256, BK257, HB⟩ := n_; (try clear hb); have hcz13_0 : w12.cell? ⟨gb257, 0, none⟩ = some (.float .f64 a1_0) := (blk_cell BK257.out 0).trans rfl; have hcz13_1 : w12.cell? ⟨gb257, 1, none⟩ = some (.float .f64 a1_1) := (blk_cell BK257.out 1).trans rfl; have hfz13_0 := blk_frozen BK257.out 0; have hfz13_1 := blk_frozen BK257.out 1) | ((with_reducible refine gate_callee (f := 15) rfl ?_); refine goesL_ (some 21) rfl rfl Tryd.func15 zK rfl #[.agg #[.float .f64 a1_0, .float .f64 a1_1]] rfl zM ?_; (with_reducible refine (toponymref14_Parts.calls a1_0 a1_1 t261 t262 t263 _ A4.out).mono ?_); rintro e w14 ⟨rfl, hb⟩; (try clear A4); refine ⟨_, rfl, ?_⟩; have n_ := zI (aM (blk_below (g := gb256) (o := .cells #[.float .f64 a0_0, .float .f64 a0_1] 32 (0, 0)) (by (with_reducible repeat (first | refine blk_drewN ?_ _ | refine blk_drew ?_ | refine blk_alloc ?_ _)); exact BK256.out) hb)) (zI (aM (blk_below (g := gb257) (o := .cells #[.float .f64 a1_0, .float .f64 a1_1] 32 (0, 0)) (by (with_reducible repeat (first | refine blk_drewN ?_ _ | refine blk_drew ?_ | refine blk_alloc ?_ _)); exact BK257.out) hb)) (aM (below_step (by repeat (first | (with_reducible first | exact HB.out | apply bA | apply bN | apply bD | refine below_set ?_ GE256.out | refine below_set ?_ GE257.out) | exact HB.out)) hb))); clear BK256 BK257 HB; obtain ⟨BK256, BK257, HB⟩ := n_; (try clear hb)))
  have n0_ := aM (blk_drew BK256.out)
  have n1_ := aM (blk_drew BK257.out)
  have n2_ := aM (bD HB.out)
  clear BK256
  clear BK257
  clear HB
  have BK256 := n0_
  have BK257 := n1_
  have HB := n2_
  clear n0_ n1_ n2_
  refine start_ (n := 6) (S := fun w' => w'.cell? ⟨gb256, 0, none⟩ = some (.float .f64 a0_0) ∧ w'.cell? ⟨gb256, 1, none⟩ = some (.float .f64 a0_1) ∧ w'.cell? ⟨gb257, 0, none⟩ = some (.float .f64 a1_0) ∧ w'.cell? ⟨gb257, 1, none⟩ = some (.float .f64 a1_1)) (ds := []) #[false, false, false, false, false, false] zK rfl rfl ⟨(blk_cell BK256.out 0).trans rfl, (blk_cell BK256.out 1).trans rfl, (blk_cell BK257.out 0).trans rfl, (blk_cell BK257.out 1).trans rfl⟩ (fun hHeld => ?_)
  generalize w14.drew = w15 at BK256 BK257 HB hHeld ⊢
  refine take_ (i := 0) (N := some 25) (v := ?_) (a' := ?_) #[true, false, false, false, false, false] rfl rfl zK (fun _ _ _ h => h) (Or.inl ⟨by rfl, ?_⟩) hHeld ?_ ?_
  rotate_left
  ·rintro w' ⟨s0, s1, s2, s3⟩
   go_simp
   with_reducible rfl
  rotate_left
  ·simp only [Act.put, List.setIfInBounds_toArray, List.set_cons_zero, List.set_cons_succ, i64_w, i32_w]
   rfl
  refine take_ (i := 2) (N := some 27) (v := ?_) (a' := ?_) #[true, false, true, false, false, false] rfl rfl zK (fun _ _ _ h => h) (Or.inl ⟨by rfl, ?_⟩) hHeld ?_ ?_
  rotate_left
  ·rintro w' ⟨s0, s1, s2, s3⟩
   go_simp
   with_reducible rfl
  rotate_left
  ·simp only [Act.put, List.setIfInBounds_toArray, List.set_cons_zero, List.set_cons_succ, i64_w, i32_w]
   rfl
  refine one_ (i := 1) (N := some 26) #[true, true, true, false, false, false] rfl rfl zK (by decide) (fun K hK => ?_)
  refine goes_ Tryd.func19 zK rfl #[.agg #[.float .f64 a0_0, .float .f64 a0_1]] (by rfl) rfl rfl zM ?_
  with_reducible refine (toponymref14_Norm.calls a0_0 a0_1 t264 _ A5.out).mono ?_
  rintro e w16 ⟨rfl, hb⟩
  refine ⟨_, rfl, ?_⟩
  have n0_ := aM (blk_below (g := gb256) (o := .cells #[.float .f64 a0_0, .float .f64 a0_1] 32 (0, 0)) (by (with_reducible repeat (first | refine blk_drewN ?_ _ | refine blk_drew ?_ | refine blk_alloc ?_ _)); exact BK256.out) hb)
  have n1_ := aM (blk_below (g := gb257) (o := .cells #[.float .f64 a1_0, .float .f64 a1_1] 32 (0, 0)) (by (with_reducible repeat (first | refine blk_drewN ?_ _ | refine blk_drew ?_ | refine blk_alloc ?_ _)); exact BK257.out) hb)
  have n2_ := aM (below_step (by repeat (first | (with_reducible first | exact HB.out | apply bA | apply bN | apply bD | refine below_set ?_ GE256.out | refine below_set ?_ GE257.out) | exact HB.out)) hb)
  clear BK256
  clear BK257
  clear HB
  have BK256 := n0_
  have BK257 := n1_
  have HB := n2_
  clear n0_ n1_ n2_
  (try clear hb)
  (try clear hb2)
  (try clear hk)
  (try clear hi)
  refine hK.out _ _ ⟨(blk_cell BK256.out 0).trans rfl, (blk_cell BK256.out 1).trans rfl, (blk_cell BK257.out 0).trans rfl, (blk_cell BK257.out 1).trans rfl⟩ (fun hHeld => ?_)
  clear hK K
  refine norm_ (a' := ?_) ?_ ?_
  rotate_left
  ·show Act.put _ (some 26) _ = _
   simp only [Act.put, List.setIfInBounds_toArray, List.set_cons_zero, List.set_cons_succ, i64_w, i32_w]
   rfl
  refine one_ (i := 3) (N := some 28) #[true, true, true, true, false, false] rfl rfl zK (by decide) (fun K hK => ?_)
  refine goes_ Tryd.func19 zK rfl #[.agg #[.float .f64 a1_0, .float .f64 a1_1]] (by rfl) rfl rfl zM ?_
  with_reducible refine (toponymref14_Norm.calls a1_0 a1_1 t265 _ A6.out).mono ?_
  rintro e w17 ⟨rfl, hb⟩
  refine ⟨_, rfl, ?_⟩
  have n0_ := aM (blk_below (g := gb256) (o := .cells #[.float .f64 a0_0, .float .f64 a0_1] 32 (0, 0)) (by (with_reducible repeat (first | refine blk_drewN ?_ _ | refine blk_drew ?_ | refine blk_alloc ?_ _)); exact BK256.out) hb)
  have n1_ := aM (blk_below (g := gb257) (o := .cells #[.float .f64 a1_0, .float .f64 a1_1] 32 (0, 0)) (by (with_reducible repeat (first | refine blk_drewN ?_ _ | refine blk_drew ?_ | refine blk_alloc ?_ _)); exact BK257.out) hb)
  have n2_ := aM (below_step (by repeat (first | (with_reducible first | exact HB.out | apply bA | apply bN | apply bD | refine below_set ?_ GE256.out | refine below_set ?_ GE257.out) | exact HB.out)) hb)
  clear BK256
  clear BK257
  clear HB
  have BK256 := n0_
  have BK257 := n1_
  have HB := n2_
  clear n0_ n1_ n2_
  (try clear hb)
  (try clear hb2)
  (try clear hk)
  (try clear hi)
  refine hK.out _ _ ⟨(blk_cell BK256.out 0).trans rfl, (blk_cell BK256.out 1).trans rfl, (blk_cell BK257.out 0).trans rfl, (blk_cell BK257.out 1).trans rfl⟩ (fun hHeld => ?_)
  clear hK K
  refine norm_ (a' := ?_) ?_ ?_
  rotate_left
  ·show Act.put _ (some 28) _ = _
   simp only [Act.put, List.setIfInBounds_toArray, List.set_cons_zero, List.set_cons_succ, i64_w, i32_w]
   rfl
  refine pure_ (i := 4) (N := some 11) (v := ?_) (a' := ?_) #[true, true, true, true, true, false] rfl rfl zK (fun _ _ _ h => h) (Or.inl ⟨by rfl, ?_⟩) ?_ ?_
  rotate_left
  ·intro w'
   go_simp
   with_reducible rfl
  rotate_left
  ·simp only [Act.put, List.setIfInBounds_toArray, List.set_cons_zero, List.set_cons_succ, i64_w, i32_w]
   rfl
  refine pure_ (i := 5) (N := some 12) (v := ?_) (a' := ?_) #[true, true, true, true, true, true] rfl rfl zK (fun _ _ _ h => h) (Or.inl ⟨by rfl, ?_⟩) ?_ ?_
  rotate_left
  ·intro w'
   go_simp
   with_reducible rfl
  rotate_left
  ·simp only [Act.put, List.setIfInBounds_toArray, List.set_cons_zero, List.set_cons_succ, i64_w, i32_w]
   rfl
  refine done_ zK ?_
  try go_wp2
  go_ret
  exact ⟨zE, by repeat (first | (with_reducible first | exact HB.out | apply bA | apply bN | apply bD | refine below_set ?_ GE256.out | refine below_set ?_ GE257.out) | exact HB.out)⟩
 ·rw [if_neg c7] at H
  have c7b0 : decide (t264 < t265) = false := decide_eq_false c7
  clear c7
  by_cases c18 : t264 > t265
  ·rw [if_pos c18] at H
   have c18b0 : decide (t265 < t264) = true := decide_eq_true c18
   clear c18
   obtain rfl := sI H
   go_enter Tryd.func26, Tryd.ntmps26
   try go_wp2_with (first | ((with_reducible refine gate_dst (N := 2) rfl ?_); refine box_event ?hg (N := 2) ?hd (cs := #[.float .f64 a0_0, .float .f64 a0_1]) (t := 32) ?hr ?_; (case hd => rfl); (case hg => rfl); (case hr => first | (go_simp; done) | (go_simp; rfl)); intro gb256 hg w19 hbox hb; have n_ := zI (aM (below_step zB hb)) (zI (aM (hbox)) (zI (aM ((by rw [hg]; exact (below_size zB) : w.heap.size ≤ gb256))) (aM ((by rw [hg]; exact (below_size zB) : w.heap.size ≤ gb256))))); clear HB; obtain ⟨HB, BK256, GW256, GE256⟩ := n_; clear hb hbox hg) | ((with_reducible refine gate_dst (N := 3) rfl ?_); refine box_event ?hg (N := 3) ?hd (cs := #[.float .f64 a1_0, .float .f64 a1_1]) (t := 32) ?hr ?_; (case hd => rfl); (case hg => rfl); (case hr => first | (go_simp; done) | (go_simp; rfl)); intro gb257 hg w20 hbox hb; have n_ := zI (aM (blk_below (g := gb256) (o := .cells #[.float .f64 a0_0, .float .f64 a0_1] 32 (0, 0)) (by (with_reducible repeat (first | refine blk_drewN ?_ _ | refine blk_drew ?_ | refine blk_alloc ?_ _)); exact BK256.out) hb)) (zI (aM (below_step (by repeat (first | (with_reducible first | exact HB.out | apply bA | apply bN | apply bD | refine below_set ?_ GE256.out) | exact HB.out)) hb)) (zI (aM (hbox)) (zI (aM ((by rw [hg]; exact (below_size (by repeat (first | (with_reducible first | exact HB.out | apply bA | apply bN | apply bD | refine below_set ?_ GE256.out) | exact HB.out))) : w.heap.size ≤ gb257))) (zI (aM ((by rw [hg]; exact (below_size (by repeat (first | (with_reducible first | exact HB.out | apply bA | apply bN | apply bD | refine below_set ?_ GE256.out) | exact HB.out))) : w.heap.size ≤ gb257))) (zI (aM ((by rw [hg]; exact Nat.ne_of_lt (blk_lt (g := gb256) (o := .cells #[.float .f64 a0_0, .float .f64 a0_1] 32 (0, 0)) (by (with_reducible repeat (first | refine blk_drewN ?_ _ | refine blk_drew ?_ | refine blk_alloc ?_ _)); exact BK256.out)) : gb256 ≠ gb257))) (aM ((by rw [hg]; exact Nat.ne_of_gt (blk_lt (g := gb256) (o := .cells #[.float .f64 a0_0, .float .f64 a0_1] 32 (0, 0)) (by (with_reducible repeat (first | refine blk_drewN ?_ _ | refine blk_drew ?_ | refine blk_alloc ?_ _)); exact BK256.out)) : gb257 ≠ gb256)))))))); clear BK256 HB; obtain ⟨BK256, HB, BK257, GW257, GE257, NB256_257, NB257_256⟩ := n_; clear hb hbox hg; have hnb21 := NB256_257.out; have hnc21 := NB257_256.out; have hcz22_0 : w20.cell? ⟨gb256, 0, none⟩ = some (.float .f64 a0_0) := (blk_cell BK256.out 0).trans rfl; have hcz22_1 : w20.cell? ⟨gb256, 1, none⟩ = some (.float .f64 a0_1) := (blk_cell BK256.out 1).trans rfl; have hfz22_0 := blk_frozen BK256.out 0; have hfz22_1 := blk_frozen BK256.out 1) | ((with_reducible refine gate_callee (f := 15) rfl ?_); refine goesL_ (some 15) rfl rfl Tryd.func15 zK rfl #[.agg #[.float .f64 a0_0, .float .f64 a0_1]] rfl zM ?_; (with_reducible refine (toponymref14_Parts.calls a0_0 a0_1 t258 t259 t260 _ A3.out).mono ?_); rintro e w23 ⟨rfl, hb⟩; (try clear A3); refine ⟨_, rfl, ?_⟩; have n_ := zI (aM (blk_below (g := gb256) (o := .cells #[.float .f64 a0_0, .float .f64 a0_1] 32 (0, 0)) (by (with_reducible repeat (first | refine blk_drewN ?_ _ | refine blk_drew ?_ | refine blk_alloc ?_ _)); exact BK256.out) hb)) (zI (aM (blk_below (g := gb257) (o := .cells #[.float .f64 a1_0, .float .f64 a1_1] 32 (0, 0)) (by (with_reducible repeat (first | refine blk_drewN ?_ _ | refine blk_drew ?_ | refine blk_alloc ?_ _)); exact BK257.out) hb)) (aM (below_step (by repeat (first | (with_reducible first | exact HB.out | apply bA | apply bN | apply bD | refine below_set ?_ GE256.out | refine below_set ?_ GE257.out) | exact HB.out)) hb))); clear BK256 BK257 HB; obtain ⟨BK256, BK257, HB⟩ := n_; (try clear hb); have hcz24_0 : w23.cell? ⟨gb257, 0, none⟩ = some (.float .f64 a1_0) := (blk_cell BK257.out 0).trans rfl; have hcz24_1 : w23.cell? ⟨gb257, 1, none⟩ = some (.float .f64 a1_1) := (blk_cell BK257.out 1).trans rfl; have hfz24_0 := blk_frozen BK257.out 0; have hfz24_1 := blk_frozen BK257.out 1) | ((with_reducible refine gate_callee (f := 15) rfl ?_); refine goesL_ (some 21) rfl rfl Tryd.func15 zK rfl #[.agg #[.float .f64 a1_0, .float .f64 a1_1]] rfl zM ?_; (with_reducible refine (toponymref14_Parts.calls a1_0 a1_1 t261 t262 t263 _ A4.out).mono ?_); rintro e w25 ⟨rfl, hb⟩; (try clear A4); refine ⟨_, rfl, ?_⟩; have n_ := zI (aM (blk_below (g := gb256) (o := .cells #[.float .f64 a0_0, .float .f64 a0_1] 32 (0, 0)) (by (with_reducible repeat (first | refine blk_drewN ?_ _ | refine blk_drew ?_ | refine blk_alloc ?_ _)); exact BK256.out) hb)) (zI (aM (blk_below (g := gb257) (o := .cells #[.float .f64 a1_0, .float .f64 a1_1] 32 (0, 0)) (by (with_reducible repeat (first | refine blk_drewN ?_ _ | refine blk_drew ?_ | refine blk_alloc ?_ _)); exact BK257.out) hb)) (aM (below_step (by repeat (first | (with_reducible first | exact HB.out | apply bA | apply bN | apply bD | refine below_set ?_ GE256.out | refine below_set ?_ GE257.out) | exact HB.out)) hb))); clear BK256 BK257 HB; obtain ⟨BK256, BK257, HB⟩ := n_; (try clear hb)))
   have n0_ := aM (blk_drew BK256.out)
   have n1_ := aM (blk_drew BK257.out)
   have n2_ := aM (bD HB.out)
   clear BK256
   clear BK257
   clear HB
   have BK256 := n0_
   have BK257 := n1_
   have HB := n2_
   clear n0_ n1_ n2_
   refine start_ (n := 6) (S := fun w' => w'.cell? ⟨gb256, 0, none⟩ = some (.float .f64 a0_0) ∧ w'.cell? ⟨gb256, 1, none⟩ = some (.float .f64 a0_1) ∧ w'.cell? ⟨gb257, 0, none⟩ = some (.float .f64 a1_0) ∧ w'.cell? ⟨gb257, 1, none⟩ = some (.float .f64 a1_1)) (ds := []) #[false, false, false, false, false, false] zK rfl rfl ⟨(blk_cell BK256.out 0).trans rfl, (blk_cell BK256.out 1).trans rfl, (blk_cell BK257.out 0).trans rfl, (blk_cell BK257.out 1).trans rfl⟩ (fun hHeld => ?_)
   generalize w25.drew = w26 at BK256 BK257 HB hHeld ⊢
   refine take_ (i := 0) (N := some 25) (v := ?_) (a' := ?_) #[true, false, false, false, false, false] rfl rfl zK (fun _ _ _ h => h) (Or.inl ⟨by rfl, ?_⟩) hHeld ?_ ?_
   rotate_left
   ·rintro w' ⟨s0, s1, s2, s3⟩
    go_simp
    with_reducible rfl
   rotate_left
   ·simp only [Act.put, List.setIfInBounds_toArray, List.set_cons_zero, List.set_cons_succ, i64_w, i32_w]
    rfl
   refine take_ (i := 2) (N := some 27) (v := ?_) (a' := ?_) #[true, false, true, false, false, false] rfl rfl zK (fun _ _ _ h => h) (Or.inl ⟨by rfl, ?_⟩) hHeld ?_ ?_
   rotate_left
   ·rintro w' ⟨s0, s1, s2, s3⟩
    go_simp
    with_reducible rfl
   rotate_left
   ·simp only [Act.put, List.setIfInBounds_toArray, List.set_cons_zero, List.set_cons_succ, i64_w, i32_w]
    rfl
   refine one_ (i := 1) (N := some 26) #[true, true, true, false, false, false] rfl rfl zK (by decide) (fun K hK => ?_)
   refine goes_ Tryd.func19 zK rfl #[.agg #[.float .f64 a0_0, .float .f64 a0_1]] (by rfl) rfl rfl zM ?_
   with_reducible refine (toponymref14_Norm.calls a0_0 a0_1 t264 _ A5.out).mono ?_
   rintro e w27 ⟨rfl, hb⟩
   refine ⟨_, rfl, ?_⟩
   have n0_ := aM (blk_below (g := gb256) (o := .cells #[.float .f64 a0_0, .float .f64 a0_1] 32 (0, 0)) (by (with_reducible repeat (first | refine blk_drewN ?_ _ | refine blk_drew ?_ | refine blk_alloc ?_ _)); exact BK256.out) hb)
   have n1_ := aM (blk_below (g := gb257) (o := .cells #[.float .f64 a1_0, .float .f64 a1_1] 32 (0, 0)) (by (with_reducible repeat (first | refine blk_drewN ?_ _ | refine blk_drew ?_ | refine blk_alloc ?_ _)); exact BK257.out) hb)
   have n2_ := aM (below_step (by repeat (first | (with_reducible first | exact HB.out | apply bA | apply bN | apply bD | refine below_set ?_ GE256.out | refine below_set ?_ GE257.out) | exact HB.out)) hb)
   clear BK256
   clear BK257
   clear HB
   have BK256 := n0_
   have BK257 := n1_
   have HB := n2_
   clear n0_ n1_ n2_
   (try clear hb)
   (try clear hb2)
   (try clear hk)
   (try clear hi)
   refine hK.out _ _ ⟨(blk_cell BK256.out 0).trans rfl, (blk_cell BK256.out 1).trans rfl, (blk_cell BK257.out 0).trans rfl, (blk_cell BK257.out 1).trans rfl⟩ (fun hHeld => ?_)
   clear hK K
   refine norm_ (a' := ?_) ?_ ?_
   rotate_left
   ·show Act.put _ (some 26) _ = _
    simp only [Act.put, List.setIfInBounds_toArray, List.set_cons_zero, List.set_cons_succ, i64_w, i32_w]
    rfl
   refine one_ (i := 3) (N := some 28) #[true, true, true, true, false, false] rfl rfl zK (by decide) (fun K hK => ?_)
   refine goes_ Tryd.func19 zK rfl #[.agg #[.float .f64 a1_0, .float .f64 a1_1]] (by rfl) rfl rfl zM ?_
   with_reducible refine (toponymref14_Norm.calls a1_0 a1_1 t265 _ A6.out).mono ?_
   rintro e w28 ⟨rfl, hb⟩
   refine ⟨_, rfl, ?_⟩
   have n0_ := aM (blk_below (g := gb256) (o := .cells #[.float .f64 a0_0, .float .f64 a0_1] 32 (0, 0)) (by (with_reducible repeat (first | refine blk_drewN ?_ _ | refine blk_drew ?_ | refine blk_alloc ?_ _)); exact BK256.out) hb)
   have n1_ := aM (blk_below (g := gb257) (o := .cells #[.float .f64 a1_0, .float .f64 a1_1] 32 (0, 0)) (by (with_reducible repeat (first | refine blk_drewN ?_ _ | refine blk_drew ?_ | refine blk_alloc ?_ _)); exact BK257.out) hb)
   have n2_ := aM (below_step (by repeat (first | (with_reducible first | exact HB.out | apply bA | apply bN | apply bD | refine below_set ?_ GE256.out | refine below_set ?_ GE257.out) | exact HB.out)) hb)
   clear BK256
   clear BK257
   clear HB
   have BK256 := n0_
   have BK257 := n1_
   have HB := n2_
   clear n0_ n1_ n2_
   (try clear hb)
   (try clear hb2)
   (try clear hk)
   (try clear hi)
   refine hK.out _ _ ⟨(blk_cell BK256.out 0).trans rfl, (blk_cell BK256.out 1).trans rfl, (blk_cell BK257.out 0).trans rfl, (blk_cell BK257.out 1).trans rfl⟩ (fun hHeld => ?_)
   clear hK K
   refine norm_ (a' := ?_) ?_ ?_
   rotate_left
   ·show Act.put _ (some 28) _ = _
    simp only [Act.put, List.setIfInBounds_toArray, List.set_cons_zero, List.set_cons_succ, i64_w, i32_w]
    rfl
   refine pure_ (i := 4) (N := some 11) (v := ?_) (a' := ?_) #[true, true, true, true, true, false] rfl rfl zK (fun _ _ _ h => h) (Or.inl ⟨by rfl, ?_⟩) ?_ ?_
   rotate_left
   ·intro w'
    go_simp
    with_reducible rfl
   rotate_left
   ·simp only [Act.put, List.setIfInBounds_toArray, List.set_cons_zero, List.set_cons_succ, i64_w, i32_w]
    rfl
   refine pure_ (i := 5) (N := some 12) (v := ?_) (a' := ?_) #[true, true, true, true, true, true] rfl rfl zK (fun _ _ _ h => h) (Or.inl ⟨by rfl, ?_⟩) ?_ ?_
   rotate_left
   ·intro w'
    go_simp
    with_reducible rfl
   rotate_left
   ·simp only [Act.put, List.setIfInBounds_toArray, List.set_cons_zero, List.set_cons_succ, i64_w, i32_w]
    rfl
   refine done_ zK ?_
   try go_wp2
   go_ret
   exact ⟨zE, by repeat (first | (with_reducible first | exact HB.out | apply bA | apply bN | apply bD | refine below_set ?_ GE256.out | refine below_set ?_ GE257.out) | exact HB.out)⟩
  ·rw [if_neg c18] at H
   have c18b0 : decide (t265 < t264) = false := decide_eq_false c18
   clear c18
   by_cases c29 : t258 < t261
   ·rw [if_pos c29] at H
    have c29b0 : decide (t258 < t261) = true := decide_eq_true c29
    clear c29
    obtain rfl := sI H
    go_enter Tryd.func26, Tryd.ntmps26
    try go_wp2_with (first | ((with_reducible refine gate_dst (N := 2) rfl ?_); refine box_event ?hg (N := 2) ?hd (cs := #[.float .f64 a0_0, .float .f64 a0_1]) (t := 32) ?hr ?_; (case hd => rfl); (case hg => rfl); (case hr => first | (go_simp; done) | (go_simp; rfl)); intro gb256 hg w30 hbox hb; have n_ := zI (aM (below_step zB hb)) (zI (aM (hbox)) (zI (aM ((by rw [hg]; exact (below_size zB) : w.heap.size ≤ gb256))) (aM ((by rw [hg]; exact (below_size zB) : w.heap.size ≤ gb256))))); clear HB; obtain ⟨HB, BK256, GW256, GE256⟩ := n_; clear hb hbox hg) | ((with_reducible refine gate_dst (N := 3) rfl ?_); refine box_event ?hg (N := 3) ?hd (cs := #[.float .f64 a1_0, .float .f64 a1_1]) (t := 32) ?hr ?_; (case hd => rfl); (case hg => rfl); (case hr => first | (go_simp; done) | (go_simp; rfl)); intro gb257 hg w31 hbox hb; have n_ := zI (aM (blk_below (g := gb256) (o := .cells #[.float .f64 a0_0, .float .f64 a0_1] 32 (0, 0)) (by (with_reducible repeat (first | refine blk_drewN ?_ _ | refine blk_drew ?_ | refine blk_alloc ?_ _)); exact BK256.out) hb)) (zI (aM (below_step (by repeat (first | (with_reducible first | exact HB.out | apply bA | apply bN | apply bD | refine below_set ?_ GE256.out) | exact HB.out)) hb)) (zI (aM (hbox)) (zI (aM ((by rw [hg]; exact (below_size (by repeat (first | (with_reducible first | exact HB.out | apply bA | apply bN | apply bD | refine below_set ?_ GE256.out) | exact HB.out))) : w.heap.size ≤ gb257))) (zI (aM ((by rw [hg]; exact (below_size (by repeat (first | (with_reducible first | exact HB.out | apply bA | apply bN | apply bD | refine below_set ?_ GE256.out) | exact HB.out))) : w.heap.size ≤ gb257))) (zI (aM ((by rw [hg]; exact Nat.ne_of_lt (blk_lt (g := gb256) (o := .cells #[.float .f64 a0_0, .float .f64 a0_1] 32 (0, 0)) (by (with_reducible repeat (first | refine blk_drewN ?_ _ | refine blk_drew ?_ | refine blk_alloc ?_ _)); exact BK256.out)) : gb256 ≠ gb257))) (aM ((by rw [hg]; exact Nat.ne_of_gt (blk_lt (g := gb256) (o := .cells #[.float .f64 a0_0, .float .f64 a0_1] 32 (0, 0)) (by (with_reducible repeat (first | refine blk_drewN ?_ _ | refine blk_drew ?_ | refine blk_alloc ?_ _)); exact BK256.out)) : gb257 ≠ gb256)))))))); clear BK256 HB; obtain ⟨BK256, HB, BK257, GW257, GE257, NB256_257, NB257_256⟩ := n_; clear hb hbox hg; have hnb32 := NB256_257.out; have hnc32 := NB257_256.out; have hcz33_0 : w31.cell? ⟨gb256, 0, none⟩ = some (.float .f64 a0_0) := (blk_cell BK256.out 0).trans rfl; have hcz33_1 : w31.cell? ⟨gb256, 1, none⟩ = some (.float .f64 a0_1) := (blk_cell BK256.out 1).trans rfl; have hfz33_0 := blk_frozen BK256.out 0; have hfz33_1 := blk_frozen BK256.out 1) | ((with_reducible refine gate_callee (f := 15) rfl ?_); refine goesL_ (some 15) rfl rfl Tryd.func15 zK rfl #[.agg #[.float .f64 a0_0, .float .f64 a0_1]] rfl zM ?_; (with_reducible refine (toponymref14_Parts.calls a0_0 a0_1 t258 t259 t260 _ A3.out).mono ?_); rintro e w34 ⟨rfl, hb⟩; (try clear A3); refine ⟨_, rfl, ?_⟩; have n_ := zI (aM (blk_below (g := gb256) (o := .cells #[.float .f64 a0_0, .float .f64 a0_1] 32 (0, 0)) (by (with_reducible repeat (first | refine blk_drewN ?_ _ | refine blk_drew ?_ | refine blk_alloc ?_ _)); exact BK256.out) hb)) (zI (aM (blk_below (g := gb257) (o := .cells #[.float .f64 a1_0, .float .f64 a1_1] 32 (0, 0)) (by (with_reducible repeat (first | refine blk_drewN ?_ _ | refine blk_drew ?_ | refine blk_alloc ?_ _)); exact BK257.out) hb)) (aM (below_step (by repeat (first | (with_reducible first | exact HB.out | apply bA | apply bN | apply bD | refine below_set ?_ GE256.out | refine below_set ?_ GE257.out) | exact HB.out)) hb))); clear BK256 BK257 HB; obtain ⟨BK256, BK257, HB⟩ := n_; (try clear hb); have hcz35_0 : w34.cell? ⟨gb257, 0, none⟩ = some (.float .f64 a1_0) := (blk_cell BK257.out 0).trans rfl; have hcz35_1 : w34.cell? ⟨gb257, 1, none⟩ = some (.float .f64 a1_1) := (blk_cell BK257.out 1).trans rfl; have hfz35_0 := blk_frozen BK257.out 0; have hfz35_1 := blk_frozen BK257.out 1) | ((with_reducible refine gate_callee (f := 15) rfl ?_); refine goesL_ (some 21) rfl rfl Tryd.func15 zK rfl #[.agg #[.float .f64 a1_0, .float .f64 a1_1]] rfl zM ?_; (with_reducible refine (toponymref14_Parts.calls a1_0 a1_1 t261 t262 t263 _ A4.out).mono ?_); rintro e w36 ⟨rfl, hb⟩; (try clear A4); refine ⟨_, rfl, ?_⟩; have n_ := zI (aM (blk_below (g := gb256) (o := .cells #[.float .f64 a0_0, .float .f64 a0_1] 32 (0, 0)) (by (with_reducible repeat (first | refine blk_drewN ?_ _ | refine blk_drew ?_ | refine blk_alloc ?_ _)); exact BK256.out) hb)) (zI (aM (blk_below (g := gb257) (o := .cells #[.float .f64 a1_0, .float .f64 a1_1] 32 (0, 0)) (by (with_reducible repeat (first | refine blk_drewN ?_ _ | refine blk_drew ?_ | refine blk_alloc ?_ _)); exact BK257.out) hb)) (aM (below_step (by repeat (first | (with_reducible first | exact HB.out | apply bA | apply bN | apply bD | refine below_set ?_ GE256.out | refine below_set ?_ GE257.out) | exact HB.out)) hb))); clear BK256 BK257 HB; obtain ⟨BK256, BK257, HB⟩ := n_; (try clear hb)))
    have n0_ := aM (blk_drew BK256.out)
    have n1_ := aM (blk_drew BK257.out)
    have n2_ := aM (bD HB.out)
    clear BK256
    clear BK257
    clear HB
    have BK256 := n0_
    have BK257 := n1_
    have HB := n2_
    clear n0_ n1_ n2_
    refine start_ (n := 6) (S := fun w' => w'.cell? ⟨gb256, 0, none⟩ = some (.float .f64 a0_0) ∧ w'.cell? ⟨gb256, 1, none⟩ = some (.float .f64 a0_1) ∧ w'.cell? ⟨gb257, 0, none⟩ = some (.float .f64 a1_0) ∧ w'.cell? ⟨gb257, 1, none⟩ = some (.float .f64 a1_1)) (ds := []) #[false, false, false, false, false, false] zK rfl rfl ⟨(blk_cell BK256.out 0).trans rfl, (blk_cell BK256.out 1).trans rfl, (blk_cell BK257.out 0).trans rfl, (blk_cell BK257.out 1).trans rfl⟩ (fun hHeld => ?_)
    generalize w36.drew = w37 at BK256 BK257 HB hHeld ⊢
    refine take_ (i := 0) (N := some 25) (v := ?_) (a' := ?_) #[true, false, false, false, false, false] rfl rfl zK (fun _ _ _ h => h) (Or.inl ⟨by rfl, ?_⟩) hHeld ?_ ?_
    rotate_left
    ·rintro w' ⟨s0, s1, s2, s3⟩
     go_simp
     with_reducible rfl
    rotate_left
    ·simp only [Act.put, List.setIfInBounds_toArray, List.set_cons_zero, List.set_cons_succ, i64_w, i32_w]
     rfl
    refine take_ (i := 2) (N := some 27) (v := ?_) (a' := ?_) #[true, false, true, false, false, false] rfl rfl zK (fun _ _ _ h => h) (Or.inl ⟨by rfl, ?_⟩) hHeld ?_ ?_
    rotate_left
    ·rintro w' ⟨s0, s1, s2, s3⟩
     go_simp
     with_reducible rfl
    rotate_left
    ·simp only [Act.put, List.setIfInBounds_toArray, List.set_cons_zero, List.set_cons_succ, i64_w, i32_w]
     rfl
    refine one_ (i := 1) (N := some 26) #[true, true, true, false, false, false] rfl rfl zK (by decide) (fun K hK => ?_)
    refine goes_ Tryd.func19 zK rfl #[.agg #[.float .f64 a0_0, .float .f64 a0_1]] (by rfl) rfl rfl zM ?_
    with_reducible refine (toponymref14_Norm.calls a0_0 a0_1 t264 _ A5.out).mono ?_
    rintro e w38 ⟨rfl, hb⟩
    refine ⟨_, rfl, ?_⟩
    have n0_ := aM (blk_below (g := gb256) (o := .cells #[.float .f64 a0_0, .float .f64 a0_1] 32 (0, 0)) (by (with_reducible repeat (first | refine blk_drewN ?_ _ | refine blk_drew ?_ | refine blk_alloc ?_ _)); exact BK256.out) hb)
    have n1_ := aM (blk_below (g := gb257) (o := .cells #[.float .f64 a1_0, .float .f64 a1_1] 32 (0, 0)) (by (with_reducible repeat (first | refine blk_drewN ?_ _ | refine blk_drew ?_ | refine blk_alloc ?_ _)); exact BK257.out) hb)
    have n2_ := aM (below_step (by repeat (first | (with_reducible first | exact HB.out | apply bA | apply bN | apply bD | refine below_set ?_ GE256.out | refine below_set ?_ GE257.out) | exact HB.out)) hb)
    clear BK256
    clear BK257
    clear HB
    have BK256 := n0_
    have BK257 := n1_
    have HB := n2_
    clear n0_ n1_ n2_
    (try clear hb)
    (try clear hb2)
    (try clear hk)
    (try clear hi)
    refine hK.out _ _ ⟨(blk_cell BK256.out 0).trans rfl, (blk_cell BK256.out 1).trans rfl, (blk_cell BK257.out 0).trans rfl, (blk_cell BK257.out 1).trans rfl⟩ (fun hHeld => ?_)
    clear hK K
    refine norm_ (a' := ?_) ?_ ?_
    rotate_left
    ·show Act.put _ (some 26) _ = _
     simp only [Act.put, List.setIfInBounds_toArray, List.set_cons_zero, List.set_cons_succ, i64_w, i32_w]
     rfl
    refine one_ (i := 3) (N := some 28) #[true, true, true, true, false, false] rfl rfl zK (by decide) (fun K hK => ?_)
    refine goes_ Tryd.func19 zK rfl #[.agg #[.float .f64 a1_0, .float .f64 a1_1]] (by rfl) rfl rfl zM ?_
    with_reducible refine (toponymref14_Norm.calls a1_0 a1_1 t265 _ A6.out).mono ?_
    rintro e w39 ⟨rfl, hb⟩
    refine ⟨_, rfl, ?_⟩
    have n0_ := aM (blk_below (g := gb256) (o := .cells #[.float .f64 a0_0, .float .f64 a0_1] 32 (0, 0)) (by (with_reducible repeat (first | refine blk_drewN ?_ _ | refine blk_drew ?_ | refine blk_alloc ?_ _)); exact BK256.out) hb)
    have n1_ := aM (blk_below (g := gb257) (o := .cells #[.float .f64 a1_0, .float .f64 a1_1] 32 (0, 0)) (by (with_reducible repeat (first | refine blk_drewN ?_ _ | refine blk_drew ?_ | refine blk_alloc ?_ _)); exact BK257.out) hb)
    have n2_ := aM (below_step (by repeat (first | (with_reducible first | exact HB.out | apply bA | apply bN | apply bD | refine below_set ?_ GE256.out | refine below_set ?_ GE257.out) | exact HB.out)) hb)
    clear BK256
    clear BK257
    clear HB
    have BK256 := n0_
    have BK257 := n1_
    have HB := n2_
    clear n0_ n1_ n2_
    (try clear hb)
    (try clear hb2)
    (try clear hk)
    (try clear hi)
    refine hK.out _ _ ⟨(blk_cell BK256.out 0).trans rfl, (blk_cell BK256.out 1).trans rfl, (blk_cell BK257.out 0).trans rfl, (blk_cell BK257.out 1).trans rfl⟩ (fun hHeld => ?_)
    clear hK K
    refine norm_ (a' := ?_) ?_ ?_
    rotate_left
    ·show Act.put _ (some 28) _ = _
     simp only [Act.put, List.setIfInBounds_toArray, List.set_cons_zero, List.set_cons_succ, i64_w, i32_w]
     rfl
    refine pure_ (i := 4) (N := some 11) (v := ?_) (a' := ?_) #[true, true, true, true, true, false] rfl rfl zK (fun _ _ _ h => h) (Or.inl ⟨by rfl, ?_⟩) ?_ ?_
    rotate_left
    ·intro w'
     go_simp
     with_reducible rfl
    rotate_left
    ·simp only [Act.put, List.setIfInBounds_toArray, List.set_cons_zero, List.set_cons_succ, i64_w, i32_w]
     rfl
    refine pure_ (i := 5) (N := some 12) (v := ?_) (a' := ?_) #[true, true, true, true, true, true] rfl rfl zK (fun _ _ _ h => h) (Or.inl ⟨by rfl, ?_⟩) ?_ ?_
    rotate_left
    ·intro w'
     go_simp
     with_reducible rfl
    rotate_left
    ·simp only [Act.put, List.setIfInBounds_toArray, List.set_cons_zero, List.set_cons_succ, i64_w, i32_w]
     rfl
    refine done_ zK ?_
    try go_wp2
    go_ret
    exact ⟨zE, by repeat (first | (with_reducible first | exact HB.out | apply bA | apply bN | apply bD | refine below_set ?_ GE256.out | refine below_set ?_ GE257.out) | exact HB.out)⟩
   ·rw [if_neg c29] at H
    have c29b0 : decide (t258 < t261) = false := decide_eq_false c29
    clear c29
    by_cases c40 : t258 > t261
    ·rw [if_pos c40] at H
     have c40b0 : decide (t261 < t258) = true := decide_eq_true c40
     clear c40
     obtain rfl := sI H
     go_enter Tryd.func26, Tryd.ntmps26
     try go_wp2_with (first | ((with_reducible refine gate_dst (N := 2) rfl ?_); refine box_event ?hg (N := 2) ?hd (cs := #[.float .f64 a0_0, .float .f64 a0_1]) (t := 32) ?hr ?_; (case hd => rfl); (case hg => rfl); (case hr => first | (go_simp; done) | (go_simp; rfl)); intro gb256 hg w41 hbox hb; have n_ := zI (aM (below_step zB hb)) (zI (aM (hbox)) (zI (aM ((by rw [hg]; exact (below_size zB) : w.heap.size ≤ gb256))) (aM ((by rw [hg]; exact (below_size zB) : w.heap.size ≤ gb256))))); clear HB; obtain ⟨HB, BK256, GW256, GE256⟩ := n_; clear hb hbox hg) | ((with_reducible refine gate_dst (N := 3) rfl ?_); refine box_event ?hg (N := 3) ?hd (cs := #[.float .f64 a1_0, .float .f64 a1_1]) (t := 32) ?hr ?_; (case hd => rfl); (case hg => rfl); (case hr => first | (go_simp; done) | (go_simp; rfl)); intro gb257 hg w42 hbox hb; have n_ := zI (aM (blk_below (g := gb256) (o := .cells #[.float .f64 a0_0, .float .f64 a0_1] 32 (0, 0)) (by (with_reducible repeat (first | refine blk_drewN ?_ _ | refine blk_drew ?_ | refine blk_alloc ?_ _)); exact BK256.out) hb)) (zI (aM (below_step (by repeat (first | (with_reducible first | exact HB.out | apply bA | apply bN | apply bD | refine below_set ?_ GE256.out) | exact HB.out)) hb)) (zI (aM (hbox)) (zI (aM ((by rw [hg]; exact (below_size (by repeat (first | (with_reducible first | exact HB.out | apply bA | apply bN | apply bD | refine below_set ?_ GE256.out) | exact HB.out))) : w.heap.size ≤ gb257))) (zI (aM ((by rw [hg]; exact (below_size (by repeat (first | (with_reducible first | exact HB.out | apply bA | apply bN | apply bD | refine below_set ?_ GE256.out) | exact HB.out))) : w.heap.size ≤ gb257))) (zI (aM ((by rw [hg]; exact Nat.ne_of_lt (blk_lt (g := gb256) (o := .cells #[.float .f64 a0_0, .float .f64 a0_1] 32 (0, 0)) (by (with_reducible repeat (first | refine blk_drewN ?_ _ | refine blk_drew ?_ | refine blk_alloc ?_ _)); exact BK256.out)) : gb256 ≠ gb257))) (aM ((by rw [hg]; exact Nat.ne_of_gt (blk_lt (g := gb256) (o := .cells #[.float .f64 a0_0, .float .f64 a0_1] 32 (0, 0)) (by (with_reducible repeat (first | refine blk_drewN ?_ _ | refine blk_drew ?_ | refine blk_alloc ?_ _)); exact BK256.out)) : gb257 ≠ gb256)))))))); clear BK256 HB; obtain ⟨BK256, HB, BK257, GW257, GE257, NB256_257, NB257_256⟩ := n_; clear hb hbox hg; have hnb43 := NB256_257.out; have hnc43 := NB257_256.out; have hcz44_0 : w42.cell? ⟨gb256, 0, none⟩ = some (.float .f64 a0_0) := (blk_cell BK256.out 0).trans rfl; have hcz44_1 : w42.cell? ⟨gb256, 1, none⟩ = some (.float .f64 a0_1) := (blk_cell BK256.out 1).trans rfl; have hfz44_0 := blk_frozen BK256.out 0; have hfz44_1 := blk_frozen BK256.out 1) | ((with_reducible refine gate_callee (f := 15) rfl ?_); refine goesL_ (some 15) rfl rfl Tryd.func15 zK rfl #[.agg #[.float .f64 a0_0, .float .f64 a0_1]] rfl zM ?_; (with_reducible refine (toponymref14_Parts.calls a0_0 a0_1 t258 t259 t260 _ A3.out).mono ?_); rintro e w45 ⟨rfl, hb⟩; (try clear A3); refine ⟨_, rfl, ?_⟩; have n_ := zI (aM (blk_below (g := gb256) (o := .cells #[.float .f64 a0_0, .float .f64 a0_1] 32 (0, 0)) (by (with_reducible repeat (first | refine blk_drewN ?_ _ | refine blk_drew ?_ | refine blk_alloc ?_ _)); exact BK256.out) hb)) (zI (aM (blk_below (g := gb257) (o := .cells #[.float .f64 a1_0, .float .f64 a1_1] 32 (0, 0)) (by (with_reducible repeat (first | refine blk_drewN ?_ _ | refine blk_drew ?_ | refine blk_alloc ?_ _)); exact BK257.out) hb)) (aM (below_step (by repeat (first | (with_reducible first | exact HB.out | apply bA | apply bN | apply bD | refine below_set ?_ GE256.out | refine below_set ?_ GE257.out) | exact HB.out)) hb))); clear BK256 BK257 HB; obtain ⟨BK256, BK257, HB⟩ := n_; (try clear hb); have hcz46_0 : w45.cell? ⟨gb257, 0, none⟩ = some (.float .f64 a1_0) := (blk_cell BK257.out 0).trans rfl; have hcz46_1 : w45.cell? ⟨gb257, 1, none⟩ = some (.float .f64 a1_1) := (blk_cell BK257.out 1).trans rfl; have hfz46_0 := blk_frozen BK257.out 0; have hfz46_1 := blk_frozen BK257.out 1) | ((with_reducible refine gate_callee (f := 15) rfl ?_); refine goesL_ (some 21) rfl rfl Tryd.func15 zK rfl #[.agg #[.float .f64 a1_0, .float .f64 a1_1]] rfl zM ?_; (with_reducible refine (toponymref14_Parts.calls a1_0 a1_1 t261 t262 t263 _ A4.out).mono ?_); rintro e w47 ⟨rfl, hb⟩; (try clear A4); refine ⟨_, rfl, ?_⟩; have n_ := zI (aM (blk_below (g := gb256) (o := .cells #[.float .f64 a0_0, .float .f64 a0_1] 32 (0, 0)) (by (with_reducible repeat (first | refine blk_drewN ?_ _ | refine blk_drew ?_ | refine blk_alloc ?_ _)); exact BK256.out) hb)) (zI (aM (blk_below (g := gb257) (o := .cells #[.float .f64 a1_0, .float .f64 a1_1] 32 (0, 0)) (by (with_reducible repeat (first | refine blk_drewN ?_ _ | refine blk_drew ?_ | refine blk_alloc ?_ _)); exact BK257.out) hb)) (aM (below_step (by repeat (first | (with_reducible first | exact HB.out | apply bA | apply bN | apply bD | refine below_set ?_ GE256.out | refine below_set ?_ GE257.out) | exact HB.out)) hb))); clear BK256 BK257 HB; obtain ⟨BK256, BK257, HB⟩ := n_; (try clear hb)))
     have n0_ := aM (blk_drew BK256.out)
     have n1_ := aM (blk_drew BK257.out)
     have n2_ := aM (bD HB.out)
     clear BK256
     clear BK257
     clear HB
     have BK256 := n0_
     have BK257 := n1_
     have HB := n2_
     clear n0_ n1_ n2_
     refine start_ (n := 6) (S := fun w' => w'.cell? ⟨gb256, 0, none⟩ = some (.float .f64 a0_0) ∧ w'.cell? ⟨gb256, 1, none⟩ = some (.float .f64 a0_1) ∧ w'.cell? ⟨gb257, 0, none⟩ = some (.float .f64 a1_0) ∧ w'.cell? ⟨gb257, 1, none⟩ = some (.float .f64 a1_1)) (ds := []) #[false, false, false, false, false, false] zK rfl rfl ⟨(blk_cell BK256.out 0).trans rfl, (blk_cell BK256.out 1).trans rfl, (blk_cell BK257.out 0).trans rfl, (blk_cell BK257.out 1).trans rfl⟩ (fun hHeld => ?_)
     generalize w47.drew = w48 at BK256 BK257 HB hHeld ⊢
     refine take_ (i := 0) (N := some 25) (v := ?_) (a' := ?_) #[true, false, false, false, false, false] rfl rfl zK (fun _ _ _ h => h) (Or.inl ⟨by rfl, ?_⟩) hHeld ?_ ?_
     rotate_left
     ·rintro w' ⟨s0, s1, s2, s3⟩
      go_simp
      with_reducible rfl
     rotate_left
     ·simp only [Act.put, List.setIfInBounds_toArray, List.set_cons_zero, List.set_cons_succ, i64_w, i32_w]
      rfl
     refine take_ (i := 2) (N := some 27) (v := ?_) (a' := ?_) #[true, false, true, false, false, false] rfl rfl zK (fun _ _ _ h => h) (Or.inl ⟨by rfl, ?_⟩) hHeld ?_ ?_
     rotate_left
     ·rintro w' ⟨s0, s1, s2, s3⟩
      go_simp
      with_reducible rfl
     rotate_left
     ·simp only [Act.put, List.setIfInBounds_toArray, List.set_cons_zero, List.set_cons_succ, i64_w, i32_w]
      rfl
     refine one_ (i := 1) (N := some 26) #[true, true, true, false, false, false] rfl rfl zK (by decide) (fun K hK => ?_)
     refine goes_ Tryd.func19 zK rfl #[.agg #[.float .f64 a0_0, .float .f64 a0_1]] (by rfl) rfl rfl zM ?_
     with_reducible refine (toponymref14_Norm.calls a0_0 a0_1 t264 _ A5.out).mono ?_
     rintro e w49 ⟨rfl, hb⟩
     refine ⟨_, rfl, ?_⟩
     have n0_ := aM (blk_below (g := gb256) (o := .cells #[.float .f64 a0_0, .float .f64 a0_1] 32 (0, 0)) (by (with_reducible repeat (first | refine blk_drewN ?_ _ | refine blk_drew ?_ | refine blk_alloc ?_ _)); exact BK256.out) hb)
     have n1_ := aM (blk_below (g := gb257) (o := .cells #[.float .f64 a1_0, .float .f64 a1_1] 32 (0, 0)) (by (with_reducible repeat (first | refine blk_drewN ?_ _ | refine blk_drew ?_ | refine blk_alloc ?_ _)); exact BK257.out) hb)
     have n2_ := aM (below_step (by repeat (first | (with_reducible first | exact HB.out | apply bA | apply bN | apply bD | refine below_set ?_ GE256.out | refine below_set ?_ GE257.out) | exact HB.out)) hb)
     clear BK256
     clear BK257
     clear HB
     have BK256 := n0_
     have BK257 := n1_
     have HB := n2_
     clear n0_ n1_ n2_
     (try clear hb)
     (try clear hb2)
     (try clear hk)
     (try clear hi)
     refine hK.out _ _ ⟨(blk_cell BK256.out 0).trans rfl, (blk_cell BK256.out 1).trans rfl, (blk_cell BK257.out 0).trans rfl, (blk_cell BK257.out 1).trans rfl⟩ (fun hHeld => ?_)
     clear hK K
     refine norm_ (a' := ?_) ?_ ?_
     rotate_left
     ·show Act.put _ (some 26) _ = _
      simp only [Act.put, List.setIfInBounds_toArray, List.set_cons_zero, List.set_cons_succ, i64_w, i32_w]
      rfl
     refine one_ (i := 3) (N := some 28) #[true, true, true, true, false, false] rfl rfl zK (by decide) (fun K hK => ?_)
     refine goes_ Tryd.func19 zK rfl #[.agg #[.float .f64 a1_0, .float .f64 a1_1]] (by rfl) rfl rfl zM ?_
     with_reducible refine (toponymref14_Norm.calls a1_0 a1_1 t265 _ A6.out).mono ?_
     rintro e w50 ⟨rfl, hb⟩
     refine ⟨_, rfl, ?_⟩
     have n0_ := aM (blk_below (g := gb256) (o := .cells #[.float .f64 a0_0, .float .f64 a0_1] 32 (0, 0)) (by (with_reducible repeat (first | refine blk_drewN ?_ _ | refine blk_drew ?_ | refine blk_alloc ?_ _)); exact BK256.out) hb)
     have n1_ := aM (blk_below (g := gb257) (o := .cells #[.float .f64 a1_0, .float .f64 a1_1] 32 (0, 0)) (by (with_reducible repeat (first | refine blk_drewN ?_ _ | refine blk_drew ?_ | refine blk_alloc ?_ _)); exact BK257.out) hb)
     have n2_ := aM (below_step (by repeat (first | (with_reducible first | exact HB.out | apply bA | apply bN | apply bD | refine below_set ?_ GE256.out | refine below_set ?_ GE257.out) | exact HB.out)) hb)
     clear BK256
     clear BK257
     clear HB
     have BK256 := n0_
     have BK257 := n1_
     have HB := n2_
     clear n0_ n1_ n2_
     (try clear hb)
     (try clear hb2)
     (try clear hk)
     (try clear hi)
     refine hK.out _ _ ⟨(blk_cell BK256.out 0).trans rfl, (blk_cell BK256.out 1).trans rfl, (blk_cell BK257.out 0).trans rfl, (blk_cell BK257.out 1).trans rfl⟩ (fun hHeld => ?_)
     clear hK K
     refine norm_ (a' := ?_) ?_ ?_
     rotate_left
     ·show Act.put _ (some 28) _ = _
      simp only [Act.put, List.setIfInBounds_toArray, List.set_cons_zero, List.set_cons_succ, i64_w, i32_w]
      rfl
     refine pure_ (i := 4) (N := some 11) (v := ?_) (a' := ?_) #[true, true, true, true, true, false] rfl rfl zK (fun _ _ _ h => h) (Or.inl ⟨by rfl, ?_⟩) ?_ ?_
     rotate_left
     ·intro w'
      go_simp
      with_reducible rfl
     rotate_left
     ·simp only [Act.put, List.setIfInBounds_toArray, List.set_cons_zero, List.set_cons_succ, i64_w, i32_w]
      rfl
     refine pure_ (i := 5) (N := some 12) (v := ?_) (a' := ?_) #[true, true, true, true, true, true] rfl rfl zK (fun _ _ _ h => h) (Or.inl ⟨by rfl, ?_⟩) ?_ ?_
     rotate_left
     ·intro w'
      go_simp
      with_reducible rfl
     rotate_left
     ·simp only [Act.put, List.setIfInBounds_toArray, List.set_cons_zero, List.set_cons_succ, i64_w, i32_w]
      rfl
     refine done_ zK ?_
     try go_wp2
     go_ret
     exact ⟨zE, by repeat (first | (with_reducible first | exact HB.out | apply bA | apply bN | apply bD | refine below_set ?_ GE256.out | refine below_set ?_ GE257.out) | exact HB.out)⟩
    ·rw [if_neg c40] at H
     have c40b0 : decide (t261 < t258) = false := decide_eq_false c40
     clear c40
     by_cases c51 : t259 < t262
     ·rw [if_pos c51] at H
      have c51b0 : decide (t259 < t262) = true := decide_eq_true c51
      clear c51
      obtain rfl := sI H
      go_enter Tryd.func26, Tryd.ntmps26
      try go_wp2_with (first | ((with_reducible refine gate_dst (N := 2) rfl ?_); refine box_event ?hg (N := 2) ?hd (cs := #[.float .f64 a0_0, .float .f64 a0_1]) (t := 32) ?hr ?_; (case hd => rfl); (case hg => rfl); (case hr => first | (go_simp; done) | (go_simp; rfl)); intro gb256 hg w52 hbox hb; have n_ := zI (aM (below_step zB hb)) (zI (aM (hbox)) (zI (aM ((by rw [hg]; exact (below_size zB) : w.heap.size ≤ gb256))) (aM ((by rw [hg]; exact (below_size zB) : w.heap.size ≤ gb256))))); clear HB; obtain ⟨HB, BK256, GW256, GE256⟩ := n_; clear hb hbox hg) | ((with_reducible refine gate_dst (N := 3) rfl ?_); refine box_event ?hg (N := 3) ?hd (cs := #[.float .f64 a1_0, .float .f64 a1_1]) (t := 32) ?hr ?_; (case hd => rfl); (case hg => rfl); (case hr => first | (go_simp; done) | (go_simp; rfl)); intro gb257 hg w53 hbox hb; have n_ := zI (aM (blk_below (g := gb256) (o := .cells #[.float .f64 a0_0, .float .f64 a0_1] 32 (0, 0)) (by (with_reducible repeat (first | refine blk_drewN ?_ _ | refine blk_drew ?_ | refine blk_alloc ?_ _)); exact BK256.out) hb)) (zI (aM (below_step (by repeat (first | (with_reducible first | exact HB.out | apply bA | apply bN | apply bD | refine below_set ?_ GE256.out) | exact HB.out)) hb)) (zI (aM (hbox)) (zI (aM ((by rw [hg]; exact (below_size (by repeat (first | (with_reducible first | exact HB.out | apply bA | apply bN | apply bD | refine below_set ?_ GE256.out) | exact HB.out))) : w.heap.size ≤ gb257))) (zI (aM ((by rw [hg]; exact (below_size (by repeat (first | (with_reducible first | exact HB.out | apply bA | apply bN | apply bD | refine below_set ?_ GE256.out) | exact HB.out))) : w.heap.size ≤ gb257))) (zI (aM ((by rw [hg]; exact Nat.ne_of_lt (blk_lt (g := gb256) (o := .cells #[.float .f64 a0_0, .float .f64 a0_1] 32 (0, 0)) (by (with_reducible repeat (first | refine blk_drewN ?_ _ | refine blk_drew ?_ | refine blk_alloc ?_ _)); exact BK256.out)) : gb256 ≠ gb257))) (aM ((by rw [hg]; exact Nat.ne_of_gt (blk_lt (g := gb256) (o := .cells #[.float .f64 a0_0, .float .f64 a0_1] 32 (0, 0)) (by (with_reducible repeat (first | refine blk_drewN ?_ _ | refine blk_drew ?_ | refine blk_alloc ?_ _)); exact BK256.out)) : gb257 ≠ gb256)))))))); clear BK256 HB; obtain ⟨BK256, HB, BK257, GW257, GE257, NB256_257, NB257_256⟩ := n_; clear hb hbox hg; have hnb54 := NB256_257.out; have hnc54 := NB257_256.out; have hcz55_0 : w53.cell? ⟨gb256, 0, none⟩ = some (.float .f64 a0_0) := (blk_cell BK256.out 0).trans rfl; have hcz55_1 : w53.cell? ⟨gb256, 1, none⟩ = some (.float .f64 a0_1) := (blk_cell BK256.out 1).trans rfl; have hfz55_0 := blk_frozen BK256.out 0; have hfz55_1 := blk_frozen BK256.out 1) | ((with_reducible refine gate_callee (f := 15) rfl ?_); refine goesL_ (some 15) rfl rfl Tryd.func15 zK rfl #[.agg #[.float .f64 a0_0, .float .f64 a0_1]] rfl zM ?_; (with_reducible refine (toponymref14_Parts.calls a0_0 a0_1 t258 t259 t260 _ A3.out).mono ?_); rintro e w56 ⟨rfl, hb⟩; (try clear A3); refine ⟨_, rfl, ?_⟩; have n_ := zI (aM (blk_below (g := gb256) (o := .cells #[.float .f64 a0_0, .float .f64 a0_1] 32 (0, 0)) (by (with_reducible repeat (first | refine blk_drewN ?_ _ | refine blk_drew ?_ | refine blk_alloc ?_ _)); exact BK256.out) hb)) (zI (aM (blk_below (g := gb257) (o := .cells #[.float .f64 a1_0, .float .f64 a1_1] 32 (0, 0)) (by (with_reducible repeat (first | refine blk_drewN ?_ _ | refine blk_drew ?_ | refine blk_alloc ?_ _)); exact BK257.out) hb)) (aM (below_step (by repeat (first | (with_reducible first | exact HB.out | apply bA | apply bN | apply bD | refine below_set ?_ GE256.out | refine below_set ?_ GE257.out) | exact HB.out)) hb))); clear BK256 BK257 HB; obtain ⟨BK256, BK257, HB⟩ := n_; (try clear hb); have hcz57_0 : w56.cell? ⟨gb257, 0, none⟩ = some (.float .f64 a1_0) := (blk_cell BK257.out 0).trans rfl; have hcz57_1 : w56.cell? ⟨gb257, 1, none⟩ = some (.float .f64 a1_1) := (blk_cell BK257.out 1).trans rfl; have hfz57_0 := blk_frozen BK257.out 0; have hfz57_1 := blk_frozen BK257.out 1) | ((with_reducible refine gate_callee (f := 15) rfl ?_); refine goesL_ (some 21) rfl rfl Tryd.func15 zK rfl #[.agg #[.float .f64 a1_0, .float .f64 a1_1]] rfl zM ?_; (with_reducible refine (toponymref14_Parts.calls a1_0 a1_1 t261 t262 t263 _ A4.out).mono ?_); rintro e w58 ⟨rfl, hb⟩; (try clear A4); refine ⟨_, rfl, ?_⟩; have n_ := zI (aM (blk_below (g := gb256) (o := .cells #[.float .f64 a0_0, .float .f64 a0_1] 32 (0, 0)) (by (with_reducible repeat (first | refine blk_drewN ?_ _ | refine blk_drew ?_ | refine blk_alloc ?_ _)); exact BK256.out) hb)) (zI (aM (blk_below (g := gb257) (o := .cells #[.float .f64 a1_0, .float .f64 a1_1] 32 (0, 0)) (by (with_reducible repeat (first | refine blk_drewN ?_ _ | refine blk_drew ?_ | refine blk_alloc ?_ _)); exact BK257.out) hb)) (aM (below_step (by repeat (first | (with_reducible first | exact HB.out | apply bA | apply bN | apply bD | refine below_set ?_ GE256.out | refine below_set ?_ GE257.out) | exact HB.out)) hb))); clear BK256 BK257 HB; obtain ⟨BK256, BK257, HB⟩ := n_; (try clear hb)))
      have n0_ := aM (blk_drew BK256.out)
      have n1_ := aM (blk_drew BK257.out)
      have n2_ := aM (bD HB.out)
      clear BK256
      clear BK257
      clear HB
      have BK256 := n0_
      have BK257 := n1_
      have HB := n2_
      clear n0_ n1_ n2_
      refine start_ (n := 6) (S := fun w' => w'.cell? ⟨gb256, 0, none⟩ = some (.float .f64 a0_0) ∧ w'.cell? ⟨gb256, 1, none⟩ = some (.float .f64 a0_1) ∧ w'.cell? ⟨gb257, 0, none⟩ = some (.float .f64 a1_0) ∧ w'.cell? ⟨gb257, 1, none⟩ = some (.float .f64 a1_1)) (ds := []) #[false, false, false, false, false, false] zK rfl rfl ⟨(blk_cell BK256.out 0).trans rfl, (blk_cell BK256.out 1).trans rfl, (blk_cell BK257.out 0).trans rfl, (blk_cell BK257.out 1).trans rfl⟩ (fun hHeld => ?_)
      generalize w58.drew = w59 at BK256 BK257 HB hHeld ⊢
      refine take_ (i := 0) (N := some 25) (v := ?_) (a' := ?_) #[true, false, false, false, false, false] rfl rfl zK (fun _ _ _ h => h) (Or.inl ⟨by rfl, ?_⟩) hHeld ?_ ?_
      rotate_left
      ·rintro w' ⟨s0, s1, s2, s3⟩
       go_simp
       with_reducible rfl
      rotate_left
      ·simp only [Act.put, List.setIfInBounds_toArray, List.set_cons_zero, List.set_cons_succ, i64_w, i32_w]
       rfl
      refine take_ (i := 2) (N := some 27) (v := ?_) (a' := ?_) #[true, false, true, false, false, false] rfl rfl zK (fun _ _ _ h => h) (Or.inl ⟨by rfl, ?_⟩) hHeld ?_ ?_
      rotate_left
      ·rintro w' ⟨s0, s1, s2, s3⟩
       go_simp
       with_reducible rfl
      rotate_left
      ·simp only [Act.put, List.setIfInBounds_toArray, List.set_cons_zero, List.set_cons_succ, i64_w, i32_w]
       rfl
      refine one_ (i := 1) (N := some 26) #[true, true, true, false, false, false] rfl rfl zK (by decide) (fun K hK => ?_)
      refine goes_ Tryd.func19 zK rfl #[.agg #[.float .f64 a0_0, .float .f64 a0_1]] (by rfl) rfl rfl zM ?_
      with_reducible refine (toponymref14_Norm.calls a0_0 a0_1 t264 _ A5.out).mono ?_
      rintro e w60 ⟨rfl, hb⟩
      refine ⟨_, rfl, ?_⟩
      have n0_ := aM (blk_below (g := gb256) (o := .cells #[.float .f64 a0_0, .float .f64 a0_1] 32 (0, 0)) (by (with_reducible repeat (first | refine blk_drewN ?_ _ | refine blk_drew ?_ | refine blk_alloc ?_ _)); exact BK256.out) hb)
      have n1_ := aM (blk_below (g := gb257) (o := .cells #[.float .f64 a1_0, .float .f64 a1_1] 32 (0, 0)) (by (with_reducible repeat (first | refine blk_drewN ?_ _ | refine blk_drew ?_ | refine blk_alloc ?_ _)); exact BK257.out) hb)
      have n2_ := aM (below_step (by repeat (first | (with_reducible first | exact HB.out | apply bA | apply bN | apply bD | refine below_set ?_ GE256.out | refine below_set ?_ GE257.out) | exact HB.out)) hb)
      clear BK256
      clear BK257
      clear HB
      have BK256 := n0_
      have BK257 := n1_
      have HB := n2_
      clear n0_ n1_ n2_
      (try clear hb)
      (try clear hb2)
      (try clear hk)
      (try clear hi)
      refine hK.out _ _ ⟨(blk_cell BK256.out 0).trans rfl, (blk_cell BK256.out 1).trans rfl, (blk_cell BK257.out 0).trans rfl, (blk_cell BK257.out 1).trans rfl⟩ (fun hHeld => ?_)
      clear hK K
      refine norm_ (a' := ?_) ?_ ?_
      rotate_left
      ·show Act.put _ (some 26) _ = _
       simp only [Act.put, List.setIfInBounds_toArray, List.set_cons_zero, List.set_cons_succ, i64_w, i32_w]
       rfl
      refine one_ (i := 3) (N := some 28) #[true, true, true, true, false, false] rfl rfl zK (by decide) (fun K hK => ?_)
      refine goes_ Tryd.func19 zK rfl #[.agg #[.float .f64 a1_0, .float .f64 a1_1]] (by rfl) rfl rfl zM ?_
      with_reducible refine (toponymref14_Norm.calls a1_0 a1_1 t265 _ A6.out).mono ?_
      rintro e w61 ⟨rfl, hb⟩
      refine ⟨_, rfl, ?_⟩
      have n0_ := aM (blk_below (g := gb256) (o := .cells #[.float .f64 a0_0, .float .f64 a0_1] 32 (0, 0)) (by (with_reducible repeat (first | refine blk_drewN ?_ _ | refine blk_drew ?_ | refine blk_alloc ?_ _)); exact BK256.out) hb)
      have n1_ := aM (blk_below (g := gb257) (o := .cells #[.float .f64 a1_0, .float .f64 a1_1] 32 (0, 0)) (by (with_reducible repeat (first | refine blk_drewN ?_ _ | refine blk_drew ?_ | refine blk_alloc ?_ _)); exact BK257.out) hb)
      have n2_ := aM (below_step (by repeat (first | (with_reducible first | exact HB.out | apply bA | apply bN | apply bD | refine below_set ?_ GE256.out | refine below_set ?_ GE257.out) | exact HB.out)) hb)
      clear BK256
      clear BK257
      clear HB
      have BK256 := n0_
      have BK257 := n1_
      have HB := n2_
      clear n0_ n1_ n2_
      (try clear hb)
      (try clear hb2)
      (try clear hk)
      (try clear hi)
      refine hK.out _ _ ⟨(blk_cell BK256.out 0).trans rfl, (blk_cell BK256.out 1).trans rfl, (blk_cell BK257.out 0).trans rfl, (blk_cell BK257.out 1).trans rfl⟩ (fun hHeld => ?_)
      clear hK K
      refine norm_ (a' := ?_) ?_ ?_
      rotate_left
      ·show Act.put _ (some 28) _ = _
       simp only [Act.put, List.setIfInBounds_toArray, List.set_cons_zero, List.set_cons_succ, i64_w, i32_w]
       rfl
      refine pure_ (i := 4) (N := some 11) (v := ?_) (a' := ?_) #[true, true, true, true, true, false] rfl rfl zK (fun _ _ _ h => h) (Or.inl ⟨by rfl, ?_⟩) ?_ ?_
      rotate_left
      ·intro w'
       go_simp
       with_reducible rfl
      rotate_left
      ·simp only [Act.put, List.setIfInBounds_toArray, List.set_cons_zero, List.set_cons_succ, i64_w, i32_w]
       rfl
      refine pure_ (i := 5) (N := some 12) (v := ?_) (a' := ?_) #[true, true, true, true, true, true] rfl rfl zK (fun _ _ _ h => h) (Or.inl ⟨by rfl, ?_⟩) ?_ ?_
      rotate_left
      ·intro w'
       go_simp
       with_reducible rfl
      rotate_left
      ·simp only [Act.put, List.setIfInBounds_toArray, List.set_cons_zero, List.set_cons_succ, i64_w, i32_w]
       rfl
      refine done_ zK ?_
      try go_wp2
      go_ret
      exact ⟨zE, by repeat (first | (with_reducible first | exact HB.out | apply bA | apply bN | apply bD | refine below_set ?_ GE256.out | refine below_set ?_ GE257.out) | exact HB.out)⟩
     ·rw [if_neg c51] at H
      have c51b0 : decide (t259 < t262) = false := decide_eq_false c51
      clear c51
      by_cases c62 : t259 > t262
      ·rw [if_pos c62] at H
       have c62b0 : decide (t262 < t259) = true := decide_eq_true c62
       clear c62
       obtain rfl := sI H
       go_enter Tryd.func26, Tryd.ntmps26
       try go_wp2_with (first | ((with_reducible refine gate_dst (N := 2) rfl ?_); refine box_event ?hg (N := 2) ?hd (cs := #[.float .f64 a0_0, .float .f64 a0_1]) (t := 32) ?hr ?_; (case hd => rfl); (case hg => rfl); (case hr => first | (go_simp; done) | (go_simp; rfl)); intro gb256 hg w63 hbox hb; have n_ := zI (aM (below_step zB hb)) (zI (aM (hbox)) (zI (aM ((by rw [hg]; exact (below_size zB) : w.heap.size ≤ gb256))) (aM ((by rw [hg]; exact (below_size zB) : w.heap.size ≤ gb256))))); clear HB; obtain ⟨HB, BK256, GW256, GE256⟩ := n_; clear hb hbox hg) | ((with_reducible refine gate_dst (N := 3) rfl ?_); refine box_event ?hg (N := 3) ?hd (cs := #[.float .f64 a1_0, .float .f64 a1_1]) (t := 32) ?hr ?_; (case hd => rfl); (case hg => rfl); (case hr => first | (go_simp; done) | (go_simp; rfl)); intro gb257 hg w64 hbox hb; have n_ := zI (aM (blk_below (g := gb256) (o := .cells #[.float .f64 a0_0, .float .f64 a0_1] 32 (0, 0)) (by (with_reducible repeat (first | refine blk_drewN ?_ _ | refine blk_drew ?_ | refine blk_alloc ?_ _)); exact BK256.out) hb)) (zI (aM (below_step (by repeat (first | (with_reducible first | exact HB.out | apply bA | apply bN | apply bD | refine below_set ?_ GE256.out) | exact HB.out)) hb)) (zI (aM (hbox)) (zI (aM ((by rw [hg]; exact (below_size (by repeat (first | (with_reducible first | exact HB.out | apply bA | apply bN | apply bD | refine below_set ?_ GE256.out) | exact HB.out))) : w.heap.size ≤ gb257))) (zI (aM ((by rw [hg]; exact (below_size (by repeat (first | (with_reducible first | exact HB.out | apply bA | apply bN | apply bD | refine below_set ?_ GE256.out) | exact HB.out))) : w.heap.size ≤ gb257))) (zI (aM ((by rw [hg]; exact Nat.ne_of_lt (blk_lt (g := gb256) (o := .cells #[.float .f64 a0_0, .float .f64 a0_1] 32 (0, 0)) (by (with_reducible repeat (first | refine blk_drewN ?_ _ | refine blk_drew ?_ | refine blk_alloc ?_ _)); exact BK256.out)) : gb256 ≠ gb257))) (aM ((by rw [hg]; exact Nat.ne_of_gt (blk_lt (g := gb256) (o := .cells #[.float .f64 a0_0, .float .f64 a0_1] 32 (0, 0)) (by (with_reducible repeat (first | refine blk_drewN ?_ _ | refine blk_drew ?_ | refine blk_alloc ?_ _)); exact BK256.out)) : gb257 ≠ gb256)))))))); clear BK256 HB; obtain ⟨BK256, HB, BK257, GW257, GE257, NB256_257, NB257_256⟩ := n_; clear hb hbox hg; have hnb65 := NB256_257.out; have hnc65 := NB257_256.out; have hcz66_0 : w64.cell? ⟨gb256, 0, none⟩ = some (.float .f64 a0_0) := (blk_cell BK256.out 0).trans rfl; have hcz66_1 : w64.cell? ⟨gb256, 1, none⟩ = some (.float .f64 a0_1) := (blk_cell BK256.out 1).trans rfl; have hfz66_0 := blk_frozen BK256.out 0; have hfz66_1 := blk_frozen BK256.out 1) | ((with_reducible refine gate_callee (f := 15) rfl ?_); refine goesL_ (some 15) rfl rfl Tryd.func15 zK rfl #[.agg #[.float .f64 a0_0, .float .f64 a0_1]] rfl zM ?_; (with_reducible refine (toponymref14_Parts.calls a0_0 a0_1 t258 t259 t260 _ A3.out).mono ?_); rintro e w67 ⟨rfl, hb⟩; (try clear A3); refine ⟨_, rfl, ?_⟩; have n_ := zI (aM (blk_below (g := gb256) (o := .cells #[.float .f64 a0_0, .float .f64 a0_1] 32 (0, 0)) (by (with_reducible repeat (first | refine blk_drewN ?_ _ | refine blk_drew ?_ | refine blk_alloc ?_ _)); exact BK256.out) hb)) (zI (aM (blk_below (g := gb257) (o := .cells #[.float .f64 a1_0, .float .f64 a1_1] 32 (0, 0)) (by (with_reducible repeat (first | refine blk_drewN ?_ _ | refine blk_drew ?_ | refine blk_alloc ?_ _)); exact BK257.out) hb)) (aM (below_step (by repeat (first | (with_reducible first | exact HB.out | apply bA | apply bN | apply bD | refine below_set ?_ GE256.out | refine below_set ?_ GE257.out) | exact HB.out)) hb))); clear BK256 BK257 HB; obtain ⟨BK256, BK257, HB⟩ := n_; (try clear hb); have hcz68_0 : w67.cell? ⟨gb257, 0, none⟩ = some (.float .f64 a1_0) := (blk_cell BK257.out 0).trans rfl; have hcz68_1 : w67.cell? ⟨gb257, 1, none⟩ = some (.float .f64 a1_1) := (blk_cell BK257.out 1).trans rfl; have hfz68_0 := blk_frozen BK257.out 0; have hfz68_1 := blk_frozen BK257.out 1) | ((with_reducible refine gate_callee (f := 15) rfl ?_); refine goesL_ (some 21) rfl rfl Tryd.func15 zK rfl #[.agg #[.float .f64 a1_0, .float .f64 a1_1]] rfl zM ?_; (with_reducible refine (toponymref14_Parts.calls a1_0 a1_1 t261 t262 t263 _ A4.out).mono ?_); rintro e w69 ⟨rfl, hb⟩; (try clear A4); refine ⟨_, rfl, ?_⟩; have n_ := zI (aM (blk_below (g := gb256) (o := .cells #[.float .f64 a0_0, .float .f64 a0_1] 32 (0, 0)) (by (with_reducible repeat (first | refine blk_drewN ?_ _ | refine blk_drew ?_ | refine blk_alloc ?_ _)); exact BK256.out) hb)) (zI (aM (blk_below (g := gb257) (o := .cells #[.float .f64 a1_0, .float .f64 a1_1] 32 (0, 0)) (by (with_reducible repeat (first | refine blk_drewN ?_ _ | refine blk_drew ?_ | refine blk_alloc ?_ _)); exact BK257.out) hb)) (aM (below_step (by repeat (first | (with_reducible first | exact HB.out | apply bA | apply bN | apply bD | refine below_set ?_ GE256.out | refine below_set ?_ GE257.out) | exact HB.out)) hb))); clear BK256 BK257 HB; obtain ⟨BK256, BK257, HB⟩ := n_; (try clear hb)))
       have n0_ := aM (blk_drew BK256.out)
       have n1_ := aM (blk_drew BK257.out)
       have n2_ := aM (bD HB.out)
       clear BK256
       clear BK257
       clear HB
       have BK256 := n0_
       have BK257 := n1_
       have HB := n2_
       clear n0_ n1_ n2_
       refine start_ (n := 6) (S := fun w' => w'.cell? ⟨gb256, 0, none⟩ = some (.float .f64 a0_0) ∧ w'.cell? ⟨gb256, 1, none⟩ = some (.float .f64 a0_1) ∧ w'.cell? ⟨gb257, 0, none⟩ = some (.float .f64 a1_0) ∧ w'.cell? ⟨gb257, 1, none⟩ = some (.float .f64 a1_1)) (ds := []) #[false, false, false, false, false, false] zK rfl rfl ⟨(blk_cell BK256.out 0).trans rfl, (blk_cell BK256.out 1).trans rfl, (blk_cell BK257.out 0).trans rfl, (blk_cell BK257.out 1).trans rfl⟩ (fun hHeld => ?_)
       generalize w69.drew = w70 at BK256 BK257 HB hHeld ⊢
       refine take_ (i := 0) (N := some 25) (v := ?_) (a' := ?_) #[true, false, false, false, false, false] rfl rfl zK (fun _ _ _ h => h) (Or.inl ⟨by rfl, ?_⟩) hHeld ?_ ?_
       rotate_left
       ·rintro w' ⟨s0, s1, s2, s3⟩
        go_simp
        with_reducible rfl
       rotate_left
       ·simp only [Act.put, List.setIfInBounds_toArray, List.set_cons_zero, List.set_cons_succ, i64_w, i32_w]
        rfl
       refine take_ (i := 2) (N := some 27) (v := ?_) (a' := ?_) #[true, false, true, false, false, false] rfl rfl zK (fun _ _ _ h => h) (Or.inl ⟨by rfl, ?_⟩) hHeld ?_ ?_
       rotate_left
       ·rintro w' ⟨s0, s1, s2, s3⟩
        go_simp
        with_reducible rfl
       rotate_left
       ·simp only [Act.put, List.setIfInBounds_toArray, List.set_cons_zero, List.set_cons_succ, i64_w, i32_w]
        rfl
       refine one_ (i := 1) (N := some 26) #[true, true, true, false, false, false] rfl rfl zK (by decide) (fun K hK => ?_)
       refine goes_ Tryd.func19 zK rfl #[.agg #[.float .f64 a0_0, .float .f64 a0_1]] (by rfl) rfl rfl zM ?_
       with_reducible refine (toponymref14_Norm.calls a0_0 a0_1 t264 _ A5.out).mono ?_
       rintro e w71 ⟨rfl, hb⟩
       refine ⟨_, rfl, ?_⟩
       have n0_ := aM (blk_below (g := gb256) (o := .cells #[.float .f64 a0_0, .float .f64 a0_1] 32 (0, 0)) (by (with_reducible repeat (first | refine blk_drewN ?_ _ | refine blk_drew ?_ | refine blk_alloc ?_ _)); exact BK256.out) hb)
       have n1_ := aM (blk_below (g := gb257) (o := .cells #[.float .f64 a1_0, .float .f64 a1_1] 32 (0, 0)) (by (with_reducible repeat (first | refine blk_drewN ?_ _ | refine blk_drew ?_ | refine blk_alloc ?_ _)); exact BK257.out) hb)
       have n2_ := aM (below_step (by repeat (first | (with_reducible first | exact HB.out | apply bA | apply bN | apply bD | refine below_set ?_ GE256.out | refine below_set ?_ GE257.out) | exact HB.out)) hb)
       clear BK256
       clear BK257
       clear HB
       have BK256 := n0_
       have BK257 := n1_
       have HB := n2_
       clear n0_ n1_ n2_
       (try clear hb)
       (try clear hb2)
       (try clear hk)
       (try clear hi)
       refine hK.out _ _ ⟨(blk_cell BK256.out 0).trans rfl, (blk_cell BK256.out 1).trans rfl, (blk_cell BK257.out 0).trans rfl, (blk_cell BK257.out 1).trans rfl⟩ (fun hHeld => ?_)
       clear hK K
       refine norm_ (a' := ?_) ?_ ?_
       rotate_left
       ·show Act.put _ (some 26) _ = _
        simp only [Act.put, List.setIfInBounds_toArray, List.set_cons_zero, List.set_cons_succ, i64_w, i32_w]
        rfl
       refine one_ (i := 3) (N := some 28) #[true, true, true, true, false, false] rfl rfl zK (by decide) (fun K hK => ?_)
       refine goes_ Tryd.func19 zK rfl #[.agg #[.float .f64 a1_0, .float .f64 a1_1]] (by rfl) rfl rfl zM ?_
       with_reducible refine (toponymref14_Norm.calls a1_0 a1_1 t265 _ A6.out).mono ?_
       rintro e w72 ⟨rfl, hb⟩
       refine ⟨_, rfl, ?_⟩
       have n0_ := aM (blk_below (g := gb256) (o := .cells #[.float .f64 a0_0, .float .f64 a0_1] 32 (0, 0)) (by (with_reducible repeat (first | refine blk_drewN ?_ _ | refine blk_drew ?_ | refine blk_alloc ?_ _)); exact BK256.out) hb)
       have n1_ := aM (blk_below (g := gb257) (o := .cells #[.float .f64 a1_0, .float .f64 a1_1] 32 (0, 0)) (by (with_reducible repeat (first | refine blk_drewN ?_ _ | refine blk_drew ?_ | refine blk_alloc ?_ _)); exact BK257.out) hb)
       have n2_ := aM (below_step (by repeat (first | (with_reducible first | exact HB.out | apply bA | apply bN | apply bD | refine below_set ?_ GE256.out | refine below_set ?_ GE257.out) | exact HB.out)) hb)
       clear BK256
       clear BK257
       clear HB
       have BK256 := n0_
       have BK257 := n1_
       have HB := n2_
       clear n0_ n1_ n2_
       (try clear hb)
       (try clear hb2)
       (try clear hk)
       (try clear hi)
       refine hK.out _ _ ⟨(blk_cell BK256.out 0).trans rfl, (blk_cell BK256.out 1).trans rfl, (blk_cell BK257.out 0).trans rfl, (blk_cell BK257.out 1).trans rfl⟩ (fun hHeld => ?_)
       clear hK K
       refine norm_ (a' := ?_) ?_ ?_
       rotate_left
       ·show Act.put _ (some 28) _ = _
        simp only [Act.put, List.setIfInBounds_toArray, List.set_cons_zero, List.set_cons_succ, i64_w, i32_w]
        rfl
       refine pure_ (i := 4) (N := some 11) (v := ?_) (a' := ?_) #[true, true, true, true, true, false] rfl rfl zK (fun _ _ _ h => h) (Or.inl ⟨by rfl, ?_⟩) ?_ ?_
       rotate_left
       ·intro w'
        go_simp
        with_reducible rfl
       rotate_left
       ·simp only [Act.put, List.setIfInBounds_toArray, List.set_cons_zero, List.set_cons_succ, i64_w, i32_w]
        rfl
       refine pure_ (i := 5) (N := some 12) (v := ?_) (a' := ?_) #[true, true, true, true, true, true] rfl rfl zK (fun _ _ _ h => h) (Or.inl ⟨by rfl, ?_⟩) ?_ ?_
       rotate_left
       ·intro w'
        go_simp
        with_reducible rfl
       rotate_left
       ·simp only [Act.put, List.setIfInBounds_toArray, List.set_cons_zero, List.set_cons_succ, i64_w, i32_w]
        rfl
       refine done_ zK ?_
       try go_wp2
       go_ret
       exact ⟨zE, by repeat (first | (with_reducible first | exact HB.out | apply bA | apply bN | apply bD | refine below_set ?_ GE256.out | refine below_set ?_ GE257.out) | exact HB.out)⟩
      ·rw [if_neg c62] at H
       have c62b0 : decide (t262 < t259) = false := decide_eq_false c62
       clear c62
       obtain rfl := sI H
       go_enter Tryd.func26, Tryd.ntmps26
       try go_wp2_with (first | ((with_reducible refine gate_dst (N := 2) rfl ?_); refine box_event ?hg (N := 2) ?hd (cs := #[.float .f64 a0_0, .float .f64 a0_1]) (t := 32) ?hr ?_; (case hd => rfl); (case hg => rfl); (case hr => first | (go_simp; done) | (go_simp; rfl)); intro gb256 hg w73 hbox hb; have n_ := zI (aM (below_step zB hb)) (zI (aM (hbox)) (zI (aM ((by rw [hg]; exact (below_size zB) : w.heap.size ≤ gb256))) (aM ((by rw [hg]; exact (below_size zB) : w.heap.size ≤ gb256))))); clear HB; obtain ⟨HB, BK256, GW256, GE256⟩ := n_; clear hb hbox hg) | ((with_reducible refine gate_dst (N := 3) rfl ?_); refine box_event ?hg (N := 3) ?hd (cs := #[.float .f64 a1_0, .float .f64 a1_1]) (t := 32) ?hr ?_; (case hd => rfl); (case hg => rfl); (case hr => first | (go_simp; done) | (go_simp; rfl)); intro gb257 hg w74 hbox hb; have n_ := zI (aM (blk_below (g := gb256) (o := .cells #[.float .f64 a0_0, .float .f64 a0_1] 32 (0, 0)) (by (with_reducible repeat (first | refine blk_drewN ?_ _ | refine blk_drew ?_ | refine blk_alloc ?_ _)); exact BK256.out) hb)) (zI (aM (below_step (by repeat (first | (with_reducible first | exact HB.out | apply bA | apply bN | apply bD | refine below_set ?_ GE256.out) | exact HB.out)) hb)) (zI (aM (hbox)) (zI (aM ((by rw [hg]; exact (below_size (by repeat (first | (with_reducible first | exact HB.out | apply bA | apply bN | apply bD | refine below_set ?_ GE256.out) | exact HB.out))) : w.heap.size ≤ gb257))) (zI (aM ((by rw [hg]; exact (below_size (by repeat (first | (with_reducible first | exact HB.out | apply bA | apply bN | apply bD | refine below_set ?_ GE256.out) | exact HB.out))) : w.heap.size ≤ gb257))) (zI (aM ((by rw [hg]; exact Nat.ne_of_lt (blk_lt (g := gb256) (o := .cells #[.float .f64 a0_0, .float .f64 a0_1] 32 (0, 0)) (by (with_reducible repeat (first | refine blk_drewN ?_ _ | refine blk_drew ?_ | refine blk_alloc ?_ _)); exact BK256.out)) : gb256 ≠ gb257))) (aM ((by rw [hg]; exact Nat.ne_of_gt (blk_lt (g := gb256) (o := .cells #[.float .f64 a0_0, .float .f64 a0_1] 32 (0, 0)) (by (with_reducible repeat (first | refine blk_drewN ?_ _ | refine blk_drew ?_ | refine blk_alloc ?_ _)); exact BK256.out)) : gb257 ≠ gb256)))))))); clear BK256 HB; obtain ⟨BK256, HB, BK257, GW257, GE257, NB256_257, NB257_256⟩ := n_; clear hb hbox hg; have hnb75 := NB256_257.out; have hnc75 := NB257_256.out; have hcz76_0 : w74.cell? ⟨gb256, 0, none⟩ = some (.float .f64 a0_0) := (blk_cell BK256.out 0).trans rfl; have hcz76_1 : w74.cell? ⟨gb256, 1, none⟩ = some (.float .f64 a0_1) := (blk_cell BK256.out 1).trans rfl; have hfz76_0 := blk_frozen BK256.out 0; have hfz76_1 := blk_frozen BK256.out 1) | ((with_reducible refine gate_callee (f := 15) rfl ?_); refine goesL_ (some 15) rfl rfl Tryd.func15 zK rfl #[.agg #[.float .f64 a0_0, .float .f64 a0_1]] rfl zM ?_; (with_reducible refine (toponymref14_Parts.calls a0_0 a0_1 t258 t259 t260 _ A3.out).mono ?_); rintro e w77 ⟨rfl, hb⟩; (try clear A3); refine ⟨_, rfl, ?_⟩; have n_ := zI (aM (blk_below (g := gb256) (o := .cells #[.float .f64 a0_0, .float .f64 a0_1] 32 (0, 0)) (by (with_reducible repeat (first | refine blk_drewN ?_ _ | refine blk_drew ?_ | refine blk_alloc ?_ _)); exact BK256.out) hb)) (zI (aM (blk_below (g := gb257) (o := .cells #[.float .f64 a1_0, .float .f64 a1_1] 32 (0, 0)) (by (with_reducible repeat (first | refine blk_drewN ?_ _ | refine blk_drew ?_ | refine blk_alloc ?_ _)); exact BK257.out) hb)) (aM (below_step (by repeat (first | (with_reducible first | exact HB.out | apply bA | apply bN | apply bD | refine below_set ?_ GE256.out | refine below_set ?_ GE257.out) | exact HB.out)) hb))); clear BK256 BK257 HB; obtain ⟨BK256, BK257, HB⟩ := n_; (try clear hb); have hcz78_0 : w77.cell? ⟨gb257, 0, none⟩ = some (.float .f64 a1_0) := (blk_cell BK257.out 0).trans rfl; have hcz78_1 : w77.cell? ⟨gb257, 1, none⟩ = some (.float .f64 a1_1) := (blk_cell BK257.out 1).trans rfl; have hfz78_0 := blk_frozen BK257.out 0; have hfz78_1 := blk_frozen BK257.out 1) | ((with_reducible refine gate_callee (f := 15) rfl ?_); refine goesL_ (some 21) rfl rfl Tryd.func15 zK rfl #[.agg #[.float .f64 a1_0, .float .f64 a1_1]] rfl zM ?_; (with_reducible refine (toponymref14_Parts.calls a1_0 a1_1 t261 t262 t263 _ A4.out).mono ?_); rintro e w79 ⟨rfl, hb⟩; (try clear A4); refine ⟨_, rfl, ?_⟩; have n_ := zI (aM (blk_below (g := gb256) (o := .cells #[.float .f64 a0_0, .float .f64 a0_1] 32 (0, 0)) (by (with_reducible repeat (first | refine blk_drewN ?_ _ | refine blk_drew ?_ | refine blk_alloc ?_ _)); exact BK256.out) hb)) (zI (aM (blk_below (g := gb257) (o := .cells #[.float .f64 a1_0, .float .f64 a1_1] 32 (0, 0)) (by (with_reducible repeat (first | refine blk_drewN ?_ _ | refine blk_drew ?_ | refine blk_alloc ?_ _)); exact BK257.out) hb)) (aM (below_step (by repeat (first | (with_reducible first | exact HB.out | apply bA | apply bN | apply bD | refine below_set ?_ GE256.out | refine below_set ?_ GE257.out) | exact HB.out)) hb))); clear BK256 BK257 HB; obtain ⟨BK256, BK257, HB⟩ := n_; (try clear hb)))
       have n0_ := aM (blk_drew BK256.out)
       have n1_ := aM (blk_drew BK257.out)
       have n2_ := aM (bD HB.out)
       clear BK256
       clear BK257
       clear HB
       have BK256 := n0_
       have BK257 := n1_
       have HB := n2_
       clear n0_ n1_ n2_
       refine start_ (n := 6) (S := fun w' => w'.cell? ⟨gb256, 0, none⟩ = some (.float .f64 a0_0) ∧ w'.cell? ⟨gb256, 1, none⟩ = some (.float .f64 a0_1) ∧ w'.cell? ⟨gb257, 0, none⟩ = some (.float .f64 a1_0) ∧ w'.cell? ⟨gb257, 1, none⟩ = some (.float .f64 a1_1)) (ds := []) #[false, false, false, false, false, false] zK rfl rfl ⟨(blk_cell BK256.out 0).trans rfl, (blk_cell BK256.out 1).trans rfl, (blk_cell BK257.out 0).trans rfl, (blk_cell BK257.out 1).trans rfl⟩ (fun hHeld => ?_)
       generalize w79.drew = w80 at BK256 BK257 HB hHeld ⊢
       refine take_ (i := 0) (N := some 25) (v := ?_) (a' := ?_) #[true, false, false, false, false, false] rfl rfl zK (fun _ _ _ h => h) (Or.inl ⟨by rfl, ?_⟩) hHeld ?_ ?_
       rotate_left
       ·rintro w' ⟨s0, s1, s2, s3⟩
        go_simp
        with_reducible rfl
       rotate_left
       ·simp only [Act.put, List.setIfInBounds_toArray, List.set_cons_zero, List.set_cons_succ, i64_w, i32_w]
        rfl
       refine take_ (i := 2) (N := some 27) (v := ?_) (a' := ?_) #[true, false, true, false, false, false] rfl rfl zK (fun _ _ _ h => h) (Or.inl ⟨by rfl, ?_⟩) hHeld ?_ ?_
       rotate_left
       ·rintro w' ⟨s0, s1, s2, s3⟩
        go_simp
        with_reducible rfl
       rotate_left
       ·simp only [Act.put, List.setIfInBounds_toArray, List.set_cons_zero, List.set_cons_succ, i64_w, i32_w]
        rfl
       refine one_ (i := 1) (N := some 26) #[true, true, true, false, false, false] rfl rfl zK (by decide) (fun K hK => ?_)
       refine goes_ Tryd.func19 zK rfl #[.agg #[.float .f64 a0_0, .float .f64 a0_1]] (by rfl) rfl rfl zM ?_
       with_reducible refine (toponymref14_Norm.calls a0_0 a0_1 t264 _ A5.out).mono ?_
       rintro e w81 ⟨rfl, hb⟩
       refine ⟨_, rfl, ?_⟩
       have n0_ := aM (blk_below (g := gb256) (o := .cells #[.float .f64 a0_0, .float .f64 a0_1] 32 (0, 0)) (by (with_reducible repeat (first | refine blk_drewN ?_ _ | refine blk_drew ?_ | refine blk_alloc ?_ _)); exact BK256.out) hb)
       have n1_ := aM (blk_below (g := gb257) (o := .cells #[.float .f64 a1_0, .float .f64 a1_1] 32 (0, 0)) (by (with_reducible repeat (first | refine blk_drewN ?_ _ | refine blk_drew ?_ | refine blk_alloc ?_ _)); exact BK257.out) hb)
       have n2_ := aM (below_step (by repeat (first | (with_reducible first | exact HB.out | apply bA | apply bN | apply bD | refine below_set ?_ GE256.out | refine below_set ?_ GE257.out) | exact HB.out)) hb)
       clear BK256
       clear BK257
       clear HB
       have BK256 := n0_
       have BK257 := n1_
       have HB := n2_
       clear n0_ n1_ n2_
       (try clear hb)
       (try clear hb2)
       (try clear hk)
       (try clear hi)
       refine hK.out _ _ ⟨(blk_cell BK256.out 0).trans rfl, (blk_cell BK256.out 1).trans rfl, (blk_cell BK257.out 0).trans rfl, (blk_cell BK257.out 1).trans rfl⟩ (fun hHeld => ?_)
       clear hK K
       refine norm_ (a' := ?_) ?_ ?_
       rotate_left
       ·show Act.put _ (some 26) _ = _
        simp only [Act.put, List.setIfInBounds_toArray, List.set_cons_zero, List.set_cons_succ, i64_w, i32_w]
        rfl
       refine one_ (i := 3) (N := some 28) #[true, true, true, true, false, false] rfl rfl zK (by decide) (fun K hK => ?_)
       refine goes_ Tryd.func19 zK rfl #[.agg #[.float .f64 a1_0, .float .f64 a1_1]] (by rfl) rfl rfl zM ?_
       with_reducible refine (toponymref14_Norm.calls a1_0 a1_1 t265 _ A6.out).mono ?_
       rintro e w82 ⟨rfl, hb⟩
       refine ⟨_, rfl, ?_⟩
       have n0_ := aM (blk_below (g := gb256) (o := .cells #[.float .f64 a0_0, .float .f64 a0_1] 32 (0, 0)) (by (with_reducible repeat (first | refine blk_drewN ?_ _ | refine blk_drew ?_ | refine blk_alloc ?_ _)); exact BK256.out) hb)
       have n1_ := aM (blk_below (g := gb257) (o := .cells #[.float .f64 a1_0, .float .f64 a1_1] 32 (0, 0)) (by (with_reducible repeat (first | refine blk_drewN ?_ _ | refine blk_drew ?_ | refine blk_alloc ?_ _)); exact BK257.out) hb)
       have n2_ := aM (below_step (by repeat (first | (with_reducible first | exact HB.out | apply bA | apply bN | apply bD | refine below_set ?_ GE256.out | refine below_set ?_ GE257.out) | exact HB.out)) hb)
       clear BK256
       clear BK257
       clear HB
       have BK256 := n0_
       have BK257 := n1_
       have HB := n2_
       clear n0_ n1_ n2_
       (try clear hb)
       (try clear hb2)
       (try clear hk)
       (try clear hi)
       refine hK.out _ _ ⟨(blk_cell BK256.out 0).trans rfl, (blk_cell BK256.out 1).trans rfl, (blk_cell BK257.out 0).trans rfl, (blk_cell BK257.out 1).trans rfl⟩ (fun hHeld => ?_)
       clear hK K
       refine norm_ (a' := ?_) ?_ ?_
       rotate_left
       ·show Act.put _ (some 28) _ = _
        simp only [Act.put, List.setIfInBounds_toArray, List.set_cons_zero, List.set_cons_succ, i64_w, i32_w]
        rfl
       refine pure_ (i := 4) (N := some 11) (v := ?_) (a' := ?_) #[true, true, true, true, true, false] rfl rfl zK (fun _ _ _ h => h) (Or.inl ⟨by rfl, ?_⟩) ?_ ?_
       rotate_left
       ·intro w'
        go_simp
        with_reducible rfl
       rotate_left
       ·simp only [Act.put, List.setIfInBounds_toArray, List.set_cons_zero, List.set_cons_succ, i64_w, i32_w]
        rfl
       refine pure_ (i := 5) (N := some 12) (v := ?_) (a' := ?_) #[true, true, true, true, true, true] rfl rfl zK (fun _ _ _ h => h) (Or.inl ⟨by rfl, ?_⟩) ?_ ?_
       rotate_left
       ·intro w'
        go_simp
        with_reducible rfl
       rotate_left
       ·simp only [Act.put, List.setIfInBounds_toArray, List.set_cons_zero, List.set_cons_succ, i64_w, i32_w]
        rfl
       refine done_ zK ?_
       try go_wp2
       go_ret
       exact ⟨zE, by repeat (first | (with_reducible first | exact HB.out | apply bA | apply bN | apply bD | refine below_set ?_ GE256.out | refine below_set ?_ GE257.out) | exact HB.out)⟩

end Go.Proofs.YtoadfanppajhhaaDoor.P
