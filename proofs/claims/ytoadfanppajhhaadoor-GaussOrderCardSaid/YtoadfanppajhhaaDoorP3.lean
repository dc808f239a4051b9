-- Printed by wip/mk.py (this session's driver over the kit's print) and from wip/manual.
import Derived.Test.YtoadfanppajhhaaDoorP0
import Derived.Test.YtoadfanppajhhaaDoorP1
import Derived.Test.YtoadfanppajhhaaDoorP2
namespace Go.Proofs.YtoadfanppajhhaaDoor.P
open Go.RowKit Go.Proofs.YtoadfanppajhhaaDoorW.PrintWords Go.Proofs.YtoadfanppajhhaaDoorW.PrintLast Go.Proofs.YtoadfanppajhhaaDoorW.PrintMore
attribute [local go_sem] run_store_float run_store_complex max2_int min2_int max_two min_two max_three min_three max_four min_four   -- for this text's walks alone
set_option linter.unusedVariables false
set_option linter.unusedSimpArgs false

/-! ### toponymlaw14_GaussShows: function 3 -/
def toponymlaw14_GaussShows.f (k : Nat) (a0_0 : Nat) (a0_1 : Nat) (a1 : Int) : Option (Bool) := (toponymlaw14_Two_z.f a0_0 a0_1).bind fun t205 => ((gauss_Show.f t205).bind fun bt206 => ((toponymlaw14_Two_r.f a0_0 a0_1).bind fun bt208 => ((toponymref14_Show.f k bt208.1 bt208.2).bind fun bt210 => ((toponymlaw14_Two_z.f a0_0 a0_1).bind fun t212 => ((gauss_Turn.f t212 a1).bind fun bt213 => ((toponymlaw14_Two_r.f a0_0 a0_1).bind fun bt215 => ((toponymref14_Turn.f k bt215.1 bt215.2 a1).bind fun bt217 => ((toponymlaw14_Two_r.f a0_0 a0_1).bind fun bt220 => ((toponymref14_Parts.f bt220.1 bt220.2).bind fun bt222 => (if bt206.1.toList = bt210.1.toList then (if bt206.2 = bt210.2 then ((toponymlaw14_is.f bt213.1 bt217.1 bt217.2.1).bind fun t225 => (if t225 = true then (if bt213.2 = bt217.2.2 then ((toponymlaw14_Two_z.f a0_0 a0_1).bind fun t226 => ((gauss_Fits.f t226).bind fun t227 => (if (t227 == bt222.2.2) = true then ((toponymlaw14_Two_z.f a0_0 a0_1).bind fun t228 => ((gauss_Norm.f t228).bind fun t229 => ((toponymlaw14_Two_r.f a0_0 a0_1).bind fun bt230 => ((toponymref14_Norm.f bt230.1 bt230.2).bind fun t232 => (if t229 = t232 then ((toponymlaw14_awake.f k).bind fun t233 => (some t233)) else (some false)))))) else (some false)))) else (some false)) else (some false))) else (some false)) else (some false)))))))))))
theorem toponymlaw14_GaussShows.mono : ∀ a0 a1 a2 k, LeO (toponymlaw14_GaussShows.f k a0 a1 a2) (toponymlaw14_GaussShows.f (k + 1) a0 a1 a2) := by
 intro a0 a1 a2 k
 unfold toponymlaw14_GaussShows.f
 repeat' first
   | (with_reducible exact toponymlaw14_awake.mono _)
   | (with_reducible exact toponymref14_Show.mono _ _ _)
   | (with_reducible exact toponymref14_Turn.mono _ _ _ _)
   | (with_reducible exact LeO.refl _)
   | exact toponymlaw14_awake.mono _
   | exact toponymref14_Show.mono _ _ _
   | exact toponymref14_Turn.mono _ _ _ _
   | exact LeO.none _
   | refine LeO.ite ?_ ?_
   | refine LeO.bind ?_ (fun _ => ?_)
def toponymlaw14_GaussShows.T6 : Bool × List (List Nat × List Nat) := (true, [([], []), ([], []), ([0, 1], [0, 1]), ([2], [2]), ([3], [3]), ([3], [3]), ([4, 5, 3], [3, 4, 5]), ([3, 6], [3, 6]), ([7, 3], [7]), ([8], [8]), ([8], [8]), ([8], [8]), ([9, 10, 11, 8, 8], [8, 9, 10, 11]), ([8, 12], [8, 12]), ([13, 12], [13]), ([14], [14]), ([14], [14]), ([15, 16, 14], [14, 15, 16]), ([14, 17], [14, 17]), ([18, 14], [18]), ([19], [19]), ([20, 19, 19], [19, 20]), ([21, 21, 19], [19, 21]), ([19], [19]), ([22, 23, 19], [19, 22, 23]), ([19, 24], [19, 24]), ([25, 22], [25]), ([26], [26]), ([27, 26, 26], [26, 27]), ([28, 28, 26], [26, 28]), ([26], [26]), ([30, 29, 26], [26, 30]), ([31, 31, 26], [26, 31]), ([29, 32, 26], [26, 29, 32]), ([26, 33], [26, 33]), ([34, 32], [34]), ([35, 35], [35]), ([35, 36], [35, 36]), ([37, 36, 0, 1, 2, 3, 4, 5, 6, 7, 8, 9, 10, 11, 12, 13, 14, 15, 16, 17, 18, 19, 20, 21, 22, 23, 24, 25, 26, 27, 28, 29, 30, 31, 32, 33, 34, 35, 36, 37], [37])])
def toponymlaw14_GaussShows.B6 : List Nat := [0, 0, 3, 7, 15, 15, 63, 127, 255, 511, 511, 511, 4095, 8191, 16383, 32767, 32767, 131071, 262143, 524287, 1048575, 2097151, 4194303, 1048575, 16777215, 33554431, 67108863, 134217727, 268435455, 536870911, 134217727, 2147483647, 4294967295, 8589934591, 17179869183, 34359738367, 68719476735, 137438953471, 274877906943]
theorem toponymlaw14_GaussShows.tab6 : rtab .any (opsOf Tryd.f3 6) = toponymlaw14_GaussShows.T6 := zK
theorem toponymlaw14_GaussShows.bits6 : waitsOk toponymlaw14_GaussShows.T6.2 toponymlaw14_GaussShows.B6 = true := zK
set_option maxHeartbeats 8000000 in
set_option maxRecDepth 100000 in
theorem toponymlaw14_GaussShows.calls (k : Nat) (a0_0 : Nat) (a0_1 : Nat) (a1 : Int) (r : Bool) (w : World) (hE : Env w) (h : toponymlaw14_GaussShows.f k a0_0 a0_1 a1 = some r) (hT_ : r = true) :
  Calls Tryd.prog 3 #[.agg #[.float .f64 a0_0, .float .f64 a0_1], .int .i64 a1] w fun e w' => e = .returned (.bool r) ∧ Below w.heap.size w w' := by
 have hT := aM hT_
 clear hT_
 have HE := aM hE
 clear hE
 have hu24 := Tryd.underlying24
 have HB := aM (Below.refl w.heap.size w)
 have H := h
 clear h
 unfold toponymlaw14_GaussShows.f at H
 obtain ⟨t205, A3, H⟩ := zO H
 obtain ⟨⟨t206, t207⟩, A4, H⟩ := zO H
 try dsimp only at H
 obtain ⟨⟨t208, t209⟩, A5, H⟩ := zO H
 try dsimp only at H
 obtain ⟨⟨t210, t211⟩, A6, H⟩ := zO H
 try dsimp only at H
 obtain ⟨t212, A7, H⟩ := zO H
 obtain ⟨⟨t213, t214⟩, A8, H⟩ := zO H
 try dsimp only at H
 obtain ⟨⟨t215, t216⟩, A9, H⟩ := zO H
 try dsimp only at H
 obtain ⟨⟨t217, t218, t219⟩, A10, H⟩ := zO H
 try dsimp only at H
 obtain ⟨⟨t220, t221⟩, A11, H⟩ := zO H
 try dsimp only at H
 obtain ⟨⟨t222, t223, t224⟩, A12, H⟩ := zO H
 try dsimp only at H
 by_cases c13 : t206.toList = t210.toList
 ·rw [if_pos c13] at H
  have c13b0 : (t206.toList == t210.toList) = true := beq_iff_eq.mpr c13
  have c13b1 : (t206.toList != t210.toList) = false := bne_eq_false_iff_eq.mpr c13
  clear c13
  by_cases c14 : t207 = t211
  ·rw [if_pos c14] at H
   have c14b0 : (t207 == t211) = true := beq_iff_eq.mpr c14
   have c14b1 : (t207 != t211) = false := bne_eq_false_iff_eq.mpr c14
   clear c14
   obtain ⟨t225, A15, H⟩ := zO H
   by_cases c16 : t225 = true
   ·subst c16
    rw [if_pos rfl] at H
    by_cases c17 : t214 = t219
    ·rw [if_pos c17] at H
     have c17b0 : (t214 == t219) = true := beq_iff_eq.mpr c17
     have c17b1 : (t214 != t219) = false := bne_eq_false_iff_eq.mpr c17
     clear c17
     obtain ⟨t226, A18, H⟩ := zO H
     obtain ⟨t227, A19, H⟩ := zO H
     by_cases c20 : (t227 == t224) = true
     ·rw [if_pos c20] at H
      have c20b0 : (t227 == t224) = true := c20
      (try (have c20b1 : decide (t227 = t224) = true := by simpa using c20))
      (try (have c20b2 : (t227 == t224) = true := by simpa using c20))
      clear c20
      obtain ⟨t228, A21, H⟩ := zO H
      obtain ⟨t229, A22, H⟩ := zO H
      obtain ⟨⟨t230, t231⟩, A23, H⟩ := zO H
      try dsimp only at H
      obtain ⟨t232, A24, H⟩ := zO H
      by_cases c25 : t229 = t232
      ·rw [if_pos c25] at H
       have c25b0 : (t229 == t232) = true := beq_iff_eq.mpr c25
       have c25b1 : (t229 != t232) = false := bne_eq_false_iff_eq.mpr c25
       clear c25
       obtain ⟨t233, A26, H⟩ := zO H
       obtain rfl := sI H
       go_enter Tryd.func3, Tryd.ntmps3
       try go_wp2_with (first | ((with_reducible refine gate_dst (N := 2) rfl ?_); refine box_event ?hg (N := 2) ?hd (cs := #[.float .f64 a0_0, .float .f64 a0_1]) (t := 24) ?hr ?_; (case hd => rfl); (case hg => rfl); (case hr => first | (go_simp; done) | (go_simp; rfl)); intro gb204 hg w27 hbox hb; have n_ := zI (aM (below_step zB hb)) (zI (aM (hbox)) (zI (aM ((by rw [hg]; exact (below_size zB) : w.heap.size ≤ gb204))) (aM ((by rw [hg]; exact (below_size zB) : w.heap.size ≤ gb204))))); clear HB; obtain ⟨HB, BK204, GW204, GE204⟩ := n_; clear hb hbox hg; have hcz28_0 : w27.cell? ⟨gb204, 0, none⟩ = some (.float .f64 a0_0) := (blk_cell BK204.out 0).trans rfl; have hcz28_1 : w27.cell? ⟨gb204, 1, none⟩ = some (.float .f64 a0_1) := (blk_cell BK204.out 1).trans rfl; have hfz28_0 := blk_frozen BK204.out 0; have hfz28_1 := blk_frozen BK204.out 1) | ((with_reducible refine gate_callee (f := 10) rfl ?_); refine goesL_ (some 19) rfl rfl Tryd.func10 zK rfl #[.agg #[.float .f64 a0_0, .float .f64 a0_1]] rfl zM ?_; (with_reducible refine (toponymlaw14_Two_z.calls a0_0 a0_1 t205 _ A3.out).mono ?_); rintro e w29 ⟨rfl, hb⟩; (try clear A3); refine ⟨_, rfl, ?_⟩; have n_ := zI (aM (blk_below (g := gb204) (o := .cells #[.float .f64 a0_0, .float .f64 a0_1] 24 (0, 0)) (by (with_reducible repeat (first | refine blk_drewN ?_ _ | refine blk_drew ?_ | refine blk_alloc ?_ _)); exact BK204.out) hb)) (aM (below_step (by repeat (first | (with_reducible first | exact HB.out | apply bA | apply bN | apply bD | refine below_set ?_ GE204.out) | exact HB.out)) hb)); clear BK204 HB; obtain ⟨BK204, HB⟩ := n_; (try clear hb)) | ((with_reducible refine gate_callee (f := 9) rfl ?_); refine goesL_ (some 20) rfl rfl Tryd.func9 zK rfl #[.complex .f64 t205.1 t205.2] rfl zM ?_; (with_reducible refine (gauss_Show.calls t205 t206 t207 _ (zEnv HE) A4.out).mono ?_); rintro e w30 ⟨rfl, hb⟩; refine ⟨_, rfl, ?_⟩; have n_ := zI (aM (blk_below (g := gb204) (o := .cells #[.float .f64 a0_0, .float .f64 a0_1] 24 (0, 0)) (by (with_reducible repeat (first | refine blk_drewN ?_ _ | refine blk_drew ?_ | refine blk_alloc ?_ _)); exact BK204.out) hb)) (aM (below_step (by repeat (first | (with_reducible first | exact HB.out | apply bA | apply bN | apply bD | refine below_set ?_ GE204.out) | exact HB.out)) hb)); clear BK204 HB; obtain ⟨BK204, HB⟩ := n_; (try clear hb); have hcz31_0 : w30.cell? ⟨gb204, 0, none⟩ = some (.float .f64 a0_0) := (blk_cell BK204.out 0).trans rfl; have hcz31_1 : w30.cell? ⟨gb204, 1, none⟩ = some (.float .f64 a0_1) := (blk_cell BK204.out 1).trans rfl; have hfz31_0 := blk_frozen BK204.out 0; have hfz31_1 := blk_frozen BK204.out 1) | ((with_reducible refine gate_callee (f := 12) rfl ?_); refine goesL_ (some 25) rfl rfl Tryd.func12 zK rfl #[.agg #[.float .f64 a0_0, .float .f64 a0_1]] rfl zM ?_; (with_reducible refine (toponymlaw14_Two_r.calls a0_0 a0_1 t208 t209 _ A5.out).mono ?_); rintro e w32 ⟨rfl, hb⟩; (try clear A5); refine ⟨_, rfl, ?_⟩; have n_ := zI (aM (blk_below (g := gb204) (o := .cells #[.float .f64 a0_0, .float .f64 a0_1] 24 (0, 0)) (by (with_reducible repeat (first | refine blk_drewN ?_ _ | refine blk_drew ?_ | refine blk_alloc ?_ _)); exact BK204.out) hb)) (aM (below_step (by repeat (first | (with_reducible first | exact HB.out | apply bA | apply bN | apply bD | refine below_set ?_ GE204.out) | exact HB.out)) hb)); clear BK204 HB; obtain ⟨BK204, HB⟩ := n_; (try clear hb)) | ((with_reducible refine gate_callee (f := 11) rfl ?_); refine goesL_ (some 26) rfl rfl Tryd.func11 zK rfl #[.agg #[.float .f64 t208, .float .f64 t209]] rfl zM ?_; (with_reducible refine (toponymref14_Show.calls k t208 t209 t210 t211 _ A6.out).mono ?_); rintro e w33 ⟨rfl, hb⟩; refine ⟨_, rfl, ?_⟩; have n_ := zI (aM (blk_below (g := gb204) (o := .cells #[.float .f64 a0_0, .float .f64 a0_1] 24 (0, 0)) (by (with_reducible repeat (first | refine blk_drewN ?_ _ | refine blk_drew ?_ | refine blk_alloc ?_ _)); exact BK204.out) hb)) (aM (below_step (by repeat (first | (with_reducible first | exact HB.out | apply bA | apply bN | apply bD | refine below_set ?_ GE204.out) | exact HB.out)) hb)); clear BK204 HB; obtain ⟨BK204, HB⟩ := n_; (try clear hb); have hcz34_0 : w33.cell? ⟨gb204, 0, none⟩ = some (.float .f64 a0_0) := (blk_cell BK204.out 0).trans rfl; have hcz34_1 : w33.cell? ⟨gb204, 1, none⟩ = some (.float .f64 a0_1) := (blk_cell BK204.out 1).trans rfl; have hfz34_0 := blk_frozen BK204.out 0; have hfz34_1 := blk_frozen BK204.out 1) | ((with_reducible refine gate_callee (f := 10) rfl ?_); refine goesL_ (some 31) rfl rfl Tryd.func10 zK rfl #[.agg #[.float .f64 a0_0, .float .f64 a0_1]] rfl zM ?_; (with_reducible refine (toponymlaw14_Two_z.calls a0_0 a0_1 t212 _ A7.out).mono ?_); rintro e w35 ⟨rfl, hb⟩; (try clear A7); refine ⟨_, rfl, ?_⟩; have n_ := zI (aM (blk_below (g := gb204) (o := .cells #[.float .f64 a0_0, .float .f64 a0_1] 24 (0, 0)) (by (with_reducible repeat (first | refine blk_drewN ?_ _ | refine blk_drew ?_ | refine blk_alloc ?_ _)); exact BK204.out) hb)) (aM (below_step (by repeat (first | (with_reducible first | exact HB.out | apply bA | apply bN | apply bD | refine below_set ?_ GE204.out) | exact HB.out)) hb)); clear BK204 HB; obtain ⟨BK204, HB⟩ := n_; (try clear hb)) | ((with_reducible refine gate_callee (f := 13) rfl ?_); refine goesL_ (some 33) rfl rfl Tryd.func13 zK rfl #[.complex .f64 t212.1 t212.2, .int .i64 a1] rfl zM ?_; (with_reducible refine (gauss_Turn.calls t212 a1 t213 t214 _ A8.out).mono ?_); rintro e w36 ⟨rfl, hb⟩; refine ⟨_, rfl, ?_⟩; have n_ := zI (aM (blk_below (g := gb204) (o := .cells #[.float .f64 a0_0, .float .f64 a0_1] 24 (0, 0)) (by (with_reducible repeat (first | refine blk_drewN ?_ _ | refine blk_drew ?_ | refine blk_alloc ?_ _)); exact BK204.out) hb)) (aM (below_step (by repeat (first | (with_reducible first | exact HB.out | apply bA | apply bN | apply bD | refine below_set ?_ GE204.out) | exact HB.out)) hb)); clear BK204 HB; obtain ⟨BK204, HB⟩ := n_; (try clear hb); have hcz37_0 : w36.cell? ⟨gb204, 0, none⟩ = some (.float .f64 a0_0) := (blk_cell BK204.out 0).trans rfl; have hcz37_1 : w36.cell? ⟨gb204, 1, none⟩ = some (.float .f64 a0_1) := (blk_cell BK204.out 1).trans rfl; have hfz37_0 := blk_frozen BK204.out 0; have hfz37_1 := blk_frozen BK204.out 1) | ((with_reducible refine gate_callee (f := 12) rfl ?_); refine goesL_ (some 38) rfl rfl Tryd.func12 zK rfl #[.agg #[.float .f64 a0_0, .float .f64 a0_1]] rfl zM ?_; (with_reducible refine (toponymlaw14_Two_r.calls a0_0 a0_1 t215 t216 _ A9.out).mono ?_); rintro e w38 ⟨rfl, hb⟩; (try clear A9); refine ⟨_, rfl, ?_⟩; have n_ := zI (aM (blk_below (g := gb204) (o := .cells #[.float .f64 a0_0, .float .f64 a0_1] 24 (0, 0)) (by (with_reducible repeat (first | refine blk_drewN ?_ _ | refine blk_drew ?_ | refine blk_alloc ?_ _)); exact BK204.out) hb)) (aM (below_step (by repeat (first | (with_reducible first | exact HB.out | apply bA | apply bN | apply bD | refine below_set ?_ GE204.out) | exact HB.out)) hb)); clear BK204 HB; obtain ⟨BK204, HB⟩ := n_; (try clear hb)) | ((with_reducible refine gate_callee (f := 14) rfl ?_); refine goesL_ (some 40) rfl rfl Tryd.func14 zK rfl #[.agg #[.float .f64 t215, .float .f64 t216], .int .i64 a1] rfl zM ?_; (with_reducible refine (toponymref14_Turn.calls k t215 t216 a1 t217 t218 t219 _ A10.out).mono ?_); rintro e w39 ⟨rfl, hb⟩; refine ⟨_, rfl, ?_⟩; have n_ := zI (aM (blk_below (g := gb204) (o := .cells #[.float .f64 a0_0, .float .f64 a0_1] 24 (0, 0)) (by (with_reducible repeat (first | refine blk_drewN ?_ _ | refine blk_drew ?_ | refine blk_alloc ?_ _)); exact BK204.out) hb)) (aM (below_step (by repeat (first | (with_reducible first | exact HB.out | apply bA | apply bN | apply bD | refine below_set ?_ GE204.out) | exact HB.out)) hb)); clear BK204 HB; obtain ⟨BK204, HB⟩ := n_; (try clear hb); have hcz40_0 : w39.cell? ⟨gb204, 0, none⟩ = some (.float .f64 a0_0) := (blk_cell BK204.out 0).trans rfl; have hcz40_1 : w39.cell? ⟨gb204, 1, none⟩ = some (.float .f64 a0_1) := (blk_cell BK204.out 1).trans rfl; have hfz40_0 := blk_frozen BK204.out 0; have hfz40_1 := blk_frozen BK204.out 1) | ((with_reducible refine gate_callee (f := 12) rfl ?_); refine goesL_ (some 46) rfl rfl Tryd.func12 zK rfl #[.agg #[.float .f64 a0_0, .float .f64 a0_1]] rfl zM ?_; (with_reducible refine (toponymlaw14_Two_r.calls a0_0 a0_1 t220 t221 _ A11.out).mono ?_); rintro e w41 ⟨rfl, hb⟩; (try clear A11); refine ⟨_, rfl, ?_⟩; have n_ := zI (aM (blk_below (g := gb204) (o := .cells #[.float .f64 a0_0, .float .f64 a0_1] 24 (0, 0)) (by (with_reducible repeat (first | refine blk_drewN ?_ _ | refine blk_drew ?_ | refine blk_alloc ?_ _)); exact BK204.out) hb)) (aM (below_step (by repeat (first | (with_reducible first | exact HB.out | apply bA | apply bN | apply bD | refine below_set ?_ GE204.out) | exact HB.out)) hb)); clear BK204 HB; obtain ⟨BK204, HB⟩ := n_; (try clear hb)) | ((with_reducible refine gate_callee (f := 15) rfl ?_); refine goesL_ (some 47) rfl rfl Tryd.func15 zK rfl #[.agg #[.float .f64 t220, .float .f64 t221]] rfl zM ?_; (with_reducible refine (toponymref14_Parts.calls t220 t221 t222 t223 t224 _ A12.out).mono ?_); rintro e w42 ⟨rfl, hb⟩; refine ⟨_, rfl, ?_⟩; have n_ := zI (aM (blk_below (g := gb204) (o := .cells #[.float .f64 a0_0, .float .f64 a0_1] 24 (0, 0)) (by (with_reducible repeat (first | refine blk_drewN ?_ _ | refine blk_drew ?_ | refine blk_alloc ?_ _)); exact BK204.out) hb)) (aM (below_step (by repeat (first | (with_reducible first | exact HB.out | apply bA | apply bN | apply bD | refine below_set ?_ GE204.out) | exact HB.out)) hb)); clear BK204 HB; obtain ⟨BK204, HB⟩ := n_; (try clear hb)))
       have n0_ := aM (blk_drew BK204.out)
       have n1_ := aM (bD HB.out)
       clear BK204
       clear HB
       have BK204 := n0_
       have HB := n1_
       clear n0_ n1_
       refine start_ (n := 39) (S := fun w' => w'.cell? ⟨gb204, 0, none⟩ = some (.float .f64 a0_0) ∧ w'.cell? ⟨gb204, 1, none⟩ = some (.float .f64 a0_1)) (ds := []) #[false, false, false, false, false, false, false, false, false, false, false, false, false, false, false, false, false, false, false, false, false, false, false, false, false, false, false, false, false, false, false, false, false, false, false, false, false, false, false] zK rfl rfl ⟨(blk_cell BK204.out 0).trans rfl, (blk_cell BK204.out 1).trans rfl⟩ (fun hHeld => ?_); refine with_tabW toponymlaw14_GaussShows.tab6 toponymlaw14_GaussShows.bits6 (fun HT_ HW_ => ?_)
       generalize w42.drew = w43 at BK204 HB hHeld ⊢
       refine pure_ (i := 0) (N := some 51) (v := ?_) (a' := ?_) #[true, false, false, false, false, false, false, false, false, false, false, false, false, false, false, false, false, false, false, false, false, false, false, false, false, false, false, false, false, false, false, false, false, false, false, false, false, false, false] rfl rfl (any_of HT_.out zK) (fun _ _ _ h => h) (Or.inl ⟨by rfl, ?_⟩) ?_ ?_
       rotate_left
       ·intro w'
        go_simp
        with_reducible rfl
       rotate_left
       ·simp only [Act.put, List.setIfInBounds_toArray, List.set_cons_zero, List.set_cons_succ, i64_w, i32_w]
        rfl
       refine pure_ (i := 1) (N := some 52) (v := ?_) (a' := ?_) #[true, true, false, false, false, false, false, false, false, false, false, false, false, false, false, false, false, false, false, false, false, false, false, false, false, false, false, false, false, false, false, false, false, false, false, false, false, false, false] rfl rfl (any_of HT_.out zK) (fun _ _ _ h => h) (Or.inl ⟨by rfl, ?_⟩) ?_ ?_
       rotate_left
       ·intro w'
        go_simp
        with_reducible rfl
       rotate_left
       ·simp only [Act.put, List.setIfInBounds_toArray, List.set_cons_zero, List.set_cons_succ, i64_w, i32_w]
        rfl
       refine pure_ (i := 2) (N := some 53) (v := ?_) (a' := ?_) #[true, true, true, false, false, false, false, false, false, false, false, false, false, false, false, false, false, false, false, false, false, false, false, false, false, false, false, false, false, false, false, false, false, false, false, false, false, false, false] rfl rfl (any_of HT_.out zK) (fun _ _ _ h => h) (Or.inl ⟨by rfl, ?_⟩) ?_ ?_
       rotate_left
       ·intro w'
        go_simp
        with_reducible rfl
       rotate_left
       ·simp only [Act.put, List.setIfInBounds_toArray, List.set_cons_zero, List.set_cons_succ, i64_w, i32_w]
        rfl
       refine pure_ (i := 3) (N := some 54) (v := ?_) (a' := ?_) #[true, true, true, true, false, false, false, false, false, false, false, false, false, false, false, false, false, false, false, false, false, false, false, false, false, false, false, false, false, false, false, false, false, false, false, false, false, false, false] rfl rfl (any_of HT_.out zK) (fun _ _ _ h => h) (Or.inl ⟨by rfl, ?_⟩) ?_ ?_
       rotate_left
       ·intro w'
        go_simp
        with_reducible rfl
       rotate_left
       ·simp only [Act.put, List.setIfInBounds_toArray, List.set_cons_zero, List.set_cons_succ, i64_w, i32_w]
        rfl
       refine pure_ (i := 4) (N := some 55) (v := ?_) (a' := ?_) #[true, true, true, true, true, false, false, false, false, false, false, false, false, false, false, false, false, false, false, false, false, false, false, false, false, false, false, false, false, false, false, false, false, false, false, false, false, false, false] rfl rfl (any_of HT_.out zK) (fun _ _ _ h => h) (Or.inl ⟨by rfl, ?_⟩) ?_ ?_
       rotate_left
       ·intro w'
        go_simp
        with_reducible rfl
       rotate_left
       ·simp only [Act.put, List.setIfInBounds_toArray, List.set_cons_zero, List.set_cons_succ, i64_w, i32_w]
        rfl
       refine pure_ (i := 5) (N := some 56) (v := ?_) (a' := ?_) #[true, true, true, true, true, true, false, false, false, false, false, false, false, false, false, false, false, false, false, false, false, false, false, false, false, false, false, false, false, false, false, false, false, false, false, false, false, false, false] rfl rfl (any_of HT_.out zK) (fun _ _ _ h => h) (Or.inl ⟨by rfl, ?_⟩) ?_ ?_
       rotate_left
       ·intro w'
        go_simp
        with_reducible rfl
       rotate_left
       ·simp only [Act.put, List.setIfInBounds_toArray, List.set_cons_zero, List.set_cons_succ, i64_w, i32_w]
        rfl
       refine pure_ (i := 6) (N := some 57) (v := ?_) (a' := ?_) #[true, true, true, true, true, true, true, false, false, false, false, false, false, false, false, false, false, false, false, false, false, false, false, false, false, false, false, false, false, false, false, false, false, false, false, false, false, false, false] rfl rfl (any_of HT_.out zK) (fun _ _ _ h => h) (Or.inl ⟨by rfl, ?_⟩) ?_ ?_
       rotate_left
       ·intro w'
        go_simp
        with_reducible rfl
       rotate_left
       ·simp only [Act.put, List.setIfInBounds_toArray, List.set_cons_zero, List.set_cons_succ, i64_w, i32_w]
        rfl
       refine pure_ (i := 7) (N := some 58) (v := ?_) (a' := ?_) #[true, true, true, true, true, true, true, true, false, false, false, false, false, false, false, false, false, false, false, false, false, false, false, false, false, false, false, false, false, false, false, false, false, false, false, false, false, false, false] rfl rfl (any_of HT_.out zK) (fun _ _ _ h => h) (Or.inl ⟨by rfl, ?_⟩) ?_ ?_
       rotate_left
       ·intro w'
        go_simp
        with_reducible rfl
       rotate_left
       ·simp only [Act.put, List.setIfInBounds_toArray, List.set_cons_zero, List.set_cons_succ, i64_w, i32_w]
        rfl
       refine pure_ (i := 8) (N := some 59) (v := ?_) (a' := ?_) #[true, true, true, true, true, true, true, true, true, false, false, false, false, false, false, false, false, false, false, false, false, false, false, false, false, false, false, false, false, false, false, false, false, false, false, false, false, false, false] rfl rfl (any_of HT_.out zK) (fun _ _ _ h => h) (Or.inl ⟨by rfl, ?_⟩) ?_ ?_
       rotate_left
       ·intro w'
        go_simp
        with_reducible rfl
       rotate_left
       ·simp only [Act.put, List.setIfInBounds_toArray, List.set_cons_zero, List.set_cons_succ, i64_w, i32_w]
        rfl
       refine pure_ (i := 9) (N := some 60) (v := ?_) (a' := ?_) #[true, true, true, true, true, true, true, true, true, true, false, false, false, false, false, false, false, false, false, false, false, false, false, false, false, false, false, false, false, false, false, false, false, false, false, false, false, false, false] rfl rfl (any_of HT_.out zK) (fun _ _ _ h => h) (Or.inl ⟨by rfl, ?_⟩) ?_ ?_
       rotate_left
       ·intro w'
        go_simp
        with_reducible rfl
       rotate_left
       ·simp only [Act.put, List.setIfInBounds_toArray, List.set_cons_zero, List.set_cons_succ, i64_w, i32_w]
        rfl
       refine pure_ (i := 10) (N := some 61) (v := ?_) (a' := ?_) #[true, true, true, true, true, true, true, true, true, true, true, false, false, false, false, false, false, false, false, false, false, false, false, false, false, false, false, false, false, false, false, false, false, false, false, false, false, false, false] rfl rfl (any_of HT_.out zK) (fun _ _ _ h => h) (Or.inl ⟨by rfl, ?_⟩) ?_ ?_
       rotate_left
       ·intro w'
        go_simp
        with_reducible rfl
       rotate_left
       ·simp only [Act.put, List.setIfInBounds_toArray, List.set_cons_zero, List.set_cons_succ, i64_w, i32_w]
        rfl
       refine pure_ (i := 11) (N := some 62) (v := ?_) (a' := ?_) #[true, true, true, true, true, true, true, true, true, true, true, true, false, false, false, false, false, false, false, false, false, false, false, false, false, false, false, false, false, false, false, false, false, false, false, false, false, false, false] rfl rfl (any_of HT_.out zK) (fun _ _ _ h => h) (Or.inl ⟨by rfl, ?_⟩) ?_ ?_
       rotate_left
       ·intro w'
        go_simp
        with_reducible rfl
       rotate_left
       ·simp only [Act.put, List.setIfInBounds_toArray, List.set_cons_zero, List.set_cons_succ, i64_w, i32_w]
        rfl
       refine one_ (i := 12) (N := some 63) #[true, true, true, true, true, true, true, true, true, true, true, true, true, false, false, false, false, false, false, false, false, false, false, false, false, false, false, false, false, false, false, false, false, false, false, false, false, false, false] rfl rfl (one_of HT_.out zK) (by decide) (fun K hK => ?_)
       refine goes_ Tryd.func16 zK rfl #[.complex .f64 t213.1 t213.2, .int .i64 t217, .int .i64 t218] (by rfl) rfl rfl zM ?_
       with_reducible refine (toponymlaw14_is.calls t213 t217 t218 true _ A15.out).mono ?_
       rintro e w44 ⟨rfl, hb⟩
       refine ⟨_, rfl, ?_⟩
       have n0_ := aM (blk_below (g := gb204) (o := .cells #[.float .f64 a0_0, .float .f64 a0_1] 24 (0, 0)) (by (with_reducible repeat (first | refine blk_drewN ?_ _ | refine blk_drew ?_ | refine blk_alloc ?_ _)); exact BK204.out) hb)
       have n1_ := aM (below_step (by repeat (first | (with_reducible first | exact HB.out | apply bA | apply bN | apply bD | refine below_set ?_ GE204.out) | exact HB.out)) hb)
       clear BK204
       clear HB
       have BK204 := n0_
       have HB := n1_
       clear n0_ n1_
       (try clear hb)
       (try clear hb2)
       (try clear hk)
       (try clear hi)
       refine hK.out _ _ ⟨(blk_cell BK204.out 0).trans rfl, (blk_cell BK204.out 1).trans rfl⟩ (fun hHeld => ?_)
       clear hK K
       refine norm_ (a' := ?_) ?_ ?_
       rotate_left
       ·show Act.put _ (some 63) _ = _
        simp only [Act.put, List.setIfInBounds_toArray, List.set_cons_zero, List.set_cons_succ, i64_w, i32_w]
        rfl
       refine pure_ (i := 13) (N := some 64) (v := ?_) (a' := ?_) #[true, true, true, true, true, true, true, true, true, true, true, true, true, true, false, false, false, false, false, false, false, false, false, false, false, false, false, false, false, false, false, false, false, false, false, false, false, false, false] rfl rfl (any_of HT_.out zK) (fun _ _ _ h => h) (Or.inl ⟨by rfl, ?_⟩) ?_ ?_
       rotate_left
       ·intro w'
        go_simp
        with_reducible rfl
       rotate_left
       ·simp only [Act.put, List.setIfInBounds_toArray, List.set_cons_zero, List.set_cons_succ, i64_w, i32_w]
        rfl
       refine pure_ (i := 14) (N := some 65) (v := ?_) (a' := ?_) #[true, true, true, true, true, true, true, true, true, true, true, true, true, true, true, false, false, false, false, false, false, false, false, false, false, false, false, false, false, false, false, false, false, false, false, false, false, false, false] rfl rfl (any_of HT_.out zK) (fun _ _ _ h => h) (Or.inl ⟨by rfl, ?_⟩) ?_ ?_
       rotate_left
       ·intro w'
        go_simp
        with_reducible rfl
       rotate_left
       ·simp only [Act.put, List.setIfInBounds_toArray, List.set_cons_zero, List.set_cons_succ, i64_w, i32_w]
        rfl
       refine pure_ (i := 15) (N := some 66) (v := ?_) (a' := ?_) #[true, true, true, true, true, true, true, true, true, true, true, true, true, true, true, true, false, false, false, false, false, false, false, false, false, false, false, false, false, false, false, false, false, false, false, false, false, false, false] rfl rfl (any_of HT_.out zK) (fun _ _ _ h => h) (Or.inl ⟨by rfl, ?_⟩) ?_ ?_
       rotate_left
       ·intro w'
        go_simp
        with_reducible rfl
       rotate_left
       ·simp only [Act.put, List.setIfInBounds_toArray, List.set_cons_zero, List.set_cons_succ, i64_w, i32_w]
        rfl
       refine pure_ (i := 16) (N := some 67) (v := ?_) (a' := ?_) #[true, true, true, true, true, true, true, true, true, true, true, true, true, true, true, true, true, false, false, false, false, false, false, false, false, false, false, false, false, false, false, false, false, false, false, false, false, false, false] rfl rfl (any_of HT_.out zK) (fun _ _ _ h => h) (Or.inl ⟨by rfl, ?_⟩) ?_ ?_
       rotate_left
       ·intro w'
        go_simp
        with_reducible rfl
       rotate_left
       ·simp only [Act.put, List.setIfInBounds_toArray, List.set_cons_zero, List.set_cons_succ, i64_w, i32_w]
        rfl
       refine pure_ (i := 17) (N := some 68) (v := ?_) (a' := ?_) #[true, true, true, true, true, true, true, true, true, true, true, true, true, true, true, true, true, true, false, false, false, false, false, false, false, false, false, false, false, false, false, false, false, false, false, false, false, false, false] rfl rfl (any_of HT_.out zK) (fun _ _ _ h => h) (Or.inl ⟨by rfl, ?_⟩) ?_ ?_
       rotate_left
       ·intro w'
        go_simp
        with_reducible rfl
       rotate_left
       ·simp only [Act.put, List.setIfInBounds_toArray, List.set_cons_zero, List.set_cons_succ, i64_w, i32_w]
        rfl
       refine pure_ (i := 18) (N := some 69) (v := ?_) (a' := ?_) #[true, true, true, true, true, true, true, true, true, true, true, true, true, true, true, true, true, true, true, false, false, false, false, false, false, false, false, false, false, false, false, false, false, false, false, false, false, false, false] rfl rfl (any_of HT_.out zK) (fun _ _ _ h => h) (Or.inl ⟨by rfl, ?_⟩) ?_ ?_
       rotate_left
       ·intro w'
        go_simp
        with_reducible rfl
       rotate_left
       ·simp only [Act.put, List.setIfInBounds_toArray, List.set_cons_zero, List.set_cons_succ, i64_w, i32_w]
        rfl
       refine pure_ (i := 19) (N := some 70) (v := ?_) (a' := ?_) #[true, true, true, true, true, true, true, true, true, true, true, true, true, true, true, true, true, true, true, true, false, false, false, false, false, false, false, false, false, false, false, false, false, false, false, false, false, false, false] rfl rfl (any_of HT_.out zK) (fun _ _ _ h => h) (Or.inl ⟨by rfl, ?_⟩) ?_ ?_
       rotate_left
       ·intro w'
        go_simp
        with_reducible rfl
       rotate_left
       ·simp only [Act.put, List.setIfInBounds_toArray, List.set_cons_zero, List.set_cons_succ, i64_w, i32_w]
        rfl
       refine pure_ (i := 23) (N := some 74) (v := ?_) (a' := ?_) #[true, true, true, true, true, true, true, true, true, true, true, true, true, true, true, true, true, true, true, true, false, false, false, true, false, false, false, false, false, false, false, false, false, false, false, false, false, false, false] rfl rfl (any_of HT_.out zK) (fun _ _ _ h => h) (Or.inl ⟨by rfl, ?_⟩) ?_ ?_
       rotate_left
       ·intro w'
        go_simp
        with_reducible rfl
       rotate_left
       ·simp only [Act.put, List.setIfInBounds_toArray, List.set_cons_zero, List.set_cons_succ, i64_w, i32_w]
        rfl
       refine take_ (i := 20) (N := some 71) (v := ?_) (a' := ?_) #[true, true, true, true, true, true, true, true, true, true, true, true, true, true, true, true, true, true, true, true, true, false, false, true, false, false, false, false, false, false, false, false, false, false, false, false, false, false, false] rfl rfl (take_ofW HT_.out HW_.out zK) (fun _ _ _ h => h) (Or.inl ⟨by rfl, ?_⟩) hHeld ?_ ?_
       rotate_left
       ·rintro w' ⟨s0, s1⟩
        go_simp
        with_reducible rfl
       rotate_left
       ·simp only [Act.put, List.setIfInBounds_toArray, List.set_cons_zero, List.set_cons_succ, i64_w, i32_w]
        rfl
       refine one_ (i := 21) (N := some 72) #[true, true, true, true, true, true, true, true, true, true, true, true, true, true, true, true, true, true, true, true, true, true, false, true, false, false, false, false, false, false, false, false, false, false, false, false, false, false, false] rfl rfl (one_of HT_.out zK) (by decide) (fun K hK => ?_)
       refine goes_ Tryd.func10 zK rfl #[.agg #[.float .f64 a0_0, .float .f64 a0_1]] (by rfl) rfl rfl zM ?_
       with_reducible refine (toponymlaw14_Two_z.calls a0_0 a0_1 t226 _ A18.out).mono ?_
       rintro e w45 ⟨rfl, hb⟩
       refine ⟨_, rfl, ?_⟩
       have n0_ := aM (blk_below (g := gb204) (o := .cells #[.float .f64 a0_0, .float .f64 a0_1] 24 (0, 0)) (by (with_reducible repeat (first | refine blk_drewN ?_ _ | refine blk_drew ?_ | refine blk_alloc ?_ _)); exact BK204.out) hb)
       have n1_ := aM (below_step (by repeat (first | (with_reducible first | exact HB.out | apply bA | apply bN | apply bD | refine below_set ?_ GE204.out) | exact HB.out)) hb)
       clear BK204
       clear HB
       have BK204 := n0_
       have HB := n1_
       clear n0_ n1_
       (try clear hb)
       (try clear hb2)
       (try clear hk)
       (try clear hi)
       refine hK.out _ _ ⟨(blk_cell BK204.out 0).trans rfl, (blk_cell BK204.out 1).trans rfl⟩ (fun hHeld => ?_)
       clear hK K
       refine norm_ (a' := ?_) ?_ ?_
       rotate_left
       ·show Act.put _ (some 72) _ = _
        simp only [Act.put, List.setIfInBounds_toArray, List.set_cons_zero, List.set_cons_succ, i64_w, i32_w]
        rfl
       refine one_ (i := 22) (N := some 73) #[true, true, true, true, true, true, true, true, true, true, true, true, true, true, true, true, true, true, true, true, true, true, true, true, false, false, false, false, false, false, false, false, false, false, false, false, false, false, false] rfl rfl (one_of HT_.out zK) (by decide) (fun K hK => ?_)
       refine goes_ Tryd.func17 zK rfl #[.complex .f64 t226.1 t226.2] (by rfl) rfl rfl zM ?_
       with_reducible refine (gauss_Fits.calls t226 t227 _ A19.out).mono ?_
       rintro e w46 ⟨rfl, hb⟩
       refine ⟨_, rfl, ?_⟩
       have n0_ := aM (blk_below (g := gb204) (o := .cells #[.float .f64 a0_0, .float .f64 a0_1] 24 (0, 0)) (by (with_reducible repeat (first | refine blk_drewN ?_ _ | refine blk_drew ?_ | refine blk_alloc ?_ _)); exact BK204.out) hb)
       have n1_ := aM (below_step (by repeat (first | (with_reducible first | exact HB.out | apply bA | apply bN | apply bD | refine below_set ?_ GE204.out) | exact HB.out)) hb)
       clear BK204
       clear HB
       have BK204 := n0_
       have HB := n1_
       clear n0_ n1_
       (try clear hb)
       (try clear hb2)
       (try clear hk)
       (try clear hi)
       refine hK.out _ _ ⟨(blk_cell BK204.out 0).trans rfl, (blk_cell BK204.out 1).trans rfl⟩ (fun hHeld => ?_)
       clear hK K
       refine norm_ (a' := ?_) ?_ ?_
       rotate_left
       ·show Act.put _ (some 73) _ = _
        simp only [Act.put, List.setIfInBounds_toArray, List.set_cons_zero, List.set_cons_succ, i64_w, i32_w]
        rfl
       refine pure_ (i := 24) (N := some 75) (v := ?_) (a' := ?_) #[true, true, true, true, true, true, true, true, true, true, true, true, true, true, true, true, true, true, true, true, true, true, true, true, true, false, false, false, false, false, false, false, false, false, false, false, false, false, false] rfl rfl (any_of HT_.out zK) (fun _ _ _ h => h) (Or.inl ⟨by rfl, ?_⟩) ?_ ?_
       rotate_left
       ·intro w'
        go_simp
        with_reducible rfl
       rotate_left
       ·simp only [Act.put, List.setIfInBounds_toArray, List.set_cons_zero, List.set_cons_succ, i64_w, i32_w]
        rfl
       refine pure_ (i := 25) (N := some 76) (v := ?_) (a' := ?_) #[true, true, true, true, true, true, true, true, true, true, true, true, true, true, true, true, true, true, true, true, true, true, true, true, true, true, false, false, false, false, false, false, false, false, false, false, false, false, false] rfl rfl (any_of HT_.out zK) (fun _ _ _ h => h) (Or.inl ⟨by rfl, ?_⟩) ?_ ?_
       rotate_left
       ·intro w'
        go_simp
        with_reducible rfl
       rotate_left
       ·simp only [Act.put, List.setIfInBounds_toArray, List.set_cons_zero, List.set_cons_succ, i64_w, i32_w]
        rfl
       refine pure_ (i := 26) (N := some 77) (v := ?_) (a' := ?_) #[true, true, true, true, true, true, true, true, true, true, true, true, true, true, true, true, true, true, true, true, true, true, true, true, true, true, true, false, false, false, false, false, false, false, false, false, false, false, false] rfl rfl (any_of HT_.out zK) (fun _ _ _ h => h) (Or.inl ⟨by rfl, ?_⟩) ?_ ?_
       rotate_left
       ·intro w'
        go_simp
        with_reducible rfl
       rotate_left
       ·simp only [Act.put, List.setIfInBounds_toArray, List.set_cons_zero, List.set_cons_succ, i64_w, i32_w]
        rfl
       refine take_ (i := 27) (N := some 78) (v := ?_) (a' := ?_) #[true, true, true, true, true, true, true, true, true, true, true, true, true, true, true, true, true, true, true, true, true, true, true, true, true, true, true, true, false, false, false, false, false, false, false, false, false, false, false] rfl rfl (take_ofW HT_.out HW_.out zK) (fun _ _ _ h => h) (Or.inl ⟨by rfl, ?_⟩) hHeld ?_ ?_
       rotate_left
       ·rintro w' ⟨s0, s1⟩
        go_simp
        with_reducible rfl
       rotate_left
       ·simp only [Act.put, List.setIfInBounds_toArray, List.set_cons_zero, List.set_cons_succ, i64_w, i32_w]
        rfl
       refine take_ (i := 30) (N := some 81) (v := ?_) (a' := ?_) #[true, true, true, true, true, true, true, true, true, true, true, true, true, true, true, true, true, true, true, true, true, true, true, true, true, true, true, true, false, false, true, false, false, false, false, false, false, false, false] rfl rfl (take_ofW HT_.out HW_.out zK) (fun _ _ _ h => h) (Or.inl ⟨by rfl, ?_⟩) hHeld ?_ ?_
       rotate_left
       ·rintro w' ⟨s0, s1⟩
        go_simp
        with_reducible rfl
       rotate_left
       ·simp only [Act.put, List.setIfInBounds_toArray, List.set_cons_zero, List.set_cons_succ, i64_w, i32_w]
        rfl
       refine one_ (i := 28) (N := some 79) #[true, true, true, true, true, true, true, true, true, true, true, true, true, true, true, true, true, true, true, true, true, true, true, true, true, true, true, true, true, false, true, false, false, false, false, false, false, false, false] rfl rfl (one_of HT_.out zK) (by decide) (fun K hK => ?_)
       refine goes_ Tryd.func10 zK rfl #[.agg #[.float .f64 a0_0, .float .f64 a0_1]] (by rfl) rfl rfl zM ?_
       with_reducible refine (toponymlaw14_Two_z.calls a0_0 a0_1 t228 _ A21.out).mono ?_
       rintro e w47 ⟨rfl, hb⟩
       refine ⟨_, rfl, ?_⟩
       have n0_ := aM (blk_below (g := gb204) (o := .cells #[.float .f64 a0_0, .float .f64 a0_1] 24 (0, 0)) (by (with_reducible repeat (first | refine blk_drewN ?_ _ | refine blk_drew ?_ | refine blk_alloc ?_ _)); exact BK204.out) hb)
       have n1_ := aM (below_step (by repeat (first | (with_reducible first | exact HB.out | apply bA | apply bN | apply bD | refine below_set ?_ GE204.out) | exact HB.out)) hb)
       clear BK204
       clear HB
       have BK204 := n0_
       have HB := n1_
       clear n0_ n1_
       (try clear hb)
       (try clear hb2)
       (try clear hk)
       (try clear hi)
       refine hK.out _ _ ⟨(blk_cell BK204.out 0).trans rfl, (blk_cell BK204.out 1).trans rfl⟩ (fun hHeld => ?_)
       clear hK K
       refine norm_ (a' := ?_) ?_ ?_
       rotate_left
       ·show Act.put _ (some 79) _ = _
        simp only [Act.put, List.setIfInBounds_toArray, List.set_cons_zero, List.set_cons_succ, i64_w, i32_w]
        rfl
       refine one_ (i := 29) (N := some 80) #[true, true, true, true, true, true, true, true, true, true, true, true, true, true, true, true, true, true, true, true, true, true, true, true, true, true, true, true, true, true, true, false, false, false, false, false, false, false, false] rfl rfl (one_of HT_.out zK) (by decide) (fun K hK => ?_)
       refine goes_ Tryd.func18 zK rfl #[.complex .f64 t228.1 t228.2] (by rfl) rfl rfl zM ?_
       with_reducible refine (gauss_Norm.calls t228 t229 _ A22.out).mono ?_
       rintro e w48 ⟨rfl, hb⟩
       refine ⟨_, rfl, ?_⟩
       have n0_ := aM (blk_below (g := gb204) (o := .cells #[.float .f64 a0_0, .float .f64 a0_1] 24 (0, 0)) (by (with_reducible repeat (first | refine blk_drewN ?_ _ | refine blk_drew ?_ | refine blk_alloc ?_ _)); exact BK204.out) hb)
       have n1_ := aM (below_step (by repeat (first | (with_reducible first | exact HB.out | apply bA | apply bN | apply bD | refine below_set ?_ GE204.out) | exact HB.out)) hb)
       clear BK204
       clear HB
       have BK204 := n0_
       have HB := n1_
       clear n0_ n1_
       (try clear hb)
       (try clear hb2)
       (try clear hk)
       (try clear hi)
       refine hK.out _ _ ⟨(blk_cell BK204.out 0).trans rfl, (blk_cell BK204.out 1).trans rfl⟩ (fun hHeld => ?_)
       clear hK K
       refine norm_ (a' := ?_) ?_ ?_
       rotate_left
       ·show Act.put _ (some 80) _ = _
        simp only [Act.put, List.setIfInBounds_toArray, List.set_cons_zero, List.set_cons_succ, i64_w, i32_w]
        rfl
       refine one_ (i := 31) (N := some 82) #[true, true, true, true, true, true, true, true, true, true, true, true, true, true, true, true, true, true, true, true, true, true, true, true, true, true, true, true, true, true, true, true, false, false, false, false, false, false, false] rfl rfl (one_of HT_.out zK) (by decide) (fun K hK => ?_)
       refine goes_ Tryd.func12 zK rfl #[.agg #[.float .f64 a0_0, .float .f64 a0_1]] (by rfl) rfl rfl zM ?_
       with_reducible refine (toponymlaw14_Two_r.calls a0_0 a0_1 t230 t231 _ A23.out).mono ?_
       rintro e w49 ⟨rfl, hb⟩
       refine ⟨_, rfl, ?_⟩
       have n0_ := aM (blk_below (g := gb204) (o := .cells #[.float .f64 a0_0, .float .f64 a0_1] 24 (0, 0)) (by (with_reducible repeat (first | refine blk_drewN ?_ _ | refine blk_drew ?_ | refine blk_alloc ?_ _)); exact BK204.out) hb)
       have n1_ := aM (below_step (by repeat (first | (with_reducible first | exact HB.out | apply bA | apply bN | apply bD | refine below_set ?_ GE204.out) | exact HB.out)) hb)
       clear BK204
       clear HB
       have BK204 := n0_
       have HB := n1_
       clear n0_ n1_
       (try clear hb)
       (try clear hb2)
       (try clear hk)
       (try clear hi)
       refine hK.out _ _ ⟨(blk_cell BK204.out 0).trans rfl, (blk_cell BK204.out 1).trans rfl⟩ (fun hHeld => ?_)
       clear hK K
       refine norm_ (a' := ?_) ?_ ?_
       rotate_left
       ·show Act.put _ (some 82) _ = _
        simp only [Act.put, List.setIfInBounds_toArray, List.set_cons_zero, List.set_cons_succ, i64_w, i32_w]
        rfl
       refine one_ (i := 32) (N := some 83) #[true, true, true, true, true, true, true, true, true, true, true, true, true, true, true, true, true, true, true, true, true, true, true, true, true, true, true, true, true, true, true, true, true, false, false, false, false, false, false] rfl rfl (one_of HT_.out zK) (by decide) (fun K hK => ?_)
       refine goes_ Tryd.func19 zK rfl #[.agg #[.float .f64 t230, .float .f64 t231]] (by rfl) rfl rfl zM ?_
       with_reducible refine (toponymref14_Norm.calls t230 t231 t232 _ A24.out).mono ?_
       rintro e w50 ⟨rfl, hb⟩
       refine ⟨_, rfl, ?_⟩
       have n0_ := aM (blk_below (g := gb204) (o := .cells #[.float .f64 a0_0, .float .f64 a0_1] 24 (0, 0)) (by (with_reducible repeat (first | refine blk_drewN ?_ _ | refine blk_drew ?_ | refine blk_alloc ?_ _)); exact BK204.out) hb)
       have n1_ := aM (below_step (by repeat (first | (with_reducible first | exact HB.out | apply bA | apply bN | apply bD | refine below_set ?_ GE204.out) | exact HB.out)) hb)
       clear BK204
       clear HB
       have BK204 := n0_
       have HB := n1_
       clear n0_ n1_
       (try clear hb)
       (try clear hb2)
       (try clear hk)
       (try clear hi)
       refine hK.out _ _ ⟨(blk_cell BK204.out 0).trans rfl, (blk_cell BK204.out 1).trans rfl⟩ (fun hHeld => ?_)
       clear hK K
       refine norm_ (a' := ?_) ?_ ?_
       rotate_left
       ·show Act.put _ (some 83) _ = _
        simp only [Act.put, List.setIfInBounds_toArray, List.set_cons_zero, List.set_cons_succ, i64_w, i32_w]
        rfl
       refine pure_ (i := 33) (N := some 84) (v := ?_) (a' := ?_) #[true, true, true, true, true, true, true, true, true, true, true, true, true, true, true, true, true, true, true, true, true, true, true, true, true, true, true, true, true, true, true, true, true, true, false, false, false, false, false] rfl rfl (any_of HT_.out zK) (fun _ _ _ h => h) (Or.inl ⟨by rfl, ?_⟩) ?_ ?_
       rotate_left
       ·intro w'
        go_simp
        with_reducible rfl
       rotate_left
       ·simp only [Act.put, List.setIfInBounds_toArray, List.set_cons_zero, List.set_cons_succ, i64_w, i32_w]
        rfl
       refine pure_ (i := 34) (N := some 85) (v := ?_) (a' := ?_) #[true, true, true, true, true, true, true, true, true, true, true, true, true, true, true, true, true, true, true, true, true, true, true, true, true, true, true, true, true, true, true, true, true, true, true, false, false, false, false] rfl rfl (any_of HT_.out zK) (fun _ _ _ h => h) (Or.inl ⟨by rfl, ?_⟩) ?_ ?_
       rotate_left
       ·intro w'
        go_simp
        with_reducible rfl
       rotate_left
       ·simp only [Act.put, List.setIfInBounds_toArray, List.set_cons_zero, List.set_cons_succ, i64_w, i32_w]
        rfl
       refine pure_ (i := 35) (N := some 86) (v := ?_) (a' := ?_) #[true, true, true, true, true, true, true, true, true, true, true, true, true, true, true, true, true, true, true, true, true, true, true, true, true, true, true, true, true, true, true, true, true, true, true, true, false, false, false] rfl rfl (any_of HT_.out zK) (fun _ _ _ h => h) (Or.inl ⟨by rfl, ?_⟩) ?_ ?_
       rotate_left
       ·intro w'
        go_simp
        with_reducible rfl
       rotate_left
       ·simp only [Act.put, List.setIfInBounds_toArray, List.set_cons_zero, List.set_cons_succ, i64_w, i32_w]
        rfl
       refine one_ (i := 36) (N := some 87) #[true, true, true, true, true, true, true, true, true, true, true, true, true, true, true, true, true, true, true, true, true, true, true, true, true, true, true, true, true, true, true, true, true, true, true, true, true, false, false] rfl rfl (one_of HT_.out zK) (by decide) (fun K hK => ?_)
       refine goes_ Tryd.func20 zK rfl #[] (by rfl) rfl rfl zM ?_
       with_reducible refine (toponymlaw14_awake.calls k  t233 _ (zEnv HE) A26.out).mono ?_
       rintro e w51 ⟨rfl, hb⟩
       refine ⟨_, rfl, ?_⟩
       have n0_ := aM (blk_below (g := gb204) (o := .cells #[.float .f64 a0_0, .float .f64 a0_1] 24 (0, 0)) (by (with_reducible repeat (first | refine blk_drewN ?_ _ | refine blk_drew ?_ | refine blk_alloc ?_ _)); exact BK204.out) hb)
       have n1_ := aM (below_step (by repeat (first | (with_reducible first | exact HB.out | apply bA | apply bN | apply bD | refine below_set ?_ GE204.out) | exact HB.out)) hb)
       clear BK204
       clear HB
       have BK204 := n0_
       have HB := n1_
       clear n0_ n1_
       (try clear hb)
       (try clear hb2)
       (try clear hk)
       (try clear hi)
       refine hK.out _ _ ⟨(blk_cell BK204.out 0).trans rfl, (blk_cell BK204.out 1).trans rfl⟩ (fun hHeld => ?_)
       clear hK K
       refine norm_ (a' := ?_) ?_ ?_
       rotate_left
       ·show Act.put _ (some 87) _ = _
        simp only [Act.put, List.setIfInBounds_toArray, List.set_cons_zero, List.set_cons_succ, i64_w, i32_w]
        rfl
       refine pure_ (i := 37) (N := some 88) (v := ?_) (a' := ?_) #[true, true, true, true, true, true, true, true, true, true, true, true, true, true, true, true, true, true, true, true, true, true, true, true, true, true, true, true, true, true, true, true, true, true, true, true, true, true, false] rfl rfl (any_of HT_.out zK) (fun _ _ _ h => h) (Or.inl ⟨by rfl, ?_⟩) ?_ ?_
       rotate_left
       ·intro w'
        go_simp
        with_reducible rfl
       rotate_left
       ·simp only [Act.put, List.setIfInBounds_toArray, List.set_cons_zero, List.set_cons_succ, i64_w, i32_w]
        rfl
       refine pure_ (i := 38) (N := some 4) (v := ?_) (a' := ?_) #[true, true, true, true, true, true, true, true, true, true, true, true, true, true, true, true, true, true, true, true, true, true, true, true, true, true, true, true, true, true, true, true, true, true, true, true, true, true, true] rfl rfl (any_of HT_.out zK) (fun _ _ _ h => h) (Or.inl ⟨by rfl, ?_⟩) ?_ ?_
       rotate_left
       ·intro w'
        go_simp
        with_reducible rfl
       rotate_left
       ·simp only [Act.put, List.setIfInBounds_toArray, List.set_cons_zero, List.set_cons_succ, i64_w, i32_w]
        rfl
       refine done_ (done_of HT_.out zK) ?_
       try go_wp2
       go_ret
       exact ⟨zE, by repeat (first | (with_reducible first | exact HB.out | apply bA | apply bN | apply bD | refine below_set ?_ GE204.out) | exact HB.out)⟩
      ·rw [if_neg c25] at H
       exact absurd ((sI H).trans hT.out) (by decide)
     ·rw [if_neg c20] at H
      exact absurd ((sI H).trans hT.out) (by decide)
    ·rw [if_neg c17] at H
     exact absurd ((sI H).trans hT.out) (by decide)
   ·replace c16 := Bool.eq_false_iff.mpr c16
    subst c16
    rw [if_neg (show ¬ (false = true) by decide)] at H
    exact absurd ((sI H).trans hT.out) (by decide)
  ·rw [if_neg c14] at H
   exact absurd ((sI H).trans hT.out) (by decide)
 ·rw [if_neg c13] at H
  exact absurd ((sI H).trans hT.out) (by decide)
/-! ### toponymref14_take: function 38 -/
mutual
def toponymref14_take.j0 : Nat → ByteArray → Int → Int → Bool → Option (Int × Int)
 | 0, _, _, _, _ => none
 | k + 1, x0, x1, x6, x17 => if x17 = true then (toponymref14_take.j1 k x0 (wrap64 (x1 + 1)) (-1)) else (toponymref14_take.j1 k x0 x1 x6)
def toponymref14_take.j1 : Nat → ByteArray → Int → Int → Option (Int × Int)
 | 0, _, _, _ => none
 | k + 1, x0, x1, x6 => toponymref14_take.l0 k x0 x1 x6 0
def toponymref14_take.l0 : Nat → ByteArray → Int → Int → Int → Option (Int × Int)
 | 0, _, _, _, _ => none
 | k + 1, x0, x1, x6, x7 => if x1 < (x0.size : Int) then (if 0 ≤ x1 then (if (bt x0 x1) ≥ 48 then (if (bt x0 x1) ≤ 57 then (if x7 < 1000000 then (toponymref14_take.l0 k x0 (wrap64 (x1 + 1)) x6 (wrap64 ((wrap64 ((wrap64 (10 * x7)) + (wrap64 (bt x0 x1)))) - 48))) else (some (wrap64 (x6 * x7), x1))) else (some (wrap64 (x6 * x7), x1))) else (some (wrap64 (x6 * x7), x1))) else (none)) else (some (wrap64 (x6 * x7), x1))
end
def toponymref14_take.f (k : Nat) (a0 : ByteArray) (a1 : Int) : Option (Int × Int) := if a1 < (a0.size : Int) then (if 0 ≤ a1 then (toponymref14_take.j0 k a0 a1 1 ((bt a0 a1) == 45)) else (none)) else (toponymref14_take.j0 k a0 a1 1 false)
theorem toponymref14_take.mono_l : ∀ k, (∀ y0 y1 y2 y3, LeO (toponymref14_take.j0 k y0 y1 y2 y3) (toponymref14_take.j0 (k + 1) y0 y1 y2 y3)) ∧ (∀ y0 y1 y2, LeO (toponymref14_take.j1 k y0 y1 y2) (toponymref14_take.j1 (k + 1) y0 y1 y2)) ∧ (∀ y0 y1 y2 y3, LeO (toponymref14_take.l0 k y0 y1 y2 y3) (toponymref14_take.l0 (k + 1) y0 y1 y2 y3))
 | 0 => ⟨fun _ _ _ _ r h => by simp [toponymref14_take.j0] at h, fun _ _ _ r h => by simp [toponymref14_take.j1] at h, fun _ _ _ _ r h => by simp [toponymref14_take.l0] at h⟩
 | k + 1 => by
  obtain ⟨ih0, ih1, ih2⟩ := toponymref14_take.mono_l k
  refine ⟨?_, ?_, ?_⟩
  ·intro y0 y1 y2 y3
   unfold toponymref14_take.j0
   repeat' first
   | (with_reducible exact ih0 _ _ _ _)
   | (with_reducible exact ih1 _ _ _)
   | (with_reducible exact ih2 _ _ _ _)
   | (with_reducible exact LeO.refl _)
   | exact ih0 _ _ _ _
   | exact ih1 _ _ _
   | exact ih2 _ _ _ _
   | exact LeO.none _
   | refine LeO.ite ?_ ?_
   | refine LeO.bind ?_ (fun _ => ?_)
  ·intro y0 y1 y2
   unfold toponymref14_take.j1
   repeat' first
   | (with_reducible exact ih0 _ _ _ _)
   | (with_reducible exact ih1 _ _ _)
   | (with_reducible exact ih2 _ _ _ _)
   | (with_reducible exact LeO.refl _)
   | exact ih0 _ _ _ _
   | exact ih1 _ _ _
   | exact ih2 _ _ _ _
   | exact LeO.none _
   | refine LeO.ite ?_ ?_
   | refine LeO.bind ?_ (fun _ => ?_)
  ·intro y0 y1 y2 y3
   unfold toponymref14_take.l0
   repeat' first
   | (with_reducible exact ih0 _ _ _ _)
   | (with_reducible exact ih1 _ _ _)
   | (with_reducible exact ih2 _ _ _ _)
   | (with_reducible exact LeO.refl _)
   | exact ih0 _ _ _ _
   | exact ih1 _ _ _
   | exact ih2 _ _ _ _
   | exact LeO.none _
   | refine LeO.ite ?_ ?_
   | refine LeO.bind ?_ (fun _ => ?_)
theorem toponymref14_take.mono : ∀ a0 a1 k, LeO (toponymref14_take.f k a0 a1) (toponymref14_take.f (k + 1) a0 a1) := by
 intro a0 a1 k
 obtain ⟨ih0, ih1, ih2⟩ := toponymref14_take.mono_l k
 unfold toponymref14_take.f
 repeat' first
   | (with_reducible exact ih0 _ _ _ _)
   | (with_reducible exact ih1 _ _ _)
   | (with_reducible exact ih2 _ _ _ _)
   | (with_reducible exact LeO.refl _)
   | exact ih0 _ _ _ _
   | exact ih1 _ _ _
   | exact ih2 _ _ _ _
   | exact LeO.none _
   | refine LeO.ite ?_ ?_
   | refine LeO.bind ?_ (fun _ => ?_)
set_option maxHeartbeats 8000000 in
set_option maxRecDepth 100000 in
theorem toponymref14_take.calls (k : Nat) (a0 : ByteArray) (a1 : Int) (r1 : Int) (r2 : Int) (w : World) (h : toponymref14_take.f k a0 a1 = some (r1, r2)) :
  Calls Tryd.prog 38 #[.string a0, .int .i64 a1] w fun e w' => e = .returned (.tuple #[.int .i64 r1, .int .i64 r2]) ∧ Drawn0 w w' := by
 have H := h
 clear h
 unfold toponymref14_take.f at H
 have HC3 := aM H
 clear H
 go_enter Tryd.func38, Tryd.ntmps38
 go_upto_region 2 with (fail)
 go_cut [17] (fun v17 wc => ∃ (kq : Nat) (x17_2 : Bool), v17 = .bool x17_2 ∧ Aside0 (toponymref14_take.j0 kq a0 a1 1 x17_2 = some (r1, r2)) ∧ Aside0 (kq ≤ k) ∧ Drawn0 w wc)
 case first =>
  have H := HC3.out
  clear HC3
  by_cases c4 : a1 < (a0.size : Int)
  ·rw [if_pos c4] at H
   have c4b0 : decide (a1 < (a0.size : Int)) = true := decide_eq_true c4
   clear c4
   (first | rw [c4b0] | (simp only [i64_w, i32_w]; rw [c4b0]) | skip)
   by_cases c5 : 0 ≤ a1
   ·rw [if_pos c5] at H
    have c5b0 : decide (0 ≤ a1) = true := decide_eq_true c5
    clear c5
    have H' := aM H
    clear H
    have p6 : 0 ≤ (a1 : Int) := zoA
    have q6 : a1 < (a0.size : Int) := zoA
    have hx6 := bt_at a0 a1
    replace p6 := eq_true p6
    replace q6 := eq_true q6
    go_wp2
    go_meet
    case rel => exact ⟨_, (((bt a0 a1) == 45)), zP, H', ⟨by first | omega | exact Nat.le_refl _⟩, zD⟩
   ·rw [if_neg c5] at H
    exact absurd H (by simp)
  ·rw [if_neg c4] at H
   have c4b0 : decide (a1 < (a0.size : Int)) = false := decide_eq_false c4
   clear c4
   (first | rw [c4b0] | (simp only [i64_w, i32_w]; rw [c4b0]) | skip)
   have H' := aM H
   clear H
   go_wp2
   go_meet
   case rel => exact ⟨_, (false), zP, H', ⟨by first | omega | exact Nat.le_refl _⟩, zD⟩
 case rest =>
  clear HC3
  try clear p2
  try clear c3
  try clear c4
  try clear c4b0
  try clear c5
  try clear c5b0
  try clear p6
  try clear q6
  try clear hx6
  try clear p6
  try clear q6
  obtain ⟨kq, x17_2, rfl, HA, HJ2, ⟨mc2, rfl⟩⟩ := hcut
  cases kq with
  | zero => exact absurd HA.out (by simp [toponymref14_take.j0])
  | succ kj2 =>
   have H := HA.out
   clear HA
   simp only [toponymref14_take.j0] at H
   have HC7 := aM H
   clear H
   go_upto_if 17 with (fail)
   go_cut [1, 6] (fun v1 v6 wc => ∃ (kq : Nat) (x1_6 : Int) (x6_6 : Int), v1 = .int .i64 x1_6 ∧ v6 = .int .i64 x6_6 ∧ Aside0 (toponymref14_take.j1 kq a0 x1_6 x6_6 = some (r1, r2)) ∧ Aside0 (kq ≤ kj2) ∧ Drawn0 w wc)
   case first =>
    have H := HC7.out
    clear HC7
    by_cases c8 : x17_2 = true
    ·subst c8
     rw [if_pos rfl] at H
     have H' := aM H
     clear H
     go_wp2
     go_meet
     case rel => exact ⟨_, (wrap64 (a1 + 1)), ((-1)), zP, zP, H', ⟨by have := HJ2.out; first | omega | exact Nat.le_refl _⟩, zD⟩
    ·replace c8 := Bool.eq_false_iff.mpr c8
     subst c8
     rw [if_neg (show ¬ (false = true) by decide)] at H
     have H' := aM H
     clear H
     go_wp2
     go_meet
     case rel => exact ⟨_, (a1), (1), zP, zP, H', ⟨by have := HJ2.out; first | omega | exact Nat.le_refl _⟩, zD⟩
   case rest =>
    clear HC7
    try clear c2
    try clear p2
    try clear c3
    try clear c4
    try clear c4b0
    try clear c5
    try clear c5b0
    try clear p6
    try clear q6
    try clear hx6
    try clear c8
    try clear p2
    try clear p6
    try clear q6
    obtain ⟨kq, x1_6, x6_6, rfl, rfl, HA, HJ6, ⟨mc6, rfl⟩⟩ := hcut
    cases kq with
    | zero => exact absurd HA.out (by simp [toponymref14_take.j1])
    | succ kj6 =>
     have H := HA.out
     clear HA
     simp only [toponymref14_take.j1] at H
     have H' := aM H
     clear H
     go_wp2
     go_loopg [1, 7] kj6 (fun kq v1 v7 w' => ∃ (x1_3 : Int) (x7_3 : Int), v1 = .int .i64 x1_3 ∧ v7 = .int .i64 x7_3 ∧ Aside0 (toponymref14_take.l0 kq a0 x1_3 x6_6 x7_3 = some (r1, r2)) ∧ Aside0 (kq ≤ kj6) ∧ Drawn0 w w')
     case atStart => exact ⟨(x1_6), (0), zP, zP, H', ⟨Nat.le_refl _⟩, zD⟩
     case round =>
      clear H'
      try clear c2
      try clear p2
      try clear c3
      try clear c4
      try clear c4b0
      try clear c5
      try clear c5b0
      try clear c6
      try clear p6
      try clear q6
      try clear hx6
      try clear c8
      try clear p2
      try clear p6
      try clear q6
      obtain ⟨x1_3, x7_3, rfl, rfl, HA, HK3, ⟨m3, rfl⟩⟩ := hrel
      cases gk with
      | zero => exact absurd HA.out (by simp [toponymref14_take.l0])
      | succ k3 =>
       have H := HA.out
       clear HA
       simp only [toponymref14_take.l0] at H
       by_cases c9 : x1_3 < (a0.size : Int)
       ·rw [if_pos c9] at H
        have c9b0 : decide (x1_3 < (a0.size : Int)) = true := decide_eq_true c9
        clear c9
        by_cases c10 : 0 ≤ x1_3
        ·rw [if_pos c10] at H
         have c10b0 : decide (0 ≤ x1_3) = true := decide_eq_true c10
         clear c10
         by_cases c12 : (bt a0 x1_3) ≥ 48
         ·rw [if_pos c12] at H
          have c12b0 : decide (48 ≤ (bt a0 x1_3)) = true := decide_eq_true c12
          clear c12
          by_cases c14 : (bt a0 x1_3) ≤ 57
          ·rw [if_pos c14] at H
           have c14b0 : decide ((bt a0 x1_3) ≤ 57) = true := decide_eq_true c14
           clear c14
           by_cases c15 : x7_3 < 1000000
           ·rw [if_pos c15] at H
            have c15b0 : decide (x7_3 < 1000000) = true := decide_eq_true c15
            clear c15
            have H' := aM H
            clear H
            have p11 : 0 ≤ (x1_3 : Int) := zoA
            have q11 : x1_3 < (a0.size : Int) := zoA
            have hx11 := bt_at a0 x1_3
            replace p11 := eq_true p11
            replace q11 := eq_true q11
            have p13 : 0 ≤ (x1_3 : Int) := zoA
            have q13 : x1_3 < (a0.size : Int) := zoA
            have hx13 := bt_at a0 x1_3
            replace p13 := eq_true p13
            replace q13 := eq_true q13
            have p16 : 0 ≤ (x1_3 : Int) := zoA
            have q16 : x1_3 < (a0.size : Int) := zoA
            have hx16 := bt_at a0 x1_3
            replace p16 := eq_true p16
            replace q16 := eq_true q16
            go_wp2
            go_roundg k3
            case measure => have := HJ2.out; have := HJ6.out; have := HK3.out; omega
            case rel => exact ⟨(wrap64 (x1_3 + 1)), (wrap64 ((wrap64 ((wrap64 (10 * x7_3)) + (wrap64 (bt a0 x1_3)))) - 48)), zP, zP, H', ⟨by have := HJ2.out; have := HJ6.out; have := HK3.out; omega⟩, zD⟩
           ·rw [if_neg c15] at H
            have c15b0 : decide (x7_3 < 1000000) = false := decide_eq_false c15
            clear c15
            simp only [Option.some.injEq, Prod.mk.injEq] at H
            obtain ⟨rfl, rfl⟩ := H
            have p11 : 0 ≤ (x1_3 : Int) := zoA
            have q11 : x1_3 < (a0.size : Int) := zoA
            have hx11 := bt_at a0 x1_3
            replace p11 := eq_true p11
            replace q11 := eq_true q11
            have p13 : 0 ≤ (x1_3 : Int) := zoA
            have q13 : x1_3 < (a0.size : Int) := zoA
            have hx13 := bt_at a0 x1_3
            replace p13 := eq_true p13
            replace q13 := eq_true q13
            go_wp2
            go_ret2
            exact ⟨zP, zD⟩
          ·rw [if_neg c14] at H
           have c14b0 : decide ((bt a0 x1_3) ≤ 57) = false := decide_eq_false c14
           clear c14
           simp only [Option.some.injEq, Prod.mk.injEq] at H
           obtain ⟨rfl, rfl⟩ := H
           have p11 : 0 ≤ (x1_3 : Int) := zoA
           have q11 : x1_3 < (a0.size : Int) := zoA
           have hx11 := bt_at a0 x1_3
           replace p11 := eq_true p11
           replace q11 := eq_true q11
           have p13 : 0 ≤ (x1_3 : Int) := zoA
           have q13 : x1_3 < (a0.size : Int) := zoA
           have hx13 := bt_at a0 x1_3
           replace p13 := eq_true p13
           replace q13 := eq_true q13
           go_wp2
           go_ret2
           exact ⟨zP, zD⟩
         ·rw [if_neg c12] at H
          have c12b0 : decide (48 ≤ (bt a0 x1_3)) = false := decide_eq_false c12
          clear c12
          simp only [Option.some.injEq, Prod.mk.injEq] at H
          obtain ⟨rfl, rfl⟩ := H
          have p11 : 0 ≤ (x1_3 : Int) := zoA
          have q11 : x1_3 < (a0.size : Int) := zoA
          have hx11 := bt_at a0 x1_3
          replace p11 := eq_true p11
          replace q11 := eq_true q11
          go_wp2
          go_ret2
          exact ⟨zP, zD⟩
        ·rw [if_neg c10] at H
         exact absurd H (by simp)
       ·rw [if_neg c9] at H
        have c9b0 : decide (x1_3 < (a0.size : Int)) = false := decide_eq_false c9
        clear c9
        simp only [Option.some.injEq, Prod.mk.injEq] at H
        obtain ⟨rfl, rfl⟩ := H
        go_wp2
        go_ret2
        exact ⟨zP, zD⟩

/-! ### toponymref14_Parse: function 22 -/
mutual
def toponymref14_Parse.j0 : Nat → ByteArray → Int → Int → Int → Int → Bool → Option (Int × Int × Int)
 | 0, _, _, _, _, _, _ => none
 | k + 1, x0, x5, x6, x7, x8, x24 => if x24 = true then (if x5 < (-999999) then (some (0, 0, 140)) else (if x5 > 999999 then (some (0, 0, 140)) else ((toponymref14_Text.f k 0 x5).bind fun t236 => (if t236.toList = x0.toList then (some (0, x5, 0)) else (some (0, 0, 140)))))) else (if x6 < (x0.size : Int) then (if 0 ≤ x6 then (if (bt x0 x6) = 43 then (toponymref14_Parse.j1 k x0 (wrap64 (x6 + 1)) x7) else (toponymref14_Parse.j1 k x0 x6 x7)) else (none)) else (if x7 < (-999999) then (some (0, 0, 140)) else (if x7 > 999999 then (some (0, 0, 140)) else (if x8 < (-999999) then (some (0, 0, 140)) else (if x8 > 999999 then (some (0, 0, 140)) else ((toponymref14_Text.f k x7 x8).bind fun t240 => (if t240.toList = x0.toList then (some (x7, x8, 0)) else (some (0, 0, 140)))))))))
def toponymref14_Parse.j1 : Nat → ByteArray → Int → Int → Option (Int × Int × Int)
 | 0, _, _, _ => none
 | k + 1, x0, x6, x7 => (toponymref14_take.f k x0 x6).bind fun bt237 => (if x7 < (-999999) then (some (0, 0, 140)) else (if x7 > 999999 then (some (0, 0, 140)) else (if bt237.1 < (-999999) then (some (0, 0, 140)) else (if bt237.1 > 999999 then (some (0, 0, 140)) else ((toponymref14_Text.f k x7 bt237.1).bind fun t239 => (if t239.toList = x0.toList then (some (x7, bt237.1, 0)) else (some (0, 0, 140))))))))
end
def toponymref14_Parse.f (k : Nat) (a0 : ByteArray) : Option (Int × Int × Int) := (toponymref14_take.f k a0 0).bind fun bt234 => (if bt234.2 < (a0.size : Int) then (if 0 ≤ bt234.2 then (toponymref14_Parse.j0 k a0 bt234.1 bt234.2 bt234.1 0 ((bt a0 bt234.2) == 105)) else (none)) else (toponymref14_Parse.j0 k a0 bt234.1 bt234.2 bt234.1 0 false))
theorem toponymref14_Parse.mono_l : ∀ k, (∀ y0 y1 y2 y3 y4 y5, LeO (toponymref14_Parse.j0 k y0 y1 y2 y3 y4 y5) (toponymref14_Parse.j0 (k + 1) y0 y1 y2 y3 y4 y5)) ∧ (∀ y0 y1 y2, LeO (toponymref14_Parse.j1 k y0 y1 y2) (toponymref14_Parse.j1 (k + 1) y0 y1 y2))
 | 0 => ⟨fun _ _ _ _ _ _ r h => by simp [toponymref14_Parse.j0] at h, fun _ _ _ r h => by simp [toponymref14_Parse.j1] at h⟩
 | k + 1 => by
  obtain ⟨ih0, ih1⟩ := toponymref14_Parse.mono_l k
  refine ⟨?_, ?_⟩
  ·intro y0 y1 y2 y3 y4 y5
   unfold toponymref14_Parse.j0
   repeat' first
   | (with_reducible exact ih0 _ _ _ _ _ _)
   | (with_reducible exact ih1 _ _ _)
   | (with_reducible exact toponymref14_Text.mono _ _ _)
   | (with_reducible exact toponymref14_take.mono _ _ _)
   | (with_reducible exact LeO.refl _)
   | exact ih0 _ _ _ _ _ _
   | exact ih1 _ _ _
   | exact toponymref14_Text.mono _ _ _
   | exact toponymref14_take.mono _ _ _
   | exact LeO.none _
   | refine LeO.ite ?_ ?_
   | refine LeO.bind ?_ (fun _ => ?_)
  ·intro y0 y1 y2
   unfold toponymref14_Parse.j1
   repeat' first
   | (with_reducible exact ih0 _ _ _ _ _ _)
   | (with_reducible exact ih1 _ _ _)
   | (with_reducible exact toponymref14_Text.mono _ _ _)
   | (with_reducible exact toponymref14_take.mono _ _ _)
   | (with_reducible exact LeO.refl _)
   | exact ih0 _ _ _ _ _ _
   | exact ih1 _ _ _
   | exact toponymref14_Text.mono _ _ _
   | exact toponymref14_take.mono _ _ _
   | exact LeO.none _
   | refine LeO.ite ?_ ?_
   | refine LeO.bind ?_ (fun _ => ?_)
theorem toponymref14_Parse.mono : ∀ a0 k, LeO (toponymref14_Parse.f k a0) (toponymref14_Parse.f (k + 1) a0) := by
 intro a0 k
 obtain ⟨ih0, ih1⟩ := toponymref14_Parse.mono_l k
 unfold toponymref14_Parse.f
 repeat' first
   | (with_reducible exact ih0 _ _ _ _ _ _)
   | (with_reducible exact ih1 _ _ _)
   | (with_reducible exact toponymref14_Text.mono _ _ _)
   | (with_reducible exact toponymref14_take.mono _ _ _)
   | (with_reducible exact LeO.refl _)
   | exact ih0 _ _ _ _ _ _
   | exact ih1 _ _ _
   | exact toponymref14_Text.mono _ _ _
   | exact toponymref14_take.mono _ _ _
   | exact LeO.none _
   | refine LeO.ite ?_ ?_
   | refine LeO.bind ?_ (fun _ => ?_)
set_option maxHeartbeats 8000000 in
set_option maxRecDepth 100000 in
theorem toponymref14_Parse.calls (k : Nat) (a0 : ByteArray) (r1 : Int) (r2 : Int) (r3 : Int) (w : World) (h : toponymref14_Parse.f k a0 = some (r1, r2, r3)) :
  Calls Tryd.prog 22 #[.string a0] w fun e w' => e = .returned (.tuple #[.int .i64 r1, .int .i64 r2, .int .i64 r3]) ∧ Below w.heap.size w w' := by
 have HB := aM (Below.refl w.heap.size w)
 have H := h
 clear h
 unfold toponymref14_Parse.f at H
 obtain ⟨⟨t234, t235⟩, A2, H⟩ := zO H
 try dsimp only at H
 have HC3 := aM H
 clear H
 go_enter Tryd.func22, Tryd.ntmps22
 go_upto_region 3 with (first | ((with_reducible refine gate_callee (f := 38) rfl ?_); refine goesL_ (some 11) rfl rfl Tryd.func38 zK rfl #[.string a0, .int .i64 0] rfl zM ?_; (with_reducible refine (toponymref14_take.calls k a0 0 t234 t235 _ A2.out).mono ?_); rintro e w' ⟨rfl, ⟨nd, rfl⟩⟩; (try clear A2); refine ⟨_, rfl, ?_⟩))
 (try simp only [Act.put, List.setIfInBounds_toArray, List.set_cons_zero, List.set_cons_succ])
 go_cut [24] (fun v24 wc => ∃ (kq : Nat) (x24_2 : Bool), v24 = .bool x24_2 ∧ Aside0 (toponymref14_Parse.j0 kq a0 t234 t235 t234 0 x24_2 = some (r1, r2, r3)) ∧ Aside0 (kq ≤ k) ∧ Aside0 (Below w.heap.size w wc))
 case first =>
  have H := HC3.out
  clear HC3
  by_cases c4 : t235 < (a0.size : Int)
  ·rw [if_pos c4] at H
   have c4b0 : decide (t235 < (a0.size : Int)) = true := decide_eq_true c4
   clear c4
   (first | rw [c4b0] | (simp only [i64_w, i32_w]; rw [c4b0]) | skip)
   by_cases c5 : 0 ≤ t235
   ·rw [if_pos c5] at H
    have c5b0 : decide (0 ≤ t235) = true := decide_eq_true c5
    clear c5
    have H' := aM H
    clear H
    have p6 : 0 ≤ (t235 : Int) := zoA
    have q6 : t235 < (a0.size : Int) := zoA
    have hx6 := bt_at a0 t235
    replace p6 := eq_true p6
    replace q6 := eq_true q6
    go_wp2
    go_meet
    case rel => exact ⟨_, (((bt a0 t235) == 105)), zP, H', ⟨by first | omega | exact Nat.le_refl _⟩, ⟨zB⟩⟩
   ·rw [if_neg c5] at H
    exact absurd H (by simp)
  ·rw [if_neg c4] at H
   have c4b0 : decide (t235 < (a0.size : Int)) = false := decide_eq_false c4
   clear c4
   (first | rw [c4b0] | (simp only [i64_w, i32_w]; rw [c4b0]) | skip)
   have H' := aM H
   clear H
   go_wp2
   go_meet
   case rel => exact ⟨_, (false), zP, H', ⟨by first | omega | exact Nat.le_refl _⟩, ⟨zB⟩⟩
 case rest =>
  clear HC3
  try clear c2
  try clear p2
  try clear c3
  try clear c4
  try clear c4b0
  try clear c5
  try clear c5b0
  try clear p6
  try clear q6
  try clear hx6
  try clear p6
  try clear q6
  obtain ⟨kq, x24_2, rfl, HA, HJ2, HB⟩ := hcut
  cases kq with
  | zero => exact absurd HA.out (by simp [toponymref14_Parse.j0])
  | succ kj2 =>
   have H := HA.out
   clear HA
   simp only [toponymref14_Parse.j0] at H
   by_cases c7 : x24_2 = true
   ·subst c7
    rw [if_pos rfl] at H
    by_cases c8 : t234 < (-999999)
    ·rw [if_pos c8] at H
     have c8b0 : decide (t234 < (-999999)) = true := decide_eq_true c8
     clear c8
     simp only [Option.some.injEq, Prod.mk.injEq] at H
     obtain ⟨rfl, rfl, rfl⟩ := H
     go_wp2
     go_ret3
     exact ⟨zE, zB⟩
    ·rw [if_neg c8] at H
     have c8b0 : decide (t234 < (-999999)) = false := decide_eq_false c8
     clear c8
     by_cases c9 : t234 > 999999
     ·rw [if_pos c9] at H
      have c9b0 : decide (999999 < t234) = true := decide_eq_true c9
      clear c9
      simp only [Option.some.injEq, Prod.mk.injEq] at H
      obtain ⟨rfl, rfl, rfl⟩ := H
      go_wp2
      go_ret3
      exact ⟨zE, zB⟩
     ·rw [if_neg c9] at H
      have c9b0 : decide (999999 < t234) = false := decide_eq_false c9
      clear c9
      obtain ⟨t236, A10, H⟩ := zO H
      by_cases c11 : t236.toList = a0.toList
      ·rw [if_pos c11] at H
       have c11b0 : (t236.toList == a0.toList) = true := beq_iff_eq.mpr c11
       have c11b1 : (t236.toList != a0.toList) = false := bne_eq_false_iff_eq.mpr c11
       clear c11
       simp only [Option.some.injEq, Prod.mk.injEq] at H
       obtain ⟨rfl, rfl, rfl⟩ := H
       go_wp2_with (first | (go_at_call 31; (with_reducible refine (toponymref14_Text.calls kj2 0 t234 t236 _ A10.out).mono ?_); rintro e w12 ⟨rfl, hb⟩; (try clear A10); replace HB := aM (below_step zB hb); (try clear hb)))
       go_ret3
       exact ⟨zE, zB⟩
      ·rw [if_neg c11] at H
       have c11b0 : (t236.toList == a0.toList) = false := beq_eq_false_iff_ne.mpr c11
       have c11b1 : (t236.toList != a0.toList) = true := bne_iff_ne.mpr c11
       simp only [Option.some.injEq, Prod.mk.injEq] at H
       obtain ⟨rfl, rfl, rfl⟩ := H
       go_wp2_with (first | (go_at_call 31; (with_reducible refine (toponymref14_Text.calls kj2 0 t234 t236 _ A10.out).mono ?_); rintro e w13 ⟨rfl, hb⟩; (try clear A10); replace HB := aM (below_step zB hb); (try clear hb)))
       go_ret3
       exact ⟨zE, zB⟩
   ·replace c7 := Bool.eq_false_iff.mpr c7
    subst c7
    rw [if_neg (show ¬ (false = true) by decide)] at H
    by_cases c14 : t235 < (a0.size : Int)
    ·rw [if_pos c14] at H
     have c14b0 : decide (t235 < (a0.size : Int)) = true := decide_eq_true c14
     clear c14
     by_cases c15 : 0 ≤ t235
     ·rw [if_pos c15] at H
      have c15b0 : decide (0 ≤ t235) = true := decide_eq_true c15
      clear c15
      have HC17 := aM H
      clear H
      have p16 : 0 ≤ (t235 : Int) := zoA
      have q16 : t235 < (a0.size : Int) := zoA
      have hx16 := bt_at a0 t235
      replace p16 := eq_true p16
      replace q16 := eq_true q16
      go_upto_if 33 with (fail)
      go_cut [6] (fun v6 wc => ∃ (kq : Nat) (x6_16 : Int), v6 = .int .i64 x6_16 ∧ Aside0 (toponymref14_Parse.j1 kq a0 x6_16 t234 = some (r1, r2, r3)) ∧ Aside0 (kq ≤ kj2) ∧ Aside0 (Below w.heap.size w wc))
      case first =>
       have H := HC17.out
       clear HC17
       by_cases c18 : (bt a0 t235) = 43
       ·rw [if_pos c18] at H
        have c18b0 : ((bt a0 t235) == 43) = true := beq_iff_eq.mpr c18
        have c18b1 : ((bt a0 t235) != 43) = false := bne_eq_false_iff_eq.mpr c18
        clear c18
        (first | rw [c18b0] | (simp only [i64_w, i32_w]; rw [c18b0]) | skip)
        have H' := aM H
        clear H
        go_wp2
        go_meet
        case rel => exact ⟨_, (wrap64 (t235 + 1)), zP, H', ⟨by have := HJ2.out; first | omega | exact Nat.le_refl _⟩, ⟨zB⟩⟩
       ·rw [if_neg c18] at H
        have c18b0 : ((bt a0 t235) == 43) = false := beq_eq_false_iff_ne.mpr c18
        have c18b1 : ((bt a0 t235) != 43) = true := bne_iff_ne.mpr c18
        (first | rw [c18b0] | (simp only [i64_w, i32_w]; rw [c18b0]) | skip)
        have H' := aM H
        clear H
        go_wp2
        go_meet
        case rel => exact ⟨_, (t235), zP, H', ⟨by have := HJ2.out; first | omega | exact Nat.le_refl _⟩, ⟨zB⟩⟩
      case rest =>
       clear HC17
       try clear c1
       try clear p1
       try clear q1
       try clear hx1
       try clear c2
       try clear p2
       try clear c3
       try clear c4
       try clear c4b0
       try clear c5
       try clear c5b0
       try clear p6
       try clear q6
       try clear hx6
       try clear c7
       try clear c8
       try clear c8b0
       try clear c9
       try clear c9b0
       try clear c11
       try clear c11b0
       try clear c11b1
       try clear c14
       try clear c14b0
       try clear c15
       try clear c15b0
       try clear p16
       try clear q16
       try clear hx16
       try clear c18
       try clear c18b0
       try clear c18b1
       try clear p16
       try clear p2
       try clear p6
       try clear q16
       try clear q6
       obtain ⟨kq, x6_16, rfl, HA, HJ16, HB⟩ := hcut
       cases kq with
       | zero => exact absurd HA.out (by simp [toponymref14_Parse.j1])
       | succ kj16 =>
        have H := HA.out
        clear HA
        simp only [toponymref14_Parse.j1] at H
        obtain ⟨⟨t237, t238⟩, A19, H⟩ := zO H
        try dsimp only at H
        by_cases c20 : t234 < (-999999)
        ·rw [if_pos c20] at H
         have c20b0 : decide (t234 < (-999999)) = true := decide_eq_true c20
         clear c20
         simp only [Option.some.injEq, Prod.mk.injEq] at H
         obtain ⟨rfl, rfl, rfl⟩ := H
         go_wp2_with (first | ((with_reducible refine gate_callee (f := 38) rfl ?_); refine goesL_ (some 39) rfl rfl Tryd.func38 zK rfl #[.string a0, .int .i64 x6_16] rfl zM ?_; (with_reducible refine (toponymref14_take.calls kj16 a0 x6_16 t237 t238 _ A19.out).mono ?_); rintro e w' ⟨rfl, ⟨nd, rfl⟩⟩; (try clear A19); refine ⟨_, rfl, ?_⟩))
         go_ret3
         exact ⟨zE, zB⟩
        ·rw [if_neg c20] at H
         have c20b0 : decide (t234 < (-999999)) = false := decide_eq_false c20
         clear c20
         by_cases c21 : t234 > 999999
         ·rw [if_pos c21] at H
          have c21b0 : decide (999999 < t234) = true := decide_eq_true c21
          clear c21
          simp only [Option.some.injEq, Prod.mk.injEq] at H
          obtain ⟨rfl, rfl, rfl⟩ := H
          go_wp2_with (first | ((with_reducible refine gate_callee (f := 38) rfl ?_); refine goesL_ (some 39) rfl rfl Tryd.func38 zK rfl #[.string a0, .int .i64 x6_16] rfl zM ?_; (with_reducible refine (toponymref14_take.calls kj16 a0 x6_16 t237 t238 _ A19.out).mono ?_); rintro e w' ⟨rfl, ⟨nd, rfl⟩⟩; (try clear A19); refine ⟨_, rfl, ?_⟩))
          go_ret3
          exact ⟨zE, zB⟩
         ·rw [if_neg c21] at H
          have c21b0 : decide (999999 < t234) = false := decide_eq_false c21
          clear c21
          by_cases c22 : t237 < (-999999)
          ·rw [if_pos c22] at H
           have c22b0 : decide (t237 < (-999999)) = true := decide_eq_true c22
           clear c22
           simp only [Option.some.injEq, Prod.mk.injEq] at H
           obtain ⟨rfl, rfl, rfl⟩ := H
           go_wp2_with (first | ((with_reducible refine gate_callee (f := 38) rfl ?_); refine goesL_ (some 39) rfl rfl Tryd.func38 zK rfl #[.string a0, .int .i64 x6_16] rfl zM ?_; (with_reducible refine (toponymref14_take.calls kj16 a0 x6_16 t237 t238 _ A19.out).mono ?_); rintro e w' ⟨rfl, ⟨nd, rfl⟩⟩; (try clear A19); refine ⟨_, rfl, ?_⟩))
           go_ret3
           exact ⟨zE, zB⟩
          ·rw [if_neg c22] at H
           have c22b0 : decide (t237 < (-999999)) = false := decide_eq_false c22
           clear c22
           by_cases c23 : t237 > 999999
           ·rw [if_pos c23] at H
            have c23b0 : decide (999999 < t237) = true := decide_eq_true c23
            clear c23
            simp only [Option.some.injEq, Prod.mk.injEq] at H
            obtain ⟨rfl, rfl, rfl⟩ := H
            go_wp2_with (first | ((with_reducible refine gate_callee (f := 38) rfl ?_); refine goesL_ (some 39) rfl rfl Tryd.func38 zK rfl #[.string a0, .int .i64 x6_16] rfl zM ?_; (with_reducible refine (toponymref14_take.calls kj16 a0 x6_16 t237 t238 _ A19.out).mono ?_); rintro e w' ⟨rfl, ⟨nd, rfl⟩⟩; (try clear A19); refine ⟨_, rfl, ?_⟩))
            go_ret3
            exact ⟨zE, zB⟩
           ·rw [if_neg c23] at H
            have c23b0 : decide (999999 < t237) = false := decide_eq_false c23
            clear c23
            obtain ⟨t239, A24, H⟩ := zO H
            by_cases c25 : t239.toList = a0.toList
            ·rw [if_pos c25] at H
             have c25b0 : (t239.toList == a0.toList) = true := beq_iff_eq.mpr c25
             have c25b1 : (t239.toList != a0.toList) = false := bne_eq_false_iff_eq.mpr c25
             clear c25
             simp only [Option.some.injEq, Prod.mk.injEq] at H
             obtain ⟨rfl, rfl, rfl⟩ := H
             go_wp2_with (first | ((with_reducible refine gate_callee (f := 38) rfl ?_); refine goesL_ (some 39) rfl rfl Tryd.func38 zK rfl #[.string a0, .int .i64 x6_16] rfl zM ?_; (with_reducible refine (toponymref14_take.calls kj16 a0 x6_16 t237 t238 _ A19.out).mono ?_); rintro e w' ⟨rfl, ⟨nd, rfl⟩⟩; (try clear A19); refine ⟨_, rfl, ?_⟩) | (go_at_call 31; (with_reducible refine (toponymref14_Text.calls kj16 t234 t237 t239 _ A24.out).mono ?_); rintro e w26 ⟨rfl, hb⟩; (try clear A24); replace HB := aM (below_step zB hb); (try clear hb)))
             go_ret3
             exact ⟨zE, zB⟩
            ·rw [if_neg c25] at H
             have c25b0 : (t239.toList == a0.toList) = false := beq_eq_false_iff_ne.mpr c25
             have c25b1 : (t239.toList != a0.toList) = true := bne_iff_ne.mpr c25
             simp only [Option.some.injEq, Prod.mk.injEq] at H
             obtain ⟨rfl, rfl, rfl⟩ := H
             go_wp2_with (first | ((with_reducible refine gate_callee (f := 38) rfl ?_); refine goesL_ (some 39) rfl rfl Tryd.func38 zK rfl #[.string a0, .int .i64 x6_16] rfl zM ?_; (with_reducible refine (toponymref14_take.calls kj16 a0 x6_16 t237 t238 _ A19.out).mono ?_); rintro e w' ⟨rfl, ⟨nd, rfl⟩⟩; (try clear A19); refine ⟨_, rfl, ?_⟩) | (go_at_call 31; (with_reducible refine (toponymref14_Text.calls kj16 t234 t237 t239 _ A24.out).mono ?_); rintro e w27 ⟨rfl, hb⟩; (try clear A24); replace HB := aM (below_step zB hb); (try clear hb)))
             go_ret3
             exact ⟨zE, zB⟩
     ·rw [if_neg c15] at H
      exact absurd H (by simp)
    ·rw [if_neg c14] at H
     have c14b0 : decide (t235 < (a0.size : Int)) = false := decide_eq_false c14
     clear c14
     by_cases c28 : t234 < (-999999)
     ·rw [if_pos c28] at H
      have c28b0 : decide (t234 < (-999999)) = true := decide_eq_true c28
      clear c28
      simp only [Option.some.injEq, Prod.mk.injEq] at H
      obtain ⟨rfl, rfl, rfl⟩ := H
      go_wp2
      go_ret3
      exact ⟨zE, zB⟩
     ·rw [if_neg c28] at H
      have c28b0 : decide (t234 < (-999999)) = false := decide_eq_false c28
      clear c28
      by_cases c29 : t234 > 999999
      ·rw [if_pos c29] at H
       have c29b0 : decide (999999 < t234) = true := decide_eq_true c29
       clear c29
       simp only [Option.some.injEq, Prod.mk.injEq] at H
       obtain ⟨rfl, rfl, rfl⟩ := H
       go_wp2
       go_ret3
       exact ⟨zE, zB⟩
      ·rw [if_neg c29] at H
       have c29b0 : decide (999999 < t234) = false := decide_eq_false c29
       clear c29
       by_cases c30 : (0 : Int) < (-999999)
       ·exact absurd c30 (by decide)
       ·rw [if_neg c30] at H
        clear c30
        by_cases c31 : (0 : Int) > 999999
        ·exact absurd c31 (by decide)
        ·rw [if_neg c31] at H
         clear c31
         obtain ⟨t240, A32, H⟩ := zO H
         by_cases c33 : t240.toList = a0.toList
         ·rw [if_pos c33] at H
          have c33b0 : (t240.toList == a0.toList) = true := beq_iff_eq.mpr c33
          have c33b1 : (t240.toList != a0.toList) = false := bne_eq_false_iff_eq.mpr c33
          clear c33
          simp only [Option.some.injEq, Prod.mk.injEq] at H
          obtain ⟨rfl, rfl, rfl⟩ := H
          go_wp2_with (first | (go_at_call 31; (with_reducible refine (toponymref14_Text.calls kj2 t234 0 t240 _ A32.out).mono ?_); rintro e w34 ⟨rfl, hb⟩; (try clear A32); replace HB := aM (below_step zB hb); (try clear hb)))
          go_ret3
          exact ⟨zE, zB⟩
         ·rw [if_neg c33] at H
          have c33b0 : (t240.toList == a0.toList) = false := beq_eq_false_iff_ne.mpr c33
          have c33b1 : (t240.toList != a0.toList) = true := bne_iff_ne.mpr c33
          simp only [Option.some.injEq, Prod.mk.injEq] at H
          obtain ⟨rfl, rfl, rfl⟩ := H
          go_wp2_with (first | (go_at_call 31; (with_reducible refine (toponymref14_Text.calls kj2 t234 0 t240 _ A32.out).mono ?_); rintro e w35 ⟨rfl, hb⟩; (try clear A32); replace HB := aM (below_step zB hb); (try clear hb)))
          go_ret3
          exact ⟨zE, zB⟩

end Go.Proofs.YtoadfanppajhhaaDoor.P
