-- Printed by wip/mk.py (this session's driver over the kit's print) and from wip/manual.
import Derived.Test.YtncppcjobimilaaP0
import Derived.Test.YtncppcjobimilaaP1
import Derived.Test.YtncppcjobimilaaP2
import Derived.Test.YtncppcjobimilaaP13
namespace Go.Proofs.Ytncppcjobimilaa.P
open Go.RowKit Go.Proofs.YtncppcjobimilaaW.PrintWords Go.Proofs.YtncppcjobimilaaW.PrintLast Go.Proofs.YtncppcjobimilaaW.PrintMore
attribute [local go_sem] max2_int min2_int max_two min_two max_three min_three max_four min_four   -- for this text's walks alone
set_option linter.unusedVariables false
set_option linter.unusedSimpArgs false

/-! ### pieces_Asks: function 11 -/
def pieces_Asks.f (k : Nat) (a0 : Int) (a1 : ByteArray) (a2_0 : ByteArray) (l2_1 : List ByteArray) (a2_2 : ByteArray) (a2_3 : Bool) (a2_4 : Bool) : Option (Bool × Int) := (prep_Value.f k a0 a1).bind fun bt524 => (if bt524.2 = 0 then ((pieces_Prepare.f k a0 a2_0 l2_1 a2_2 a2_3 a2_4).bind fun bt526 => (if bt526.2.2.2.2.2 = 0 then ((pieces_Match.f k bt524.1 bt526.1 bt526.2.1 bt526.2.2.1 bt526.2.2.2.1 bt526.2.2.2.2.1).bind fun t535 => (some (t535, 0))) else (some (false, bt526.2.2.2.2.2)))) else (some (false, bt524.2)))
theorem pieces_Asks.mono : ∀ a0 a1 a2 a3 a4 a5 a6 k, LeO (pieces_Asks.f k a0 a1 a2 a3 a4 a5 a6) (pieces_Asks.f (k + 1) a0 a1 a2 a3 a4 a5 a6) := by
 intro a0 a1 a2 a3 a4 a5 a6 k
 unfold pieces_Asks.f
 repeat' first
   | (with_reducible exact pieces_Match.mono _ _ _ _ _ _ _)
   | (with_reducible exact pieces_Prepare.mono _ _ _ _ _ _ _)
   | (with_reducible exact prep_Value.mono _ _ _)
   | (with_reducible exact LeO.refl _)
   | exact pieces_Match.mono _ _ _ _ _ _ _
   | exact pieces_Prepare.mono _ _ _ _ _ _ _
   | exact prep_Value.mono _ _ _
   | exact LeO.none _
   | refine LeO.ite ?_ ?_
   | refine LeO.bind ?_ (fun _ => ?_)
set_option maxHeartbeats 8000000 in
set_option maxRecDepth 100000 in
theorem pieces_Asks.calls (k : Nat) (a0 : Int) (a1 : ByteArray) (a2_0 : ByteArray) (A2_1 : Option Addr) (c2_1 : Nat) (l2_1 : List ByteArray) (a2_2 : ByteArray) (a2_3 : Bool) (a2_4 : Bool) (r1 : Bool) (r2 : Int) (w : World) (hE : Env w) (hr2_1 : Kd.C Kd.string w A2_1 l2_1.length l2_1) (hc2_1 : l2_1.length ≤ c2_1) (h : pieces_Asks.f k a0 a1 a2_0 l2_1 a2_2 a2_3 a2_4 = some (r1, r2)) :
  Calls Try.prog 11 #[.int .i64 a0, .string a1, .agg #[.string a2_0, .slice A2_1 l2_1.length c2_1, .string a2_2, .bool a2_3, .bool a2_4]] w fun e w' => e = .returned (.tuple #[.bool r1, .int .i64 r2]) ∧ Below w.heap.size w w' := by
 have HE := aM hE
 clear hE
 have hu29 := Try.underlying29
 have HR2_1 := aM hr2_1
 have HC2_1 := aM hc2_1
 clear hr2_1 hc2_1
 have HB := aM (Below.refl w.heap.size w)
 have H := h
 clear h
 unfold pieces_Asks.f at H
 obtain ⟨⟨t524, t525⟩, A4, H⟩ := zO H
 try dsimp only at H
 by_cases c5 : t525 = 0
 ·rw [if_pos c5] at H
  have c5b0 : (t525 == 0) = true := beq_iff_eq.mpr c5
  have c5b1 : (t525 != 0) = false := bne_eq_false_iff_eq.mpr c5
  clear c5
  obtain ⟨⟨t526, t527, t530, t531, t532, t533⟩, A6, H⟩ := zO H
  try dsimp only at H
  by_cases c7 : t533 = 0
  ·rw [if_pos c7] at H
   have c7b0 : (t533 == 0) = true := beq_iff_eq.mpr c7
   have c7b1 : (t533 != 0) = false := bne_eq_false_iff_eq.mpr c7
   clear c7
   obtain ⟨t535, A8, H⟩ := zO H
   simp only [Option.some.injEq, Prod.mk.injEq] at H
   obtain ⟨rfl, rfl⟩ := H
   go_enter Try.func11, Try.ntmps11
   go_wp2_with (first | ((with_reducible refine gate_dst (N := 5) rfl ?_); refine box_event ?hg (N := 5) ?hd (cs := #[.string a2_0, .slice A2_1 l2_1.length c2_1, .string a2_2, .bool a2_3, .bool a2_4]) (t := 29) ?hr ?_; (case hd => rfl); (case hg => rfl); (case hr => first | (go_simp; done) | (go_simp; rfl)); intro gb523 hg w9 hbox hb; have n_ := zI (aM (below_step zB hb)) (zI (aM (hbox)) (zI (aM ((by rw [hg]; exact (below_size zB) : w.heap.size ≤ gb523))) (aM ((by rw [hg]; exact (below_size zB) : w.heap.size ≤ gb523))))); clear HB; obtain ⟨HB, BK523, GW523, GE523⟩ := n_; clear hb hbox hg) | ((with_reducible refine gate_callee (f := 18) rfl ?_); refine goesL_ (some 14) rfl rfl Try.func18 zK rfl #[.int .i64 a0, .string a1] rfl zM ?_; (with_reducible refine (prep_Value.calls k a0 a1 t524 t525 _ A4.out).mono ?_); rintro e w10 ⟨rfl, hb⟩; refine ⟨_, rfl, ?_⟩; have n_ := zI (aM (blk_below (g := gb523) (o := .cells #[.string a2_0, .slice A2_1 l2_1.length c2_1, .string a2_2, .bool a2_3, .bool a2_4] 29 (0, 0)) (by (with_reducible repeat (first | refine blk_drewN ?_ _ | refine blk_drew ?_ | refine blk_alloc ?_ _)); exact BK523.out) hb)) (aM (below_step (by repeat (first | (with_reducible first | exact HB.out | apply bA | apply bN | apply bD | refine below_set ?_ GE523.out) | exact HB.out)) hb)); clear BK523 HB; obtain ⟨BK523, HB⟩ := n_; (try clear hb); (try clear hk); have hcz11_0 : w10.cell? ⟨gb523, 0, none⟩ = some (.string a2_0) := (blk_cell BK523.out 0).trans rfl; have hcz11_1 : w10.cell? ⟨gb523, 1, none⟩ = some (.slice A2_1 l2_1.length c2_1) := (blk_cell BK523.out 1).trans rfl; have hcz11_2 : w10.cell? ⟨gb523, 2, none⟩ = some (.string a2_2) := (blk_cell BK523.out 2).trans rfl; have hcz11_3 : w10.cell? ⟨gb523, 3, none⟩ = some (.bool a2_3) := (blk_cell BK523.out 3).trans rfl; have hcz11_4 : w10.cell? ⟨gb523, 4, none⟩ = some (.bool a2_4) := (blk_cell BK523.out 4).trans rfl; have hfz11_0 := blk_frozen BK523.out 0; have hfz11_1 := blk_frozen BK523.out 1; have hfz11_2 := blk_frozen BK523.out 2; have hfz11_3 := blk_frozen BK523.out 3; have hfz11_4 := blk_frozen BK523.out 4) | ((with_reducible refine gate_callee (f := 12) rfl ?_); refine goesL_ (some 23) rfl rfl Try.func12 zK rfl #[.int .i64 a0, .agg #[.string a2_0, .slice A2_1 l2_1.length c2_1, .string a2_2, .bool a2_3, .bool a2_4]] rfl zM ?_; (with_reducible refine (pieces_Prepare.calls k a0 a2_0 _ _ l2_1 a2_2 a2_3 a2_4 t526 t527 t530 t531 t532 t533 _ ?side1 ?side2 A6.out).mono ?_); (case side1 => exact zCB HR2_1); (case side2 => exact HC2_1.out); rintro e w12 ⟨v528, rfl, ho0, hb⟩; refine ⟨_, rfl, ?_⟩; have n_ := zI (aM (Kd.R_lower ho0 (below_size (by repeat (first | (with_reducible first | exact HB.out | apply bA | apply bN | apply bD | refine below_set ?_ GE523.out) | exact HB.out))))) (zI (aM (blk_below (g := gb523) (o := .cells #[.string a2_0, .slice A2_1 l2_1.length c2_1, .string a2_2, .bool a2_3, .bool a2_4] 29 (0, 0)) (by (with_reducible repeat (first | refine blk_drewN ?_ _ | refine blk_drew ?_ | refine blk_alloc ?_ _)); exact BK523.out) hb)) (aM (below_step (by repeat (first | (with_reducible first | exact HB.out | apply bA | apply bN | apply bD | refine below_set ?_ GE523.out) | exact HB.out)) hb))); clear BK523 HB; obtain ⟨HO529, BK523, HB⟩ := n_; (try clear hb); (try clear hk); (try clear ho0)) | ((with_reducible refine gate_dst (N := 10) rfl ?_); refine box_event ?hg (N := 10) ?hd (cs := #[.string (⟨#[]⟩ : ByteArray), .slice none 0 0, .string (⟨#[]⟩ : ByteArray), .bool false, .bool false]) (t := 29) ?hr ?_; (case hd => rfl); (case hg => rfl); (case hr => first | (go_simp; done) | (go_simp; rfl)); intro gb534 hg w13 hbox hb; have n_ := zI (aM (Kd.R_below (zR HO529) hb)) (zI (aM (blk_below (g := gb523) (o := .cells #[.string a2_0, .slice A2_1 l2_1.length c2_1, .string a2_2, .bool a2_3, .bool a2_4] 29 (0, 0)) (by (with_reducible repeat (first | refine blk_drewN ?_ _ | refine blk_drew ?_ | refine blk_alloc ?_ _)); exact BK523.out) hb)) (zI (aM (below_step (by repeat (first | (with_reducible first | exact HB.out | apply bA | apply bN | apply bD | refine below_set ?_ GE523.out) | exact HB.out)) hb)) (zI (aM (hbox)) (zI (aM ((by rw [hg]; exact (below_size (by repeat (first | (with_reducible first | exact HB.out | apply bA | apply bN | apply bD | refine below_set ?_ GE523.out) | exact HB.out))) : w.heap.size ≤ gb534))) (zI (aM ((by rw [hg]; exact (below_size (by repeat (first | (with_reducible first | exact HB.out | apply bA | apply bN | apply bD | refine below_set ?_ GE523.out) | exact HB.out))) : w.heap.size ≤ gb534))) (zI (aM ((by rw [hg]; exact Nat.ne_of_lt (blk_lt (g := gb523) (o := .cells #[.string a2_0, .slice A2_1 l2_1.length c2_1, .string a2_2, .bool a2_3, .bool a2_4] 29 (0, 0)) (by (with_reducible repeat (first | refine blk_drewN ?_ _ | refine blk_drew ?_ | refine blk_alloc ?_ _)); exact BK523.out)) : gb523 ≠ gb534))) (aM ((by rw [hg]; exact Nat.ne_of_gt (blk_lt (g := gb523) (o := .cells #[.string a2_0, .slice A2_1 l2_1.length c2_1, .string a2_2, .bool a2_3, .bool a2_4] 29 (0, 0)) (by (with_reducible repeat (first | refine blk_drewN ?_ _ | refine blk_drew ?_ | refine blk_alloc ?_ _)); exact BK523.out)) : gb534 ≠ gb523))))))))); clear HO529 BK523 HB; obtain ⟨HO529, BK523, HB, BK534, GW534, GE534, NB523_534, NB534_523⟩ := n_; clear hb hbox hg; have hnb14 := NB534_523.out; have hnc14 := NB523_534.out; have hcz15_0 : w13.cell? ⟨gb534, 0, none⟩ = some (.string (⟨#[]⟩ : ByteArray)) := (blk_cell BK534.out 0).trans rfl; have hcz15_1 : w13.cell? ⟨gb534, 1, none⟩ = some (.slice none 0 0) := (blk_cell BK534.out 1).trans rfl; have hcz15_2 : w13.cell? ⟨gb534, 2, none⟩ = some (.string (⟨#[]⟩ : ByteArray)) := (blk_cell BK534.out 2).trans rfl; have hcz15_3 : w13.cell? ⟨gb534, 3, none⟩ = some (.bool false) := (blk_cell BK534.out 3).trans rfl; have hcz15_4 : w13.cell? ⟨gb534, 4, none⟩ = some (.bool false) := (blk_cell BK534.out 4).trans rfl; have hfz15_0 := blk_frozen BK534.out 0; have hfz15_1 := blk_frozen BK534.out 1; have hfz15_2 := blk_frozen BK534.out 2; have hfz15_3 := blk_frozen BK534.out 3; have hfz15_4 := blk_frozen BK534.out 4; obtain ⟨Ao16, co16, rfl⟩ := Kd.R_slice HO529.out) | ((with_reducible refine gate_callee (f := 9) rfl ?_); refine goesL_ (some 31) rfl rfl Try.func9 zK rfl #[.string t524, .agg #[.string t526, .slice Ao16 t527.length co16, .string t530, .bool t531, .bool t532]] rfl zM ?_; (with_reducible refine (pieces_Match.calls k t524 t526 _ _ t527 t530 t531 t532 t535 _ (zEnv HE) ?side1 ?side2 A8.out).mono ?_); (case side1 => refine (Kd.R_reads' (e := 9) (base := w.heap.size) (ok := fun k_ => True) (n := t527.length) (c := co16) ?_).2.2; exact (by (with_reducible repeat (first | apply Kd.R_alloc | apply Kd.R_drewN | apply Kd.R_drew)); exact (Kd.R_mono (Kd.R_far (p := ⟨gb534, 4, none⟩) (Kd.R_far (p := ⟨gb534, 3, none⟩) (Kd.R_far (p := ⟨gb534, 2, none⟩) (Kd.R_far (p := ⟨gb534, 1, none⟩) (Kd.R_far (p := ⟨gb534, 0, none⟩) (Kd.R_types HO529.out BK534.out (by decide)) (fun _ hk => hk.2) (.string t526)) (fun _ hk => hk.2) (.slice Ao16 t527.length co16)) (fun _ hk => hk.2) (.string t530)) (fun _ hk => hk.2) (.bool t531)) (fun _ hk => hk.2) (.bool t532)) (fun _ h_ => h_.1)))); (case side2 => exact (Kd.R_reads' HO529.out).2.1); rintro e w17 ⟨rfl, hb⟩; refine ⟨_, rfl, ?_⟩; have n_ := zI (aM (Kd.R_below (by (with_reducible repeat (first | apply Kd.R_alloc | apply Kd.R_drewN | apply Kd.R_drew)); exact (Kd.R_mono (Kd.R_far (p := ⟨gb534, 4, none⟩) (Kd.R_far (p := ⟨gb534, 3, none⟩) (Kd.R_far (p := ⟨gb534, 2, none⟩) (Kd.R_far (p := ⟨gb534, 1, none⟩) (Kd.R_far (p := ⟨gb534, 0, none⟩) (Kd.R_types HO529.out BK534.out (by decide)) (fun _ hk => hk.2) (.string t526)) (fun _ hk => hk.2) (.slice Ao16 t527.length co16)) (fun _ hk => hk.2) (.string t530)) (fun _ hk => hk.2) (.bool t531)) (fun _ hk => hk.2) (.bool t532)) (fun _ h_ => h_.1))) hb)) (zI (aM (blk_below (g := gb523) (o := .cells #[.string a2_0, .slice A2_1 l2_1.length c2_1, .string a2_2, .bool a2_3, .bool a2_4] 29 (0, 0)) (by (with_reducible repeat (first | refine blk_drewN ?_ _ | refine blk_drew ?_ | refine blk_alloc ?_ _)); refine blk_far ?_ NB523_534.out _; (with_reducible repeat (first | refine blk_drewN ?_ _ | refine blk_drew ?_ | refine blk_alloc ?_ _)); refine blk_far ?_ NB523_534.out _; (with_reducible repeat (first | refine blk_drewN ?_ _ | refine blk_drew ?_ | refine blk_alloc ?_ _)); refine blk_far ?_ NB523_534.out _; (with_reducible repeat (first | refine blk_drewN ?_ _ | refine blk_drew ?_ | refine blk_alloc ?_ _)); refine blk_far ?_ NB523_534.out _; (with_reducible repeat (first | refine blk_drewN ?_ _ | refine blk_drew ?_ | refine blk_alloc ?_ _)); refine blk_far ?_ NB523_534.out _; (with_reducible repeat (first | refine blk_drewN ?_ _ | refine blk_drew ?_ | refine blk_alloc ?_ _)); exact BK523.out) hb)) (zI (aM (blk_below (g := gb534) (o := .cells #[.string t526, .slice Ao16 t527.length co16, .string t530, .bool t531, .bool t532] 29 (0, 0)) (by (with_reducible repeat (first | refine blk_drewN ?_ _ | refine blk_drew ?_ | refine blk_alloc ?_ _)); refine blk_put (cs := #[.string t526, .slice Ao16 t527.length co16, .string t530, .bool t531, .bool false]) ?_ 4 _ rfl; (with_reducible repeat (first | refine blk_drewN ?_ _ | refine blk_drew ?_ | refine blk_alloc ?_ _)); refine blk_put (cs := #[.string t526, .slice Ao16 t527.length co16, .string t530, .bool false, .bool false]) ?_ 3 _ rfl; (with_reducible repeat (first | refine blk_drewN ?_ _ | refine blk_drew ?_ | refine blk_alloc ?_ _)); refine blk_put (cs := #[.string t526, .slice Ao16 t527.length co16, .string (⟨#[]⟩ : ByteArray), .bool false, .bool false]) ?_ 2 _ rfl; (with_reducible repeat (first | refine blk_drewN ?_ _ | refine blk_drew ?_ | refine blk_alloc ?_ _)); refine blk_put (cs := #[.string t526, .slice none 0 0, .string (⟨#[]⟩ : ByteArray), .bool false, .bool false]) ?_ 1 _ rfl; (with_reducible repeat (first | refine blk_drewN ?_ _ | refine blk_drew ?_ | refine blk_alloc ?_ _)); refine blk_put (cs := #[.string (⟨#[]⟩ : ByteArray), .slice none 0 0, .string (⟨#[]⟩ : ByteArray), .bool false, .bool false]) ?_ 0 _ rfl; (with_reducible repeat (first | refine blk_drewN ?_ _ | refine blk_drew ?_ | refine blk_alloc ?_ _)); exact BK534.out) hb)) (aM (below_step (by repeat (first | (with_reducible first | exact HB.out | apply bA | apply bN | apply bD | refine below_set ?_ GE523.out | refine below_set ?_ GE534.out) | exact HB.out)) hb)))); clear HO529 BK523 BK534 HB; obtain ⟨HO529, BK523, BK534, HB⟩ := n_; (try clear hb); (try clear hk)))
   go_ret2
   exact ⟨zE, by repeat (first | (with_reducible first | exact HB.out | apply bA | apply bN | apply bD | refine below_set ?_ GE523.out | refine below_set ?_ GE534.out) | exact HB.out)⟩
  ·rw [if_neg c7] at H
   have c7b0 : (t533 == 0) = false := beq_eq_false_iff_ne.mpr c7
   have c7b1 : (t533 != 0) = true := bne_iff_ne.mpr c7
   simp only [Option.some.injEq, Prod.mk.injEq] at H
   obtain ⟨rfl, rfl⟩ := H
   go_enter Try.func11, Try.ntmps11
   go_wp2_with (first | ((with_reducible refine gate_dst (N := 5) rfl ?_); refine box_event ?hg (N := 5) ?hd (cs := #[.string a2_0, .slice A2_1 l2_1.length c2_1, .string a2_2, .bool a2_3, .bool a2_4]) (t := 29) ?hr ?_; (case hd => rfl); (case hg => rfl); (case hr => first | (go_simp; done) | (go_simp; rfl)); intro gb523 hg w18 hbox hb; have n_ := zI (aM (below_step zB hb)) (zI (aM (hbox)) (zI (aM ((by rw [hg]; exact (below_size zB) : w.heap.size ≤ gb523))) (aM ((by rw [hg]; exact (below_size zB) : w.heap.size ≤ gb523))))); clear HB; obtain ⟨HB, BK523, GW523, GE523⟩ := n_; clear hb hbox hg) | ((with_reducible refine gate_callee (f := 18) rfl ?_); refine goesL_ (some 14) rfl rfl Try.func18 zK rfl #[.int .i64 a0, .string a1] rfl zM ?_; (with_reducible refine (prep_Value.calls k a0 a1 t524 t525 _ A4.out).mono ?_); rintro e w19 ⟨rfl, hb⟩; refine ⟨_, rfl, ?_⟩; have n_ := zI (aM (blk_below (g := gb523) (o := .cells #[.string a2_0, .slice A2_1 l2_1.length c2_1, .string a2_2, .bool a2_3, .bool a2_4] 29 (0, 0)) (by (with_reducible repeat (first | refine blk_drewN ?_ _ | refine blk_drew ?_ | refine blk_alloc ?_ _)); exact BK523.out) hb)) (aM (below_step (by repeat (first | (with_reducible first | exact HB.out | apply bA | apply bN | apply bD | refine below_set ?_ GE523.out) | exact HB.out)) hb)); clear BK523 HB; obtain ⟨BK523, HB⟩ := n_; (try clear hb); have hcz20_0 : w19.cell? ⟨gb523, 0, none⟩ = some (.string a2_0) := (blk_cell BK523.out 0).trans rfl; have hcz20_1 : w19.cell? ⟨gb523, 1, none⟩ = some (.slice A2_1 l2_1.length c2_1) := (blk_cell BK523.out 1).trans rfl; have hcz20_2 : w19.cell? ⟨gb523, 2, none⟩ = some (.string a2_2) := (blk_cell BK523.out 2).trans rfl; have hcz20_3 : w19.cell? ⟨gb523, 3, none⟩ = some (.bool a2_3) := (blk_cell BK523.out 3).trans rfl; have hcz20_4 : w19.cell? ⟨gb523, 4, none⟩ = some (.bool a2_4) := (blk_cell BK523.out 4).trans rfl; have hfz20_0 := blk_frozen BK523.out 0; have hfz20_1 := blk_frozen BK523.out 1; have hfz20_2 := blk_frozen BK523.out 2; have hfz20_3 := blk_frozen BK523.out 3; have hfz20_4 := blk_frozen BK523.out 4) | ((with_reducible refine gate_callee (f := 12) rfl ?_); refine goesL_ (some 23) rfl rfl Try.func12 zK rfl #[.int .i64 a0, .agg #[.string a2_0, .slice A2_1 l2_1.length c2_1, .string a2_2, .bool a2_3, .bool a2_4]] rfl zM ?_; (with_reducible refine (pieces_Prepare.calls k a0 a2_0 _ _ l2_1 a2_2 a2_3 a2_4 t526 t527 t530 t531 t532 t533 _ ?side1 ?side2 A6.out).mono ?_); (case side1 => exact zCB HR2_1); (case side2 => exact HC2_1.out); rintro e w21 ⟨v528, rfl, ho0, hb⟩; refine ⟨_, rfl, ?_⟩; have n_ := zI (aM (Kd.R_lower ho0 (below_size (by repeat (first | (with_reducible first | exact HB.out | apply bA | apply bN | apply bD | refine below_set ?_ GE523.out) | exact HB.out))))) (zI (aM (blk_below (g := gb523) (o := .cells #[.string a2_0, .slice A2_1 l2_1.length c2_1, .string a2_2, .bool a2_3, .bool a2_4] 29 (0, 0)) (by (with_reducible repeat (first | refine blk_drewN ?_ _ | refine blk_drew ?_ | refine blk_alloc ?_ _)); exact BK523.out) hb)) (aM (below_step (by repeat (first | (with_reducible first | exact HB.out | apply bA | apply bN | apply bD | refine below_set ?_ GE523.out) | exact HB.out)) hb))); clear BK523 HB; obtain ⟨HO529, BK523, HB⟩ := n_; (try clear hb); (try clear ho0)) | ((with_reducible refine gate_dst (N := 10) rfl ?_); refine box_event ?hg (N := 10) ?hd (cs := #[.string (⟨#[]⟩ : ByteArray), .slice none 0 0, .string (⟨#[]⟩ : ByteArray), .bool false, .bool false]) (t := 29) ?hr ?_; (case hd => rfl); (case hg => rfl); (case hr => first | (go_simp; done) | (go_simp; rfl)); intro gb534 hg w22 hbox hb; have n_ := zI (aM (Kd.R_below (zR HO529) hb)) (zI (aM (blk_below (g := gb523) (o := .cells #[.string a2_0, .slice A2_1 l2_1.length c2_1, .string a2_2, .bool a2_3, .bool a2_4] 29 (0, 0)) (by (with_reducible repeat (first | refine blk_drewN ?_ _ | refine blk_drew ?_ | refine blk_alloc ?_ _)); exact BK523.out) hb)) (zI (aM (below_step (by repeat (first | (with_reducible first | exact HB.out | apply bA | apply bN | apply bD | refine below_set ?_ GE523.out) | exact HB.out)) hb)) (zI (aM (hbox)) (zI (aM ((by rw [hg]; exact (below_size (by repeat (first | (with_reducible first | exact HB.out | apply bA | apply bN | apply bD | refine below_set ?_ GE523.out) | exact HB.out))) : w.heap.size ≤ gb534))) (zI (aM ((by rw [hg]; exact (below_size (by repeat (first | (with_reducible first | exact HB.out | apply bA | apply bN | apply bD | refine below_set ?_ GE523.out) | exact HB.out))) : w.heap.size ≤ gb534))) (zI (aM ((by rw [hg]; exact Nat.ne_of_lt (blk_lt (g := gb523) (o := .cells #[.string a2_0, .slice A2_1 l2_1.length c2_1, .string a2_2, .bool a2_3, .bool a2_4] 29 (0, 0)) (by (with_reducible repeat (first | refine blk_drewN ?_ _ | refine blk_drew ?_ | refine blk_alloc ?_ _)); exact BK523.out)) : gb523 ≠ gb534))) (aM ((by rw [hg]; exact Nat.ne_of_gt (blk_lt (g := gb523) (o := .cells #[.string a2_0, .slice A2_1 l2_1.length c2_1, .string a2_2, .bool a2_3, .bool a2_4] 29 (0, 0)) (by (with_reducible repeat (first | refine blk_drewN ?_ _ | refine blk_drew ?_ | refine blk_alloc ?_ _)); exact BK523.out)) : gb534 ≠ gb523))))))))); clear HO529 BK523 HB; obtain ⟨HO529, BK523, HB, BK534, GW534, GE534, NB523_534, NB534_523⟩ := n_; clear hb hbox hg; have hnb23 := NB534_523.out; have hnc23 := NB523_534.out; have hcz24_0 : w22.cell? ⟨gb534, 0, none⟩ = some (.string (⟨#[]⟩ : ByteArray)) := (blk_cell BK534.out 0).trans rfl; have hcz24_1 : w22.cell? ⟨gb534, 1, none⟩ = some (.slice none 0 0) := (blk_cell BK534.out 1).trans rfl; have hcz24_2 : w22.cell? ⟨gb534, 2, none⟩ = some (.string (⟨#[]⟩ : ByteArray)) := (blk_cell BK534.out 2).trans rfl; have hcz24_3 : w22.cell? ⟨gb534, 3, none⟩ = some (.bool false) := (blk_cell BK534.out 3).trans rfl; have hcz24_4 : w22.cell? ⟨gb534, 4, none⟩ = some (.bool false) := (blk_cell BK534.out 4).trans rfl; have hfz24_0 := blk_frozen BK534.out 0; have hfz24_1 := blk_frozen BK534.out 1; have hfz24_2 := blk_frozen BK534.out 2; have hfz24_3 := blk_frozen BK534.out 3; have hfz24_4 := blk_frozen BK534.out 4; obtain ⟨Ao25, co25, rfl⟩ := Kd.R_slice HO529.out))
   go_ret2
   exact ⟨zE, by repeat (first | (with_reducible first | exact HB.out | apply bA | apply bN | apply bD | refine below_set ?_ GE523.out | refine below_set ?_ GE534.out) | exact HB.out)⟩
 ·rw [if_neg c5] at H
  have c5b0 : (t525 == 0) = false := beq_eq_false_iff_ne.mpr c5
  have c5b1 : (t525 != 0) = true := bne_iff_ne.mpr c5
  simp only [Option.some.injEq, Prod.mk.injEq] at H
  obtain ⟨rfl, rfl⟩ := H
  go_enter Try.func11, Try.ntmps11
  go_wp2_with (first | ((with_reducible refine gate_dst (N := 5) rfl ?_); refine box_event ?hg (N := 5) ?hd (cs := #[.string a2_0, .slice A2_1 l2_1.length c2_1, .string a2_2, .bool a2_3, .bool a2_4]) (t := 29) ?hr ?_; (case hd => rfl); (case hg => rfl); (case hr => first | (go_simp; done) | (go_simp; rfl)); intro gb523 hg w26 hbox hb; have n_ := zI (aM (below_step zB hb)) (zI (aM (hbox)) (zI (aM ((by rw [hg]; exact (below_size zB) : w.heap.size ≤ gb523))) (aM ((by rw [hg]; exact (below_size zB) : w.heap.size ≤ gb523))))); clear HB; obtain ⟨HB, BK523, GW523, GE523⟩ := n_; clear hb hbox hg) | ((with_reducible refine gate_callee (f := 18) rfl ?_); refine goesL_ (some 14) rfl rfl Try.func18 zK rfl #[.int .i64 a0, .string a1] rfl zM ?_; (with_reducible refine (prep_Value.calls k a0 a1 t524 t525 _ A4.out).mono ?_); rintro e w27 ⟨rfl, hb⟩; refine ⟨_, rfl, ?_⟩; have n_ := zI (aM (blk_below (g := gb523) (o := .cells #[.string a2_0, .slice A2_1 l2_1.length c2_1, .string a2_2, .bool a2_3, .bool a2_4] 29 (0, 0)) (by (with_reducible repeat (first | refine blk_drewN ?_ _ | refine blk_drew ?_ | refine blk_alloc ?_ _)); exact BK523.out) hb)) (aM (below_step (by repeat (first | (with_reducible first | exact HB.out | apply bA | apply bN | apply bD | refine below_set ?_ GE523.out) | exact HB.out)) hb)); clear BK523 HB; obtain ⟨BK523, HB⟩ := n_; (try clear hb)))
  go_ret2
  exact ⟨zE, by repeat (first | (with_reducible first | exact HB.out | apply bA | apply bN | apply bD | refine below_set ?_ GE523.out) | exact HB.out)⟩

/-! ### toponymlaw13_awake: function 6 -/
def toponymlaw13_awake.f (k : Nat)  : Option (Bool) := (some (([(⟨#[99, 97]⟩ : ByteArray)] : List ByteArray) : List ByteArray)).bind fun y536 => ((pieces_Asks.f k 2 (⟨#[67, 97, 102, 195, 137, 32, 97, 117, 32, 108, 97, 105, 116]⟩ : ByteArray) (⟨#[]⟩ : ByteArray) (([(⟨#[195, 169, 32, 65, 85]⟩ : ByteArray)] : List ByteArray)) (⟨#[]⟩ : ByteArray) false false).bind fun bt543 => ((pieces_Prepare.f k 2 (⟨#[]⟩ : ByteArray) ([] : List ByteArray) (⟨#[]⟩ : ByteArray) false false).bind fun bt545 => ((pieces_Match.f k (⟨#[32, 97, 98, 99, 97, 98, 99, 32]⟩ : ByteArray) (⟨#[32, 97, 98]⟩ : ByteArray) y536 (⟨#[99, 32]⟩ : ByteArray) true true).bind fun t554 => (if t554 = true then ((pieces_Match.f k (⟨#[32, 97, 98]⟩ : ByteArray) (⟨#[32, 97, 98]⟩ : ByteArray) y536 (⟨#[99, 32]⟩ : ByteArray) true true).bind fun t555 => (if t555 = true then (some false) else (if bt543.1 = true then (if bt543.2 = 0 then (if bt545.2.2.2.2.2 = 2 then ((pieces_Check.f k (⟨#[32, 97, 98]⟩ : ByteArray) y536 (⟨#[99, 32]⟩ : ByteArray) true true).bind fun t556 => (some (t556 == 0))) else (some false)) else (some false)) else (some false)))) else (some false)))))
theorem toponymlaw13_awake.mono : ∀ k, LeO (toponymlaw13_awake.f k ) (toponymlaw13_awake.f (k + 1) ) := by
 intro  k
 unfold toponymlaw13_awake.f
 repeat' first
   | (with_reducible exact pieces_Asks.mono _ _ _ _ _ _ _ _)
   | (with_reducible exact pieces_Check.mono _ _ _ _ _ _)
   | (with_reducible exact pieces_Match.mono _ _ _ _ _ _ _)
   | (with_reducible exact pieces_Prepare.mono _ _ _ _ _ _ _)
   | (with_reducible exact LeO.refl _)
   | exact pieces_Asks.mono _ _ _ _ _ _ _ _
   | exact pieces_Check.mono _ _ _ _ _ _
   | exact pieces_Match.mono _ _ _ _ _ _ _
   | exact pieces_Prepare.mono _ _ _ _ _ _ _
   | exact LeO.none _
   | refine LeO.ite ?_ ?_
   | refine LeO.bind ?_ (fun _ => ?_)
set_option maxHeartbeats 8000000 in
set_option maxRecDepth 100000 in
theorem toponymlaw13_awake.calls (k : Nat)  (r : Bool) (w : World) (hE : Env w) (h : toponymlaw13_awake.f k  = some r) :
  Calls Try.prog 6 #[] w fun e w' => e = .returned (.bool r) ∧ Below w.heap.size w w' := by
 have hT := aM (yes_of toponymlaw13_awake.mono (n := 100) (by decide +kernel) h)
 have HE := aM hE
 clear hE
 have hu29 := Try.underlying29
 have HB := aM (Below.refl w.heap.size w)
 have H := h
 clear h
 unfold toponymlaw13_awake.f at H
 obtain ⟨y536, hy536⟩ : ∃ y_ : List ByteArray, y_ = (([(⟨#[99, 97]⟩ : ByteArray)] : List ByteArray)) := ⟨_, rfl⟩
 replace H : ((pieces_Asks.f k 2 (⟨#[67, 97, 102, 195, 137, 32, 97, 117, 32, 108, 97, 105, 116]⟩ : ByteArray) (⟨#[]⟩ : ByteArray) (([(⟨#[195, 169, 32, 65, 85]⟩ : ByteArray)] : List ByteArray)) (⟨#[]⟩ : ByteArray) false false).bind fun bt543 => ((pieces_Prepare.f k 2 (⟨#[]⟩ : ByteArray) ([] : List ByteArray) (⟨#[]⟩ : ByteArray) false false).bind fun bt545 => ((pieces_Match.f k (⟨#[32, 97, 98, 99, 97, 98, 99, 32]⟩ : ByteArray) (⟨#[32, 97, 98]⟩ : ByteArray) y536 (⟨#[99, 32]⟩ : ByteArray) true true).bind fun t554 => (if t554 = true then ((pieces_Match.f k (⟨#[32, 97, 98]⟩ : ByteArray) (⟨#[32, 97, 98]⟩ : ByteArray) y536 (⟨#[99, 32]⟩ : ByteArray) true true).bind fun t555 => (if t555 = true then (some false) else (if bt543.1 = true then (if bt543.2 = 0 then (if bt545.2.2.2.2.2 = 2 then ((pieces_Check.f k (⟨#[32, 97, 98]⟩ : ByteArray) y536 (⟨#[99, 32]⟩ : ByteArray) true true).bind fun t556 => (some (t556 == 0))) else (some false)) else (some false)) else (some false)))) else (some false))))) = some r := zY hy536 H
 have Ny536 := aM hy536
 clear hy536
 obtain ⟨y540, hy540⟩ : ∃ y_ : List ByteArray, y_ = (([(⟨#[195, 169, 32, 65, 85]⟩ : ByteArray)] : List ByteArray)) := ⟨_, rfl⟩
 replace H : ((pieces_Asks.f k 2 (⟨#[67, 97, 102, 195, 137, 32, 97, 117, 32, 108, 97, 105, 116]⟩ : ByteArray) (⟨#[]⟩ : ByteArray) y540 (⟨#[]⟩ : ByteArray) false false).bind fun bt543 => ((pieces_Prepare.f k 2 (⟨#[]⟩ : ByteArray) ([] : List ByteArray) (⟨#[]⟩ : ByteArray) false false).bind fun bt545 => ((pieces_Match.f k (⟨#[32, 97, 98, 99, 97, 98, 99, 32]⟩ : ByteArray) (⟨#[32, 97, 98]⟩ : ByteArray) y536 (⟨#[99, 32]⟩ : ByteArray) true true).bind fun t554 => (if t554 = true then ((pieces_Match.f k (⟨#[32, 97, 98]⟩ : ByteArray) (⟨#[32, 97, 98]⟩ : ByteArray) y536 (⟨#[99, 32]⟩ : ByteArray) true true).bind fun t555 => (if t555 = true then (some false) else (if bt543.1 = true then (if bt543.2 = 0 then (if bt545.2.2.2.2.2 = 2 then ((pieces_Check.f k (⟨#[32, 97, 98]⟩ : ByteArray) y536 (⟨#[99, 32]⟩ : ByteArray) true true).bind fun t556 => (some (t556 == 0))) else (some false)) else (some false)) else (some false)))) else (some false))))) = some r := zY hy540 H
 have Ny540 := aM hy540
 clear hy540
 obtain ⟨⟨t543, t544⟩, A1, H⟩ := zO H
 try dsimp only at H
 obtain ⟨⟨t545, t546, t549, t550, t551, t552⟩, A2, H⟩ := zO H
 try dsimp only at H
 obtain ⟨t554, A3, H⟩ := zO H
 by_cases c4 : t554 = true
 ·subst c4
  rw [if_pos rfl] at H
  obtain ⟨t555, A5, H⟩ := zO H
  by_cases c6 : t555 = true
  ·subst c6
   rw [if_pos rfl] at H
   obtain rfl := sI H
   go_enter Try.func6, Try.ntmps6
   go_wp2_with (first | ((with_reducible refine gate_dst (N := 6) rfl ?_); refine Kd.R_lit Kd.string _ 9 ?hg (N := 6) ?hd (xs := ([(⟨#[99, 97]⟩ : ByteArray)] : List ByteArray)) (inner := [.string (⟨#[99, 97]⟩ : ByteArray)]) (ok := fun _ => True) (okp := fun _ => True) ?hr ?hp (fun _ hk => hk) trivial (Below.refl _ _) (Nat.le_refl _) (by simp) ?_; (case hd => rfl); (case hg => rfl); (case hr => first | (go_simp; done) | (go_simp; rfl)); (case hp => exact (Reps.one (show Kd.M Kd.string _ _ _ (⟨#[99, 97]⟩ : ByteArray) [.string (⟨#[99, 97]⟩ : ByteArray)] from rfl) (Reps.none _ _))); intro v537 w7 ho8 hb hg_ hnew_; clear hg_ hnew_; (first | rw [← Ny536.out] at ho8 | (simp only [Int.reduceToNat] at ho8; rw [← Ny536.out] at ho8)); have n_ := zI (aM (Kd.R_lower ho8 (below_size zB))) (aM (below_step zB hb)); clear HB; obtain ⟨HO538, HB⟩ := n_; clear hb ho8; obtain ⟨Ao9, co9, rfl⟩ := Kd.R_slice HO538.out) | ((with_reducible refine gate_dst (N := 1) rfl ?_); refine box_event ?hg (N := 1) ?hd (cs := #[.string (⟨#[]⟩ : ByteArray), .slice none 0 0, .string (⟨#[]⟩ : ByteArray), .bool false, .bool false]) (t := 29) ?hr ?_; (case hd => rfl); (case hg => rfl); (case hr => first | (go_simp; done) | (go_simp; rfl)); intro gb539 hg w10 hbox hb; have n_ := zI (aM (Kd.R_below (zR HO538) hb)) (zI (aM (below_step zB hb)) (zI (aM (hbox)) (zI (aM ((by rw [hg]; exact (below_size zB) : w.heap.size ≤ gb539))) (aM ((by rw [hg]; exact (below_size zB) : w.heap.size ≤ gb539)))))); clear HO538 HB; obtain ⟨HO538, HB, BK539, GW539, GE539⟩ := n_; clear hb hbox hg; have hcz11_0 : w10.cell? ⟨gb539, 0, none⟩ = some (.string (⟨#[]⟩ : ByteArray)) := (blk_cell BK539.out 0).trans rfl; have hcz11_1 : w10.cell? ⟨gb539, 1, none⟩ = some (.slice none 0 0) := (blk_cell BK539.out 1).trans rfl; have hcz11_2 : w10.cell? ⟨gb539, 2, none⟩ = some (.string (⟨#[]⟩ : ByteArray)) := (blk_cell BK539.out 2).trans rfl; have hcz11_3 : w10.cell? ⟨gb539, 3, none⟩ = some (.bool false) := (blk_cell BK539.out 3).trans rfl; have hcz11_4 : w10.cell? ⟨gb539, 4, none⟩ = some (.bool false) := (blk_cell BK539.out 4).trans rfl; have hfz11_0 := blk_frozen BK539.out 0; have hfz11_1 := blk_frozen BK539.out 1; have hfz11_2 := blk_frozen BK539.out 2; have hfz11_3 := blk_frozen BK539.out 3; have hfz11_4 := blk_frozen BK539.out 4) | ((with_reducible refine gate_dst (N := 9) rfl ?_); refine Kd.R_lit Kd.string _ 9 ?hg (N := 9) ?hd (xs := ([(⟨#[195, 169, 32, 65, 85]⟩ : ByteArray)] : List ByteArray)) (inner := [.string (⟨#[195, 169, 32, 65, 85]⟩ : ByteArray)]) (ok := fun _ => True) (okp := fun _ => True) ?hr ?hp (fun _ hk => hk) trivial (Below.refl _ _) (Nat.le_refl _) (by simp) ?_; (case hd => rfl); (case hg => rfl); (case hr => first | (go_simp; done) | (go_simp; rfl)); (case hp => exact (Reps.one (show Kd.M Kd.string _ _ _ (⟨#[195, 169, 32, 65, 85]⟩ : ByteArray) [.string (⟨#[195, 169, 32, 65, 85]⟩ : ByteArray)] from rfl) (Reps.none _ _))); intro v541 w12 ho13 hb hg_ hnew_; clear hg_ hnew_; (first | rw [← Ny540.out] at ho13 | (simp only [Int.reduceToNat] at ho13; rw [← Ny540.out] at ho13)); have n_ := zI (aM (Kd.R_elder' (by (with_reducible repeat (first | apply Kd.R_alloc | apply Kd.R_drewN | apply Kd.R_drew)); exact (Kd.R_mono (Kd.R_far (p := ⟨gb539, 4, none⟩) (Kd.R_far (p := ⟨gb539, 3, none⟩) (Kd.R_far (p := ⟨gb539, 2, none⟩) (Kd.R_far (p := ⟨gb539, 1, none⟩) (Kd.R_far (p := ⟨gb539, 0, none⟩) (Kd.R_types HO538.out BK539.out (by decide)) (fun _ hk => hk.2) (.string (⟨#[32, 97, 98]⟩ : ByteArray))) (fun _ hk => hk.2) (.slice Ao9 y536.length co9)) (fun _ hk => hk.2) (.string (⟨#[99, 32]⟩ : ByteArray))) (fun _ hk => hk.2) (.bool true)) (fun _ hk => hk.2) (.bool true)) (fun _ h_ => h_.1))) (Kd.R_base ho13) hb)) (zI (aM (Kd.R_lower (Kd.R_new' ho13 (Kd.R_lt (by (with_reducible repeat (first | apply Kd.R_alloc | apply Kd.R_drewN | apply Kd.R_drew)); exact (Kd.R_mono (Kd.R_far (p := ⟨gb539, 4, none⟩) (Kd.R_far (p := ⟨gb539, 3, none⟩) (Kd.R_far (p := ⟨gb539, 2, none⟩) (Kd.R_far (p := ⟨gb539, 1, none⟩) (Kd.R_far (p := ⟨gb539, 0, none⟩) (Kd.R_types HO538.out BK539.out (by decide)) (fun _ hk => hk.2) (.string (⟨#[32, 97, 98]⟩ : ByteArray))) (fun _ hk => hk.2) (.slice Ao9 y536.length co9)) (fun _ hk => hk.2) (.string (⟨#[99, 32]⟩ : ByteArray))) (fun _ hk => hk.2) (.bool true)) (fun _ hk => hk.2) (.bool true)) (fun _ h_ => h_.1))))) (below_size (by repeat (first | (with_reducible first | exact HB.out | apply bA | apply bN | apply bD | refine below_set ?_ GE539.out) | exact HB.out))))) (zI (aM (blk_below (g := gb539) (o := .cells #[.string (⟨#[32, 97, 98]⟩ : ByteArray), .slice Ao9 y536.length co9, .string (⟨#[99, 32]⟩ : ByteArray), .bool true, .bool true] 29 (0, 0)) (by (with_reducible repeat (first | refine blk_drewN ?_ _ | refine blk_drew ?_ | refine blk_alloc ?_ _)); refine blk_put (cs := #[.string (⟨#[32, 97, 98]⟩ : ByteArray), .slice Ao9 y536.length co9, .string (⟨#[99, 32]⟩ : ByteArray), .bool true, .bool false]) ?_ 4 _ rfl; (with_reducible repeat (first | refine blk_drewN ?_ _ | refine blk_drew ?_ | refine blk_alloc ?_ _)); refine blk_put (cs := #[.string (⟨#[32, 97, 98]⟩ : ByteArray), .slice Ao9 y536.length co9, .string (⟨#[99, 32]⟩ : ByteArray), .bool false, .bool false]) ?_ 3 _ rfl; (with_reducible repeat (first | refine blk_drewN ?_ _ | refine blk_drew ?_ | refine blk_alloc ?_ _)); refine blk_put (cs := #[.string (⟨#[32, 97, 98]⟩ : ByteArray), .slice Ao9 y536.length co9, .string (⟨#[]⟩ : ByteArray), .bool false, .bool false]) ?_ 2 _ rfl; (with_reducible repeat (first | refine blk_drewN ?_ _ | refine blk_drew ?_ | refine blk_alloc ?_ _)); refine blk_put (cs := #[.string (⟨#[32, 97, 98]⟩ : ByteArray), .slice none 0 0, .string (⟨#[]⟩ : ByteArray), .bool false, .bool false]) ?_ 1 _ rfl; (with_reducible repeat (first | refine blk_drewN ?_ _ | refine blk_drew ?_ | refine blk_alloc ?_ _)); refine blk_put (cs := #[.string (⟨#[]⟩ : ByteArray), .slice none 0 0, .string (⟨#[]⟩ : ByteArray), .bool false, .bool false]) ?_ 0 _ rfl; (with_reducible repeat (first | refine blk_drewN ?_ _ | refine blk_drew ?_ | refine blk_alloc ?_ _)); exact BK539.out) hb)) (aM (below_step (by repeat (first | (with_reducible first | exact HB.out | apply bA | apply bN | apply bD | refine below_set ?_ GE539.out) | exact HB.out)) hb)))); clear HO538 BK539 HB; obtain ⟨HO538, HO542, BK539, HB⟩ := n_; clear hb ho13; obtain ⟨Ao14, co14, rfl⟩ := Kd.R_slice HO542.out) | ((with_reducible refine gate_callee (f := 11) rfl ?_); refine goesL_ (some 11) rfl rfl Try.func11 zK rfl #[.int .i64 2, .string (⟨#[67, 97, 102, 195, 137, 32, 97, 117, 32, 108, 97, 105, 116]⟩ : ByteArray), .agg #[.string (⟨#[]⟩ : ByteArray), .slice Ao14 y540.length co14, .string (⟨#[]⟩ : ByteArray), .bool false, .bool false]] rfl zM ?_; (with_reducible refine (pieces_Asks.calls k 2 (⟨#[67, 97, 102, 195, 137, 32, 97, 117, 32, 108, 97, 105, 116]⟩ : ByteArray) (⟨#[]⟩ : ByteArray) _ _ y540 (⟨#[]⟩ : ByteArray) false false t543 t544 _ (zEnv HE) ?side1 ?side2 A1.out).mono ?_); (case side1 => exact zC (Kd.R_reads' HO542.out).2.2); (case side2 => exact (Kd.R_reads' HO542.out).2.1); rintro e w15 ⟨rfl, hb⟩; refine ⟨_, rfl, ?_⟩; have n_ := zI (aM (Kd.R_below (zR HO538) hb)) (zI (aM (Kd.R_below (zR HO542) hb)) (zI (aM (blk_below (g := gb539) (o := .cells #[.string (⟨#[32, 97, 98]⟩ : ByteArray), .slice Ao9 y536.length co9, .string (⟨#[99, 32]⟩ : ByteArray), .bool true, .bool true] 29 (0, 0)) (by (with_reducible repeat (first | refine blk_drewN ?_ _ | refine blk_drew ?_ | refine blk_alloc ?_ _)); exact BK539.out) hb)) (aM (below_step (by repeat (first | (with_reducible first | exact HB.out | apply bA | apply bN | apply bD | refine below_set ?_ GE539.out) | exact HB.out)) hb)))); clear HO538 HO542 BK539 HB; obtain ⟨HO538, HO542, BK539, HB⟩ := n_; (try clear hb); (try clear hk)) | ((with_reducible refine gate_callee (f := 12) rfl ?_); refine goesL_ (some 16) rfl rfl Try.func12 zK rfl #[.int .i64 2, .agg #[.string (⟨#[]⟩ : ByteArray), .slice none 0 0, .string (⟨#[]⟩ : ByteArray), .bool false, .bool false]] rfl zM ?_; (refine (pieces_Prepare.calls k 2 (⟨#[]⟩ : ByteArray) _ _ ([] : List ByteArray) (⟨#[]⟩ : ByteArray) false false t545 t546 t549 t550 t551 t552 _ ?side1 ?side2 A2.out).mono ?_); (case side1 => exact Kd.C_nil _ _); (case side2 => exact Nat.le_refl _); rintro e w16 ⟨v547, rfl, ho0, hb⟩; refine ⟨_, rfl, ?_⟩; have n_ := zI (aM (Kd.R_elder' (zR HO538) (Kd.R_base ho0) hb)) (zI (aM (Kd.R_elder' (zR HO542) (Kd.R_base ho0) hb)) (zI (aM (Kd.R_lower (Kd.R_new' (Kd.R_new' ho0 (Kd.R_lt (zR HO538))) (Kd.R_lt (zR HO542))) (below_size (by repeat (first | (with_reducible first | exact HB.out | apply bA | apply bN | apply bD | refine below_set ?_ GE539.out) | exact HB.out))))) (zI (aM (blk_below (g := gb539) (o := .cells #[.string (⟨#[32, 97, 98]⟩ : ByteArray), .slice Ao9 y536.length co9, .string (⟨#[99, 32]⟩ : ByteArray), .bool true, .bool true] 29 (0, 0)) (by (with_reducible repeat (first | refine blk_drewN ?_ _ | refine blk_drew ?_ | refine blk_alloc ?_ _)); exact BK539.out) hb)) (aM (below_step (by repeat (first | (with_reducible first | exact HB.out | apply bA | apply bN | apply bD | refine below_set ?_ GE539.out) | exact HB.out)) hb))))); clear HO538 HO542 BK539 HB; obtain ⟨HO538, HO542, HO548, BK539, HB⟩ := n_; (try clear hb); (try clear hk); (try clear ho0)) | ((with_reducible refine gate_dst (N := 4) rfl ?_); refine box_event ?hg (N := 4) ?hd (cs := #[.string (⟨#[]⟩ : ByteArray), .slice none 0 0, .string (⟨#[]⟩ : ByteArray), .bool false, .bool false]) (t := 29) ?hr ?_; (case hd => rfl); (case hg => rfl); (case hr => first | (go_simp; done) | (go_simp; rfl)); intro gb553 hg w17 hbox hb; have n_ := zI (aM (Kd.R_below (zR HO538) hb)) (zI (aM (Kd.R_below (zR HO542) hb)) (zI (aM (Kd.R_below (zR HO548) hb)) (zI (aM (blk_below (g := gb539) (o := .cells #[.string (⟨#[32, 97, 98]⟩ : ByteArray), .slice Ao9 y536.length co9, .string (⟨#[99, 32]⟩ : ByteArray), .bool true, .bool true] 29 (0, 0)) (by (with_reducible repeat (first | refine blk_drewN ?_ _ | refine blk_drew ?_ | refine blk_alloc ?_ _)); exact BK539.out) hb)) (zI (aM (below_step (by repeat (first | (with_reducible first | exact HB.out | apply bA | apply bN | apply bD | refine below_set ?_ GE539.out) | exact HB.out)) hb)) (zI (aM (hbox)) (zI (aM ((by rw [hg]; exact (below_size (by repeat (first | (with_reducible first | exact HB.out | apply bA | apply bN | apply bD | refine below_set ?_ GE539.out) | exact HB.out))) : w.heap.size ≤ gb553))) (zI (aM ((by rw [hg]; exact (below_size (by repeat (first | (with_reducible first | exact HB.out | apply bA | apply bN | apply bD | refine below_set ?_ GE539.out) | exact HB.out))) : w.heap.size ≤ gb553))) (zI (aM ((by rw [hg]; exact Nat.ne_of_lt (blk_lt (g := gb539) (o := .cells #[.string (⟨#[32, 97, 98]⟩ : ByteArray), .slice Ao9 y536.length co9, .string (⟨#[99, 32]⟩ : ByteArray), .bool true, .bool true] 29 (0, 0)) (by (with_reducible repeat (first | refine blk_drewN ?_ _ | refine blk_drew ?_ | refine blk_alloc ?_ _)); exact BK539.out)) : gb539 ≠ gb553))) (aM ((by rw [hg]; exact Nat.ne_of_gt (blk_lt (g := gb539) (o := .cells #[.string (⟨#[32, 97, 98]⟩ : ByteArray), .slice Ao9 y536.length co9, .string (⟨#[99, 32]⟩ : ByteArray), .bool true, .bool true] 29 (0, 0)) (by (with_reducible repeat (first | refine blk_drewN ?_ _ | refine blk_drew ?_ | refine blk_alloc ?_ _)); exact BK539.out)) : gb553 ≠ gb539))))))))))); clear HO538 HO542 HO548 BK539 HB; obtain ⟨HO538, HO542, HO548, BK539, HB, BK553, GW553, GE553, NB539_553, NB553_539⟩ := n_; clear hb hbox hg; have hnb18 := NB553_539.out; have hnc18 := NB539_553.out; have hcz19_0 : w17.cell? ⟨gb553, 0, none⟩ = some (.string (⟨#[]⟩ : ByteArray)) := (blk_cell BK553.out 0).trans rfl; have hcz19_1 : w17.cell? ⟨gb553, 1, none⟩ = some (.slice none 0 0) := (blk_cell BK553.out 1).trans rfl; have hcz19_2 : w17.cell? ⟨gb553, 2, none⟩ = some (.string (⟨#[]⟩ : ByteArray)) := (blk_cell BK553.out 2).trans rfl; have hcz19_3 : w17.cell? ⟨gb553, 3, none⟩ = some (.bool false) := (blk_cell BK553.out 3).trans rfl; have hcz19_4 : w17.cell? ⟨gb553, 4, none⟩ = some (.bool false) := (blk_cell BK553.out 4).trans rfl; have hfz19_0 := blk_frozen BK553.out 0; have hfz19_1 := blk_frozen BK553.out 1; have hfz19_2 := blk_frozen BK553.out 2; have hfz19_3 := blk_frozen BK553.out 3; have hfz19_4 := blk_frozen BK553.out 4; obtain ⟨Ao20, co20, rfl⟩ := Kd.R_slice HO548.out; have hcz21_0 : w17.cell? ⟨gb539, 0, none⟩ = some (.string (⟨#[32, 97, 98]⟩ : ByteArray)) := (blk_cell BK539.out 0).trans rfl; have hcz21_1 : w17.cell? ⟨gb539, 1, none⟩ = some (.slice Ao9 y536.length co9) := (blk_cell BK539.out 1).trans rfl; have hcz21_2 : w17.cell? ⟨gb539, 2, none⟩ = some (.string (⟨#[99, 32]⟩ : ByteArray)) := (blk_cell BK539.out 2).trans rfl; have hcz21_3 : w17.cell? ⟨gb539, 3, none⟩ = some (.bool true) := (blk_cell BK539.out 3).trans rfl; have hcz21_4 : w17.cell? ⟨gb539, 4, none⟩ = some (.bool true) := (blk_cell BK539.out 4).trans rfl; have hfz21_0 := blk_frozen BK539.out 0; have hfz21_1 := blk_frozen BK539.out 1; have hfz21_2 := blk_frozen BK539.out 2; have hfz21_3 := blk_frozen BK539.out 3; have hfz21_4 := blk_frozen BK539.out 4) | ((with_reducible refine gate_callee (f := 9) rfl ?_); refine goesL_ (some 20) rfl rfl Try.func9 zK rfl #[.string (⟨#[32, 97, 98, 99, 97, 98, 99, 32]⟩ : ByteArray), .agg #[.string (⟨#[32, 97, 98]⟩ : ByteArray), .slice Ao9 y536.length co9, .string (⟨#[99, 32]⟩ : ByteArray), .bool true, .bool true]] rfl zM ?_; (with_reducible refine (pieces_Match.calls k (⟨#[32, 97, 98, 99, 97, 98, 99, 32]⟩ : ByteArray) (⟨#[32, 97, 98]⟩ : ByteArray) _ _ y536 (⟨#[99, 32]⟩ : ByteArray) true true true _ (zEnv HE) ?side1 ?side2 A3.out).mono ?_); (case side1 => refine (Kd.R_reads' (e := 9) (base := w.heap.size) (ok := fun k_ => ((True ∧ some k_ ≠ (.slice Ao14 y540.length co14 : Value).ownBlock) ∧ some k_ ≠ (.slice Ao20 t546.length co20 : Value).ownBlock)) (n := y536.length) (c := co9) ?_).2.2; exact (by (with_reducible repeat (first | apply Kd.R_alloc | apply Kd.R_drewN | apply Kd.R_drew)); exact (Kd.R_mono (Kd.R_far (p := ⟨gb553, 4, none⟩) (Kd.R_far (p := ⟨gb553, 3, none⟩) (Kd.R_far (p := ⟨gb553, 2, none⟩) (Kd.R_far (p := ⟨gb553, 1, none⟩) (Kd.R_far (p := ⟨gb553, 0, none⟩) (Kd.R_types HO538.out BK553.out (by decide)) (fun _ hk => hk.2) (.string t545)) (fun _ hk => hk.2) (.slice Ao20 t546.length co20)) (fun _ hk => hk.2) (.string t549)) (fun _ hk => hk.2) (.bool t550)) (fun _ hk => hk.2) (.bool t551)) (fun _ h_ => h_.1)))); (case side2 => exact (Kd.R_reads' HO538.out).2.1); rintro e w22 ⟨rfl, hb⟩; (try clear A3); refine ⟨_, rfl, ?_⟩; have n_ := zI (aM (Kd.R_below (by (with_reducible repeat (first | apply Kd.R_alloc | apply Kd.R_drewN | apply Kd.R_drew)); exact (Kd.R_mono (Kd.R_far (p := ⟨gb553, 4, none⟩) (Kd.R_far (p := ⟨gb553, 3, none⟩) (Kd.R_far (p := ⟨gb553, 2, none⟩) (Kd.R_far (p := ⟨gb553, 1, none⟩) (Kd.R_far (p := ⟨gb553, 0, none⟩) (Kd.R_types HO538.out BK553.out (by decide)) (fun _ hk => hk.2) (.string t545)) (fun _ hk => hk.2) (.slice Ao20 t546.length co20)) (fun _ hk => hk.2) (.string t549)) (fun _ hk => hk.2) (.bool t550)) (fun _ hk => hk.2) (.bool t551)) (fun _ h_ => h_.1))) hb)) (zI (aM (Kd.R_below (by (with_reducible repeat (first | apply Kd.R_alloc | apply Kd.R_drewN | apply Kd.R_drew)); exact (Kd.R_mono (Kd.R_far (p := ⟨gb553, 4, none⟩) (Kd.R_far (p := ⟨gb553, 3, none⟩) (Kd.R_far (p := ⟨gb553, 2, none⟩) (Kd.R_far (p := ⟨gb553, 1, none⟩) (Kd.R_far (p := ⟨gb553, 0, none⟩) (Kd.R_types HO542.out BK553.out (by decide)) (fun _ hk => hk.2) (.string t545)) (fun _ hk => hk.2) (.slice Ao20 t546.length co20)) (fun _ hk => hk.2) (.string t549)) (fun _ hk => hk.2) (.bool t550)) (fun _ hk => hk.2) (.bool t551)) (fun _ h_ => h_.1))) hb)) (zI (aM (Kd.R_below (by (with_reducible repeat (first | apply Kd.R_alloc | apply Kd.R_drewN | apply Kd.R_drew)); exact (Kd.R_mono (Kd.R_far (p := ⟨gb553, 4, none⟩) (Kd.R_far (p := ⟨gb553, 3, none⟩) (Kd.R_far (p := ⟨gb553, 2, none⟩) (Kd.R_far (p := ⟨gb553, 1, none⟩) (Kd.R_far (p := ⟨gb553, 0, none⟩) (Kd.R_types HO548.out BK553.out (by decide)) (fun _ hk => hk.2) (.string t545)) (fun _ hk => hk.2) (.slice Ao20 t546.length co20)) (fun _ hk => hk.2) (.string t549)) (fun _ hk => hk.2) (.bool t550)) (fun _ hk => hk.2) (.bool t551)) (fun _ h_ => h_.1))) hb)) (zI (aM (blk_below (g := gb539) (o := .cells #[.string (⟨#[32, 97, 98]⟩ : ByteArray), .slice Ao9 y536.length co9, .string (⟨#[99, 32]⟩ : ByteArray), .bool true, .bool true] 29 (0, 0)) (by (with_reducible repeat (first | refine blk_drewN ?_ _ | refine blk_drew ?_ | refine blk_alloc ?_ _)); refine blk_far ?_ NB539_553.out _; (with_reducible repeat (first | refine blk_drewN ?_ _ | refine blk_drew ?_ | refine blk_alloc ?_ _)); refine blk_far ?_ NB539_553.out _; (with_reducible repeat (first | refine blk_drewN ?_ _ | refine blk_drew ?_ | refine blk_alloc ?_ _)); refine blk_far ?_ NB539_553.out _; (with_reducible repeat (first | refine blk_drewN ?_ _ | refine blk_drew ?_ | refine blk_alloc ?_ _)); refine blk_far ?_ NB539_553.out _; (with_reducible repeat (first | refine blk_drewN ?_ _ | refine blk_drew ?_ | refine blk_alloc ?_ _)); refine blk_far ?_ NB539_553.out _; (with_reducible repeat (first | refine blk_drewN ?_ _ | refine blk_drew ?_ | refine blk_alloc ?_ _)); exact BK539.out) hb)) (zI (aM (blk_below (g := gb553) (o := .cells #[.string t545, .slice Ao20 t546.length co20, .string t549, .bool t550, .bool t551] 29 (0, 0)) (by (with_reducible repeat (first | refine blk_drewN ?_ _ | refine blk_drew ?_ | refine blk_alloc ?_ _)); refine blk_put (cs := #[.string t545, .slice Ao20 t546.length co20, .string t549, .bool t550, .bool false]) ?_ 4 _ rfl; (with_reducible repeat (first | refine blk_drewN ?_ _ | refine blk_drew ?_ | refine blk_alloc ?_ _)); refine blk_put (cs := #[.string t545, .slice Ao20 t546.length co20, .string t549, .bool false, .bool false]) ?_ 3 _ rfl; (with_reducible repeat (first | refine blk_drewN ?_ _ | refine blk_drew ?_ | refine blk_alloc ?_ _)); refine blk_put (cs := #[.string t545, .slice Ao20 t546.length co20, .string (⟨#[]⟩ : ByteArray), .bool false, .bool false]) ?_ 2 _ rfl; (with_reducible repeat (first | refine blk_drewN ?_ _ | refine blk_drew ?_ | refine blk_alloc ?_ _)); refine blk_put (cs := #[.string t545, .slice none 0 0, .string (⟨#[]⟩ : ByteArray), .bool false, .bool false]) ?_ 1 _ rfl; (with_reducible repeat (first | refine blk_drewN ?_ _ | refine blk_drew ?_ | refine blk_alloc ?_ _)); refine blk_put (cs := #[.string (⟨#[]⟩ : ByteArray), .slice none 0 0, .string (⟨#[]⟩ : ByteArray), .bool false, .bool false]) ?_ 0 _ rfl; (with_reducible repeat (first | refine blk_drewN ?_ _ | refine blk_drew ?_ | refine blk_alloc ?_ _)); exact BK553.out) hb)) (aM (below_step (by repeat (first | (with_reducible first | exact HB.out | apply bA | apply bN | apply bD | refine below_set ?_ GE539.out | refine below_set ?_ GE553.out) | exact HB.out)) hb)))))); clear HO538 HO542 HO548 BK539 BK553 HB; obtain ⟨HO538, HO542, HO548, BK539, BK553, HB⟩ := n_; (try clear hb); (try clear hk); have hcz23_0 : w22.cell? ⟨gb539, 0, none⟩ = some (.string (⟨#[32, 97, 98]⟩ : ByteArray)) := (blk_cell BK539.out 0).trans rfl; have hcz23_1 : w22.cell? ⟨gb539, 1, none⟩ = some (.slice Ao9 y536.length co9) := (blk_cell BK539.out 1).trans rfl; have hcz23_2 : w22.cell? ⟨gb539, 2, none⟩ = some (.string (⟨#[99, 32]⟩ : ByteArray)) := (blk_cell BK539.out 2).trans rfl; have hcz23_3 : w22.cell? ⟨gb539, 3, none⟩ = some (.bool true) := (blk_cell BK539.out 3).trans rfl; have hcz23_4 : w22.cell? ⟨gb539, 4, none⟩ = some (.bool true) := (blk_cell BK539.out 4).trans rfl; have hfz23_0 := blk_frozen BK539.out 0; have hfz23_1 := blk_frozen BK539.out 1; have hfz23_2 := blk_frozen BK539.out 2; have hfz23_3 := blk_frozen BK539.out 3; have hfz23_4 := blk_frozen BK539.out 4) | (go_at_call 9; (with_reducible refine (pieces_Match.calls k (⟨#[32, 97, 98]⟩ : ByteArray) (⟨#[32, 97, 98]⟩ : ByteArray) _ _ y536 (⟨#[99, 32]⟩ : ByteArray) true true true _ (zEnv HE) ?side1 ?side2 A5.out).mono ?_); (case side1 => exact zC (Kd.R_reads' HO538.out).2.2); (case side2 => exact (Kd.R_reads' HO538.out).2.1); rintro e w24 ⟨rfl, hb⟩; (try clear A5); have n_ := zI (aM (Kd.R_below (zR HO538) hb)) (zI (aM (Kd.R_below (zR HO542) hb)) (zI (aM (Kd.R_below (zR HO548) hb)) (zI (aM (blk_below (g := gb539) (o := .cells #[.string (⟨#[32, 97, 98]⟩ : ByteArray), .slice Ao9 y536.length co9, .string (⟨#[99, 32]⟩ : ByteArray), .bool true, .bool true] 29 (0, 0)) (by (with_reducible repeat (first | refine blk_drewN ?_ _ | refine blk_drew ?_ | refine blk_alloc ?_ _)); exact BK539.out) hb)) (zI (aM (blk_below (g := gb553) (o := .cells #[.string t545, .slice Ao20 t546.length co20, .string t549, .bool t550, .bool t551] 29 (0, 0)) (by (with_reducible repeat (first | refine blk_drewN ?_ _ | refine blk_drew ?_ | refine blk_alloc ?_ _)); exact BK553.out) hb)) (aM (below_step (by repeat (first | (with_reducible first | exact HB.out | apply bA | apply bN | apply bD | refine below_set ?_ GE539.out | refine below_set ?_ GE553.out) | exact HB.out)) hb)))))); clear HO538 HO542 HO548 BK539 BK553 HB; obtain ⟨HO538, HO542, HO548, BK539, BK553, HB⟩ := n_; (try clear hb); (try clear hk)))
   go_ret
   exact ⟨zE, by repeat (first | (with_reducible first | exact HB.out | apply bA | apply bN | apply bD | refine below_set ?_ GE539.out | refine below_set ?_ GE553.out) | exact HB.out)⟩
  ·replace c6 := Bool.eq_false_iff.mpr c6
   subst c6
   rw [if_neg (show ¬ (false = true) by decide)] at H
   by_cases c25 : t543 = true
   ·subst c25
    rw [if_pos rfl] at H
    by_cases c26 : t544 = 0
    ·rw [if_pos c26] at H
     have c26b0 : (t544 == 0) = true := beq_iff_eq.mpr c26
     have c26b1 : (t544 != 0) = false := bne_eq_false_iff_eq.mpr c26
     clear c26
     by_cases c27 : t552 = 2
     ·rw [if_pos c27] at H
      have c27b0 : (t552 == 2) = true := beq_iff_eq.mpr c27
      have c27b1 : (t552 != 2) = false := bne_eq_false_iff_eq.mpr c27
      clear c27
      obtain ⟨t556, A28, H⟩ := zO H
      obtain rfl := sI H
      go_enter Try.func6, Try.ntmps6
      go_wp2_with (first | ((with_reducible refine gate_dst (N := 6) rfl ?_); refine Kd.R_lit Kd.string _ 9 ?hg (N := 6) ?hd (xs := ([(⟨#[99, 97]⟩ : ByteArray)] : List ByteArray)) (inner := [.string (⟨#[99, 97]⟩ : ByteArray)]) (ok := fun _ => True) (okp := fun _ => True) ?hr ?hp (fun _ hk => hk) trivial (Below.refl _ _) (Nat.le_refl _) (by simp) ?_; (case hd => rfl); (case hg => rfl); (case hr => first | (go_simp; done) | (go_simp; rfl)); (case hp => exact (Reps.one (show Kd.M Kd.string _ _ _ (⟨#[99, 97]⟩ : ByteArray) [.string (⟨#[99, 97]⟩ : ByteArray)] from rfl) (Reps.none _ _))); intro v537 w29 ho30 hb hg_ hnew_; clear hg_ hnew_; (first | rw [← Ny536.out] at ho30 | (simp only [Int.reduceToNat] at ho30; rw [← Ny536.out] at ho30)); have n_ := zI (aM (Kd.R_lower ho30 (below_size zB))) (aM (below_step zB hb)); clear HB; obtain ⟨HO538, HB⟩ := n_; clear hb ho30; obtain ⟨Ao31, co31, rfl⟩ := Kd.R_slice HO538.out) | ((with_reducible refine gate_dst (N := 1) rfl ?_); refine box_event ?hg (N := 1) ?hd (cs := #[.string (⟨#[]⟩ : ByteArray), .slice none 0 0, .string (⟨#[]⟩ : ByteArray), .bool false, .bool false]) (t := 29) ?hr ?_; (case hd => rfl); (case hg => rfl); (case hr => first | (go_simp; done) | (go_simp; rfl)); intro gb539 hg w32 hbox hb; have n_ := zI (aM (Kd.R_below (zR HO538) hb)) (zI (aM (below_step zB hb)) (zI (aM (hbox)) (zI (aM ((by rw [hg]; exact (below_size zB) : w.heap.size ≤ gb539))) (aM ((by rw [hg]; exact (below_size zB) : w.heap.size ≤ gb539)))))); clear HO538 HB; obtain ⟨HO538, HB, BK539, GW539, GE539⟩ := n_; clear hb hbox hg; have hcz33_0 : w32.cell? ⟨gb539, 0, none⟩ = some (.string (⟨#[]⟩ : ByteArray)) := (blk_cell BK539.out 0).trans rfl; have hcz33_1 : w32.cell? ⟨gb539, 1, none⟩ = some (.slice none 0 0) := (blk_cell BK539.out 1).trans rfl; have hcz33_2 : w32.cell? ⟨gb539, 2, none⟩ = some (.string (⟨#[]⟩ : ByteArray)) := (blk_cell BK539.out 2).trans rfl; have hcz33_3 : w32.cell? ⟨gb539, 3, none⟩ = some (.bool false) := (blk_cell BK539.out 3).trans rfl; have hcz33_4 : w32.cell? ⟨gb539, 4, none⟩ = some (.bool false) := (blk_cell BK539.out 4).trans rfl; have hfz33_0 := blk_frozen BK539.out 0; have hfz33_1 := blk_frozen BK539.out 1; have hfz33_2 := blk_frozen BK539.out 2; have hfz33_3 := blk_frozen BK539.out 3; have hfz33_4 := blk_frozen BK539.out 4) | ((with_reducible refine gate_dst (N := 9) rfl ?_); refine Kd.R_lit Kd.string _ 9 ?hg (N := 9) ?hd (xs := ([(⟨#[195, 169, 32, 65, 85]⟩ : ByteArray)] : List ByteArray)) (inner := [.string (⟨#[195, 169, 32, 65, 85]⟩ : ByteArray)]) (ok := fun _ => True) (okp := fun _ => True) ?hr ?hp (fun _ hk => hk) trivial (Below.refl _ _) (Nat.le_refl _) (by simp) ?_; (case hd => rfl); (case hg => rfl); (case hr => first | (go_simp; done) | (go_simp; rfl)); (case hp => exact (Reps.one (show Kd.M Kd.string _ _ _ (⟨#[195, 169, 32, 65, 85]⟩ : ByteArray) [.string (⟨#[195, 169, 32, 65, 85]⟩ : ByteArray)] from rfl) (Reps.none _ _))); intro v541 w34 ho35 hb hg_ hnew_; clear hg_ hnew_; (first | rw [← Ny540.out] at ho35 | (simp only [Int.reduceToNat] at ho35; rw [← Ny540.out] at ho35)); have n_ := zI (aM (Kd.R_elder' (by (with_reducible repeat (first | apply Kd.R_alloc | apply Kd.R_drewN | apply Kd.R_drew)); exact (Kd.R_mono (Kd.R_far (p := ⟨gb539, 4, none⟩) (Kd.R_far (p := ⟨gb539, 3, none⟩) (Kd.R_far (p := ⟨gb539, 2, none⟩) (Kd.R_far (p := ⟨gb539, 1, none⟩) (Kd.R_far (p := ⟨gb539, 0, none⟩) (Kd.R_types HO538.out BK539.out (by decide)) (fun _ hk => hk.2) (.string (⟨#[32, 97, 98]⟩ : ByteArray))) (fun _ hk => hk.2) (.slice Ao31 y536.length co31)) (fun _ hk => hk.2) (.string (⟨#[99, 32]⟩ : ByteArray))) (fun _ hk => hk.2) (.bool true)) (fun _ hk => hk.2) (.bool true)) (fun _ h_ => h_.1))) (Kd.R_base ho35) hb)) (zI (aM (Kd.R_lower (Kd.R_new' ho35 (Kd.R_lt (by (with_reducible repeat (first | apply Kd.R_alloc | apply Kd.R_drewN | apply Kd.R_drew)); exact (Kd.R_mono (Kd.R_far (p := ⟨gb539, 4, none⟩) (Kd.R_far (p := ⟨gb539, 3, none⟩) (Kd.R_far (p := ⟨gb539, 2, none⟩) (Kd.R_far (p := ⟨gb539, 1, none⟩) (Kd.R_far (p := ⟨gb539, 0, none⟩) (Kd.R_types HO538.out BK539.out (by decide)) (fun _ hk => hk.2) (.string (⟨#[32, 97, 98]⟩ : ByteArray))) (fun _ hk => hk.2) (.slice Ao31 y536.length co31)) (fun _ hk => hk.2) (.string (⟨#[99, 32]⟩ : ByteArray))) (fun _ hk => hk.2) (.bool true)) (fun _ hk => hk.2) (.bool true)) (fun _ h_ => h_.1))))) (below_size (by repeat (first | (with_reducible first | exact HB.out | apply bA | apply bN | apply bD | refine below_set ?_ GE539.out) | exact HB.out))))) (zI (aM (blk_below (g := gb539) (o := .cells #[.string (⟨#[32, 97, 98]⟩ : ByteArray), .slice Ao31 y536.length co31, .string (⟨#[99, 32]⟩ : ByteArray), .bool true, .bool true] 29 (0, 0)) (by (with_reducible repeat (first | refine blk_drewN ?_ _ | refine blk_drew ?_ | refine blk_alloc ?_ _)); refine blk_put (cs := #[.string (⟨#[32, 97, 98]⟩ : ByteArray), .slice Ao31 y536.length co31, .string (⟨#[99, 32]⟩ : ByteArray), .bool true, .bool false]) ?_ 4 _ rfl; (with_reducible repeat (first | refine blk_drewN ?_ _ | refine blk_drew ?_ | refine blk_alloc ?_ _)); refine blk_put (cs := #[.string (⟨#[32, 97, 98]⟩ : ByteArray), .slice Ao31 y536.length co31, .string (⟨#[99, 32]⟩ : ByteArray), .bool false, .bool false]) ?_ 3 _ rfl; (with_reducible repeat (first | refine blk_drewN ?_ _ | refine blk_drew ?_ | refine blk_alloc ?_ _)); refine blk_put (cs := #[.string (⟨#[32, 97, 98]⟩ : ByteArray), .slice Ao31 y536.length co31, .string (⟨#[]⟩ : ByteArray), .bool false, .bool false]) ?_ 2 _ rfl; (with_reducible repeat (first | refine blk_drewN ?_ _ | refine blk_drew ?_ | refine blk_alloc ?_ _)); refine blk_put (cs := #[.string (⟨#[32, 97, 98]⟩ : ByteArray), .slice none 0 0, .string (⟨#[]⟩ : ByteArray), .bool false, .bool false]) ?_ 1 _ rfl; (with_reducible repeat (first | refine blk_drewN ?_ _ | refine blk_drew ?_ | refine blk_alloc ?_ _)); refine blk_put (cs := #[.string (⟨#[]⟩ : ByteArray), .slice none 0 0, .string (⟨#[]⟩ : ByteArray), .bool false, .bool false]) ?_ 0 _ rfl; (with_reducible repeat (first | refine blk_drewN ?_ _ | refine blk_drew ?_ | refine blk_alloc ?_ _)); exact BK539.out) hb)) (aM (below_step (by repeat (first | (with_reducible first | exact HB.out | apply bA | apply bN | apply bD | refine below_set ?_ GE539.out) | exact HB.out)) hb)))); clear HO538 BK539 HB; obtain ⟨HO538, HO542, BK539, HB⟩ := n_; clear hb ho35; obtain ⟨Ao36, co36, rfl⟩ := Kd.R_slice HO542.out) | ((with_reducible refine gate_callee (f := 11) rfl ?_); refine goesL_ (some 11) rfl rfl Try.func11 zK rfl #[.int .i64 2, .string (⟨#[67, 97, 102, 195, 137, 32, 97, 117, 32, 108, 97, 105, 116]⟩ : ByteArray), .agg #[.string (⟨#[]⟩ : ByteArray), .slice Ao36 y540.length co36, .string (⟨#[]⟩ : ByteArray), .bool false, .bool false]] rfl zM ?_; (with_reducible refine (pieces_Asks.calls k 2 (⟨#[67, 97, 102, 195, 137, 32, 97, 117, 32, 108, 97, 105, 116]⟩ : ByteArray) (⟨#[]⟩ : ByteArray) _ _ y540 (⟨#[]⟩ : ByteArray) false false true t544 _ (zEnv HE) ?side1 ?side2 A1.out).mono ?_); (case side1 => exact zC (Kd.R_reads' HO542.out).2.2); (case side2 => exact (Kd.R_reads' HO542.out).2.1); rintro e w37 ⟨rfl, hb⟩; refine ⟨_, rfl, ?_⟩; have n_ := zI (aM (Kd.R_below (zR HO538) hb)) (zI (aM (Kd.R_below (zR HO542) hb)) (zI (aM (blk_below (g := gb539) (o := .cells #[.string (⟨#[32, 97, 98]⟩ : ByteArray), .slice Ao31 y536.length co31, .string (⟨#[99, 32]⟩ : ByteArray), .bool true, .bool true] 29 (0, 0)) (by (with_reducible repeat (first | refine blk_drewN ?_ _ | refine blk_drew ?_ | refine blk_alloc ?_ _)); exact BK539.out) hb)) (aM (below_step (by repeat (first | (with_reducible first | exact HB.out | apply bA | apply bN | apply bD | refine below_set ?_ GE539.out) | exact HB.out)) hb)))); clear HO538 HO542 BK539 HB; obtain ⟨HO538, HO542, BK539, HB⟩ := n_; (try clear hb); (try clear hk)) | ((with_reducible refine gate_callee (f := 12) rfl ?_); refine goesL_ (some 16) rfl rfl Try.func12 zK rfl #[.int .i64 2, .agg #[.string (⟨#[]⟩ : ByteArray), .slice none 0 0, .string (⟨#[]⟩ : ByteArray), .bool false, .bool false]] rfl zM ?_; (refine (pieces_Prepare.calls k 2 (⟨#[]⟩ : ByteArray) _ _ ([] : List ByteArray) (⟨#[]⟩ : ByteArray) false false t545 t546 t549 t550 t551 t552 _ ?side1 ?side2 A2.out).mono ?_); (case side1 => exact Kd.C_nil _ _); (case side2 => exact Nat.le_refl _); rintro e w38 ⟨v547, rfl, ho0, hb⟩; refine ⟨_, rfl, ?_⟩; have n_ := zI (aM (Kd.R_elder' (zR HO538) (Kd.R_base ho0) hb)) (zI (aM (Kd.R_elder' (zR HO542) (Kd.R_base ho0) hb)) (zI (aM (Kd.R_lower (Kd.R_new' (Kd.R_new' ho0 (Kd.R_lt (zR HO538))) (Kd.R_lt (zR HO542))) (below_size (by repeat (first | (with_reducible first | exact HB.out | apply bA | apply bN | apply bD | refine below_set ?_ GE539.out) | exact HB.out))))) (zI (aM (blk_below (g := gb539) (o := .cells #[.string (⟨#[32, 97, 98]⟩ : ByteArray), .slice Ao31 y536.length co31, .string (⟨#[99, 32]⟩ : ByteArray), .bool true, .bool true] 29 (0, 0)) (by (with_reducible repeat (first | refine blk_drewN ?_ _ | refine blk_drew ?_ | refine blk_alloc ?_ _)); exact BK539.out) hb)) (aM (below_step (by repeat (first | (with_reducible first | exact HB.out | apply bA | apply bN | apply bD | refine below_set ?_ GE539.out) | exact HB.out)) hb))))); clear HO538 HO542 BK539 HB; obtain ⟨HO538, HO542, HO548, BK539, HB⟩ := n_; (try clear hb); (try clear hk); (try clear ho0)) | ((with_reducible refine gate_dst (N := 4) rfl ?_); refine box_event ?hg (N := 4) ?hd (cs := #[.string (⟨#[]⟩ : ByteArray), .slice none 0 0, .string (⟨#[]⟩ : ByteArray), .bool false, .bool false]) (t := 29) ?hr ?_; (case hd => rfl); (case hg => rfl); (case hr => first | (go_simp; done) | (go_simp; rfl)); intro gb553 hg w39 hbox hb; have n_ := zI (aM (Kd.R_below (zR HO538) hb)) (zI (aM (Kd.R_below (zR HO542) hb)) (zI (aM (Kd.R_below (zR HO548) hb)) (zI (aM (blk_below (g := gb539) (o := .cells #[.string (⟨#[32, 97, 98]⟩ : ByteArray), .slice Ao31 y536.length co31, .string (⟨#[99, 32]⟩ : ByteArray), .bool true, .bool true] 29 (0, 0)) (by (with_reducible repeat (first | refine blk_drewN ?_ _ | refine blk_drew ?_ | refine blk_alloc ?_ _)); exact BK539.out) hb)) (zI (aM (below_step (by repeat (first | (with_reducible first | exact HB.out | apply bA | apply bN | apply bD | refine below_set ?_ GE539.out) | exact HB.out)) hb)) (zI (aM (hbox)) (zI (aM ((by rw [hg]; exact (below_size (by repeat (first | (with_reducible first | exact HB.out | apply bA | apply bN | apply bD | refine below_set ?_ GE539.out) | exact HB.out))) : w.heap.size ≤ gb553))) (zI (aM ((by rw [hg]; exact (below_size (by repeat (first | (with_reducible first | exact HB.out | apply bA | apply bN | apply bD | refine below_set ?_ GE539.out) | exact HB.out))) : w.heap.size ≤ gb553))) (zI (aM ((by rw [hg]; exact Nat.ne_of_lt (blk_lt (g := gb539) (o := .cells #[.string (⟨#[32, 97, 98]⟩ : ByteArray), .slice Ao31 y536.length co31, .string (⟨#[99, 32]⟩ : ByteArray), .bool true, .bool true] 29 (0, 0)) (by (with_reducible repeat (first | refine blk_drewN ?_ _ | refine blk_drew ?_ | refine blk_alloc ?_ _)); exact BK539.out)) : gb539 ≠ gb553))) (aM ((by rw [hg]; exact Nat.ne_of_gt (blk_lt (g := gb539) (o := .cells #[.string (⟨#[32, 97, 98]⟩ : ByteArray), .slice Ao31 y536.length co31, .string (⟨#[99, 32]⟩ : ByteArray), .bool true, .bool true] 29 (0, 0)) (by (with_reducible repeat (first | refine blk_drewN ?_ _ | refine blk_drew ?_ | refine blk_alloc ?_ _)); exact BK539.out)) : gb553 ≠ gb539))))))))))); clear HO538 HO542 HO548 BK539 HB; obtain ⟨HO538, HO542, HO548, BK539, HB, BK553, GW553, GE553, NB539_553, NB553_539⟩ := n_; clear hb hbox hg; have hnb40 := NB553_539.out; have hnc40 := NB539_553.out; have hcz41_0 : w39.cell? ⟨gb553, 0, none⟩ = some (.string (⟨#[]⟩ : ByteArray)) := (blk_cell BK553.out 0).trans rfl; have hcz41_1 : w39.cell? ⟨gb553, 1, none⟩ = some (.slice none 0 0) := (blk_cell BK553.out 1).trans rfl; have hcz41_2 : w39.cell? ⟨gb553, 2, none⟩ = some (.string (⟨#[]⟩ : ByteArray)) := (blk_cell BK553.out 2).trans rfl; have hcz41_3 : w39.cell? ⟨gb553, 3, none⟩ = some (.bool false) := (blk_cell BK553.out 3).trans rfl; have hcz41_4 : w39.cell? ⟨gb553, 4, none⟩ = some (.bool false) := (blk_cell BK553.out 4).trans rfl; have hfz41_0 := blk_frozen BK553.out 0; have hfz41_1 := blk_frozen BK553.out 1; have hfz41_2 := blk_frozen BK553.out 2; have hfz41_3 := blk_frozen BK553.out 3; have hfz41_4 := blk_frozen BK553.out 4; obtain ⟨Ao42, co42, rfl⟩ := Kd.R_slice HO548.out; have hcz43_0 : w39.cell? ⟨gb539, 0, none⟩ = some (.string (⟨#[32, 97, 98]⟩ : ByteArray)) := (blk_cell BK539.out 0).trans rfl; have hcz43_1 : w39.cell? ⟨gb539, 1, none⟩ = some (.slice Ao31 y536.length co31) := (blk_cell BK539.out 1).trans rfl; have hcz43_2 : w39.cell? ⟨gb539, 2, none⟩ = some (.string (⟨#[99, 32]⟩ : ByteArray)) := (blk_cell BK539.out 2).trans rfl; have hcz43_3 : w39.cell? ⟨gb539, 3, none⟩ = some (.bool true) := (blk_cell BK539.out 3).trans rfl; have hcz43_4 : w39.cell? ⟨gb539, 4, none⟩ = some (.bool true) := (blk_cell BK539.out 4).trans rfl; have hfz43_0 := blk_frozen BK539.out 0; have hfz43_1 := blk_frozen BK539.out 1; have hfz43_2 := blk_frozen BK539.out 2; have hfz43_3 := blk_frozen BK539.out 3; have hfz43_4 := blk_frozen BK539.out 4) | ((with_reducible refine gate_callee (f := 9) rfl ?_); refine goesL_ (some 20) rfl rfl Try.func9 zK rfl #[.string (⟨#[32, 97, 98, 99, 97, 98, 99, 32]⟩ : ByteArray), .agg #[.string (⟨#[32, 97, 98]⟩ : ByteArray), .slice Ao31 y536.length co31, .string (⟨#[99, 32]⟩ : ByteArray), .bool true, .bool true]] rfl zM ?_; (with_reducible refine (pieces_Match.calls k (⟨#[32, 97, 98, 99, 97, 98, 99, 32]⟩ : ByteArray) (⟨#[32, 97, 98]⟩ : ByteArray) _ _ y536 (⟨#[99, 32]⟩ : ByteArray) true true true _ (zEnv HE) ?side1 ?side2 A3.out).mono ?_); (case side1 => refine (Kd.R_reads' (e := 9) (base := w.heap.size) (ok := fun k_ => ((True ∧ some k_ ≠ (.slice Ao36 y540.length co36 : Value).ownBlock) ∧ some k_ ≠ (.slice Ao42 t546.length co42 : Value).ownBlock)) (n := y536.length) (c := co31) ?_).2.2; exact (by (with_reducible repeat (first | apply Kd.R_alloc | apply Kd.R_drewN | apply Kd.R_drew)); exact (Kd.R_mono (Kd.R_far (p := ⟨gb553, 4, none⟩) (Kd.R_far (p := ⟨gb553, 3, none⟩) (Kd.R_far (p := ⟨gb553, 2, none⟩) (Kd.R_far (p := ⟨gb553, 1, none⟩) (Kd.R_far (p := ⟨gb553, 0, none⟩) (Kd.R_types HO538.out BK553.out (by decide)) (fun _ hk => hk.2) (.string t545)) (fun _ hk => hk.2) (.slice Ao42 t546.length co42)) (fun _ hk => hk.2) (.string t549)) (fun _ hk => hk.2) (.bool t550)) (fun _ hk => hk.2) (.bool t551)) (fun _ h_ => h_.1)))); (case side2 => exact (Kd.R_reads' HO538.out).2.1); rintro e w44 ⟨rfl, hb⟩; (try clear A3); refine ⟨_, rfl, ?_⟩; have n_ := zI (aM (Kd.R_below (by (with_reducible repeat (first | apply Kd.R_alloc | apply Kd.R_drewN | apply Kd.R_drew)); exact (Kd.R_mono (Kd.R_far (p := ⟨gb553, 4, none⟩) (Kd.R_far (p := ⟨gb553, 3, none⟩) (Kd.R_far (p := ⟨gb553, 2, none⟩) (Kd.R_far (p := ⟨gb553, 1, none⟩) (Kd.R_far (p := ⟨gb553, 0, none⟩) (Kd.R_types HO538.out BK553.out (by decide)) (fun _ hk => hk.2) (.string t545)) (fun _ hk => hk.2) (.slice Ao42 t546.length co42)) (fun _ hk => hk.2) (.string t549)) (fun _ hk => hk.2) (.bool t550)) (fun _ hk => hk.2) (.bool t551)) (fun _ h_ => h_.1))) hb)) (zI (aM (Kd.R_below (by (with_reducible repeat (first | apply Kd.R_alloc | apply Kd.R_drewN | apply Kd.R_drew)); exact (Kd.R_mono (Kd.R_far (p := ⟨gb553, 4, none⟩) (Kd.R_far (p := ⟨gb553, 3, none⟩) (Kd.R_far (p := ⟨gb553, 2, none⟩) (Kd.R_far (p := ⟨gb553, 1, none⟩) (Kd.R_far (p := ⟨gb553, 0, none⟩) (Kd.R_types HO542.out BK553.out (by decide)) (fun _ hk => hk.2) (.string t545)) (fun _ hk => hk.2) (.slice Ao42 t546.length co42)) (fun _ hk => hk.2) (.string t549)) (fun _ hk => hk.2) (.bool t550)) (fun _ hk => hk.2) (.bool t551)) (fun _ h_ => h_.1))) hb)) (zI (aM (Kd.R_below (by (with_reducible repeat (first | apply Kd.R_alloc | apply Kd.R_drewN | apply Kd.R_drew)); exact (Kd.R_mono (Kd.R_far (p := ⟨gb553, 4, none⟩) (Kd.R_far (p := ⟨gb553, 3, none⟩) (Kd.R_far (p := ⟨gb553, 2, none⟩) (Kd.R_far (p := ⟨gb553, 1, none⟩) (Kd.R_far (p := ⟨gb553, 0, none⟩) (Kd.R_types HO548.out BK553.out (by decide)) (fun _ hk => hk.2) (.string t545)) (fun _ hk => hk.2) (.slice Ao42 t546.length co42)) (fun _ hk => hk.2) (.string t549)) (fun _ hk => hk.2) (.bool t550)) (fun _ hk => hk.2) (.bool t551)) (fun _ h_ => h_.1))) hb)) (zI (aM (blk_below (g := gb539) (o := .cells #[.string (⟨#[32, 97, 98]⟩ : ByteArray), .slice Ao31 y536.length co31, .string (⟨#[99, 32]⟩ : ByteArray), .bool true, .bool true] 29 (0, 0)) (by (with_reducible repeat (first | refine blk_drewN ?_ _ | refine blk_drew ?_ | refine blk_alloc ?_ _)); refine blk_far ?_ NB539_553.out _; (with_reducible repeat (first | refine blk_drewN ?_ _ | refine blk_drew ?_ | refine blk_alloc ?_ _)); refine blk_far ?_ NB539_553.out _; (with_reducible repeat (first | refine blk_drewN ?_ _ | refine blk_drew ?_ | refine blk_alloc ?_ _)); refine blk_far ?_ NB539_553.out _; (with_reducible repeat (first | refine blk_drewN ?_ _ | refine blk_drew ?_ | refine blk_alloc ?_ _)); refine blk_far ?_ NB539_553.out _; (with_reducible repeat (first | refine blk_drewN ?_ _ | refine blk_drew ?_ | refine blk_alloc ?_ _)); refine blk_far ?_ NB539_553.out _; (with_reducible repeat (first | refine blk_drewN ?_ _ | refine blk_drew ?_ | refine blk_alloc ?_ _)); exact BK539.out) hb)) (zI (aM (blk_below (g := gb553) (o := .cells #[.string t545, .slice Ao42 t546.length co42, .string t549, .bool t550, .bool t551] 29 (0, 0)) (by (with_reducible repeat (first | refine blk_drewN ?_ _ | refine blk_drew ?_ | refine blk_alloc ?_ _)); refine blk_put (cs := #[.string t545, .slice Ao42 t546.length co42, .string t549, .bool t550, .bool false]) ?_ 4 _ rfl; (with_reducible repeat (first | refine blk_drewN ?_ _ | refine blk_drew ?_ | refine blk_alloc ?_ _)); refine blk_put (cs := #[.string t545, .slice Ao42 t546.length co42, .string t549, .bool false, .bool false]) ?_ 3 _ rfl; (with_reducible repeat (first | refine blk_drewN ?_ _ | refine blk_drew ?_ | refine blk_alloc ?_ _)); refine blk_put (cs := #[.string t545, .slice Ao42 t546.length co42, .string (⟨#[]⟩ : ByteArray), .bool false, .bool false]) ?_ 2 _ rfl; (with_reducible repeat (first | refine blk_drewN ?_ _ | refine blk_drew ?_ | refine blk_alloc ?_ _)); refine blk_put (cs := #[.string t545, .slice none 0 0, .string (⟨#[]⟩ : ByteArray), .bool false, .bool false]) ?_ 1 _ rfl; (with_reducible repeat (first | refine blk_drewN ?_ _ | refine blk_drew ?_ | refine blk_alloc ?_ _)); refine blk_put (cs := #[.string (⟨#[]⟩ : ByteArray), .slice none 0 0, .string (⟨#[]⟩ : ByteArray), .bool false, .bool false]) ?_ 0 _ rfl; (with_reducible repeat (first | refine blk_drewN ?_ _ | refine blk_drew ?_ | refine blk_alloc ?_ _)); exact BK553.out) hb)) (aM (below_step (by repeat (first | (with_reducible first | exact HB.out | apply bA | apply bN | apply bD | refine below_set ?_ GE539.out | refine below_set ?_ GE553.out) | exact HB.out)) hb)))))); clear HO538 HO542 HO548 BK539 BK553 HB; obtain ⟨HO538, HO542, HO548, BK539, BK553, HB⟩ := n_; (try clear hb); (try clear hk); have hcz45_0 : w44.cell? ⟨gb539, 0, none⟩ = some (.string (⟨#[32, 97, 98]⟩ : ByteArray)) := (blk_cell BK539.out 0).trans rfl; have hcz45_1 : w44.cell? ⟨gb539, 1, none⟩ = some (.slice Ao31 y536.length co31) := (blk_cell BK539.out 1).trans rfl; have hcz45_2 : w44.cell? ⟨gb539, 2, none⟩ = some (.string (⟨#[99, 32]⟩ : ByteArray)) := (blk_cell BK539.out 2).trans rfl; have hcz45_3 : w44.cell? ⟨gb539, 3, none⟩ = some (.bool true) := (blk_cell BK539.out 3).trans rfl; have hcz45_4 : w44.cell? ⟨gb539, 4, none⟩ = some (.bool true) := (blk_cell BK539.out 4).trans rfl; have hfz45_0 := blk_frozen BK539.out 0; have hfz45_1 := blk_frozen BK539.out 1; have hfz45_2 := blk_frozen BK539.out 2; have hfz45_3 := blk_frozen BK539.out 3; have hfz45_4 := blk_frozen BK539.out 4) | (go_at_call 9; (with_reducible refine (pieces_Match.calls k (⟨#[32, 97, 98]⟩ : ByteArray) (⟨#[32, 97, 98]⟩ : ByteArray) _ _ y536 (⟨#[99, 32]⟩ : ByteArray) true true false _ (zEnv HE) ?side1 ?side2 A5.out).mono ?_); (case side1 => exact zC (Kd.R_reads' HO538.out).2.2); (case side2 => exact (Kd.R_reads' HO538.out).2.1); rintro e w46 ⟨rfl, hb⟩; (try clear A5); have n_ := zI (aM (Kd.R_below (zR HO538) hb)) (zI (aM (Kd.R_below (zR HO542) hb)) (zI (aM (Kd.R_below (zR HO548) hb)) (zI (aM (blk_below (g := gb539) (o := .cells #[.string (⟨#[32, 97, 98]⟩ : ByteArray), .slice Ao31 y536.length co31, .string (⟨#[99, 32]⟩ : ByteArray), .bool true, .bool true] 29 (0, 0)) (by (with_reducible repeat (first | refine blk_drewN ?_ _ | refine blk_drew ?_ | refine blk_alloc ?_ _)); exact BK539.out) hb)) (zI (aM (blk_below (g := gb553) (o := .cells #[.string t545, .slice Ao42 t546.length co42, .string t549, .bool t550, .bool t551] 29 (0, 0)) (by (with_reducible repeat (first | refine blk_drewN ?_ _ | refine blk_drew ?_ | refine blk_alloc ?_ _)); exact BK553.out) hb)) (aM (below_step (by repeat (first | (with_reducible first | exact HB.out | apply bA | apply bN | apply bD | refine below_set ?_ GE539.out | refine below_set ?_ GE553.out) | exact HB.out)) hb)))))); clear HO538 HO542 HO548 BK539 BK553 HB; obtain ⟨HO538, HO542, HO548, BK539, BK553, HB⟩ := n_; (try clear hb); (try clear hk); have hcz47_0 : w46.cell? ⟨gb539, 0, none⟩ = some (.string (⟨#[32, 97, 98]⟩ : ByteArray)) := (blk_cell BK539.out 0).trans rfl; have hcz47_1 : w46.cell? ⟨gb539, 1, none⟩ = some (.slice Ao31 y536.length co31) := (blk_cell BK539.out 1).trans rfl; have hcz47_2 : w46.cell? ⟨gb539, 2, none⟩ = some (.string (⟨#[99, 32]⟩ : ByteArray)) := (blk_cell BK539.out 2).trans rfl; have hcz47_3 : w46.cell? ⟨gb539, 3, none⟩ = some (.bool true) := (blk_cell BK539.out 3).trans rfl; have hcz47_4 : w46.cell? ⟨gb539, 4, none⟩ = some (.bool true) := (blk_cell BK539.out 4).trans rfl; have hfz47_0 := blk_frozen BK539.out 0; have hfz47_1 := blk_frozen BK539.out 1; have hfz47_2 := blk_frozen BK539.out 2; have hfz47_3 := blk_frozen BK539.out 3; have hfz47_4 := blk_frozen BK539.out 4) | (go_at_call 8; (with_reducible refine (pieces_Check.calls k (⟨#[32, 97, 98]⟩ : ByteArray) _ _ y536 (⟨#[99, 32]⟩ : ByteArray) true true t556 _ ?side1 ?side2 A28.out).mono ?_); (case side1 => exact zC (Kd.R_reads' HO538.out).2.2); (case side2 => exact (Kd.R_reads' HO538.out).2.1); rintro e w48 ⟨rfl, hb⟩; have n_ := zI (aM (Kd.R_below (zR HO538) hb)) (zI (aM (Kd.R_below (zR HO542) hb)) (zI (aM (Kd.R_below (zR HO548) hb)) (zI (aM (blk_below (g := gb539) (o := .cells #[.string (⟨#[32, 97, 98]⟩ : ByteArray), .slice Ao31 y536.length co31, .string (⟨#[99, 32]⟩ : ByteArray), .bool true, .bool true] 29 (0, 0)) (by (with_reducible repeat (first | refine blk_drewN ?_ _ | refine blk_drew ?_ | refine blk_alloc ?_ _)); exact BK539.out) hb)) (zI (aM (blk_below (g := gb553) (o := .cells #[.string t545, .slice Ao42 t546.length co42, .string t549, .bool t550, .bool t551] 29 (0, 0)) (by (with_reducible repeat (first | refine blk_drewN ?_ _ | refine blk_drew ?_ | refine blk_alloc ?_ _)); exact BK553.out) hb)) (aM (below_step (by repeat (first | (with_reducible first | exact HB.out | apply bA | apply bN | apply bD | refine below_set ?_ GE539.out | refine below_set ?_ GE553.out) | exact HB.out)) hb)))))); clear HO538 HO542 HO548 BK539 BK553 HB; obtain ⟨HO538, HO542, HO548, BK539, BK553, HB⟩ := n_; (try clear hb); (try clear hk)))
      go_ret
      exact ⟨zE, by repeat (first | (with_reducible first | exact HB.out | apply bA | apply bN | apply bD | refine below_set ?_ GE539.out | refine below_set ?_ GE553.out) | exact HB.out)⟩
     ·rw [if_neg c27] at H
      exact absurd ((sI H).trans hT.out) (by decide)
    ·rw [if_neg c26] at H
     exact absurd ((sI H).trans hT.out) (by decide)
   ·replace c25 := Bool.eq_false_iff.mpr c25
    subst c25
    rw [if_neg (show ¬ (false = true) by decide)] at H
    exact absurd ((sI H).trans hT.out) (by decide)
 ·replace c4 := Bool.eq_false_iff.mpr c4
  subst c4
  rw [if_neg (show ¬ (false = true) by decide)] at H
  exact absurd ((sI H).trans hT.out) (by decide)
-- NOT PRINTED: function 7 (toponymlaw13_order)

-- NOT PRINTED: function 3 (toponymlaw13_PiecesCut)

/-! ### toponymlaw13_PiecesEnds: function 4 -/
def toponymlaw13_PiecesEnds.j0 : Nat → ByteArray → ByteArray → ByteArray → Bool → Option (Bool)
 | 0, _, _, _, _ => none
 | k + 1, x0, x1, x2, x19 => if x19 = true then ((toponymlaw13_awake.f k).bind fun t559 => (some t559)) else (if (x1.size : Int) ≤ (x0.size : Int) then (if (x2.size : Int) ≤ (wrap64 ((x0.size : Int) - (x1.size : Int))) then (if 0 ≤ (x1.size : Int) then (if (x0.extract 0 ((x1.size : Int) : Int).toNat).toList = x1.toList then (if 0 ≤ (wrap64 ((x0.size : Int) - (x2.size : Int))) then (if (wrap64 ((x0.size : Int) - (x2.size : Int))) ≤ (x0.size : Int) then ((pieces_Match.f k x0 x1 ([] : List ByteArray) x2 true true).bind fun t561 => (if (t561 == ((x0.extract ((wrap64 ((x0.size : Int) - (x2.size : Int))) : Int).toNat x0.size).toList == x2.toList)) = true then (if x1.size + x2.size ≤ 9223372036854775807 then ((pieces_Match.f k (x1 ++ x2) x1 ([] : List ByteArray) x2 true true).bind fun t562 => (if t562 = true then ((toponymlaw13_awake.f k).bind fun t563 => (some t563)) else (some false))) else (none)) else (some false))) else (none)) else (none)) else ((pieces_Match.f k x0 x1 ([] : List ByteArray) x2 true true).bind fun t564 => (if (t564 == false) = true then (if x1.size + x2.size ≤ 9223372036854775807 then ((pieces_Match.f k (x1 ++ x2) x1 ([] : List ByteArray) x2 true true).bind fun t565 => (if t565 = true then ((toponymlaw13_awake.f k).bind fun t566 => (some t566)) else (some false))) else (none)) else (some false)))) else (none)) else ((pieces_Match.f k x0 x1 ([] : List ByteArray) x2 true true).bind fun t567 => (if (t567 == false) = true then (if x1.size + x2.size ≤ 9223372036854775807 then ((pieces_Match.f k (x1 ++ x2) x1 ([] : List ByteArray) x2 true true).bind fun t568 => (if t568 = true then ((toponymlaw13_awake.f k).bind fun t569 => (some t569)) else (some false))) else (none)) else (some false)))) else ((pieces_Match.f k x0 x1 ([] : List ByteArray) x2 true true).bind fun t570 => (if (t570 == false) = true then (if x1.size + x2.size ≤ 9223372036854775807 then ((pieces_Match.f k (x1 ++ x2) x1 ([] : List ByteArray) x2 true true).bind fun t571 => (if t571 = true then ((toponymlaw13_awake.f k).bind fun t572 => (some t572)) else (some false))) else (none)) else (some false))))
def toponymlaw13_PiecesEnds.f (k : Nat) (a0 : ByteArray) (a1 : ByteArray) (a2 : ByteArray) : Option (Bool) := if (a0.size : Int) > 5000 then (toponymlaw13_PiecesEnds.j0 k a0 a1 a2 true) else (if a1.toList = ([] : List UInt8) then (toponymlaw13_PiecesEnds.j0 k a0 a1 a2 true) else (toponymlaw13_PiecesEnds.j0 k a0 a1 a2 (a2.toList == ([] : List UInt8))))
theorem toponymlaw13_PiecesEnds.mono_l : ∀ k, (∀ y0 y1 y2 y3, LeO (toponymlaw13_PiecesEnds.j0 k y0 y1 y2 y3) (toponymlaw13_PiecesEnds.j0 (k + 1) y0 y1 y2 y3))
 | 0 => fun _ _ _ _ r h => by simp [toponymlaw13_PiecesEnds.j0] at h
 | k + 1 => by
  have ih0 := toponymlaw13_PiecesEnds.mono_l k
  ·intro y0 y1 y2 y3
   unfold toponymlaw13_PiecesEnds.j0
   repeat' first
   | (with_reducible exact ih0 _ _ _ _)
   | (with_reducible exact pieces_Match.mono _ _ _ _ _ _ _)
   | (with_reducible exact toponymlaw13_awake.mono _)
   | (with_reducible exact LeO.refl _)
   | exact ih0 _ _ _ _
   | exact pieces_Match.mono _ _ _ _ _ _ _
   | exact toponymlaw13_awake.mono _
   | exact LeO.none _
   | refine LeO.ite ?_ ?_
   | refine LeO.bind ?_ (fun _ => ?_)
theorem toponymlaw13_PiecesEnds.mono : ∀ a0 a1 a2 k, LeO (toponymlaw13_PiecesEnds.f k a0 a1 a2) (toponymlaw13_PiecesEnds.f (k + 1) a0 a1 a2) := by
 intro a0 a1 a2 k
 have ih0 := toponymlaw13_PiecesEnds.mono_l k
 unfold toponymlaw13_PiecesEnds.f
 repeat' first
   | (with_reducible exact ih0 _ _ _ _)
   | (with_reducible exact pieces_Match.mono _ _ _ _ _ _ _)
   | (with_reducible exact toponymlaw13_awake.mono _)
   | (with_reducible exact LeO.refl _)
   | exact ih0 _ _ _ _
   | exact pieces_Match.mono _ _ _ _ _ _ _
   | exact toponymlaw13_awake.mono _
   | exact LeO.none _
   | refine LeO.ite ?_ ?_
   | refine LeO.bind ?_ (fun _ => ?_)
set_option maxHeartbeats 48000000 in
set_option maxRecDepth 100000 in
theorem toponymlaw13_PiecesEnds.calls (k : Nat) (a0 : ByteArray) (a1 : ByteArray) (a2 : ByteArray) (r : Bool) (w : World) (hE : Env w) (h : toponymlaw13_PiecesEnds.f k a0 a1 a2 = some r) (hT_ : r = true) :
  Calls Try.prog 4 #[.string a0, .string a1, .string a2] w fun e w' => e = .returned (.bool r) ∧ Below w.heap.size w w' := by
 have hT := aM hT_
 clear hT_
 have HE := aM hE
 clear hE
 have hu29 := Try.underlying29
 have HB := aM (Below.refl w.heap.size w)
 have H := h
 clear h
 unfold toponymlaw13_PiecesEnds.f at H
 have HC4 := aM H
 clear H
 go_enter Try.func4, Try.ntmps4
 go_upto_region 1 with (fail)
 go_cut [19] (fun v19 wc => ∃ (kq : Nat) (x19_3 : Bool), v19 = .bool x19_3 ∧ Aside0 (toponymlaw13_PiecesEnds.j0 kq a0 a1 a2 x19_3 = some r) ∧ Aside0 (kq ≤ k) ∧ Aside0 (Below w.heap.size w wc))
 case first =>
  have H := HC4.out
  clear HC4
  by_cases c5 : (a0.size : Int) > 5000
  ·rw [if_pos c5] at H
   have c5b0 : decide (5000 < (a0.size : Int)) = true := decide_eq_true c5
   have c5b1 : decide (5000 < a0.size) = true := decide_eq_true (by omega)
   clear c5
   (first | rw [c5b0] | (simp only [i64_w, i32_w]; rw [c5b0]) | skip)
   have H' := aM H
   clear H
   go_wp2
   go_meet
   case rel => exact ⟨_, (true), zP, H', ⟨by first | omega | exact Nat.le_refl _⟩, ⟨zB⟩⟩
  ·rw [if_neg c5] at H
   have c5b0 : decide (5000 < (a0.size : Int)) = false := decide_eq_false c5
   have c5b1 : decide (5000 < a0.size) = false := decide_eq_false (by omega)
   clear c5
   (first | rw [c5b0] | (simp only [i64_w, i32_w]; rw [c5b0]) | skip)
   by_cases c6 : a1.toList = ([] : List UInt8)
   ·rw [if_pos c6] at H
    have c6b0 : (a1.toList == ([] : List UInt8)) = true := beq_iff_eq.mpr c6
    have c6b1 : (a1.toList != ([] : List UInt8)) = false := bne_eq_false_iff_eq.mpr c6
    clear c6
    have H' := aM H
    clear H
    go_wp2
    go_meet
    case rel => exact ⟨_, (true), zP, H', ⟨by first | omega | exact Nat.le_refl _⟩, ⟨zB⟩⟩
   ·rw [if_neg c6] at H
    have c6b0 : (a1.toList == ([] : List UInt8)) = false := beq_eq_false_iff_ne.mpr c6
    have c6b1 : (a1.toList != ([] : List UInt8)) = true := bne_iff_ne.mpr c6
    have H' := aM H
    clear H
    go_wp2
    go_meet
    case rel => exact ⟨_, ((a2.toList == ([] : List UInt8))), zP, H', ⟨by first | omega | exact Nat.le_refl _⟩, ⟨zB⟩⟩
 case rest =>
  clear HC4
  try clear p2
  try clear c4
  try clear c5
  try clear c5b0
  try clear c5b1
  try clear c6
  try clear c6b0
  try clear c6b1
  obtain ⟨kq, x19_3, rfl, HA, HJ3, HB⟩ := hcut
  cases kq with
  | zero => exact absurd HA.out (by simp [toponymlaw13_PiecesEnds.j0])
  | succ kj3 =>
   have H := HA.out
   clear HA
   simp only [toponymlaw13_PiecesEnds.j0] at H
   by_cases c7 : x19_3 = true
   ·subst c7
    rw [if_pos rfl] at H
    obtain ⟨t559, A8, H⟩ := zO H
    obtain rfl := sI H
    go_wp2_with (first | ((with_reducible refine gate_callee (f := 6) rfl ?_); refine goesL_ (some 20) rfl rfl Try.func6 zK rfl #[] rfl zM ?_; (with_reducible refine (toponymlaw13_awake.calls kj3  t559 _ (zEnv HE) A8.out).mono ?_); rintro e w9 ⟨rfl, hb⟩; (try clear A8); refine ⟨_, rfl, ?_⟩; replace HB := aM (below_step zB hb); (try clear hb)))
    go_ret
    exact ⟨zE, zB⟩
   ·replace c7 := Bool.eq_false_iff.mpr c7
    subst c7
    rw [if_neg (show ¬ (false = true) by decide)] at H
    by_cases c10 : (a1.size : Int) ≤ (a0.size : Int)
    ·rw [if_pos c10] at H
     have c10b0 : decide ((a1.size : Int) ≤ (a0.size : Int)) = true := decide_eq_true c10
     have c10b1 : decide (a1.size ≤ a0.size) = true := decide_eq_true (Int.ofNat_le.mp c10)
     clear c10
     by_cases c11 : (a2.size : Int) ≤ (wrap64 ((a0.size : Int) - (a1.size : Int)))
     ·rw [if_pos c11] at H
      have c11b0 : decide ((a2.size : Int) ≤ (wrap64 ((a0.size : Int) - (a1.size : Int)))) = true := decide_eq_true c11
      clear c11
      by_cases c12 : 0 ≤ (a1.size : Int)
      ·rw [if_pos c12] at H
       have c12b0 := eq_true c12
       have c12b1 : decide (0 ≤ (a1.size : Int)) = true := decide_eq_true c12
       clear c12
       have c13b0 := eq_true (zoA : (a1.size : Int) ≤ (a0.size : Int))
       by_cases c14 : (a0.extract 0 ((a1.size : Int) : Int).toNat).toList = a1.toList
       ·rw [if_pos c14] at H
        have c14b0 : ((a0.extract 0 ((a1.size : Int) : Int).toNat).toList == a1.toList) = true := beq_iff_eq.mpr c14
        have c14b8 : ((a0.extract 0 a1.size).toList == a1.toList) = true := by have h_ := c14b0; rw [Int.toNat_natCast] at h_; exact h_
        try have c14b9 : ((a0.extract 0 a1.size).toList = a1.toList) = True := by simpa using c14b8
        have c14b1 : ((a0.extract 0 ((a1.size : Int) : Int).toNat).toList != a1.toList) = false := bne_eq_false_iff_eq.mpr c14
        clear c14
        obtain ⟨ji15, hji15⟩ : ∃ j_ : Int, (wrap64 ((a0.size : Int) - (a2.size : Int))) = j_ := ⟨_, rfl⟩
        replace H : (if 0 ≤ (ji15) then (if (ji15) ≤ (a0.size : Int) then ((pieces_Match.f kj3 a0 a1 ([] : List ByteArray) a2 true true).bind fun t561 => (if (t561 == ((a0.extract ((ji15) : Int).toNat a0.size).toList == a2.toList)) = true then (if a1.size + a2.size ≤ 9223372036854775807 then ((pieces_Match.f kj3 (a1 ++ a2) a1 ([] : List ByteArray) a2 true true).bind fun t562 => (if t562 = true then ((toponymlaw13_awake.f kj3).bind fun t563 => (some t563)) else (some false))) else (none)) else (some false))) else (none)) else (none)) = some r := by first | (rw [hji15] at H; exact H) | (simp only [hji15] at H ⊢; exact H)
        have hji15w : (IntKind.i64.wrap ((a0.size : Int) - (a2.size : Int))) = ji15 := (i64_w _).trans hji15
        by_cases c16 : 0 ≤ (ji15)
        ·rw [if_pos c16] at H
         have c16b0 := eq_true c16
         have c16b1 : decide (0 ≤ (ji15)) = true := decide_eq_true c16
         clear c16
         by_cases c17 : (ji15) ≤ (a0.size : Int)
         ·rw [if_pos c17] at H
          have c17b0 := eq_true c17
          have c17b1 : decide ((ji15) ≤ (a0.size : Int)) = true := decide_eq_true c17
          clear c17
          obtain ⟨t561, A18, H⟩ := zO H
          by_cases c19 : (t561 == ((a0.extract ((ji15) : Int).toNat a0.size).toList == a2.toList)) = true
          ·rw [if_pos c19] at H
           have c19b0 : (t561 == ((a0.extract ((ji15) : Int).toNat a0.size).toList == a2.toList)) = true := c19
           (try (have c19b1 : decide (t561 = ((a0.extract ((ji15) : Int).toNat a0.size).toList == a2.toList)) = true := by simpa using c19))
           (try (have c19b2 : (t561 == ((a0.extract ((ji15) : Int).toNat a0.size).toList == a2.toList)) = true := by simpa using c19))
           clear c19
           by_cases c20 : a1.size + a2.size ≤ 9223372036854775807
           ·rw [if_pos c20] at H
            have c20b0 := eq_true c20
            have c20b1 : decide (a1.size + a2.size ≤ 9223372036854775807) = true := decide_eq_true c20
            try have c20b2 : (9223372036854775807 < a1.size + a2.size) = False := eq_false (Nat.not_lt.2 c20)
            obtain ⟨t562, A21, H⟩ := zO H
            by_cases c22 : t562 = true
            ·subst c22
             rw [if_pos rfl] at H
             obtain ⟨t563, A23, H⟩ := zO H
             obtain rfl := sI H
             go_wp2_with (first | ((with_reducible refine gate_dst (N := 7) rfl ?_); (try (refine gate_guard (by rfl) ?_; dsimp only)); refine box_event ?hg (N := 7) ?hd (cs := #[.string (⟨#[]⟩ : ByteArray), .slice none 0 0, .string (⟨#[]⟩ : ByteArray), .bool false, .bool false]) (t := 29) ?hr ?_; (case hd => rfl); (case hg => rfl); (case hr => first | (go_simp; done) | (go_simp; rfl)); intro gb560 hg w24 hbox hb; have n_ := zI (aM (below_step zB hb)) (zI (aM (hbox)) (zI (aM ((by rw [hg]; exact (below_size zB) : w.heap.size ≤ gb560))) (aM ((by rw [hg]; exact (below_size zB) : w.heap.size ≤ gb560))))); clear HB; obtain ⟨HB, BK560, GW560, GE560⟩ := n_; clear hb hbox hg; have hcz25_0 : w24.cell? ⟨gb560, 0, none⟩ = some (.string (⟨#[]⟩ : ByteArray)) := (blk_cell BK560.out 0).trans rfl; have hcz25_1 : w24.cell? ⟨gb560, 1, none⟩ = some (.slice none 0 0) := (blk_cell BK560.out 1).trans rfl; have hcz25_2 : w24.cell? ⟨gb560, 2, none⟩ = some (.string (⟨#[]⟩ : ByteArray)) := (blk_cell BK560.out 2).trans rfl; have hcz25_3 : w24.cell? ⟨gb560, 3, none⟩ = some (.bool false) := (blk_cell BK560.out 3).trans rfl; have hcz25_4 : w24.cell? ⟨gb560, 4, none⟩ = some (.bool false) := (blk_cell BK560.out 4).trans rfl; have hfz25_0 := blk_frozen BK560.out 0; have hfz25_1 := blk_frozen BK560.out 1; have hfz25_2 := blk_frozen BK560.out 2; have hfz25_3 := blk_frozen BK560.out 3; have hfz25_4 := blk_frozen BK560.out 4) | ((with_reducible refine gate_callee (f := 9) rfl ?_); refine goesL_ (some 60) rfl rfl Try.func9 zK rfl #[.string a0, .agg #[.string a1, .slice none 0 0, .string a2, .bool true, .bool true]] rfl zM ?_; (refine (pieces_Match.calls kj3 a0 a1 _ _ ([] : List ByteArray) a2 true true t561 _ (zEnv HE) ?side1 ?side2 A18.out).mono ?_); (case side1 => exact Kd.C_nil _ _); (case side2 => exact Nat.le_refl _); rintro e w26 ⟨rfl, hb⟩; refine ⟨_, rfl, ?_⟩; have n_ := zI (aM (blk_below (g := gb560) (o := .cells #[.string a1, .slice none 0 0, .string a2, .bool true, .bool true] 29 (0, 0)) (by (with_reducible repeat (first | refine blk_drewN ?_ _ | refine blk_drew ?_ | refine blk_alloc ?_ _)); refine blk_put (cs := #[.string a1, .slice none 0 0, .string a2, .bool true, .bool false]) ?_ 4 _ rfl; (with_reducible repeat (first | refine blk_drewN ?_ _ | refine blk_drew ?_ | refine blk_alloc ?_ _)); refine blk_put (cs := #[.string a1, .slice none 0 0, .string a2, .bool false, .bool false]) ?_ 3 _ rfl; (with_reducible repeat (first | refine blk_drewN ?_ _ | refine blk_drew ?_ | refine blk_alloc ?_ _)); refine blk_put (cs := #[.string a1, .slice none 0 0, .string (⟨#[]⟩ : ByteArray), .bool false, .bool false]) ?_ 2 _ rfl; (with_reducible repeat (first | refine blk_drewN ?_ _ | refine blk_drew ?_ | refine blk_alloc ?_ _)); refine blk_put (cs := #[.string a1, .slice none 0 0, .string (⟨#[]⟩ : ByteArray), .bool false, .bool false]) ?_ 1 _ rfl; (with_reducible repeat (first | refine blk_drewN ?_ _ | refine blk_drew ?_ | refine blk_alloc ?_ _)); refine blk_put (cs := #[.string (⟨#[]⟩ : ByteArray), .slice none 0 0, .string (⟨#[]⟩ : ByteArray), .bool false, .bool false]) ?_ 0 _ rfl; (with_reducible repeat (first | refine blk_drewN ?_ _ | refine blk_drew ?_ | refine blk_alloc ?_ _)); exact BK560.out) hb)) (aM (below_step (by repeat (first | (with_reducible first | exact HB.out | apply bA | apply bN | apply bD | refine below_set ?_ GE560.out) | exact HB.out)) hb)); clear BK560 HB; obtain ⟨BK560, HB⟩ := n_; (try clear hb); have hcz27_0 : w26.cell? ⟨gb560, 0, none⟩ = some (.string a1) := (blk_cell BK560.out 0).trans rfl; have hcz27_1 : w26.cell? ⟨gb560, 1, none⟩ = some (.slice none 0 0) := (blk_cell BK560.out 1).trans rfl; have hcz27_2 : w26.cell? ⟨gb560, 2, none⟩ = some (.string a2) := (blk_cell BK560.out 2).trans rfl; have hcz27_3 : w26.cell? ⟨gb560, 3, none⟩ = some (.bool true) := (blk_cell BK560.out 3).trans rfl; have hcz27_4 : w26.cell? ⟨gb560, 4, none⟩ = some (.bool true) := (blk_cell BK560.out 4).trans rfl; have hfz27_0 := blk_frozen BK560.out 0; have hfz27_1 := blk_frozen BK560.out 1; have hfz27_2 := blk_frozen BK560.out 2; have hfz27_3 := blk_frozen BK560.out 3; have hfz27_4 := blk_frozen BK560.out 4) | (go_at_call 9; (refine (pieces_Match.calls kj3 (a1 ++ a2) a1 _ _ ([] : List ByteArray) a2 true true true _ (zEnv HE) ?side1 ?side2 A21.out).mono ?_); (case side1 => exact Kd.C_nil _ _); (case side2 => exact Nat.le_refl _); rintro e w28 ⟨rfl, hb⟩; have n_ := zI (aM (blk_below (g := gb560) (o := .cells #[.string a1, .slice none 0 0, .string a2, .bool true, .bool true] 29 (0, 0)) (by (with_reducible repeat (first | refine blk_drewN ?_ _ | refine blk_drew ?_ | refine blk_alloc ?_ _)); exact BK560.out) hb)) (aM (below_step (by repeat (first | (with_reducible first | exact HB.out | apply bA | apply bN | apply bD | refine below_set ?_ GE560.out) | exact HB.out)) hb)); clear BK560 HB; obtain ⟨BK560, HB⟩ := n_; (try clear hb)) | (go_at_call 6; (with_reducible refine (toponymlaw13_awake.calls kj3  t563 _ (zEnv HE) A23.out).mono ?_); rintro e w29 ⟨rfl, hb⟩; (try clear A23); have n_ := zI (aM (blk_below (g := gb560) (o := .cells #[.string a1, .slice none 0 0, .string a2, .bool true, .bool true] 29 (0, 0)) (by (with_reducible repeat (first | refine blk_drewN ?_ _ | refine blk_drew ?_ | refine blk_alloc ?_ _)); exact BK560.out) hb)) (aM (below_step (by repeat (first | (with_reducible first | exact HB.out | apply bA | apply bN | apply bD | refine below_set ?_ GE560.out) | exact HB.out)) hb)); clear BK560 HB; obtain ⟨BK560, HB⟩ := n_; (try clear hb)))
             go_ret
             exact ⟨by first | rfl | (simp [errW_none, errW_some] <;> rfl) | (simp only [← hji15]; first | rfl | (simp [errW_none, errW_some] <;> rfl)) | (simp [*, errW_none, errW_some] <;> rfl), by repeat (first | (with_reducible first | exact HB.out | apply bA | apply bN | apply bD | refine below_set ?_ GE560.out) | exact HB.out)⟩
            ·replace c22 := Bool.eq_false_iff.mpr c22
             subst c22
             rw [if_neg (show ¬ (false = true) by decide)] at H
             exact absurd ((sI H).trans hT.out) (by decide)
           ·rw [if_neg c20] at H
            exact absurd H (by simp)
          ·rw [if_neg c19] at H
           exact absurd ((sI H).trans hT.out) (by decide)
         ·rw [if_neg c17] at H
          exact absurd H (by simp)
        ·rw [if_neg c16] at H
         exact absurd H (by simp)
       ·rw [if_neg c14] at H
        have c14b0 : ((a0.extract 0 ((a1.size : Int) : Int).toNat).toList == a1.toList) = false := beq_eq_false_iff_ne.mpr c14
        have c14b8 : ((a0.extract 0 a1.size).toList == a1.toList) = false := by have h_ := c14b0; rw [Int.toNat_natCast] at h_; exact h_
        try have c14b9 : ((a0.extract 0 a1.size).toList = a1.toList) = False := by simpa using c14b8
        have c14b1 : ((a0.extract 0 ((a1.size : Int) : Int).toNat).toList != a1.toList) = true := bne_iff_ne.mpr c14
        obtain ⟨t564, A38, H⟩ := zO H
        by_cases c39 : (t564 == false) = true
        ·rw [if_pos c39] at H
         have c39b0 : (t564 == false) = true := c39
         (try (have c39b1 : decide (t564 = false) = true := by simpa using c39))
         (try (have c39b2 : (t564 == false) = true := by simpa using c39))
         clear c39
         by_cases c40 : a1.size + a2.size ≤ 9223372036854775807
         ·rw [if_pos c40] at H
          have c40b0 := eq_true c40
          have c40b1 : decide (a1.size + a2.size ≤ 9223372036854775807) = true := decide_eq_true c40
          try have c40b2 : (9223372036854775807 < a1.size + a2.size) = False := eq_false (Nat.not_lt.2 c40)
          obtain ⟨t565, A41, H⟩ := zO H
          by_cases c42 : t565 = true
          ·subst c42
           rw [if_pos rfl] at H
           obtain ⟨t566, A43, H⟩ := zO H
           obtain rfl := sI H
           go_wp2_with (first | ((with_reducible refine gate_dst (N := 7) rfl ?_); (try (refine gate_guard (by rfl) ?_; dsimp only)); refine box_event ?hg (N := 7) ?hd (cs := #[.string (⟨#[]⟩ : ByteArray), .slice none 0 0, .string (⟨#[]⟩ : ByteArray), .bool false, .bool false]) (t := 29) ?hr ?_; (case hd => rfl); (case hg => rfl); (case hr => first | (go_simp; done) | (go_simp; rfl)); intro gb560 hg w44 hbox hb; have n_ := zI (aM (below_step zB hb)) (zI (aM (hbox)) (zI (aM ((by rw [hg]; exact (below_size zB) : w.heap.size ≤ gb560))) (aM ((by rw [hg]; exact (below_size zB) : w.heap.size ≤ gb560))))); clear HB; obtain ⟨HB, BK560, GW560, GE560⟩ := n_; clear hb hbox hg; have hcz45_0 : w44.cell? ⟨gb560, 0, none⟩ = some (.string (⟨#[]⟩ : ByteArray)) := (blk_cell BK560.out 0).trans rfl; have hcz45_1 : w44.cell? ⟨gb560, 1, none⟩ = some (.slice none 0 0) := (blk_cell BK560.out 1).trans rfl; have hcz45_2 : w44.cell? ⟨gb560, 2, none⟩ = some (.string (⟨#[]⟩ : ByteArray)) := (blk_cell BK560.out 2).trans rfl; have hcz45_3 : w44.cell? ⟨gb560, 3, none⟩ = some (.bool false) := (blk_cell BK560.out 3).trans rfl; have hcz45_4 : w44.cell? ⟨gb560, 4, none⟩ = some (.bool false) := (blk_cell BK560.out 4).trans rfl; have hfz45_0 := blk_frozen BK560.out 0; have hfz45_1 := blk_frozen BK560.out 1; have hfz45_2 := blk_frozen BK560.out 2; have hfz45_3 := blk_frozen BK560.out 3; have hfz45_4 := blk_frozen BK560.out 4) | ((with_reducible refine gate_callee (f := 9) rfl ?_); refine goesL_ (some 60) rfl rfl Try.func9 zK rfl #[.string a0, .agg #[.string a1, .slice none 0 0, .string a2, .bool true, .bool true]] rfl zM ?_; (refine (pieces_Match.calls kj3 a0 a1 _ _ ([] : List ByteArray) a2 true true t564 _ (zEnv HE) ?side1 ?side2 A38.out).mono ?_); (case side1 => exact Kd.C_nil _ _); (case side2 => exact Nat.le_refl _); rintro e w46 ⟨rfl, hb⟩; refine ⟨_, rfl, ?_⟩; have n_ := zI (aM (blk_below (g := gb560) (o := .cells #[.string a1, .slice none 0 0, .string a2, .bool true, .bool true] 29 (0, 0)) (by (with_reducible repeat (first | refine blk_drewN ?_ _ | refine blk_drew ?_ | refine blk_alloc ?_ _)); refine blk_put (cs := #[.string a1, .slice none 0 0, .string a2, .bool true, .bool false]) ?_ 4 _ rfl; (with_reducible repeat (first | refine blk_drewN ?_ _ | refine blk_drew ?_ | refine blk_alloc ?_ _)); refine blk_put (cs := #[.string a1, .slice none 0 0, .string a2, .bool false, .bool false]) ?_ 3 _ rfl; (with_reducible repeat (first | refine blk_drewN ?_ _ | refine blk_drew ?_ | refine blk_alloc ?_ _)); refine blk_put (cs := #[.string a1, .slice none 0 0, .string (⟨#[]⟩ : ByteArray), .bool false, .bool false]) ?_ 2 _ rfl; (with_reducible repeat (first | refine blk_drewN ?_ _ | refine blk_drew ?_ | refine blk_alloc ?_ _)); refine blk_put (cs := #[.string a1, .slice none 0 0, .string (⟨#[]⟩ : ByteArray), .bool false, .bool false]) ?_ 1 _ rfl; (with_reducible repeat (first | refine blk_drewN ?_ _ | refine blk_drew ?_ | refine blk_alloc ?_ _)); refine blk_put (cs := #[.string (⟨#[]⟩ : ByteArray), .slice none 0 0, .string (⟨#[]⟩ : ByteArray), .bool false, .bool false]) ?_ 0 _ rfl; (with_reducible repeat (first | refine blk_drewN ?_ _ | refine blk_drew ?_ | refine blk_alloc ?_ _)); exact BK560.out) hb)) (aM (below_step (by repeat (first | (with_reducible first | exact HB.out | apply bA | apply bN | apply bD | refine below_set ?_ GE560.out) | exact HB.out)) hb)); clear BK560 HB; obtain ⟨BK560, HB⟩ := n_; (try clear hb); have hcz47_0 : w46.cell? ⟨gb560, 0, none⟩ = some (.string a1) := (blk_cell BK560.out 0).trans rfl; have hcz47_1 : w46.cell? ⟨gb560, 1, none⟩ = some (.slice none 0 0) := (blk_cell BK560.out 1).trans rfl; have hcz47_2 : w46.cell? ⟨gb560, 2, none⟩ = some (.string a2) := (blk_cell BK560.out 2).trans rfl; have hcz47_3 : w46.cell? ⟨gb560, 3, none⟩ = some (.bool true) := (blk_cell BK560.out 3).trans rfl; have hcz47_4 : w46.cell? ⟨gb560, 4, none⟩ = some (.bool true) := (blk_cell BK560.out 4).trans rfl; have hfz47_0 := blk_frozen BK560.out 0; have hfz47_1 := blk_frozen BK560.out 1; have hfz47_2 := blk_frozen BK560.out 2; have hfz47_3 := blk_frozen BK560.out 3; have hfz47_4 := blk_frozen BK560.out 4) | (go_at_call 9; (refine (pieces_Match.calls kj3 (a1 ++ a2) a1 _ _ ([] : List ByteArray) a2 true true true _ (zEnv HE) ?side1 ?side2 A41.out).mono ?_); (case side1 => exact Kd.C_nil _ _); (case side2 => exact Nat.le_refl _); rintro e w48 ⟨rfl, hb⟩; have n_ := zI (aM (blk_below (g := gb560) (o := .cells #[.string a1, .slice none 0 0, .string a2, .bool true, .bool true] 29 (0, 0)) (by (with_reducible repeat (first | refine blk_drewN ?_ _ | refine blk_drew ?_ | refine blk_alloc ?_ _)); exact BK560.out) hb)) (aM (below_step (by repeat (first | (with_reducible first | exact HB.out | apply bA | apply bN | apply bD | refine below_set ?_ GE560.out) | exact HB.out)) hb)); clear BK560 HB; obtain ⟨BK560, HB⟩ := n_; (try clear hb)) | (go_at_call 6; (with_reducible refine (toponymlaw13_awake.calls kj3  t566 _ (zEnv HE) A43.out).mono ?_); rintro e w49 ⟨rfl, hb⟩; (try clear A43); have n_ := zI (aM (blk_below (g := gb560) (o := .cells #[.string a1, .slice none 0 0, .string a2, .bool true, .bool true] 29 (0, 0)) (by (with_reducible repeat (first | refine blk_drewN ?_ _ | refine blk_drew ?_ | refine blk_alloc ?_ _)); exact BK560.out) hb)) (aM (below_step (by repeat (first | (with_reducible first | exact HB.out | apply bA | apply bN | apply bD | refine below_set ?_ GE560.out) | exact HB.out)) hb)); clear BK560 HB; obtain ⟨BK560, HB⟩ := n_; (try clear hb)))
           go_ret
           exact ⟨zE, by repeat (first | (with_reducible first | exact HB.out | apply bA | apply bN | apply bD | refine below_set ?_ GE560.out) | exact HB.out)⟩
          ·replace c42 := Bool.eq_false_iff.mpr c42
           subst c42
           rw [if_neg (show ¬ (false = true) by decide)] at H
           exact absurd ((sI H).trans hT.out) (by decide)
         ·rw [if_neg c40] at H
          exact absurd H (by simp)
        ·rw [if_neg c39] at H
         exact absurd ((sI H).trans hT.out) (by decide)
      ·rw [if_neg c12] at H
       exact absurd H (by simp)
     ·rw [if_neg c11] at H
      have c11b0 : decide ((a2.size : Int) ≤ (wrap64 ((a0.size : Int) - (a1.size : Int)))) = false := decide_eq_false c11
      clear c11
      obtain ⟨t567, A58, H⟩ := zO H
      by_cases c59 : (t567 == false) = true
      ·rw [if_pos c59] at H
       have c59b0 : (t567 == false) = true := c59
       (try (have c59b1 : decide (t567 = false) = true := by simpa using c59))
       (try (have c59b2 : (t567 == false) = true := by simpa using c59))
       clear c59
       by_cases c60 : a1.size + a2.size ≤ 9223372036854775807
       ·rw [if_pos c60] at H
        have c60b0 := eq_true c60
        have c60b1 : decide (a1.size + a2.size ≤ 9223372036854775807) = true := decide_eq_true c60
        try have c60b2 : (9223372036854775807 < a1.size + a2.size) = False := eq_false (Nat.not_lt.2 c60)
        obtain ⟨t568, A61, H⟩ := zO H
        by_cases c62 : t568 = true
        ·subst c62
         rw [if_pos rfl] at H
         obtain ⟨t569, A63, H⟩ := zO H
         obtain rfl := sI H
         go_wp2_with (first | ((with_reducible refine gate_dst (N := 7) rfl ?_); (try (refine gate_guard (by rfl) ?_; dsimp only)); refine box_event ?hg (N := 7) ?hd (cs := #[.string (⟨#[]⟩ : ByteArray), .slice none 0 0, .string (⟨#[]⟩ : ByteArray), .bool false, .bool false]) (t := 29) ?hr ?_; (case hd => rfl); (case hg => rfl); (case hr => first | (go_simp; done) | (go_simp; rfl)); intro gb560 hg w64 hbox hb; have n_ := zI (aM (below_step zB hb)) (zI (aM (hbox)) (zI (aM ((by rw [hg]; exact (below_size zB) : w.heap.size ≤ gb560))) (aM ((by rw [hg]; exact (below_size zB) : w.heap.size ≤ gb560))))); clear HB; obtain ⟨HB, BK560, GW560, GE560⟩ := n_; clear hb hbox hg; have hcz65_0 : w64.cell? ⟨gb560, 0, none⟩ = some (.string (⟨#[]⟩ : ByteArray)) := (blk_cell BK560.out 0).trans rfl; have hcz65_1 : w64.cell? ⟨gb560, 1, none⟩ = some (.slice none 0 0) := (blk_cell BK560.out 1).trans rfl; have hcz65_2 : w64.cell? ⟨gb560, 2, none⟩ = some (.string (⟨#[]⟩ : ByteArray)) := (blk_cell BK560.out 2).trans rfl; have hcz65_3 : w64.cell? ⟨gb560, 3, none⟩ = some (.bool false) := (blk_cell BK560.out 3).trans rfl; have hcz65_4 : w64.cell? ⟨gb560, 4, none⟩ = some (.bool false) := (blk_cell BK560.out 4).trans rfl; have hfz65_0 := blk_frozen BK560.out 0; have hfz65_1 := blk_frozen BK560.out 1; have hfz65_2 := blk_frozen BK560.out 2; have hfz65_3 := blk_frozen BK560.out 3; have hfz65_4 := blk_frozen BK560.out 4) | ((with_reducible refine gate_callee (f := 9) rfl ?_); refine goesL_ (some 60) rfl rfl Try.func9 zK rfl #[.string a0, .agg #[.string a1, .slice none 0 0, .string a2, .bool true, .bool true]] rfl zM ?_; (refine (pieces_Match.calls kj3 a0 a1 _ _ ([] : List ByteArray) a2 true true t567 _ (zEnv HE) ?side1 ?side2 A58.out).mono ?_); (case side1 => exact Kd.C_nil _ _); (case side2 => exact Nat.le_refl _); rintro e w66 ⟨rfl, hb⟩; refine ⟨_, rfl, ?_⟩; have n_ := zI (aM (blk_below (g := gb560) (o := .cells #[.string a1, .slice none 0 0, .string a2, .bool true, .bool true] 29 (0, 0)) (by (with_reducible repeat (first | refine blk_drewN ?_ _ | refine blk_drew ?_ | refine blk_alloc ?_ _)); refine blk_put (cs := #[.string a1, .slice none 0 0, .string a2, .bool true, .bool false]) ?_ 4 _ rfl; (with_reducible repeat (first | refine blk_drewN ?_ _ | refine blk_drew ?_ | refine blk_alloc ?_ _)); refine blk_put (cs := #[.string a1, .slice none 0 0, .string a2, .bool false, .bool false]) ?_ 3 _ rfl; (with_reducible repeat (first | refine blk_drewN ?_ _ | refine blk_drew ?_ | refine blk_alloc ?_ _)); refine blk_put (cs := #[.string a1, .slice none 0 0, .string (⟨#[]⟩ : ByteArray), .bool false, .bool false]) ?_ 2 _ rfl; (with_reducible repeat (first | refine blk_drewN ?_ _ | refine blk_drew ?_ | refine blk_alloc ?_ _)); refine blk_put (cs := #[.string a1, .slice none 0 0, .string (⟨#[]⟩ : ByteArray), .bool false, .bool false]) ?_ 1 _ rfl; (with_reducible repeat (first | refine blk_drewN ?_ _ | refine blk_drew ?_ | refine blk_alloc ?_ _)); refine blk_put (cs := #[.string (⟨#[]⟩ : ByteArray), .slice none 0 0, .string (⟨#[]⟩ : ByteArray), .bool false, .bool false]) ?_ 0 _ rfl; (with_reducible repeat (first | refine blk_drewN ?_ _ | refine blk_drew ?_ | refine blk_alloc ?_ _)); exact BK560.out) hb)) (aM (below_step (by repeat (first | (with_reducible first | exact HB.out | apply bA | apply bN | apply bD | refine below_set ?_ GE560.out) | exact HB.out)) hb)); clear BK560 HB; obtain ⟨BK560, HB⟩ := n_; (try clear hb); have hcz67_0 : w66.cell? ⟨gb560, 0, none⟩ = some (.string a1) := (blk_cell BK560.out 0).trans rfl; have hcz67_1 : w66.cell? ⟨gb560, 1, none⟩ = some (.slice none 0 0) := (blk_cell BK560.out 1).trans rfl; have hcz67_2 : w66.cell? ⟨gb560, 2, none⟩ = some (.string a2) := (blk_cell BK560.out 2).trans rfl; have hcz67_3 : w66.cell? ⟨gb560, 3, none⟩ = some (.bool true) := (blk_cell BK560.out 3).trans rfl; have hcz67_4 : w66.cell? ⟨gb560, 4, none⟩ = some (.bool true) := (blk_cell BK560.out 4).trans rfl; have hfz67_0 := blk_frozen BK560.out 0; have hfz67_1 := blk_frozen BK560.out 1; have hfz67_2 := blk_frozen BK560.out 2; have hfz67_3 := blk_frozen BK560.out 3; have hfz67_4 := blk_frozen BK560.out 4) | (go_at_call 9; (refine (pieces_Match.calls kj3 (a1 ++ a2) a1 _ _ ([] : List ByteArray) a2 true true true _ (zEnv HE) ?side1 ?side2 A61.out).mono ?_); (case side1 => exact Kd.C_nil _ _); (case side2 => exact Nat.le_refl _); rintro e w68 ⟨rfl, hb⟩; have n_ := zI (aM (blk_below (g := gb560) (o := .cells #[.string a1, .slice none 0 0, .string a2, .bool true, .bool true] 29 (0, 0)) (by (with_reducible repeat (first | refine blk_drewN ?_ _ | refine blk_drew ?_ | refine blk_alloc ?_ _)); exact BK560.out) hb)) (aM (below_step (by repeat (first | (with_reducible first | exact HB.out | apply bA | apply bN | apply bD | refine below_set ?_ GE560.out) | exact HB.out)) hb)); clear BK560 HB; obtain ⟨BK560, HB⟩ := n_; (try clear hb)) | (go_at_call 6; (with_reducible refine (toponymlaw13_awake.calls kj3  t569 _ (zEnv HE) A63.out).mono ?_); rintro e w69 ⟨rfl, hb⟩; (try clear A63); have n_ := zI (aM (blk_below (g := gb560) (o := .cells #[.string a1, .slice none 0 0, .string a2, .bool true, .bool true] 29 (0, 0)) (by (with_reducible repeat (first | refine blk_drewN ?_ _ | refine blk_drew ?_ | refine blk_alloc ?_ _)); exact BK560.out) hb)) (aM (below_step (by repeat (first | (with_reducible first | exact HB.out | apply bA | apply bN | apply bD | refine below_set ?_ GE560.out) | exact HB.out)) hb)); clear BK560 HB; obtain ⟨BK560, HB⟩ := n_; (try clear hb)))
         go_ret
         exact ⟨zE, by repeat (first | (with_reducible first | exact HB.out | apply bA | apply bN | apply bD | refine below_set ?_ GE560.out) | exact HB.out)⟩
        ·replace c62 := Bool.eq_false_iff.mpr c62
         subst c62
         rw [if_neg (show ¬ (false = true) by decide)] at H
         exact absurd ((sI H).trans hT.out) (by decide)
       ·rw [if_neg c60] at H
        exact absurd H (by simp)
      ·rw [if_neg c59] at H
       exact absurd ((sI H).trans hT.out) (by decide)
    ·rw [if_neg c10] at H
     have c10b0 : decide ((a1.size : Int) ≤ (a0.size : Int)) = false := decide_eq_false c10
     have c10b1 : decide (a1.size ≤ a0.size) = false := decide_eq_false (fun h => c10 (Int.ofNat_le.mpr h))
     clear c10
     obtain ⟨t570, A78, H⟩ := zO H
     by_cases c79 : (t570 == false) = true
     ·rw [if_pos c79] at H
      have c79b0 : (t570 == false) = true := c79
      (try (have c79b1 : decide (t570 = false) = true := by simpa using c79))
      (try (have c79b2 : (t570 == false) = true := by simpa using c79))
      clear c79
      by_cases c80 : a1.size + a2.size ≤ 9223372036854775807
      ·rw [if_pos c80] at H
       have c80b0 := eq_true c80
       have c80b1 : decide (a1.size + a2.size ≤ 9223372036854775807) = true := decide_eq_true c80
       try have c80b2 : (9223372036854775807 < a1.size + a2.size) = False := eq_false (Nat.not_lt.2 c80)
       obtain ⟨t571, A81, H⟩ := zO H
       by_cases c82 : t571 = true
       ·subst c82
        rw [if_pos rfl] at H
        obtain ⟨t572, A83, H⟩ := zO H
        obtain rfl := sI H
        go_wp2_with (first | ((with_reducible refine gate_dst (N := 7) rfl ?_); (try (refine gate_guard (by rfl) ?_; dsimp only)); refine box_event ?hg (N := 7) ?hd (cs := #[.string (⟨#[]⟩ : ByteArray), .slice none 0 0, .string (⟨#[]⟩ : ByteArray), .bool false, .bool false]) (t := 29) ?hr ?_; (case hd => rfl); (case hg => rfl); (case hr => first | (go_simp; done) | (go_simp; rfl)); intro gb560 hg w84 hbox hb; have n_ := zI (aM (below_step zB hb)) (zI (aM (hbox)) (zI (aM ((by rw [hg]; exact (below_size zB) : w.heap.size ≤ gb560))) (aM ((by rw [hg]; exact (below_size zB) : w.heap.size ≤ gb560))))); clear HB; obtain ⟨HB, BK560, GW560, GE560⟩ := n_; clear hb hbox hg; have hcz85_0 : w84.cell? ⟨gb560, 0, none⟩ = some (.string (⟨#[]⟩ : ByteArray)) := (blk_cell BK560.out 0).trans rfl; have hcz85_1 : w84.cell? ⟨gb560, 1, none⟩ = some (.slice none 0 0) := (blk_cell BK560.out 1).trans rfl; have hcz85_2 : w84.cell? ⟨gb560, 2, none⟩ = some (.string (⟨#[]⟩ : ByteArray)) := (blk_cell BK560.out 2).trans rfl; have hcz85_3 : w84.cell? ⟨gb560, 3, none⟩ = some (.bool false) := (blk_cell BK560.out 3).trans rfl; have hcz85_4 : w84.cell? ⟨gb560, 4, none⟩ = some (.bool false) := (blk_cell BK560.out 4).trans rfl; have hfz85_0 := blk_frozen BK560.out 0; have hfz85_1 := blk_frozen BK560.out 1; have hfz85_2 := blk_frozen BK560.out 2; have hfz85_3 := blk_frozen BK560.out 3; have hfz85_4 := blk_frozen BK560.out 4) | ((with_reducible refine gate_callee (f := 9) rfl ?_); refine goesL_ (some 60) rfl rfl Try.func9 zK rfl #[.string a0, .agg #[.string a1, .slice none 0 0, .string a2, .bool true, .bool true]] rfl zM ?_; (refine (pieces_Match.calls kj3 a0 a1 _ _ ([] : List ByteArray) a2 true true t570 _ (zEnv HE) ?side1 ?side2 A78.out).mono ?_); (case side1 => exact Kd.C_nil _ _); (case side2 => exact Nat.le_refl _); rintro e w86 ⟨rfl, hb⟩; refine ⟨_, rfl, ?_⟩; have n_ := zI (aM (blk_below (g := gb560) (o := .cells #[.string a1, .slice none 0 0, .string a2, .bool true, .bool true] 29 (0, 0)) (by (with_reducible repeat (first | refine blk_drewN ?_ _ | refine blk_drew ?_ | refine blk_alloc ?_ _)); refine blk_put (cs := #[.string a1, .slice none 0 0, .string a2, .bool true, .bool false]) ?_ 4 _ rfl; (with_reducible repeat (first | refine blk_drewN ?_ _ | refine blk_drew ?_ | refine blk_alloc ?_ _)); refine blk_put (cs := #[.string a1, .slice none 0 0, .string a2, .bool false, .bool false]) ?_ 3 _ rfl; (with_reducible repeat (first | refine blk_drewN ?_ _ | refine blk_drew ?_ | refine blk_alloc ?_ _)); refine blk_put (cs := #[.string a1, .slice none 0 0, .string (⟨#[]⟩ : ByteArray), .bool false, .bool false]) ?_ 2 _ rfl; (with_reducible repeat (first | refine blk_drewN ?_ _ | refine blk_drew ?_ | refine blk_alloc ?_ _)); refine blk_put (cs := #[.string a1, .slice none 0 0, .string (⟨#[]⟩ : ByteArray), .bool false, .bool false]) ?_ 1 _ rfl; (with_reducible repeat (first | refine blk_drewN ?_ _ | refine blk_drew ?_ | refine blk_alloc ?_ _)); refine blk_put (cs := #[.string (⟨#[]⟩ : ByteArray), .slice none 0 0, .string (⟨#[]⟩ : ByteArray), .bool false, .bool false]) ?_ 0 _ rfl; (with_reducible repeat (first | refine blk_drewN ?_ _ | refine blk_drew ?_ | refine blk_alloc ?_ _)); exact BK560.out) hb)) (aM (below_step (by repeat (first | (with_reducible first | exact HB.out | apply bA | apply bN | apply bD | refine below_set ?_ GE560.out) | exact HB.out)) hb)); clear BK560 HB; obtain ⟨BK560, HB⟩ := n_; (try clear hb); have hcz87_0 : w86.cell? ⟨gb560, 0, none⟩ = some (.string a1) := (blk_cell BK560.out 0).trans rfl; have hcz87_1 : w86.cell? ⟨gb560, 1, none⟩ = some (.slice none 0 0) := (blk_cell BK560.out 1).trans rfl; have hcz87_2 : w86.cell? ⟨gb560, 2, none⟩ = some (.string a2) := (blk_cell BK560.out 2).trans rfl; have hcz87_3 : w86.cell? ⟨gb560, 3, none⟩ = some (.bool true) := (blk_cell BK560.out 3).trans rfl; have hcz87_4 : w86.cell? ⟨gb560, 4, none⟩ = some (.bool true) := (blk_cell BK560.out 4).trans rfl; have hfz87_0 := blk_frozen BK560.out 0; have hfz87_1 := blk_frozen BK560.out 1; have hfz87_2 := blk_frozen BK560.out 2; have hfz87_3 := blk_frozen BK560.out 3; have hfz87_4 := blk_frozen BK560.out 4) | (go_at_call 9; (refine (pieces_Match.calls kj3 (a1 ++ a2) a1 _ _ ([] : List ByteArray) a2 true true true _ (zEnv HE) ?side1 ?side2 A81.out).mono ?_); (case side1 => exact Kd.C_nil _ _); (case side2 => exact Nat.le_refl _); rintro e w88 ⟨rfl, hb⟩; have n_ := zI (aM (blk_below (g := gb560) (o := .cells #[.string a1, .slice none 0 0, .string a2, .bool true, .bool true] 29 (0, 0)) (by (with_reducible repeat (first | refine blk_drewN ?_ _ | refine blk_drew ?_ | refine blk_alloc ?_ _)); exact BK560.out) hb)) (aM (below_step (by repeat (first | (with_reducible first | exact HB.out | apply bA | apply bN | apply bD | refine below_set ?_ GE560.out) | exact HB.out)) hb)); clear BK560 HB; obtain ⟨BK560, HB⟩ := n_; (try clear hb)) | (go_at_call 6; (with_reducible refine (toponymlaw13_awake.calls kj3  t572 _ (zEnv HE) A83.out).mono ?_); rintro e w89 ⟨rfl, hb⟩; (try clear A83); have n_ := zI (aM (blk_below (g := gb560) (o := .cells #[.string a1, .slice none 0 0, .string a2, .bool true, .bool true] 29 (0, 0)) (by (with_reducible repeat (first | refine blk_drewN ?_ _ | refine blk_drew ?_ | refine blk_alloc ?_ _)); exact BK560.out) hb)) (aM (below_step (by repeat (first | (with_reducible first | exact HB.out | apply bA | apply bN | apply bD | refine below_set ?_ GE560.out) | exact HB.out)) hb)); clear BK560 HB; obtain ⟨BK560, HB⟩ := n_; (try clear hb)))
        go_ret
        exact ⟨zE, by repeat (first | (with_reducible first | exact HB.out | apply bA | apply bN | apply bD | refine below_set ?_ GE560.out) | exact HB.out)⟩
       ·replace c82 := Bool.eq_false_iff.mpr c82
        subst c82
        rw [if_neg (show ¬ (false = true) by decide)] at H
        exact absurd ((sI H).trans hT.out) (by decide)
      ·rw [if_neg c80] at H
       exact absurd H (by simp)
     ·rw [if_neg c79] at H
      exact absurd ((sI H).trans hT.out) (by decide)
/-- THE ONE PURE STATEMENT of toponymlaw13_PiecesEnds: yours. -/
def toponymlaw13_PiecesEnds.Pure : Prop := ∀ (a0 : ByteArray) (a1 : ByteArray) (a2 : ByteArray), a0.size ≤ 140737488351232 → a1.size ≤ 140737488351232 → a2.size ≤ 140737488351232 → ∃ k, toponymlaw13_PiecesEnds.f k a0 a1 a2 = some true
theorem toponymlaw13_PiecesEnds.walk (P : toponymlaw13_PiecesEnds.Pure) (a0 : ByteArray) (a1 : ByteArray) (a2 : ByteArray) (w : World) (hE : Env w) (w0 : a0.size ≤ 140737488351232) (w1 : a1.size ≤ 140737488351232) (w2 : a2.size ≤ 140737488351232) :
  Calls Try.prog 4 #[.string a0, .string a1, .string a2] w fun e w' => e = .returned (.bool true) ∧ Below w.heap.size w w' := by
 obtain ⟨k, h⟩ := P a0 a1 a2 w0 w1 w2
 refine (toponymlaw13_PiecesEnds.calls k a0 a1 a2 true w hE h rfl).mono ?_
 rintro e w' ⟨rfl, hd⟩
 exact ⟨rfl, hd⟩

/-! ### toponymlaw13_long: function 17 -/
def toponymlaw13_long.f (a0 : ByteArray) : Option (Bool) := if (a0.size : Int) > 150 then (if (a0.size : Int) ≤ 1202 then (some true) else (some (decide ((a0.size : Int) > 5000)))) else (some (decide ((a0.size : Int) > 5000)))
set_option maxHeartbeats 8000000 in
set_option maxRecDepth 100000 in
theorem toponymlaw13_long.calls (a0 : ByteArray) (r : Bool) (w : World) (h : toponymlaw13_long.f a0 = some r) :
  Calls Try.prog 17 #[.string a0] w fun e w' => e = .returned (.bool r) ∧ Drawn0 w w' := by
 have H := h
 clear h
 unfold toponymlaw13_long.f at H
 by_cases c2 : (a0.size : Int) > 150
 ·rw [if_pos c2] at H
  have c2b0 : decide (150 < (a0.size : Int)) = true := decide_eq_true c2
  have c2b1 : decide (150 < a0.size) = true := decide_eq_true (by omega)
  clear c2
  by_cases c3 : (a0.size : Int) ≤ 1202
  ·rw [if_pos c3] at H
   have c3b0 : decide ((a0.size : Int) ≤ 1202) = true := decide_eq_true c3
   have c3b1 : decide (a0.size ≤ 1202) = true := decide_eq_true (by omega)
   clear c3
   obtain rfl := sI H
   go_enter Try.func17, Try.ntmps17
   go_wp2
   go_ret
   exact ⟨zP, zD⟩
  ·rw [if_neg c3] at H
   have c3b0 : decide ((a0.size : Int) ≤ 1202) = false := decide_eq_false c3
   have c3b1 : decide (a0.size ≤ 1202) = false := decide_eq_false (by omega)
   clear c3
   obtain rfl := sI H
   go_enter Try.func17, Try.ntmps17
   go_wp2
   go_ret
   exact ⟨zP, zD⟩
 ·rw [if_neg c2] at H
  have c2b0 : decide (150 < (a0.size : Int)) = false := decide_eq_false c2
  have c2b1 : decide (150 < a0.size) = false := decide_eq_false (by omega)
  clear c2
  obtain rfl := sI H
  go_enter Try.func17, Try.ntmps17
  go_wp2
  go_ret
  exact ⟨zP, zD⟩

/-! ### toponymlaw13_Few: function 10 -/
mutual
def toponymlaw13_Few.j0 : Nat → Bool → ByteArray → List ByteArray → ByteArray → Bool → Bool → Option (Bool)
 | 0, _, _, _, _, _, _ => none
 | k + 1, x17, x574000, x574001, x574002, x574003, x574004 => if x17 = true then (some false) else (toponymlaw13_Few.l0 k 0 x574000 x574001 x574002 x574003 x574004)
def toponymlaw13_Few.l0 : Nat → Int → ByteArray → List ByteArray → ByteArray → Bool → Bool → Option (Bool)
 | 0, _, _, _, _, _, _ => none
 | k + 1, x3, x574000, x574001, x574002, x574003, x574004 => if x3 < (x574001.length : Int) then (if 0 ≤ x3 then ((toponymlaw13_long.f (rdOf ByteArray.empty x574001 x3)).bind fun t577 => (if t577 = true then (some false) else (toponymlaw13_Few.l0 k (wrap64 (x3 + 1)) x574000 x574001 x574002 x574003 x574004))) else (none)) else (some true)
end
def toponymlaw13_Few.f (k : Nat) (a0_0 : ByteArray) (l0_1 : List ByteArray) (a0_2 : ByteArray) (a0_3 : Bool) (a0_4 : Bool) : Option (Bool) := if (l0_1.length : Int) > 9 then (toponymlaw13_Few.j0 k true a0_0 l0_1 a0_2 a0_3 a0_4) else ((toponymlaw13_long.f a0_0).bind fun t574 => (if t574 = true then (toponymlaw13_Few.j0 k true a0_0 l0_1 a0_2 a0_3 a0_4) else ((toponymlaw13_long.f a0_2).bind fun t575 => (toponymlaw13_Few.j0 k t575 a0_0 l0_1 a0_2 a0_3 a0_4))))
theorem toponymlaw13_Few.mono_l : ∀ k, (∀ y0 y1 y2 y3 y4 y5, LeO (toponymlaw13_Few.j0 k y0 y1 y2 y3 y4 y5) (toponymlaw13_Few.j0 (k + 1) y0 y1 y2 y3 y4 y5)) ∧ (∀ y0 y1 y2 y3 y4 y5, LeO (toponymlaw13_Few.l0 k y0 y1 y2 y3 y4 y5) (toponymlaw13_Few.l0 (k + 1) y0 y1 y2 y3 y4 y5))
 | 0 => ⟨fun _ _ _ _ _ _ r h => by simp [toponymlaw13_Few.j0] at h, fun _ _ _ _ _ _ r h => by simp [toponymlaw13_Few.l0] at h⟩
 | k + 1 => by
  obtain ⟨ih0, ih1⟩ := toponymlaw13_Few.mono_l k
  refine ⟨?_, ?_⟩
  ·intro y0 y1 y2 y3 y4 y5
   unfold toponymlaw13_Few.j0
   repeat' first
   | (with_reducible exact ih0 _ _ _ _ _ _)
   | (with_reducible exact ih1 _ _ _ _ _ _)
   | (with_reducible exact LeO.refl _)
   | exact ih0 _ _ _ _ _ _
   | exact ih1 _ _ _ _ _ _
   | exact LeO.none _
   | refine LeO.ite ?_ ?_
   | refine LeO.bind ?_ (fun _ => ?_)
  ·intro y0 y1 y2 y3 y4 y5
   unfold toponymlaw13_Few.l0
   repeat' first
   | (with_reducible exact ih0 _ _ _ _ _ _)
   | (with_reducible exact ih1 _ _ _ _ _ _)
   | (with_reducible exact LeO.refl _)
   | exact ih0 _ _ _ _ _ _
   | exact ih1 _ _ _ _ _ _
   | exact LeO.none _
   | refine LeO.ite ?_ ?_
   | refine LeO.bind ?_ (fun _ => ?_)
theorem toponymlaw13_Few.mono : ∀ a0 a1 a2 a3 a4 k, LeO (toponymlaw13_Few.f k a0 a1 a2 a3 a4) (toponymlaw13_Few.f (k + 1) a0 a1 a2 a3 a4) := by
 intro a0 a1 a2 a3 a4 k
 obtain ⟨ih0, ih1⟩ := toponymlaw13_Few.mono_l k
 unfold toponymlaw13_Few.f
 repeat' first
   | (with_reducible exact ih0 _ _ _ _ _ _)
   | (with_reducible exact ih1 _ _ _ _ _ _)
   | (with_reducible exact LeO.refl _)
   | exact ih0 _ _ _ _ _ _
   | exact ih1 _ _ _ _ _ _
   | exact LeO.none _
   | refine LeO.ite ?_ ?_
   | refine LeO.bind ?_ (fun _ => ?_)
set_option maxHeartbeats 8000000 in
set_option maxRecDepth 100000 in
theorem toponymlaw13_Few.calls (k : Nat) (a0_0 : ByteArray) (A0_1 : Option Addr) (c0_1 : Nat) (l0_1 : List ByteArray) (a0_2 : ByteArray) (a0_3 : Bool) (a0_4 : Bool) (r : Bool) (w : World) (hr0_1 : Kd.C Kd.string w A0_1 l0_1.length l0_1) (hc0_1 : l0_1.length ≤ c0_1) (h : toponymlaw13_Few.f k a0_0 l0_1 a0_2 a0_3 a0_4 = some r) :
  Calls Try.prog 10 #[.agg #[.string a0_0, .slice A0_1 l0_1.length c0_1, .string a0_2, .bool a0_3, .bool a0_4]] w fun e w' => e = .returned (.bool r) ∧ Below w.heap.size w w' := by
 have hu29 := Try.underlying29
 have HR0_1 := aM hr0_1
 have HC0_1 := aM hc0_1
 clear hr0_1 hc0_1
 have HB := aM (Below.refl w.heap.size w)
 have H := h
 clear h
 unfold toponymlaw13_Few.f at H
 have HC2 := aM H
 clear H
 go_enter Try.func10, Try.ntmps10
 go_upto_region 1 with (first | ((with_reducible refine gate_dst (N := 1) rfl ?_); refine box_event ?hg (N := 1) ?hd (cs := #[.string a0_0, .slice A0_1 l0_1.length c0_1, .string a0_2, .bool a0_3, .bool a0_4]) (t := 29) ?hr ?_; (case hd => rfl); (case hg => rfl); (case hr => first | (go_simp; done) | (go_simp; rfl)); intro gb573 hg w3 hbox hb; have n_ := zI (aM (below_step zB hb)) (zI (aM (hbox)) (zI (aM ((by rw [hg]; exact (below_size zB) : w.heap.size ≤ gb573))) (aM ((by rw [hg]; exact (below_size zB) : w.heap.size ≤ gb573))))); clear HB; obtain ⟨HB, BK573, GW573, GE573⟩ := n_; clear hb hbox hg))
 (try simp only [Act.put, List.setIfInBounds_toArray, List.set_cons_zero, List.set_cons_succ])
 go_cut [17] (fun v17 wc => ∃ (kq : Nat) (x17_1 : Bool), v17 = .bool x17_1 ∧ Aside0 (toponymlaw13_Few.j0 kq x17_1 a0_0 l0_1 a0_2 a0_3 a0_4 = some r) ∧ Aside0 (kq ≤ k) ∧ Aside0 (wc.heap[gb573]? = some (.cells #[.string a0_0, (.slice A0_1 l0_1.length c0_1), .string a0_2, .bool a0_3, .bool a0_4] 29 (0, 0))) ∧ Aside0 (Below w.heap.size w wc))
 case first =>
  have H := HC2.out
  clear HC2
  by_cases c4 : (l0_1.length : Int) > 9
  ·rw [if_pos c4] at H
   have c4b0 : decide (9 < (l0_1.length : Int)) = true := decide_eq_true c4
   have c4b1 : decide (9 < l0_1.length) = true := decide_eq_true (by omega)
   clear c4
   (first | rw [c4b0] | (simp only [i64_w, i32_w]; rw [c4b0]) | skip)
   have H' := aM H
   clear H
   have hcz5_0 : w3.cell? ⟨gb573, 0, none⟩ = some (.string a0_0) := (blk_cell BK573.out 0).trans rfl
   have hcz5_1 : w3.cell? ⟨gb573, 1, none⟩ = some (.slice A0_1 l0_1.length c0_1) := (blk_cell BK573.out 1).trans rfl
   have hcz5_2 : w3.cell? ⟨gb573, 2, none⟩ = some (.string a0_2) := (blk_cell BK573.out 2).trans rfl
   have hcz5_3 : w3.cell? ⟨gb573, 3, none⟩ = some (.bool a0_3) := (blk_cell BK573.out 3).trans rfl
   have hcz5_4 : w3.cell? ⟨gb573, 4, none⟩ = some (.bool a0_4) := (blk_cell BK573.out 4).trans rfl
   have hfz5_0 := blk_frozen BK573.out 0
   have hfz5_1 := blk_frozen BK573.out 1
   have hfz5_2 := blk_frozen BK573.out 2
   have hfz5_3 := blk_frozen BK573.out 3
   have hfz5_4 := blk_frozen BK573.out 4
   go_wp2
   go_meet
   case rel => exact ⟨_, (true), zP, H', ⟨by first | omega | exact Nat.le_refl _⟩, ⟨by (with_reducible repeat (first | refine blk_drewN ?_ _ | refine blk_drew ?_ | refine blk_alloc ?_ _)); exact BK573.out⟩, ⟨by repeat (first | (with_reducible first | exact HB.out | apply bA | apply bN | apply bD | refine below_set ?_ GE573.out) | exact HB.out)⟩⟩
  ·rw [if_neg c4] at H
   have c4b0 : decide (9 < (l0_1.length : Int)) = false := decide_eq_false c4
   have c4b1 : decide (9 < l0_1.length) = false := decide_eq_false (by omega)
   clear c4
   (first | rw [c4b0] | (simp only [i64_w, i32_w]; rw [c4b0]) | skip)
   obtain ⟨t574, A6, H⟩ := zO H
   by_cases c7 : t574 = true
   ·subst c7
    rw [if_pos rfl] at H
    have H' := aM H
    clear H
    have hcz8_0 : w3.cell? ⟨gb573, 0, none⟩ = some (.string a0_0) := (blk_cell BK573.out 0).trans rfl
    have hcz8_1 : w3.cell? ⟨gb573, 1, none⟩ = some (.slice A0_1 l0_1.length c0_1) := (blk_cell BK573.out 1).trans rfl
    have hcz8_2 : w3.cell? ⟨gb573, 2, none⟩ = some (.string a0_2) := (blk_cell BK573.out 2).trans rfl
    have hcz8_3 : w3.cell? ⟨gb573, 3, none⟩ = some (.bool a0_3) := (blk_cell BK573.out 3).trans rfl
    have hcz8_4 : w3.cell? ⟨gb573, 4, none⟩ = some (.bool a0_4) := (blk_cell BK573.out 4).trans rfl
    have hfz8_0 := blk_frozen BK573.out 0
    have hfz8_1 := blk_frozen BK573.out 1
    have hfz8_2 := blk_frozen BK573.out 2
    have hfz8_3 := blk_frozen BK573.out 3
    have hfz8_4 := blk_frozen BK573.out 4
    go_wp2_with (first | (go_at_call 17; (with_reducible refine (toponymlaw13_long.calls a0_0 true _ A6.out).mono ?_); rintro e w' ⟨rfl, ⟨nd, rfl⟩⟩; (try clear A6)))
    go_meet
    case rel => exact ⟨_, (true), zP, H', ⟨by first | omega | exact Nat.le_refl _⟩, ⟨by (with_reducible repeat (first | refine blk_drewN ?_ _ | refine blk_drew ?_ | refine blk_alloc ?_ _)); exact BK573.out⟩, ⟨by repeat (first | (with_reducible first | exact HB.out | apply bA | apply bN | apply bD | refine below_set ?_ GE573.out) | exact HB.out)⟩⟩
   ·replace c7 := Bool.eq_false_iff.mpr c7
    subst c7
    rw [if_neg (show ¬ (false = true) by decide)] at H
    obtain ⟨t575, A9, H⟩ := zO H
    have H' := aM H
    clear H
    have hcz10_0 : w3.cell? ⟨gb573, 0, none⟩ = some (.string a0_0) := (blk_cell BK573.out 0).trans rfl
    have hcz10_1 : w3.cell? ⟨gb573, 1, none⟩ = some (.slice A0_1 l0_1.length c0_1) := (blk_cell BK573.out 1).trans rfl
    have hcz10_2 : w3.cell? ⟨gb573, 2, none⟩ = some (.string a0_2) := (blk_cell BK573.out 2).trans rfl
    have hcz10_3 : w3.cell? ⟨gb573, 3, none⟩ = some (.bool a0_3) := (blk_cell BK573.out 3).trans rfl
    have hcz10_4 : w3.cell? ⟨gb573, 4, none⟩ = some (.bool a0_4) := (blk_cell BK573.out 4).trans rfl
    have hfz10_0 := blk_frozen BK573.out 0
    have hfz10_1 := blk_frozen BK573.out 1
    have hfz10_2 := blk_frozen BK573.out 2
    have hfz10_3 := blk_frozen BK573.out 3
    have hfz10_4 := blk_frozen BK573.out 4
    go_wp2_with (first | (go_at_call 17; (with_reducible refine (toponymlaw13_long.calls a0_0 false _ A6.out).mono ?_); rintro e w' ⟨rfl, ⟨nd, rfl⟩⟩; (try clear A6)) | (go_at_call 17; (with_reducible refine (toponymlaw13_long.calls a0_2 t575 _ A9.out).mono ?_); rintro e w' ⟨rfl, ⟨nd, rfl⟩⟩; (try clear A9)))
    go_meet
    case rel => exact ⟨_, (t575), zP, H', ⟨by first | omega | exact Nat.le_refl _⟩, ⟨by (with_reducible repeat (first | refine blk_drewN ?_ _ | refine blk_drew ?_ | refine blk_alloc ?_ _)); exact BK573.out⟩, ⟨by repeat (first | (with_reducible first | exact HB.out | apply bA | apply bN | apply bD | refine below_set ?_ GE573.out) | exact HB.out)⟩⟩
 case rest =>
  clear HC2
  try clear c1
  try clear p2
  try clear c4
  try clear c4b0
  try clear c4b1
  try clear c7
  try clear c10
  try clear hcz10_0
  try clear hcz10_1
  try clear hcz10_2
  try clear hcz10_3
  try clear hcz10_4
  try clear hcz5_0
  try clear hcz5_1
  try clear hcz5_2
  try clear hcz5_3
  try clear hcz5_4
  try clear hcz8_0
  try clear hcz8_1
  try clear hcz8_2
  try clear hcz8_3
  try clear hcz8_4
  try clear hfz10_0
  try clear hfz10_1
  try clear hfz10_2
  try clear hfz10_3
  try clear hfz10_4
  try clear hfz5_0
  try clear hfz5_1
  try clear hfz5_2
  try clear hfz5_3
  try clear hfz5_4
  try clear hfz8_0
  try clear hfz8_1
  try clear hfz8_2
  try clear hfz8_3
  try clear hfz8_4
  obtain ⟨kq, x17_1, rfl, HA, HJ1, BK573, HB⟩ := hcut
  cases kq with
  | zero => exact absurd HA.out (by simp [toponymlaw13_Few.j0])
  | succ kj1 =>
   have H := HA.out
   clear HA
   simp only [toponymlaw13_Few.j0] at H
   by_cases c11 : x17_1 = true
   ·subst c11
    rw [if_pos rfl] at H
    obtain rfl := sI H
    go_wp2
    go_ret
    exact ⟨zE, by repeat (first | (with_reducible first | exact HB.out | apply bA | apply bN | apply bD | refine below_set ?_ GE573.out) | exact HB.out)⟩
   ·replace c11 := Bool.eq_false_iff.mpr c11
    subst c11
    rw [if_neg (show ¬ (false = true) by decide)] at H
    have H' := aM H
    clear H
    go_wp2
    go_loopg [3] kj1 (fun kq v3 w' => ∃ (x3_2 : Int), v3 = .int .i64 x3_2 ∧ Aside0 (toponymlaw13_Few.l0 kq x3_2 a0_0 l0_1 a0_2 a0_3 a0_4 = some r) ∧ Aside0 (kq ≤ kj1) ∧ Aside0 (w'.heap[gb573]? = some (.cells #[.string a0_0, (.slice A0_1 l0_1.length c0_1), .string a0_2, .bool a0_3, .bool a0_4] 29 (0, 0))) ∧ Aside0 (Below w.heap.size w w'))
    case atStart => exact ⟨(0), zP, H', ⟨Nat.le_refl _⟩, ⟨by (with_reducible repeat (first | refine blk_drewN ?_ _ | refine blk_drew ?_ | refine blk_alloc ?_ _)); exact BK573.out⟩, ⟨by repeat (first | (with_reducible first | exact HB.out | apply bA | apply bN | apply bD | refine below_set ?_ GE573.out) | exact HB.out)⟩⟩
    case round =>
     clear H'
     try clear c1
     try clear p2
     try clear c4
     try clear c4b0
     try clear c4b1
     try clear c7
     try clear c10
     try clear c11
     try clear hcz10_0
     try clear hcz10_1
     try clear hcz10_2
     try clear hcz10_3
     try clear hcz10_4
     try clear hcz5_0
     try clear hcz5_1
     try clear hcz5_2
     try clear hcz5_3
     try clear hcz5_4
     try clear hcz8_0
     try clear hcz8_1
     try clear hcz8_2
     try clear hcz8_3
     try clear hcz8_4
     try clear hfz10_0
     try clear hfz10_1
     try clear hfz10_2
     try clear hfz10_3
     try clear hfz10_4
     try clear hfz5_0
     try clear hfz5_1
     try clear hfz5_2
     try clear hfz5_3
     try clear hfz5_4
     try clear hfz8_0
     try clear hfz8_1
     try clear hfz8_2
     try clear hfz8_3
     try clear hfz8_4
     try clear p2
     obtain ⟨x3_2, rfl, HA, HK2, BK573, HB⟩ := hrel
     cases gk with
     | zero => exact absurd HA.out (by simp [toponymlaw13_Few.l0])
     | succ k2 =>
      have H := HA.out
      clear HA
      simp only [toponymlaw13_Few.l0] at H
      by_cases c12 : x3_2 < (l0_1.length : Int)
      ·rw [if_pos c12] at H
       have c12b0 : decide (x3_2 < (l0_1.length : Int)) = true := decide_eq_true c12
       clear c12
       by_cases c13 : 0 ≤ x3_2
       ·rw [if_pos c13] at H
        have c13b0 : decide (0 ≤ x3_2) = true := decide_eq_true c13
        clear c13
        obtain ⟨t577, A14, H⟩ := zO H
        by_cases c15 : t577 = true
        ·subst c15
         rw [if_pos rfl] at H
         obtain rfl := sI H
         have hcz16_0 : wr.cell? ⟨gb573, 0, none⟩ = some (.string a0_0) := (blk_cell BK573.out 0).trans rfl
         have hcz16_1 : wr.cell? ⟨gb573, 1, none⟩ = some (.slice A0_1 l0_1.length c0_1) := (blk_cell BK573.out 1).trans rfl
         have hcz16_2 : wr.cell? ⟨gb573, 2, none⟩ = some (.string a0_2) := (blk_cell BK573.out 2).trans rfl
         have hcz16_3 : wr.cell? ⟨gb573, 3, none⟩ = some (.bool a0_3) := (blk_cell BK573.out 3).trans rfl
         have hcz16_4 : wr.cell? ⟨gb573, 4, none⟩ = some (.bool a0_4) := (blk_cell BK573.out 4).trans rfl
         have hfz16_0 := blk_frozen BK573.out 0
         have hfz16_1 := blk_frozen BK573.out 1
         have hfz16_2 := blk_frozen BK573.out 2
         have hfz16_3 := blk_frozen BK573.out 3
         have hfz16_4 := blk_frozen BK573.out 4
         have p576 : 0 ≤ (x3_2 : Int) := zoA
         have q576 : x3_2 < (l0_1.length : Int) := zoA
         obtain ⟨ad576, e576, hx576_0⟩ := Kd.at_string HR0_1.out x3_2 p576 q576
         cases e576
         replace hx576_0 := (HB.out.cell (World.block_lt_of_cell? w _ hx576_0)).trans hx576_0
         replace p576 := eq_true p576
         replace q576 := eq_true q576
         go_wp2_with (first | ((with_reducible refine gate_callee (f := 17) rfl ?_); refine goesL_ (some 30) rfl rfl Try.func17 zK rfl #[.string (rdOf ByteArray.empty l0_1 x3_2)] rfl zM ?_; (with_reducible refine (toponymlaw13_long.calls (rdOf ByteArray.empty l0_1 x3_2) true _ A14.out).mono ?_); rintro e w' ⟨rfl, ⟨nd, rfl⟩⟩; (try clear A14); refine ⟨_, rfl, ?_⟩))
         go_ret
         exact ⟨zE, by repeat (first | (with_reducible first | exact HB.out | apply bA | apply bN | apply bD | refine below_set ?_ GE573.out) | exact HB.out)⟩
        ·replace c15 := Bool.eq_false_iff.mpr c15
         subst c15
         rw [if_neg (show ¬ (false = true) by decide)] at H
         have H' := aM H
         clear H
         have hcz17_0 : wr.cell? ⟨gb573, 0, none⟩ = some (.string a0_0) := (blk_cell BK573.out 0).trans rfl
         have hcz17_1 : wr.cell? ⟨gb573, 1, none⟩ = some (.slice A0_1 l0_1.length c0_1) := (blk_cell BK573.out 1).trans rfl
         have hcz17_2 : wr.cell? ⟨gb573, 2, none⟩ = some (.string a0_2) := (blk_cell BK573.out 2).trans rfl
         have hcz17_3 : wr.cell? ⟨gb573, 3, none⟩ = some (.bool a0_3) := (blk_cell BK573.out 3).trans rfl
         have hcz17_4 : wr.cell? ⟨gb573, 4, none⟩ = some (.bool a0_4) := (blk_cell BK573.out 4).trans rfl
         have hfz17_0 := blk_frozen BK573.out 0
         have hfz17_1 := blk_frozen BK573.out 1
         have hfz17_2 := blk_frozen BK573.out 2
         have hfz17_3 := blk_frozen BK573.out 3
         have hfz17_4 := blk_frozen BK573.out 4
         have p576 : 0 ≤ (x3_2 : Int) := zoA
         have q576 : x3_2 < (l0_1.length : Int) := zoA
         obtain ⟨ad576, e576, hx576_0⟩ := Kd.at_string HR0_1.out x3_2 p576 q576
         cases e576
         replace hx576_0 := (HB.out.cell (World.block_lt_of_cell? w _ hx576_0)).trans hx576_0
         replace p576 := eq_true p576
         replace q576 := eq_true q576
         go_wp2_with (first | ((with_reducible refine gate_callee (f := 17) rfl ?_); refine goesL_ (some 30) rfl rfl Try.func17 zK rfl #[.string (rdOf ByteArray.empty l0_1 x3_2)] rfl zM ?_; (with_reducible refine (toponymlaw13_long.calls (rdOf ByteArray.empty l0_1 x3_2) false _ A14.out).mono ?_); rintro e w' ⟨rfl, ⟨nd, rfl⟩⟩; (try clear A14); refine ⟨_, rfl, ?_⟩))
         go_roundg k2
         case measure => have := HJ1.out; have := HK2.out; omega
         case rel => exact ⟨(wrap64 (x3_2 + 1)), zP, H', ⟨by have := HJ1.out; have := HK2.out; omega⟩, ⟨by (with_reducible repeat (first | refine blk_drewN ?_ _ | refine blk_drew ?_ | refine blk_alloc ?_ _)); exact BK573.out⟩, ⟨by repeat (first | (with_reducible first | exact HB.out | apply bA | apply bN | apply bD | refine below_set ?_ GE573.out) | exact HB.out)⟩⟩
       ·rw [if_neg c13] at H
        exact absurd H (by simp)
      ·rw [if_neg c12] at H
       have c12b0 : decide (x3_2 < (l0_1.length : Int)) = false := decide_eq_false c12
       clear c12
       obtain rfl := sI H
       have hcz18_0 : wr.cell? ⟨gb573, 0, none⟩ = some (.string a0_0) := (blk_cell BK573.out 0).trans rfl
       have hcz18_1 : wr.cell? ⟨gb573, 1, none⟩ = some (.slice A0_1 l0_1.length c0_1) := (blk_cell BK573.out 1).trans rfl
       have hcz18_2 : wr.cell? ⟨gb573, 2, none⟩ = some (.string a0_2) := (blk_cell BK573.out 2).trans rfl
       have hcz18_3 : wr.cell? ⟨gb573, 3, none⟩ = some (.bool a0_3) := (blk_cell BK573.out 3).trans rfl
       have hcz18_4 : wr.cell? ⟨gb573, 4, none⟩ = some (.bool a0_4) := (blk_cell BK573.out 4).trans rfl
       have hfz18_0 := blk_frozen BK573.out 0
       have hfz18_1 := blk_frozen BK573.out 1
       have hfz18_2 := blk_frozen BK573.out 2
       have hfz18_3 := blk_frozen BK573.out 3
       have hfz18_4 := blk_frozen BK573.out 4
       go_wp2
       go_ret
       exact ⟨zE, by repeat (first | (with_reducible first | exact HB.out | apply bA | apply bN | apply bD | refine below_set ?_ GE573.out) | exact HB.out)⟩

end Go.Proofs.Ytncppcjobimilaa.P
