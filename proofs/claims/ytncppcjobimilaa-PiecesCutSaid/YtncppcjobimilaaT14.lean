-- Printed by wip/mk.py (this session's driver over the kit's print) and from wip/manual.
import Derived.Test.YtncppcjobimilaaT0
import Derived.Test.YtncppcjobimilaaT1
import Derived.Test.YtncppcjobimilaaT2
import Derived.Test.YtncppcjobimilaaT13
namespace Go.Proofs.Ytncppcjobimilaa.P
open Go.RowKit Go.Proofs.YtncppcjobimilaaW.PrintWords Go.Proofs.YtncppcjobimilaaW.PrintLast Go.Proofs.YtncppcjobimilaaW.PrintMore
attribute [local go_sem] max2_int min2_int max_two min_two max_three min_three max_four min_four   -- for this text's walks alone
set_option linter.unusedVariables false
set_option linter.unusedSimpArgs false

/-! ### pieces_Asks: function 11 -/
def pieces_Asks.f (k : Nat) (a0 : Int) (a1 : ByteArray) (a2_0 : ByteArray) (l2_1 : List ByteArray) (a2_2 : ByteArray) (a2_3 : Bool) (a2_4 : Bool) : Option (Bool × Int) := (prep_Value.f k a0 a1).bind fun bt524 => (if bt524.2 = 0 then ((pieces_Prepare.f k a0 a2_0 l2_1 a2_2 a2_3 a2_4).bind fun bt526 => (if bt526.2.2.2.2.2 = 0 then ((pieces_Match.f k bt524.1 bt526.1 bt526.2.1 bt526.2.2.1 bt526.2.2.2.1 bt526.2.2.2.2.1).bind fun t535 => (some (t535, 0))) else (some (false, bt526.2.2.2.2.2)))) else (some (false, bt524.2)))
theorem pieces_Asks.mono : ∀ a0 a1 a2 a3 a4 a5 a6 k, LeO (pieces_Asks.f k a0 a1 a2 a3 a4 a5 a6) (pieces_Asks.f (k + 1) a0 a1 a2 a3 a4 a5 a6) := by
 intro a0 a1 a2 a3 a4 a5 a6 k
 unfold pieces_Asks.f
 repeat' first
   | (with_reducible exact pieces_Match.mono _ _ _ _ _ _ _)
   | (with_reducible exact pieces_Prepare.mono _ _ _ _ _ _ _)
   | (with_reducible exact prep_Value.mono _ _ _)
   | (with_reducible exact LeO.refl _)
   | exact pieces_Match.mono _ _ _ _ _ _ _
   | exact pieces_Prepare.mono _ _ _ _ _ _ _
   | exact prep_Value.mono _ _ _
   | exact LeO.none _
   | refine LeO.ite ?_ ?_
   | refine LeO.bind ?_ (fun _ => ?_)
set_option maxHeartbeats 8000000 in
set_option maxRecDepth 100000 in
theorem pieces_Asks.calls (k : Nat) (a0 : Int) (a1 : ByteArray) (a2_0 : ByteArray) (A2_1 : Option Addr) (c2_1 : Nat) (l2_1 : List ByteArray) (a2_2 : ByteArray) (a2_3 : Bool) (a2_4 : Bool) (r1 : Bool) (r2 : Int) (w : World) (hE : Env w) (hr2_1 : Kd.C Kd.string w A2_1 l2_1.length l2_1) (hc2_1 : l2_1.length ≤ c2_1) (h : pieces_Asks.f k a0 a1 a2_0 l2_1 a2_2 a2_3 a2_4 = some (r1, r2)) :
  Calls Try.prog 11 #[.int .i64 a0, .string a1, .agg #[.string a2_0, .slice A2_1 l2_1.length c2_1, .string a2_2, .bool a2_3, .bool a2_4]] w fun e w' => e = .returned (.tuple #[.bool r1, .int .i64 r2]) ∧ Below w.heap.size w w' := by
 have HE := aM hE
 clear hE
 have hu29 := Try.underlying29
 have HR2_1 := aM hr2_1
 have HC2_1 := aM hc2_1
 clear hr2_1 hc2_1
 have HB := aM (Below.refl w.heap.size w)
 have H := h
 clear h
 unfold pieces_Asks.f at H
 obtain ⟨⟨t524, t525⟩, A4, H⟩ := zO H
 try dsimp only at H
 by_cases c5 : t525 = 0
 ·rw [if_pos c5] at H
  have c5b0 : (t525 == 0) = true := beq_iff_eq.mpr c5
  have c5b1 : (t525 != 0) = false := bne_eq_false_iff_eq.mpr c5
  clear c5
  obtain ⟨⟨t526, t527, t530, t531, t532, t533⟩, A6, H⟩ := zO H
  try dsimp only at H
  by_cases c7 : t533 = 0
  ·rw [if_pos c7] at H
   have c7b0 : (t533 == 0) = true := beq_iff_eq.mpr c7
   have c7b1 : (t533 != 0) = false := bne_eq_false_iff_eq.mpr c7
   clear c7
   obtain ⟨t535, A8, H⟩ := zO H
   simp only [Option.some.injEq, Prod.mk.injEq] at H
   obtain ⟨rfl, rfl⟩ := H
   go_enter Try.func11, Try.ntmps11
   go_wp2_with (first | ((with_reducible refine gate_dst (N := 5) rfl ?_); refine box_event ?hg (N := 5) ?hd (cs := #[.string a2_0, .slice A2_1 l2_1.length c2_1, .string a2_2, .bool a2_3, .bool a2_4]) (t := 29) ?hr ?_; (case hd => rfl); (case hg => rfl); (case hr => first | (go_simp; done) | (go_simp; rfl)); intro gb523 hg w9 hbox hb; have n_ := zI (aM (below_step zB hb)) (zI (aM (hbox)) (zI (aM ((by rw [hg]; exact (below_size zB) : w.heap.size ≤ gb523))) (aM ((by rw [hg]; exact (below_size zB) : w.heap.size ≤ gb523))))); clear HB; obtain ⟨HB, BK523, GW523, GE523⟩ := n_; clear hb hbox hg) | ((with_reducible refine gate_callee (f := 18) rfl ?_); refine goesL_ (some 14) rfl rfl Try.func18 zK rfl #[.int .i64 a0, .string a1] rfl zM ?_; (with_reducible refine (prep_Value.calls k a0 a1 t524 t525 _ A4.out).mono ?_); rintro e w10 ⟨rfl, hb⟩; refine ⟨_, rfl, ?_⟩; have n_ := zI (aM (blk_below (g := gb523) (o := .cells #[.string a2_0, .slice A2_1 l2_1.length c2_1, .string a2_2, .bool a2_3, .bool a2_4] 29 (0, 0)) (by (with_reducible repeat (first | refine blk_drewN ?_ _ | refine blk_drew ?_ | refine blk_alloc ?_ _)); exact BK523.out) hb)) (aM (below_step (by repeat (first | (with_reducible first | exact HB.out | apply bA | apply bN | apply bD | refine below_set ?_ GE523.out) | exact HB.out)) hb)); clear BK523 HB; obtain ⟨BK523, HB⟩ := n_; (try clear hb); (try clear hk); have hcz11_0 : w10.cell? ⟨gb523, 0, none⟩ = some (.string a2_0) := (blk_cell BK523.out 0).trans rfl; have hcz11_1 : w10.cell? ⟨gb523, 1, none⟩ = some (.slice A2_1 l2_1.length c2_1) := (blk_cell BK523.out 1).trans rfl; have hcz11_2 : w10.cell? ⟨gb523, 2, none⟩ = some (.string a2_2) := (blk_cell BK523.out 2).trans rfl; have hcz11_3 : w10.cell? ⟨gb523, 3, none⟩ = some (.bool a2_3) := (blk_cell BK523.out 3).trans rfl; have hcz11_4 : w10.cell? ⟨gb523, 4, none⟩ = some (.bool a2_4) := (blk_cell BK523.out 4).trans rfl; have hfz11_0 := blk_frozen BK523.out 0; have hfz11_1 := blk_frozen BK523.out 1; have hfz11_2 := blk_frozen BK523.out 2; have hfz11_3 := blk_frozen BK523.out 3; have hfz11_4 := blk_frozen BK523.out 4) | ((with_reducible refine gate_callee (f := 12) rfl ?_); refine goesL_ (some 23) rfl rfl Try.func12 zK rfl #[.int .i64 a0, .agg #[.string a2_0, .slice A2_1 l2_1.length c2_1, .string a2_2, .bool a2_3, .bool a2_4]] rfl zM ?_; (with_reducible refine (pieces_Prepare.calls k a0 a2_0 _ _ l2_1 a2_2 a2_3 a2_4 t526 t527 t530 t531 t532 t533 _ ?side1 ?side2 A6.out).mono ?_); (case side1 => exact zCB HR2_1); (case side2 => exact HC2_1.out); rintro e w12 ⟨v528, rfl, ho0, hb⟩; refine ⟨_, rfl, ?_⟩; have n_ := zI (aM (Kd.R_lower ho0 (below_size (by repeat (first | (with_reducible first | exact HB.out | apply bA | apply bN | apply bD | refine below_set ?_ GE523.out) | exact HB.out))))) (zI (aM (blk_below (g := gb523) (o := .cells #[.string a2_0, .slice A2_1 l2_1.length c2_1, .string a2_2, .bool a2_3, .bool a2_4] 29 (0, 0)) (by (with_reducible repeat (first | refine blk_drewN ?_ _ | refine blk_drew ?_ | refine blk_alloc ?_ _)); exact BK523.out) hb)) (aM (below_step (by repeat (first | (with_reducible first | exact HB.out | apply bA | apply bN | apply bD | refine below_set ?_ GE523.out) | exact HB.out)) hb))); clear BK523 HB; obtain ⟨HO529, BK523, HB⟩ := n_; (try clear hb); (try clear hk); (try clear ho0)) | ((with_reducible refine gate_dst (N := 10) rfl ?_); refine box_event ?hg (N := 10) ?hd (cs := #[.string (⟨#[]⟩ : ByteArray), .slice none 0 0, .string (⟨#[]⟩ : ByteArray), .bool false, .bool false]) (t := 29) ?hr ?_; (case hd => rfl); (case hg => rfl); (case hr => first | (go_simp; done) | (go_simp; rfl)); intro gb534 hg w13 hbox hb; have n_ := zI (aM (Kd.R_below (zR HO529) hb)) (zI (aM (blk_below (g := gb523) (o := .cells #[.string a2_0, .slice A2_1 l2_1.length c2_1, .string a2_2, .bool a2_3, .bool a2_4] 29 (0, 0)) (by (with_reducible repeat (first | refine blk_drewN ?_ _ | refine blk_drew ?_ | refine blk_alloc ?_ _)); exact BK523.out) hb)) (zI (aM (below_step (by repeat (first | (with_reducible first | exact HB.out | apply bA | apply bN | apply bD | refine below_set ?_ GE523.out) | exact HB.out)) hb)) (zI (aM (hbox)) (zI (aM ((by rw [hg]; exact (below_size (by repeat (first | (with_reducible first | exact HB.out | apply bA | apply bN | apply bD | refine below_set ?_ GE523.out) | exact HB.out))) : w.heap.size ≤ gb534))) (zI (aM ((by rw [hg]; exact (below_size (by repeat (first | (with_reducible first | exact HB.out | apply bA | apply bN | apply bD | refine below_set ?_ GE523.out) | exact HB.out))) : w.heap.size ≤ gb534))) (zI (aM ((by rw [hg]; exact Nat.ne_of_lt (blk_lt (g := gb523) (o := .cells #[.string a2_0, .slice A2_1 l2_1.length c2_1, .string a2_2, .bool a2_3, .bool a2_4] 29 (0, 0)) (by (with_reducible repeat (first | refine blk_drewN ?_ _ | refine blk_drew ?_ | refine blk_alloc ?_ _)); exact BK523.out)) : gb523 ≠ gb534))) (aM ((by rw [hg]; exact Nat.ne_of_gt (blk_lt (g := gb523) (o := .cells #[.string a2_0, .slice A2_1 l2_1.length c2_1, .string a2_2, .bool a2_3, .bool a2_4] 29 (0, 0)) (by (with_reducible repeat (first | refine blk_drewN ?_ _ | refine blk_drew ?_ | refine blk_alloc ?_ _)); exact BK523.out)) : gb534 ≠ gb523))))))))); clear HO529 BK523 HB; obtain ⟨HO529, BK523, HB, BK534, GW534, GE534, NB523_534, NB534_523⟩ := n_; clear hb hbox hg; have hnb14 := NB534_523.out; have hnc14 := NB523_534.out; have hcz15_0 : w13.cell? ⟨gb534, 0, none⟩ = some (.string (⟨#[]⟩ : ByteArray)) := (blk_cell BK534.out 0).trans rfl; have hcz15_1 : w13.cell? ⟨gb534, 1, none⟩ = some (.slice none 0 0) := (blk_cell BK534.out 1).trans rfl; have hcz15_2 : w13.cell? ⟨gb534, 2, none⟩ = some (.string (⟨#[]⟩ : ByteArray)) := (blk_cell BK534.out 2).trans rfl; have hcz15_3 : w13.cell? ⟨gb534, 3, none⟩ = some (.bool false) := (blk_cell BK534.out 3).trans rfl; have hcz15_4 : w13.cell? ⟨gb534, 4, none⟩ = some (.bool false) := (blk_cell BK534.out 4).trans rfl; have hfz15_0 := blk_frozen BK534.out 0; have hfz15_1 := blk_frozen BK534.out 1; have hfz15_2 := blk_frozen BK534.out 2; have hfz15_3 := blk_frozen BK534.out 3; have hfz15_4 := blk_frozen BK534.out 4; obtain ⟨Ao16, co16, rfl⟩ := Kd.R_slice HO529.out) | ((with_reducible refine gate_callee (f := 9) rfl ?_); refine goesL_ (some 31) rfl rfl Try.func9 zK rfl #[.string t524, .agg #[.string t526, .slice Ao16 t527.length co16, .string t530, .bool t531, .bool t532]] rfl zM ?_; (with_reducible refine (pieces_Match.calls k t524 t526 _ _ t527 t530 t531 t532 t535 _ (zEnv HE) ?side1 ?side2 A8.out).mono ?_); (case side1 => refine (Kd.R_reads' (e := 9) (base := w.heap.size) (ok := fun k_ => True) (n := t527.length) (c := co16) ?_).2.2; exact (by (with_reducible repeat (first | apply Kd.R_alloc | apply Kd.R_drewN | apply Kd.R_drew)); exact (Kd.R_mono (Kd.R_far (p := ⟨gb534, 4, none⟩) (Kd.R_far (p := ⟨gb534, 3, none⟩) (Kd.R_far (p := ⟨gb534, 2, none⟩) (Kd.R_far (p := ⟨gb534, 1, none⟩) (Kd.R_far (p := ⟨gb534, 0, none⟩) (Kd.R_types HO529.out BK534.out (by decide)) (fun _ hk => hk.2) (.string t526)) (fun _ hk => hk.2) (.slice Ao16 t527.length co16)) (fun _ hk => hk.2) (.string t530)) (fun _ hk => hk.2) (.bool t531)) (fun _ hk => hk.2) (.bool t532)) (fun _ h_ => h_.1)))); (case side2 => exact (Kd.R_reads' HO529.out).2.1); rintro e w17 ⟨rfl, hb⟩; refine ⟨_, rfl, ?_⟩; have n_ := zI (aM (Kd.R_below (by (with_reducible repeat (first | apply Kd.R_alloc | apply Kd.R_drewN | apply Kd.R_drew)); exact (Kd.R_mono (Kd.R_far (p := ⟨gb534, 4, none⟩) (Kd.R_far (p := ⟨gb534, 3, none⟩) (Kd.R_far (p := ⟨gb534, 2, none⟩) (Kd.R_far (p := ⟨gb534, 1, none⟩) (Kd.R_far (p := ⟨gb534, 0, none⟩) (Kd.R_types HO529.out BK534.out (by decide)) (fun _ hk => hk.2) (.string t526)) (fun _ hk => hk.2) (.slice Ao16 t527.length co16)) (fun _ hk => hk.2) (.string t530)) (fun _ hk => hk.2) (.bool t531)) (fun _ hk => hk.2) (.bool t532)) (fun _ h_ => h_.1))) hb)) (zI (aM (blk_below (g := gb523) (o := .cells #[.string a2_0, .slice A2_1 l2_1.length c2_1, .string a2_2, .bool a2_3, .bool a2_4] 29 (0, 0)) (by (with_reducible repeat (first | refine blk_drewN ?_ _ | refine blk_drew ?_ | refine blk_alloc ?_ _)); refine blk_far ?_ NB523_534.out _; (with_reducible repeat (first | refine blk_drewN ?_ _ | refine blk_drew ?_ | refine blk_alloc ?_ _)); refine blk_far ?_ NB523_534.out _; (with_reducible repeat (first | refine blk_drewN ?_ _ | refine blk_drew ?_ | refine blk_alloc ?_ _)); refine blk_far ?_ NB523_534.out _; (with_reducible repeat (first | refine blk_drewN ?_ _ | refine blk_drew ?_ | refine blk_alloc ?_ _)); refine blk_far ?_ NB523_534.out _; (with_reducible repeat (first | refine blk_drewN ?_ _ | refine blk_drew ?_ | refine blk_alloc ?_ _)); refine blk_far ?_ NB523_534.out _; (with_reducible repeat (first | refine blk_drewN ?_ _ | refine blk_drew ?_ | refine blk_alloc ?_ _)); exact BK523.out) hb)) (zI (aM (blk_below (g := gb534) (o := .cells #[.string t526, .slice Ao16 t527.length co16, .string t530, .bool t531, .bool t532] 29 (0, 0)) (by (with_reducible repeat (first | refine blk_drewN ?_ _ | refine blk_drew ?_ | refine blk_alloc ?_ _)); refine blk_put (cs := #[.string t526, .slice Ao16 t527.length co16, .string t530, .bool t531, .bool false]) ?_ 4 _ rfl; (with_reducible repeat (first | refine blk_drewN ?_ _ | refine blk_drew ?_ | refine blk_alloc ?_ _)); refine blk_put (cs := #[.string t526, .slice Ao16 t527.length co16, .string t530, .bool false, .bool false]) ?_ 3 _ rfl; (with_reducible repeat (first | refine blk_drewN ?_ _ | refine blk_drew ?_ | refine blk_alloc ?_ _)); refine blk_put (cs := #[.string t526, .slice Ao16 t527.length co16, .string (⟨#[]⟩ : ByteArray), .bool false, .bool false]) ?_ 2 _ rfl; (with_reducible repeat (first | refine blk_drewN ?_ _ | refine blk_drew ?_ | refine blk_alloc ?_ _)); refine blk_put (cs := #[.string t526, .slice none 0 0, .string (⟨#[]⟩ : ByteArray), .bool false, .bool false]) ?_ 1 _ rfl; (with_reducible repeat (first | refine blk_drewN ?_ _ | refine blk_drew ?_ | refine blk_alloc ?_ _)); refine blk_put (cs := #[.string (⟨#[]⟩ : ByteArray), .slice none 0 0, .string (⟨#[]⟩ : ByteArray), .bool false, .bool false]) ?_ 0 _ rfl; (with_reducible repeat (first | refine blk_drewN ?_ _ | refine blk_drew ?_ | refine blk_alloc ?_ _)); exact BK534.out) hb)) (aM (below_step (by repeat (first | (with_reducible first | exact HB.out | apply bA | apply bN | apply bD | refine below_set ?_ GE523.out | refine below_set ?_ GE534.out) | exact HB.out)) hb)))); clear HO529 BK523 BK534 HB; obtain ⟨HO529, BK523, BK534, HB⟩ := n_; (try clear hb); (try clear hk)))
   go_ret2
   exact ⟨zE, by repeat (first | (with_reducible first | exact HB.out | apply bA | apply bN | apply bD | refine below_set ?_ GE523.out | refine below_set ?_ GE534.out) | exact HB.out)⟩
  ·rw [if_neg c7] at H
   have c7b0 : (t533 == 0) = false := beq_eq_false_iff_ne.mpr c7
   have c7b1 : (t533 != 0) = true := bne_iff_ne.mpr c7
   simp only [Option.some.injEq, Prod.mk.injEq] at H
   obtain ⟨rfl, rfl⟩ := H
   go_enter Try.func11, Try.ntmps11
   go_wp2_with (first | ((with_reducible refine gate_dst (N := 5) rfl ?_); refine box_event ?hg (N := 5) ?hd (cs := #[.string a2_0, .slice A2_1 l2_1.length c2_1, .string a2_2, .bool a2_3, .bool a2_4]) (t := 29) ?hr ?_; (case hd => rfl); (case hg => rfl); (case hr => first | (go_simp; done) | (go_simp; rfl)); intro gb523 hg w18 hbox hb; have n_ := zI (aM (below_step zB hb)) (zI (aM (hbox)) (zI (aM ((by rw [hg]; exact (below_size zB) : w.heap.size ≤ gb523))) (aM ((by rw [hg]; exact (below_size zB) : w.heap.size ≤ gb523))))); clear HB; obtain ⟨HB, BK523, GW523, GE523⟩ := n_; clear hb hbox hg) | ((with_reducible refine gate_callee (f := 18) rfl ?_); refine goesL_ (some 14) rfl rfl Try.func18 zK rfl #[.int .i64 a0, .string a1] rfl zM ?_; (with_reducible refine (prep_Value.calls k a0 a1 t524 t525 _ A4.out).mono ?_); rintro e w19 ⟨rfl, hb⟩; refine ⟨_, rfl, ?_⟩; have n_ := zI (aM (blk_below (g := gb523) (o := .cells #[.string a2_0, .slice A2_1 l2_1.length c2_1, .string a2_2, .bool a2_3, .bool a2_4] 29 (0, 0)) (by (with_reducible repeat (first | refine blk_drewN ?_ _ | refine blk_drew ?_ | refine blk_alloc ?_ _)); exact BK523.out) hb)) (aM (below_step (by repeat (first | (with_reducible first | exact HB.out | apply bA | apply bN | apply bD | refine below_set ?_ GE523.out) | exact HB.out)) hb)); clear BK523 HB; obtain ⟨BK523, HB⟩ := n_; (try clear hb); have hcz20_0 : w19.cell? ⟨gb523, 0, none⟩ = some (.string a2_0) := (blk_cell BK523.out 0).trans rfl; have hcz20_1 : w19.cell? ⟨gb523, 1, none⟩ = some (.slice A2_1 l2_1.length c2_1) := (blk_cell BK523.out 1).trans rfl; have hcz20_2 : w19.cell? ⟨gb523, 2, none⟩ = some (.string a2_2) := (blk_cell BK523.out 2).trans rfl; have hcz20_3 : w19.cell? ⟨gb523, 3, none⟩ = some (.bool a2_3) := (blk_cell BK523.out 3).trans rfl; have hcz20_4 : w19.cell? ⟨gb523, 4, none⟩ = some (.bool a2_4) := (blk_cell BK523.out 4).trans rfl; have hfz20_0 := blk_frozen BK523.out 0; have hfz20_1 := blk_frozen BK523.out 1; have hfz20_2 := blk_frozen BK523.out 2; have hfz20_3 := blk_frozen BK523.out 3; have hfz20_4 := blk_frozen BK523.out 4) | ((with_reducible refine gate_callee (f := 12) rfl ?_); refine goesL_ (some 23) rfl rfl Try.func12 zK rfl #[.int .i64 a0, .agg #[.string a2_0, .slice A2_1 l2_1.length c2_1, .string a2_2, .bool a2_3, .bool a2_4]] rfl zM ?_; (with_reducible refine (pieces_Prepare.calls k a0 a2_0 _ _ l2_1 a2_2 a2_3 a2_4 t526 t527 t530 t531 t532 t533 _ ?side1 ?side2 A6.out).mono ?_); (case side1 => exact zCB HR2_1); (case side2 => exact HC2_1.out); rintro e w21 ⟨v528, rfl, ho0, hb⟩; refine ⟨_, rfl, ?_⟩; have n_ := zI (aM (Kd.R_lower ho0 (below_size (by repeat (first | (with_reducible first | exact HB.out | apply bA | apply bN | apply bD | refine below_set ?_ GE523.out) | exact HB.out))))) (zI (aM (blk_below (g := gb523) (o := .cells #[.string a2_0, .slice A2_1 l2_1.length c2_1, .string a2_2, .bool a2_3, .bool a2_4] 29 (0, 0)) (by (with_reducible repeat (first | refine blk_drewN ?_ _ | refine blk_drew ?_ | refine blk_alloc ?_ _)); exact BK523.out) hb)) (aM (below_step (by repeat (first | (with_reducible first | exact HB.out | apply bA | apply bN | apply bD | refine below_set ?_ GE523.out) | exact HB.out)) hb))); clear BK523 HB; obtain ⟨HO529, BK523, HB⟩ := n_; (try clear hb); (try clear ho0)) | ((with_reducible refine gate_dst (N := 10) rfl ?_); refine box_event ?hg (N := 10) ?hd (cs := #[.string (⟨#[]⟩ : ByteArray), .slice none 0 0, .string (⟨#[]⟩ : ByteArray), .bool false, .bool false]) (t := 29) ?hr ?_; (case hd => rfl); (case hg => rfl); (case hr => first | (go_simp; done) | (go_simp; rfl)); intro gb534 hg w22 hbox hb; have n_ := zI (aM (Kd.R_below (zR HO529) hb)) (zI (aM (blk_below (g := gb523) (o := .cells #[.string a2_0, .slice A2_1 l2_1.length c2_1, .string a2_2, .bool a2_3, .bool a2_4] 29 (0, 0)) (by (with_reducible repeat (first | refine blk_drewN ?_ _ | refine blk_drew ?_ | refine blk_alloc ?_ _)); exact BK523.out) hb)) (zI (aM (below_step (by repeat (first | (with_reducible first | exact HB.out | apply bA | apply bN | apply bD | refine below_set ?_ GE523.out) | exact HB.out)) hb)) (zI (aM (hbox)) (zI (aM ((by rw [hg]; exact (below_size (by repeat (first | (with_reducible first | exact HB.out | apply bA | apply bN | apply bD | refine below_set ?_ GE523.out) | exact HB.out))) : w.heap.size ≤ gb534))) (zI (aM ((by rw [hg]; exact (below_size (by repeat (first | (with_reducible first | exact HB.out | apply bA | apply bN | apply bD | refine below_set ?_ GE523.out) | exact HB.out))) : w.heap.size ≤ gb534))) (zI (aM ((by rw [hg]; exact Nat.ne_of_lt (blk_lt (g := gb523) (o := .cells #[.string a2_0, .slice A2_1 l2_1.length c2_1, .string a2_2, .bool a2_3, .bool a2_4] 29 (0, 0)) (by (with_reducible repeat (first | refine blk_drewN ?_ _ | refine blk_drew ?_ | refine blk_alloc ?_ _)); exact BK523.out)) : gb523 ≠ gb534))) (aM ((by rw [hg]; exact Nat.ne_of_gt (blk_lt (g := gb523) (o := .cells #[.string a2_0, .slice A2_1 l2_1.length c2_1, .string a2_2, .bool a2_3, .bool a2_4] 29 (0, 0)) (by (with_reducible repeat (first | refine blk_drewN ?_ _ | refine blk_drew ?_ | refine blk_alloc ?_ _)); exact BK523.out)) : gb534 ≠ gb523))))))))); clear HO529 BK523 HB; obtain ⟨HO529, BK523, HB, BK534, GW534, GE534, NB523_534, NB534_523⟩ := n_; clear hb hbox hg; have hnb23 := NB534_523.out; have hnc23 := NB523_534.out; have hcz24_0 : w22.cell? ⟨gb534, 0, none⟩ = some (.string (⟨#[]⟩ : ByteArray)) := (blk_cell BK534.out 0).trans rfl; have hcz24_1 : w22.cell? ⟨gb534, 1, none⟩ = some (.slice none 0 0) := (blk_cell BK534.out 1).trans rfl; have hcz24_2 : w22.cell? ⟨gb534, 2, none⟩ = some (.string (⟨#[]⟩ : ByteArray)) := (blk_cell BK534.out 2).trans rfl; have hcz24_3 : w22.cell? ⟨gb534, 3, none⟩ = some (.bool false) := (blk_cell BK534.out 3).trans rfl; have hcz24_4 : w22.cell? ⟨gb534, 4, none⟩ = some (.bool false) := (blk_cell BK534.out 4).trans rfl; have hfz24_0 := blk_frozen BK534.out 0; have hfz24_1 := blk_frozen BK534.out 1; have hfz24_2 := blk_frozen BK534.out 2; have hfz24_3 := blk_frozen BK534.out 3; have hfz24_4 := blk_frozen BK534.out 4; obtain ⟨Ao25, co25, rfl⟩ := Kd.R_slice HO529.out))
   go_ret2
   exact ⟨zE, by repeat (first | (with_reducible first | exact HB.out | apply bA | apply bN | apply bD | refine below_set ?_ GE523.out | refine below_set ?_ GE534.out) | exact HB.out)⟩
 ·rw [if_neg c5] at H
  have c5b0 : (t525 == 0) = false := beq_eq_false_iff_ne.mpr c5
  have c5b1 : (t525 != 0) = true := bne_iff_ne.mpr c5
  simp only [Option.some.injEq, Prod.mk.injEq] at H
  obtain ⟨rfl, rfl⟩ := H
  go_enter Try.func11, Try.ntmps11
  go_wp2_with (first | ((with_reducible refine gate_dst (N := 5) rfl ?_); refine box_event ?hg (N := 5) ?hd (cs := #[.string a2_0, .slice A2_1 l2_1.length c2_1, .string a2_2, .bool a2_3, .bool a2_4]) (t := 29) ?hr ?_; (case hd => rfl); (case hg => rfl); (case hr => first | (go_simp; done) | (go_simp; rfl)); intro gb523 hg w26 hbox hb; have n_ := zI (aM (below_step zB hb)) (zI (aM (hbox)) (zI (aM ((by rw [hg]; exact (below_size zB) : w.heap.size ≤ gb523))) (aM ((by rw [hg]; exact (below_size zB) : w.heap.size ≤ gb523))))); clear HB; obtain ⟨HB, BK523, GW523, GE523⟩ := n_; clear hb hbox hg) | ((with_reducible refine gate_callee (f := 18) rfl ?_); refine goesL_ (some 14) rfl rfl Try.func18 zK rfl #[.int .i64 a0, .string a1] rfl zM ?_; (with_reducible refine (prep_Value.calls k a0 a1 t524 t525 _ A4.out).mono ?_); rintro e w27 ⟨rfl, hb⟩; refine ⟨_, rfl, ?_⟩; have n_ := zI (aM (blk_below (g := gb523) (o := .cells #[.string a2_0, .slice A2_1 l2_1.length c2_1, .string a2_2, .bool a2_3, .bool a2_4] 29 (0, 0)) (by (with_reducible repeat (first | refine blk_drewN ?_ _ | refine blk_drew ?_ | refine blk_alloc ?_ _)); exact BK523.out) hb)) (aM (below_step (by repeat (first | (with_reducible first | exact HB.out | apply bA | apply bN | apply bD | refine below_set ?_ GE523.out) | exact HB.out)) hb)); clear BK523 HB; obtain ⟨BK523, HB⟩ := n_; (try clear hb)))
  go_ret2
  exact ⟨zE, by repeat (first | (with_reducible first | exact HB.out | apply bA | apply bN | apply bD | refine below_set ?_ GE523.out) | exact HB.out)⟩

/-! ### toponymlaw13_awake: function 6 -/
def toponymlaw13_awake.f (k : Nat)  : Option (Bool) := (some (([(⟨#[99, 97]⟩ : ByteArray)] : List ByteArray) : List ByteArray)).bind fun y536 => ((pieces_Asks.f k 2 (⟨#[67, 97, 102, 195, 137, 32, 97, 117, 32, 108, 97, 105, 116]⟩ : ByteArray) (⟨#[]⟩ : ByteArray) (([(⟨#[195, 169, 32, 65, 85]⟩ : ByteArray)] : List ByteArray)) (⟨#[]⟩ : ByteArray) false false).bind fun bt543 => ((pieces_Prepare.f k 2 (⟨#[]⟩ : ByteArray) ([] : List ByteArray) (⟨#[]⟩ : ByteArray) false false).bind fun bt545 => ((pieces_Match.f k (⟨#[32, 97, 98, 99, 97, 98, 99, 32]⟩ : ByteArray) (⟨#[32, 97, 98]⟩ : ByteArray) y536 (⟨#[99, 32]⟩ : ByteArray) true true).bind fun t554 => (if t554 = true then ((pieces_Match.f k (⟨#[32, 97, 98]⟩ : ByteArray) (⟨#[32, 97, 98]⟩ : ByteArray) y536 (⟨#[99, 32]⟩ : ByteArray) true true).bind fun t555 => (if t555 = true then (some false) else (if bt543.1 = true then (if bt543.2 = 0 then (if bt545.2.2.2.2.2 = 2 then ((pieces_Check.f k (⟨#[32, 97, 98]⟩ : ByteArray) y536 (⟨#[99, 32]⟩ : ByteArray) true true).bind fun t556 => (some (t556 == 0))) else (some false)) else (some false)) else (some false)))) else (some false)))))
theorem toponymlaw13_awake.mono : ∀ k, LeO (toponymlaw13_awake.f k ) (toponymlaw13_awake.f (k + 1) ) := by
 intro  k
 unfold toponymlaw13_awake.f
 repeat' first
   | (with_reducible exact pieces_Asks.mono _ _ _ _ _ _ _ _)
   | (with_reducible exact pieces_Check.mono _ _ _ _ _ _)
   | (with_reducible exact pieces_Match.mono _ _ _ _ _ _ _)
   | (with_reducible exact pieces_Prepare.mono _ _ _ _ _ _ _)
   | (with_reducible exact LeO.refl _)
   | exact pieces_Asks.mono _ _ _ _ _ _ _ _
   | exact pieces_Check.mono _ _ _ _ _ _
   | exact pieces_Match.mono _ _ _ _ _ _ _
   | exact pieces_Prepare.mono _ _ _ _ _ _ _
   | exact LeO.none _
   | refine LeO.ite ?_ ?_
   | refine LeO.bind ?_ (fun _ => ?_)
set_option maxHeartbeats 8000000 in
set_option maxRecDepth 100000 in
theorem toponymlaw13_awake.calls (k : Nat)  (r : Bool) (w : World) (hE : Env w) (h : toponymlaw13_awake.f k  = some r) :
  Calls Try.prog 6 #[] w fun e w' => e = .returned (.bool r) ∧ Below w.heap.size w w' := by
 have hT := aM (yes_of toponymlaw13_awake.mono (n := 100) (by decide +kernel) h)
 have HE := aM hE
 clear hE
 have hu29 := Try.underlying29
 have HB := aM (Below.refl w.heap.size w)
 have H := h
 clear h
 unfold toponymlaw13_awake.f at H
 obtain ⟨y536, hy536⟩ : ∃ y_ : List ByteArray, y_ = (([(⟨#[99, 97]⟩ : ByteArray)] : List ByteArray)) := ⟨_, rfl⟩
 replace H : ((pieces_Asks.f k 2 (⟨#[67, 97, 102, 195, 137, 32, 97, 117, 32, 108, 97, 105, 116]⟩ : ByteArray) (⟨#[]⟩ : ByteArray) (([(⟨#[195, 169, 32, 65, 85]⟩ : ByteArray)] : List ByteArray)) (⟨#[]⟩ : ByteArray) false false).bind fun bt543 => ((pieces_Prepare.f k 2 (⟨#[]⟩ : ByteArray) ([] : List ByteArray) (⟨#[]⟩ : ByteArray) false false).bind fun bt545 => ((pieces_Match.f k (⟨#[32, 97, 98, 99, 97, 98, 99, 32]⟩ : ByteArray) (⟨#[32, 97, 98]⟩ : ByteArray) y536 (⟨#[99, 32]⟩ : ByteArray) true true).bind fun t554 => (if t554 = true then ((pieces_Match.f k (⟨#[32, 97, 98]⟩ : ByteArray) (⟨#[32, 97, 98]⟩ : ByteArray) y536 (⟨#[99, 32]⟩ : ByteArray) true true).bind fun t555 => (if t555 = true then (some false) else (if bt543.1 = true then (if bt543.2 = 0 then (if bt545.2.2.2.2.2 = 2 then ((pieces_Check.f k (⟨#[32, 97, 98]⟩ : ByteArray) y536 (⟨#[99, 32]⟩ : ByteArray) true true).bind fun t556 => (some (t556 == 0))) else (some false)) else (some false)) else (some false)))) else (some false))))) = some r := zY hy536 H
 have Ny536 := aM hy536
 clear hy536
 obtain ⟨y540, hy540⟩ : ∃ y_ : List ByteArray, y_ = (([(⟨#[195, 169, 32, 65, 85]⟩ : ByteArray)] : List ByteArray)) := ⟨_, rfl⟩
 replace H : ((pieces_Asks.f k 2 (⟨#[67, 97, 102, 195, 137, 32, 97, 117, 32, 108, 97, 105, 116]⟩ : ByteArray) (⟨#[]⟩ : ByteArray) y540 (⟨#[]⟩ : ByteArray) false false).bind fun bt543 => ((pieces_Prepare.f k 2 (⟨#[]⟩ : ByteArray) ([] : List ByteArray) (⟨#[]⟩ : ByteArray) false false).bind fun bt545 => ((pieces_Match.f k (⟨#[32, 97, 98, 99, 97, 98, 99, 32]⟩ : ByteArray) (⟨#[32, 97, 98]⟩ : ByteArray) y536 (⟨#[99, 32]⟩ : ByteArray) true true).bind fun t554 => (if t554 = true then ((pieces_Match.f k (⟨#[32, 97, 98]⟩ : ByteArray) (⟨#[32, 97, 98]⟩ : ByteArray) y536 (⟨#[99, 32]⟩ : ByteArray) true true).bind fun t555 => (if t555 = true then (some false) else (if bt543.1 = true then (if bt543.2 = 0 then (if bt545.2.2.2.2.2 = 2 then ((pieces_Check.f k (⟨#[32, 97, 98]⟩ : ByteArray) y536 (⟨#[99, 32]⟩ : ByteArray) true true).bind fun t556 => (some (t556 == 0))) else (some false)) else (some false)) else (some false)))) else (some false))))) = some r := zY hy540 H
 have Ny540 := aM hy540
 clear hy540
 obtain ⟨⟨t543, t544⟩, A1, H⟩ := zO H
 try dsimp only at H
 obtain ⟨⟨t545, t546, t549, t550, t551, t552⟩, A2, H⟩ := zO H
 try dsimp only at H
 obtain ⟨t554, A3, H⟩ := zO H
 by_cases c4 : t554 = true
 ·subst c4
  rw [if_pos rfl] at H
  obtain ⟨t555, A5, H⟩ := zO H
  by_cases c6 : t555 = true
  ·subst c6
   rw [if_pos rfl] at H
   obtain rfl := sI H
   go_enter Try.func6, Try.ntmps6
   go_wp2_with (first | ((with_reducible refine gate_dst (N := 6) rfl ?_); refine Kd.R_lit Kd.string _ 9 ?hg (N := 6) ?hd (xs := ([(⟨#[99, 97]⟩ : ByteArray)] : List ByteArray)) (inner := [.string (⟨#[99, 97]⟩ : ByteArray)]) (ok := fun _ => True) (okp := fun _ => True) ?hr ?hp (fun _ hk => hk) trivial (Below.refl _ _) (Nat.le_refl _) (by simp) ?_; (case hd => rfl); (case hg => rfl); (case hr => first | (go_simp; done) | (go_simp; rfl)); (case hp => exact (Reps.one (show Kd.M Kd.string _ _ _ (⟨#[99, 97]⟩ : ByteArray) [.string (⟨#[99, 97]⟩ : ByteArray)] from rfl) (Reps.none _ _))); intro v537 w7 ho8 hb hg_ hnew_; clear hg_ hnew_; (first | rw [← Ny536.out] at ho8 | (simp only [Int.reduceToNat] at ho8; rw [← Ny536.out] at ho8)); have n_ := zI (aM (Kd.R_lower ho8 (below_size zB))) (aM (below_step zB hb)); clear HB; obtain ⟨HO538, HB⟩ := n_; clear hb ho8; obtain ⟨Ao9, co9, rfl⟩ := Kd.R_slice HO538.out) | ((with_reducible refine gate_dst (N := 1) rfl ?_); refine box_event ?hg (N := 1) ?hd (cs := #[.string (⟨#[]⟩ : ByteArray), .slice none 0 0, .string (⟨#[]⟩ : ByteArray), .bool false, .bool false]) (t := 29) ?hr ?_; (case hd => rfl); (case hg => rfl); (case hr => first | (go_simp; done) | (go_simp; rfl)); intro gb539 hg w10 hbox hb; have n_ := zI (aM (Kd.R_below (zR HO538) hb)) (zI (aM (below_step zB hb)) (zI (aM (hbox)) (zI (aM ((by rw [hg]; exact (below_size zB) : w.heap.size ≤ gb539))) (aM ((by rw [hg]; exact (below_size zB) : w.heap.size ≤ gb539)))))); clear HO538 HB; obtain ⟨HO538, HB, BK539, GW539, GE539⟩ := n_; clear hb hbox hg; have hcz11_0 : w10.cell? ⟨gb539, 0, none⟩ = some (.string (⟨#[]⟩ : ByteArray)) := (blk_cell BK539.out 0).trans rfl; have hcz11_1 : w10.cell? ⟨gb539, 1, none⟩ = some (.slice none 0 0) := (blk_cell BK539.out 1).trans rfl; have hcz11_2 : w10.cell? ⟨gb539, 2, none⟩ = some (.string (⟨#[]⟩ : ByteArray)) := (blk_cell BK539.out 2).trans rfl; have hcz11_3 : w10.cell? ⟨gb539, 3, none⟩ = some (.bool false) := (blk_cell BK539.out 3).trans rfl; have hcz11_4 : w10.cell? ⟨gb539, 4, none⟩ = some (.bool false) := (blk_cell BK539.out 4).trans rfl; have hfz11_0 := blk_frozen BK539.out 0; have hfz11_1 := blk_frozen BK539.out 1; have hfz11_2 := blk_frozen BK539.out 2; have hfz11_3 := blk_frozen BK539.out 3; have hfz11_4 := blk_frozen BK539.out 4) | ((with_reducible refine gate_dst (N := 9) rfl ?_); refine Kd.R_lit Kd.string _ 9 ?hg (N := 9) ?hd (xs := ([(⟨#[195, 169, 32, 65, 85]⟩ : ByteArray)] : List ByteArray)) (inner := [.string (⟨#[195, 169, 32, 65, 85]⟩ : ByteArray)]) (ok := fun _ => True) (okp := fun _ => True) ?hr ?hp (fun _ hk => hk) trivial (Below.refl _ _) (Nat.le_refl _) (by simp) ?_; (case hd => rfl); (case hg => rfl); (case hr => first | (go_simp; done) | (go_simp; rfl)); (case hp => exact (Reps.one (show Kd.M Kd.string _ _ _ (⟨#[195, 169, 32, 65, 85]⟩ : ByteArray) [.string (⟨#[195, 169, 32, 65, 85]⟩ : ByteArray)] from rfl) (Reps.none _ _))); intro v541 w12 ho13 hb hg_ hnew_; clear hg_ hnew_; (first | rw [← Ny540.out] at ho13 | (simp only [Int.reduceToNat] at ho13; rw [← Ny540.out] at ho13)); have n_ := zI (aM (Kd.R_elder' (by (with_reducible repeat (first | apply Kd.R_alloc | apply Kd.R_drewN | apply Kd.R_drew)); exact (Kd.R_mono (Kd.R_far (p := ⟨gb539, 4, none⟩) (Kd.R_far (p := ⟨gb539, 3, none⟩) (Kd.R_far (p := ⟨gb539, 2, none⟩) (Kd.R_far (p := ⟨gb539, 1, none⟩) (Kd.R_far (p := ⟨gb539, 0, none⟩) (Kd.R_types HO538.out BK539.out (by decide)) (fun _ hk => hk.2) (.string (⟨#[32, 97, 98]⟩ : ByteArray))) (fun _ hk => hk.2) (.slice Ao9 y536.length co9)) (fun _ hk => hk.2) (.string (⟨#[99, 32]⟩ : ByteArray))) (fun _ hk => hk.2) (.bool true)) (fun _ hk => hk.2) (.bool true)) (fun _ h_ => h_.1))) (Kd.R_base ho13) hb)) (zI (aM (Kd.R_lower (Kd.R_new' ho13 (Kd.R_lt (by (with_reducible repeat (first | apply Kd.R_alloc | apply Kd.R_drewN | apply Kd.R_drew)); exact (Kd.R_mono (Kd.R_far (p := ⟨gb539, 4, none⟩) (Kd.R_far (p := ⟨gb539, 3, none⟩) (Kd.R_far (p := ⟨gb539, 2, none⟩) (Kd.R_far (p := ⟨gb539, 1, none⟩) (Kd.R_far (p := ⟨gb539, 0, none⟩) (Kd.R_types HO538.out BK539.out (by decide)) (fun _ hk => hk.2) (.string (⟨#[32, 97, 98]⟩ : ByteArray))) (fun _ hk => hk.2) (.slice Ao9 y536.length co9)) (fun _ hk => hk.2) (.string (⟨#[99, 32]⟩ : ByteArray))) (fun _ hk => hk.2) (.bool true)) (fun _ hk => hk.2) (.bool true)) (fun _ h_ => h_.1))))) (below_size (by repeat (first | (with_reducible first | exact HB.out | apply bA | apply bN | apply bD | refine below_set ?_ GE539.out) | exact HB.out))))) (zI (aM (blk_below (g := gb539) (o := .cells #[.string (⟨#[32, 97, 98]⟩ : ByteArray), .slice Ao9 y536.length co9, .string (⟨#[99, 32]⟩ : ByteArray), .bool true, .bool true] 29 (0, 0)) (by (with_reducible repeat (first | refine blk_drewN ?_ _ | refine blk_drew ?_ | refine blk_alloc ?_ _)); refine blk_put (cs := #[.string (⟨#[32, 97, 98]⟩ : ByteArray), .slice Ao9 y536.length co9, .string (⟨#[99, 32]⟩ : ByteArray), .bool true, .bool false]) ?_ 4 _ rfl; (with_reducible repeat (first | refine blk_drewN ?_ _ | refine blk_drew ?_ | refine blk_alloc ?_ _)); refine blk_put (cs := #[.string (⟨#[32, 97, 98]⟩ : ByteArray), .slice Ao9 y536.length co9, .string (⟨#[99, 32]⟩ : ByteArray), .bool false, .bool false]) ?_ 3 _ rfl; (with_reducible repeat (first | refine blk_drewN ?_ _ | refine blk_drew ?_ | refine blk_alloc ?_ _)); refine blk_put (cs := #[.string (⟨#[32, 97, 98]⟩ : ByteArray), .slice Ao9 y536.length co9, .string (⟨#[]⟩ : ByteArray), .bool false, .bool false]) ?_ 2 _ rfl; (with_reducible repeat (first | refine blk_drewN ?_ _ | refine blk_drew ?_ | refine blk_alloc ?_ _)); refine blk_put (cs := #[.string (⟨#[32, 97, 98]⟩ : ByteArray), .slice none 0 0, .string (⟨#[]⟩ : ByteArray), .bool false, .bool false]) ?_ 1 _ rfl; (with_reducible repeat (first | refine blk_drewN ?_ _ | refine blk_drew ?_ | refine blk_alloc ?_ _)); refine blk_put (cs := #[.string (⟨#[]⟩ : ByteArray), .slice none 0 0, .string (⟨#[]⟩ : ByteArray), .bool false, .bool false]) ?_ 0 _ rfl; (with_reducible repeat (first | refine blk_drewN ?_ _ | refine blk_drew ?_ | refine blk_alloc ?_ _)); exact BK539.out) hb)) (aM (below_step (by repeat (first | (with_reducible first | exact HB.out | apply bA | apply bN | apply bD | refine below_set ?_ GE539.out) | exact HB.out)) hb)))); clear HO538 BK539 HB; obtain ⟨HO538, HO542, BK539, HB⟩ := n_; clear hb ho13; obtain ⟨Ao14, co14, rfl⟩ := Kd.R_slice HO542.out) | ((with_reducible refine gate_callee (f := 11) rfl ?_); refine goesL_ (some 11) rfl rfl Try.func11 zK rfl #[.int .i64 2, .string (⟨#[67, 97, 102, 195, 137, 32, 97, 117, 32, 108, 97, 105, 116]⟩ : ByteArray), .agg #[.string (⟨#[]⟩ : ByteArray), .slice Ao14 y540.length co14, .string (⟨#[]⟩ : ByteArray), .bool false, .bool false]] rfl zM ?_; (with_reducible refine (pieces_Asks.calls k 2 (⟨#[67, 97, 102, 195, 137, 32, 97, 117, 32, 108, 97, 105, 116]⟩ : ByteArray) (⟨#[]⟩ : ByteArray) _ _ y540 (⟨#[]⟩ : ByteArray) false false t543 t544 _ (zEnv HE) ?side1 ?side2 A1.out).mono ?_); (case side1 => exact zC (Kd.R_reads' HO542.out).2.2); (case side2 => exact (Kd.R_reads' HO542.out).2.1); rintro e w15 ⟨rfl, hb⟩; refine ⟨_, rfl, ?_⟩; have n_ := zI (aM (Kd.R_below (zR HO538) hb)) (zI (aM (Kd.R_below (zR HO542) hb)) (zI (aM (blk_below (g := gb539) (o := .cells #[.string (⟨#[32, 97, 98]⟩ : ByteArray), .slice Ao9 y536.length co9, .string (⟨#[99, 32]⟩ : ByteArray), .bool true, .bool true] 29 (0, 0)) (by (with_reducible repeat (first | refine blk_drewN ?_ _ | refine blk_drew ?_ | refine blk_alloc ?_ _)); exact BK539.out) hb)) (aM (below_step (by repeat (first | (with_reducible first | exact HB.out | apply bA | apply bN | apply bD | refine below_set ?_ GE539.out) | exact HB.out)) hb)))); clear HO538 HO542 BK539 HB; obtain ⟨HO538, HO542, BK539, HB⟩ := n_; (try clear hb); (try clear hk)) | ((with_reducible refine gate_callee (f := 12) rfl ?_); refine goesL_ (some 16) rfl rfl Try.func12 zK rfl #[.int .i64 2, .agg #[.string (⟨#[]⟩ : ByteArray), .slice none 0 0, .string (⟨#[]⟩ : ByteArray), .bool false, .bool false]] rfl zM ?_; (refine (pieces_Prepare.calls k 2 (⟨#[]⟩ : ByteArray) _ _ ([] : List ByteArray) (⟨#[]⟩ : ByteArray) false false t545 t546 t549 t550 t551 t552 _ ?side1 ?side2 A2.out).mono ?_); (case side1 => exact Kd.C_nil _ _); (case side2 => exact Nat.le_refl _); rintro e w16 ⟨v547, rfl, ho0, hb⟩; refine ⟨_, rfl, ?_⟩; have n_ := zI (aM (Kd.R_elder' (zR HO538) (Kd.R_base ho0) hb)) (zI (aM (Kd.R_elder' (zR HO542) (Kd.R_base ho0) hb)) (zI (aM (Kd.R_lower (Kd.R_new' (Kd.R_new' ho0 (Kd.R_lt (zR HO538))) (Kd.R_lt (zR HO542))) (below_size (by repeat (first | (with_reducible first | exact HB.out | apply bA | apply bN | apply bD | refine below_set ?_ GE539.out) | exact HB.out))))) (zI (aM (blk_below (g := gb539) (o := .cells #[.string (⟨#[32, 97, 98]⟩ : ByteArray), .slice Ao9 y536.length co9, .string (⟨#[99, 32]⟩ : ByteArray), .bool true, .bool true] 29 (0, 0)) (by (with_reducible repeat (first | refine blk_drewN ?_ _ | refine blk_drew ?_ | refine blk_alloc ?_ _)); exact BK539.out) hb)) (aM (below_step (by repeat (first | (with_reducible first | exact HB.out | apply bA | apply bN | apply bD | refine below_set ?_ GE539.out) | exact HB.out)) hb))))); clear HO538 HO542 BK539 HB; obtain ⟨HO538, HO542, HO548, BK539, HB⟩ := n_; (try clear hb); (try clear hk); (try clear ho0)) | ((with_reducible refine gate_dst (N := 4) rfl ?_); refine box_event ?hg (N := 4) ?hd (cs := #[.string (⟨#[]⟩ : ByteArray), .slice none 0 0, .string (⟨#[]⟩ : ByteArray), .bool false, .bool false]) (t := 29) ?hr ?_; (case hd => rfl); (case hg => rfl); (case hr => first | (go_simp; done) | (go_simp; rfl)); intro gb553 hg w17 hbox hb; have n_ := zI (aM (Kd.R_below (zR HO538) hb)) (zI (aM (Kd.R_below (zR HO542) hb)) (zI (aM (Kd.R_below (zR HO548) hb)) (zI (aM (blk_below (g := gb539) (o := .cells #[.string (⟨#[32, 97, 98]⟩ : ByteArray), .slice Ao9 y536.length co9, .string (⟨#[99, 32]⟩ : ByteArray), .bool true, .bool true] 29 (0, 0)) (by (with_reducible repeat (first | refine blk_drewN ?_ _ | refine blk_drew ?_ | refine blk_alloc ?_ _)); exact BK539.out) hb)) (zI (aM (below_step (by repeat (first | (with_reducible first | exact HB.out | apply bA | apply bN | apply bD | refine below_set ?_ GE539.out) | exact HB.out)) hb)) (zI (aM (hbox)) (zI (aM ((by rw [hg]; exact (below_size (by repeat (first | (with_reducible first | exact HB.out | apply bA | apply bN | apply bD | refine below_set ?_ GE539.out) | exact HB.out))) : w.heap.size ≤ gb553))) (zI (aM ((by rw [hg]; exact (below_size (by repeat (first | (with_reducible first | exact HB.out | apply bA | apply bN | apply bD | refine below_set ?_ GE539.out) | exact HB.out))) : w.heap.size ≤ gb553))) (zI (aM ((by rw [hg]; exact Nat.ne_of_lt (blk_lt (g := gb539) (o := .cells #[.string (⟨#[32, 97, 98]⟩ : ByteArray), .slice Ao9 y536.length co9, .string (⟨#[99, 32]⟩ : ByteArray), .bool true, .bool true] 29 (0, 0)) (by (with_reducible repeat (first | refine blk_drewN ?_ _ | refine blk_drew ?_ | refine blk_alloc ?_ _)); exact BK539.out)) : gb539 ≠ gb553))) (aM ((by rw [hg]; exact Nat.ne_of_gt (blk_lt (g := gb539) (o := .cells #[.string (⟨#[32, 97, 98]⟩ : ByteArray), .slice Ao9 y536.length co9, .string (⟨#[99, 32]⟩ : ByteArray), .bool true, .bool true] 29 (0, 0)) (by (with_reducible repeat (first | refine blk_drewN ?_ _ | refine blk_drew ?_ | refine blk_alloc ?_ _)); exact BK539.out)) : gb553 ≠ gb539))))))))))); clear HO538 HO542 HO548 BK539 HB; obtain ⟨HO538, HO542, HO548, BK539, HB, BK553, GW553, GE553, NB539_553, NB553_539⟩ := n_; clear hb hbox hg; have hnb18 := NB553_539.out; have hnc18 := NB539_553.out; have hcz19_0 : w17.cell? ⟨gb553, 0, none⟩ = some (.string (⟨#[]⟩ : ByteArray)) := (blk_cell BK553.out 0).trans rfl; have hcz19_1 : w17.cell? ⟨gb553, 1, none⟩ = some (.slice none 0 0) := (blk_cell BK553.out 1).trans rfl; have hcz19_2 : w17.cell? ⟨gb553, 2, none⟩ = some (.string (⟨#[]⟩ : ByteArray)) := (blk_cell BK553.out 2).trans rfl; have hcz19_3 : w17.cell? ⟨gb553, 3, none⟩ = some (.bool false) := (blk_cell BK553.out 3).trans rfl; have hcz19_4 : w17.cell? ⟨gb553, 4, none⟩ = some (.bool false) := (blk_cell BK553.out 4).trans rfl; have hfz19_0 := blk_frozen BK553.out 0; have hfz19_1 := blk_frozen BK553.out 1; have hfz19_2 := blk_frozen BK553.out 2; have hfz19_3 := blk_frozen BK553.out 3; have hfz19_4 := blk_frozen BK553.out 4; obtain ⟨Ao20, co20, rfl⟩ := Kd.R_slice HO548.out; have hcz21_0 : w17.cell? ⟨gb539, 0, none⟩ = some (.string (⟨#[32, 97, 98]⟩ : ByteArray)) := (blk_cell BK539.out 0).trans rfl; have hcz21_1 : w17.cell? ⟨gb539, 1, none⟩ = some (.slice Ao9 y536.length co9) := (blk_cell BK539.out 1).trans rfl; have hcz21_2 : w17.cell? ⟨gb539, 2, none⟩ = some (.string (⟨#[99, 32]⟩ : ByteArray)) := (blk_cell BK539.out 2).trans rfl; have hcz21_3 : w17.cell? ⟨gb539, 3, none⟩ = some (.bool true) := (blk_cell BK539.out 3).trans rfl; have hcz21_4 : w17.cell? ⟨gb539, 4, none⟩ = some (.bool true) := (blk_cell BK539.out 4).trans rfl; have hfz21_0 := blk_frozen BK539.out 0; have hfz21_1 := blk_frozen BK539.out 1; have hfz21_2 := blk_frozen BK539.out 2; have hfz21_3 := blk_frozen BK539.out 3; have hfz21_4 := blk_frozen BK539.out 4) | ((with_reducible refine gate_callee (f := 9) rfl ?_); refine goesL_ (some 20) rfl rfl Try.func9 zK rfl #[.string (⟨#[32, 97, 98, 99, 97, 98, 99, 32]⟩ : ByteArray), .agg #[.string (⟨#[32, 97, 98]⟩ : ByteArray), .slice Ao9 y536.length co9, .string (⟨#[99, 32]⟩ : ByteArray), .bool true, .bool true]] rfl zM ?_; (with_reducible refine (pieces_Match.calls k (⟨#[32, 97, 98, 99, 97, 98, 99, 32]⟩ : ByteArray) (⟨#[32, 97, 98]⟩ : ByteArray) _ _ y536 (⟨#[99, 32]⟩ : ByteArray) true true true _ (zEnv HE) ?side1 ?side2 A3.out).mono ?_); (case side1 => refine (Kd.R_reads' (e := 9) (base := w.heap.size) (ok := fun k_ => ((True ∧ some k_ ≠ (.slice Ao14 y540.length co14 : Value).ownBlock) ∧ some k_ ≠ (.slice Ao20 t546.length co20 : Value).ownBlock)) (n := y536.length) (c := co9) ?_).2.2; exact (by (with_reducible repeat (first | apply Kd.R_alloc | apply Kd.R_drewN | apply Kd.R_drew)); exact (Kd.R_mono (Kd.R_far (p := ⟨gb553, 4, none⟩) (Kd.R_far (p := ⟨gb553, 3, none⟩) (Kd.R_far (p := ⟨gb553, 2, none⟩) (Kd.R_far (p := ⟨gb553, 1, none⟩) (Kd.R_far (p := ⟨gb553, 0, none⟩) (Kd.R_types HO538.out BK553.out (by decide)) (fun _ hk => hk.2) (.string t545)) (fun _ hk => hk.2) (.slice Ao20 t546.length co20)) (fun _ hk => hk.2) (.string t549)) (fun _ hk => hk.2) (.bool t550)) (fun _ hk => hk.2) (.bool t551)) (fun _ h_ => h_.1)))); (case side2 => exact (Kd.R_reads' HO538.out).2.1); rintro e w22 ⟨rfl, hb⟩; (try clear A3); refine ⟨_, rfl, ?_⟩; have n_ := zI (aM (Kd.R_below (by (with_reducible repeat (first | apply Kd.R_alloc | apply Kd.R_drewN | apply Kd.R_drew)); exact (Kd.R_mono (Kd.R_far (p := ⟨gb553, 4, none⟩) (Kd.R_far (p := ⟨gb553, 3, none⟩) (Kd.R_far (p := ⟨gb553, 2, none⟩) (Kd.R_far (p := ⟨gb553, 1, none⟩) (Kd.R_far (p := ⟨gb553, 0, none⟩) (Kd.R_types HO538.out BK553.out (by decide)) (fun _ hk => hk.2) (.string t545)) (fun _ hk => hk.2) (.slice Ao20 t546.length co20)) (fun _ hk => hk.2) (.string t549)) (fun _ hk => hk.2) (.bool t550)) (fun _ hk => hk.2) (.bool t551)) (fun _ h_ => h_.1))) hb)) (zI (aM (Kd.R_below (by (with_reducible repeat (first | apply Kd.R_alloc | apply Kd.R_drewN | apply Kd.R_drew)); exact (Kd.R_mono (Kd.R_far (p := ⟨gb553, 4, none⟩) (Kd.R_far (p := ⟨gb553, 3, none⟩) (Kd.R_far (p := ⟨gb553, 2, none⟩) (Kd.R_far (p := ⟨gb553, 1, none⟩) (Kd.R_far (p := ⟨gb553, 0, none⟩) (Kd.R_types HO542.out BK553.out (by decide)) (fun _ hk => hk.2) (.string t545)) (fun _ hk => hk.2) (.slice Ao20 t546.length co20)) (fun _ hk => hk.2) (.string t549)) (fun _ hk => hk.2) (.bool t550)) (fun _ hk => hk.2) (.bool t551)) (fun _ h_ => h_.1))) hb)) (zI (aM (Kd.R_below (by (with_reducible repeat (first | apply Kd.R_alloc | apply Kd.R_drewN | apply Kd.R_drew)); exact (Kd.R_mono (Kd.R_far (p := ⟨gb553, 4, none⟩) (Kd.R_far (p := ⟨gb553, 3, none⟩) (Kd.R_far (p := ⟨gb553, 2, none⟩) (Kd.R_far (p := ⟨gb553, 1, none⟩) (Kd.R_far (p := ⟨gb553, 0, none⟩) (Kd.R_types HO548.out BK553.out (by decide)) (fun _ hk => hk.2) (.string t545)) (fun _ hk => hk.2) (.slice Ao20 t546.length co20)) (fun _ hk => hk.2) (.string t549)) (fun _ hk => hk.2) (.bool t550)) (fun _ hk => hk.2) (.bool t551)) (fun _ h_ => h_.1))) hb)) (zI (aM (blk_below (g := gb539) (o := .cells #[.string (⟨#[32, 97, 98]⟩ : ByteArray), .slice Ao9 y536.length co9, .string (⟨#[99, 32]⟩ : ByteArray), .bool true, .bool true] 29 (0, 0)) (by (with_reducible repeat (first | refine blk_drewN ?_ _ | refine blk_drew ?_ | refine blk_alloc ?_ _)); refine blk_far ?_ NB539_553.out _; (with_reducible repeat (first | refine blk_drewN ?_ _ | refine blk_drew ?_ | refine blk_alloc ?_ _)); refine blk_far ?_ NB539_553.out _; (with_reducible repeat (first | refine blk_drewN ?_ _ | refine blk_drew ?_ | refine blk_alloc ?_ _)); refine blk_far ?_ NB539_553.out _; (with_reducible repeat (first | refine blk_drewN ?_ _ | refine blk_drew ?_ | refine blk_alloc ?_ _)); refine blk_far ?_ NB539_553.out _; (with_reducible repeat (first | refine blk_drewN ?_ _ | refine blk_drew ?_ | refine blk_alloc ?_ _)); refine blk_far ?_ NB539_553.out _; (with_reducible repeat (first | refine blk_drewN ?_ _ | refine blk_drew ?_ | refine blk_alloc ?_ _)); exact BK539.out) hb)) (zI (aM (blk_below (g := gb553) (o := .cells #[.string t545, .slice Ao20 t546.length co20, .string t549, .bool t550, .bool t551] 29 (0, 0)) (by (with_reducible repeat (first | refine blk_drewN ?_ _ | refine blk_drew ?_ | refine blk_alloc ?_ _)); refine blk_put (cs := #[.string t545, .slice Ao20 t546.length co20, .string t549, .bool t550, .bool false]) ?_ 4 _ rfl; (with_reducible repeat (first | refine blk_drewN ?_ _ | refine blk_drew ?_ | refine blk_alloc ?_ _)); refine blk_put (cs := #[.string t545, .slice Ao20 t546.length co20, .string t549, .bool false, .bool false]) ?_ 3 _ rfl; (with_reducible repeat (first | refine blk_drewN ?_ _ | refine blk_drew ?_ | refine blk_alloc ?_ _)); refine blk_put (cs := #[.string t545, .slice Ao20 t546.length co20, .string (⟨#[]⟩ : ByteArray), .bool false, .bool false]) ?_ 2 _ rfl; (with_reducible repeat (first | refine blk_drewN ?_ _ | refine blk_drew ?_ | refine blk_alloc ?_ _)); refine blk_put (cs := #[.string t545, .slice none 0 0, .string (⟨#[]⟩ : ByteArray), .bool false, .bool false]) ?_ 1 _ rfl; (with_reducible repeat (first | refine blk_drewN ?_ _ | refine blk_drew ?_ | refine blk_alloc ?_ _)); refine blk_put (cs := #[.string (⟨#[]⟩ : ByteArray), .slice none 0 0, .string (⟨#[]⟩ : ByteArray), .bool false, .bool false]) ?_ 0 _ rfl; (with_reducible repeat (first | refine blk_drewN ?_ _ | refine blk_drew ?_ | refine blk_alloc ?_ _)); exact BK553.out) hb)) (aM (below_step (by repeat (first | (with_reducible first | exact HB.out | apply bA | apply bN | apply bD | refine below_set ?_ GE539.out | refine below_set ?_ GE553.out) | exact HB.out)) hb)))))); clear HO538 HO542 HO548 BK539 BK553 HB; obtain ⟨HO538, HO542, HO548, BK539, BK553, HB⟩ := n_; (try clear hb); (try clear hk); have hcz23_0 : w22.cell? ⟨gb539, 0, none⟩ = some (.string (⟨#[32, 97, 98]⟩ : ByteArray)) := (blk_cell BK539.out 0).trans rfl; have hcz23_1 : w22.cell? ⟨gb539, 1, none⟩ = some (.slice Ao9 y536.length co9) := (blk_cell BK539.out 1).trans rfl; have hcz23_2 : w22.cell? ⟨gb539, 2, none⟩ = some (.string (⟨#[99, 32]⟩ : ByteArray)) := (blk_cell BK539.out 2).trans rfl; have hcz23_3 : w22.cell? ⟨gb539, 3, none⟩ = some (.bool true) := (blk_cell BK539.out 3).trans rfl; have hcz23_4 : w22.cell? ⟨gb539, 4, none⟩ = some (.bool true) := (blk_cell BK539.out 4).trans rfl; have hfz23_0 := blk_frozen BK539.out 0; have hfz23_1 := blk_frozen BK539.out 1; have hfz23_2 := blk_frozen BK539.out 2; have hfz23_3 := blk_frozen BK539.out 3; have hfz23_4 := blk_frozen BK539.out 4) | (go_at_call 9; (with_reducible refine (pieces_Match.calls k (⟨#[32, 97, 98]⟩ : ByteArray) (⟨#[32, 97, 98]⟩ : ByteArray) _ _ y536 (⟨#[99, 32]⟩ : ByteArray) true true true _ (zEnv HE) ?side1 ?side2 A5.out).mono ?_); (case side1 => exact zC (Kd.R_reads' HO538.out).2.2); (case side2 => exact (Kd.R_reads' HO538.out).2.1); rintro e w24 ⟨rfl, hb⟩; (try clear A5); have n_ := zI (aM (Kd.R_below (zR HO538) hb)) (zI (aM (Kd.R_below (zR HO542) hb)) (zI (aM (Kd.R_below (zR HO548) hb)) (zI (aM (blk_below (g := gb539) (o := .cells #[.string (⟨#[32, 97, 98]⟩ : ByteArray), .slice Ao9 y536.length co9, .string (⟨#[99, 32]⟩ : ByteArray), .bool true, .bool true] 29 (0, 0)) (by (with_reducible repeat (first | refine blk_drewN ?_ _ | refine blk_drew ?_ | refine blk_alloc ?_ _)); exact BK539.out) hb)) (zI (aM (blk_below (g := gb553) (o := .cells #[.string t545, .slice Ao20 t546.length co20, .string t549, .bool t550, .bool t551] 29 (0, 0)) (by (with_reducible repeat (first | refine blk_drewN ?_ _ | refine blk_drew ?_ | refine blk_alloc ?_ _)); exact BK553.out) hb)) (aM (below_step (by repeat (first | (with_reducible first | exact HB.out | apply bA | apply bN | apply bD | refine below_set ?_ GE539.out | refine below_set ?_ GE553.out) | exact HB.out)) hb)))))); clear HO538 HO542 HO548 BK539 BK553 HB; obtain ⟨HO538, HO542, HO548, BK539, BK553, HB⟩ := n_; (try clear hb); (try clear hk)))
   go_ret
   exact ⟨zE, by repeat (first | (with_reducible first | exact HB.out | apply bA | apply bN | apply bD | refine below_set ?_ GE539.out | refine below_set ?_ GE553.out) | exact HB.out)⟩
  ·replace c6 := Bool.eq_false_iff.mpr c6
   subst c6
   rw [if_neg (show ¬ (false = true) by decide)] at H
   by_cases c25 : t543 = true
   ·subst c25
    rw [if_pos rfl] at H
    by_cases c26 : t544 = 0
    ·rw [if_pos c26] at H
     have c26b0 : (t544 == 0) = true := beq_iff_eq.mpr c26
     have c26b1 : (t544 != 0) = false := bne_eq_false_iff_eq.mpr c26
     clear c26
     by_cases c27 : t552 = 2
     ·rw [if_pos c27] at H
      have c27b0 : (t552 == 2) = true := beq_iff_eq.mpr c27
      have c27b1 : (t552 != 2) = false := bne_eq_false_iff_eq.mpr c27
      clear c27
      obtain ⟨t556, A28, H⟩ := zO H
      obtain rfl := sI H
      go_enter Try.func6, Try.ntmps6
      go_wp2_with (first | ((with_reducible refine gate_dst (N := 6) rfl ?_); refine Kd.R_lit Kd.string _ 9 ?hg (N := 6) ?hd (xs := ([(⟨#[99, 97]⟩ : ByteArray)] : List ByteArray)) (inner := [.string (⟨#[99, 97]⟩ : ByteArray)]) (ok := fun _ => True) (okp := fun _ => True) ?hr ?hp (fun _ hk => hk) trivial (Below.refl _ _) (Nat.le_refl _) (by simp) ?_; (case hd => rfl); (case hg => rfl); (case hr => first | (go_simp; done) | (go_simp; rfl)); (case hp => exact (Reps.one (show Kd.M Kd.string _ _ _ (⟨#[99, 97]⟩ : ByteArray) [.string (⟨#[99, 97]⟩ : ByteArray)] from rfl) (Reps.none _ _))); intro v537 w29 ho30 hb hg_ hnew_; clear hg_ hnew_; (first | rw [← Ny536.out] at ho30 | (simp only [Int.reduceToNat] at ho30; rw [← Ny536.out] at ho30)); have n_ := zI (aM (Kd.R_lower ho30 (below_size zB))) (aM (below_step zB hb)); clear HB; obtain ⟨HO538, HB⟩ := n_; clear hb ho30; obtain ⟨Ao31, co31, rfl⟩ := Kd.R_slice HO538.out) | ((with_reducible refine gate_dst (N := 1) rfl ?_); refine box_event ?hg (N := 1) ?hd (cs := #[.string (⟨#[]⟩ : ByteArray), .slice none 0 0, .string (⟨#[]⟩ : ByteArray), .bool false, .bool false]) (t := 29) ?hr ?_; (case hd => rfl); (case hg => rfl); (case hr => first | (go_simp; done) | (go_simp; rfl)); intro gb539 hg w32 hbox hb; have n_ := zI (aM (Kd.R_below (zR HO538) hb)) (zI (aM (below_step zB hb)) (zI (aM (hbox)) (zI (aM ((by rw [hg]; exact (below_size zB) : w.heap.size ≤ gb539))) (aM ((by rw [hg]; exact (below_size zB) : w.heap.size ≤ gb539)))))); clear HO538 HB; obtain ⟨HO538, HB, BK539, GW539, GE539⟩ := n_; clear hb hbox hg; have hcz33_0 : w32.cell? ⟨gb539, 0, none⟩ = some (.string (⟨#[]⟩ : ByteArray)) := (blk_cell BK539.out 0).trans rfl; have hcz33_1 : w32.cell? ⟨gb539, 1, none⟩ = some (.slice none 0 0) := (blk_cell BK539.out 1).trans rfl; have hcz33_2 : w32.cell? ⟨gb539, 2, none⟩ = some (.string (⟨#[]⟩ : ByteArray)) := (blk_cell BK539.out 2).trans rfl; have hcz33_3 : w32.cell? ⟨gb539, 3, none⟩ = some (.bool false) := (blk_cell BK539.out 3).trans rfl; have hcz33_4 : w32.cell? ⟨gb539, 4, none⟩ = some (.bool false) := (blk_cell BK539.out 4).trans rfl; have hfz33_0 := blk_frozen BK539.out 0; have hfz33_1 := blk_frozen BK539.out 1; have hfz33_2 := blk_frozen BK539.out 2; have hfz33_3 := blk_frozen BK539.out 3; have hfz33_4 := blk_frozen BK539.out 4) | ((with_reducible refine gate_dst (N := 9) rfl ?_); refine Kd.R_lit Kd.string _ 9 ?hg (N := 9) ?hd (xs := ([(⟨#[195, 169, 32, 65, 85]⟩ : ByteArray)] : List ByteArray)) (inner := [.string (⟨#[195, 169, 32, 65, 85]⟩ : ByteArray)]) (ok := fun _ => True) (okp := fun _ => True) ?hr ?hp (fun _ hk => hk) trivial (Below.refl _ _) (Nat.le_refl _) (by simp) ?_; (case hd => rfl); (case hg => rfl); (case hr => first | (go_simp; done) | (go_simp; rfl)); (case hp => exact (Reps.one (show Kd.M Kd.string _ _ _ (⟨#[195, 169, 32, 65, 85]⟩ : ByteArray) [.string (⟨#[195, 169, 32, 65, 85]⟩ : ByteArray)] from rfl) (Reps.none _ _))); intro v541 w34 ho35 hb hg_ hnew_; clear hg_ hnew_; (first | rw [← Ny540.out] at ho35 | (simp only [Int.reduceToNat] at ho35; rw [← Ny540.out] at ho35)); have n_ := zI (aM (Kd.R_elder' (by (with_reducible repeat (first | apply Kd.R_alloc | apply Kd.R_drewN | apply Kd.R_drew)); exact (Kd.R_mono (Kd.R_far (p := ⟨gb539, 4, none⟩) (Kd.R_far (p := ⟨gb539, 3, none⟩) (Kd.R_far (p := ⟨gb539, 2, none⟩) (Kd.R_far (p := ⟨gb539, 1, none⟩) (Kd.R_far (p := ⟨gb539, 0, none⟩) (Kd.R_types HO538.out BK539.out (by decide)) (fun _ hk => hk.2) (.string (⟨#[32, 97, 98]⟩ : ByteArray))) (fun _ hk => hk.2) (.slice Ao31 y536.length co31)) (fun _ hk => hk.2) (.string (⟨#[99, 32]⟩ : ByteArray))) (fun _ hk => hk.2) (.bool true)) (fun _ hk => hk.2) (.bool true)) (fun _ h_ => h_.1))) (Kd.R_base ho35) hb)) (zI (aM (Kd.R_lower (Kd.R_new' ho35 (Kd.R_lt (by (with_reducible repeat (first | apply Kd.R_alloc | apply Kd.R_drewN | apply Kd.R_drew)); exact (Kd.R_mono (Kd.R_far (p := ⟨gb539, 4, none⟩) (Kd.R_far (p := ⟨gb539, 3, none⟩) (Kd.R_far (p := ⟨gb539, 2, none⟩) (Kd.R_far (p := ⟨gb539, 1, none⟩) (Kd.R_far (p := ⟨gb539, 0, none⟩) (Kd.R_types HO538.out BK539.out (by decide)) (fun _ hk => hk.2) (.string (⟨#[32, 97, 98]⟩ : ByteArray))) (fun _ hk => hk.2) (.slice Ao31 y536.length co31)) (fun _ hk => hk.2) (.string (⟨#[99, 32]⟩ : ByteArray))) (fun _ hk => hk.2) (.bool true)) (fun _ hk => hk.2) (.bool true)) (fun _ h_ => h_.1))))) (below_size (by repeat (first | (with_reducible first | exact HB.out | apply bA | apply bN | apply bD | refine below_set ?_ GE539.out) | exact HB.out))))) (zI (aM (blk_below (g := gb539) (o := .cells #[.string (⟨#[32, 97, 98]⟩ : ByteArray), .slice Ao31 y536.length co31, .string (⟨#[99, 32]⟩ : ByteArray), .bool true, .bool true] 29 (0, 0)) (by (with_reducible repeat (first | refine blk_drewN ?_ _ | refine blk_drew ?_ | refine blk_alloc ?_ _)); refine blk_put (cs := #[.string (⟨#[32, 97, 98]⟩ : ByteArray), .slice Ao31 y536.length co31, .string (⟨#[99, 32]⟩ : ByteArray), .bool true, .bool false]) ?_ 4 _ rfl; (with_reducible repeat (first | refine blk_drewN ?_ _ | refine blk_drew ?_ | refine blk_alloc ?_ _)); refine blk_put (cs := #[.string (⟨#[32, 97, 98]⟩ : ByteArray), .slice Ao31 y536.length co31, .string (⟨#[99, 32]⟩ : ByteArray), .bool false, .bool false]) ?_ 3 _ rfl; (with_reducible repeat (first | refine blk_drewN ?_ _ | refine blk_drew ?_ | refine blk_alloc ?_ _)); refine blk_put (cs := #[.string (⟨#[32, 97, 98]⟩ : ByteArray), .slice Ao31 y536.length co31, .string (⟨#[]⟩ : ByteArray), .bool false, .bool false]) ?_ 2 _ rfl; (with_reducible repeat (first | refine blk_drewN ?_ _ | refine blk_drew ?_ | refine blk_alloc ?_ _)); refine blk_put (cs := #[.string (⟨#[32, 97, 98]⟩ : ByteArray), .slice none 0 0, .string (⟨#[]⟩ : ByteArray), .bool false, .bool false]) ?_ 1 _ rfl; (with_reducible repeat (first | refine blk_drewN ?_ _ | refine blk_drew ?_ | refine blk_alloc ?_ _)); refine blk_put (cs := #[.string (⟨#[]⟩ : ByteArray), .slice none 0 0, .string (⟨#[]⟩ : ByteArray), .bool false, .bool false]) ?_ 0 _ rfl; (with_reducible repeat (first | refine blk_drewN ?_ _ | refine blk_drew ?_ | refine blk_alloc ?_ _)); exact BK539.out) hb)) (aM (below_step (by repeat (first | (with_reducible first | exact HB.out | apply bA | apply bN | apply bD | refine below_set ?_ GE539.out) | exact HB.out)) hb)))); clear HO538 BK539 HB; obtain ⟨HO538, HO542, BK539, HB⟩ := n_; clear hb ho35; obtain ⟨Ao36, co36, rfl⟩ := Kd.R_slice HO542.out) | ((with_reducible refine gate_callee (f := 11) rfl ?_); refine goesL_ (some 11) rfl rfl Try.func11 zK rfl #[.int .i64 2, .string (⟨#[67, 97, 102, 195, 137, 32, 97, 117, 32, 108, 97, 105, 116]⟩ : ByteArray), .agg #[.string (⟨#[]⟩ : ByteArray), .slice Ao36 y540.length co36, .string (⟨#[]⟩ : ByteArray), .bool false, .bool false]] rfl zM ?_; (with_reducible refine (pieces_Asks.calls k 2 (⟨#[67, 97, 102, 195, 137, 32, 97, 117, 32, 108, 97, 105, 116]⟩ : ByteArray) (⟨#[]⟩ : ByteArray) _ _ y540 (⟨#[]⟩ : ByteArray) false false true t544 _ (zEnv HE) ?side1 ?side2 A1.out).mono ?_); (case side1 => exact zC (Kd.R_reads' HO542.out).2.2); (case side2 => exact (Kd.R_reads' HO542.out).2.1); rintro e w37 ⟨rfl, hb⟩; refine ⟨_, rfl, ?_⟩; have n_ := zI (aM (Kd.R_below (zR HO538) hb)) (zI (aM (Kd.R_below (zR HO542) hb)) (zI (aM (blk_below (g := gb539) (o := .cells #[.string (⟨#[32, 97, 98]⟩ : ByteArray), .slice Ao31 y536.length co31, .string (⟨#[99, 32]⟩ : ByteArray), .bool true, .bool true] 29 (0, 0)) (by (with_reducible repeat (first | refine blk_drewN ?_ _ | refine blk_drew ?_ | refine blk_alloc ?_ _)); exact BK539.out) hb)) (aM (below_step (by repeat (first | (with_reducible first | exact HB.out | apply bA | apply bN | apply bD | refine below_set ?_ GE539.out) | exact HB.out)) hb)))); clear HO538 HO542 BK539 HB; obtain ⟨HO538, HO542, BK539, HB⟩ := n_; (try clear hb); (try clear hk)) | ((with_reducible refine gate_callee (f := 12) rfl ?_); refine goesL_ (some 16) rfl rfl Try.func12 zK rfl #[.int .i64 2, .agg #[.string (⟨#[]⟩ : ByteArray), .slice none 0 0, .string (⟨#[]⟩ : ByteArray), .bool false, .bool false]] rfl zM ?_; (refine (pieces_Prepare.calls k 2 (⟨#[]⟩ : ByteArray) _ _ ([] : List ByteArray) (⟨#[]⟩ : ByteArray) false false t545 t546 t549 t550 t551 t552 _ ?side1 ?side2 A2.out).mono ?_); (case side1 => exact Kd.C_nil _ _); (case side2 => exact Nat.le_refl _); rintro e w38 ⟨v547, rfl, ho0, hb⟩; refine ⟨_, rfl, ?_⟩; have n_ := zI (aM (Kd.R_elder' (zR HO538) (Kd.R_base ho0) hb)) (zI (aM (Kd.R_elder' (zR HO542) (Kd.R_base ho0) hb)) (zI (aM (Kd.R_lower (Kd.R_new' (Kd.R_new' ho0 (Kd.R_lt (zR HO538))) (Kd.R_lt (zR HO542))) (below_size (by repeat (first | (with_reducible first | exact HB.out | apply bA | apply bN | apply bD | refine below_set ?_ GE539.out) | exact HB.out))))) (zI (aM (blk_below (g := gb539) (o := .cells #[.string (⟨#[32, 97, 98]⟩ : ByteArray), .slice Ao31 y536.length co31, .string (⟨#[99, 32]⟩ : ByteArray), .bool true, .bool true] 29 (0, 0)) (by (with_reducible repeat (first | refine blk_drewN ?_ _ | refine blk_drew ?_ | refine blk_alloc ?_ _)); exact BK539.out) hb)) (aM (below_step (by repeat (first | (with_reducible first | exact HB.out | apply bA | apply bN | apply bD | refine below_set ?_ GE539.out) | exact HB.out)) hb))))); clear HO538 HO542 BK539 HB; obtain ⟨HO538, HO542, HO548, BK539, HB⟩ := n_; (try clear hb); (try clear hk); (try clear ho0)) | ((with_reducible refine gate_dst (N := 4) rfl ?_); refine box_event ?hg (N := 4) ?hd (cs := #[.string (⟨#[]⟩ : ByteArray), .slice none 0 0, .string (⟨#[]⟩ : ByteArray), .bool false, .bool false]) (t := 29) ?hr ?_; (case hd => rfl); (case hg => rfl); (case hr => first | (go_simp; done) | (go_simp; rfl)); intro gb553 hg w39 hbox hb; have n_ := zI (aM (Kd.R_below (zR HO538) hb)) (zI (aM (Kd.R_below (zR HO542) hb)) (zI (aM (Kd.R_below (zR HO548) hb)) (zI (aM (blk_below (g := gb539) (o := .cells #[.string (⟨#[32, 97, 98]⟩ : ByteArray), .slice Ao31 y536.length co31, .string (⟨#[99, 32]⟩ : ByteArray), .bool true, .bool true] 29 (0, 0)) (by (with_reducible repeat (first | refine blk_drewN ?_ _ | refine blk_drew ?_ | refine blk_alloc ?_ _)); exact BK539.out) hb)) (zI (aM (below_step (by repeat (first | (with_reducible first | exact HB.out | apply bA | apply bN | apply bD | refine below_set ?_ GE539.out) | exact HB.out)) hb)) (zI (aM (hbox)) (zI (aM ((by rw [hg]; exact (below_size (by repeat (first | (with_reducible first | exact HB.out | apply bA | apply bN | apply bD | refine below_set ?_ GE539.out) | exact HB.out))) : w.heap.size ≤ gb553))) (zI (aM ((by rw [hg]; exact (below_size (by repeat (first | (with_reducible first | exact HB.out | apply bA | apply bN | apply bD | refine below_set ?_ GE539.out) | exact HB.out))) : w.heap.size ≤ gb553))) (zI (aM ((by rw [hg]; exact Nat.ne_of_lt (blk_lt (g := gb539) (o := .cells #[.string (⟨#[32, 97, 98]⟩ : ByteArray), .slice Ao31 y536.length co31, .string (⟨#[99, 32]⟩ : ByteArray), .bool true, .bool true] 29 (0, 0)) (by (with_reducible repeat (first | refine blk_drewN ?_ _ | refine blk_drew ?_ | refine blk_alloc ?_ _)); exact BK539.out)) : gb539 ≠ gb553))) (aM ((by rw [hg]; exact Nat.ne_of_gt (blk_lt (g := gb539) (o := .cells #[.string (⟨#[32, 97, 98]⟩ : ByteArray), .slice Ao31 y536.length co31, .string (⟨#[99, 32]⟩ : ByteArray), .bool true, .bool true] 29 (0, 0)) (by (with_reducible repeat (first | refine blk_drewN ?_ _ | refine blk_drew ?_ | refine blk_alloc ?_ _)); exact BK539.out)) : gb553 ≠ gb539))))))))))); clear HO538 HO542 HO548 BK539 HB; obtain ⟨HO538, HO542, HO548, BK539, HB, BK553, GW553, GE553, NB539_553, NB553_539⟩ := n_; clear hb hbox hg; have hnb40 := NB553_539.out; have hnc40 := NB539_553.out; have hcz41_0 : w39.cell? ⟨gb553, 0, none⟩ = some (.string (⟨#[]⟩ : ByteArray)) := (blk_cell BK553.out 0).trans rfl; have hcz41_1 : w39.cell? ⟨gb553, 1, none⟩ = some (.slice none 0 0) := (blk_cell BK553.out 1).trans rfl; have hcz41_2 : w39.cell? ⟨gb553, 2, none⟩ = some (.string (⟨#[]⟩ : ByteArray)) := (blk_cell BK553.out 2).trans rfl; have hcz41_3 : w39.cell? ⟨gb553, 3, none⟩ = some (.bool false) := (blk_cell BK553.out 3).trans rfl; have hcz41_4 : w39.cell? ⟨gb553, 4, none⟩ = some (.bool false) := (blk_cell BK553.out 4).trans rfl; have hfz41_0 := blk_frozen BK553.out 0; have hfz41_1 := blk_frozen BK553.out 1; have hfz41_2 := blk_frozen BK553.out 2; have hfz41_3 := blk_frozen BK553.out 3; have hfz41_4 := blk_frozen BK553.out 4; obtain ⟨Ao42, co42, rfl⟩ := Kd.R_slice HO548.out; have hcz43_0 : w39.cell? ⟨gb539, 0, none⟩ = some (.string (⟨#[32, 97, 98]⟩ : ByteArray)) := (blk_cell BK539.out 0).trans rfl; have hcz43_1 : w39.cell? ⟨gb539, 1, none⟩ = some (.slice Ao31 y536.length co31) := (blk_cell BK539.out 1).trans rfl; have hcz43_2 : w39.cell? ⟨gb539, 2, none⟩ = some (.string (⟨#[99, 32]⟩ : ByteArray)) := (blk_cell BK539.out 2).trans rfl; have hcz43_3 : w39.cell? ⟨gb539, 3, none⟩ = some (.bool true) := (blk_cell BK539.out 3).trans rfl; have hcz43_4 : w39.cell? ⟨gb539, 4, none⟩ = some (.bool true) := (blk_cell BK539.out 4).trans rfl; have hfz43_0 := blk_frozen BK539.out 0; have hfz43_1 := blk_frozen BK539.out 1; have hfz43_2 := blk_frozen BK539.out 2; have hfz43_3 := blk_frozen BK539.out 3; have hfz43_4 := blk_frozen BK539.out 4) | ((with_reducible refine gate_callee (f := 9) rfl ?_); refine goesL_ (some 20) rfl rfl Try.func9 zK rfl #[.string (⟨#[32, 97, 98, 99, 97, 98, 99, 32]⟩ : ByteArray), .agg #[.string (⟨#[32, 97, 98]⟩ : ByteArray), .slice Ao31 y536.length co31, .string (⟨#[99, 32]⟩ : ByteArray), .bool true, .bool true]] rfl zM ?_; (with_reducible refine (pieces_Match.calls k (⟨#[32, 97, 98, 99, 97, 98, 99, 32]⟩ : ByteArray) (⟨#[32, 97, 98]⟩ : ByteArray) _ _ y536 (⟨#[99, 32]⟩ : ByteArray) true true true _ (zEnv HE) ?side1 ?side2 A3.out).mono ?_); (case side1 => refine (Kd.R_reads' (e := 9) (base := w.heap.size) (ok := fun k_ => ((True ∧ some k_ ≠ (.slice Ao36 y540.length co36 : Value).ownBlock) ∧ some k_ ≠ (.slice Ao42 t546.length co42 : Value).ownBlock)) (n := y536.length) (c := co31) ?_).2.2; exact (by (with_reducible repeat (first | apply Kd.R_alloc | apply Kd.R_drewN | apply Kd.R_drew)); exact (Kd.R_mono (Kd.R_far (p := ⟨gb553, 4, none⟩) (Kd.R_far (p := ⟨gb553, 3, none⟩) (Kd.R_far (p := ⟨gb553, 2, none⟩) (Kd.R_far (p := ⟨gb553, 1, none⟩) (Kd.R_far (p := ⟨gb553, 0, none⟩) (Kd.R_types HO538.out BK553.out (by decide)) (fun _ hk => hk.2) (.string t545)) (fun _ hk => hk.2) (.slice Ao42 t546.length co42)) (fun _ hk => hk.2) (.string t549)) (fun _ hk => hk.2) (.bool t550)) (fun _ hk => hk.2) (.bool t551)) (fun _ h_ => h_.1)))); (case side2 => exact (Kd.R_reads' HO538.out).2.1); rintro e w44 ⟨rfl, hb⟩; (try clear A3); refine ⟨_, rfl, ?_⟩; have n_ := zI (aM (Kd.R_below (by (with_reducible repeat (first | apply Kd.R_alloc | apply Kd.R_drewN | apply Kd.R_drew)); exact (Kd.R_mono (Kd.R_far (p := ⟨gb553, 4, none⟩) (Kd.R_far (p := ⟨gb553, 3, none⟩) (Kd.R_far (p := ⟨gb553, 2, none⟩) (Kd.R_far (p := ⟨gb553, 1, none⟩) (Kd.R_far (p := ⟨gb553, 0, none⟩) (Kd.R_types HO538.out BK553.out (by decide)) (fun _ hk => hk.2) (.string t545)) (fun _ hk => hk.2) (.slice Ao42 t546.length co42)) (fun _ hk => hk.2) (.string t549)) (fun _ hk => hk.2) (.bool t550)) (fun _ hk => hk.2) (.bool t551)) (fun _ h_ => h_.1))) hb)) (zI (aM (Kd.R_below (by (with_reducible repeat (first | apply Kd.R_alloc | apply Kd.R_drewN | apply Kd.R_drew)); exact (Kd.R_mono (Kd.R_far (p := ⟨gb553, 4, none⟩) (Kd.R_far (p := ⟨gb553, 3, none⟩) (Kd.R_far (p := ⟨gb553, 2, none⟩) (Kd.R_far (p := ⟨gb553, 1, none⟩) (Kd.R_far (p := ⟨gb553, 0, none⟩) (Kd.R_types HO542.out BK553.out (by decide)) (fun _ hk => hk.2) (.string t545)) (fun _ hk => hk.2) (.slice Ao42 t546.length co42)) (fun _ hk => hk.2) (.string t549)) (fun _ hk => hk.2) (.bool t550)) (fun _ hk => hk.2) (.bool t551)) (fun _ h_ => h_.1))) hb)) (zI (aM (Kd.R_below (by (with_reducible repeat (first | apply Kd.R_alloc | apply Kd.R_drewN | apply Kd.R_drew)); exact (Kd.R_mono (Kd.R_far (p := ⟨gb553, 4, none⟩) (Kd.R_far (p := ⟨gb553, 3, none⟩) (Kd.R_far (p := ⟨gb553, 2, none⟩) (Kd.R_far (p := ⟨gb553, 1, none⟩) (Kd.R_far (p := ⟨gb553, 0, none⟩) (Kd.R_types HO548.out BK553.out (by decide)) (fun _ hk => hk.2) (.string t545)) (fun _ hk => hk.2) (.slice Ao42 t546.length co42)) (fun _ hk => hk.2) (.string t549)) (fun _ hk => hk.2) (.bool t550)) (fun _ hk => hk.2) (.bool t551)) (fun _ h_ => h_.1))) hb)) (zI (aM (blk_below (g := gb539) (o := .cells #[.string (⟨#[32, 97, 98]⟩ : ByteArray), .slice Ao31 y536.length co31, .string (⟨#[99, 32]⟩ : ByteArray), .bool true, .bool true] 29 (0, 0)) (by (with_reducible repeat (first | refine blk_drewN ?_ _ | refine blk_drew ?_ | refine blk_alloc ?_ _)); refine blk_far ?_ NB539_553.out _; (with_reducible repeat (first | refine blk_drewN ?_ _ | refine blk_drew ?_ | refine blk_alloc ?_ _)); refine blk_far ?_ NB539_553.out _; (with_reducible repeat (first | refine blk_drewN ?_ _ | refine blk_drew ?_ | refine blk_alloc ?_ _)); refine blk_far ?_ NB539_553.out _; (with_reducible repeat (first | refine blk_drewN ?_ _ | refine blk_drew ?_ | refine blk_alloc ?_ _)); refine blk_far ?_ NB539_553.out _; (with_reducible repeat (first | refine blk_drewN ?_ _ | refine blk_drew ?_ | refine blk_alloc ?_ _)); refine blk_far ?_ NB539_553.out _; (with_reducible repeat (first | refine blk_drewN ?_ _ | refine blk_drew ?_ | refine blk_alloc ?_ _)); exact BK539.out) hb)) (zI (aM (blk_below (g := gb553) (o := .cells #[.string t545, .slice Ao42 t546.length co42, .string t549, .bool t550, .bool t551] 29 (0, 0)) (by (with_reducible repeat (first | refine blk_drewN ?_ _ | refine blk_drew ?_ | refine blk_alloc ?_ _)); refine blk_put (cs := #[.string t545, .slice Ao42 t546.length co42, .string t549, .bool t550, .bool false]) ?_ 4 _ rfl; (with_reducible repeat (first | refine blk_drewN ?_ _ | refine blk_drew ?_ | refine blk_alloc ?_ _)); refine blk_put (cs := #[.string t545, .slice Ao42 t546.length co42, .string t549, .bool false, .bool false]) ?_ 3 _ rfl; (with_reducible repeat (first | refine blk_drewN ?_ _ | refine blk_drew ?_ | refine blk_alloc ?_ _)); refine blk_put (cs := #[.string t545, .slice Ao42 t546.length co42, .string (⟨#[]⟩ : ByteArray), .bool false, .bool false]) ?_ 2 _ rfl; (with_reducible repeat (first | refine blk_drewN ?_ _ | refine blk_drew ?_ | refine blk_alloc ?_ _)); refine blk_put (cs := #[.string t545, .slice none 0 0, .string (⟨#[]⟩ : ByteArray), .bool false, .bool false]) ?_ 1 _ rfl; (with_reducible repeat (first | refine blk_drewN ?_ _ | refine blk_drew ?_ | refine blk_alloc ?_ _)); refine blk_put (cs := #[.string (⟨#[]⟩ : ByteArray), .slice none 0 0, .string (⟨#[]⟩ : ByteArray), .bool false, .bool false]) ?_ 0 _ rfl; (with_reducible repeat (first | refine blk_drewN ?_ _ | refine blk_drew ?_ | refine blk_alloc ?_ _)); exact BK553.out) hb)) (aM (below_step (by repeat (first | (with_reducible first | exact HB.out | apply bA | apply bN | apply bD | refine below_set ?_ GE539.out | refine below_set ?_ GE553.out) | exact HB.out)) hb)))))); clear HO538 HO542 HO548 BK539 BK553 HB; obtain ⟨HO538, HO542, HO548, BK539, BK553, HB⟩ := n_; (try clear hb); (try clear hk); have hcz45_0 : w44.cell? ⟨gb539, 0, none⟩ = some (.string (⟨#[32, 97, 98]⟩ : ByteArray)) := (blk_cell BK539.out 0).trans rfl; have hcz45_1 : w44.cell? ⟨gb539, 1, none⟩ = some (.slice Ao31 y536.length co31) := (blk_cell BK539.out 1).trans rfl; have hcz45_2 : w44.cell? ⟨gb539, 2, none⟩ = some (.string (⟨#[99, 32]⟩ : ByteArray)) := (blk_cell BK539.out 2).trans rfl; have hcz45_3 : w44.cell? ⟨gb539, 3, none⟩ = some (.bool true) := (blk_cell BK539.out 3).trans rfl; have hcz45_4 : w44.cell? ⟨gb539, 4, none⟩ = some (.bool true) := (blk_cell BK539.out 4).trans rfl; have hfz45_0 := blk_frozen BK539.out 0; have hfz45_1 := blk_frozen BK539.out 1; have hfz45_2 := blk_frozen BK539.out 2; have hfz45_3 := blk_frozen BK539.out 3; have hfz45_4 := blk_frozen BK539.out 4) | (go_at_call 9; (with_reducible refine (pieces_Match.calls k (⟨#[32, 97, 98]⟩ : ByteArray) (⟨#[32, 97, 98]⟩ : ByteArray) _ _ y536 (⟨#[99, 32]⟩ : ByteArray) true true false _ (zEnv HE) ?side1 ?side2 A5.out).mono ?_); (case side1 => exact zC (Kd.R_reads' HO538.out).2.2); (case side2 => exact (Kd.R_reads' HO538.out).2.1); rintro e w46 ⟨rfl, hb⟩; (try clear A5); have n_ := zI (aM (Kd.R_below (zR HO538) hb)) (zI (aM (Kd.R_below (zR HO542) hb)) (zI (aM (Kd.R_below (zR HO548) hb)) (zI (aM (blk_below (g := gb539) (o := .cells #[.string (⟨#[32, 97, 98]⟩ : ByteArray), .slice Ao31 y536.length co31, .string (⟨#[99, 32]⟩ : ByteArray), .bool true, .bool true] 29 (0, 0)) (by (with_reducible repeat (first | refine blk_drewN ?_ _ | refine blk_drew ?_ | refine blk_alloc ?_ _)); exact BK539.out) hb)) (zI (aM (blk_below (g := gb553) (o := .cells #[.string t545, .slice Ao42 t546.length co42, .string t549, .bool t550, .bool t551] 29 (0, 0)) (by (with_reducible repeat (first | refine blk_drewN ?_ _ | refine blk_drew ?_ | refine blk_alloc ?_ _)); exact BK553.out) hb)) (aM (below_step (by repeat (first | (with_reducible first | exact HB.out | apply bA | apply bN | apply bD | refine below_set ?_ GE539.out | refine below_set ?_ GE553.out) | exact HB.out)) hb)))))); clear HO538 HO542 HO548 BK539 BK553 HB; obtain ⟨HO538, HO542, HO548, BK539, BK553, HB⟩ := n_; (try clear hb); (try clear hk); have hcz47_0 : w46.cell? ⟨gb539, 0, none⟩ = some (.string (⟨#[32, 97, 98]⟩ : ByteArray)) := (blk_cell BK539.out 0).trans rfl; have hcz47_1 : w46.cell? ⟨gb539, 1, none⟩ = some (.slice Ao31 y536.length co31) := (blk_cell BK539.out 1).trans rfl; have hcz47_2 : w46.cell? ⟨gb539, 2, none⟩ = some (.string (⟨#[99, 32]⟩ : ByteArray)) := (blk_cell BK539.out 2).trans rfl; have hcz47_3 : w46.cell? ⟨gb539, 3, none⟩ = some (.bool true) := (blk_cell BK539.out 3).trans rfl; have hcz47_4 : w46.cell? ⟨gb539, 4, none⟩ = some (.bool true) := (blk_cell BK539.out 4).trans rfl; have hfz47_0 := blk_frozen BK539.out 0; have hfz47_1 := blk_frozen BK539.out 1; have hfz47_2 := blk_frozen BK539.out 2; have hfz47_3 := blk_frozen BK539.out 3; have hfz47_4 := blk_frozen BK539.out 4) | (go_at_call 8; (with_reducible refine (pieces_Check.calls k (⟨#[32, 97, 98]⟩ : ByteArray) _ _ y536 (⟨#[99, 32]⟩ : ByteArray) true true t556 _ ?side1 ?side2 A28.out).mono ?_); (case side1 => exact zC (Kd.R_reads' HO538.out).2.2); (case side2 => exact (Kd.R_reads' HO538.out).2.1); rintro e w48 ⟨rfl, hb⟩; have n_ := zI (aM (Kd.R_below (zR HO538) hb)) (zI (aM (Kd.R_below (zR HO542) hb)) (zI (aM (Kd.R_below (zR HO548) hb)) (zI (aM (blk_below (g := gb539) (o := .cells #[.string (⟨#[32, 97, 98]⟩ : ByteArray), .slice Ao31 y536.length co31, .string (⟨#[99, 32]⟩ : ByteArray), .bool true, .bool true] 29 (0, 0)) (by (with_reducible repeat (first | refine blk_drewN ?_ _ | refine blk_drew ?_ | refine blk_alloc ?_ _)); exact BK539.out) hb)) (zI (aM (blk_below (g := gb553) (o := .cells #[.string t545, .slice Ao42 t546.length co42, .string t549, .bool t550, .bool t551] 29 (0, 0)) (by (with_reducible repeat (first | refine blk_drewN ?_ _ | refine blk_drew ?_ | refine blk_alloc ?_ _)); exact BK553.out) hb)) (aM (below_step (by repeat (first | (with_reducible first | exact HB.out | apply bA | apply bN | apply bD | refine below_set ?_ GE539.out | refine below_set ?_ GE553.out) | exact HB.out)) hb)))))); clear HO538 HO542 HO548 BK539 BK553 HB; obtain ⟨HO538, HO542, HO548, BK539, BK553, HB⟩ := n_; (try clear hb); (try clear hk)))
      go_ret
      exact ⟨zE, by repeat (first | (with_reducible first | exact HB.out | apply bA | apply bN | apply bD | refine below_set ?_ GE539.out | refine below_set ?_ GE553.out) | exact HB.out)⟩
     ·rw [if_neg c27] at H
      exact absurd ((sI H).trans hT.out) (by decide)
    ·rw [if_neg c26] at H
     exact absurd ((sI H).trans hT.out) (by decide)
   ·replace c25 := Bool.eq_false_iff.mpr c25
    subst c25
    rw [if_neg (show ¬ (false = true) by decide)] at H
    exact absurd ((sI H).trans hT.out) (by decide)
 ·replace c4 := Bool.eq_false_iff.mpr c4
  subst c4
  rw [if_neg (show ¬ (false = true) by decide)] at H
  exact absurd ((sI H).trans hT.out) (by decide)
/-! ### toponymlaw13_order: function 7, by hand (toponymlaw13.order.tpl) -/
/-- A number of a text of n bytes. -/
def ordN (n x : Int) : Int := ((x.tmod (n + 1)) + n + 1).tmod (n + 1)
/-- Four numbers, rising. -/
def ord2 (a b : Int) : Int × Int := if a > b then (b, a) else (a, b)
def ord3 (p q x : Int) : Int × Int × Int := if q > x then (if p > x then (x, p, q) else (p, x, q)) else (p, q, x)
def ord4 (p q r x : Int) : Int × Int × Int × Int := if r > x then (if q > x then (if p > x then (x, p, q, r) else (p, x, q, r)) else (p, q, x, r)) else (p, q, r, x)
def ordF (a b c d : Int) : Int × Int × Int × Int := ord4 (ord3 (ord2 a b).1 (ord2 a b).2 c).1 (ord3 (ord2 a b).1 (ord2 a b).2 c).2.1 (ord3 (ord2 a b).1 (ord2 a b).2 c).2.2 d
theorem setRow4 {w : World} {g : Nat} {t : TypeId} {a b c d : Value} (h : w.heap[g]? = some (.cells #[a, b, c, d] t (0, 0))) (a' b' c' d' : Value) :
    ((((w.setCell ⟨g, 0, none⟩ a').setCell ⟨g, 1, none⟩ b').setCell ⟨g, 2, none⟩ c').setCell ⟨g, 3, none⟩ d').heap[g]? = some (.cells #[a', b', c', d'] t (0, 0)) :=
  blk_set (blk_set (blk_set (blk_set h 0 a') 1 b') 2 c') 3 d'
theorem farRow4 {w : World} {g g' : Nat} {o : Obj} (hn : g' ≠ g) (h : w.heap[g']? = some o) (a' b' c' d' : Value) :
    ((((w.setCell ⟨g, 0, none⟩ a').setCell ⟨g, 1, none⟩ b').setCell ⟨g, 2, none⟩ c').setCell ⟨g, 3, none⟩ d').heap[g']? = some o :=
  (Below.heap_setCell _ ⟨g, 3, none⟩ d' g' hn).trans ((Below.heap_setCell _ ⟨g, 2, none⟩ c' g' hn).trans ((Below.heap_setCell _ ⟨g, 1, none⟩ b' g' hn).trans ((Below.heap_setCell _ ⟨g, 0, none⟩ a' g' hn).trans h)))
theorem belowRow4 {w W : World} {g : Nat} (h : Below w.heap.size w W) (hg : w.heap.size ≤ g) (a' b' c' d' : Value) :
    Below w.heap.size w ((((W.setCell ⟨g, 0, none⟩ a').setCell ⟨g, 1, none⟩ b').setCell ⟨g, 2, none⟩ c').setCell ⟨g, 3, none⟩ d') :=
  below_set (below_set (below_set (below_set h hg) hg) hg) hg
theorem ordN_bounds {n x : Int} (h : 0 ≤ n) : 0 ≤ ordN n x ∧ ordN n x ≤ n := by
  unfold ordN
  have h1 := Int.lt_tmod_of_pos x (b := n + 1) (by omega)
  have h2 : 0 ≤ x.tmod (n + 1) + n + 1 := by omega
  have h3 := Int.tmod_nonneg (n + 1) h2
  have h4 := Int.tmod_lt_of_pos (x.tmod (n + 1) + n + 1) (b := n + 1) (by omega)
  omega
theorem ordN_eq {n x : Int} (h0 : 0 ≤ n) (h1 : n ≤ 5000) : (wrap64 (wrap64 (x.tmod (n + 1) + n) + 1)).tmod (n + 1) = ordN n x := by
  have g1 := Int.lt_tmod_of_pos x (b := n + 1) (by omega)
  have g2 := Int.tmod_lt_of_pos x (b := n + 1) (by omega)
  have w1 : wrap64 (x.tmod (n + 1) + n) = x.tmod (n + 1) + n := by unfold wrap64; omega
  rw [w1]
  have w2 : wrap64 (x.tmod (n + 1) + n + 1) = x.tmod (n + 1) + n + 1 := by unfold wrap64; omega
  rw [w2]
  rfl
section
variable {P : Program} {ops : Array Oper} {Q : Exit → Act → World → Prop} {md : Region.Mode} {S : World → Prop} {ds : List Nat}
theorem qP (i N : Nat) {oi : Oper} {v : Value} {fuel : Nat} {l : Array Bool} {a : Act} {w : World} {a' : Act} (h : wpAnyLast P md ops Q S ds fuel (l.setIfInBounds i true) a' w) (hi : ops[i]? = some oi := by rfl) (hN : oi.dst = some N := by rfl) (hc : anyB md ops l (l.setIfInBounds i true) i = true := by kernel_rfl)
    (hQ : ∀ c a w, Q (.panic c) (a.put oi.dst v) w → Q (.panic c) a w := by exact fun _ _ _ h => h) (hw : Region.wanted oi (yielded ops a.tmps) = true := by rfl) (hy : ∀ w', (execOp a.eval oi).run P w' = .ok (.value v) w' := by intro w'; go_simp; with_reducible rfl) (ha : a.put (some N) v = a' := by simp only [Act.put, List.setIfInBounds_toArray, List.set_cons_zero, List.set_cons_succ, i64_w, i32_w]; rfl)
    : wpAnyLast P md ops Q S ds (fuel + 1) l a w := pure_ _ hi hN hc hQ (Or.inl ⟨hw, hy⟩) ha h
theorem qN (i N : Nat) {oi : Oper} {fuel : Nat} {l : Array Bool} {a : Act} {w : World} {a' : Act} (h : wpAnyLast P md ops Q S ds fuel (l.setIfInBounds i true) a' w) (hi : ops[i]? = some oi := by rfl) (hN : oi.dst = some N := by rfl) (hc : anyB md ops l (l.setIfInBounds i true) i = true := by kernel_rfl)
    (hQ : ∀ c a w, Q (.panic c) (a.put oi.dst undef) w → Q (.panic c) a w := by exact fun _ _ _ h => h) (hw : Region.wanted oi (yielded ops a.tmps) = false := by rfl) (ha : a.put (some N) undef = a' := by simp only [Act.put, List.setIfInBounds_toArray, List.set_cons_zero, List.set_cons_succ, i64_w, i32_w]; rfl)
    : wpAnyLast P md ops Q S ds (fuel + 1) l a w := pure_ _ hi hN hc hQ (Or.inr ⟨hw, rfl⟩) ha h
theorem qT (i N : Nat) (v : Value) {oi : Oper} {fuel : Nat} {l : Array Bool} {a : Act} {w : World} {a' : Act} (hS : S w) (hy : ∀ w', S w' → (execOp a.eval oi).run P w' = .ok (.value v) w') (h : wpAnyLast P md ops Q S ds fuel (l.setIfInBounds i true) a' w) (hi : ops[i]? = some oi := by rfl) (hN : oi.dst = some N := by rfl) (hc : takeB md ops ds l (l.setIfInBounds i true) i = true := by kernel_rfl)
    (hQ : ∀ c a w, Q (.panic c) (a.put oi.dst v) w → Q (.panic c) a w := by exact fun _ _ _ h => h) (hw : Region.wanted oi (yielded ops a.tmps) = true := by rfl) (ha : a.put (some N) v = a' := by simp only [Act.put, List.setIfInBounds_toArray, List.set_cons_zero, List.set_cons_succ, i64_w, i32_w]; rfl)
    : wpAnyLast P md ops Q S ds (fuel + 1) l a w := take_ _ hi hN hc hQ (Or.inl ⟨hw, hy⟩) hS ha h
theorem qS (i : Nat) {oi : Oper} {fuel : Nat} {l : Array Bool} {a : Act} {w : World}
    (h : ∀ K : Act → World → Prop, Shut (∀ a' w', wpAnyLast P md ops Q S ds fuel (l.setIfInBounds i true) a' w' → K a' w') → if Region.wanted oi (yielded ops a.tmps) = true then Oper.wp P oi a w K Q else K (a.put none undef) w) (hi : ops[i]? = some oi := by rfl) (hN : oi.dst = none := by rfl) (hc : readyB md ops l (l.setIfInBounds i true) i = true := by kernel_rfl) (hd : i ∈ ds := by decide) :
    wpAnyLast P md ops Q S ds (fuel + 1) l a w := last_ _ hi hN hc hd h
end
theorem zr {p : Prop} (h : p := by rfl) : p := h
/-- What is known of the world, and the four numbers' names, anew. -/
theorem settle2 {P : Program} {Q : Exit → Act → World → Prop} {c : Code} {a : Act} {w W : World} {g4 g5 : Nat} {t : TypeId} {y0 y1 y2 y3 : Int} {ob : Obj} {pL pB pM : Prop}
    (H : Aside0 pL → Aside0 pB → Aside0 pM → W.heap[g5]? = some (.cells #[.int .i64 y0, .int .i64 y1, .int .i64 y2, .int .i64 y3] t (0, 0)) ∧ Below w.heap.size w W ∧ W.heap[g4]? = some ob)
    (h : ∀ (W' : World) (z0 z1 z2 z3 : Int), z0 = y0 → z1 = y1 → z2 = y2 → z3 = y3 → Aside0 (W'.heap[g5]? = some (.cells #[.int .i64 z0, .int .i64 z1, .int .i64 z2, .int .i64 z3] t (0, 0))) → Aside0 (Below w.heap.size w W') → Aside0 (W'.heap[g4]? = some ob) → c.wp P Q a W') : Aside0 pL → Aside0 pB → Aside0 pM → c.wp P Q a W :=
  fun L B M => h W y0 y1 y2 y3 rfl rfl rfl rfl (Aside0.mk (H L B M).1) (Aside0.mk (H L B M).2.1) (Aside0.mk (H L B M).2.2)
def toponymlaw13_order.f (a0 : Int) (a1_0 : Int) (a1_1 : Int) (a1_2 : Int) (a1_3 : Int) (a1_4 : Bool) (a1_5 : Bool) (a1_6 : Bool) : Option (Int × Int × Int × Int) :=
  if 0 ≤ a0 ∧ a0 ≤ 5000 then some (ordF (ordN a0 a1_0) (ordN a0 a1_1) (ordN a0 a1_2) (ordN a0 a1_3)) else none
set_option maxHeartbeats 8000000 in
set_option maxRecDepth 100000 in
theorem toponymlaw13_order.calls (a0 : Int) (a1_0 : Int) (a1_1 : Int) (a1_2 : Int) (a1_3 : Int) (a1_4 : Bool) (a1_5 : Bool) (a1_6 : Bool) (r_0 : Int) (r_1 : Int) (r_2 : Int) (r_3 : Int) (w : World) (h : toponymlaw13_order.f a0 a1_0 a1_1 a1_2 a1_3 a1_4 a1_5 a1_6 = some (r_0, r_1, r_2, r_3)) :
    Calls Try.prog 7 #[.int .i64 a0, .agg #[.int .i64 a1_0, .int .i64 a1_1, .int .i64 a1_2, .int .i64 a1_3, .bool a1_4, .bool a1_5, .bool a1_6]] w fun e w' => e = .returned (.agg #[.int .i64 r_0, .int .i64 r_1, .int .i64 r_2, .int .i64 r_3]) ∧ Below w.heap.size w w' := by
  have hu23 := Try.underlying23
  have hu25 := Try.underlying25
  unfold toponymlaw13_order.f at h
  by_cases c0 : 0 ≤ a0 ∧ a0 ≤ 5000
  rotate_left
  · rw [if_neg c0] at h; exact absurd h (by simp)
  rw [if_pos c0] at h
  have HF := Aside0.mk (Option.some.inj h)
  have c0' := Aside0.mk c0
  have n0 : decide (a0 + 1 = 0) = false := decide_eq_false (by omega)
  have n1 : (a0 + 1 == 0) = false := by rw [beq_eq_false_iff_ne]; omega
  have n2 : wrap64 (a0 + 1) = a0 + 1 := by unfold wrap64; omega
  have n3 : IntKind.i64.wrap (a0 + 1) = a0 + 1 := (i64_w _).trans n2
  have n4 : (a0 + 1 = 0) = False := eq_false (by omega)
  have k0 : wrap64 0 = 0 := by unfold wrap64; omega
  have k1 : wrap64 1 = 1 := by unfold wrap64; omega
  have k2 : wrap64 2 = 2 := by unfold wrap64; omega
  have k3 : wrap64 3 = 3 := by unfold wrap64; omega
  clear h c0
  go_enter Try.func7, Try.ntmps7
  go_wp2_with (first
    | ((with_reducible refine gate_dst (N := 3) rfl ?_); refine box_event ?hg (N := 3) ?hd (cs := #[.int .i64 a1_0, .int .i64 a1_1, .int .i64 a1_2, .int .i64 a1_3, .bool a1_4, .bool a1_5, .bool a1_6]) (t := 23) ?hr ?_; (case hd => rfl); (case hg => rfl); (case hr => first | (go_simp; done) | (go_simp; rfl)); intro g3 hg3 w2 hbox hb; have HB2 := Aside0.mk hb; have B3 := Aside0.mk hbox; have G3 := Aside0.mk hg3; clear hb hbox hg3)
    | ((with_reducible refine gate_dst (N := 4) rfl ?_); refine box_event ?hg (N := 4) ?hd (cs := #[.int .i64 0, .int .i64 0, .int .i64 0, .int .i64 0]) (t := 25) ?hr ?_; (case hd => rfl); (case hg => rfl); (case hr => first | (go_simp; done) | (go_simp; rfl)); intro g4 hg4 w3 hbox hb; have HB3 := Aside0.mk (below_step HB2.out hb); have B4 := Aside0.mk hbox; have Z4 := Aside0.mk (show w.heap.size ≤ g4 from by rw [hg4]; exact HB2.out.size); have B3' := Aside0.mk ((hb.block g3 (blk_lt B3.out)).trans B3.out); have c30 := blk_cell B3'.out 0; have c31 := blk_cell B3'.out 1; have c32 := blk_cell B3'.out 2; have c33 := blk_cell B3'.out 3; simp only [List.getElem?_toArray, List.getElem?_cons_zero, List.getElem?_cons_succ] at c30 c31 c32 c33; clear hb hbox hg4 HB2 B3)
    | ((with_reducible refine gate_dst (N := 5) rfl ?_); refine box_event ?hg (N := 5) ?hd (cs := #[.int .i64 0, .int .i64 0, .int .i64 0, .int .i64 0]) (t := 25) ?hr ?_; (case hd => rfl); (case hg => rfl); (case hr => first | (go_simp; done) | (go_simp; rfl)); intro g5 hg5 w4 hbox hb; have HB4 := Aside0.mk (below_step HB3.out hb); have B5 := Aside0.mk hbox; have L45 := Aside0.mk (show g4 < g5 from by rw [hg5]; exact blk_lt B4.out); have B4' := Aside0.mk ((hb.block g4 (blk_lt B4.out)).trans B4.out); have z50 := blk_cell B5.out 0; have z51 := blk_cell B5.out 1; have z52 := blk_cell B5.out 2; have z53 := blk_cell B5.out 3; have y50 := blk_frozen B5.out 0; have y51 := blk_frozen B5.out 1; have y52 := blk_frozen B5.out 2; have y53 := blk_frozen B5.out 3; simp only [List.getElem?_toArray, List.getElem?_cons_zero, List.getElem?_cons_succ] at z50 z51 z52 z53; clear hb hbox hg5 c30 c31 c32 c33 HB3 B3' B4))
  have L := Aside0.mk (setRow4 B5.out (.int .i64 a1_0) (.int .i64 a1_1) (.int .i64 a1_2) (.int .i64 a1_3))
  have HB := Aside0.mk (belowRow4 HB4.out (Nat.le_trans Z4.out (Nat.le_of_lt L45.out)) (.int .i64 a1_0) (.int .i64 a1_1) (.int .i64 a1_2) (.int .i64 a1_3))
  have M := Aside0.mk (farRow4 (Nat.ne_of_lt L45.out) B4'.out (.int .i64 a1_0) (.int .i64 a1_1) (.int .i64 a1_2) (.int .i64 a1_3))
  have Z5 := Aside0.mk (Nat.le_trans Z4.out (Nat.le_of_lt L45.out))
  generalize ((((w4.setCell ⟨g5, 0, none⟩ (.int .i64 a1_0)).setCell ⟨g5, 1, none⟩ (.int .i64 a1_1)).setCell ⟨g5, 2, none⟩ (.int .i64 a1_2)).setCell ⟨g5, 3, none⟩ (.int .i64 a1_3)) = w5 at L HB M ⊢
  clear z50 z51 z52 z53 y50 y51 y52 y53 HB4 B5 B4'
  refine wp_loop_rounds 5 ?_
  obtain ⟨W, z0, z1, z2, z3, e0, e1, e2, e3, eW⟩ : ∃ W z0 z1 z2 z3, z0 = a1_0 ∧ z1 = a1_1 ∧ z2 = a1_2 ∧ z3 = a1_3 ∧ W = w5 := ⟨_, _, _, _, _, rfl, rfl, rfl, rfl, rfl⟩
  subst e0 e1 e2 e3 eW
  all_goals rw [rounds_succ]
  all_goals (
    have c5 := blk_cell L.out 0
    have f5 := blk_frozen L.out 0
    simp only [List.getElem?_toArray, List.getElem?_cons_zero, List.getElem?_cons_succ] at c5
    go_wp2
    rw [ordN_eq c0'.out.1 c0'.out.2]
    clear c5 f5
    generalize ordN a0 z0 = x at HF ⊢
    revert M
    revert HB
    revert L
    refine settle2 (g4 := g4) (g5 := g5) (fun L HB M => ⟨blk_set L.out 0 (.int .i64 x), below_set HB.out Z5.out, (Below.heap_setCell W ⟨g5, 0, none⟩ _ g4 (Nat.ne_of_lt L45.out)).trans M.out⟩) (fun W z0 z1 z2 z3 e0 e1 e2 e3 L HB M => ?_)
    subst e0 e1 e2 e3
    refine wp_loop_rounds 1 ?_
    rw [rounds_succ]
    go_wp2
    refine start_ (n := 12) (S := fun w' => w'.heap[g5]? = some (.cells #[.int .i64 z0, .int .i64 z1, .int .i64 z2, .int .i64 z3] 25 (0, 0))) (ds := []) #[false, false, false, false, false, false, false, false, false, false, false, false] (by kernel_rfl) rfl rfl (by exact L.out) (fun hHeld => ?_)
    refine qP 0 36 ?_
    refine qP 1 37 ?_
    refine qP 2 38 ?_
    refine qN 3 39 ?_
    refine qN 4 40 ?_
    refine qN 5 41 ?_
    refine qN 6 42 ?_
    refine qN 7 43 ?_
    refine qN 8 44 ?_
    refine qN 9 45 ?_
    refine qN 10 46 ?_
    refine qP 11 47 ?_
    refine done_ (by kernel_rfl) ?_
    go_wp2
    )
  all_goals rw [rounds_succ]
  all_goals (
    revert M
    revert HB
    revert L
    refine settle2 (g4 := g4) (g5 := g5) (fun L HB M => ⟨L.out, below_drew1 HB.out, M.out⟩) (fun W z0 z1 z2 z3 e0 e1 e2 e3 L HB M => ?_)
    subst e0 e1 e2 e3
    have c5 := blk_cell L.out 1
    have f5 := blk_frozen L.out 1
    simp only [List.getElem?_toArray, List.getElem?_cons_zero, List.getElem?_cons_succ] at c5
    go_wp2
    rw [ordN_eq c0'.out.1 c0'.out.2]
    clear c5 f5
    generalize ordN a0 z1 = x at HF ⊢
    revert M
    revert HB
    revert L
    refine settle2 (g4 := g4) (g5 := g5) (fun L HB M => ⟨blk_set L.out 1 (.int .i64 x), below_set HB.out Z5.out, (Below.heap_setCell W ⟨g5, 1, none⟩ _ g4 (Nat.ne_of_lt L45.out)).trans M.out⟩) (fun W z0 z1 z2 z3 e0 e1 e2 e3 L HB M => ?_)
    subst e0 e1 e2 e3
    refine wp_loop_rounds 2 ?_
    rw [rounds_succ]
    go_wp2
    by_cases hq : z0 > z1
    all_goals first
    | (have hd : decide (z0 > z1) = true := decide_eq_true hq
       have hq1_1 := Aside0.mk hq
       clear hq
       refine start_ (n := 12) (S := fun w' => w'.heap[g5]? = some (.cells #[.int .i64 z0, .int .i64 z1, .int .i64 z2, .int .i64 z3] 25 (0, 0))) (ds := []) #[false, false, false, false, false, false, false, false, false, false, false, false] (by kernel_rfl) rfl rfl (by exact L.out) (fun hHeld => ?_)
       refine qP 0 36 ?_
       refine qP 1 37 ?_
       refine qP 2 38 ?_
       refine qP 3 39 ?_
       refine qP 4 40 ?_
       refine qP 5 41 ?_
       refine qT 6 42 (.int .i64 z0) hHeld (fun w' hs => ?_) ?_
       ·have s1 := blk_cell hs 0
        simp only [List.getElem?_toArray, List.getElem?_cons_zero, List.getElem?_cons_succ] at s1
        clear hs
        go_simp
        try (with_reducible rfl)
       refine qP 7 43 ?_
       refine qP 8 44 ?_
       refine qT 9 45 (.int .i64 z1) hHeld (fun w' hs => ?_) ?_
       ·have s1 := blk_cell hs 1
        simp only [List.getElem?_toArray, List.getElem?_cons_zero, List.getElem?_cons_succ] at s1
        clear hs
        go_simp
        try (with_reducible rfl)
       refine qP 10 46 ?_
       refine qP 11 47 ?_
       refine done_ (by kernel_rfl) ?_
       go_wp2
       revert M
       revert HB
       revert L
       refine settle2 (g4 := g4) (g5 := g5) (fun L HB M => ⟨L.out, below_drew1 HB.out, M.out⟩) (fun W z0 z1 z2 z3 e0 e1 e2 e3 L HB M => ?_)
       subst e0 e1 e2 e3
       clear hd
       refine start_ (n := 14) (S := fun w' => w'.heap[g5]? = some (.cells #[.int .i64 z0, .int .i64 z1, .int .i64 z2, .int .i64 z3] 25 (0, 0))) (ds := [11, 13]) #[false, false, false, false, false, false, false, false, false, false, false, false, false, false] (by kernel_rfl) rfl rfl (by exact L.out) (fun hHeld => ?_)
       refine qP 0 50 ?_
       refine qP 1 51 ?_
       refine qP 2 52 ?_
       refine qP 3 53 ?_
       refine qP 4 54 ?_
       refine qT 5 55 (.int .i64 z1) hHeld (fun w' hs => ?_) ?_
       ·have s1 := blk_cell hs 1
        simp only [List.getElem?_toArray, List.getElem?_cons_zero, List.getElem?_cons_succ] at s1
        clear hs
        go_simp
        try (with_reducible rfl)
       refine qP 6 56 ?_
       refine qP 7 57 ?_
       refine qP 8 58 ?_
       refine qT 9 59 (.int .i64 z0) hHeld (fun w' hs => ?_) ?_
       ·have s1 := blk_cell hs 0
        simp only [List.getElem?_toArray, List.getElem?_cons_zero, List.getElem?_cons_succ] at s1
        clear hs
        go_simp
        try (with_reducible rfl)
       refine qP 10 60 ?_
       have z8 := blk_cell (w := W.drew) L.out 0
       have y8 := blk_frozen (w := W.drew) L.out 0
       simp only [List.getElem?_toArray, List.getElem?_cons_zero, List.getElem?_cons_succ] at z8
       refine qS 11 (fun K hK => ?_)
       refine skip_ (w1 := ?_) zr zr ?_ ?_
       rotate_left
       ·go_simp
        rfl
       refine hK.out _ _ ?_
       clear hK K
       clear z8 y8
       have z8 := blk_cell L.out 1
       have y8 := blk_frozen L.out 1
       simp only [List.getElem?_toArray, List.getElem?_cons_zero, List.getElem?_cons_succ] at z8
       refine qP 12 61 ?_
       refine qS 13 (fun K hK => ?_)
       refine skip_ (w1 := ?_) zr zr ?_ ?_
       rotate_left
       ·go_simp
        rfl
       refine hK.out _ _ ?_
       clear hK K
       clear z8 y8
       refine done_ (by kernel_rfl) ?_
       go_wp2
       rw [rounds_succ]
       revert M
       revert HB
       revert L
       refine settle2 (g4 := g4) (g5 := g5) (fun L HB M => ⟨blk_set (blk_set (w := W.drew) L.out 0 (.int .i64 z1)) 1 (.int .i64 z0), below_set (below_set (below_drew1 HB.out) Z5.out) Z5.out, (Below.heap_setCell _ ⟨g5, 1, none⟩ _ g4 (Nat.ne_of_lt L45.out)).trans ((Below.heap_setCell W.drew ⟨g5, 0, none⟩ _ g4 (Nat.ne_of_lt L45.out)).trans M.out)⟩) (fun W z0 z1 z2 z3 e0 e1 e2 e3 L HB M => ?_)
       subst e0 e1 e2 e3
       rw [← rounds_succ]
       rw [rounds_succ]
       go_wp2
       refine start_ (n := 12) (S := fun w' => w'.heap[g5]? = some (.cells #[.int .i64 z0, .int .i64 z1, .int .i64 z2, .int .i64 z3] 25 (0, 0))) (ds := []) #[false, false, false, false, false, false, false, false, false, false, false, false] (by kernel_rfl) rfl rfl (by exact L.out) (fun hHeld => ?_)
       refine qP 0 36 ?_
       refine qP 1 37 ?_
       refine qP 2 38 ?_
       refine qN 3 39 ?_
       refine qN 4 40 ?_
       refine qN 5 41 ?_
       refine qN 6 42 ?_
       refine qN 7 43 ?_
       refine qN 8 44 ?_
       refine qN 9 45 ?_
       refine qN 10 46 ?_
       refine qP 11 47 ?_
       refine done_ (by kernel_rfl) ?_
       go_wp2)
    | (have hd : decide (z0 > z1) = false := decide_eq_false hq
       have hq1_1 := Aside0.mk hq
       clear hq
       refine start_ (n := 12) (S := fun w' => w'.heap[g5]? = some (.cells #[.int .i64 z0, .int .i64 z1, .int .i64 z2, .int .i64 z3] 25 (0, 0))) (ds := []) #[false, false, false, false, false, false, false, false, false, false, false, false] (by kernel_rfl) rfl rfl (by exact L.out) (fun hHeld => ?_)
       refine qP 0 36 ?_
       refine qP 1 37 ?_
       refine qP 2 38 ?_
       refine qP 3 39 ?_
       refine qP 4 40 ?_
       refine qP 5 41 ?_
       refine qT 6 42 (.int .i64 z0) hHeld (fun w' hs => ?_) ?_
       ·have s1 := blk_cell hs 0
        simp only [List.getElem?_toArray, List.getElem?_cons_zero, List.getElem?_cons_succ] at s1
        clear hs
        go_simp
        try (with_reducible rfl)
       refine qP 7 43 ?_
       refine qP 8 44 ?_
       refine qT 9 45 (.int .i64 z1) hHeld (fun w' hs => ?_) ?_
       ·have s1 := blk_cell hs 1
        simp only [List.getElem?_toArray, List.getElem?_cons_zero, List.getElem?_cons_succ] at s1
        clear hs
        go_simp
        try (with_reducible rfl)
       refine qP 10 46 ?_
       refine qP 11 47 ?_
       refine done_ (by kernel_rfl) ?_
       go_wp2
       clear hd)
    )
  all_goals rw [rounds_succ]
  all_goals (
    revert M
    revert HB
    revert L
    refine settle2 (g4 := g4) (g5 := g5) (fun L HB M => ⟨L.out, below_drew1 HB.out, M.out⟩) (fun W z0 z1 z2 z3 e0 e1 e2 e3 L HB M => ?_)
    subst e0 e1 e2 e3
    have c5 := blk_cell L.out 2
    have f5 := blk_frozen L.out 2
    simp only [List.getElem?_toArray, List.getElem?_cons_zero, List.getElem?_cons_succ] at c5
    go_wp2
    rw [ordN_eq c0'.out.1 c0'.out.2]
    clear c5 f5
    generalize ordN a0 z2 = x at HF ⊢
    revert M
    revert HB
    revert L
    refine settle2 (g4 := g4) (g5 := g5) (fun L HB M => ⟨blk_set L.out 2 (.int .i64 x), below_set HB.out Z5.out, (Below.heap_setCell W ⟨g5, 2, none⟩ _ g4 (Nat.ne_of_lt L45.out)).trans M.out⟩) (fun W z0 z1 z2 z3 e0 e1 e2 e3 L HB M => ?_)
    subst e0 e1 e2 e3
    refine wp_loop_rounds 3 ?_
    rw [rounds_succ]
    go_wp2
    by_cases hq : z1 > z2
    all_goals first
    | (have hd : decide (z1 > z2) = true := decide_eq_true hq
       have hq2_2 := Aside0.mk hq
       clear hq
       refine start_ (n := 12) (S := fun w' => w'.heap[g5]? = some (.cells #[.int .i64 z0, .int .i64 z1, .int .i64 z2, .int .i64 z3] 25 (0, 0))) (ds := []) #[false, false, false, false, false, false, false, false, false, false, false, false] (by kernel_rfl) rfl rfl (by exact L.out) (fun hHeld => ?_)
       refine qP 0 36 ?_
       refine qP 1 37 ?_
       refine qP 2 38 ?_
       refine qP 3 39 ?_
       refine qP 4 40 ?_
       refine qP 5 41 ?_
       refine qT 6 42 (.int .i64 z1) hHeld (fun w' hs => ?_) ?_
       ·have s1 := blk_cell hs 1
        simp only [List.getElem?_toArray, List.getElem?_cons_zero, List.getElem?_cons_succ] at s1
        clear hs
        go_simp
        try (with_reducible rfl)
       refine qP 7 43 ?_
       refine qP 8 44 ?_
       refine qT 9 45 (.int .i64 z2) hHeld (fun w' hs => ?_) ?_
       ·have s1 := blk_cell hs 2
        simp only [List.getElem?_toArray, List.getElem?_cons_zero, List.getElem?_cons_succ] at s1
        clear hs
        go_simp
        try (with_reducible rfl)
       refine qP 10 46 ?_
       refine qP 11 47 ?_
       refine done_ (by kernel_rfl) ?_
       go_wp2
       revert M
       revert HB
       revert L
       refine settle2 (g4 := g4) (g5 := g5) (fun L HB M => ⟨L.out, below_drew1 HB.out, M.out⟩) (fun W z0 z1 z2 z3 e0 e1 e2 e3 L HB M => ?_)
       subst e0 e1 e2 e3
       clear hd
       refine start_ (n := 14) (S := fun w' => w'.heap[g5]? = some (.cells #[.int .i64 z0, .int .i64 z1, .int .i64 z2, .int .i64 z3] 25 (0, 0))) (ds := [11, 13]) #[false, false, false, false, false, false, false, false, false, false, false, false, false, false] (by kernel_rfl) rfl rfl (by exact L.out) (fun hHeld => ?_)
       refine qP 0 50 ?_
       refine qP 1 51 ?_
       refine qP 2 52 ?_
       refine qP 3 53 ?_
       refine qP 4 54 ?_
       refine qT 5 55 (.int .i64 z2) hHeld (fun w' hs => ?_) ?_
       ·have s1 := blk_cell hs 2
        simp only [List.getElem?_toArray, List.getElem?_cons_zero, List.getElem?_cons_succ] at s1
        clear hs
        go_simp
        try (with_reducible rfl)
       refine qP 6 56 ?_
       refine qP 7 57 ?_
       refine qP 8 58 ?_
       refine qT 9 59 (.int .i64 z1) hHeld (fun w' hs => ?_) ?_
       ·have s1 := blk_cell hs 1
        simp only [List.getElem?_toArray, List.getElem?_cons_zero, List.getElem?_cons_succ] at s1
        clear hs
        go_simp
        try (with_reducible rfl)
       refine qP 10 60 ?_
       have z8 := blk_cell (w := W.drew) L.out 1
       have y8 := blk_frozen (w := W.drew) L.out 1
       simp only [List.getElem?_toArray, List.getElem?_cons_zero, List.getElem?_cons_succ] at z8
       refine qS 11 (fun K hK => ?_)
       refine skip_ (w1 := ?_) zr zr ?_ ?_
       rotate_left
       ·go_simp
        rfl
       refine hK.out _ _ ?_
       clear hK K
       clear z8 y8
       have z8 := blk_cell L.out 2
       have y8 := blk_frozen L.out 2
       simp only [List.getElem?_toArray, List.getElem?_cons_zero, List.getElem?_cons_succ] at z8
       refine qP 12 61 ?_
       refine qS 13 (fun K hK => ?_)
       refine skip_ (w1 := ?_) zr zr ?_ ?_
       rotate_left
       ·go_simp
        rfl
       refine hK.out _ _ ?_
       clear hK K
       clear z8 y8
       refine done_ (by kernel_rfl) ?_
       go_wp2
       rw [rounds_succ]
       revert M
       revert HB
       revert L
       refine settle2 (g4 := g4) (g5 := g5) (fun L HB M => ⟨blk_set (blk_set (w := W.drew) L.out 1 (.int .i64 z2)) 2 (.int .i64 z1), below_set (below_set (below_drew1 HB.out) Z5.out) Z5.out, (Below.heap_setCell _ ⟨g5, 2, none⟩ _ g4 (Nat.ne_of_lt L45.out)).trans ((Below.heap_setCell W.drew ⟨g5, 1, none⟩ _ g4 (Nat.ne_of_lt L45.out)).trans M.out)⟩) (fun W z0 z1 z2 z3 e0 e1 e2 e3 L HB M => ?_)
       subst e0 e1 e2 e3
       rw [← rounds_succ]
       rw [rounds_succ]
       go_wp2
       by_cases hq : z0 > z1
       all_goals first
       | (have hd : decide (z0 > z1) = true := decide_eq_true hq
          have hq2_1 := Aside0.mk hq
          clear hq
          refine start_ (n := 12) (S := fun w' => w'.heap[g5]? = some (.cells #[.int .i64 z0, .int .i64 z1, .int .i64 z2, .int .i64 z3] 25 (0, 0))) (ds := []) #[false, false, false, false, false, false, false, false, false, false, false, false] (by kernel_rfl) rfl rfl (by exact L.out) (fun hHeld => ?_)
          refine qP 0 36 ?_
          refine qP 1 37 ?_
          refine qP 2 38 ?_
          refine qP 3 39 ?_
          refine qP 4 40 ?_
          refine qP 5 41 ?_
          refine qT 6 42 (.int .i64 z0) hHeld (fun w' hs => ?_) ?_
          ·have s1 := blk_cell hs 0
           simp only [List.getElem?_toArray, List.getElem?_cons_zero, List.getElem?_cons_succ] at s1
           clear hs
           go_simp
           try (with_reducible rfl)
          refine qP 7 43 ?_
          refine qP 8 44 ?_
          refine qT 9 45 (.int .i64 z1) hHeld (fun w' hs => ?_) ?_
          ·have s1 := blk_cell hs 1
           simp only [List.getElem?_toArray, List.getElem?_cons_zero, List.getElem?_cons_succ] at s1
           clear hs
           go_simp
           try (with_reducible rfl)
          refine qP 10 46 ?_
          refine qP 11 47 ?_
          refine done_ (by kernel_rfl) ?_
          go_wp2
          revert M
          revert HB
          revert L
          refine settle2 (g4 := g4) (g5 := g5) (fun L HB M => ⟨L.out, below_drew1 HB.out, M.out⟩) (fun W z0 z1 z2 z3 e0 e1 e2 e3 L HB M => ?_)
          subst e0 e1 e2 e3
          clear hd
          refine start_ (n := 14) (S := fun w' => w'.heap[g5]? = some (.cells #[.int .i64 z0, .int .i64 z1, .int .i64 z2, .int .i64 z3] 25 (0, 0))) (ds := [11, 13]) #[false, false, false, false, false, false, false, false, false, false, false, false, false, false] (by kernel_rfl) rfl rfl (by exact L.out) (fun hHeld => ?_)
          refine qP 0 50 ?_
          refine qP 1 51 ?_
          refine qP 2 52 ?_
          refine qP 3 53 ?_
          refine qP 4 54 ?_
          refine qT 5 55 (.int .i64 z1) hHeld (fun w' hs => ?_) ?_
          ·have s1 := blk_cell hs 1
           simp only [List.getElem?_toArray, List.getElem?_cons_zero, List.getElem?_cons_succ] at s1
           clear hs
           go_simp
           try (with_reducible rfl)
          refine qP 6 56 ?_
          refine qP 7 57 ?_
          refine qP 8 58 ?_
          refine qT 9 59 (.int .i64 z0) hHeld (fun w' hs => ?_) ?_
          ·have s1 := blk_cell hs 0
           simp only [List.getElem?_toArray, List.getElem?_cons_zero, List.getElem?_cons_succ] at s1
           clear hs
           go_simp
           try (with_reducible rfl)
          refine qP 10 60 ?_
          have z8 := blk_cell (w := W.drew) L.out 0
          have y8 := blk_frozen (w := W.drew) L.out 0
          simp only [List.getElem?_toArray, List.getElem?_cons_zero, List.getElem?_cons_succ] at z8
          refine qS 11 (fun K hK => ?_)
          refine skip_ (w1 := ?_) zr zr ?_ ?_
          rotate_left
          ·go_simp
           rfl
          refine hK.out _ _ ?_
          clear hK K
          clear z8 y8
          have z8 := blk_cell L.out 1
          have y8 := blk_frozen L.out 1
          simp only [List.getElem?_toArray, List.getElem?_cons_zero, List.getElem?_cons_succ] at z8
          refine qP 12 61 ?_
          refine qS 13 (fun K hK => ?_)
          refine skip_ (w1 := ?_) zr zr ?_ ?_
          rotate_left
          ·go_simp
           rfl
          refine hK.out _ _ ?_
          clear hK K
          clear z8 y8
          refine done_ (by kernel_rfl) ?_
          go_wp2
          rw [rounds_succ]
          revert M
          revert HB
          revert L
          refine settle2 (g4 := g4) (g5 := g5) (fun L HB M => ⟨blk_set (blk_set (w := W.drew) L.out 0 (.int .i64 z1)) 1 (.int .i64 z0), below_set (below_set (below_drew1 HB.out) Z5.out) Z5.out, (Below.heap_setCell _ ⟨g5, 1, none⟩ _ g4 (Nat.ne_of_lt L45.out)).trans ((Below.heap_setCell W.drew ⟨g5, 0, none⟩ _ g4 (Nat.ne_of_lt L45.out)).trans M.out)⟩) (fun W z0 z1 z2 z3 e0 e1 e2 e3 L HB M => ?_)
          subst e0 e1 e2 e3
          rw [← rounds_succ]
          rw [rounds_succ]
          go_wp2
          refine start_ (n := 12) (S := fun w' => w'.heap[g5]? = some (.cells #[.int .i64 z0, .int .i64 z1, .int .i64 z2, .int .i64 z3] 25 (0, 0))) (ds := []) #[false, false, false, false, false, false, false, false, false, false, false, false] (by kernel_rfl) rfl rfl (by exact L.out) (fun hHeld => ?_)
          refine qP 0 36 ?_
          refine qP 1 37 ?_
          refine qP 2 38 ?_
          refine qN 3 39 ?_
          refine qN 4 40 ?_
          refine qN 5 41 ?_
          refine qN 6 42 ?_
          refine qN 7 43 ?_
          refine qN 8 44 ?_
          refine qN 9 45 ?_
          refine qN 10 46 ?_
          refine qP 11 47 ?_
          refine done_ (by kernel_rfl) ?_
          go_wp2)
       | (have hd : decide (z0 > z1) = false := decide_eq_false hq
          have hq2_1 := Aside0.mk hq
          clear hq
          refine start_ (n := 12) (S := fun w' => w'.heap[g5]? = some (.cells #[.int .i64 z0, .int .i64 z1, .int .i64 z2, .int .i64 z3] 25 (0, 0))) (ds := []) #[false, false, false, false, false, false, false, false, false, false, false, false] (by kernel_rfl) rfl rfl (by exact L.out) (fun hHeld => ?_)
          refine qP 0 36 ?_
          refine qP 1 37 ?_
          refine qP 2 38 ?_
          refine qP 3 39 ?_
          refine qP 4 40 ?_
          refine qP 5 41 ?_
          refine qT 6 42 (.int .i64 z0) hHeld (fun w' hs => ?_) ?_
          ·have s1 := blk_cell hs 0
           simp only [List.getElem?_toArray, List.getElem?_cons_zero, List.getElem?_cons_succ] at s1
           clear hs
           go_simp
           try (with_reducible rfl)
          refine qP 7 43 ?_
          refine qP 8 44 ?_
          refine qT 9 45 (.int .i64 z1) hHeld (fun w' hs => ?_) ?_
          ·have s1 := blk_cell hs 1
           simp only [List.getElem?_toArray, List.getElem?_cons_zero, List.getElem?_cons_succ] at s1
           clear hs
           go_simp
           try (with_reducible rfl)
          refine qP 10 46 ?_
          refine qP 11 47 ?_
          refine done_ (by kernel_rfl) ?_
          go_wp2
          clear hd))
    | (have hd : decide (z1 > z2) = false := decide_eq_false hq
       have hq2_2 := Aside0.mk hq
       clear hq
       refine start_ (n := 12) (S := fun w' => w'.heap[g5]? = some (.cells #[.int .i64 z0, .int .i64 z1, .int .i64 z2, .int .i64 z3] 25 (0, 0))) (ds := []) #[false, false, false, false, false, false, false, false, false, false, false, false] (by kernel_rfl) rfl rfl (by exact L.out) (fun hHeld => ?_)
       refine qP 0 36 ?_
       refine qP 1 37 ?_
       refine qP 2 38 ?_
       refine qP 3 39 ?_
       refine qP 4 40 ?_
       refine qP 5 41 ?_
       refine qT 6 42 (.int .i64 z1) hHeld (fun w' hs => ?_) ?_
       ·have s1 := blk_cell hs 1
        simp only [List.getElem?_toArray, List.getElem?_cons_zero, List.getElem?_cons_succ] at s1
        clear hs
        go_simp
        try (with_reducible rfl)
       refine qP 7 43 ?_
       refine qP 8 44 ?_
       refine qT 9 45 (.int .i64 z2) hHeld (fun w' hs => ?_) ?_
       ·have s1 := blk_cell hs 2
        simp only [List.getElem?_toArray, List.getElem?_cons_zero, List.getElem?_cons_succ] at s1
        clear hs
        go_simp
        try (with_reducible rfl)
       refine qP 10 46 ?_
       refine qP 11 47 ?_
       refine done_ (by kernel_rfl) ?_
       go_wp2
       clear hd)
    )
  all_goals rw [rounds_succ]
  all_goals (
    revert M
    revert HB
    revert L
    refine settle2 (g4 := g4) (g5 := g5) (fun L HB M => ⟨L.out, below_drew1 HB.out, M.out⟩) (fun W z0 z1 z2 z3 e0 e1 e2 e3 L HB M => ?_)
    subst e0 e1 e2 e3
    have c5 := blk_cell L.out 3
    have f5 := blk_frozen L.out 3
    simp only [List.getElem?_toArray, List.getElem?_cons_zero, List.getElem?_cons_succ] at c5
    go_wp2
    rw [ordN_eq c0'.out.1 c0'.out.2]
    clear c5 f5
    generalize ordN a0 z3 = x at HF ⊢
    revert M
    revert HB
    revert L
    refine settle2 (g4 := g4) (g5 := g5) (fun L HB M => ⟨blk_set L.out 3 (.int .i64 x), below_set HB.out Z5.out, (Below.heap_setCell W ⟨g5, 3, none⟩ _ g4 (Nat.ne_of_lt L45.out)).trans M.out⟩) (fun W z0 z1 z2 z3 e0 e1 e2 e3 L HB M => ?_)
    subst e0 e1 e2 e3
    refine wp_loop_rounds 4 ?_
    rw [rounds_succ]
    go_wp2
    by_cases hq : z2 > z3
    all_goals first
    | (have hd : decide (z2 > z3) = true := decide_eq_true hq
       have hq3_3 := Aside0.mk hq
       clear hq
       refine start_ (n := 12) (S := fun w' => w'.heap[g5]? = some (.cells #[.int .i64 z0, .int .i64 z1, .int .i64 z2, .int .i64 z3] 25 (0, 0))) (ds := []) #[false, false, false, false, false, false, false, false, false, false, false, false] (by kernel_rfl) rfl rfl (by exact L.out) (fun hHeld => ?_)
       refine qP 0 36 ?_
       refine qP 1 37 ?_
       refine qP 2 38 ?_
       refine qP 3 39 ?_
       refine qP 4 40 ?_
       refine qP 5 41 ?_
       refine qT 6 42 (.int .i64 z2) hHeld (fun w' hs => ?_) ?_
       ·have s1 := blk_cell hs 2
        simp only [List.getElem?_toArray, List.getElem?_cons_zero, List.getElem?_cons_succ] at s1
        clear hs
        go_simp
        try (with_reducible rfl)
       refine qP 7 43 ?_
       refine qP 8 44 ?_
       refine qT 9 45 (.int .i64 z3) hHeld (fun w' hs => ?_) ?_
       ·have s1 := blk_cell hs 3
        simp only [List.getElem?_toArray, List.getElem?_cons_zero, List.getElem?_cons_succ] at s1
        clear hs
        go_simp
        try (with_reducible rfl)
       refine qP 10 46 ?_
       refine qP 11 47 ?_
       refine done_ (by kernel_rfl) ?_
       go_wp2
       revert M
       revert HB
       revert L
       refine settle2 (g4 := g4) (g5 := g5) (fun L HB M => ⟨L.out, below_drew1 HB.out, M.out⟩) (fun W z0 z1 z2 z3 e0 e1 e2 e3 L HB M => ?_)
       subst e0 e1 e2 e3
       clear hd
       refine start_ (n := 14) (S := fun w' => w'.heap[g5]? = some (.cells #[.int .i64 z0, .int .i64 z1, .int .i64 z2, .int .i64 z3] 25 (0, 0))) (ds := [11, 13]) #[false, false, false, false, false, false, false, false, false, false, false, false, false, false] (by kernel_rfl) rfl rfl (by exact L.out) (fun hHeld => ?_)
       refine qP 0 50 ?_
       refine qP 1 51 ?_
       refine qP 2 52 ?_
       refine qP 3 53 ?_
       refine qP 4 54 ?_
       refine qT 5 55 (.int .i64 z3) hHeld (fun w' hs => ?_) ?_
       ·have s1 := blk_cell hs 3
        simp only [List.getElem?_toArray, List.getElem?_cons_zero, List.getElem?_cons_succ] at s1
        clear hs
        go_simp
        try (with_reducible rfl)
       refine qP 6 56 ?_
       refine qP 7 57 ?_
       refine qP 8 58 ?_
       refine qT 9 59 (.int .i64 z2) hHeld (fun w' hs => ?_) ?_
       ·have s1 := blk_cell hs 2
        simp only [List.getElem?_toArray, List.getElem?_cons_zero, List.getElem?_cons_succ] at s1
        clear hs
        go_simp
        try (with_reducible rfl)
       refine qP 10 60 ?_
       have z8 := blk_cell (w := W.drew) L.out 2
       have y8 := blk_frozen (w := W.drew) L.out 2
       simp only [List.getElem?_toArray, List.getElem?_cons_zero, List.getElem?_cons_succ] at z8
       refine qS 11 (fun K hK => ?_)
       refine skip_ (w1 := ?_) zr zr ?_ ?_
       rotate_left
       ·go_simp
        rfl
       refine hK.out _ _ ?_
       clear hK K
       clear z8 y8
       have z8 := blk_cell L.out 3
       have y8 := blk_frozen L.out 3
       simp only [List.getElem?_toArray, List.getElem?_cons_zero, List.getElem?_cons_succ] at z8
       refine qP 12 61 ?_
       refine qS 13 (fun K hK => ?_)
       refine skip_ (w1 := ?_) zr zr ?_ ?_
       rotate_left
       ·go_simp
        rfl
       refine hK.out _ _ ?_
       clear hK K
       clear z8 y8
       refine done_ (by kernel_rfl) ?_
       go_wp2
       rw [rounds_succ]
       revert M
       revert HB
       revert L
       refine settle2 (g4 := g4) (g5 := g5) (fun L HB M => ⟨blk_set (blk_set (w := W.drew) L.out 2 (.int .i64 z3)) 3 (.int .i64 z2), below_set (below_set (below_drew1 HB.out) Z5.out) Z5.out, (Below.heap_setCell _ ⟨g5, 3, none⟩ _ g4 (Nat.ne_of_lt L45.out)).trans ((Below.heap_setCell W.drew ⟨g5, 2, none⟩ _ g4 (Nat.ne_of_lt L45.out)).trans M.out)⟩) (fun W z0 z1 z2 z3 e0 e1 e2 e3 L HB M => ?_)
       subst e0 e1 e2 e3
       rw [← rounds_succ]
       rw [rounds_succ]
       go_wp2
       by_cases hq : z1 > z2
       all_goals first
       | (have hd : decide (z1 > z2) = true := decide_eq_true hq
          have hq3_2 := Aside0.mk hq
          clear hq
          refine start_ (n := 12) (S := fun w' => w'.heap[g5]? = some (.cells #[.int .i64 z0, .int .i64 z1, .int .i64 z2, .int .i64 z3] 25 (0, 0))) (ds := []) #[false, false, false, false, false, false, false, false, false, false, false, false] (by kernel_rfl) rfl rfl (by exact L.out) (fun hHeld => ?_)
          refine qP 0 36 ?_
          refine qP 1 37 ?_
          refine qP 2 38 ?_
          refine qP 3 39 ?_
          refine qP 4 40 ?_
          refine qP 5 41 ?_
          refine qT 6 42 (.int .i64 z1) hHeld (fun w' hs => ?_) ?_
          ·have s1 := blk_cell hs 1
           simp only [List.getElem?_toArray, List.getElem?_cons_zero, List.getElem?_cons_succ] at s1
           clear hs
           go_simp
           try (with_reducible rfl)
          refine qP 7 43 ?_
          refine qP 8 44 ?_
          refine qT 9 45 (.int .i64 z2) hHeld (fun w' hs => ?_) ?_
          ·have s1 := blk_cell hs 2
           simp only [List.getElem?_toArray, List.getElem?_cons_zero, List.getElem?_cons_succ] at s1
           clear hs
           go_simp
           try (with_reducible rfl)
          refine qP 10 46 ?_
          refine qP 11 47 ?_
          refine done_ (by kernel_rfl) ?_
          go_wp2
          revert M
          revert HB
          revert L
          refine settle2 (g4 := g4) (g5 := g5) (fun L HB M => ⟨L.out, below_drew1 HB.out, M.out⟩) (fun W z0 z1 z2 z3 e0 e1 e2 e3 L HB M => ?_)
          subst e0 e1 e2 e3
          clear hd
          refine start_ (n := 14) (S := fun w' => w'.heap[g5]? = some (.cells #[.int .i64 z0, .int .i64 z1, .int .i64 z2, .int .i64 z3] 25 (0, 0))) (ds := [11, 13]) #[false, false, false, false, false, false, false, false, false, false, false, false, false, false] (by kernel_rfl) rfl rfl (by exact L.out) (fun hHeld => ?_)
          refine qP 0 50 ?_
          refine qP 1 51 ?_
          refine qP 2 52 ?_
          refine qP 3 53 ?_
          refine qP 4 54 ?_
          refine qT 5 55 (.int .i64 z2) hHeld (fun w' hs => ?_) ?_
          ·have s1 := blk_cell hs 2
           simp only [List.getElem?_toArray, List.getElem?_cons_zero, List.getElem?_cons_succ] at s1
           clear hs
           go_simp
           try (with_reducible rfl)
          refine qP 6 56 ?_
          refine qP 7 57 ?_
          refine qP 8 58 ?_
          refine qT 9 59 (.int .i64 z1) hHeld (fun w' hs => ?_) ?_
          ·have s1 := blk_cell hs 1
           simp only [List.getElem?_toArray, List.getElem?_cons_zero, List.getElem?_cons_succ] at s1
           clear hs
           go_simp
           try (with_reducible rfl)
          refine qP 10 60 ?_
          have z8 := blk_cell (w := W.drew) L.out 1
          have y8 := blk_frozen (w := W.drew) L.out 1
          simp only [List.getElem?_toArray, List.getElem?_cons_zero, List.getElem?_cons_succ] at z8
          refine qS 11 (fun K hK => ?_)
          refine skip_ (w1 := ?_) zr zr ?_ ?_
          rotate_left
          ·go_simp
           rfl
          refine hK.out _ _ ?_
          clear hK K
          clear z8 y8
          have z8 := blk_cell L.out 2
          have y8 := blk_frozen L.out 2
          simp only [List.getElem?_toArray, List.getElem?_cons_zero, List.getElem?_cons_succ] at z8
          refine qP 12 61 ?_
          refine qS 13 (fun K hK => ?_)
          refine skip_ (w1 := ?_) zr zr ?_ ?_
          rotate_left
          ·go_simp
           rfl
          refine hK.out _ _ ?_
          clear hK K
          clear z8 y8
          refine done_ (by kernel_rfl) ?_
          go_wp2
          rw [rounds_succ]
          revert M
          revert HB
          revert L
          refine settle2 (g4 := g4) (g5 := g5) (fun L HB M => ⟨blk_set (blk_set (w := W.drew) L.out 1 (.int .i64 z2)) 2 (.int .i64 z1), below_set (below_set (below_drew1 HB.out) Z5.out) Z5.out, (Below.heap_setCell _ ⟨g5, 2, none⟩ _ g4 (Nat.ne_of_lt L45.out)).trans ((Below.heap_setCell W.drew ⟨g5, 1, none⟩ _ g4 (Nat.ne_of_lt L45.out)).trans M.out)⟩) (fun W z0 z1 z2 z3 e0 e1 e2 e3 L HB M => ?_)
          subst e0 e1 e2 e3
          rw [← rounds_succ]
          rw [rounds_succ]
          go_wp2
          by_cases hq : z0 > z1
          all_goals first
          | (have hd : decide (z0 > z1) = true := decide_eq_true hq
             have hq3_1 := Aside0.mk hq
             clear hq
             refine start_ (n := 12) (S := fun w' => w'.heap[g5]? = some (.cells #[.int .i64 z0, .int .i64 z1, .int .i64 z2, .int .i64 z3] 25 (0, 0))) (ds := []) #[false, false, false, false, false, false, false, false, false, false, false, false] (by kernel_rfl) rfl rfl (by exact L.out) (fun hHeld => ?_)
             refine qP 0 36 ?_
             refine qP 1 37 ?_
             refine qP 2 38 ?_
             refine qP 3 39 ?_
             refine qP 4 40 ?_
             refine qP 5 41 ?_
             refine qT 6 42 (.int .i64 z0) hHeld (fun w' hs => ?_) ?_
             ·have s1 := blk_cell hs 0
              simp only [List.getElem?_toArray, List.getElem?_cons_zero, List.getElem?_cons_succ] at s1
              clear hs
              go_simp
              try (with_reducible rfl)
             refine qP 7 43 ?_
             refine qP 8 44 ?_
             refine qT 9 45 (.int .i64 z1) hHeld (fun w' hs => ?_) ?_
             ·have s1 := blk_cell hs 1
              simp only [List.getElem?_toArray, List.getElem?_cons_zero, List.getElem?_cons_succ] at s1
              clear hs
              go_simp
              try (with_reducible rfl)
             refine qP 10 46 ?_
             refine qP 11 47 ?_
             refine done_ (by kernel_rfl) ?_
             go_wp2
             revert M
             revert HB
             revert L
             refine settle2 (g4 := g4) (g5 := g5) (fun L HB M => ⟨L.out, below_drew1 HB.out, M.out⟩) (fun W z0 z1 z2 z3 e0 e1 e2 e3 L HB M => ?_)
             subst e0 e1 e2 e3
             clear hd
             refine start_ (n := 14) (S := fun w' => w'.heap[g5]? = some (.cells #[.int .i64 z0, .int .i64 z1, .int .i64 z2, .int .i64 z3] 25 (0, 0))) (ds := [11, 13]) #[false, false, false, false, false, false, false, false, false, false, false, false, false, false] (by kernel_rfl) rfl rfl (by exact L.out) (fun hHeld => ?_)
             refine qP 0 50 ?_
             refine qP 1 51 ?_
             refine qP 2 52 ?_
             refine qP 3 53 ?_
             refine qP 4 54 ?_
             refine qT 5 55 (.int .i64 z1) hHeld (fun w' hs => ?_) ?_
             ·have s1 := blk_cell hs 1
              simp only [List.getElem?_toArray, List.getElem?_cons_zero, List.getElem?_cons_succ] at s1
              clear hs
              go_simp
              try (with_reducible rfl)
             refine qP 6 56 ?_
             refine qP 7 57 ?_
             refine qP 8 58 ?_
             refine qT 9 59 (.int .i64 z0) hHeld (fun w' hs => ?_) ?_
             ·have s1 := blk_cell hs 0
              simp only [List.getElem?_toArray, List.getElem?_cons_zero, List.getElem?_cons_succ] at s1
              clear hs
              go_simp
              try (with_reducible rfl)
             refine qP 10 60 ?_
             have z8 := blk_cell (w := W.drew) L.out 0
             have y8 := blk_frozen (w := W.drew) L.out 0
             simp only [List.getElem?_toArray, List.getElem?_cons_zero, List.getElem?_cons_succ] at z8
             refine qS 11 (fun K hK => ?_)
             refine skip_ (w1 := ?_) zr zr ?_ ?_
             rotate_left
             ·go_simp
              rfl
             refine hK.out _ _ ?_
             clear hK K
             clear z8 y8
             have z8 := blk_cell L.out 1
             have y8 := blk_frozen L.out 1
             simp only [List.getElem?_toArray, List.getElem?_cons_zero, List.getElem?_cons_succ] at z8
             refine qP 12 61 ?_
             refine qS 13 (fun K hK => ?_)
             refine skip_ (w1 := ?_) zr zr ?_ ?_
             rotate_left
             ·go_simp
              rfl
             refine hK.out _ _ ?_
             clear hK K
             clear z8 y8
             refine done_ (by kernel_rfl) ?_
             go_wp2
             rw [rounds_succ]
             revert M
             revert HB
             revert L
             refine settle2 (g4 := g4) (g5 := g5) (fun L HB M => ⟨blk_set (blk_set (w := W.drew) L.out 0 (.int .i64 z1)) 1 (.int .i64 z0), below_set (below_set (below_drew1 HB.out) Z5.out) Z5.out, (Below.heap_setCell _ ⟨g5, 1, none⟩ _ g4 (Nat.ne_of_lt L45.out)).trans ((Below.heap_setCell W.drew ⟨g5, 0, none⟩ _ g4 (Nat.ne_of_lt L45.out)).trans M.out)⟩) (fun W z0 z1 z2 z3 e0 e1 e2 e3 L HB M => ?_)
             subst e0 e1 e2 e3
             rw [← rounds_succ]
             rw [rounds_succ]
             go_wp2
             refine start_ (n := 12) (S := fun w' => w'.heap[g5]? = some (.cells #[.int .i64 z0, .int .i64 z1, .int .i64 z2, .int .i64 z3] 25 (0, 0))) (ds := []) #[false, false, false, false, false, false, false, false, false, false, false, false] (by kernel_rfl) rfl rfl (by exact L.out) (fun hHeld => ?_)
             refine qP 0 36 ?_
             refine qP 1 37 ?_
             refine qP 2 38 ?_
             refine qN 3 39 ?_
             refine qN 4 40 ?_
             refine qN 5 41 ?_
             refine qN 6 42 ?_
             refine qN 7 43 ?_
             refine qN 8 44 ?_
             refine qN 9 45 ?_
             refine qN 10 46 ?_
             refine qP 11 47 ?_
             refine done_ (by kernel_rfl) ?_
             go_wp2)
          | (have hd : decide (z0 > z1) = false := decide_eq_false hq
             have hq3_1 := Aside0.mk hq
             clear hq
             refine start_ (n := 12) (S := fun w' => w'.heap[g5]? = some (.cells #[.int .i64 z0, .int .i64 z1, .int .i64 z2, .int .i64 z3] 25 (0, 0))) (ds := []) #[false, false, false, false, false, false, false, false, false, false, false, false] (by kernel_rfl) rfl rfl (by exact L.out) (fun hHeld => ?_)
             refine qP 0 36 ?_
             refine qP 1 37 ?_
             refine qP 2 38 ?_
             refine qP 3 39 ?_
             refine qP 4 40 ?_
             refine qP 5 41 ?_
             refine qT 6 42 (.int .i64 z0) hHeld (fun w' hs => ?_) ?_
             ·have s1 := blk_cell hs 0
              simp only [List.getElem?_toArray, List.getElem?_cons_zero, List.getElem?_cons_succ] at s1
              clear hs
              go_simp
              try (with_reducible rfl)
             refine qP 7 43 ?_
             refine qP 8 44 ?_
             refine qT 9 45 (.int .i64 z1) hHeld (fun w' hs => ?_) ?_
             ·have s1 := blk_cell hs 1
              simp only [List.getElem?_toArray, List.getElem?_cons_zero, List.getElem?_cons_succ] at s1
              clear hs
              go_simp
              try (with_reducible rfl)
             refine qP 10 46 ?_
             refine qP 11 47 ?_
             refine done_ (by kernel_rfl) ?_
             go_wp2
             clear hd))
       | (have hd : decide (z1 > z2) = false := decide_eq_false hq
          have hq3_2 := Aside0.mk hq
          clear hq
          refine start_ (n := 12) (S := fun w' => w'.heap[g5]? = some (.cells #[.int .i64 z0, .int .i64 z1, .int .i64 z2, .int .i64 z3] 25 (0, 0))) (ds := []) #[false, false, false, false, false, false, false, false, false, false, false, false] (by kernel_rfl) rfl rfl (by exact L.out) (fun hHeld => ?_)
          refine qP 0 36 ?_
          refine qP 1 37 ?_
          refine qP 2 38 ?_
          refine qP 3 39 ?_
          refine qP 4 40 ?_
          refine qP 5 41 ?_
          refine qT 6 42 (.int .i64 z1) hHeld (fun w' hs => ?_) ?_
          ·have s1 := blk_cell hs 1
           simp only [List.getElem?_toArray, List.getElem?_cons_zero, List.getElem?_cons_succ] at s1
           clear hs
           go_simp
           try (with_reducible rfl)
          refine qP 7 43 ?_
          refine qP 8 44 ?_
          refine qT 9 45 (.int .i64 z2) hHeld (fun w' hs => ?_) ?_
          ·have s1 := blk_cell hs 2
           simp only [List.getElem?_toArray, List.getElem?_cons_zero, List.getElem?_cons_succ] at s1
           clear hs
           go_simp
           try (with_reducible rfl)
          refine qP 10 46 ?_
          refine qP 11 47 ?_
          refine done_ (by kernel_rfl) ?_
          go_wp2
          clear hd))
    | (have hd : decide (z2 > z3) = false := decide_eq_false hq
       have hq3_3 := Aside0.mk hq
       clear hq
       refine start_ (n := 12) (S := fun w' => w'.heap[g5]? = some (.cells #[.int .i64 z0, .int .i64 z1, .int .i64 z2, .int .i64 z3] 25 (0, 0))) (ds := []) #[false, false, false, false, false, false, false, false, false, false, false, false] (by kernel_rfl) rfl rfl (by exact L.out) (fun hHeld => ?_)
       refine qP 0 36 ?_
       refine qP 1 37 ?_
       refine qP 2 38 ?_
       refine qP 3 39 ?_
       refine qP 4 40 ?_
       refine qP 5 41 ?_
       refine qT 6 42 (.int .i64 z2) hHeld (fun w' hs => ?_) ?_
       ·have s1 := blk_cell hs 2
        simp only [List.getElem?_toArray, List.getElem?_cons_zero, List.getElem?_cons_succ] at s1
        clear hs
        go_simp
        try (with_reducible rfl)
       refine qP 7 43 ?_
       refine qP 8 44 ?_
       refine qT 9 45 (.int .i64 z3) hHeld (fun w' hs => ?_) ?_
       ·have s1 := blk_cell hs 3
        simp only [List.getElem?_toArray, List.getElem?_cons_zero, List.getElem?_cons_succ] at s1
        clear hs
        go_simp
        try (with_reducible rfl)
       refine qP 10 46 ?_
       refine qP 11 47 ?_
       refine done_ (by kernel_rfl) ?_
       go_wp2
       clear hd)
    )
  all_goals rw [rounds_succ]
  all_goals (
    revert M
    revert HB
    revert L
    refine settle2 (g4 := g4) (g5 := g5) (fun L HB M => ⟨L.out, below_drew1 HB.out, M.out⟩) (fun W z0 z1 z2 z3 e0 e1 e2 e3 L HB M => ?_)
    subst e0 e1 e2 e3
    have c50 := blk_cell L.out 0
    have c40 := blk_cell M.out 0
    have f40 := blk_frozen M.out 0
    have c51 := blk_cell L.out 1
    have c41 := blk_cell M.out 1
    have f41 := blk_frozen M.out 1
    have c52 := blk_cell L.out 2
    have c42 := blk_cell M.out 2
    have f42 := blk_frozen M.out 2
    have c53 := blk_cell L.out 3
    have c43 := blk_cell M.out 3
    have f43 := blk_frozen M.out 3
    simp only [List.getElem?_toArray, List.getElem?_cons_zero, List.getElem?_cons_succ] at c50 c40 c51 c41 c52 c42 c53 c43
    go_wp2
    have E := setRow4 M.out (.int .i64 z0) (.int .i64 z1) (.int .i64 z2) (.int .i64 z3)
    refine bodyPost_ret (results_cell_row rfl _ _ g4 _ _ _ _ rfl E hu25 rfl (by kernel_rfl)) rfl ?_
    refine ⟨?_, belowRow4 HB.out Z4.out (.int .i64 z0) (.int .i64 z1) (.int .i64 z2) (.int .i64 z3)⟩
    have e := HF.out
    clear E c50 c40 f40 c51 c41 f41 c52 c42 f42 c53 c43 f43
    try (have q1_1 := hq1_1.out)
    try (have q2_1 := hq2_1.out)
    try (have q2_2 := hq2_2.out)
    try (have q3_1 := hq3_1.out)
    try (have q3_2 := hq3_2.out)
    try (have q3_3 := hq3_3.out)
    simp only [ordF, ord2, ord3, ord4] at e
    repeat' (split at e <;> (try dsimp only at e))
    all_goals first | (exfalso; omega) | skip
    all_goals (simp only [Prod.mk.injEq] at e; obtain ⟨rfl, rfl, rfl, rfl⟩ := e; rfl)
    )

end Go.Proofs.Ytncppcjobimilaa.P
