-- Printed by wip/mk.py (this session's driver over the kit's print) and from wip/manual.
import Derived.Test.YtbffakgmlgimeaaP0
import Derived.Test.YtbffakgmlgimeaaP5
import Derived.Test.YtbffakgmlgimeaaP6
import Derived.Test.YtbffakgmlgimeaaP7
import Derived.Test.YtbffakgmlgimeaaP8
namespace Go.Proofs.Ytbffakgmlgimeaa.P
open Go.RowKit Go.Proofs.YtbffakgmlgimeaaW.PrintWords Go.Proofs.YtbffakgmlgimeaaW.PrintLast Go.Proofs.YtbffakgmlgimeaaW.PrintMore
attribute [local go_sem] max2_int min2_int max_two min_two max_three min_three max_four min_four   -- for this text's walks alone
set_option linter.unusedVariables false
set_option linter.unusedSimpArgs false

/-! ### nfkc_Runes: function 20 -/
def nfkc_Runes.f (k : Nat) (a0 : Bool) (l1 : List Int) : Option (List Int) := (nfkc_plain.f k l1).bind fun t254 => (if t254 = true then ((slices_Clone_rune_rune.f l1).bind fun t255 => (some t255)) else ((decomp_All.f k a0 l1).bind fun t258 => ((arrange_Order.f k t258).bind fun t261 => ((compose_All.f k t261).bind fun t264 => (some t264)))))
theorem nfkc_Runes.mono : ∀ a0 a1 k, LeO (nfkc_Runes.f k a0 a1) (nfkc_Runes.f (k + 1) a0 a1) := by
 intro a0 a1 k
 unfold nfkc_Runes.f
 repeat' first
   | (with_reducible exact arrange_Order.mono _ _)
   | (with_reducible exact compose_All.mono _ _)
   | (with_reducible exact decomp_All.mono _ _ _)
   | (with_reducible exact nfkc_plain.mono _ _)
   | (with_reducible exact LeO.refl _)
   | exact arrange_Order.mono _ _
   | exact compose_All.mono _ _
   | exact decomp_All.mono _ _ _
   | exact nfkc_plain.mono _ _
   | exact LeO.none _
   | refine LeO.ite ?_ ?_
   | refine LeO.bind ?_ (fun _ => ?_)
set_option maxHeartbeats 8000000 in
set_option maxRecDepth 100000 in
theorem nfkc_Runes.calls (k : Nat) (a0 : Bool) (A1 : Option Addr) (c1 : Nat) (l1 : List Int) (r : List Int) (w : World) (hr1 : Kd.C (Kd.int .i32) w A1 l1.length l1) (hc1 : l1.length ≤ c1) (h : nfkc_Runes.f k a0 l1 = some r) :
  Calls Try.prog 20 #[.bool a0, .slice A1 l1.length c1] w fun e w' => ∃ v0_ : Value, e = .returned (v0_) ∧ Kd.R (Kd.int .i32) 21 w' w.heap.size (fun _ => True) v0_ r ∧ Below w.heap.size w w' := by
 have HR1 := aM hr1
 have HC1 := aM hc1
 clear hr1 hc1
 have HB := aM (Below.refl w.heap.size w)
 have H := h
 clear h
 unfold nfkc_Runes.f at H
 obtain ⟨t254, A3, H⟩ := zO H
 by_cases c4 : t254 = true
 ·subst c4
  rw [if_pos rfl] at H
  obtain ⟨t255, A5, H⟩ := zO H
  obtain rfl := sI H
  go_enter Try.func20, Try.ntmps20
  go_wp2_with (first | ((with_reducible refine gate_callee (f := 29) rfl ?_); refine goesL_ (some 7) rfl rfl Try.func29 zK rfl #[.slice A1 l1.length c1] rfl zM ?_; (with_reducible refine (nfkc_plain.calls k _ _ l1 true _ ?side1 ?side2 A3.out).mono ?_); (case side1 => exact zC HR1.out); (case side2 => exact HC1.out); rintro e w' ⟨rfl, ⟨nd, rfl⟩⟩; refine ⟨_, rfl, ?_⟩) | ((with_reducible refine gate_callee (f := 30) rfl ?_); refine goesL_ (some 9) rfl rfl Try.func30 zK rfl #[.slice A1 l1.length c1] rfl zM ?_; (with_reducible refine (slices_Clone_rune_rune.calls _ _ l1 t255 _ ?side1 ?side2 A5.out).mono ?_); (case side1 => exact zC HR1.out); (case side2 => exact HC1.out); rintro e w6 ⟨v256, rfl, ho0, hb⟩; refine ⟨_, rfl, ?_⟩; have n_ := zI (aM (Kd.R_lower ho0 (below_size zB))) (aM (below_step zB hb)); clear HB; obtain ⟨HO257, HB⟩ := n_; (try clear hb); (try clear ho0)))
  go_ret
  exact ⟨_, zE, zR HO257, zB⟩
 ·replace c4 := Bool.eq_false_iff.mpr c4
  subst c4
  rw [if_neg (show ¬ (false = true) by decide)] at H
  obtain ⟨t258, A7, H⟩ := zO H
  obtain ⟨t261, A8, H⟩ := zO H
  obtain ⟨t264, A9, H⟩ := zO H
  obtain rfl := sI H
  go_enter Try.func20, Try.ntmps20
  go_wp2_with (first | ((with_reducible refine gate_callee (f := 29) rfl ?_); refine goesL_ (some 7) rfl rfl Try.func29 zK rfl #[.slice A1 l1.length c1] rfl zM ?_; (with_reducible refine (nfkc_plain.calls k _ _ l1 false _ ?side1 ?side2 A3.out).mono ?_); (case side1 => exact zC HR1.out); (case side2 => exact HC1.out); rintro e w' ⟨rfl, ⟨nd, rfl⟩⟩; refine ⟨_, rfl, ?_⟩) | ((with_reducible refine gate_callee (f := 31) rfl ?_); refine goesL_ (some 12) rfl rfl Try.func31 zK rfl #[.bool a0, .slice A1 l1.length c1] rfl zM ?_; (with_reducible refine (decomp_All.calls k a0 _ _ l1 t258 _ ?side1 ?side2 A7.out).mono ?_); (case side1 => exact zC HR1.out); (case side2 => exact HC1.out); rintro e w10 ⟨v259, rfl, ho0, hb⟩; refine ⟨_, rfl, ?_⟩; have n_ := zI (aM (Kd.R_lower ho0 (below_size zB))) (aM (below_step zB hb)); clear HB; obtain ⟨HO260, HB⟩ := n_; (try clear hb); (try clear ho0); obtain ⟨Ao11, co11, rfl⟩ := Kd.R_slice HO260.out) | ((with_reducible refine gate_callee (f := 33) rfl ?_); refine goesL_ (some 14) rfl rfl Try.func33 zK rfl #[.slice Ao11 t258.length co11] rfl zM ?_; (with_reducible refine (arrange_Order.calls k _ _ t258 t261 _ ?side1 ?side2 A8.out).mono ?_); (case side1 => exact zC (Kd.R_reads' HO260.out).2.2); (case side2 => exact (Kd.R_reads' HO260.out).2.1); rintro e w12 ⟨v262, rfl, ho0, hb⟩; refine ⟨_, rfl, ?_⟩; have n_ := zI (aM (Kd.R_elder' (zR HO260) (Kd.R_base ho0) hb)) (zI (aM (Kd.R_lower (Kd.R_new' ho0 (Kd.R_lt (zR HO260))) (below_size zB))) (aM (below_step zB hb))); clear HO260 HB; obtain ⟨HO260, HO263, HB⟩ := n_; (try clear hb); (try clear ho0); obtain ⟨Ao13, co13, rfl⟩ := Kd.R_slice HO263.out) | ((with_reducible refine gate_callee (f := 32) rfl ?_); refine goesL_ (some 15) rfl rfl Try.func32 zK rfl #[.slice Ao13 t261.length co13] rfl zM ?_; (with_reducible refine (compose_All.calls k _ _ t261 t264 _ ?side1 ?side2 A9.out).mono ?_); (case side1 => exact zC (Kd.R_reads' HO263.out).2.2); (case side2 => exact (Kd.R_reads' HO263.out).2.1); rintro e w14 ⟨v265, rfl, ho0, hb⟩; refine ⟨_, rfl, ?_⟩; have n_ := zI (aM (Kd.R_elder' (zR HO260) (Kd.R_base ho0) hb)) (zI (aM (Kd.R_elder' (zR HO263) (Kd.R_base ho0) hb)) (zI (aM (Kd.R_lower (Kd.R_new' (Kd.R_new' ho0 (Kd.R_lt (zR HO260))) (Kd.R_lt (zR HO263))) (below_size zB))) (aM (below_step zB hb)))); clear HO260 HO263 HB; obtain ⟨HO260, HO263, HO266, HB⟩ := n_; (try clear hb); (try clear ho0)))
  go_ret
  exact ⟨_, zE, by (with_reducible repeat (first | apply Kd.R_alloc | apply Kd.R_drewN | apply Kd.R_drew)); exact Kd.R_mono HO266.out (fun _ hk => trivial), zB⟩

/-! ### fold_more: function 53 -/
def fold_more.f (a0 : Int) : Option (ByteArray) := if a0 = 181 then (some (⟨#[206, 188]⟩ : ByteArray)) else (if a0 = 223 then (some (⟨#[115, 115]⟩ : ByteArray)) else (if a0 = 304 then (some (⟨#[105, 204, 135]⟩ : ByteArray)) else (if a0 = 329 then (some (⟨#[202, 188, 110]⟩ : ByteArray)) else (if a0 = 376 then (some (⟨#[195, 191]⟩ : ByteArray)) else (if a0 = 383 then (some (⟨#[115]⟩ : ByteArray)) else (if a0 = 902 then (some (⟨#[206, 172]⟩ : ByteArray)) else (if a0 = 908 then (some (⟨#[207, 140]⟩ : ByteArray)) else (if a0 = 910 then (some (⟨#[207, 141]⟩ : ByteArray)) else (if a0 = 911 then (some (⟨#[207, 142]⟩ : ByteArray)) else (if a0 = 962 then (some (⟨#[207, 131]⟩ : ByteArray)) else (if a0 = 1025 then (some (⟨#[209, 145]⟩ : ByteArray)) else (if a0 = 8486 then (some (⟨#[207, 137]⟩ : ByteArray)) else (if a0 = 8490 then (some (⟨#[107]⟩ : ByteArray)) else (if a0 = 8491 then (some (⟨#[195, 165]⟩ : ByteArray)) else (if a0 = 64256 then (some (⟨#[102, 102]⟩ : ByteArray)) else (if a0 = 64257 then (some (⟨#[102, 105]⟩ : ByteArray)) else (if a0 = 64258 then (some (⟨#[102, 108]⟩ : ByteArray)) else (if a0 = 64259 then (some (⟨#[102, 102, 105]⟩ : ByteArray)) else (if a0 = 64260 then (some (⟨#[102, 102, 108]⟩ : ByteArray)) else (if a0 = 64261 then (some (⟨#[115, 116]⟩ : ByteArray)) else (some (⟨#[]⟩ : ByteArray))))))))))))))))))))))
set_option maxHeartbeats 8000000 in
set_option maxRecDepth 100000 in
theorem fold_more.calls (a0 : Int) (r : ByteArray) (w : World) (h : fold_more.f a0 = some r) :
  Calls Try.prog 53 #[.int .i32 a0] w fun e w' => e = .returned (.string r) ∧ Drawn0 w w' := by
 have H := h
 clear h
 unfold fold_more.f at H
 by_cases c2 : a0 = 181
 ·rw [if_pos c2] at H
  have c2b0 : (a0 == 181) = true := beq_iff_eq.mpr c2
  have c2b1 : (a0 != 181) = false := bne_eq_false_iff_eq.mpr c2
  clear c2
  obtain rfl := sI H
  go_enter Try.func53, Try.ntmps53
  go_wp2
  go_ret
  exact ⟨zP, zD⟩
 ·rw [if_neg c2] at H
  have c2b0 : (a0 == 181) = false := beq_eq_false_iff_ne.mpr c2
  have c2b1 : (a0 != 181) = true := bne_iff_ne.mpr c2
  by_cases c3 : a0 = 223
  ·rw [if_pos c3] at H
   have c3b0 : (a0 == 223) = true := beq_iff_eq.mpr c3
   have c3b1 : (a0 != 223) = false := bne_eq_false_iff_eq.mpr c3
   clear c3
   obtain rfl := sI H
   go_enter Try.func53, Try.ntmps53
   go_wp2
   go_ret
   exact ⟨zP, zD⟩
  ·rw [if_neg c3] at H
   have c3b0 : (a0 == 223) = false := beq_eq_false_iff_ne.mpr c3
   have c3b1 : (a0 != 223) = true := bne_iff_ne.mpr c3
   by_cases c4 : a0 = 304
   ·rw [if_pos c4] at H
    have c4b0 : (a0 == 304) = true := beq_iff_eq.mpr c4
    have c4b1 : (a0 != 304) = false := bne_eq_false_iff_eq.mpr c4
    clear c4
    obtain rfl := sI H
    go_enter Try.func53, Try.ntmps53
    go_wp2
    go_ret
    exact ⟨zP, zD⟩
   ·rw [if_neg c4] at H
    have c4b0 : (a0 == 304) = false := beq_eq_false_iff_ne.mpr c4
    have c4b1 : (a0 != 304) = true := bne_iff_ne.mpr c4
    by_cases c5 : a0 = 329
    ·rw [if_pos c5] at H
     have c5b0 : (a0 == 329) = true := beq_iff_eq.mpr c5
     have c5b1 : (a0 != 329) = false := bne_eq_false_iff_eq.mpr c5
     clear c5
     obtain rfl := sI H
     go_enter Try.func53, Try.ntmps53
     go_wp2
     go_ret
     exact ⟨zP, zD⟩
    ·rw [if_neg c5] at H
     have c5b0 : (a0 == 329) = false := beq_eq_false_iff_ne.mpr c5
     have c5b1 : (a0 != 329) = true := bne_iff_ne.mpr c5
     by_cases c6 : a0 = 376
     ·rw [if_pos c6] at H
      have c6b0 : (a0 == 376) = true := beq_iff_eq.mpr c6
      have c6b1 : (a0 != 376) = false := bne_eq_false_iff_eq.mpr c6
      clear c6
      obtain rfl := sI H
      go_enter Try.func53, Try.ntmps53
      go_wp2
      go_ret
      exact ⟨zP, zD⟩
     ·rw [if_neg c6] at H
      have c6b0 : (a0 == 376) = false := beq_eq_false_iff_ne.mpr c6
      have c6b1 : (a0 != 376) = true := bne_iff_ne.mpr c6
      by_cases c7 : a0 = 383
      ·rw [if_pos c7] at H
       have c7b0 : (a0 == 383) = true := beq_iff_eq.mpr c7
       have c7b1 : (a0 != 383) = false := bne_eq_false_iff_eq.mpr c7
       clear c7
       obtain rfl := sI H
       go_enter Try.func53, Try.ntmps53
       go_wp2
       go_ret
       exact ⟨zP, zD⟩
      ·rw [if_neg c7] at H
       have c7b0 : (a0 == 383) = false := beq_eq_false_iff_ne.mpr c7
       have c7b1 : (a0 != 383) = true := bne_iff_ne.mpr c7
       by_cases c8 : a0 = 902
       ·rw [if_pos c8] at H
        have c8b0 : (a0 == 902) = true := beq_iff_eq.mpr c8
        have c8b1 : (a0 != 902) = false := bne_eq_false_iff_eq.mpr c8
        clear c8
        obtain rfl := sI H
        go_enter Try.func53, Try.ntmps53
        go_wp2
        go_ret
        exact ⟨zP, zD⟩
       ·rw [if_neg c8] at H
        have c8b0 : (a0 == 902) = false := beq_eq_false_iff_ne.mpr c8
        have c8b1 : (a0 != 902) = true := bne_iff_ne.mpr c8
        by_cases c9 : a0 = 908
        ·rw [if_pos c9] at H
         have c9b0 : (a0 == 908) = true := beq_iff_eq.mpr c9
         have c9b1 : (a0 != 908) = false := bne_eq_false_iff_eq.mpr c9
         clear c9
         obtain rfl := sI H
         go_enter Try.func53, Try.ntmps53
         go_wp2
         go_ret
         exact ⟨zP, zD⟩
        ·rw [if_neg c9] at H
         have c9b0 : (a0 == 908) = false := beq_eq_false_iff_ne.mpr c9
         have c9b1 : (a0 != 908) = true := bne_iff_ne.mpr c9
         by_cases c10 : a0 = 910
         ·rw [if_pos c10] at H
          have c10b0 : (a0 == 910) = true := beq_iff_eq.mpr c10
          have c10b1 : (a0 != 910) = false := bne_eq_false_iff_eq.mpr c10
          clear c10
          obtain rfl := sI H
          go_enter Try.func53, Try.ntmps53
          go_wp2
          go_ret
          exact ⟨zP, zD⟩
         ·rw [if_neg c10] at H
          have c10b0 : (a0 == 910) = false := beq_eq_false_iff_ne.mpr c10
          have c10b1 : (a0 != 910) = true := bne_iff_ne.mpr c10
          by_cases c11 : a0 = 911
          ·rw [if_pos c11] at H
           have c11b0 : (a0 == 911) = true := beq_iff_eq.mpr c11
           have c11b1 : (a0 != 911) = false := bne_eq_false_iff_eq.mpr c11
           clear c11
           obtain rfl := sI H
           go_enter Try.func53, Try.ntmps53
           go_wp2
           go_ret
           exact ⟨zP, zD⟩
          ·rw [if_neg c11] at H
           have c11b0 : (a0 == 911) = false := beq_eq_false_iff_ne.mpr c11
           have c11b1 : (a0 != 911) = true := bne_iff_ne.mpr c11
           by_cases c12 : a0 = 962
           ·rw [if_pos c12] at H
            have c12b0 : (a0 == 962) = true := beq_iff_eq.mpr c12
            have c12b1 : (a0 != 962) = false := bne_eq_false_iff_eq.mpr c12
            clear c12
            obtain rfl := sI H
            go_enter Try.func53, Try.ntmps53
            go_wp2
            go_ret
            exact ⟨zP, zD⟩
           ·rw [if_neg c12] at H
            have c12b0 : (a0 == 962) = false := beq_eq_false_iff_ne.mpr c12
            have c12b1 : (a0 != 962) = true := bne_iff_ne.mpr c12
            by_cases c13 : a0 = 1025
            ·rw [if_pos c13] at H
             have c13b0 : (a0 == 1025) = true := beq_iff_eq.mpr c13
             have c13b1 : (a0 != 1025) = false := bne_eq_false_iff_eq.mpr c13
             clear c13
             obtain rfl := sI H
             go_enter Try.func53, Try.ntmps53
             go_wp2
             go_ret
             exact ⟨zP, zD⟩
            ·rw [if_neg c13] at H
             have c13b0 : (a0 == 1025) = false := beq_eq_false_iff_ne.mpr c13
             have c13b1 : (a0 != 1025) = true := bne_iff_ne.mpr c13
             by_cases c14 : a0 = 8486
             ·rw [if_pos c14] at H
              have c14b0 : (a0 == 8486) = true := beq_iff_eq.mpr c14
              have c14b1 : (a0 != 8486) = false := bne_eq_false_iff_eq.mpr c14
              clear c14
              obtain rfl := sI H
              go_enter Try.func53, Try.ntmps53
              go_wp2
              go_ret
              exact ⟨zP, zD⟩
             ·rw [if_neg c14] at H
              have c14b0 : (a0 == 8486) = false := beq_eq_false_iff_ne.mpr c14
              have c14b1 : (a0 != 8486) = true := bne_iff_ne.mpr c14
              by_cases c15 : a0 = 8490
              ·rw [if_pos c15] at H
               have c15b0 : (a0 == 8490) = true := beq_iff_eq.mpr c15
               have c15b1 : (a0 != 8490) = false := bne_eq_false_iff_eq.mpr c15
               clear c15
               obtain rfl := sI H
               go_enter Try.func53, Try.ntmps53
               go_wp2
               go_ret
               exact ⟨zP, zD⟩
              ·rw [if_neg c15] at H
               have c15b0 : (a0 == 8490) = false := beq_eq_false_iff_ne.mpr c15
               have c15b1 : (a0 != 8490) = true := bne_iff_ne.mpr c15
               by_cases c16 : a0 = 8491
               ·rw [if_pos c16] at H
                have c16b0 : (a0 == 8491) = true := beq_iff_eq.mpr c16
                have c16b1 : (a0 != 8491) = false := bne_eq_false_iff_eq.mpr c16
                clear c16
                obtain rfl := sI H
                go_enter Try.func53, Try.ntmps53
                go_wp2
                go_ret
                exact ⟨zP, zD⟩
               ·rw [if_neg c16] at H
                have c16b0 : (a0 == 8491) = false := beq_eq_false_iff_ne.mpr c16
                have c16b1 : (a0 != 8491) = true := bne_iff_ne.mpr c16
                by_cases c17 : a0 = 64256
                ·rw [if_pos c17] at H
                 have c17b0 : (a0 == 64256) = true := beq_iff_eq.mpr c17
                 have c17b1 : (a0 != 64256) = false := bne_eq_false_iff_eq.mpr c17
                 clear c17
                 obtain rfl := sI H
                 go_enter Try.func53, Try.ntmps53
                 go_wp2
                 go_ret
                 exact ⟨zP, zD⟩
                ·rw [if_neg c17] at H
                 have c17b0 : (a0 == 64256) = false := beq_eq_false_iff_ne.mpr c17
                 have c17b1 : (a0 != 64256) = true := bne_iff_ne.mpr c17
                 by_cases c18 : a0 = 64257
                 ·rw [if_pos c18] at H
                  have c18b0 : (a0 == 64257) = true := beq_iff_eq.mpr c18
                  have c18b1 : (a0 != 64257) = false := bne_eq_false_iff_eq.mpr c18
                  clear c18
                  obtain rfl := sI H
                  go_enter Try.func53, Try.ntmps53
                  go_wp2
                  go_ret
                  exact ⟨zP, zD⟩
                 ·rw [if_neg c18] at H
                  have c18b0 : (a0 == 64257) = false := beq_eq_false_iff_ne.mpr c18
                  have c18b1 : (a0 != 64257) = true := bne_iff_ne.mpr c18
                  by_cases c19 : a0 = 64258
                  ·rw [if_pos c19] at H
                   have c19b0 : (a0 == 64258) = true := beq_iff_eq.mpr c19
                   have c19b1 : (a0 != 64258) = false := bne_eq_false_iff_eq.mpr c19
                   clear c19
                   obtain rfl := sI H
                   go_enter Try.func53, Try.ntmps53
                   go_wp2
                   go_ret
                   exact ⟨zP, zD⟩
                  ·rw [if_neg c19] at H
                   have c19b0 : (a0 == 64258) = false := beq_eq_false_iff_ne.mpr c19
                   have c19b1 : (a0 != 64258) = true := bne_iff_ne.mpr c19
                   by_cases c20 : a0 = 64259
                   ·rw [if_pos c20] at H
                    have c20b0 : (a0 == 64259) = true := beq_iff_eq.mpr c20
                    have c20b1 : (a0 != 64259) = false := bne_eq_false_iff_eq.mpr c20
                    clear c20
                    obtain rfl := sI H
                    go_enter Try.func53, Try.ntmps53
                    go_wp2
                    go_ret
                    exact ⟨zP, zD⟩
                   ·rw [if_neg c20] at H
                    have c20b0 : (a0 == 64259) = false := beq_eq_false_iff_ne.mpr c20
                    have c20b1 : (a0 != 64259) = true := bne_iff_ne.mpr c20
                    by_cases c21 : a0 = 64260
                    ·rw [if_pos c21] at H
                     have c21b0 : (a0 == 64260) = true := beq_iff_eq.mpr c21
                     have c21b1 : (a0 != 64260) = false := bne_eq_false_iff_eq.mpr c21
                     clear c21
                     obtain rfl := sI H
                     go_enter Try.func53, Try.ntmps53
                     go_wp2
                     go_ret
                     exact ⟨zP, zD⟩
                    ·rw [if_neg c21] at H
                     have c21b0 : (a0 == 64260) = false := beq_eq_false_iff_ne.mpr c21
                     have c21b1 : (a0 != 64260) = true := bne_iff_ne.mpr c21
                     by_cases c22 : a0 = 64261
                     ·rw [if_pos c22] at H
                      have c22b0 : (a0 == 64261) = true := beq_iff_eq.mpr c22
                      have c22b1 : (a0 != 64261) = false := bne_eq_false_iff_eq.mpr c22
                      clear c22
                      obtain rfl := sI H
                      go_enter Try.func53, Try.ntmps53
                      go_wp2
                      go_ret
                      exact ⟨zP, zD⟩
                     ·rw [if_neg c22] at H
                      have c22b0 : (a0 == 64261) = false := beq_eq_false_iff_ne.mpr c22
                      have c22b1 : (a0 != 64261) = true := bne_iff_ne.mpr c22
                      obtain rfl := sI H
                      go_enter Try.func53, Try.ntmps53
                      go_wp2
                      go_ret
                      exact ⟨zP, zD⟩

/-! ### fold_within: function 72 -/
def fold_within.f (a0 : Int) (a1 : Int) (a2 : Int) : Option (Bool) := if a0 ≥ a1 then (some (decide (a0 ≤ a2))) else (some false)
set_option maxHeartbeats 8000000 in
set_option maxRecDepth 100000 in
theorem fold_within.calls (a0 : Int) (a1 : Int) (a2 : Int) (r : Bool) (w : World) (h : fold_within.f a0 a1 a2 = some r) :
  Calls Try.prog 72 #[.int .i32 a0, .int .i32 a1, .int .i32 a2] w fun e w' => e = .returned (.bool r) ∧ Drawn0 w w' := by
 have H := h
 clear h
 unfold fold_within.f at H
 by_cases c4 : a0 ≥ a1
 ·rw [if_pos c4] at H
  have c4b0 : decide (a1 ≤ a0) = true := decide_eq_true c4
  clear c4
  obtain rfl := sI H
  go_enter Try.func72, Try.ntmps72
  go_wp2
  go_ret
  exact ⟨zP, zD⟩
 ·rw [if_neg c4] at H
  have c4b0 : decide (a1 ≤ a0) = false := decide_eq_false c4
  clear c4
  obtain rfl := sI H
  go_enter Try.func72, Try.ntmps72
  go_wp2
  go_ret
  exact ⟨zP, zD⟩

/-! ### fold_up: function 54 -/
mutual
def fold_up.j2 : Nat → Int → Bool → Option (Int)
 | 0, _, _ => none
 | k + 1, x0, x3 => if x3 = true then (some 32) else ((fold_within.f x0 904 906).bind fun t272 => (if t272 = true then (some 37) else ((fold_within.f x0 8544 8555).bind fun t273 => (if t273 = true then (some 16) else ((fold_within.f x0 256 311).bind fun t274 => (if t274 = true then (fold_up.j3 k x0 true) else ((fold_within.f x0 330 375).bind fun t275 => (fold_up.j3 k x0 t275))))))))
def fold_up.j3 : Nat → Int → Bool → Option (Int)
 | 0, _, _ => none
 | k + 1, x0, x28 => if x28 = true then (if x0 = 312 then (some 0) else (some (wrap32 (1 - (Go.bits .and .i32 x0 1))))) else ((fold_within.f x0 313 328).bind fun t276 => (if t276 = true then (some (Go.bits .and .i32 x0 1)) else ((fold_within.f x0 377 382).bind fun t277 => (if t277 = true then (some (Go.bits .and .i32 x0 1)) else (some 0)))))
def fold_up.j0 : Nat → Int → Bool → Option (Int)
 | 0, _, _ => none
 | k + 1, x0, x3 => if x3 = true then (fold_up.j2 k x0 x3) else ((fold_within.f x0 913 939).bind fun t269 => (if t269 = true then (fold_up.j1 k x0 (x0 != 930)) else (fold_up.j1 k x0 false)))
def fold_up.j1 : Nat → Int → Bool → Option (Int)
 | 0, _, _ => none
 | k + 1, x0, x3 => if x3 = true then (fold_up.j2 k x0 x3) else ((fold_within.f x0 1040 1071).bind fun t270 => (if t270 = true then (fold_up.j2 k x0 t270) else ((fold_within.f x0 65313 65338).bind fun t271 => (fold_up.j2 k x0 t271))))
end
def fold_up.f (k : Nat) (a0 : Int) : Option (Int) := (fold_within.f a0 65 90).bind fun t267 => (if t267 = true then (fold_up.j2 k a0 t267) else ((fold_within.f a0 192 222).bind fun t268 => (if t268 = true then (fold_up.j0 k a0 (a0 != 215)) else (fold_up.j0 k a0 false))))
theorem fold_up.mono_l : ∀ k, (∀ y0 y1, LeO (fold_up.j2 k y0 y1) (fold_up.j2 (k + 1) y0 y1)) ∧ (∀ y0 y1, LeO (fold_up.j3 k y0 y1) (fold_up.j3 (k + 1) y0 y1)) ∧ (∀ y0 y1, LeO (fold_up.j0 k y0 y1) (fold_up.j0 (k + 1) y0 y1)) ∧ (∀ y0 y1, LeO (fold_up.j1 k y0 y1) (fold_up.j1 (k + 1) y0 y1))
 | 0 => ⟨fun _ _ r h => by simp [fold_up.j2] at h, fun _ _ r h => by simp [fold_up.j3] at h, fun _ _ r h => by simp [fold_up.j0] at h, fun _ _ r h => by simp [fold_up.j1] at h⟩
 | k + 1 => by
  obtain ⟨ih0, ih1, ih2, ih3⟩ := fold_up.mono_l k
  refine ⟨?_, ?_, ?_, ?_⟩
  ·intro y0 y1
   unfold fold_up.j2
   repeat' first
   | (with_reducible exact ih0 _ _)
   | (with_reducible exact ih1 _ _)
   | (with_reducible exact ih2 _ _)
   | (with_reducible exact ih3 _ _)
   | (with_reducible exact LeO.refl _)
   | exact ih0 _ _
   | exact ih1 _ _
   | exact ih2 _ _
   | exact ih3 _ _
   | exact LeO.none _
   | refine LeO.ite ?_ ?_
   | refine LeO.bind ?_ (fun _ => ?_)
  ·intro y0 y1
   unfold fold_up.j3
   repeat' first
   | (with_reducible exact ih0 _ _)
   | (with_reducible exact ih1 _ _)
   | (with_reducible exact ih2 _ _)
   | (with_reducible exact ih3 _ _)
   | (with_reducible exact LeO.refl _)
   | exact ih0 _ _
   | exact ih1 _ _
   | exact ih2 _ _
   | exact ih3 _ _
   | exact LeO.none _
   | refine LeO.ite ?_ ?_
   | refine LeO.bind ?_ (fun _ => ?_)
  ·intro y0 y1
   unfold fold_up.j0
   repeat' first
   | (with_reducible exact ih0 _ _)
   | (with_reducible exact ih1 _ _)
   | (with_reducible exact ih2 _ _)
   | (with_reducible exact ih3 _ _)
   | (with_reducible exact LeO.refl _)
   | exact ih0 _ _
   | exact ih1 _ _
   | exact ih2 _ _
   | exact ih3 _ _
   | exact LeO.none _
   | refine LeO.ite ?_ ?_
   | refine LeO.bind ?_ (fun _ => ?_)
  ·intro y0 y1
   unfold fold_up.j1
   repeat' first
   | (with_reducible exact ih0 _ _)
   | (with_reducible exact ih1 _ _)
   | (with_reducible exact ih2 _ _)
   | (with_reducible exact ih3 _ _)
   | (with_reducible exact LeO.refl _)
   | exact ih0 _ _
   | exact ih1 _ _
   | exact ih2 _ _
   | exact ih3 _ _
   | exact LeO.none _
   | refine LeO.ite ?_ ?_
   | refine LeO.bind ?_ (fun _ => ?_)
theorem fold_up.mono : ∀ a0 k, LeO (fold_up.f k a0) (fold_up.f (k + 1) a0) := by
 intro a0 k
 obtain ⟨ih0, ih1, ih2, ih3⟩ := fold_up.mono_l k
 unfold fold_up.f
 repeat' first
   | (with_reducible exact ih0 _ _)
   | (with_reducible exact ih1 _ _)
   | (with_reducible exact ih2 _ _)
   | (with_reducible exact ih3 _ _)
   | (with_reducible exact LeO.refl _)
   | exact ih0 _ _
   | exact ih1 _ _
   | exact ih2 _ _
   | exact ih3 _ _
   | exact LeO.none _
   | refine LeO.ite ?_ ?_
   | refine LeO.bind ?_ (fun _ => ?_)
set_option maxHeartbeats 8000000 in
set_option maxRecDepth 100000 in
theorem fold_up.calls (k : Nat) (a0 : Int) (r : Int) (w : World) (h : fold_up.f k a0 = some r) :
  Calls Try.prog 54 #[.int .i32 a0] w fun e w' => e = .returned (.int .i32 r) ∧ Drawn0 w w' := by
 have H := h
 clear h
 unfold fold_up.f at H
 obtain ⟨t267, A2, H⟩ := zO H
 have HC3 := aM H
 clear H
 go_enter Try.func54, Try.ntmps54
 go_upto_if 3 with (first | ((with_reducible refine gate_callee (f := 72) rfl ?_); refine goesL_ (some 5) rfl rfl Try.func72 zK rfl #[.int .i32 a0, .int .i32 65, .int .i32 90] rfl zM ?_; (with_reducible refine (fold_within.calls a0 65 90 t267 _ A2.out).mono ?_); rintro e w' ⟨rfl, ⟨nd, rfl⟩⟩; (try clear A2); refine ⟨_, rfl, ?_⟩))
 (try simp only [Act.put, List.setIfInBounds_toArray, List.set_cons_zero, List.set_cons_succ])
 go_cut [3] (fun v3 wc => ∃ (kq : Nat) (x3_2 : Bool), v3 = .bool x3_2 ∧ Aside0 (fold_up.j2 kq a0 x3_2 = some r) ∧ Aside0 (kq ≤ k) ∧ Drawn0 w wc)
 case first =>
  have H := HC3.out
  clear HC3
  by_cases c4 : t267 = true
  ·subst c4
   rw [if_pos rfl] at H
   have H' := aM H
   clear H
   go_wp2
   go_meet
   case rel => exact ⟨_, (true), zP, H', ⟨by first | omega | exact Nat.le_refl _⟩, zD⟩
  ·replace c4 := Bool.eq_false_iff.mpr c4
   subst c4
   rw [if_neg (show ¬ (false = true) by decide)] at H
   have HC5 := aM H
   clear H
   go_upto_region 2 with (fail)
   go_cut [3] (fun v3 wc => ∃ (kq : Nat) (x3_4 : Bool), v3 = .bool x3_4 ∧ Aside0 (fold_up.j0 kq a0 x3_4 = some r) ∧ Aside0 (kq ≤ k) ∧ Drawn0 w wc)
   case first =>
    have H := HC5.out
    clear HC5
    obtain ⟨t268, A6, H⟩ := zO H
    by_cases c7 : t268 = true
    ·subst c7
     rw [if_pos rfl] at H
     have H' := aM H
     clear H
     go_wp2_with (first | ((with_reducible refine gate_callee (f := 72) rfl ?_); refine goesL_ (some 7) rfl rfl Try.func72 zK rfl #[.int .i32 a0, .int .i32 192, .int .i32 222] rfl zM ?_; (with_reducible refine (fold_within.calls a0 192 222 true _ A6.out).mono ?_); rintro e w' ⟨rfl, ⟨nd, rfl⟩⟩; (try clear A6); refine ⟨_, rfl, ?_⟩))
     go_meet
     case rel => exact ⟨_, ((a0 != 215)), zP, H', ⟨by first | omega | exact Nat.le_refl _⟩, zD⟩
    ·replace c7 := Bool.eq_false_iff.mpr c7
     subst c7
     rw [if_neg (show ¬ (false = true) by decide)] at H
     have H' := aM H
     clear H
     go_wp2_with (first | ((with_reducible refine gate_callee (f := 72) rfl ?_); refine goesL_ (some 7) rfl rfl Try.func72 zK rfl #[.int .i32 a0, .int .i32 192, .int .i32 222] rfl zM ?_; (with_reducible refine (fold_within.calls a0 192 222 false _ A6.out).mono ?_); rintro e w' ⟨rfl, ⟨nd, rfl⟩⟩; (try clear A6); refine ⟨_, rfl, ?_⟩))
     go_meet
     case rel => exact ⟨_, (false), zP, H', ⟨by first | omega | exact Nat.le_refl _⟩, zD⟩
   case rest =>
    clear HC5
    try clear p2
    try clear c4
    try clear c5
    try clear c7
    obtain ⟨kq, x3_4, rfl, HA, HJ4, ⟨mc4, rfl⟩⟩ := hcut
    cases kq with
    | zero => exact absurd HA.out (by simp [fold_up.j0])
    | succ kj4 =>
     have H := HA.out
     clear HA
     simp only [fold_up.j0] at H
     by_cases c8 : x3_4 = true
     ·subst c8
      rw [if_pos rfl] at H
      have H' := aM H
      clear H
      go_wp2
      go_meet
      case rel => exact ⟨_, (true), zP, H', ⟨by have := HJ4.out; first | omega | exact Nat.le_refl _⟩, zD⟩
     ·replace c8 := Bool.eq_false_iff.mpr c8
      subst c8
      rw [if_neg (show ¬ (false = true) by decide)] at H
      have HC9 := aM H
      clear H
      go_upto_region 3 with (fail)
      go_cut [3] (fun v3 wc => ∃ (kq : Nat) (x3_8 : Bool), v3 = .bool x3_8 ∧ Aside0 (fold_up.j1 kq a0 x3_8 = some r) ∧ Aside0 (kq ≤ kj4) ∧ Drawn0 w wc)
      case first =>
       have H := HC9.out
       clear HC9
       obtain ⟨t269, A10, H⟩ := zO H
       by_cases c11 : t269 = true
       ·subst c11
        rw [if_pos rfl] at H
        have H' := aM H
        clear H
        go_wp2_with (first | ((with_reducible refine gate_callee (f := 72) rfl ?_); refine goesL_ (some 13) rfl rfl Try.func72 zK rfl #[.int .i32 a0, .int .i32 913, .int .i32 939] rfl zM ?_; (with_reducible refine (fold_within.calls a0 913 939 true _ A10.out).mono ?_); rintro e w' ⟨rfl, ⟨nd, rfl⟩⟩; (try clear A10); refine ⟨_, rfl, ?_⟩))
        go_meet
        case rel => exact ⟨_, ((a0 != 930)), zP, H', ⟨by have := HJ4.out; first | omega | exact Nat.le_refl _⟩, zD⟩
       ·replace c11 := Bool.eq_false_iff.mpr c11
        subst c11
        rw [if_neg (show ¬ (false = true) by decide)] at H
        have H' := aM H
        clear H
        go_wp2_with (first | ((with_reducible refine gate_callee (f := 72) rfl ?_); refine goesL_ (some 13) rfl rfl Try.func72 zK rfl #[.int .i32 a0, .int .i32 913, .int .i32 939] rfl zM ?_; (with_reducible refine (fold_within.calls a0 913 939 false _ A10.out).mono ?_); rintro e w' ⟨rfl, ⟨nd, rfl⟩⟩; (try clear A10); refine ⟨_, rfl, ?_⟩))
        go_meet
        case rel => exact ⟨_, (false), zP, H', ⟨by have := HJ4.out; first | omega | exact Nat.le_refl _⟩, zD⟩
      case rest =>
       clear HC9
       try clear c1
       try clear p2
       try clear c4
       try clear c5
       try clear c7
       try clear c8
       try clear c11
       try clear p2
       obtain ⟨kq, x3_8, rfl, HA, HJ8, ⟨mc8, rfl⟩⟩ := hcut
       cases kq with
       | zero => exact absurd HA.out (by simp [fold_up.j1])
       | succ kj8 =>
        have H := HA.out
        clear HA
        simp only [fold_up.j1] at H
        by_cases c12 : x3_8 = true
        ·subst c12
         rw [if_pos rfl] at H
         have H' := aM H
         clear H
         go_wp2
         go_meet
         case rel => exact ⟨_, (true), zP, H', ⟨by have := HJ4.out; have := HJ8.out; first | omega | exact Nat.le_refl _⟩, zD⟩
        ·replace c12 := Bool.eq_false_iff.mpr c12
         subst c12
         rw [if_neg (show ¬ (false = true) by decide)] at H
         obtain ⟨t270, A13, H⟩ := zO H
         by_cases c14 : t270 = true
         ·subst c14
          rw [if_pos rfl] at H
          have H' := aM H
          clear H
          go_wp2_with (first | ((with_reducible refine gate_callee (f := 72) rfl ?_); refine goesL_ (some 19) rfl rfl Try.func72 zK rfl #[.int .i32 a0, .int .i32 1040, .int .i32 1071] rfl zM ?_; (with_reducible refine (fold_within.calls a0 1040 1071 true _ A13.out).mono ?_); rintro e w' ⟨rfl, ⟨nd, rfl⟩⟩; (try clear A13); refine ⟨_, rfl, ?_⟩))
          go_meet
          case rel => exact ⟨_, (true), zP, H', ⟨by have := HJ4.out; have := HJ8.out; first | omega | exact Nat.le_refl _⟩, zD⟩
         ·replace c14 := Bool.eq_false_iff.mpr c14
          subst c14
          rw [if_neg (show ¬ (false = true) by decide)] at H
          obtain ⟨t271, A15, H⟩ := zO H
          have H' := aM H
          clear H
          go_wp2_with (first | ((with_reducible refine gate_callee (f := 72) rfl ?_); refine goesL_ (some 19) rfl rfl Try.func72 zK rfl #[.int .i32 a0, .int .i32 1040, .int .i32 1071] rfl zM ?_; (with_reducible refine (fold_within.calls a0 1040 1071 false _ A13.out).mono ?_); rintro e w' ⟨rfl, ⟨nd, rfl⟩⟩; (try clear A13); refine ⟨_, rfl, ?_⟩) | ((with_reducible refine gate_callee (f := 72) rfl ?_); refine goesL_ (some 21) rfl rfl Try.func72 zK rfl #[.int .i32 a0, .int .i32 65313, .int .i32 65338] rfl zM ?_; (with_reducible refine (fold_within.calls a0 65313 65338 t271 _ A15.out).mono ?_); rintro e w' ⟨rfl, ⟨nd, rfl⟩⟩; (try clear A15); refine ⟨_, rfl, ?_⟩))
          go_meet
          case rel => exact ⟨_, (t271), zP, H', ⟨by have := HJ4.out; have := HJ8.out; first | omega | exact Nat.le_refl _⟩, zD⟩
 case rest =>
  clear HC3
  try clear c1
  try clear p2
  try clear c4
  try clear c5
  try clear c7
  try clear c8
  try clear c11
  try clear c12
  try clear c14
  try clear p2
  obtain ⟨kq, x3_2, rfl, HA, HJ2, ⟨mc2, rfl⟩⟩ := hcut
  cases kq with
  | zero => exact absurd HA.out (by simp [fold_up.j2])
  | succ kj2 =>
   have H := HA.out
   clear HA
   simp only [fold_up.j2] at H
   by_cases c16 : x3_2 = true
   ·subst c16
    rw [if_pos rfl] at H
    obtain rfl := sI H
    go_wp2
    go_ret
    exact ⟨zP, zD⟩
   ·replace c16 := Bool.eq_false_iff.mpr c16
    subst c16
    rw [if_neg (show ¬ (false = true) by decide)] at H
    obtain ⟨t272, A17, H⟩ := zO H
    by_cases c18 : t272 = true
    ·subst c18
     rw [if_pos rfl] at H
     obtain rfl := sI H
     go_wp2_with (first | ((with_reducible refine gate_callee (f := 72) rfl ?_); refine goesL_ (some 24) rfl rfl Try.func72 zK rfl #[.int .i32 a0, .int .i32 904, .int .i32 906] rfl zM ?_; (with_reducible refine (fold_within.calls a0 904 906 true _ A17.out).mono ?_); rintro e w' ⟨rfl, ⟨nd, rfl⟩⟩; (try clear A17); refine ⟨_, rfl, ?_⟩))
     go_ret
     exact ⟨zP, zD⟩
    ·replace c18 := Bool.eq_false_iff.mpr c18
     subst c18
     rw [if_neg (show ¬ (false = true) by decide)] at H
     obtain ⟨t273, A19, H⟩ := zO H
     by_cases c20 : t273 = true
     ·subst c20
      rw [if_pos rfl] at H
      obtain rfl := sI H
      go_wp2_with (first | ((with_reducible refine gate_callee (f := 72) rfl ?_); refine goesL_ (some 24) rfl rfl Try.func72 zK rfl #[.int .i32 a0, .int .i32 904, .int .i32 906] rfl zM ?_; (with_reducible refine (fold_within.calls a0 904 906 false _ A17.out).mono ?_); rintro e w' ⟨rfl, ⟨nd, rfl⟩⟩; (try clear A17); refine ⟨_, rfl, ?_⟩) | ((with_reducible refine gate_callee (f := 72) rfl ?_); refine goesL_ (some 27) rfl rfl Try.func72 zK rfl #[.int .i32 a0, .int .i32 8544, .int .i32 8555] rfl zM ?_; (with_reducible refine (fold_within.calls a0 8544 8555 true _ A19.out).mono ?_); rintro e w' ⟨rfl, ⟨nd, rfl⟩⟩; (try clear A19); refine ⟨_, rfl, ?_⟩))
      go_ret
      exact ⟨zP, zD⟩
     ·replace c20 := Bool.eq_false_iff.mpr c20
      subst c20
      rw [if_neg (show ¬ (false = true) by decide)] at H
      have HC21 := aM H
      clear H
      go_upto_region 11 with (first | ((with_reducible refine gate_callee (f := 72) rfl ?_); refine goesL_ (some 24) rfl rfl Try.func72 zK rfl #[.int .i32 a0, .int .i32 904, .int .i32 906] rfl zM ?_; (with_reducible refine (fold_within.calls a0 904 906 false _ A17.out).mono ?_); rintro e w' ⟨rfl, ⟨nd, rfl⟩⟩; (try clear A17); refine ⟨_, rfl, ?_⟩) | ((with_reducible refine gate_callee (f := 72) rfl ?_); refine goesL_ (some 27) rfl rfl Try.func72 zK rfl #[.int .i32 a0, .int .i32 8544, .int .i32 8555] rfl zM ?_; (with_reducible refine (fold_within.calls a0 8544 8555 false _ A19.out).mono ?_); rintro e w' ⟨rfl, ⟨nd, rfl⟩⟩; (try clear A19); refine ⟨_, rfl, ?_⟩))
      (try simp only [Act.put, List.setIfInBounds_toArray, List.set_cons_zero, List.set_cons_succ])
      go_cut [28] (fun v28 wc => ∃ (kq : Nat) (x28_20 : Bool), v28 = .bool x28_20 ∧ Aside0 (fold_up.j3 kq a0 x28_20 = some r) ∧ Aside0 (kq ≤ kj2) ∧ Drawn0 w wc)
      case first =>
       have H := HC21.out
       clear HC21
       obtain ⟨t274, A22, H⟩ := zO H
       by_cases c23 : t274 = true
       ·subst c23
        rw [if_pos rfl] at H
        have H' := aM H
        clear H
        go_wp2_with (first | ((with_reducible refine gate_callee (f := 72) rfl ?_); refine goesL_ (some 30) rfl rfl Try.func72 zK rfl #[.int .i32 a0, .int .i32 256, .int .i32 311] rfl zM ?_; (with_reducible refine (fold_within.calls a0 256 311 true _ A22.out).mono ?_); rintro e w' ⟨rfl, ⟨nd, rfl⟩⟩; (try clear A22); refine ⟨_, rfl, ?_⟩))
        go_meet
        case rel => exact ⟨_, (true), zP, H', ⟨by have := HJ2.out; first | omega | exact Nat.le_refl _⟩, zD⟩
       ·replace c23 := Bool.eq_false_iff.mpr c23
        subst c23
        rw [if_neg (show ¬ (false = true) by decide)] at H
        obtain ⟨t275, A24, H⟩ := zO H
        have H' := aM H
        clear H
        go_wp2_with (first | ((with_reducible refine gate_callee (f := 72) rfl ?_); refine goesL_ (some 30) rfl rfl Try.func72 zK rfl #[.int .i32 a0, .int .i32 256, .int .i32 311] rfl zM ?_; (with_reducible refine (fold_within.calls a0 256 311 false _ A22.out).mono ?_); rintro e w' ⟨rfl, ⟨nd, rfl⟩⟩; (try clear A22); refine ⟨_, rfl, ?_⟩) | (go_at_call 72; (with_reducible refine (fold_within.calls a0 330 375 t275 _ A24.out).mono ?_); rintro e w' ⟨rfl, ⟨nd, rfl⟩⟩; (try clear A24)))
        go_meet
        case rel => exact ⟨_, (t275), zP, H', ⟨by have := HJ2.out; first | omega | exact Nat.le_refl _⟩, zD⟩
      case rest =>
       clear HC21
       try clear c1
       try clear c2
       try clear p2
       try clear c4
       try clear c5
       try clear c7
       try clear c8
       try clear c11
       try clear c12
       try clear c14
       try clear c16
       try clear c18
       try clear c20
       try clear c23
       try clear p2
       obtain ⟨kq, x28_20, rfl, HA, HJ20, ⟨mc20, rfl⟩⟩ := hcut
       cases kq with
       | zero => exact absurd HA.out (by simp [fold_up.j3])
       | succ kj20 =>
        have H := HA.out
        clear HA
        simp only [fold_up.j3] at H
        by_cases c25 : x28_20 = true
        ·subst c25
         rw [if_pos rfl] at H
         by_cases c26 : a0 = 312
         ·rw [if_pos c26] at H
          have c26b0 : (a0 == 312) = true := beq_iff_eq.mpr c26
          have c26b1 : (a0 != 312) = false := bne_eq_false_iff_eq.mpr c26
          clear c26
          obtain rfl := sI H
          go_wp2
          go_ret
          exact ⟨zP, zD⟩
         ·rw [if_neg c26] at H
          have c26b0 : (a0 == 312) = false := beq_eq_false_iff_ne.mpr c26
          have c26b1 : (a0 != 312) = true := bne_iff_ne.mpr c26
          obtain rfl := sI H
          go_wp2
          go_ret
          exact ⟨zP, zD⟩
        ·replace c25 := Bool.eq_false_iff.mpr c25
         subst c25
         rw [if_neg (show ¬ (false = true) by decide)] at H
         obtain ⟨t276, A27, H⟩ := zO H
         by_cases c28 : t276 = true
         ·subst c28
          rw [if_pos rfl] at H
          obtain rfl := sI H
          go_wp2_with (first | ((with_reducible refine gate_callee (f := 72) rfl ?_); refine goesL_ (some 42) rfl rfl Try.func72 zK rfl #[.int .i32 a0, .int .i32 313, .int .i32 328] rfl zM ?_; (with_reducible refine (fold_within.calls a0 313 328 true _ A27.out).mono ?_); rintro e w' ⟨rfl, ⟨nd, rfl⟩⟩; (try clear A27); refine ⟨_, rfl, ?_⟩))
          go_ret
          exact ⟨zP, zD⟩
         ·replace c28 := Bool.eq_false_iff.mpr c28
          subst c28
          rw [if_neg (show ¬ (false = true) by decide)] at H
          obtain ⟨t277, A29, H⟩ := zO H
          by_cases c30 : t277 = true
          ·subst c30
           rw [if_pos rfl] at H
           obtain rfl := sI H
           go_wp2_with (first | ((with_reducible refine gate_callee (f := 72) rfl ?_); refine goesL_ (some 42) rfl rfl Try.func72 zK rfl #[.int .i32 a0, .int .i32 313, .int .i32 328] rfl zM ?_; (with_reducible refine (fold_within.calls a0 313 328 false _ A27.out).mono ?_); rintro e w' ⟨rfl, ⟨nd, rfl⟩⟩; (try clear A27); refine ⟨_, rfl, ?_⟩) | (go_at_call 72; (with_reducible refine (fold_within.calls a0 377 382 true _ A29.out).mono ?_); rintro e w' ⟨rfl, ⟨nd, rfl⟩⟩; (try clear A29)))
           go_ret
           exact ⟨zP, zD⟩
          ·replace c30 := Bool.eq_false_iff.mpr c30
           subst c30
           rw [if_neg (show ¬ (false = true) by decide)] at H
           obtain rfl := sI H
           go_wp2_with (first | ((with_reducible refine gate_callee (f := 72) rfl ?_); refine goesL_ (some 42) rfl rfl Try.func72 zK rfl #[.int .i32 a0, .int .i32 313, .int .i32 328] rfl zM ?_; (with_reducible refine (fold_within.calls a0 313 328 false _ A27.out).mono ?_); rintro e w' ⟨rfl, ⟨nd, rfl⟩⟩; (try clear A27); refine ⟨_, rfl, ?_⟩) | (go_at_call 72; (with_reducible refine (fold_within.calls a0 377 382 false _ A29.out).mono ?_); rintro e w' ⟨rfl, ⟨nd, rfl⟩⟩; (try clear A29)))
           go_ret
           exact ⟨zP, zD⟩

/-! ### fold_One: function 35, by hand (fold.One.tpl) -/
theorem info21o : (Try.prog.info? 21).map (fun i => (i.zero, i.size, i.bytes)) = some (some (.int .i32 0), 1, 4) := by kernel_rfl
def fold_One.l0 : Nat → ByteArray → Int → List Int → Nat → Option (List Int)
  | 0, _, _, _, _ => none
  | k + 1, x0, a0, x3, pos => if pos < x0.size then (if x3.length < 35184372088832 then fold_One.l0 k x0 a0 (x3 ++ [((Utf8.decode x0 pos).1 : Int)]) (pos + (Utf8.decode x0 pos).2) else none) else (if x3.length > 0 then some x3 else (fold_up.f k a0).bind fun t => some [wrap32 (a0 + t)])
def fold_One.f (k : Nat) (a0 : Int) : Option (List Int) := (fold_more.f a0).bind fun s => fold_One.l0 k s a0 [] 0
theorem fold_One.mono_l : ∀ k, (∀ y0 y1 y2 y3, LeO (fold_One.l0 k y0 y1 y2 y3) (fold_One.l0 (k + 1) y0 y1 y2 y3))
  | 0 => fun _ _ _ _ r h => by simp [fold_One.l0] at h
  | k + 1 => by
    have ih0 := fold_One.mono_l k
    intro y0 y1 y2 y3
    unfold fold_One.l0
    repeat' first
      | exact ih0 _ _ _ _
      | exact fold_up.mono _ _
      | exact LeO.refl _
      | refine LeO.ite ?_ ?_
      | refine LeO.bind ?_ (fun _ => ?_)
theorem fold_One.mono : ∀ a0 k, LeO (fold_One.f k a0) (fold_One.f (k + 1) a0) := fun a0 k => LeO.bind (LeO.refl _) (fun _ => fold_One.mono_l k _ _ _ _)
set_option maxHeartbeats 8000000 in
set_option maxRecDepth 100000 in
theorem fold_One.calls (k : Nat) (a0 : Int) (r : List Int) (w : World) (h : fold_One.f k a0 = some r) :
    Calls Try.prog 35 #[.int .i32 a0] w fun e w' => ∃ v0_ : Value, e = .returned (v0_) ∧ Kd.R (Kd.int .i32) 21 w' w.heap.size (fun _ => True) (v0_) (r) ∧ Below w.heap.size w w' := by
  unfold fold_One.f at h
  replace h := Option.bind_eq_some_iff.mp h
  obtain ⟨s, A1, H⟩ := h
  have H' := Aside0.mk H
  have A1' := Aside0.mk A1
  clear H A1
  go_enter Try.func35, Try.ntmps35
  go_wp2_with fail
  (with_reducible refine (fold_more.calls a0 s _ A1'.out).mono ?_)
  rintro e w1 ⟨rfl, hd⟩
  have HD := Aside0.mk hd
  clear hd
  go_wp2
  go_loopg [3] k (fun kq v3 W => ∃ (x3 : List Int) (pos : Nat), Aside0 (fold_One.l0 kq s a0 x3 pos = some r) ∧ Aside0 (kq ≤ k) ∧ Aside0 (W.heap[w1.heap.size]? = some (.stringIter s pos)) ∧ Aside0 (Kd.R (Kd.int .i32) 21 W w.heap.size (fun k_ => k_ ≠ w1.heap.size) v3 x3) ∧ Aside0 (Below w.heap.size w W))
  case atStart => exact ⟨[], 0, H', ⟨Nat.le_refl _⟩, ⟨World.iter_heap _ _ _⟩, ⟨Kd.R_nil _ _ _ _ _⟩, ⟨below_alloc HD.out.below _⟩⟩
  case round =>
    clear H'
    obtain ⟨x3, pos, HA, HK, HI, HO, HB⟩ := hrel
    cases gk with
    | zero => exact absurd HA.out (by simp [fold_One.l0])
    | succ k1 =>
      have H := HA.out
      clear HA
      simp only [fold_One.l0] at H
      by_cases d1 : pos < s.size
      · rw [if_pos d1] at H
        by_cases d2 : x3.length < 35184372088832
        · rw [if_pos d2] at H
          have H' := Aside0.mk H
          have LM := Aside0.mk d2
          clear H d2
          have hnx := fun ty => Lib.run_next_any_at (P := Try.prog) wr w1.heap.size s pos ty HI.out d1
          clear d1
          obtain ⟨W2, hW2⟩ : ∃ W2, wr.iterAt w1.heap.size s (pos + (Utf8.decode s pos).2) = W2 := ⟨_, rfl⟩
          rw [hW2] at hnx
          have HI2 := Aside0.mk (show W2.heap[w1.heap.size]? = some (.stringIter s (pos + (Utf8.decode s pos).2)) from by rw [← hW2]; exact Lib.iterAt_heap _ _ _ _ _ HI.out)
          have HO2 := Aside0.mk (show Kd.R (Kd.int .i32) 21 W2 w.heap.size (fun k_ => k_ ≠ w1.heap.size) _ x3 from by rw [← hW2]; exact Kd.R_step HO.out (fun k hk _ => Lib.iterAt_other _ _ _ _ _ hk))
          have HB2 := Aside0.mk (show Below w.heap.size w W2 from by rw [← hW2]; exact Lib.below_iterAt HB.out HD.out.below.size _ _)
          have HZ := Aside0.mk (show w1.heap.size < W2.heap.size from (Array.getElem?_eq_some_iff.1 HI2.out).1)
          clear hW2 HI HO HB
          obtain ⟨Ao, co, eo⟩ := Kd.R_slice HO2.out
          subst eo
          go_wp2_with ((with_reducible refine gate_builtin (b := .append) (xs := #[.tmp 12, .tmp 14]) rfl ?_); at_builtin; refine Kd.R_append (Kd.int .i32) (w0 := w) w.heap.size rfl (.tmp 12) (.tmp 14) 34 21 (.int .i32 0) 4 rfl Try.underlying34 info21o rfl (by decide) (by omega) (.slice Ao x3.length co) x3 (((Utf8.decode s pos).1 : Nat) : Int) [.int .i32 (((Utf8.decode s pos).1 : Nat) : Int)] (fun k_ => k_ ≠ w1.heap.size) (fun _ => False) rfl rfl ?aP (fun _ hk => hk.elim) ?aF ?aO ?aB ?aS ?aL ?_; (case aP => exact rfl); (case aB => exact HB2.out); (case aF => exact (fun k_ hk => by have := HZ.out; omega)); (case aO => exact HO2.out); (case aS => exact HB2.out.size); (case aL => have := LM.out; omega); intro v14 w14 ho hb hg hat; have HI3 := Aside0.mk (show w14.heap[w1.heap.size]? = some (.stringIter s (pos + (Utf8.decode s pos).2)) from by rw [hg.block _ HZ.out (fun e => HO2.out.1 _ e.symm rfl)]; exact HI2.out); have HO3 := Aside0.mk ho; have HB3 := Aside0.mk hb; clear HO2 HB2 HI2 HZ ho hb hg hat)
          go_roundg k1
          case measure => have := HK.out; omega
          case rel => exact ⟨_, _, H', ⟨by have := HK.out; omega⟩, HI3, HO3, HB3⟩
        · rw [if_neg d2] at H
          cases H
      · rw [if_neg d1] at H
        have hnx := fun ty => Lib.run_next_end_at (P := Try.prog) wr w1.heap.size s pos ty HI.out d1
        clear d1
        obtain ⟨Ao, co, eo⟩ := Kd.R_slice HO.out
        subst eo
        by_cases d2 : x3.length > 0
        · rw [if_pos d2] at H
          obtain rfl := Option.some.inj H
          clear H
          have d2b : decide ((0 : Int) < (x3.length : Int)) = true := decide_eq_true (by omega)
          have d2c : decide (0 < x3.length) = true := decide_eq_true d2
          clear d2
          go_wp2
          go_ret
          exact ⟨_, rfl, Kd.R_mono HO.out (fun _ _ => trivial), HB.out⟩
        · rw [if_neg d2] at H
          have d2b : decide ((0 : Int) < (x3.length : Int)) = false := decide_eq_false (by omega)
          have d2c : decide (0 < x3.length) = false := decide_eq_false d2
          clear d2
          replace H := Option.bind_eq_some_iff.mp H
          obtain ⟨t, A2, H⟩ := H
          obtain rfl := Option.some.inj H
          clear H
          have A2' := Aside0.mk A2
          clear A2
          go_wp2_with fail
          (with_reducible refine (fold_up.calls k1 a0 t _ A2'.out).mono ?_)
          rintro e w2 ⟨rfl, hd2⟩
          have HB2 := Aside0.mk (below_then HB.out HB.out.size hd2.below)
          clear hd2 HB HO HI
          go_wp2_with ((with_reducible refine gate_dst (N := 24) rfl ?_); refine Kd.R_lit (Kd.int .i32) w.heap.size 21 ?hg (N := 24) ?hd (xs := ([wrap32 (a0 + t)] : List Int)) (inner := [.int .i32 (wrap32 (a0 + t))]) (w0 := w) (ok := fun _ => True) (okp := fun _ => True) ?hr ?hp (fun _ hk => hk) trivial HB2.out HB2.out.size (by simp) ?_; (case hd => rfl); (case hg => rfl); (case hr => first | (go_simp; done) | (go_simp; rfl)); (case hp => exact ⟨rfl, fun j p hj => by cases j with | zero => (have : p = wrap32 (a0 + t) := by simpa using hj.symm); subst this; rfl | succ j => simp at hj⟩); intro v24 w24 ho hb hg hnew; have HO3 := Aside0.mk ho; have HB3 := Aside0.mk hb; clear ho hb hg hnew)
          go_ret
          exact ⟨_, rfl, HO3.out, HB3.out⟩

/-! ### fold_Map: function 22 -/
def fold_Map.l0 : Nat → Bool → List Int → List Int → Int → Int → Option (List Int)
 | 0, _, _, _, _, _ => none
 | k + 1, x0, x5, x8, x9, x10 => if x10 < x9 then (if 0 ≤ x10 then (if x10 < (x8.length : Int) then ((chars_Is.f k (rd x8 x10) (([6] : List Int))).bind fun t282 => (if t282 = true then (fold_Map.l0 k x0 x5 x8 x9 (wrap64 (x10 + 1))) else ((chars_Is.f k (rd x8 x10) (([5] : List Int))).bind fun t286 => (if t286 = true then (if x5.length < 35184372088832 then (fold_Map.l0 k x0 (x5 ++ [32]) x8 x9 (wrap64 (x10 + 1))) else (none)) else (if x0 = true then ((fold_One.f k (rd x8 x10)).bind fun t290 => (if x5.length + t290.length < 35184372088832 then (fold_Map.l0 k x0 (x5 ++ t290) x8 x9 (wrap64 (x10 + 1))) else (none))) else (if x5.length < 35184372088832 then (fold_Map.l0 k x0 (x5 ++ [rd x8 x10]) x8 x9 (wrap64 (x10 + 1))) else (none))))))) else (none)) else (none)) else (some x5)
def fold_Map.f (k : Nat) (a0 : Bool) (l1 : List Int) : Option (List Int) := fold_Map.l0 k a0 ([] : List Int) l1 (l1.length : Int) 0
theorem fold_Map.mono_l : ∀ k, (∀ y0 y1 y2 y3 y4, LeO (fold_Map.l0 k y0 y1 y2 y3 y4) (fold_Map.l0 (k + 1) y0 y1 y2 y3 y4))
 | 0 => fun _ _ _ _ _ r h => by simp [fold_Map.l0] at h
 | k + 1 => by
  have ih0 := fold_Map.mono_l k
  ·intro y0 y1 y2 y3 y4
   unfold fold_Map.l0
   repeat' first
   | (with_reducible exact ih0 _ _ _ _ _)
   | (with_reducible exact chars_Is.mono _ _ _)
   | (with_reducible exact fold_One.mono _ _)
   | (with_reducible exact LeO.refl _)
   | exact ih0 _ _ _ _ _
   | exact chars_Is.mono _ _ _
   | exact fold_One.mono _ _
   | exact LeO.none _
   | refine LeO.ite ?_ ?_
   | refine LeO.bind ?_ (fun _ => ?_)
theorem fold_Map.mono : ∀ a0 a1 k, LeO (fold_Map.f k a0 a1) (fold_Map.f (k + 1) a0 a1) := by
 intro a0 a1 k
 have ih0 := fold_Map.mono_l k
 unfold fold_Map.f
 repeat' first
   | (with_reducible exact ih0 _ _ _ _ _)
   | (with_reducible exact chars_Is.mono _ _ _)
   | (with_reducible exact fold_One.mono _ _)
   | (with_reducible exact LeO.refl _)
   | exact ih0 _ _ _ _ _
   | exact chars_Is.mono _ _ _
   | exact fold_One.mono _ _
   | exact LeO.none _
   | refine LeO.ite ?_ ?_
   | refine LeO.bind ?_ (fun _ => ?_)
set_option maxHeartbeats 8000000 in
set_option maxRecDepth 100000 in
theorem fold_Map.calls (k : Nat) (a0 : Bool) (A1 : Option Addr) (c1 : Nat) (l1 : List Int) (r : List Int) (w : World) (hr1 : Kd.C (Kd.int .i32) w A1 l1.length l1) (hc1 : l1.length ≤ c1) (h : fold_Map.f k a0 l1 = some r) :
  Calls Try.prog 22 #[.bool a0, .slice A1 l1.length c1] w fun e w' => ∃ v0_ : Value, e = .returned (v0_) ∧ Kd.R (Kd.int .i32) 21 w' w.heap.size (fun _ => True) v0_ r ∧ Below w.heap.size w w' := by
 have HR1 := aM hr1
 have HC1 := aM hc1
 clear hr1 hc1
 have HB := aM (Below.refl w.heap.size w)
 have H := h
 clear h
 unfold fold_Map.f at H
 have H' := aM H
 clear H
 go_enter Try.func22, Try.ntmps22
 go_wp2
 (repeat (go_step3; try (go_wp2)))
 go_loopg [5, 10] k (fun kq v5 v10 w' => ∃ (x5_1 : List Int) (x10_1 : Int), v10 = .int .i64 x10_1 ∧ Aside0 (fold_Map.l0 kq a0 x5_1 l1 (l1.length : Int) x10_1 = some r) ∧ Aside0 (kq ≤ k) ∧ Aside0 (Kd.R (Kd.int .i32) 21 w' w.heap.size (fun _ => True) v5 x5_1) ∧ Aside0 (Below w.heap.size w w'))
 case atStart => exact ⟨(([] : List Int)), (0), zP, H', ⟨Nat.le_refl _⟩, ⟨zL⟩, ⟨zB⟩⟩
 case round =>
  clear H'
  try clear c1
  try clear c2
  try clear p2
  obtain ⟨x5_1, x10_1, rfl, HA, HK1, HO_5, HB⟩ := hrel
  cases gk with
  | zero => exact absurd HA.out (by simp [fold_Map.l0])
  | succ k1 =>
   have H := HA.out
   clear HA
   simp only [fold_Map.l0] at H
   by_cases c3 : x10_1 < (l1.length : Int)
   ·rw [if_pos c3] at H
    have c3b0 : decide (x10_1 < (l1.length : Int)) = true := decide_eq_true c3
    clear c3
    by_cases c4 : 0 ≤ x10_1
    ·rw [if_pos c4] at H
     have c4b0 : decide (0 ≤ x10_1) = true := decide_eq_true c4
     clear c4
     by_cases c5 : x10_1 < (l1.length : Int)
     ·rw [if_pos c5] at H
      have c5b0 : decide (x10_1 < (l1.length : Int)) = true := decide_eq_true c5
      clear c5
      obtain ⟨y279, hy279⟩ : ∃ y_ : List Int, y_ = (([6] : List Int)) := ⟨_, rfl⟩
      replace H : ((chars_Is.f k1 (rd l1 x10_1) y279).bind fun t282 => (if t282 = true then (fold_Map.l0 k1 a0 x5_1 l1 (l1.length : Int) (wrap64 (x10_1 + 1))) else ((chars_Is.f k1 (rd l1 x10_1) (([5] : List Int))).bind fun t286 => (if t286 = true then (if x5_1.length < 35184372088832 then (fold_Map.l0 k1 a0 (x5_1 ++ [32]) l1 (l1.length : Int) (wrap64 (x10_1 + 1))) else (none)) else (if a0 = true then ((fold_One.f k1 (rd l1 x10_1)).bind fun t290 => (if x5_1.length + t290.length < 35184372088832 then (fold_Map.l0 k1 a0 (x5_1 ++ t290) l1 (l1.length : Int) (wrap64 (x10_1 + 1))) else (none))) else (if x5_1.length < 35184372088832 then (fold_Map.l0 k1 a0 (x5_1 ++ [rd l1 x10_1]) l1 (l1.length : Int) (wrap64 (x10_1 + 1))) else (none))))))) = some r := zY hy279 H
      have Ny279 := aM hy279
      clear hy279
      obtain ⟨t282, A6, H⟩ := zO H
      by_cases c7 : t282 = true
      ·subst c7
       rw [if_pos rfl] at H
       have H' := aM H
       clear H
       have p278 : 0 ≤ (x10_1 : Int) := zoA
       have q278 : x10_1 < (l1.length : Int) := zoA
       obtain ⟨ad278, e278, hx278_0⟩ := Kd.at_int HR1.out x10_1 p278 q278
       cases e278
       replace hx278_0 := (HB.out.cell (World.block_lt_of_cell? w _ hx278_0)).trans hx278_0
       replace p278 := eq_true p278
       replace q278 := eq_true q278
       go_wp2_with (first | ((with_reducible refine gate_dst (N := 20) rfl ?_); refine Kd.R_lit (Kd.int .i64) _ 3 ?hg (N := 20) ?hd (xs := ([6] : List Int)) (inner := [.int .i64 6]) (ok := fun _ => True) (okp := fun _ => True) ?hr ?hp (fun _ hk => hk) trivial (Below.refl _ _) (Nat.le_refl _) (by simp) ?_; (case hd => rfl); (case hg => rfl); (case hr => first | (go_simp; done) | (go_simp; rfl)); (case hp => exact (Reps.one (show Kd.M (Kd.int .i64) _ _ _ 6 [.int .i64 6] from rfl) (Reps.none _ _))); intro v280 w8 ho9 hb hg_ hnew_; clear hg_ hnew_; (first | rw [← Ny279.out] at ho9 | (simp only [Int.reduceToNat] at ho9; rw [← Ny279.out] at ho9)); have n_ := zI (aM (Kd.R_below (zR HO_5) hb)) (zI (aM (Kd.R_lower ho9 (below_size zB))) (aM (below_step zB hb))); clear HO_5 HB; obtain ⟨HO_5, HO281, HB⟩ := n_; clear hb ho9; obtain ⟨Ao10, co10, rfl⟩ := Kd.R_slice HO281.out) | ((with_reducible refine gate_callee (f := 34) rfl ?_); refine goesL_ (some 21) rfl rfl Try.func34 zK rfl #[.int .i32 (rd l1 x10_1), .slice Ao10 y279.length co10] rfl zM ?_; (with_reducible refine (chars_Is.calls k1 (rd l1 x10_1) _ _ y279 true _ ?side1 ?side2 A6.out).mono ?_); (case side1 => exact zC (Kd.R_reads' HO281.out).2.2); (case side2 => exact (Kd.R_reads' HO281.out).2.1); rintro e w' ⟨rfl, ⟨nd, rfl⟩⟩; (try clear A6); refine ⟨_, rfl, ?_⟩))
       go_roundg k1
       case measure => have := HK1.out; omega
       case rel => exact ⟨(x5_1), (wrap64 (x10_1 + 1)), zP, H', ⟨by have := HK1.out; omega⟩, ⟨zR HO_5⟩, ⟨zB⟩⟩
      ·replace c7 := Bool.eq_false_iff.mpr c7
       subst c7
       rw [if_neg (show ¬ (false = true) by decide)] at H
       obtain ⟨y283, hy283⟩ : ∃ y_ : List Int, y_ = (([5] : List Int)) := ⟨_, rfl⟩
       replace H : ((chars_Is.f k1 (rd l1 x10_1) y283).bind fun t286 => (if t286 = true then (if x5_1.length < 35184372088832 then (fold_Map.l0 k1 a0 (x5_1 ++ [32]) l1 (l1.length : Int) (wrap64 (x10_1 + 1))) else (none)) else (if a0 = true then ((fold_One.f k1 (rd l1 x10_1)).bind fun t290 => (if x5_1.length + t290.length < 35184372088832 then (fold_Map.l0 k1 a0 (x5_1 ++ t290) l1 (l1.length : Int) (wrap64 (x10_1 + 1))) else (none))) else (if x5_1.length < 35184372088832 then (fold_Map.l0 k1 a0 (x5_1 ++ [rd l1 x10_1]) l1 (l1.length : Int) (wrap64 (x10_1 + 1))) else (none))))) = some r := zY hy283 H
       have Ny283 := aM hy283
       clear hy283
       obtain ⟨t286, A11, H⟩ := zO H
       by_cases c12 : t286 = true
       ·subst c12
        rw [if_pos rfl] at H
        by_cases c13 : x5_1.length < 35184372088832
        ·rw [if_pos c13] at H
         have LMc13 := aM c13
         clear c13
         obtain ⟨y287, hy287⟩ : ∃ y_ : List Int, y_ = (x5_1 ++ [32]) := ⟨_, rfl⟩
         replace H : (fold_Map.l0 k1 a0 y287 l1 (l1.length : Int) (wrap64 (x10_1 + 1))) = some r := zY hy287 H
         have Ny287 := aM hy287
         clear hy287
         have H' := aM H
         clear H
         have p278 : 0 ≤ (x10_1 : Int) := zoA
         have q278 : x10_1 < (l1.length : Int) := zoA
         obtain ⟨ad278, e278, hx278_0⟩ := Kd.at_int HR1.out x10_1 p278 q278
         cases e278
         replace hx278_0 := (HB.out.cell (World.block_lt_of_cell? w _ hx278_0)).trans hx278_0
         replace p278 := eq_true p278
         replace q278 := eq_true q278
         go_wp2_with (first | ((with_reducible refine gate_dst (N := 20) rfl ?_); refine Kd.R_lit (Kd.int .i64) _ 3 ?hg (N := 20) ?hd (xs := ([6] : List Int)) (inner := [.int .i64 6]) (ok := fun _ => True) (okp := fun _ => True) ?hr ?hp (fun _ hk => hk) trivial (Below.refl _ _) (Nat.le_refl _) (by simp) ?_; (case hd => rfl); (case hg => rfl); (case hr => first | (go_simp; done) | (go_simp; rfl)); (case hp => exact (Reps.one (show Kd.M (Kd.int .i64) _ _ _ 6 [.int .i64 6] from rfl) (Reps.none _ _))); intro v280 w14 ho15 hb hg_ hnew_; clear hg_ hnew_; (first | rw [← Ny279.out] at ho15 | (simp only [Int.reduceToNat] at ho15; rw [← Ny279.out] at ho15)); have n_ := zI (aM (Kd.R_below (zR HO_5) hb)) (zI (aM (Kd.R_lower ho15 (below_size zB))) (aM (below_step zB hb))); clear HO_5 HB; obtain ⟨HO_5, HO281, HB⟩ := n_; clear hb ho15; obtain ⟨Ao16, co16, rfl⟩ := Kd.R_slice HO281.out) | ((with_reducible refine gate_callee (f := 34) rfl ?_); refine goesL_ (some 21) rfl rfl Try.func34 zK rfl #[.int .i32 (rd l1 x10_1), .slice Ao16 y279.length co16] rfl zM ?_; (with_reducible refine (chars_Is.calls k1 (rd l1 x10_1) _ _ y279 false _ ?side1 ?side2 A6.out).mono ?_); (case side1 => exact zC (Kd.R_reads' HO281.out).2.2); (case side2 => exact (Kd.R_reads' HO281.out).2.1); rintro e w' ⟨rfl, ⟨nd, rfl⟩⟩; (try clear A6); refine ⟨_, rfl, ?_⟩) | ((with_reducible refine gate_dst (N := 24) rfl ?_); refine Kd.R_lit (Kd.int .i64) _ 3 ?hg (N := 24) ?hd (xs := ([5] : List Int)) (inner := [.int .i64 5]) (ok := fun _ => True) (okp := fun _ => True) ?hr ?hp (fun _ hk => hk) trivial (Below.refl _ _) (Nat.le_refl _) (by simp) ?_; (case hd => rfl); (case hg => rfl); (case hr => first | (go_simp; done) | (go_simp; rfl)); (case hp => exact (Reps.one (show Kd.M (Kd.int .i64) _ _ _ 5 [.int .i64 5] from rfl) (Reps.none _ _))); intro v284 w17 ho18 hb hg_ hnew_; clear hg_ hnew_; (first | rw [← Ny283.out] at ho18 | (simp only [Int.reduceToNat] at ho18; rw [← Ny283.out] at ho18)); have n_ := zI (aM (Kd.R_below (zR HO_5) hb)) (zI (aM (Kd.R_elder' (zR HO281) (Kd.R_base ho18) hb)) (zI (aM (Kd.R_lower (Kd.R_new' ho18 (Kd.R_lt (zR HO281))) (below_size zB))) (aM (below_step zB hb)))); clear HO_5 HO281 HB; obtain ⟨HO_5, HO281, HO285, HB⟩ := n_; clear hb ho18; obtain ⟨Ao19, co19, rfl⟩ := Kd.R_slice HO285.out) | ((with_reducible refine gate_callee (f := 34) rfl ?_); refine goesL_ (some 25) rfl rfl Try.func34 zK rfl #[.int .i32 (rd l1 x10_1), .slice Ao19 y283.length co19] rfl zM ?_; (with_reducible refine (chars_Is.calls k1 (rd l1 x10_1) _ _ y283 true _ ?side1 ?side2 A11.out).mono ?_); (case side1 => exact zC (Kd.R_reads' HO285.out).2.2); (case side2 => exact (Kd.R_reads' HO285.out).2.1); rintro e w' ⟨rfl, ⟨nd, rfl⟩⟩; (try clear A11); refine ⟨_, rfl, ?_⟩) | ((with_reducible refine gate_builtin (b := .append) (xs := #[.tmp 26, .tmp 27]) rfl ?_); at_builtin; refine Kd.R_append (Kd.int .i32) (w0 := w) w.heap.size rfl (.tmp 26) (.tmp 27) 34 21 (.int .i32 0) 4 rfl Try.underlying34 info21 rfl (by decide) (by omega) u5 x5_1 32 [.int .i32 32] (fun _ => True) (fun _ => False) rfl rfl ?aP (fun _ hk => hk.elim) ?aF ?aO ?aB ?aS ?aL ?_; (case aP => exact rfl); (case aB => exact zB); (case aF => exact (fun _ _ => trivial)); (case aO => exact (zR HO_5)); (case aS => exact (below_size zB)); (case aL => have := LMc13.out; omega); intro v288 w20 ho hb hg hat; rw [← Ny287.out] at ho; have n_ := zI (aM (Kd.R_over' (zR HO281) (Kd.R_typed (zR HO_5)) (by decide) hg)) (zI (aM (Kd.R_over' (zR HO285) (Kd.R_typed (zR HO_5)) (by decide) hg)) (zI (aM (hb)) (aM (ho)))); clear HO281 HO285 HB HO_5; obtain ⟨HO281, HO285, HB, HO289⟩ := n_; clear ho hb hg hat))
         go_roundg k1
         case measure => have := HK1.out; omega
         case rel => exact ⟨(y287), (wrap64 (x10_1 + 1)), zP, H', ⟨by have := HK1.out; omega⟩, ⟨zR HO289⟩, ⟨zB⟩⟩
        ·rw [if_neg c13] at H
         exact absurd H (by simp)
       ·replace c12 := Bool.eq_false_iff.mpr c12
        subst c12
        rw [if_neg (show ¬ (false = true) by decide)] at H
        by_cases c21 : a0 = true
        ·subst c21
         rw [if_pos rfl] at H
         obtain ⟨t290, A22, H⟩ := zO H
         by_cases c23 : x5_1.length + t290.length < 35184372088832
         ·rw [if_pos c23] at H
          have LMc23 := aM c23
          clear c23
          obtain ⟨y293, hy293⟩ : ∃ y_ : List Int, y_ = (x5_1 ++ t290) := ⟨_, rfl⟩
          replace H : (fold_Map.l0 k1 true y293 l1 (l1.length : Int) (wrap64 (x10_1 + 1))) = some r := zY hy293 H
          have Ny293 := aM hy293
          clear hy293
          have H' := aM H
          clear H
          have p278 : 0 ≤ (x10_1 : Int) := zoA
          have q278 : x10_1 < (l1.length : Int) := zoA
          obtain ⟨ad278, e278, hx278_0⟩ := Kd.at_int HR1.out x10_1 p278 q278
          cases e278
          replace hx278_0 := (HB.out.cell (World.block_lt_of_cell? w _ hx278_0)).trans hx278_0
          replace p278 := eq_true p278
          replace q278 := eq_true q278
          go_wp2_with (first | ((with_reducible refine gate_dst (N := 20) rfl ?_); refine Kd.R_lit (Kd.int .i64) _ 3 ?hg (N := 20) ?hd (xs := ([6] : List Int)) (inner := [.int .i64 6]) (ok := fun _ => True) (okp := fun _ => True) ?hr ?hp (fun _ hk => hk) trivial (Below.refl _ _) (Nat.le_refl _) (by simp) ?_; (case hd => rfl); (case hg => rfl); (case hr => first | (go_simp; done) | (go_simp; rfl)); (case hp => exact (Reps.one (show Kd.M (Kd.int .i64) _ _ _ 6 [.int .i64 6] from rfl) (Reps.none _ _))); intro v280 w24 ho25 hb hg_ hnew_; clear hg_ hnew_; (first | rw [← Ny279.out] at ho25 | (simp only [Int.reduceToNat] at ho25; rw [← Ny279.out] at ho25)); have n_ := zI (aM (Kd.R_below (zR HO_5) hb)) (zI (aM (Kd.R_lower ho25 (below_size zB))) (aM (below_step zB hb))); clear HO_5 HB; obtain ⟨HO_5, HO281, HB⟩ := n_; clear hb ho25; obtain ⟨Ao26, co26, rfl⟩ := Kd.R_slice HO281.out) | ((with_reducible refine gate_callee (f := 34) rfl ?_); refine goesL_ (some 21) rfl rfl Try.func34 zK rfl #[.int .i32 (rd l1 x10_1), .slice Ao26 y279.length co26] rfl zM ?_; (with_reducible refine (chars_Is.calls k1 (rd l1 x10_1) _ _ y279 false _ ?side1 ?side2 A6.out).mono ?_); (case side1 => exact zC (Kd.R_reads' HO281.out).2.2); (case side2 => exact (Kd.R_reads' HO281.out).2.1); rintro e w' ⟨rfl, ⟨nd, rfl⟩⟩; (try clear A6); refine ⟨_, rfl, ?_⟩) | ((with_reducible refine gate_dst (N := 24) rfl ?_); refine Kd.R_lit (Kd.int .i64) _ 3 ?hg (N := 24) ?hd (xs := ([5] : List Int)) (inner := [.int .i64 5]) (ok := fun _ => True) (okp := fun _ => True) ?hr ?hp (fun _ hk => hk) trivial (Below.refl _ _) (Nat.le_refl _) (by simp) ?_; (case hd => rfl); (case hg => rfl); (case hr => first | (go_simp; done) | (go_simp; rfl)); (case hp => exact (Reps.one (show Kd.M (Kd.int .i64) _ _ _ 5 [.int .i64 5] from rfl) (Reps.none _ _))); intro v284 w27 ho28 hb hg_ hnew_; clear hg_ hnew_; (first | rw [← Ny283.out] at ho28 | (simp only [Int.reduceToNat] at ho28; rw [← Ny283.out] at ho28)); have n_ := zI (aM (Kd.R_below (zR HO_5) hb)) (zI (aM (Kd.R_elder' (zR HO281) (Kd.R_base ho28) hb)) (zI (aM (Kd.R_lower (Kd.R_new' ho28 (Kd.R_lt (zR HO281))) (below_size zB))) (aM (below_step zB hb)))); clear HO_5 HO281 HB; obtain ⟨HO_5, HO281, HO285, HB⟩ := n_; clear hb ho28; obtain ⟨Ao29, co29, rfl⟩ := Kd.R_slice HO285.out) | ((with_reducible refine gate_callee (f := 34) rfl ?_); refine goesL_ (some 25) rfl rfl Try.func34 zK rfl #[.int .i32 (rd l1 x10_1), .slice Ao29 y283.length co29] rfl zM ?_; (with_reducible refine (chars_Is.calls k1 (rd l1 x10_1) _ _ y283 false _ ?side1 ?side2 A11.out).mono ?_); (case side1 => exact zC (Kd.R_reads' HO285.out).2.2); (case side2 => exact (Kd.R_reads' HO285.out).2.1); rintro e w' ⟨rfl, ⟨nd, rfl⟩⟩; (try clear A11); refine ⟨_, rfl, ?_⟩) | ((with_reducible refine gate_callee (f := 35) rfl ?_); refine goesL_ (some 33) rfl rfl Try.func35 zK rfl #[.int .i32 (rd l1 x10_1)] rfl zM ?_; (with_reducible refine (fold_One.calls k1 (rd l1 x10_1) t290 _ A22.out).mono ?_); rintro e w30 ⟨v291, rfl, ho0, hb⟩; refine ⟨_, rfl, ?_⟩; have n_ := zI (aM (Kd.R_elder' (zR HO_5) (Kd.R_base ho0) hb)) (zI (aM (Kd.R_below (zR HO281) hb)) (zI (aM (Kd.R_below (zR HO285) hb)) (zI (aM (Kd.R_lower (Kd.R_new' ho0 (Kd.R_lt (zR HO_5))) (below_size zB))) (aM (below_step zB hb))))); clear HO_5 HO281 HO285 HB; obtain ⟨HO_5, HO281, HO285, HO292, HB⟩ := n_; (try clear hb); (try clear hk); (try clear ho0); obtain ⟨Ao32, co32, rfl⟩ := Kd.R_slice HO292.out) | ((with_reducible refine gate_builtin (b := .append) (xs := #[.tmp 31, .tmp 33]) rfl ?_); at_builtin; refine Kd.R_append_rows (Kd.int .i32) (w0 := w) w.heap.size rfl (.tmp 31) (.tmp 33) 34 21 (.int .i32 0) 4 rfl Try.underlying34 info21 rfl (by decide) (by omega) u5 x5_1 t290 _ _ _ (fun k_ => some k_ ≠ (.slice Ao32 t290.length co32 : Value).ownBlock) (fun _ => False) rfl rfl ?aO ?aR (fun _ _ h => h) (fun _ h => h.elim) ?aF ?aB ?aS ?aL ?_; (case aR => repeat (first | exact (Kd.R_reads' HO292.out).2.2 | (with_reducible refine Kd.C_alloc ?_ _) | (with_reducible refine Kd.C_drewN ?_ _) | (with_reducible refine Kd.C_drew ?_))); (case aB => exact zB); (case aF => exact (fun k_ hk => Kd.fresh' (Kd.R_lt (zR HO292)) k_ hk)); (case aO => exact (by (with_reducible repeat (first | apply Kd.R_alloc | apply Kd.R_drewN | apply Kd.R_drew)); exact Kd.R_mono HO_5.out (fun _ hk => hk.2))); (case aS => exact (below_size zB)); (case aL => have := LMc23.out; omega); intro v294 w31 ho hb hg hat; rw [← Ny293.out] at ho; have n_ := zI (aM (Kd.R_over' (zR HO281) (Kd.R_typed (zR HO_5)) (by decide) hg)) (zI (aM (Kd.R_over' (zR HO285) (Kd.R_typed (zR HO_5)) (by decide) hg)) (zI (aM (Kd.R_after (ok := (fun _ => True)) (zR HO292) hg hat)) (zI (aM (hb)) (aM (ho))))); clear HO281 HO285 HO292 HB HO_5; obtain ⟨HO281, HO285, HO292, HB, HO295⟩ := n_; clear ho hb hg hat))
          go_roundg k1
          case measure => have := HK1.out; omega
          case rel => exact ⟨(y293), (wrap64 (x10_1 + 1)), zP, H', ⟨by have := HK1.out; omega⟩, ⟨by (with_reducible repeat (first | apply Kd.R_alloc | apply Kd.R_drewN | apply Kd.R_drew)); exact Kd.R_mono HO295.out (fun _ hk => trivial)⟩, ⟨zB⟩⟩
         ·rw [if_neg c23] at H
          exact absurd H (by simp)
        ·replace c21 := Bool.eq_false_iff.mpr c21
         subst c21
         rw [if_neg (show ¬ (false = true) by decide)] at H
         by_cases c33 : x5_1.length < 35184372088832
         ·rw [if_pos c33] at H
          have LMc33 := aM c33
          clear c33
          obtain ⟨y296, hy296⟩ : ∃ y_ : List Int, y_ = (x5_1 ++ [rd l1 x10_1]) := ⟨_, rfl⟩
          replace H : (fold_Map.l0 k1 false y296 l1 (l1.length : Int) (wrap64 (x10_1 + 1))) = some r := zY hy296 H
          have Ny296 := aM hy296
          clear hy296
          have H' := aM H
          clear H
          have p278 : 0 ≤ (x10_1 : Int) := zoA
          have q278 : x10_1 < (l1.length : Int) := zoA
          obtain ⟨ad278, e278, hx278_0⟩ := Kd.at_int HR1.out x10_1 p278 q278
          cases e278
          replace hx278_0 := (HB.out.cell (World.block_lt_of_cell? w _ hx278_0)).trans hx278_0
          replace p278 := eq_true p278
          replace q278 := eq_true q278
          go_wp2_with (first | ((with_reducible refine gate_dst (N := 20) rfl ?_); refine Kd.R_lit (Kd.int .i64) _ 3 ?hg (N := 20) ?hd (xs := ([6] : List Int)) (inner := [.int .i64 6]) (ok := fun _ => True) (okp := fun _ => True) ?hr ?hp (fun _ hk => hk) trivial (Below.refl _ _) (Nat.le_refl _) (by simp) ?_; (case hd => rfl); (case hg => rfl); (case hr => first | (go_simp; done) | (go_simp; rfl)); (case hp => exact (Reps.one (show Kd.M (Kd.int .i64) _ _ _ 6 [.int .i64 6] from rfl) (Reps.none _ _))); intro v280 w34 ho35 hb hg_ hnew_; clear hg_ hnew_; (first | rw [← Ny279.out] at ho35 | (simp only [Int.reduceToNat] at ho35; rw [← Ny279.out] at ho35)); have n_ := zI (aM (Kd.R_below (zR HO_5) hb)) (zI (aM (Kd.R_lower ho35 (below_size zB))) (aM (below_step zB hb))); clear HO_5 HB; obtain ⟨HO_5, HO281, HB⟩ := n_; clear hb ho35; obtain ⟨Ao36, co36, rfl⟩ := Kd.R_slice HO281.out) | ((with_reducible refine gate_callee (f := 34) rfl ?_); refine goesL_ (some 21) rfl rfl Try.func34 zK rfl #[.int .i32 (rd l1 x10_1), .slice Ao36 y279.length co36] rfl zM ?_; (with_reducible refine (chars_Is.calls k1 (rd l1 x10_1) _ _ y279 false _ ?side1 ?side2 A6.out).mono ?_); (case side1 => exact zC (Kd.R_reads' HO281.out).2.2); (case side2 => exact (Kd.R_reads' HO281.out).2.1); rintro e w' ⟨rfl, ⟨nd, rfl⟩⟩; (try clear A6); refine ⟨_, rfl, ?_⟩) | ((with_reducible refine gate_dst (N := 24) rfl ?_); refine Kd.R_lit (Kd.int .i64) _ 3 ?hg (N := 24) ?hd (xs := ([5] : List Int)) (inner := [.int .i64 5]) (ok := fun _ => True) (okp := fun _ => True) ?hr ?hp (fun _ hk => hk) trivial (Below.refl _ _) (Nat.le_refl _) (by simp) ?_; (case hd => rfl); (case hg => rfl); (case hr => first | (go_simp; done) | (go_simp; rfl)); (case hp => exact (Reps.one (show Kd.M (Kd.int .i64) _ _ _ 5 [.int .i64 5] from rfl) (Reps.none _ _))); intro v284 w37 ho38 hb hg_ hnew_; clear hg_ hnew_; (first | rw [← Ny283.out] at ho38 | (simp only [Int.reduceToNat] at ho38; rw [← Ny283.out] at ho38)); have n_ := zI (aM (Kd.R_below (zR HO_5) hb)) (zI (aM (Kd.R_elder' (zR HO281) (Kd.R_base ho38) hb)) (zI (aM (Kd.R_lower (Kd.R_new' ho38 (Kd.R_lt (zR HO281))) (below_size zB))) (aM (below_step zB hb)))); clear HO_5 HO281 HB; obtain ⟨HO_5, HO281, HO285, HB⟩ := n_; clear hb ho38; obtain ⟨Ao39, co39, rfl⟩ := Kd.R_slice HO285.out) | ((with_reducible refine gate_callee (f := 34) rfl ?_); refine goesL_ (some 25) rfl rfl Try.func34 zK rfl #[.int .i32 (rd l1 x10_1), .slice Ao39 y283.length co39] rfl zM ?_; (with_reducible refine (chars_Is.calls k1 (rd l1 x10_1) _ _ y283 false _ ?side1 ?side2 A11.out).mono ?_); (case side1 => exact zC (Kd.R_reads' HO285.out).2.2); (case side2 => exact (Kd.R_reads' HO285.out).2.1); rintro e w' ⟨rfl, ⟨nd, rfl⟩⟩; (try clear A11); refine ⟨_, rfl, ?_⟩) | ((with_reducible refine gate_builtin (b := .append) (xs := #[.tmp 14, .tmp 16]) rfl ?_); at_builtin; refine Kd.R_append (Kd.int .i32) (w0 := w) w.heap.size rfl (.tmp 14) (.tmp 16) 34 21 (.int .i32 0) 4 rfl Try.underlying34 info21 rfl (by decide) (by omega) u5 x5_1 (rd l1 x10_1) [.int .i32 (rd l1 x10_1)] (fun _ => True) (fun _ => False) rfl rfl ?aP (fun _ hk => hk.elim) ?aF ?aO ?aB ?aS ?aL ?_; (case aP => exact rfl); (case aB => exact zB); (case aF => exact (fun _ _ => trivial)); (case aO => exact (zR HO_5)); (case aS => exact (below_size zB)); (case aL => have := LMc33.out; omega); intro v297 w40 ho hb hg hat; rw [← Ny296.out] at ho; have n_ := zI (aM (Kd.R_over' (zR HO281) (Kd.R_typed (zR HO_5)) (by decide) hg)) (zI (aM (Kd.R_over' (zR HO285) (Kd.R_typed (zR HO_5)) (by decide) hg)) (zI (aM (hb)) (aM (ho)))); clear HO281 HO285 HB HO_5; obtain ⟨HO281, HO285, HB, HO298⟩ := n_; clear ho hb hg hat))
          go_roundg k1
          case measure => have := HK1.out; omega
          case rel => exact ⟨(y296), (wrap64 (x10_1 + 1)), zP, H', ⟨by have := HK1.out; omega⟩, ⟨zR HO298⟩, ⟨zB⟩⟩
         ·rw [if_neg c33] at H
          exact absurd H (by simp)
     ·rw [if_neg c5] at H
      exact absurd H (by simp)
    ·rw [if_neg c4] at H
     exact absurd H (by simp)
   ·rw [if_neg c3] at H
    have c3b0 : decide (x10_1 < (l1.length : Int)) = false := decide_eq_false c3
    clear c3
    obtain rfl := sI H
    go_wp2
    (try rw [Exit.noGoto_ret])
    go_ret
    exact ⟨_, zE, zR HO_5, zB⟩

/-! ### blanks_bare: function 55 -/
def blanks_bare.f (k : Nat) (l0 : List Int) (a1 : Int) : Option (Bool) := if (wrap64 (a1 + 1)) = (l0.length : Int) then (some true) else (if 0 ≤ (wrap64 (a1 + 1)) then (if (wrap64 (a1 + 1)) < (l0.length : Int) then ((chars_Is.f k (rd l0 (wrap64 (a1 + 1))) (([3] : List Int))).bind fun t303 => (some (!t303))) else (none)) else (none))
theorem blanks_bare.mono : ∀ a0 a1 k, LeO (blanks_bare.f k a0 a1) (blanks_bare.f (k + 1) a0 a1) := by
 intro a0 a1 k
 unfold blanks_bare.f
 repeat' first
   | (with_reducible exact chars_Is.mono _ _ _)
   | (with_reducible exact LeO.refl _)
   | exact chars_Is.mono _ _ _
   | exact LeO.none _
   | refine LeO.ite ?_ ?_
   | refine LeO.bind ?_ (fun _ => ?_)
set_option maxHeartbeats 8000000 in
set_option maxRecDepth 100000 in
theorem blanks_bare.calls (k : Nat) (A0 : Option Addr) (c0 : Nat) (l0 : List Int) (a1 : Int) (r : Bool) (w : World) (hr0 : Kd.C (Kd.int .i32) w A0 l0.length l0) (hc0 : l0.length ≤ c0) (h : blanks_bare.f k l0 a1 = some r) :
  Calls Try.prog 55 #[.slice A0 l0.length c0, .int .i64 a1] w fun e w' => e = .returned (.bool r) ∧ Below w.heap.size w w' := by
 have HR0 := aM hr0
 have HC0 := aM hc0
 clear hr0 hc0
 have HB := aM (Below.refl w.heap.size w)
 have H := h
 clear h
 unfold blanks_bare.f at H
 by_cases c3 : (wrap64 (a1 + 1)) = (l0.length : Int)
 ·rw [if_pos c3] at H
  have c3b0 : ((wrap64 (a1 + 1)) == (l0.length : Int)) = true := beq_iff_eq.mpr c3
  have c3b1 : ((wrap64 (a1 + 1)) != (l0.length : Int)) = false := bne_eq_false_iff_eq.mpr c3
  clear c3
  obtain rfl := sI H
  go_enter Try.func55, Try.ntmps55
  go_wp2
  go_ret
  exact ⟨zE, zB⟩
 ·rw [if_neg c3] at H
  have c3b0 : ((wrap64 (a1 + 1)) == (l0.length : Int)) = false := beq_eq_false_iff_ne.mpr c3
  have c3b1 : ((wrap64 (a1 + 1)) != (l0.length : Int)) = true := bne_iff_ne.mpr c3
  obtain ⟨ji4, hji4⟩ : ∃ j_ : Int, (wrap64 (a1 + 1)) = j_ := ⟨_, rfl⟩
  replace H : (if 0 ≤ (ji4) then (if (ji4) < (l0.length : Int) then ((chars_Is.f k (rd l0 (ji4)) (([3] : List Int))).bind fun t303 => (some (!t303))) else (none)) else (none)) = some r := by first | (rw [hji4] at H; exact H) | (simp only [hji4] at H ⊢; exact H)
  (try rw [hji4] at c3b0)
  (try rw [hji4] at c3b1)
  have hji4w : (IntKind.i64.wrap (a1 + 1)) = ji4 := (i64_w _).trans hji4
  by_cases c5 : 0 ≤ (ji4)
  ·rw [if_pos c5] at H
   have c5b0 : decide (0 ≤ (ji4)) = true := decide_eq_true c5
   clear c5
   by_cases c6 : (ji4) < (l0.length : Int)
   ·rw [if_pos c6] at H
    have c6b0 : decide ((ji4) < (l0.length : Int)) = true := decide_eq_true c6
    clear c6
    obtain ⟨y300, hy300⟩ : ∃ y_ : List Int, y_ = (([3] : List Int)) := ⟨_, rfl⟩
    replace H : ((chars_Is.f k (rd l0 (ji4)) y300).bind fun t303 => (some (!t303))) = some r := zY hy300 H
    have Ny300 := aM hy300
    clear hy300
    obtain ⟨t303, A7, H⟩ := zO H
    obtain rfl := sI H
    have p299 : 0 ≤ ((ji4) : Int) := zoA
    have q299 : (ji4) < (l0.length : Int) := zoA
    obtain ⟨ad299, e299, hx299_0⟩ := Kd.at_int HR0.out (ji4) p299 q299
    cases e299
    replace p299 := eq_true p299
    replace q299 := eq_true q299
    go_enter Try.func55, Try.ntmps55
    go_wp2_with (first | ((with_reducible refine gate_dst (N := 16) rfl ?_); (try (refine gate_guard (by rfl) ?_; dsimp only)); refine Kd.R_lit (Kd.int .i64) _ 3 ?hg (N := 16) ?hd (xs := ([3] : List Int)) (inner := [.int .i64 3]) (ok := fun _ => True) (okp := fun _ => True) ?hr ?hp (fun _ hk => hk) trivial (Below.refl _ _) (Nat.le_refl _) (by simp) ?_; (case hd => rfl); (case hg => rfl); (case hr => first | (go_simp; done) | (go_simp; rfl)); (case hp => exact (Reps.one (show Kd.M (Kd.int .i64) _ _ _ 3 [.int .i64 3] from rfl) (Reps.none _ _))); intro v301 w8 ho9 hb hg_ hnew_; clear hg_ hnew_; (first | rw [← Ny300.out] at ho9 | (simp only [Int.reduceToNat] at ho9; rw [← Ny300.out] at ho9)); have n_ := zI (aM (Kd.R_lower ho9 (below_size zB))) (aM (below_step zB hb)); clear HB; obtain ⟨HO302, HB⟩ := n_; clear hb ho9; obtain ⟨Ao10, co10, rfl⟩ := Kd.R_slice HO302.out) | (go_at_call 34; (with_reducible refine (chars_Is.calls k (rd l0 (ji4)) _ _ y300 t303 _ ?side1 ?side2 A7.out).mono ?_); (case side1 => exact zC (Kd.R_reads' HO302.out).2.2); (case side2 => exact (Kd.R_reads' HO302.out).2.1); rintro e w' ⟨rfl, ⟨nd, rfl⟩⟩))
    go_ret
    exact ⟨by first | rfl | (simp [errW_none, errW_some] <;> rfl) | (simp only [← hji4]; first | rfl | (simp [errW_none, errW_some] <;> rfl)) | (simp [*, errW_none, errW_some] <;> rfl), zB⟩
   ·rw [if_neg c6] at H
    exact absurd H (by simp)
  ·rw [if_neg c5] at H
   exact absurd H (by simp)

/-! ### blanks_Space: function 37 -/
def blanks_Space.f (k : Nat) (l0 : List Int) (a1 : Int) : Option (Bool) := if a1 ≥ 0 then (if a1 < (l0.length : Int) then (if 0 ≤ a1 then (if (rd l0 a1) = 32 then ((blanks_bare.f k l0 a1).bind fun t305 => (some t305)) else (some false)) else (none)) else (some false)) else (some false)
theorem blanks_Space.mono : ∀ a0 a1 k, LeO (blanks_Space.f k a0 a1) (blanks_Space.f (k + 1) a0 a1) := by
 intro a0 a1 k
 unfold blanks_Space.f
 repeat' first
   | (with_reducible exact blanks_bare.mono _ _ _)
   | (with_reducible exact LeO.refl _)
   | exact blanks_bare.mono _ _ _
   | exact LeO.none _
   | refine LeO.ite ?_ ?_
   | refine LeO.bind ?_ (fun _ => ?_)
set_option maxHeartbeats 8000000 in
set_option maxRecDepth 100000 in
theorem blanks_Space.calls (k : Nat) (A0 : Option Addr) (c0 : Nat) (l0 : List Int) (a1 : Int) (r : Bool) (w : World) (hr0 : Kd.C (Kd.int .i32) w A0 l0.length l0) (hc0 : l0.length ≤ c0) (h : blanks_Space.f k l0 a1 = some r) :
  Calls Try.prog 37 #[.slice A0 l0.length c0, .int .i64 a1] w fun e w' => e = .returned (.bool r) ∧ Below w.heap.size w w' := by
 have HR0 := aM hr0
 have HC0 := aM hc0
 clear hr0 hc0
 have HB := aM (Below.refl w.heap.size w)
 have H := h
 clear h
 unfold blanks_Space.f at H
 by_cases c3 : a1 ≥ 0
 ·rw [if_pos c3] at H
  have c3b0 : decide (0 ≤ a1) = true := decide_eq_true c3
  clear c3
  by_cases c4 : a1 < (l0.length : Int)
  ·rw [if_pos c4] at H
   have c4b0 : decide (a1 < (l0.length : Int)) = true := decide_eq_true c4
   clear c4
   by_cases c5 : 0 ≤ a1
   ·rw [if_pos c5] at H
    have c5b0 : decide (0 ≤ a1) = true := decide_eq_true c5
    clear c5
    by_cases c6 : (rd l0 a1) = 32
    ·rw [if_pos c6] at H
     have c6b0 : ((rd l0 a1) == 32) = true := beq_iff_eq.mpr c6
     have c6b1 : ((rd l0 a1) != 32) = false := bne_eq_false_iff_eq.mpr c6
     clear c6
     obtain ⟨t305, A7, H⟩ := zO H
     obtain rfl := sI H
     have p304 : 0 ≤ (a1 : Int) := zoA
     have q304 : a1 < (l0.length : Int) := zoA
     obtain ⟨ad304, e304, hx304_0⟩ := Kd.at_int HR0.out a1 p304 q304
     cases e304
     replace p304 := eq_true p304
     replace q304 := eq_true q304
     go_enter Try.func37, Try.ntmps37
     go_wp2_with (first | (go_at_call 55; (with_reducible refine (blanks_bare.calls k _ _ l0 a1 t305 _ ?side1 ?side2 A7.out).mono ?_); (case side1 => exact zC HR0.out); (case side2 => exact HC0.out); rintro e w8 ⟨rfl, hb⟩; replace HB := aM (below_step zB hb); (try clear hb)))
     go_ret
     exact ⟨zE, zB⟩
    ·rw [if_neg c6] at H
     have c6b0 : ((rd l0 a1) == 32) = false := beq_eq_false_iff_ne.mpr c6
     have c6b1 : ((rd l0 a1) != 32) = true := bne_iff_ne.mpr c6
     obtain rfl := sI H
     have p304 : 0 ≤ (a1 : Int) := zoA
     have q304 : a1 < (l0.length : Int) := zoA
     obtain ⟨ad304, e304, hx304_0⟩ := Kd.at_int HR0.out a1 p304 q304
     cases e304
     replace p304 := eq_true p304
     replace q304 := eq_true q304
     go_enter Try.func37, Try.ntmps37
     go_wp2
     go_ret
     exact ⟨zE, zB⟩
   ·rw [if_neg c5] at H
    exact absurd H (by simp)
  ·rw [if_neg c4] at H
   have c4b0 : decide (a1 < (l0.length : Int)) = false := decide_eq_false c4
   clear c4
   obtain rfl := sI H
   go_enter Try.func37, Try.ntmps37
   go_wp2
   go_ret
   exact ⟨zE, zB⟩
 ·rw [if_neg c3] at H
  have c3b0 : decide (0 ≤ a1) = false := decide_eq_false c3
  clear c3
  obtain rfl := sI H
  go_enter Try.func37, Try.ntmps37
  go_wp2
  go_ret
  exact ⟨zE, zB⟩

end Go.Proofs.Ytbffakgmlgimeaa.P
