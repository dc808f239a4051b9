-- Printed by wip/mk.py (this session's driver over the kit's print) and from wip/manual.
import Derived.Test.YtkmimbchapcccaaP0
import Derived.Test.YtkmimbchapcccaaP4
namespace Go.Proofs.Ytkmimbchapcccaa.P
open Go.RowKit Go.Proofs.YtkmimbchapcccaaW.PrintWords Go.Proofs.YtkmimbchapcccaaW.PrintLast Go.Proofs.YtkmimbchapcccaaW.PrintMore
attribute [local go_sem] max2_int min2_int max_two min_two max_three min_three max_four min_four   -- for this text's walks alone
set_option linter.unusedVariables false
set_option linter.unusedSimpArgs false

/-! ### toponymref04_Join: function 23 -/
def toponymref04_Join.j0 : Nat → Int → Int → Bool → Option (Int × Bool)
  | 0, _, _, _ => none
  | k + 1, x0, x1, x13 => if x13 = true then (some (wrap32 ((wrap32 (44032 + (wrap32 (588 * (wrap32 (x0 - 4352)))))) + (wrap32 (28 * (wrap32 (x1 - 4449))))), true)) else ((toponymref04_Part.f k x0).bind fun t156 => (if t156 = 4 then ((toponymref04_Part.f k x1).bind fun t157 => (if t157 = 3 then (some (wrap32 (x0 + (wrap32 (x1 - 4519))), true)) else (some (0, false)))) else (some (0, false))))
def toponymref04_Join.f (k : Nat) (a0 : Int) (a1 : Int) : Option (Int × Bool) := (toponymref04_Part.f k a0).bind fun t154 => (if t154 = 1 then ((toponymref04_Part.f k a1).bind fun t155 => (toponymref04_Join.j0 k a0 a1 (t155 == 2))) else (toponymref04_Join.j0 k a0 a1 false))
theorem toponymref04_Join.mono_l : ∀ k, (∀ y0 y1 y2, LeO (toponymref04_Join.j0 k y0 y1 y2) (toponymref04_Join.j0 (k + 1) y0 y1 y2))
  | 0 => fun _ _ _ r h => by simp [toponymref04_Join.j0] at h
  | k + 1 => by
    have ih0 := toponymref04_Join.mono_l k
    · intro y0 y1 y2
      unfold toponymref04_Join.j0
      repeat' first
      | (with_reducible exact ih0 _ _ _)
      | (with_reducible exact toponymref04_Part.mono _ _)
      | (with_reducible exact LeO.refl _)
      | (with_reducible exact LeO.none _)
      | (with_reducible refine LeO.ite ?_ ?_)
      | (with_reducible refine LeO.bind ?_ (fun _ => ?_))
      | exact ih0 _ _ _
      | exact toponymref04_Part.mono _ _
      | exact LeO.none _
      | refine LeO.ite ?_ ?_
      | refine LeO.bind ?_ (fun _ => ?_)
theorem toponymref04_Join.mono : ∀ a0 a1 k, LeO (toponymref04_Join.f k a0 a1) (toponymref04_Join.f (k + 1) a0 a1) := by
  intro a0 a1 k
  have ih0 := toponymref04_Join.mono_l k
  unfold toponymref04_Join.f
  repeat' first
      | (with_reducible exact ih0 _ _ _)
      | (with_reducible exact toponymref04_Part.mono _ _)
      | (with_reducible exact LeO.refl _)
      | (with_reducible exact LeO.none _)
      | (with_reducible refine LeO.ite ?_ ?_)
      | (with_reducible refine LeO.bind ?_ (fun _ => ?_))
      | exact ih0 _ _ _
      | exact toponymref04_Part.mono _ _
      | exact LeO.none _
      | refine LeO.ite ?_ ?_
      | refine LeO.bind ?_ (fun _ => ?_)
set_option maxHeartbeats 8000000 in
set_option maxRecDepth 100000 in
theorem toponymref04_Join.calls (k : Nat) (a0 : Int) (a1 : Int) (r1 : Int) (r2 : Bool) (w : World) (h : toponymref04_Join.f k a0 a1 = some (r1, r2)) :
    Calls Try.prog 23 #[.int .i32 a0, .int .i32 a1] w fun e w' => e = .returned (.tuple #[.int .i32 r1, .bool r2]) ∧ Drawn0 w w' := by
  have H : ((toponymref04_Part.f k a0).bind fun t154 => (if t154 = 1 then ((toponymref04_Part.f k a1).bind fun t155 => (toponymref04_Join.j0 k a0 a1 (t155 == 2))) else (toponymref04_Join.j0 k a0 a1 false))) = some (r1, r2) := h
  clear h
  have HC3 := Aside0.mk H
  clear H
  go_enter Try.func23, Try.ntmps23
  go_upto_region 1 with (fail)
  go_cut [13] (fun v13 wc => ∃ (kq : Nat) (x13_2 : Bool), v13 = .bool x13_2 ∧ Aside0 (toponymref04_Join.j0 kq a0 a1 x13_2 = some (r1, r2)) ∧ Aside0 (kq ≤ k) ∧ Drawn0 w wc)
  case first =>
    have H := HC3.out
    clear HC3
    replace H := Option.bind_eq_some_iff.mp H
    obtain ⟨t154, A40, H⟩ := H
    replace H : (if t154 = 1 then ((toponymref04_Part.f k a1).bind fun t155 => (toponymref04_Join.j0 k a0 a1 (t155 == 2))) else (toponymref04_Join.j0 k a0 a1 false)) = some (r1, r2) := H
    have A4 := Aside0.mk A40
    clear A40
    by_cases c5 : t154 = 1
    · rw [if_pos c5] at H
      have c5b0 : (t154 == 1) = true := beq_iff_eq.mpr c5
      have c5b1 : (t154 != 1) = false := bne_eq_false_iff_eq.mpr c5
      clear c5
      (first | rw [c5b0] | (simp only [i64_w, i32_w]; rw [c5b0]) | skip)
      replace H := Option.bind_eq_some_iff.mp H
      obtain ⟨t155, A60, H⟩ := H
      replace H : (toponymref04_Join.j0 k a0 a1 (t155 == 2)) = some (r1, r2) := H
      have A6 := Aside0.mk A60
      clear A60
      have H' := Aside0.mk H
      clear H
      go_wp2_with (first | ((with_reducible refine gate_callee (f := 40) rfl ?_); refine goesL_ (some 7) rfl rfl Try.func40 (by kernel_rfl) rfl #[.int .i32 a0] rfl (by (try simp only [List.map_toArray, List.map_cons, List.map_nil]); first | done | rfl | (simp only [List.length_drop, List.length_take]; rfl)) ?_; (with_reducible refine (toponymref04_Part.calls k a0 t154 _ A4.out).mono ?_); rintro e w' ⟨rfl, ⟨nd, rfl⟩⟩; (try clear A4); refine ⟨_, rfl, ?_⟩) | (go_at_call 40; (with_reducible refine (toponymref04_Part.calls k a1 t155 _ A6.out).mono ?_); rintro e w' ⟨rfl, ⟨nd, rfl⟩⟩; (try clear A6)))
      go_meet
      case rel => exact ⟨_, ((t155 == 2)), (by first | rfl | (simp; done) | (simp [*]; done)), H', ⟨by first | omega | exact Nat.le_refl _⟩, by repeat (first | exact Drawn0.refl _ | apply Drawn0.step)⟩
    · rw [if_neg c5] at H
      have c5b0 : (t154 == 1) = false := beq_eq_false_iff_ne.mpr c5
      have c5b1 : (t154 != 1) = true := bne_iff_ne.mpr c5
      (first | rw [c5b0] | (simp only [i64_w, i32_w]; rw [c5b0]) | skip)
      have H' := Aside0.mk H
      clear H
      go_wp2_with (first | ((with_reducible refine gate_callee (f := 40) rfl ?_); refine goesL_ (some 7) rfl rfl Try.func40 (by kernel_rfl) rfl #[.int .i32 a0] rfl (by (try simp only [List.map_toArray, List.map_cons, List.map_nil]); first | done | rfl | (simp only [List.length_drop, List.length_take]; rfl)) ?_; (with_reducible refine (toponymref04_Part.calls k a0 t154 _ A4.out).mono ?_); rintro e w' ⟨rfl, ⟨nd, rfl⟩⟩; (try clear A4); refine ⟨_, rfl, ?_⟩))
      go_meet
      case rel => exact ⟨_, (false), (by first | rfl | (simp; done) | (simp [*]; done)), H', ⟨by first | omega | exact Nat.le_refl _⟩, by repeat (first | exact Drawn0.refl _ | apply Drawn0.step)⟩
  case rest =>
    clear HC3
    try clear c2
    try clear p2
    try clear c4
    try clear c5
    try clear c5b0
    try clear c5b1
    obtain ⟨kq, x13_2, rfl, HA, HJ2, ⟨mc2, rfl⟩⟩ := hcut
    cases kq with
    | zero => exact absurd HA.out (by simp [toponymref04_Join.j0])
    | succ kj2 =>
      have H := HA.out
      clear HA
      simp only [toponymref04_Join.j0] at H
      by_cases c7 : x13_2 = true
      · subst c7
        have H1 : (some (wrap32 ((wrap32 (44032 + (wrap32 (588 * (wrap32 (a0 - 4352)))))) + (wrap32 (28 * (wrap32 (a1 - 4449))))), true)) = some (r1, r2) := by rw [if_pos rfl] at H; exact H
        clear H
        have H := H1
        clear H1
        simp only [Option.some.injEq, Prod.mk.injEq] at H
        obtain ⟨rfl, rfl⟩ := H
        go_wp2
        go_ret2
        exact ⟨by first | rfl | (simp; done) | (simp [*]; done), by repeat (first | exact Drawn0.refl _ | apply Drawn0.step)⟩
      · replace c7 := Bool.eq_false_iff.mpr c7
        subst c7
        have H1 : ((toponymref04_Part.f kj2 a0).bind fun t156 => (if t156 = 4 then ((toponymref04_Part.f kj2 a1).bind fun t157 => (if t157 = 3 then (some (wrap32 (a0 + (wrap32 (a1 - 4519))), true)) else (some (0, false)))) else (some (0, false)))) = some (r1, r2) := by rw [if_neg (show ¬ (false = true) by decide)] at H; exact H
        clear H
        have H := H1
        clear H1
        replace H := Option.bind_eq_some_iff.mp H
        obtain ⟨t156, A80, H⟩ := H
        replace H : (if t156 = 4 then ((toponymref04_Part.f kj2 a1).bind fun t157 => (if t157 = 3 then (some (wrap32 (a0 + (wrap32 (a1 - 4519))), true)) else (some (0, false)))) else (some (0, false))) = some (r1, r2) := H
        have A8 := Aside0.mk A80
        clear A80
        by_cases c9 : t156 = 4
        · rw [if_pos c9] at H
          have c9b0 : (t156 == 4) = true := beq_iff_eq.mpr c9
          have c9b1 : (t156 != 4) = false := bne_eq_false_iff_eq.mpr c9
          clear c9
          replace H := Option.bind_eq_some_iff.mp H
          obtain ⟨t157, A100, H⟩ := H
          replace H : (if t157 = 3 then (some (wrap32 (a0 + (wrap32 (a1 - 4519))), true)) else (some (0, false))) = some (r1, r2) := H
          have A10 := Aside0.mk A100
          clear A100
          by_cases c11 : t157 = 3
          · rw [if_pos c11] at H
            have c11b0 : (t157 == 3) = true := beq_iff_eq.mpr c11
            have c11b1 : (t157 != 3) = false := bne_eq_false_iff_eq.mpr c11
            clear c11
            simp only [Option.some.injEq, Prod.mk.injEq] at H
            obtain ⟨rfl, rfl⟩ := H
            go_wp2_with (first | ((with_reducible refine gate_callee (f := 40) rfl ?_); refine goesL_ (some 23) rfl rfl Try.func40 (by kernel_rfl) rfl #[.int .i32 a0] rfl (by (try simp only [List.map_toArray, List.map_cons, List.map_nil]); first | done | rfl | (simp only [List.length_drop, List.length_take]; rfl)) ?_; (with_reducible refine (toponymref04_Part.calls kj2 a0 t156 _ A8.out).mono ?_); rintro e w' ⟨rfl, ⟨nd, rfl⟩⟩; (try clear A8); refine ⟨_, rfl, ?_⟩) | (go_at_call 40; (with_reducible refine (toponymref04_Part.calls kj2 a1 t157 _ A10.out).mono ?_); rintro e w' ⟨rfl, ⟨nd, rfl⟩⟩; (try clear A10)))
            go_ret2
            exact ⟨by first | rfl | (simp; done) | (simp [*]; done), by repeat (first | exact Drawn0.refl _ | apply Drawn0.step)⟩
          · rw [if_neg c11] at H
            have c11b0 : (t157 == 3) = false := beq_eq_false_iff_ne.mpr c11
            have c11b1 : (t157 != 3) = true := bne_iff_ne.mpr c11
            simp only [Option.some.injEq, Prod.mk.injEq] at H
            obtain ⟨rfl, rfl⟩ := H
            go_wp2_with (first | ((with_reducible refine gate_callee (f := 40) rfl ?_); refine goesL_ (some 23) rfl rfl Try.func40 (by kernel_rfl) rfl #[.int .i32 a0] rfl (by (try simp only [List.map_toArray, List.map_cons, List.map_nil]); first | done | rfl | (simp only [List.length_drop, List.length_take]; rfl)) ?_; (with_reducible refine (toponymref04_Part.calls kj2 a0 t156 _ A8.out).mono ?_); rintro e w' ⟨rfl, ⟨nd, rfl⟩⟩; (try clear A8); refine ⟨_, rfl, ?_⟩) | (go_at_call 40; (with_reducible refine (toponymref04_Part.calls kj2 a1 t157 _ A10.out).mono ?_); rintro e w' ⟨rfl, ⟨nd, rfl⟩⟩; (try clear A10)))
            go_ret2
            exact ⟨by first | rfl | (simp; done) | (simp [*]; done), by repeat (first | exact Drawn0.refl _ | apply Drawn0.step)⟩
        · rw [if_neg c9] at H
          have c9b0 : (t156 == 4) = false := beq_eq_false_iff_ne.mpr c9
          have c9b1 : (t156 != 4) = true := bne_iff_ne.mpr c9
          simp only [Option.some.injEq, Prod.mk.injEq] at H
          obtain ⟨rfl, rfl⟩ := H
          go_wp2_with (first | ((with_reducible refine gate_callee (f := 40) rfl ?_); refine goesL_ (some 23) rfl rfl Try.func40 (by kernel_rfl) rfl #[.int .i32 a0] rfl (by (try simp only [List.map_toArray, List.map_cons, List.map_nil]); first | done | rfl | (simp only [List.length_drop, List.length_take]; rfl)) ?_; (with_reducible refine (toponymref04_Part.calls kj2 a0 t156 _ A8.out).mono ?_); rintro e w' ⟨rfl, ⟨nd, rfl⟩⟩; (try clear A8); refine ⟨_, rfl, ?_⟩))
          go_ret2
          exact ⟨by first | rfl | (simp; done) | (simp [*]; done), by repeat (first | exact Drawn0.refl _ | apply Drawn0.step)⟩

/-! ### toponymref05_first: function 51, by hand (toponymref05.first.tpl) -/
/-! A literal of rows, each a letter and a list of its own: its operations are two for each row, and one at the end. -/
def pat05 : List Oper → Nat → List (Int × List Int) → List Oper → Prop
  | ops, _, [], rest => ops = rest
  | o1 :: o2 :: ops, d, x :: rows, rest => (o1.guard = none ∧ o1.dst = some d ∧ ∃ parts : Array (Nat × Operand), o1.op = .buildSlice 26 x.2.length parts ∧ parts.toList = (x.2.zipIdx 0).map fun y => (y.2, Operand.const (Value.int .i32 y.1))) ∧ (0 < x.2.length ∧ x.2.length ≤ 1000) ∧
    (o2.guard = none ∧ o2.dst = some (d + 1) ∧ o2.op = .build 53 #[(0, .const (.int .i32 x.1)), (1, .tmp d)]) ∧ pat05 ops (d + 2) rows rest
  | _, _, _, _ => False
/-- What the rows so far have come to. -/
structure Rows05 (w W : World) (tm : Array Value) (N : Nat) (rows : List (Int × List Int)) : Prop where
  size : tm.size = N
  below : Below w.heap.size w W
  each : ∀ (j : Nat) (x : Int × List Int), rows[j]? = some x → ∃ A, tm.getD (2 * j + 2) undef = .agg #[.int .i32 x.1, .slice A x.2.length x.2.length] ∧ Kd.F (Kd.int .i32) W (fun k_ => w.heap.size ≤ k_) A x.2.length x.2
theorem new_F05 {w w1 : World} {k : IntKind} (t : TypeId) (xs : List Int) (hd : w.heap.size ≤ w1.heap.size) (hm : xs.length ≤ 1000) :
    Kd.F (Kd.int k) (w1.alloc (.cells (xs.map (Value.int k)).toArray t)) (fun k_ => w.heap.size ≤ k_) (some ⟨w1.heap.size, 0, none⟩) xs.length xs := by
  intro W' hW
  have hs : w1.heap.size < (w1.alloc (.cells (xs.map (Value.int k)).toArray t)).heap.size := by
    show w1.heap.size < (w1.heap.push _).size
    simp
  have hb := hW w1.heap.size hd hs
  rw [heap_alloc_new] at hb
  refine Kd.C_of_reads (d := (0 : Int)) (h1 := fun _ => rfl) ⟨rfl, by omega, fun hn => ⟨_, rfl, fun j hj => ?_⟩⟩
  rw [add_plain, cell_of_row W' w1.heap.size j _ t _ hb]
  have hj2 : xs[j]? = some (xs.getD j 0) := by simp [List.getD_eq_getElem?_getD, List.getElem?_eq_getElem hj]
  simp only [List.getElem?_toArray, List.getElem?_map, hj2, Option.map_some]
theorem built05 (c : Int) (A : Option Addr) (n m : Nat) : Try.prog.built 53 [(0, .int .i32 c), (1, .slice A n m)] = some #[.int .i32 c, .slice A n m] := by kernel_rfl
theorem size05 : (Try.prog.info? 21).map (·.size) = some 1 := by kernel_rfl
theorem zero05 : ((Try.prog.info? 21).bind (·.zero)).isSome = true := by kernel_rfl
theorem walk05 {Q : Exit → Act → World → Prop} {ops : Array Oper} {rest : List Oper} {w : World} {df : List Deferred} (N : Nat) :
    ∀ (rows l : List (Int × List Int)) (os : List Oper) (tm : Array Value) (W : World), pat05 os (2 * l.length + 1) rows rest → 2 * (l.length + rows.length) < N → Rows05 w W tm N l →
      (∀ tm' W', Rows05 w W' tm' N (l ++ rows) → wpList Try.prog ops Q rest ⟨tm', df⟩ W') → wpList Try.prog ops Q os ⟨tm, df⟩ W := by
  intro rows
  induction rows with
  | nil =>
    intro l os tm W hp hN hr next
    have : os = rest := by
      cases os with
      | nil => exact hp
      | cons o1 os =>
        cases os with
        | nil => exact hp
        | cons o2 os => exact hp
    subst this
    exact next tm W (by simpa using hr)
  | cons x rows ih =>
    intro l os tm W hp hN hr next
    match os, hp with
    | o1 :: o2 :: os, ⟨⟨g1, d1, parts, e1, hparts⟩, ⟨h0, h1⟩, ⟨g2, d2, e2⟩, hp⟩ =>
      simp only [List.length_cons] at hN
      refine wpList_buildFlat g1 26 21 x.2.length parts e1 .i32 x.2 Try.underlying26 size05 zero05 rfl h0 (by omega) hparts ?_
      rw [d1]
      show wpList Try.prog ops Q (o2 :: os) ⟨tm.setIfInBounds (2 * l.length + 1) (.slice (some ⟨W.heap.size, 0, none⟩) x.2.length x.2.length), df⟩ _
      have ev : Act.eval ⟨tm.setIfInBounds (2 * l.length + 1) (.slice (some ⟨W.heap.size, 0, none⟩) x.2.length x.2.length), df⟩ (.tmp (2 * l.length + 1)) = .slice (some ⟨W.heap.size, 0, none⟩) x.2.length x.2.length := by
        show (tm.setIfInBounds _ _).getD _ undef = _
        exact getD_set_same _ _ _ (by rw [hr.size]; omega)
      have hb : Try.prog.built 53 ((#[(0, Operand.const (.int .i32 x.1)), (1, Operand.tmp (2 * l.length + 1))] : Array (Nat × Operand)).map fun (i, y) => (i, Act.eval ⟨tm.setIfInBounds (2 * l.length + 1) (.slice (some ⟨W.heap.size, 0, none⟩) x.2.length x.2.length), df⟩ y)).toList =
          some #[.int .i32 x.1, .slice (some ⟨W.heap.size, 0, none⟩) x.2.length x.2.length] := by
        simp only [List.map_toArray, List.map_cons, List.map_nil, ev]
        exact built05 x.1 _ _ _
      refine wpList_build g2 53 _ e2 ?_ ?_
      · show (Try.prog.built _ (Array.toList (Array.map _ _))).isSome = true
        exact Option.isSome_iff_exists.2 ⟨_, hb⟩
      · show wpList Try.prog ops Q os (Act.put ⟨tm.setIfInBounds (2 * l.length + 1) (.slice (some ⟨W.heap.size, 0, none⟩) x.2.length x.2.length), df⟩ o2.dst (.agg ((Try.prog.built 53 _).getD #[]))) _
        rw [hb, d2]
        have hsz : ((tm.setIfInBounds (2 * l.length + 1) (.slice (some ⟨W.heap.size, 0, none⟩) x.2.length x.2.length)).setIfInBounds (2 * l.length + 1 + 1) (.agg #[.int .i32 x.1, .slice (some ⟨W.heap.size, 0, none⟩) x.2.length x.2.length])).size = N := by simp [hr.size]
        refine ih (l ++ [x]) os _ _ (by simpa [Nat.mul_add, Nat.add_assoc] using hp) (by simp; omega) ⟨hsz, below_alloc hr.below _, fun j y hj => ?_⟩ (fun tm' W' h => next tm' W' (by simpa using h))
        rcases Nat.lt_or_ge j l.length with hlt | hge
        · rw [List.getElem?_append_left hlt] at hj
          obtain ⟨A, ha, hf⟩ := hr.each j y hj
          refine ⟨A, ?_, Kd.F_below hf (below_alloc (Below.refl _ _) _)⟩
          rw [getD_set_ne _ _ _ _ (by omega), getD_set_ne _ _ _ _ (by omega)]
          exact ha
        · have hjl : j = l.length := by
            have := (List.getElem?_eq_some_iff.1 hj).1
            simp at this
            omega
          subst hjl
          simp only [List.getElem?_append_right (Nat.le_refl _), Nat.sub_self, List.getElem?_cons_zero, Option.some.injEq] at hj
          subst hj
          refine ⟨some ⟨W.heap.size, 0, none⟩, ?_, new_F05 21 x.2 hr.below.size h1⟩
          rw [show 2 * l.length + 2 = 2 * l.length + 1 + 1 from rfl]
          exact getD_set_same _ _ _ (by simp [hr.size]; omega)
/-- The last operation: the rows, one behind the other. -/
theorem last05 {Q : Exit → Act → World → Prop} {ops : Array Oper} {rest : List Oper} {w W : World} {df : List Deferred} {tm : Array Value} {N : Nat} (rows : List (Int × List Int)) (o : Oper) (hr : Rows05 w W tm N rows) (hg : o.guard = none) (D : Tmp) (hd : o.dst = some D)
    (parts : Array (Nat × Operand)) (ho : o.op = .buildSlice 50 rows.length parts) (hparts : parts.toList = ((List.range rows.length).map fun j => Operand.tmp (2 * j + 2)).zipIdx.map fun y => (y.2, y.1)) (h0 : 0 < rows.length) (h1 : rows.length ≤ 1000)
    (h : ∀ v W', Kd.N k53 53 W' w.heap.size (fun k_ => w.heap.size ≤ k_) v (rows.map fun x => (⟨x.1, x.2⟩ : S53)) → Below w.heap.size w W' → wpList Try.prog ops Q rest ⟨tm.setIfInBounds D v, df⟩ W') :
    wpList Try.prog ops Q (o :: rest) ⟨tm, df⟩ W := by
  let vs : List Value := (List.range rows.length).map fun j => tm.getD (2 * j + 2) undef
  have hv : ∀ (j : Nat) (v : Value), vs[j]? = some v → ∃ x A, rows[j]? = some x ∧ v = .agg #[.int .i32 x.1, .slice A x.2.length x.2.length] ∧ Kd.F (Kd.int .i32) W (fun k_ => w.heap.size ≤ k_) A x.2.length x.2 := by
    intro j v hj
    have hl : j < rows.length := by
      have := (List.getElem?_eq_some_iff.1 hj).1
      simpa [vs] using this
    obtain ⟨A, ha, hf⟩ := hr.each j rows[j] (List.getElem?_eq_getElem hl)
    refine ⟨rows[j], A, List.getElem?_eq_getElem hl, ?_, hf⟩
    have : vs[j]? = some (tm.getD (2 * j + 2) undef) := by simp [vs, hl]
    rw [this] at hj
    injection hj with hj
    rw [← hj, ha]
  have hcell : ∀ v ∈ vs, v.cells.size = 2 := by
    intro v hm
    obtain ⟨j, hj⟩ := List.getElem?_of_mem hm
    obtain ⟨x, A, _, rfl, _⟩ := hv j v hj
    rfl
  have hlen : vs.length = rows.length := by simp [vs]
  obtain ⟨ie, z, hie, hz, hs2⟩ : ∃ ie z, Try.prog.info? 53 = some ie ∧ ie.zero = some z ∧ ie.size = 2 := by
    have e1 : (Try.prog.info? 53).map (fun i => (i.zero.isSome, i.size)) = some (true, 2) := by kernel_rfl
    cases hie : Try.prog.info? 53 with
    | none => rw [hie] at e1; cases e1
    | some ie =>
      rw [hie] at e1
      simp only [Option.map_some, Option.some.injEq, Prod.mk.injEq] at e1
      obtain ⟨z, hz⟩ := Option.isSome_iff_exists.1 e1.1
      exact ⟨ie, z, rfl, hz, e1.2⟩
  have hev : (parts.map fun (i, y) => (i, Act.eval ⟨tm, df⟩ y)).toList = (vs.zipIdx 0).map fun y => (y.2, y.1) := by
    rw [Array.toList_map, hparts]
    simp only [vs, List.zipIdx_map, List.map_map]
    rfl
  have hrun : (execOp (Act.eval ⟨tm, df⟩) o).run Try.prog W = .ok (.value (.slice (some ⟨W.heap.size, 0, none⟩) (rows.map fun x => (⟨x.1, x.2⟩ : S53)).length (rows.map fun x => (⟨x.1, x.2⟩ : S53)).length)) (W.alloc (.cells (vs.flatMap fun v => v.cells.toList).toArray 53)) := by
    rw [List.length_map]
    unfold execOp
    simp only [ho, Sem.run_bind, run_buildSlice W 50 53 rows.length _ _ ie z Try.underlying50 hie hz (by rw [hs2]; omega) (by rw [hs2]; omega) (by
      rw [hev, hs2]
      exact Great.fill_whole (by omega) vs _ hcell (by simp [hlen])), Result.andThen_ok]
    rfl
  have hrep : ∀ (n : Nat), Reps (Kd.FK k53 W (fun k_ => w.heap.size ≤ k_)) 2 ((rows.drop n).map fun x => (⟨x.1, x.2⟩ : S53)) ((vs.drop n).flatMap fun v => v.cells.toList) := by
    intro n
    induction hk : rows.length - n generalizing n with
    | zero =>
      rw [List.drop_of_length_le (by omega), List.drop_of_length_le (by omega)]
      exact Reps.none _ _
    | succ k ih =>
      have hl : n < rows.length := by omega
      have hl2 : n < vs.length := by omega
      rw [List.drop_eq_getElem_cons hl, List.drop_eq_getElem_cons hl2]
      obtain ⟨x, A, hx, he, hf⟩ := hv n vs[n] (List.getElem?_eq_getElem hl2)
      rw [List.getElem?_eq_getElem hl] at hx
      injection hx with hx
      rw [List.map_cons, List.flatMap_cons, he, hx]
      exact Reps.c2 (k53_mkF _ _ (⟨x.1, x.2⟩ : S53) (Nat.le_refl _) hf) (ih (n + 1) (by omega))
  refine Kd.N_lit k53 (w0 := w) w.heap.size 53 hg hd (ok := fun k_ => w.heap.size ≤ k_) (okp := fun k_ => w.heap.size ≤ k_) hrun (by show Reps _ 2 _ _; simpa using hrep 0) (fun _ hk => hk) hr.below.size hr.below hr.below.size (by rw [List.length_map]; omega) ?_
  intro v1 w1 hn hb hg_ hat
  rw [hd]
  exact h v1 w1 hn hb
def toponymref05_first.rows : List (Int × List Int) := [(65, [192, 768, 193, 769, 194, 770, 195, 771, 256, 772, 258, 774, 196, 776, 197, 778, 260, 808]), (67, [262, 769, 264, 770, 266, 775, 268, 780, 199, 807]), (68, [270, 780]), (69, [200, 768, 201, 769, 202, 770, 274, 772, 276, 774, 278, 775, 203, 776, 282, 780, 280, 808]), (71, [284, 770, 286, 774, 288, 775, 290, 807]), (72, [292, 770]), (73, [204, 768, 205, 769, 206, 770, 296, 771, 298, 772, 300, 774, 304, 775, 207, 776, 302, 808]), (74, [308, 770]), (75, [310, 807]), (76, [313, 769, 317, 780, 315, 807]), (78, [323, 769, 209, 771, 327, 780, 325, 807]), (79, [210, 768, 211, 769, 212, 770, 213, 771, 332, 772, 334, 774, 214, 776, 336, 779]), (82, [340, 769, 344, 780, 342, 807]), (83, [346, 769, 348, 770, 352, 780, 350, 807]), (84, [356, 780, 354, 807]), (85, [217, 768, 218, 769, 219, 770, 360, 771, 362, 772, 364, 774, 220, 776, 366, 778, 368, 779, 370, 808]), (87, [372, 770]), (89, [221, 769, 374, 770, 376, 776]), (90, [377, 769, 379, 775, 381, 780]), (97, [224, 768, 225, 769, 226, 770, 227, 771, 257, 772, 259, 774, 228, 776, 229, 778, 261, 808]), (99, [263, 769, 265, 770, 267, 775, 269, 780, 231, 807]), (100, [271, 780]), (101, [232, 768, 233, 769, 234, 770, 275, 772, 277, 774, 279, 775, 235, 776, 283, 780, 281, 808]), (103, [285, 770, 287, 774, 289, 775, 291, 807]), (104, [293, 770]), (105, [236, 768, 237, 769, 238, 770, 297, 771, 299, 772, 301, 774, 239, 776, 303, 808]), (106, [309, 770]), (107, [311, 807]), (108, [314, 769, 318, 780, 316, 807]), (110, [324, 769, 241, 771, 328, 780, 326, 807]), (111, [242, 768, 243, 769, 244, 770, 245, 771, 333, 772, 335, 774, 246, 776, 337, 779]), (114, [341, 769, 345, 780, 343, 807]), (115, [347, 769, 349, 770, 353, 780, 351, 807]), (116, [357, 780, 355, 807]), (117, [249, 768, 250, 769, 251, 770, 361, 771, 363, 772, 365, 774, 252, 776, 367, 778, 369, 779, 371, 808]), (119, [373, 770]), (121, [253, 769, 375, 770, 255, 776]), (122, [378, 769, 380, 775, 382, 780]), (913, [902, 769]), (917, [904, 769])]
def toponymref05_first.f : Option (List (S53)) := some (toponymref05_first.rows.map fun x => ⟨x.1, x.2⟩)
set_option maxHeartbeats 8000000 in
set_option maxRecDepth 100000 in
theorem toponymref05_first.calls (r : List (S53)) (w : World) (h : toponymref05_first.f = some r) :
    Calls Try.prog 51 #[] w fun e w' => ∃ v0_ : Value, e = .returned (v0_) ∧ Kd.N k53 53 w' w.heap.size (fun k_ => (w.heap.size ≤ k_)) v0_ r ∧ Below w.heap.size w w' := by
  obtain rfl := Option.some.inj h
  clear h
  go_enter Try.func51, Try.ntmps51
  refine wp_seq ?_
  refine wp_region_lit ?_
  refine wpList_step fun K0 hK0 => ?_
  refine hK0 _ _ ?_
  refine wpList_nil ?_
  show Code.wp _ _ _ _ _
  refine wp_seq ?_
  refine wp_region_lit ?_
  refine walk05 82 toponymref05_first.rows [] _ _ _ (rest := ?rest) ?pat (by decide) ⟨rfl, Below.refl _ _, fun j x hj => by simp at hj⟩ ?next
  case pat =>
    show pat05 _ 1 _ _
    repeat (refine ⟨⟨rfl, rfl, _, rfl, rfl⟩, ⟨by decide, by decide⟩, ⟨rfl, rfl, rfl⟩, ?_⟩)
    exact rfl
  case next =>
    intro tm W' hr
    refine last05 toponymref05_first.rows _ hr rfl 81 rfl _ rfl rfl (by decide) (by decide) ?_
    intro v W2 hn hb
    have hs := hr.size
    clear hr
    refine st_assign ?_
    refine wpList_nil ?_
    show Code.wp _ _ _ _ _
    refine wp_ret ?_
    refine bodyPost_ret (results_tmp rfl _ _ _) rfl ?_
    refine ⟨v, ?_, hn, hb⟩
    show Ending.returned (((tm.setIfInBounds 81 v).setIfInBounds 0 ((tm.setIfInBounds 81 v).getD 81 undef)).getD 0 undef) = _
    rw [getD_set_same _ _ _ (by simp [hs]), getD_set_same _ _ _ (by simp [hs])]

/-! ### toponymref05_second: function 52, by hand (toponymref05.second.tpl) -/
def toponymref05_second.rows : List (Int × List Int) := [(919, [905, 769]), (921, [906, 769, 938, 776]), (927, [908, 769]), (933, [910, 769, 939, 776]), (937, [911, 769]), (945, [940, 769]), (949, [941, 769]), (951, [942, 769]), (953, [943, 769, 970, 776]), (959, [972, 769]), (965, [973, 769, 971, 776]), (969, [974, 769]), (970, [912, 769]), (971, [944, 769]), (1045, [1025, 776]), (1048, [1049, 774]), (1077, [1105, 776]), (1080, [1081, 774]), (12358, [12436, 12441]), (12363, [12364, 12441]), (12365, [12366, 12441]), (12367, [12368, 12441]), (12369, [12370, 12441]), (12371, [12372, 12441]), (12373, [12374, 12441]), (12375, [12376, 12441]), (12377, [12378, 12441]), (12379, [12380, 12441]), (12381, [12382, 12441]), (12383, [12384, 12441]), (12385, [12386, 12441]), (12388, [12389, 12441]), (12390, [12391, 12441]), (12392, [12393, 12441]), (12399, [12400, 12441, 12401, 12442]), (12402, [12403, 12441, 12404, 12442]), (12405, [12406, 12441, 12407, 12442]), (12408, [12409, 12441, 12410, 12442]), (12411, [12412, 12441, 12413, 12442])]
def toponymref05_second.f : Option (List (S53)) := some (toponymref05_second.rows.map fun x => ⟨x.1, x.2⟩)
set_option maxHeartbeats 8000000 in
set_option maxRecDepth 100000 in
theorem toponymref05_second.calls (r : List (S53)) (w : World) (h : toponymref05_second.f = some r) :
    Calls Try.prog 52 #[] w fun e w' => ∃ v0_ : Value, e = .returned (v0_) ∧ Kd.N k53 53 w' w.heap.size (fun k_ => (w.heap.size ≤ k_)) v0_ r ∧ Below w.heap.size w w' := by
  obtain rfl := Option.some.inj h
  clear h
  go_enter Try.func52, Try.ntmps52
  refine wp_seq ?_
  refine wp_region_lit ?_
  refine wpList_step fun K0 hK0 => ?_
  refine hK0 _ _ ?_
  refine wpList_nil ?_
  show Code.wp _ _ _ _ _
  refine wp_seq ?_
  refine wp_region_lit ?_
  refine walk05 80 toponymref05_second.rows [] _ _ _ (rest := ?rest) ?pat (by decide) ⟨rfl, Below.refl _ _, fun j x hj => by simp at hj⟩ ?next
  case pat =>
    show pat05 _ 1 _ _
    repeat (refine ⟨⟨rfl, rfl, _, rfl, rfl⟩, ⟨by decide, by decide⟩, ⟨rfl, rfl, rfl⟩, ?_⟩)
    exact rfl
  case next =>
    intro tm W' hr
    refine last05 toponymref05_second.rows _ hr rfl 79 rfl _ rfl rfl (by decide) (by decide) ?_
    intro v W2 hn hb
    have hs := hr.size
    clear hr
    refine st_assign ?_
    refine wpList_nil ?_
    show Code.wp _ _ _ _ _
    refine wp_ret ?_
    refine bodyPost_ret (results_tmp rfl _ _ _) rfl ?_
    refine ⟨v, ?_, hn, hb⟩
    show Ending.returned (((tm.setIfInBounds 79 v).setIfInBounds 0 ((tm.setIfInBounds 79 v).getD 79 undef)).getD 0 undef) = _
    rw [getD_set_same _ _ _ (by simp [hs]), getD_set_same _ _ _ (by simp [hs])]

/-! ### toponymref05_Bases: function 41 -/
def toponymref05_Bases.f  : Option ((List (S53))) := (toponymref05_first.f).bind fun t158 => ((toponymref05_second.f).bind fun t161 => (if t158.length + t161.length < 4398046511104 then (some (t158 ++ t161)) else (none)))
set_option maxHeartbeats 8000000 in
set_option maxRecDepth 100000 in
theorem toponymref05_Bases.calls  (r : List (S53)) (w : World) (h : toponymref05_Bases.f  = some r) :
    Calls Try.prog 41 #[] w fun e w' => ∃ v0_ : Value, e = .returned (v0_) ∧ Kd.N k53 53 w' w.heap.size (fun k_ => (w.heap.size ≤ k_)) v0_ r ∧ Below w.heap.size w w' := by
  have HB := Aside0.mk (Below.refl w.heap.size w)
  have H : ((toponymref05_first.f).bind fun t158 => ((toponymref05_second.f).bind fun t161 => (if t158.length + t161.length < 4398046511104 then (some (t158 ++ t161)) else (none)))) = some r := h
  clear h
  replace H := Option.bind_eq_some_iff.mp H
  obtain ⟨t158, A10, H⟩ := H
  replace H : ((toponymref05_second.f).bind fun t161 => (if t158.length + t161.length < 4398046511104 then (some (t158 ++ t161)) else (none))) = some r := H
  have A1 := Aside0.mk A10
  clear A10
  replace H := Option.bind_eq_some_iff.mp H
  obtain ⟨t161, A20, H⟩ := H
  replace H : (if t158.length + t161.length < 4398046511104 then (some (t158 ++ t161)) else (none)) = some r := H
  have A2 := Aside0.mk A20
  clear A20
  by_cases c3 : t158.length + t161.length < 4398046511104
  · rw [if_pos c3] at H
    have LMc3 := Aside0.mk c3
    clear c3
    obtain ⟨y164, hy164⟩ : ∃ y_ : List (S53), y_ = (t158 ++ t161) := ⟨_, rfl⟩
    replace H : (some y164) = some r := by first | (rw [hy164]; with_reducible exact H) | (have H2_ := (Option.bind_some _ _).symm.trans H; rw [hy164]; with_reducible exact H2_) | (have H2_ := (Option.bind_some _ _).symm.trans H; with_reducible exact H2_) | with_reducible exact H | (rw [hy164]; exact H) | exact H
    have Ny164 := Aside0.mk hy164
    clear hy164
    obtain rfl := Option.some.inj H
    go_enter Try.func41, Try.ntmps41
    go_wp2_with (first | ((with_reducible refine gate_callee (f := 51) rfl ?_); refine goesL_ (some 1) rfl rfl Try.func51 (by kernel_rfl) rfl #[] rfl (by (try simp only [List.map_toArray, List.map_cons, List.map_nil]); first | done | rfl | (simp only [List.length_drop, List.length_take]; rfl)) ?_; (with_reducible refine (toponymref05_first.calls  t158 _ A1.out).mono ?_); rintro e w4 ⟨v159, rfl, ho0, hb⟩; refine ⟨_, rfl, ?_⟩; have n0_ := Aside0.mk (Kd.N_lower (Kd.N_mono (ok' := fun k_ => (w.heap.size ≤ k_)) ho0 (fun k_ hk_ => (Nat.le_trans (below_size (by repeat (first | (with_reducible first | exact HB.out | apply below_alloc | apply pw_below_drewN | apply below_drew1) | exact HB.out))) hk_))) (below_size (by repeat (first | (with_reducible first | exact HB.out | apply below_alloc | apply pw_below_drewN | apply below_drew1) | exact HB.out)))); have n1_ := Aside0.mk (below_step (by repeat (first | (with_reducible first | exact HB.out | apply below_alloc | apply pw_below_drewN | apply below_drew1) | exact HB.out)) hb); clear HB; have HO160 := n0_; have HB := n1_; clear n0_ n1_; (try clear hb); (try clear hb2); (try clear hk); (try clear hi); (try clear ho0)) | ((with_reducible refine gate_callee (f := 52) rfl ?_); refine goesL_ (some 2) rfl rfl Try.func52 (by kernel_rfl) rfl #[] rfl (by (try simp only [List.map_toArray, List.map_cons, List.map_nil]); first | done | rfl | (simp only [List.length_drop, List.length_take]; rfl)) ?_; (with_reducible refine (toponymref05_second.calls  t161 _ A2.out).mono ?_); rintro e w5 ⟨v162, rfl, ho0, hb⟩; refine ⟨_, rfl, ?_⟩; have n0_ := Aside0.mk (Kd.N_elder' (by (with_reducible repeat (first | apply Kd.N_alloc | apply Kd.N_drewN | apply Kd.N_drew)); exact HO160.out) (Kd.N_base ho0) hb); have n1_ := Aside0.mk (Kd.N_lower (Kd.N_mono (ok' := fun k_ => (w.heap.size ≤ k_) ∧ some k_ ≠ (v159 : Value).ownBlock) ho0 (fun k_ hk_ => ⟨(Nat.le_trans (below_size (by repeat (first | (with_reducible first | exact HB.out | apply below_alloc | apply pw_below_drewN | apply below_drew1) | exact HB.out))) hk_), (Kd.fresh' (Kd.N_lt (by (with_reducible repeat (first | apply Kd.N_alloc | apply Kd.N_drewN | apply Kd.N_drew)); exact HO160.out)) k_ hk_)⟩)) (below_size (by repeat (first | (with_reducible first | exact HB.out | apply below_alloc | apply pw_below_drewN | apply below_drew1) | exact HB.out)))); have n2_ := Aside0.mk (below_step (by repeat (first | (with_reducible first | exact HB.out | apply below_alloc | apply pw_below_drewN | apply below_drew1) | exact HB.out)) hb); clear HO160; clear HB; have HO160 := n0_; have HO163 := n1_; have HB := n2_; clear n0_ n1_ n2_; (try clear hb); (try clear hb2); (try clear hk); (try clear hi); (try clear ho0); obtain ⟨Ao7, co7, eo7⟩ := Kd.N_slice HO163.out; subst eo7) | ((with_reducible refine gate_builtin (b := .append) (xs := #[.tmp 1, .tmp 2]) rfl ?_); at_builtin; refine Kd.N_append_rows k53 (w0 := w) w.heap.size rfl (.tmp 1) (.tmp 2) 50 53 (.agg #[(.int .i32 0), (.slice none 0 0)]) 32 rfl Try.underlying50 info53 rfl (by decide) (by omega) v159 t158 t161 _ _ _ (fun k_ => (w.heap.size ≤ k_)) (fun k_ => ((fun k_ => (w.heap.size ≤ k_))) k_ ∧ some k_ ≠ (v159 : Value).ownBlock) rfl rfl ?aO ?aR (fun _ hk => hk) ?aF ?aB ?aS ?aL ?_; (case aR => exact (by skip; exact Kd.N_F (Kd.N_mono (ok' := (fun k_ => ((fun k_ => (w.heap.size ≤ k_))) k_ ∧ some k_ ≠ (v159 : Value).ownBlock)) (HO163.out) (fun k_ hk => ⟨hk.1, hk.2⟩)))); (case aB => exact (by repeat (first | (with_reducible first | exact HB.out | apply below_alloc | apply pw_below_drewN | apply below_drew1) | exact HB.out))); (case aF => exact (fun k_ hk => (Nat.le_trans (below_size (by repeat (first | (with_reducible first | exact HB.out | apply below_alloc | apply pw_below_drewN | apply below_drew1) | exact HB.out))) hk))); (case aO => exact (by (with_reducible repeat (first | apply Kd.N_alloc | apply Kd.N_drewN | apply Kd.N_drew)); exact Kd.N_mono HO160.out (fun _ hk => hk.1))); (case aS => exact (below_size (by repeat (first | (with_reducible first | exact HB.out | apply below_alloc | apply pw_below_drewN | apply below_drew1) | exact HB.out)))); (case aL => have := LMc3.out; omega); intro v165 w6 ho hb hg hat; rw [← Ny164.out] at ho; have n0_ := Aside0.mk (Kd.N_afterv (ok := (fun k_ => (w.heap.size ≤ k_))) (by (with_reducible repeat (first | apply Kd.N_alloc | apply Kd.N_drewN | apply Kd.N_drew)); exact HO163.out) hg hat); have n1_ := Aside0.mk (hb); have n2_ := Aside0.mk (ho); clear HO163; clear HB; clear HO160; have HO163 := n0_; have HB := n1_; have HO166 := n2_; clear n0_ n1_ n2_; clear ho hb hg hat))
    go_ret
    exact ⟨_, by first | rfl | (simp [errW_none, errW_some] <;> rfl) | (simp [*, errW_none, errW_some] <;> rfl), by (with_reducible repeat (first | apply Kd.N_alloc | apply Kd.N_drewN | apply Kd.N_drew)); exact HO166.out, by repeat (first | (with_reducible first | exact HB.out | apply below_alloc | apply pw_below_drewN | apply below_drew1) | exact HB.out)⟩
  · rw [if_neg c3] at H
    exact absurd H (by simp)

/-! ### toponymref05_Made: function 24 -/
mutual
def toponymref05_Made.l0 : Nat → Int → Int → List (S53) → Int → Option (Int)
  | 0, _, _, _, _ => none
  | k + 1, x0, x1, x5, x6 => if x6 < (x5.length : Int) then (toponymref05_Made.l1 k x0 x1 x5 x6 0) else (some 0)
def toponymref05_Made.l1 : Nat → Int → Int → List (S53) → Int → Int → Option (Int)
  | 0, _, _, _, _, _ => none
  | k + 1, x0, x1, x5, x6, x7 => if 0 ≤ x6 then (if x6 < (x5.length : Int) then (if (wrap64 (x7 + 1)) < (((rd_T53 x5 x6).f1).length : Int) then (if ((rd_T53 x5 x6).f0) = x0 then (if 0 ≤ (wrap64 (x7 + 1)) then (if (rd ((rd_T53 x5 x6).f1) (wrap64 (x7 + 1))) = x1 then (if 0 ≤ x7 then (if x7 < (((rd_T53 x5 x6).f1).length : Int) then (some (rd ((rd_T53 x5 x6).f1) x7)) else (none)) else (none)) else (toponymref05_Made.l1 k x0 x1 x5 x6 (wrap64 (x7 + 2)))) else (none)) else (toponymref05_Made.l1 k x0 x1 x5 x6 (wrap64 (x7 + 2)))) else (toponymref05_Made.l0 k x0 x1 x5 (wrap64 (x6 + 1)))) else (none)) else (none)
end
def toponymref05_Made.f (k : Nat) (a0 : Int) (a1 : Int) : Option (Int) := (toponymref05_Bases.f).bind fun t167 => (toponymref05_Made.l0 k a0 a1 t167 0)
theorem toponymref05_Made.mono_l : ∀ k, (∀ y0 y1 y2 y3, LeO (toponymref05_Made.l0 k y0 y1 y2 y3) (toponymref05_Made.l0 (k + 1) y0 y1 y2 y3)) ∧ (∀ y0 y1 y2 y3 y4, LeO (toponymref05_Made.l1 k y0 y1 y2 y3 y4) (toponymref05_Made.l1 (k + 1) y0 y1 y2 y3 y4))
  | 0 => ⟨fun _ _ _ _ r h => by simp [toponymref05_Made.l0] at h, fun _ _ _ _ _ r h => by simp [toponymref05_Made.l1] at h⟩
  | k + 1 => by
    obtain ⟨ih0, ih1⟩ := toponymref05_Made.mono_l k
    refine ⟨?_, ?_⟩
    · intro y0 y1 y2 y3
      unfold toponymref05_Made.l0
      repeat' first
      | (with_reducible exact ih0 _ _ _ _)
      | (with_reducible exact ih1 _ _ _ _ _)
      | (with_reducible exact LeO.refl _)
      | (with_reducible exact LeO.none _)
      | (with_reducible refine LeO.ite ?_ ?_)
      | (with_reducible refine LeO.bind ?_ (fun _ => ?_))
      | exact ih0 _ _ _ _
      | exact ih1 _ _ _ _ _
      | exact LeO.none _
      | refine LeO.ite ?_ ?_
      | refine LeO.bind ?_ (fun _ => ?_)
    · intro y0 y1 y2 y3 y4
      unfold toponymref05_Made.l1
      repeat' first
      | (with_reducible exact ih0 _ _ _ _)
      | (with_reducible exact ih1 _ _ _ _ _)
      | (with_reducible exact LeO.refl _)
      | (with_reducible exact LeO.none _)
      | (with_reducible refine LeO.ite ?_ ?_)
      | (with_reducible refine LeO.bind ?_ (fun _ => ?_))
      | exact ih0 _ _ _ _
      | exact ih1 _ _ _ _ _
      | exact LeO.none _
      | refine LeO.ite ?_ ?_
      | refine LeO.bind ?_ (fun _ => ?_)
theorem toponymref05_Made.mono : ∀ a0 a1 k, LeO (toponymref05_Made.f k a0 a1) (toponymref05_Made.f (k + 1) a0 a1) := by
  intro a0 a1 k
  obtain ⟨ih0, ih1⟩ := toponymref05_Made.mono_l k
  unfold toponymref05_Made.f
  repeat' first
      | (with_reducible exact ih0 _ _ _ _)
      | (with_reducible exact ih1 _ _ _ _ _)
      | (with_reducible exact LeO.refl _)
      | (with_reducible exact LeO.none _)
      | (with_reducible refine LeO.ite ?_ ?_)
      | (with_reducible refine LeO.bind ?_ (fun _ => ?_))
      | exact ih0 _ _ _ _
      | exact ih1 _ _ _ _ _
      | exact LeO.none _
      | refine LeO.ite ?_ ?_
      | refine LeO.bind ?_ (fun _ => ?_)
set_option maxHeartbeats 8000000 in
set_option maxRecDepth 100000 in
theorem toponymref05_Made.calls (k : Nat) (a0 : Int) (a1 : Int) (r : Int) (w : World) (h : toponymref05_Made.f k a0 a1 = some r) :
    Calls Try.prog 24 #[.int .i32 a0, .int .i32 a1] w fun e w' => e = .returned (.int .i32 r) ∧ Below w.heap.size w w' := by
  have HB := Aside0.mk (Below.refl w.heap.size w)
  have H : ((toponymref05_Bases.f).bind fun t167 => (toponymref05_Made.l0 k a0 a1 t167 0)) = some r := h
  clear h
  replace H := Option.bind_eq_some_iff.mp H
  obtain ⟨t167, A30, H⟩ := H
  replace H : (toponymref05_Made.l0 k a0 a1 t167 0) = some r := H
  have A3 := Aside0.mk A30
  clear A30
  have H' := Aside0.mk H
  clear H
  go_enter Try.func24, Try.ntmps24
  go_wp2_with (first | ((with_reducible refine gate_callee (f := 41) rfl ?_); refine goesL_ (some 8) rfl rfl Try.func41 (by kernel_rfl) rfl #[] rfl (by (try simp only [List.map_toArray, List.map_cons, List.map_nil]); first | done | rfl | (simp only [List.length_drop, List.length_take]; rfl)) ?_; (with_reducible refine (toponymref05_Bases.calls  t167 _ A3.out).mono ?_); rintro e w4 ⟨v168, rfl, ho0, hb⟩; refine ⟨_, rfl, ?_⟩; have n0_ := Aside0.mk (Kd.N_lower (Kd.N_mono (ok' := fun k_ => True) ho0 (fun k_ hk_ => trivial)) (below_size (by repeat (first | (with_reducible first | exact HB.out | apply below_alloc | apply pw_below_drewN | apply below_drew1) | exact HB.out)))); have n1_ := Aside0.mk (below_step (by repeat (first | (with_reducible first | exact HB.out | apply below_alloc | apply pw_below_drewN | apply below_drew1) | exact HB.out)) hb); clear HB; have HO169 := n0_; have HB := n1_; clear n0_ n1_; (try clear hb); (try clear hb2); (try clear hk); (try clear hi); (try clear ho0)))
  go_loopg [6] k (fun kq v6 w' => ∃ (x6_1 : Int), v6 = .int .i64 x6_1 ∧ Aside0 (toponymref05_Made.l0 kq a0 a1 t167 x6_1 = some r) ∧ Aside0 (kq ≤ k) ∧ Aside0 (Kd.N k53 53 w' w.heap.size (fun _ => True) v168 t167) ∧ Aside0 (Below w.heap.size w w'))
  case atStart => exact ⟨(0), (by first | rfl | (simp; done) | (simp [*]; done)), H', ⟨Nat.le_refl _⟩, ⟨by (with_reducible repeat (first | apply Kd.N_alloc | apply Kd.N_drewN | apply Kd.N_drew)); exact HO169.out⟩, ⟨by repeat (first | (with_reducible first | exact HB.out | apply below_alloc | apply pw_below_drewN | apply below_drew1) | exact HB.out)⟩⟩
  case round =>
    clear H'
    try clear c2
    try clear p2
    try clear c4
    obtain ⟨x6_1, rfl, HA, HK1, HO_5, HB⟩ := hrel
    cases gk with
    | zero => exact absurd HA.out (by simp [toponymref05_Made.l0])
    | succ k1 =>
      have H := HA.out
      clear HA
      simp only [toponymref05_Made.l0] at H
      by_cases c5 : x6_1 < (t167.length : Int)
      · rw [if_pos c5] at H
        have c5b0 : decide (x6_1 < (t167.length : Int)) = true := decide_eq_true c5
        clear c5
        have H' := Aside0.mk H
        clear H
        obtain ⟨Ao6, co6, eo6⟩ := Kd.N_slice HO_5.out
        subst eo6
        go_wp2
        go_loopg [7] k1 (fun kq v7 w' => ∃ (x7_2 : Int), v7 = .int .i64 x7_2 ∧ Aside0 (toponymref05_Made.l1 kq a0 a1 t167 x6_1 x7_2 = some r) ∧ Aside0 (kq ≤ k1) ∧ Aside0 (Kd.N k53 53 w' w.heap.size (fun _ => True) (.slice Ao6 t167.length co6) t167) ∧ Aside0 (Below w.heap.size w w'))
        case atStart => exact ⟨(0), (by first | rfl | (simp; done) | (simp [*]; done)), H', ⟨Nat.le_refl _⟩, ⟨by (with_reducible repeat (first | apply Kd.N_alloc | apply Kd.N_drewN | apply Kd.N_drew)); exact HO_5.out⟩, ⟨by repeat (first | (with_reducible first | exact HB.out | apply below_alloc | apply pw_below_drewN | apply below_drew1) | exact HB.out)⟩⟩
        case round =>
          clear H'
          try clear c2
          try clear p2
          try clear c4
          try clear c5
          try clear c5b0
          try clear p2
          obtain ⟨x7_2, rfl, HA, HK2, HO_5, HB⟩ := hrel
          cases gk with
          | zero => exact absurd HA.out (by simp [toponymref05_Made.l1])
          | succ k2 =>
            have H := HA.out
            clear HA
            simp only [toponymref05_Made.l1] at H
            by_cases c7 : 0 ≤ x6_1
            · rw [if_pos c7] at H
              have c7b0 : decide (0 ≤ x6_1) = true := decide_eq_true c7
              clear c7
              by_cases c8 : x6_1 < (t167.length : Int)
              · rw [if_pos c8] at H
                have c8b0 : decide (x6_1 < (t167.length : Int)) = true := decide_eq_true c8
                clear c8
                by_cases c9 : (wrap64 (x7_2 + 1)) < (((rd_T53 t167 x6_1).f1).length : Int)
                · rw [if_pos c9] at H
                  have c9b0 : decide ((wrap64 (x7_2 + 1)) < (((rd_T53 t167 x6_1).f1).length : Int)) = true := decide_eq_true c9
                  clear c9
                  by_cases c10 : ((rd_T53 t167 x6_1).f0) = a0
                  · rw [if_pos c10] at H
                    have c10b0 : (((rd_T53 t167 x6_1).f0) == a0) = true := beq_iff_eq.mpr c10
                    have c10b1 : (((rd_T53 t167 x6_1).f0) != a0) = false := bne_eq_false_iff_eq.mpr c10
                    clear c10
                    obtain ⟨ji11, hji11⟩ : ∃ j_ : Int, (wrap64 (x7_2 + 1)) = j_ := ⟨_, rfl⟩
                    replace H : (if 0 ≤ (ji11) then (if (rd ((rd_T53 t167 x6_1).f1) (ji11)) = a1 then (if 0 ≤ x7_2 then (if x7_2 < (((rd_T53 t167 x6_1).f1).length : Int) then (some (rd ((rd_T53 t167 x6_1).f1) x7_2)) else (none)) else (none)) else (toponymref05_Made.l1 k2 a0 a1 t167 x6_1 (wrap64 (x7_2 + 2)))) else (none)) = some r := by first | (rw [hji11] at H; exact H) | (simp only [hji11] at H ⊢; exact H)
                    (try rw [hji11] at c9b0)
                    have hji11w : (IntKind.i64.wrap (x7_2 + 1)) = ji11 := (i64_w _).trans hji11
                    by_cases c12 : 0 ≤ (ji11)
                    · rw [if_pos c12] at H
                      have c12b0 : decide (0 ≤ (ji11)) = true := decide_eq_true c12
                      clear c12
                      by_cases c13 : (rd ((rd_T53 t167 x6_1).f1) (ji11)) = a1
                      · rw [if_pos c13] at H
                        have c13b0 : ((rd ((rd_T53 t167 x6_1).f1) (ji11)) == a1) = true := beq_iff_eq.mpr c13
                        have c13b1 : ((rd ((rd_T53 t167 x6_1).f1) (ji11)) != a1) = false := bne_eq_false_iff_eq.mpr c13
                        clear c13
                        by_cases c14 : 0 ≤ x7_2
                        · rw [if_pos c14] at H
                          have c14b0 : decide (0 ≤ x7_2) = true := decide_eq_true c14
                          clear c14
                          by_cases c15 : x7_2 < (((rd_T53 t167 x6_1).f1).length : Int)
                          · rw [if_pos c15] at H
                            have c15b0 : decide (x7_2 < (((rd_T53 t167 x6_1).f1).length : Int)) = true := decide_eq_true c15
                            clear c15
                            obtain rfl := Option.some.inj H
                            have p170 : 0 ≤ (x6_1 : Int) := of_decide_eq_true (by first | (with_reducible assumption) | assumption)
                            have q170 : x6_1 < (t167.length : Int) := of_decide_eq_true (by first | (with_reducible assumption) | assumption)
                            obtain ⟨ad170, A170_1, c170_1, e170, hx170_0, hx170_1, hl170_1, hi170_1⟩ := at_T53 (Kd.N_reads' HO_5.out).2.2 x6_1 p170 q170
                            cases e170
                            obtain ⟨ce170, hce170, hMe170, hcc170⟩ := Kd.N_get HO_5.out z53 x6_1 p170 (by first | exact q170 | exact of_decide_eq_true (by first | (with_reducible assumption) | assumption) | (have e_ := (Kd.N_reads' HO_5.out).1; omega))
                            obtain ⟨ua170_1, uc170_1, rfl, ul170_1, ge170_1⟩ := k53_openF hMe170
                            have hv170_1 := hcc170 1 _ rfl
                            rw [add_field _ _ 1 (by omega)] at hv170_1
                            replace hv170_1 := Option.some.inj (hv170_1.symm.trans hx170_1)
                            injection hv170_1 with hva_ hvn_ hvc_
                            rw [hva_] at ge170_1
                            rw [hvc_] at ul170_1
                            have HL170_1 := Aside0.mk (show Kd.V (Kd.int .i32) 21 _ w.heap.size _ _ ((rd_T53 t167 x6_1).f1) from Kd.V_mk ul170_1 ge170_1)
                            clear hva_ hvn_ hvc_ ge170_1 ul170_1
                            clear hcc170 hce170
                            have HR170_1 := Aside0.mk hi170_1
                            have HC170_1 := Aside0.mk hl170_1
                            clear hi170_1 hl170_1
                            replace p170 := eq_true p170
                            replace q170 := eq_true q170
                            have p171 : 0 ≤ (x6_1 : Int) := of_decide_eq_true (by first | (with_reducible assumption) | assumption)
                            have q171 : x6_1 < (t167.length : Int) := of_decide_eq_true (by first | (with_reducible assumption) | assumption)
                            obtain ⟨ad171, A171_1, c171_1, e171, hx171_0, hx171_1, hl171_1, hi171_1⟩ := at_T53 (Kd.N_reads' HO_5.out).2.2 x6_1 p171 q171
                            obtain rfl : ad170 = ad171 := (by injection e171)
                            obtain ⟨ce171, hce171, hMe171, hcc171⟩ := Kd.N_get HO_5.out z53 x6_1 p171 (by first | exact q171 | exact of_decide_eq_true (by first | (with_reducible assumption) | assumption) | (have e_ := (Kd.N_reads' HO_5.out).1; omega))
                            obtain ⟨ua171_1, uc171_1, rfl, ul171_1, ge171_1⟩ := k53_openF hMe171
                            have hv171_1 := hcc171 1 _ rfl
                            rw [add_field _ _ 1 (by omega)] at hv171_1
                            replace hv171_1 := Option.some.inj (hv171_1.symm.trans hx171_1)
                            injection hv171_1 with hva_ hvn_ hvc_
                            rw [hva_] at ge171_1
                            rw [hvc_] at ul171_1
                            have HL171_1 := Aside0.mk (show Kd.V (Kd.int .i32) 21 _ w.heap.size _ _ ((rd_T53 t167 x6_1).f1) from Kd.V_mk ul171_1 ge171_1)
                            clear hva_ hvn_ hvc_ ge171_1 ul171_1
                            clear hcc171 hce171
                            have HR171_1 := Aside0.mk hi171_1
                            have HC171_1 := Aside0.mk hl171_1
                            clear hi171_1 hl171_1
                            replace p171 := eq_true p171
                            replace q171 := eq_true q171
                            have ea_ := Option.some.inj (hx170_1.symm.trans hx171_1)
                            injection ea_ with ea_ en_ ec_
                            subst ea_
                            subst ec_
                            clear en_
                            have p172 : 0 ≤ (x6_1 : Int) := of_decide_eq_true (by first | (with_reducible assumption) | assumption)
                            have q172 : x6_1 < (t167.length : Int) := of_decide_eq_true (by first | (with_reducible assumption) | assumption)
                            obtain ⟨ad172, A172_1, c172_1, e172, hx172_0, hx172_1, hl172_1, hi172_1⟩ := at_T53 (Kd.N_reads' HO_5.out).2.2 x6_1 p172 q172
                            obtain rfl : ad170 = ad172 := (by injection e172)
                            obtain ⟨ce172, hce172, hMe172, hcc172⟩ := Kd.N_get HO_5.out z53 x6_1 p172 (by first | exact q172 | exact of_decide_eq_true (by first | (with_reducible assumption) | assumption) | (have e_ := (Kd.N_reads' HO_5.out).1; omega))
                            obtain ⟨ua172_1, uc172_1, rfl, ul172_1, ge172_1⟩ := k53_openF hMe172
                            have hv172_1 := hcc172 1 _ rfl
                            rw [add_field _ _ 1 (by omega)] at hv172_1
                            replace hv172_1 := Option.some.inj (hv172_1.symm.trans hx172_1)
                            injection hv172_1 with hva_ hvn_ hvc_
                            rw [hva_] at ge172_1
                            rw [hvc_] at ul172_1
                            have HL172_1 := Aside0.mk (show Kd.V (Kd.int .i32) 21 _ w.heap.size _ _ ((rd_T53 t167 x6_1).f1) from Kd.V_mk ul172_1 ge172_1)
                            clear hva_ hvn_ hvc_ ge172_1 ul172_1
                            clear hcc172 hce172
                            have HR172_1 := Aside0.mk hi172_1
                            have HC172_1 := Aside0.mk hl172_1
                            clear hi172_1 hl172_1
                            replace p172 := eq_true p172
                            replace q172 := eq_true q172
                            have ea_ := Option.some.inj (hx170_1.symm.trans hx172_1)
                            injection ea_ with ea_ en_ ec_
                            subst ea_
                            subst ec_
                            clear en_
                            have p173 : 0 ≤ ((ji11) : Int) := of_decide_eq_true (by first | (with_reducible assumption) | assumption)
                            have q173 : (ji11) < (((rd_T53 t167 x6_1).f1).length : Int) := of_decide_eq_true (by first | (with_reducible assumption) | assumption)
                            obtain ⟨ad173, e173, hx173_0⟩ := Kd.at_int (by repeat (first | (with_reducible exact HR172_1.out) | (with_reducible refine Kd.C_alloc ?_ _) | (with_reducible refine Kd.C_drewN ?_ _) | (with_reducible refine Kd.C_drew ?_) | exact HR172_1.out)) (ji11) p173 q173
                            cases e173
                            replace p173 := eq_true p173
                            replace q173 := eq_true q173
                            have p174 : 0 ≤ (x6_1 : Int) := of_decide_eq_true (by first | (with_reducible assumption) | assumption)
                            have q174 : x6_1 < (t167.length : Int) := of_decide_eq_true (by first | (with_reducible assumption) | assumption)
                            obtain ⟨ad174, A174_1, c174_1, e174, hx174_0, hx174_1, hl174_1, hi174_1⟩ := at_T53 (Kd.N_reads' HO_5.out).2.2 x6_1 p174 q174
                            obtain rfl : ad170 = ad174 := (by injection e174)
                            obtain ⟨ce174, hce174, hMe174, hcc174⟩ := Kd.N_get HO_5.out z53 x6_1 p174 (by first | exact q174 | exact of_decide_eq_true (by first | (with_reducible assumption) | assumption) | (have e_ := (Kd.N_reads' HO_5.out).1; omega))
                            obtain ⟨ua174_1, uc174_1, rfl, ul174_1, ge174_1⟩ := k53_openF hMe174
                            have hv174_1 := hcc174 1 _ rfl
                            rw [add_field _ _ 1 (by omega)] at hv174_1
                            replace hv174_1 := Option.some.inj (hv174_1.symm.trans hx174_1)
                            injection hv174_1 with hva_ hvn_ hvc_
                            rw [hva_] at ge174_1
                            rw [hvc_] at ul174_1
                            have HL174_1 := Aside0.mk (show Kd.V (Kd.int .i32) 21 _ w.heap.size _ _ ((rd_T53 t167 x6_1).f1) from Kd.V_mk ul174_1 ge174_1)
                            clear hva_ hvn_ hvc_ ge174_1 ul174_1
                            clear hcc174 hce174
                            have HR174_1 := Aside0.mk hi174_1
                            have HC174_1 := Aside0.mk hl174_1
                            clear hi174_1 hl174_1
                            replace p174 := eq_true p174
                            replace q174 := eq_true q174
                            have ea_ := Option.some.inj (hx170_1.symm.trans hx174_1)
                            injection ea_ with ea_ en_ ec_
                            subst ea_
                            subst ec_
                            clear en_
                            have p175 : 0 ≤ (x7_2 : Int) := of_decide_eq_true (by first | (with_reducible assumption) | assumption)
                            have q175 : x7_2 < (((rd_T53 t167 x6_1).f1).length : Int) := of_decide_eq_true (by first | (with_reducible assumption) | assumption)
                            obtain ⟨ad175, e175, hx175_0⟩ := Kd.at_int (by repeat (first | (with_reducible exact HR174_1.out) | (with_reducible refine Kd.C_alloc ?_ _) | (with_reducible refine Kd.C_drewN ?_ _) | (with_reducible refine Kd.C_drew ?_) | exact HR174_1.out)) x7_2 p175 q175
                            cases e175
                            replace p175 := eq_true p175
                            replace q175 := eq_true q175
                            go_wp2
                            go_ret
                            exact ⟨by first | rfl | (simp [errW_none, errW_some] <;> rfl) | (simp only [← hji11]; first | rfl | (simp [errW_none, errW_some] <;> rfl)) | (simp [*, errW_none, errW_some] <;> rfl), by repeat (first | (with_reducible first | exact HB.out | apply below_alloc | apply pw_below_drewN | apply below_drew1) | exact HB.out)⟩
                          · rw [if_neg c15] at H
                            exact absurd H (by simp)
                        · rw [if_neg c14] at H
                          exact absurd H (by simp)
                      · rw [if_neg c13] at H
                        have c13b0 : ((rd ((rd_T53 t167 x6_1).f1) (ji11)) == a1) = false := beq_eq_false_iff_ne.mpr c13
                        have c13b1 : ((rd ((rd_T53 t167 x6_1).f1) (ji11)) != a1) = true := bne_iff_ne.mpr c13
                        have H' := Aside0.mk H
                        clear H
                        have p170 : 0 ≤ (x6_1 : Int) := of_decide_eq_true (by first | (with_reducible assumption) | assumption)
                        have q170 : x6_1 < (t167.length : Int) := of_decide_eq_true (by first | (with_reducible assumption) | assumption)
                        obtain ⟨ad170, A170_1, c170_1, e170, hx170_0, hx170_1, hl170_1, hi170_1⟩ := at_T53 (Kd.N_reads' HO_5.out).2.2 x6_1 p170 q170
                        cases e170
                        obtain ⟨ce170, hce170, hMe170, hcc170⟩ := Kd.N_get HO_5.out z53 x6_1 p170 (by first | exact q170 | exact of_decide_eq_true (by first | (with_reducible assumption) | assumption) | (have e_ := (Kd.N_reads' HO_5.out).1; omega))
                        obtain ⟨ua170_1, uc170_1, rfl, ul170_1, ge170_1⟩ := k53_openF hMe170
                        have hv170_1 := hcc170 1 _ rfl
                        rw [add_field _ _ 1 (by omega)] at hv170_1
                        replace hv170_1 := Option.some.inj (hv170_1.symm.trans hx170_1)
                        injection hv170_1 with hva_ hvn_ hvc_
                        rw [hva_] at ge170_1
                        rw [hvc_] at ul170_1
                        have HL170_1 := Aside0.mk (show Kd.V (Kd.int .i32) 21 _ w.heap.size _ _ ((rd_T53 t167 x6_1).f1) from Kd.V_mk ul170_1 ge170_1)
                        clear hva_ hvn_ hvc_ ge170_1 ul170_1
                        clear hcc170 hce170
                        have HR170_1 := Aside0.mk hi170_1
                        have HC170_1 := Aside0.mk hl170_1
                        clear hi170_1 hl170_1
                        replace p170 := eq_true p170
                        replace q170 := eq_true q170
                        have p171 : 0 ≤ (x6_1 : Int) := of_decide_eq_true (by first | (with_reducible assumption) | assumption)
                        have q171 : x6_1 < (t167.length : Int) := of_decide_eq_true (by first | (with_reducible assumption) | assumption)
                        obtain ⟨ad171, A171_1, c171_1, e171, hx171_0, hx171_1, hl171_1, hi171_1⟩ := at_T53 (Kd.N_reads' HO_5.out).2.2 x6_1 p171 q171
                        obtain rfl : ad170 = ad171 := (by injection e171)
                        obtain ⟨ce171, hce171, hMe171, hcc171⟩ := Kd.N_get HO_5.out z53 x6_1 p171 (by first | exact q171 | exact of_decide_eq_true (by first | (with_reducible assumption) | assumption) | (have e_ := (Kd.N_reads' HO_5.out).1; omega))
                        obtain ⟨ua171_1, uc171_1, rfl, ul171_1, ge171_1⟩ := k53_openF hMe171
                        have hv171_1 := hcc171 1 _ rfl
                        rw [add_field _ _ 1 (by omega)] at hv171_1
                        replace hv171_1 := Option.some.inj (hv171_1.symm.trans hx171_1)
                        injection hv171_1 with hva_ hvn_ hvc_
                        rw [hva_] at ge171_1
                        rw [hvc_] at ul171_1
                        have HL171_1 := Aside0.mk (show Kd.V (Kd.int .i32) 21 _ w.heap.size _ _ ((rd_T53 t167 x6_1).f1) from Kd.V_mk ul171_1 ge171_1)
                        clear hva_ hvn_ hvc_ ge171_1 ul171_1
                        clear hcc171 hce171
                        have HR171_1 := Aside0.mk hi171_1
                        have HC171_1 := Aside0.mk hl171_1
                        clear hi171_1 hl171_1
                        replace p171 := eq_true p171
                        replace q171 := eq_true q171
                        have ea_ := Option.some.inj (hx170_1.symm.trans hx171_1)
                        injection ea_ with ea_ en_ ec_
                        subst ea_
                        subst ec_
                        clear en_
                        have p172 : 0 ≤ (x6_1 : Int) := of_decide_eq_true (by first | (with_reducible assumption) | assumption)
                        have q172 : x6_1 < (t167.length : Int) := of_decide_eq_true (by first | (with_reducible assumption) | assumption)
                        obtain ⟨ad172, A172_1, c172_1, e172, hx172_0, hx172_1, hl172_1, hi172_1⟩ := at_T53 (Kd.N_reads' HO_5.out).2.2 x6_1 p172 q172
                        obtain rfl : ad170 = ad172 := (by injection e172)
                        obtain ⟨ce172, hce172, hMe172, hcc172⟩ := Kd.N_get HO_5.out z53 x6_1 p172 (by first | exact q172 | exact of_decide_eq_true (by first | (with_reducible assumption) | assumption) | (have e_ := (Kd.N_reads' HO_5.out).1; omega))
                        obtain ⟨ua172_1, uc172_1, rfl, ul172_1, ge172_1⟩ := k53_openF hMe172
                        have hv172_1 := hcc172 1 _ rfl
                        rw [add_field _ _ 1 (by omega)] at hv172_1
                        replace hv172_1 := Option.some.inj (hv172_1.symm.trans hx172_1)
                        injection hv172_1 with hva_ hvn_ hvc_
                        rw [hva_] at ge172_1
                        rw [hvc_] at ul172_1
                        have HL172_1 := Aside0.mk (show Kd.V (Kd.int .i32) 21 _ w.heap.size _ _ ((rd_T53 t167 x6_1).f1) from Kd.V_mk ul172_1 ge172_1)
                        clear hva_ hvn_ hvc_ ge172_1 ul172_1
                        clear hcc172 hce172
                        have HR172_1 := Aside0.mk hi172_1
                        have HC172_1 := Aside0.mk hl172_1
                        clear hi172_1 hl172_1
                        replace p172 := eq_true p172
                        replace q172 := eq_true q172
                        have ea_ := Option.some.inj (hx170_1.symm.trans hx172_1)
                        injection ea_ with ea_ en_ ec_
                        subst ea_
                        subst ec_
                        clear en_
                        have p173 : 0 ≤ ((ji11) : Int) := of_decide_eq_true (by first | (with_reducible assumption) | assumption)
                        have q173 : (ji11) < (((rd_T53 t167 x6_1).f1).length : Int) := of_decide_eq_true (by first | (with_reducible assumption) | assumption)
                        obtain ⟨ad173, e173, hx173_0⟩ := Kd.at_int (by repeat (first | (with_reducible exact HR172_1.out) | (with_reducible refine Kd.C_alloc ?_ _) | (with_reducible refine Kd.C_drewN ?_ _) | (with_reducible refine Kd.C_drew ?_) | exact HR172_1.out)) (ji11) p173 q173
                        cases e173
                        replace p173 := eq_true p173
                        replace q173 := eq_true q173
                        go_wp2
                        go_roundg k2
                        case measure => have := HK1.out; have := HK2.out; omega
                        case rel => exact ⟨(wrap64 (x7_2 + 2)), (by first | rfl | (simp; done) | (simp [*]; done)), H', ⟨by have := HK1.out; have := HK2.out; omega⟩, ⟨by (with_reducible repeat (first | apply Kd.N_alloc | apply Kd.N_drewN | apply Kd.N_drew)); exact HO_5.out⟩, ⟨by repeat (first | (with_reducible first | exact HB.out | apply below_alloc | apply pw_below_drewN | apply below_drew1) | exact HB.out)⟩⟩
                    · rw [if_neg c12] at H
                      exact absurd H (by simp)
                  · rw [if_neg c10] at H
                    have c10b0 : (((rd_T53 t167 x6_1).f0) == a0) = false := beq_eq_false_iff_ne.mpr c10
                    have c10b1 : (((rd_T53 t167 x6_1).f0) != a0) = true := bne_iff_ne.mpr c10
                    have H' := Aside0.mk H
                    clear H
                    have p170 : 0 ≤ (x6_1 : Int) := of_decide_eq_true (by first | (with_reducible assumption) | assumption)
                    have q170 : x6_1 < (t167.length : Int) := of_decide_eq_true (by first | (with_reducible assumption) | assumption)
                    obtain ⟨ad170, A170_1, c170_1, e170, hx170_0, hx170_1, hl170_1, hi170_1⟩ := at_T53 (Kd.N_reads' HO_5.out).2.2 x6_1 p170 q170
                    cases e170
                    obtain ⟨ce170, hce170, hMe170, hcc170⟩ := Kd.N_get HO_5.out z53 x6_1 p170 (by first | exact q170 | exact of_decide_eq_true (by first | (with_reducible assumption) | assumption) | (have e_ := (Kd.N_reads' HO_5.out).1; omega))
                    obtain ⟨ua170_1, uc170_1, rfl, ul170_1, ge170_1⟩ := k53_openF hMe170
                    have hv170_1 := hcc170 1 _ rfl
                    rw [add_field _ _ 1 (by omega)] at hv170_1
                    replace hv170_1 := Option.some.inj (hv170_1.symm.trans hx170_1)
                    injection hv170_1 with hva_ hvn_ hvc_
                    rw [hva_] at ge170_1
                    rw [hvc_] at ul170_1
                    have HL170_1 := Aside0.mk (show Kd.V (Kd.int .i32) 21 _ w.heap.size _ _ ((rd_T53 t167 x6_1).f1) from Kd.V_mk ul170_1 ge170_1)
                    clear hva_ hvn_ hvc_ ge170_1 ul170_1
                    clear hcc170 hce170
                    have HR170_1 := Aside0.mk hi170_1
                    have HC170_1 := Aside0.mk hl170_1
                    clear hi170_1 hl170_1
                    replace p170 := eq_true p170
                    replace q170 := eq_true q170
                    have p171 : 0 ≤ (x6_1 : Int) := of_decide_eq_true (by first | (with_reducible assumption) | assumption)
                    have q171 : x6_1 < (t167.length : Int) := of_decide_eq_true (by first | (with_reducible assumption) | assumption)
                    obtain ⟨ad171, A171_1, c171_1, e171, hx171_0, hx171_1, hl171_1, hi171_1⟩ := at_T53 (Kd.N_reads' HO_5.out).2.2 x6_1 p171 q171
                    obtain rfl : ad170 = ad171 := (by injection e171)
                    obtain ⟨ce171, hce171, hMe171, hcc171⟩ := Kd.N_get HO_5.out z53 x6_1 p171 (by first | exact q171 | exact of_decide_eq_true (by first | (with_reducible assumption) | assumption) | (have e_ := (Kd.N_reads' HO_5.out).1; omega))
                    obtain ⟨ua171_1, uc171_1, rfl, ul171_1, ge171_1⟩ := k53_openF hMe171
                    have hv171_1 := hcc171 1 _ rfl
                    rw [add_field _ _ 1 (by omega)] at hv171_1
                    replace hv171_1 := Option.some.inj (hv171_1.symm.trans hx171_1)
                    injection hv171_1 with hva_ hvn_ hvc_
                    rw [hva_] at ge171_1
                    rw [hvc_] at ul171_1
                    have HL171_1 := Aside0.mk (show Kd.V (Kd.int .i32) 21 _ w.heap.size _ _ ((rd_T53 t167 x6_1).f1) from Kd.V_mk ul171_1 ge171_1)
                    clear hva_ hvn_ hvc_ ge171_1 ul171_1
                    clear hcc171 hce171
                    have HR171_1 := Aside0.mk hi171_1
                    have HC171_1 := Aside0.mk hl171_1
                    clear hi171_1 hl171_1
                    replace p171 := eq_true p171
                    replace q171 := eq_true q171
                    have ea_ := Option.some.inj (hx170_1.symm.trans hx171_1)
                    injection ea_ with ea_ en_ ec_
                    subst ea_
                    subst ec_
                    clear en_
                    go_wp2
                    go_roundg k2
                    case measure => have := HK1.out; have := HK2.out; omega
                    case rel => exact ⟨(wrap64 (x7_2 + 2)), (by first | rfl | (simp; done) | (simp [*]; done)), H', ⟨by have := HK1.out; have := HK2.out; omega⟩, ⟨by (with_reducible repeat (first | apply Kd.N_alloc | apply Kd.N_drewN | apply Kd.N_drew)); exact HO_5.out⟩, ⟨by repeat (first | (with_reducible first | exact HB.out | apply below_alloc | apply pw_below_drewN | apply below_drew1) | exact HB.out)⟩⟩
                · rw [if_neg c9] at H
                  have c9b0 : decide ((wrap64 (x7_2 + 1)) < (((rd_T53 t167 x6_1).f1).length : Int)) = false := decide_eq_false c9
                  clear c9
                  have H' := Aside0.mk H
                  clear H
                  have p170 : 0 ≤ (x6_1 : Int) := of_decide_eq_true (by first | (with_reducible assumption) | assumption)
                  have q170 : x6_1 < (t167.length : Int) := of_decide_eq_true (by first | (with_reducible assumption) | assumption)
                  obtain ⟨ad170, A170_1, c170_1, e170, hx170_0, hx170_1, hl170_1, hi170_1⟩ := at_T53 (Kd.N_reads' HO_5.out).2.2 x6_1 p170 q170
                  cases e170
                  obtain ⟨ce170, hce170, hMe170, hcc170⟩ := Kd.N_get HO_5.out z53 x6_1 p170 (by first | exact q170 | exact of_decide_eq_true (by first | (with_reducible assumption) | assumption) | (have e_ := (Kd.N_reads' HO_5.out).1; omega))
                  obtain ⟨ua170_1, uc170_1, rfl, ul170_1, ge170_1⟩ := k53_openF hMe170
                  have hv170_1 := hcc170 1 _ rfl
                  rw [add_field _ _ 1 (by omega)] at hv170_1
                  replace hv170_1 := Option.some.inj (hv170_1.symm.trans hx170_1)
                  injection hv170_1 with hva_ hvn_ hvc_
                  rw [hva_] at ge170_1
                  rw [hvc_] at ul170_1
                  have HL170_1 := Aside0.mk (show Kd.V (Kd.int .i32) 21 _ w.heap.size _ _ ((rd_T53 t167 x6_1).f1) from Kd.V_mk ul170_1 ge170_1)
                  clear hva_ hvn_ hvc_ ge170_1 ul170_1
                  clear hcc170 hce170
                  have HR170_1 := Aside0.mk hi170_1
                  have HC170_1 := Aside0.mk hl170_1
                  clear hi170_1 hl170_1
                  replace p170 := eq_true p170
                  replace q170 := eq_true q170
                  go_wp2
                  go_roundg k2
                  case measure => have := HK1.out; have := HK2.out; omega
                  case rel => exact ⟨(wrap64 (x6_1 + 1)), (by first | rfl | (simp; done) | (simp [*]; done)), H', ⟨by have := HK1.out; have := HK2.out; omega⟩, ⟨by (with_reducible repeat (first | apply Kd.N_alloc | apply Kd.N_drewN | apply Kd.N_drew)); exact HO_5.out⟩, ⟨by repeat (first | (with_reducible first | exact HB.out | apply below_alloc | apply pw_below_drewN | apply below_drew1) | exact HB.out)⟩⟩
              · rw [if_neg c8] at H
                exact absurd H (by simp)
            · rw [if_neg c7] at H
              exact absurd H (by simp)
      · rw [if_neg c5] at H
        have c5b0 : decide (x6_1 < (t167.length : Int)) = false := decide_eq_false c5
        clear c5
        obtain rfl := Option.some.inj H
        obtain ⟨Ao16, co16, eo16⟩ := Kd.N_slice HO_5.out
        subst eo16
        go_wp2
        go_ret
        exact ⟨by first | rfl | (simp [errW_none, errW_some] <;> rfl) | (simp [*, errW_none, errW_some] <;> rfl), by repeat (first | (with_reducible first | exact HB.out | apply below_alloc | apply pw_below_drewN | apply below_drew1) | exact HB.out)⟩

end Go.Proofs.Ytkmimbchapcccaa.P
