-- Printed by wip/mk.py (this session's driver over the kit's print) and from wip/manual.
import Derived.Test.YtpihglokjcbjkaaT0
import Derived.Test.YtpihglokjcbjkaaT6
namespace Go.Proofs.Ytpihglokjcbjkaa.P
open Go.RowKit Go.Proofs.YtpihglokjcbjkaaW.PrintWords Go.Proofs.YtpihglokjcbjkaaW.PrintLast Go.Proofs.YtpihglokjcbjkaaW.PrintMore
attribute [local go_sem] max2_int min2_int max_two min_two max_three min_three max_four min_four   -- for this text's walks alone
set_option linter.unusedVariables false
set_option linter.unusedSimpArgs false

/-! ### toponymref04_Join: function 55 -/
def toponymref04_Join.j0 : Nat → Int → Int → Bool → Option (Int × Bool)
 | 0, _, _, _ => none
 | k + 1, x0, x1, x13 => if x13 = true then (some (wrap32 ((wrap32 (44032 + (wrap32 (588 * (wrap32 (x0 - 4352)))))) + (wrap32 (28 * (wrap32 (x1 - 4449))))), true)) else ((toponymref04_Part.f k x0).bind fun t327 => (if t327 = 4 then ((toponymref04_Part.f k x1).bind fun t328 => (if t328 = 3 then (some (wrap32 (x0 + (wrap32 (x1 - 4519))), true)) else (some (0, false)))) else (some (0, false))))
def toponymref04_Join.f (k : Nat) (a0 : Int) (a1 : Int) : Option (Int × Bool) := (toponymref04_Part.f k a0).bind fun t325 => (if t325 = 1 then ((toponymref04_Part.f k a1).bind fun t326 => (toponymref04_Join.j0 k a0 a1 (t326 == 2))) else (toponymref04_Join.j0 k a0 a1 false))
theorem toponymref04_Join.mono_l : ∀ k, (∀ y0 y1 y2, LeO (toponymref04_Join.j0 k y0 y1 y2) (toponymref04_Join.j0 (k + 1) y0 y1 y2))
 | 0 => fun _ _ _ r h => by simp [toponymref04_Join.j0] at h
 | k + 1 => by
  have ih0 := toponymref04_Join.mono_l k
  ·intro y0 y1 y2
   unfold toponymref04_Join.j0
   repeat' first
   | (with_reducible exact ih0 _ _ _)
   | (with_reducible exact toponymref04_Part.mono _ _)
   | (with_reducible exact LeO.refl _)
   | exact ih0 _ _ _
   | exact toponymref04_Part.mono _ _
   | exact LeO.none _
   | refine LeO.ite ?_ ?_
   | refine LeO.bind ?_ (fun _ => ?_)
theorem toponymref04_Join.mono : ∀ a0 a1 k, LeO (toponymref04_Join.f k a0 a1) (toponymref04_Join.f (k + 1) a0 a1) := by
 intro a0 a1 k
 have ih0 := toponymref04_Join.mono_l k
 unfold toponymref04_Join.f
 repeat' first
   | (with_reducible exact ih0 _ _ _)
   | (with_reducible exact toponymref04_Part.mono _ _)
   | (with_reducible exact LeO.refl _)
   | exact ih0 _ _ _
   | exact toponymref04_Part.mono _ _
   | exact LeO.none _
   | refine LeO.ite ?_ ?_
   | refine LeO.bind ?_ (fun _ => ?_)
set_option maxHeartbeats 8000000 in
set_option maxRecDepth 100000 in
theorem toponymref04_Join.calls (k : Nat) (a0 : Int) (a1 : Int) (r1 : Int) (r2 : Bool) (w : World) (h : toponymref04_Join.f k a0 a1 = some (r1, r2)) :
  Calls Try.prog 55 #[.int .i32 a0, .int .i32 a1] w fun e w' => e = .returned (.tuple #[.int .i32 r1, .bool r2]) ∧ Drawn0 w w' := by
 have H : ((toponymref04_Part.f k a0).bind fun t325 => (if t325 = 1 then ((toponymref04_Part.f k a1).bind fun t326 => (toponymref04_Join.j0 k a0 a1 (t326 == 2))) else (toponymref04_Join.j0 k a0 a1 false))) = some (r1, r2) := h
 clear h
 have HC3 := aM H
 clear H
 go_enter Try.func55, Try.ntmps55
 go_upto_region 1 with (fail)
 go_cut [13] (fun v13 wc => ∃ (kq : Nat) (x13_2 : Bool), v13 = .bool x13_2 ∧ Aside0 (toponymref04_Join.j0 kq a0 a1 x13_2 = some (r1, r2)) ∧ Aside0 (kq ≤ k) ∧ Drawn0 w wc)
 case first =>
  have H := HC3.out
  clear HC3
  obtain ⟨t325, A4, H⟩ := zO H
  by_cases c5 : t325 = 1
  ·rw [if_pos c5] at H
   have c5b0 : (t325 == 1) = true := beq_iff_eq.mpr c5
   have c5b1 : (t325 != 1) = false := bne_eq_false_iff_eq.mpr c5
   clear c5
   (first | rw [c5b0] | (simp only [i64_w, i32_w]; rw [c5b0]) | skip)
   obtain ⟨t326, A6, H⟩ := zO H
   have H' := aM H
   clear H
   go_wp2_with (first | ((with_reducible refine gate_callee (f := 74) rfl ?_); refine goesL_ (some 7) rfl rfl Try.func74 zK rfl #[.int .i32 a0] rfl zM ?_; (with_reducible refine (toponymref04_Part.calls k a0 t325 _ A4.out).mono ?_); rintro e w' ⟨rfl, ⟨nd, rfl⟩⟩; (try clear A4); refine ⟨_, rfl, ?_⟩) | (go_at_call 74; (with_reducible refine (toponymref04_Part.calls k a1 t326 _ A6.out).mono ?_); rintro e w' ⟨rfl, ⟨nd, rfl⟩⟩; (try clear A6)))
   go_meet
   case rel => exact ⟨_, ((t326 == 2)), zP, H', ⟨by first | omega | exact Nat.le_refl _⟩, zD⟩
  ·rw [if_neg c5] at H
   have c5b0 : (t325 == 1) = false := beq_eq_false_iff_ne.mpr c5
   have c5b1 : (t325 != 1) = true := bne_iff_ne.mpr c5
   (first | rw [c5b0] | (simp only [i64_w, i32_w]; rw [c5b0]) | skip)
   have H' := aM H
   clear H
   go_wp2_with (first | ((with_reducible refine gate_callee (f := 74) rfl ?_); refine goesL_ (some 7) rfl rfl Try.func74 zK rfl #[.int .i32 a0] rfl zM ?_; (with_reducible refine (toponymref04_Part.calls k a0 t325 _ A4.out).mono ?_); rintro e w' ⟨rfl, ⟨nd, rfl⟩⟩; (try clear A4); refine ⟨_, rfl, ?_⟩))
   go_meet
   case rel => exact ⟨_, (false), zP, H', ⟨by first | omega | exact Nat.le_refl _⟩, zD⟩
 case rest =>
  clear HC3
  try clear p2
  try clear c5
  try clear c5b0
  try clear c5b1
  obtain ⟨kq, x13_2, rfl, HA, HJ2, ⟨mc2, rfl⟩⟩ := hcut
  cases kq with
  | zero => exact absurd HA.out (by simp [toponymref04_Join.j0])
  | succ kj2 =>
   have H := HA.out
   clear HA
   simp only [toponymref04_Join.j0] at H
   by_cases c7 : x13_2 = true
   ·subst c7
    rw [if_pos rfl] at H
    simp only [Option.some.injEq, Prod.mk.injEq] at H
    obtain ⟨rfl, rfl⟩ := H
    go_wp2
    go_ret2
    exact ⟨zP, zD⟩
   ·replace c7 := Bool.eq_false_iff.mpr c7
    subst c7
    rw [if_neg (show ¬ (false = true) by decide)] at H
    obtain ⟨t327, A8, H⟩ := zO H
    by_cases c9 : t327 = 4
    ·rw [if_pos c9] at H
     have c9b0 : (t327 == 4) = true := beq_iff_eq.mpr c9
     have c9b1 : (t327 != 4) = false := bne_eq_false_iff_eq.mpr c9
     clear c9
     obtain ⟨t328, A10, H⟩ := zO H
     by_cases c11 : t328 = 3
     ·rw [if_pos c11] at H
      have c11b0 : (t328 == 3) = true := beq_iff_eq.mpr c11
      have c11b1 : (t328 != 3) = false := bne_eq_false_iff_eq.mpr c11
      clear c11
      simp only [Option.some.injEq, Prod.mk.injEq] at H
      obtain ⟨rfl, rfl⟩ := H
      go_wp2_with (first | ((with_reducible refine gate_callee (f := 74) rfl ?_); refine goesL_ (some 23) rfl rfl Try.func74 zK rfl #[.int .i32 a0] rfl zM ?_; (with_reducible refine (toponymref04_Part.calls kj2 a0 t327 _ A8.out).mono ?_); rintro e w' ⟨rfl, ⟨nd, rfl⟩⟩; (try clear A8); refine ⟨_, rfl, ?_⟩) | (go_at_call 74; (with_reducible refine (toponymref04_Part.calls kj2 a1 t328 _ A10.out).mono ?_); rintro e w' ⟨rfl, ⟨nd, rfl⟩⟩; (try clear A10)))
      go_ret2
      exact ⟨zP, zD⟩
     ·rw [if_neg c11] at H
      have c11b0 : (t328 == 3) = false := beq_eq_false_iff_ne.mpr c11
      have c11b1 : (t328 != 3) = true := bne_iff_ne.mpr c11
      simp only [Option.some.injEq, Prod.mk.injEq] at H
      obtain ⟨rfl, rfl⟩ := H
      go_wp2_with (first | ((with_reducible refine gate_callee (f := 74) rfl ?_); refine goesL_ (some 23) rfl rfl Try.func74 zK rfl #[.int .i32 a0] rfl zM ?_; (with_reducible refine (toponymref04_Part.calls kj2 a0 t327 _ A8.out).mono ?_); rintro e w' ⟨rfl, ⟨nd, rfl⟩⟩; (try clear A8); refine ⟨_, rfl, ?_⟩) | (go_at_call 74; (with_reducible refine (toponymref04_Part.calls kj2 a1 t328 _ A10.out).mono ?_); rintro e w' ⟨rfl, ⟨nd, rfl⟩⟩; (try clear A10)))
      go_ret2
      exact ⟨zP, zD⟩
    ·rw [if_neg c9] at H
     have c9b0 : (t327 == 4) = false := beq_eq_false_iff_ne.mpr c9
     have c9b1 : (t327 != 4) = true := bne_iff_ne.mpr c9
     simp only [Option.some.injEq, Prod.mk.injEq] at H
     obtain ⟨rfl, rfl⟩ := H
     go_wp2_with (first | ((with_reducible refine gate_callee (f := 74) rfl ?_); refine goesL_ (some 23) rfl rfl Try.func74 zK rfl #[.int .i32 a0] rfl zM ?_; (with_reducible refine (toponymref04_Part.calls kj2 a0 t327 _ A8.out).mono ?_); rintro e w' ⟨rfl, ⟨nd, rfl⟩⟩; (try clear A8); refine ⟨_, rfl, ?_⟩))
     go_ret2
     exact ⟨zP, zD⟩

/-! ### toponymref05_first: function 85, by hand (toponymref05.first.tpl) -/
/-! A literal of rows, each a letter and a list of its own: its operations are two for each row, and one at the end. -/
def pat05 : List Oper → Nat → List (Int × List Int) → List Oper → Prop
  | ops, _, [], rest => ops = rest
  | o1 :: o2 :: ops, d, x :: rows, rest => (o1.guard = none ∧ o1.dst = some d ∧ ∃ parts : Array (Nat × Operand), o1.op = .buildSlice 22 x.2.length parts ∧ parts.toList = (x.2.zipIdx 0).map fun y => (y.2, Operand.const (Value.int .i32 y.1))) ∧ (0 < x.2.length ∧ x.2.length ≤ 1000) ∧
    (o2.guard = none ∧ o2.dst = some (d + 1) ∧ o2.op = .build 89 #[(0, .const (.int .i32 x.1)), (1, .tmp d)]) ∧ pat05 ops (d + 2) rows rest
  | _, _, _, _ => False
/-- What the rows so far have come to. -/
structure Rows05 (w W : World) (tm : Array Value) (N : Nat) (rows : List (Int × List Int)) : Prop where
  size : tm.size = N
  below : Below w.heap.size w W
  each : ∀ (j : Nat) (x : Int × List Int), rows[j]? = some x → ∃ A, tm.getD (2 * j + 2) undef = .agg #[.int .i32 x.1, .slice A x.2.length x.2.length] ∧ Kd.F (Kd.int .i32) W (fun k_ => w.heap.size ≤ k_) A x.2.length x.2
theorem new_F05 {w w1 : World} {k : IntKind} (t : TypeId) (xs : List Int) (hd : w.heap.size ≤ w1.heap.size) (hm : xs.length ≤ 1000) :
    Kd.F (Kd.int k) (w1.alloc (.cells (xs.map (Value.int k)).toArray t)) (fun k_ => w.heap.size ≤ k_) (some ⟨w1.heap.size, 0, none⟩) xs.length xs := by
  intro W' hW
  have hs : w1.heap.size < (w1.alloc (.cells (xs.map (Value.int k)).toArray t)).heap.size := by
    show w1.heap.size < (w1.heap.push _).size
    simp
  have hb := hW w1.heap.size hd hs
  rw [heap_alloc_new] at hb
  refine Kd.C_of_reads (d := (0 : Int)) (h1 := fun _ => rfl) ⟨rfl, by omega, fun hn => ⟨_, rfl, fun j hj => ?_⟩⟩
  rw [add_plain, cell_of_row W' w1.heap.size j _ t _ hb]
  have hj2 : xs[j]? = some (xs.getD j 0) := by simp [List.getD_eq_getElem?_getD, List.getElem?_eq_getElem hj]
  simp only [List.getElem?_toArray, List.getElem?_map, hj2, Option.map_some]
theorem built05 (c : Int) (A : Option Addr) (n m : Nat) : Try.prog.built 89 [(0, .int .i32 c), (1, .slice A n m)] = some #[.int .i32 c, .slice A n m] := by kernel_rfl
theorem size05 : (Try.prog.info? 21).map (·.size) = some 1 := by kernel_rfl
theorem zero05 : ((Try.prog.info? 21).bind (·.zero)).isSome = true := by kernel_rfl
theorem walk05 {Q : Exit → Act → World → Prop} {ops : Array Oper} {rest : List Oper} {w : World} {df : List Deferred} (N : Nat) :
    ∀ (rows l : List (Int × List Int)) (os : List Oper) (tm : Array Value) (W : World), pat05 os (2 * l.length + 1) rows rest → 2 * (l.length + rows.length) < N → Rows05 w W tm N l →
      (∀ tm' W', Rows05 w W' tm' N (l ++ rows) → wpList Try.prog ops Q rest ⟨tm', df⟩ W') → wpList Try.prog ops Q os ⟨tm, df⟩ W := by
  intro rows
  induction rows with
  | nil =>
    intro l os tm W hp hN hr next
    have : os = rest := by
      cases os with
      | nil => exact hp
      | cons o1 os =>
        cases os with
        | nil => exact hp
        | cons o2 os => exact hp
    subst this
    exact next tm W (by simpa using hr)
  | cons x rows ih =>
    intro l os tm W hp hN hr next
    match os, hp with
    | o1 :: o2 :: os, ⟨⟨g1, d1, parts, e1, hparts⟩, ⟨h0, h1⟩, ⟨g2, d2, e2⟩, hp⟩ =>
      simp only [List.length_cons] at hN
      refine wpList_buildFlat g1 22 21 x.2.length parts e1 .i32 x.2 Try.underlying22 size05 zero05 rfl h0 (by omega) hparts ?_
      rw [d1]
      show wpList Try.prog ops Q (o2 :: os) ⟨tm.setIfInBounds (2 * l.length + 1) (.slice (some ⟨W.heap.size, 0, none⟩) x.2.length x.2.length), df⟩ _
      have ev : Act.eval ⟨tm.setIfInBounds (2 * l.length + 1) (.slice (some ⟨W.heap.size, 0, none⟩) x.2.length x.2.length), df⟩ (.tmp (2 * l.length + 1)) = .slice (some ⟨W.heap.size, 0, none⟩) x.2.length x.2.length := by
        show (tm.setIfInBounds _ _).getD _ undef = _
        exact getD_set_same _ _ _ (by rw [hr.size]; omega)
      have hb : Try.prog.built 89 ((#[(0, Operand.const (.int .i32 x.1)), (1, Operand.tmp (2 * l.length + 1))] : Array (Nat × Operand)).map fun (i, y) => (i, Act.eval ⟨tm.setIfInBounds (2 * l.length + 1) (.slice (some ⟨W.heap.size, 0, none⟩) x.2.length x.2.length), df⟩ y)).toList =
          some #[.int .i32 x.1, .slice (some ⟨W.heap.size, 0, none⟩) x.2.length x.2.length] := by
        simp only [List.map_toArray, List.map_cons, List.map_nil, ev]
        exact built05 x.1 _ _ _
      refine wpList_build g2 89 _ e2 ?_ ?_
      · show (Try.prog.built _ (Array.toList (Array.map _ _))).isSome = true
        exact Option.isSome_iff_exists.2 ⟨_, hb⟩
      · show wpList Try.prog ops Q os (Act.put ⟨tm.setIfInBounds (2 * l.length + 1) (.slice (some ⟨W.heap.size, 0, none⟩) x.2.length x.2.length), df⟩ o2.dst (.agg ((Try.prog.built 89 _).getD #[]))) _
        rw [hb, d2]
        have hsz : ((tm.setIfInBounds (2 * l.length + 1) (.slice (some ⟨W.heap.size, 0, none⟩) x.2.length x.2.length)).setIfInBounds (2 * l.length + 1 + 1) (.agg #[.int .i32 x.1, .slice (some ⟨W.heap.size, 0, none⟩) x.2.length x.2.length])).size = N := by simp [hr.size]
        refine ih (l ++ [x]) os _ _ (by simpa [Nat.mul_add, Nat.add_assoc] using hp) (by simp; omega) ⟨hsz, below_alloc hr.below _, fun j y hj => ?_⟩ (fun tm' W' h => next tm' W' (by simpa using h))
        rcases Nat.lt_or_ge j l.length with hlt | hge
        · rw [List.getElem?_append_left hlt] at hj
          obtain ⟨A, ha, hf⟩ := hr.each j y hj
          refine ⟨A, ?_, Kd.F_below hf (below_alloc (Below.refl _ _) _)⟩
          rw [getD_set_ne _ _ _ _ (by omega), getD_set_ne _ _ _ _ (by omega)]
          exact ha
        · have hjl : j = l.length := by
            have := (List.getElem?_eq_some_iff.1 hj).1
            simp at this
            omega
          subst hjl
          simp only [List.getElem?_append_right (Nat.le_refl _), Nat.sub_self, List.getElem?_cons_zero, Option.some.injEq] at hj
          subst hj
          refine ⟨some ⟨W.heap.size, 0, none⟩, ?_, new_F05 21 x.2 hr.below.size h1⟩
          rw [show 2 * l.length + 2 = 2 * l.length + 1 + 1 from rfl]
          exact getD_set_same _ _ _ (by simp [hr.size]; omega)
/-- The last operation: the rows, one behind the other. -/
theorem last05 {Q : Exit → Act → World → Prop} {ops : Array Oper} {rest : List Oper} {w W : World} {df : List Deferred} {tm : Array Value} {N : Nat} (rows : List (Int × List Int)) (o : Oper) (hr : Rows05 w W tm N rows) (hg : o.guard = none) (D : Tmp) (hd : o.dst = some D)
    (parts : Array (Nat × Operand)) (ho : o.op = .buildSlice 86 rows.length parts) (hparts : parts.toList = ((List.range rows.length).map fun j => Operand.tmp (2 * j + 2)).zipIdx.map fun y => (y.2, y.1)) (h0 : 0 < rows.length) (h1 : rows.length ≤ 1000)
    (h : ∀ v W', Kd.N k89 89 W' w.heap.size (fun k_ => w.heap.size ≤ k_) v (rows.map fun x => (⟨x.1, x.2⟩ : S89)) → Below w.heap.size w W' → wpList Try.prog ops Q rest ⟨tm.setIfInBounds D v, df⟩ W') :
    wpList Try.prog ops Q (o :: rest) ⟨tm, df⟩ W := by
  let vs : List Value := (List.range rows.length).map fun j => tm.getD (2 * j + 2) undef
  have hv : ∀ (j : Nat) (v : Value), vs[j]? = some v → ∃ x A, rows[j]? = some x ∧ v = .agg #[.int .i32 x.1, .slice A x.2.length x.2.length] ∧ Kd.F (Kd.int .i32) W (fun k_ => w.heap.size ≤ k_) A x.2.length x.2 := by
    intro j v hj
    have hl : j < rows.length := by
      have := (List.getElem?_eq_some_iff.1 hj).1
      simpa [vs] using this
    obtain ⟨A, ha, hf⟩ := hr.each j rows[j] (List.getElem?_eq_getElem hl)
    refine ⟨rows[j], A, List.getElem?_eq_getElem hl, ?_, hf⟩
    have : vs[j]? = some (tm.getD (2 * j + 2) undef) := by simp [vs, hl]
    rw [this] at hj
    injection hj with hj
    rw [← hj, ha]
  have hcell : ∀ v ∈ vs, v.cells.size = 2 := by
    intro v hm
    obtain ⟨j, hj⟩ := List.getElem?_of_mem hm
    obtain ⟨x, A, _, rfl, _⟩ := hv j v hj
    rfl
  have hlen : vs.length = rows.length := by simp [vs]
  obtain ⟨ie, z, hie, hz, hs2⟩ : ∃ ie z, Try.prog.info? 89 = some ie ∧ ie.zero = some z ∧ ie.size = 2 := by
    have e1 : (Try.prog.info? 89).map (fun i => (i.zero.isSome, i.size)) = some (true, 2) := by kernel_rfl
    cases hie : Try.prog.info? 89 with
    | none => rw [hie] at e1; cases e1
    | some ie =>
      rw [hie] at e1
      simp only [Option.map_some, Option.some.injEq, Prod.mk.injEq] at e1
      obtain ⟨z, hz⟩ := Option.isSome_iff_exists.1 e1.1
      exact ⟨ie, z, rfl, hz, e1.2⟩
  have hev : (parts.map fun (i, y) => (i, Act.eval ⟨tm, df⟩ y)).toList = (vs.zipIdx 0).map fun y => (y.2, y.1) := by
    rw [Array.toList_map, hparts]
    simp only [vs, List.zipIdx_map, List.map_map]
    rfl
  have hrun : (execOp (Act.eval ⟨tm, df⟩) o).run Try.prog W = .ok (.value (.slice (some ⟨W.heap.size, 0, none⟩) (rows.map fun x => (⟨x.1, x.2⟩ : S89)).length (rows.map fun x => (⟨x.1, x.2⟩ : S89)).length)) (W.alloc (.cells (vs.flatMap fun v => v.cells.toList).toArray 89)) := by
    rw [List.length_map]
    unfold execOp
    simp only [ho, Sem.run_bind, run_buildSlice W 86 89 rows.length _ _ ie z Try.underlying86 hie hz (by rw [hs2]; omega) (by rw [hs2]; omega) (by
      rw [hev, hs2]
      exact Great.fill_whole (by omega) vs _ hcell (by simp [hlen])), Result.andThen_ok]
    rfl
  have hrep : ∀ (n : Nat), Reps (Kd.FK k89 W (fun k_ => w.heap.size ≤ k_)) 2 ((rows.drop n).map fun x => (⟨x.1, x.2⟩ : S89)) ((vs.drop n).flatMap fun v => v.cells.toList) := by
    intro n
    induction hk : rows.length - n generalizing n with
    | zero =>
      rw [List.drop_of_length_le (by omega), List.drop_of_length_le (by omega)]
      exact Reps.none _ _
    | succ k ih =>
      have hl : n < rows.length := by omega
      have hl2 : n < vs.length := by omega
      rw [List.drop_eq_getElem_cons hl, List.drop_eq_getElem_cons hl2]
      obtain ⟨x, A, hx, he, hf⟩ := hv n vs[n] (List.getElem?_eq_getElem hl2)
      rw [List.getElem?_eq_getElem hl] at hx
      injection hx with hx
      rw [List.map_cons, List.flatMap_cons, he, hx]
      exact Reps.c2 (k89_mkF _ _ (⟨x.1, x.2⟩ : S89) (Nat.le_refl _) hf) (ih (n + 1) (by omega))
  refine Kd.N_lit k89 (w0 := w) w.heap.size 89 hg hd (ok := fun k_ => w.heap.size ≤ k_) (okp := fun k_ => w.heap.size ≤ k_) hrun (by show Reps _ 2 _ _; simpa using hrep 0) (fun _ hk => hk) hr.below.size hr.below hr.below.size (by rw [List.length_map]; omega) ?_
  intro v1 w1 hn hb hg_ hat
  rw [hd]
  exact h v1 w1 hn hb
def toponymref05_first.rows : List (Int × List Int) := [(65, [192, 768, 193, 769, 194, 770, 195, 771, 256, 772, 258, 774, 196, 776, 197, 778, 260, 808]), (67, [262, 769, 264, 770, 266, 775, 268, 780, 199, 807]), (68, [270, 780]), (69, [200, 768, 201, 769, 202, 770, 274, 772, 276, 774, 278, 775, 203, 776, 282, 780, 280, 808]), (71, [284, 770, 286, 774, 288, 775, 290, 807]), (72, [292, 770]), (73, [204, 768, 205, 769, 206, 770, 296, 771, 298, 772, 300, 774, 304, 775, 207, 776, 302, 808]), (74, [308, 770]), (75, [310, 807]), (76, [313, 769, 317, 780, 315, 807]), (78, [323, 769, 209, 771, 327, 780, 325, 807]), (79, [210, 768, 211, 769, 212, 770, 213, 771, 332, 772, 334, 774, 214, 776, 336, 779]), (82, [340, 769, 344, 780, 342, 807]), (83, [346, 769, 348, 770, 352, 780, 350, 807]), (84, [356, 780, 354, 807]), (85, [217, 768, 218, 769, 219, 770, 360, 771, 362, 772, 364, 774, 220, 776, 366, 778, 368, 779, 370, 808]), (87, [372, 770]), (89, [221, 769, 374, 770, 376, 776]), (90, [377, 769, 379, 775, 381, 780]), (97, [224, 768, 225, 769, 226, 770, 227, 771, 257, 772, 259, 774, 228, 776, 229, 778, 261, 808]), (99, [263, 769, 265, 770, 267, 775, 269, 780, 231, 807]), (100, [271, 780]), (101, [232, 768, 233, 769, 234, 770, 275, 772, 277, 774, 279, 775, 235, 776, 283, 780, 281, 808]), (103, [285, 770, 287, 774, 289, 775, 291, 807]), (104, [293, 770]), (105, [236, 768, 237, 769, 238, 770, 297, 771, 299, 772, 301, 774, 239, 776, 303, 808]), (106, [309, 770]), (107, [311, 807]), (108, [314, 769, 318, 780, 316, 807]), (110, [324, 769, 241, 771, 328, 780, 326, 807]), (111, [242, 768, 243, 769, 244, 770, 245, 771, 333, 772, 335, 774, 246, 776, 337, 779]), (114, [341, 769, 345, 780, 343, 807]), (115, [347, 769, 349, 770, 353, 780, 351, 807]), (116, [357, 780, 355, 807]), (117, [249, 768, 250, 769, 251, 770, 361, 771, 363, 772, 365, 774, 252, 776, 367, 778, 369, 779, 371, 808]), (119, [373, 770]), (121, [253, 769, 375, 770, 255, 776]), (122, [378, 769, 380, 775, 382, 780]), (913, [902, 769]), (917, [904, 769])]
def toponymref05_first.f : Option (List (S89)) := some (toponymref05_first.rows.map fun x => ⟨x.1, x.2⟩)
set_option maxHeartbeats 8000000 in
set_option maxRecDepth 100000 in
theorem toponymref05_first.calls (r : List (S89)) (w : World) (h : toponymref05_first.f = some r) :
    Calls Try.prog 85 #[] w fun e w' => ∃ v0_ : Value, e = .returned (v0_) ∧ Kd.N k89 89 w' w.heap.size (fun k_ => (w.heap.size ≤ k_)) v0_ r ∧ Below w.heap.size w w' := by
  obtain rfl := Option.some.inj h
  clear h
  go_enter Try.func85, Try.ntmps85
  refine wp_seq ?_
  refine wp_region_lit ?_
  refine wpList_step fun K0 hK0 => ?_
  refine hK0 _ _ ?_
  refine wpList_nil ?_
  show Code.wp _ _ _ _ _
  refine wp_seq ?_
  refine wp_region_lit ?_
  refine walk05 82 toponymref05_first.rows [] _ _ _ (rest := ?rest) ?pat (by decide) ⟨rfl, Below.refl _ _, fun j x hj => by simp at hj⟩ ?next
  case pat =>
    show pat05 _ 1 _ _
    repeat (refine ⟨⟨rfl, rfl, _, rfl, rfl⟩, ⟨by decide, by decide⟩, ⟨rfl, rfl, rfl⟩, ?_⟩)
    exact rfl
  case next =>
    intro tm W' hr
    refine last05 toponymref05_first.rows _ hr rfl 81 rfl _ rfl rfl (by decide) (by decide) ?_
    intro v W2 hn hb
    have hs := hr.size
    clear hr
    refine st_assign ?_
    refine wpList_nil ?_
    show Code.wp _ _ _ _ _
    refine wp_ret ?_
    refine bodyPost_ret (results_tmp rfl _ _ _) rfl ?_
    refine ⟨v, ?_, hn, hb⟩
    show Ending.returned (((tm.setIfInBounds 81 v).setIfInBounds 0 ((tm.setIfInBounds 81 v).getD 81 undef)).getD 0 undef) = _
    rw [getD_set_same _ _ _ (by simp [hs]), getD_set_same _ _ _ (by simp [hs])]

/-! ### toponymref05_second: function 86, by hand (toponymref05.second.tpl) -/
def toponymref05_second.rows : List (Int × List Int) := [(919, [905, 769]), (921, [906, 769, 938, 776]), (927, [908, 769]), (933, [910, 769, 939, 776]), (937, [911, 769]), (945, [940, 769]), (949, [941, 769]), (951, [942, 769]), (953, [943, 769, 970, 776]), (959, [972, 769]), (965, [973, 769, 971, 776]), (969, [974, 769]), (970, [912, 769]), (971, [944, 769]), (1045, [1025, 776]), (1048, [1049, 774]), (1077, [1105, 776]), (1080, [1081, 774]), (12358, [12436, 12441]), (12363, [12364, 12441]), (12365, [12366, 12441]), (12367, [12368, 12441]), (12369, [12370, 12441]), (12371, [12372, 12441]), (12373, [12374, 12441]), (12375, [12376, 12441]), (12377, [12378, 12441]), (12379, [12380, 12441]), (12381, [12382, 12441]), (12383, [12384, 12441]), (12385, [12386, 12441]), (12388, [12389, 12441]), (12390, [12391, 12441]), (12392, [12393, 12441]), (12399, [12400, 12441, 12401, 12442]), (12402, [12403, 12441, 12404, 12442]), (12405, [12406, 12441, 12407, 12442]), (12408, [12409, 12441, 12410, 12442]), (12411, [12412, 12441, 12413, 12442])]
def toponymref05_second.f : Option (List (S89)) := some (toponymref05_second.rows.map fun x => ⟨x.1, x.2⟩)
set_option maxHeartbeats 8000000 in
set_option maxRecDepth 100000 in
theorem toponymref05_second.calls (r : List (S89)) (w : World) (h : toponymref05_second.f = some r) :
    Calls Try.prog 86 #[] w fun e w' => ∃ v0_ : Value, e = .returned (v0_) ∧ Kd.N k89 89 w' w.heap.size (fun k_ => (w.heap.size ≤ k_)) v0_ r ∧ Below w.heap.size w w' := by
  obtain rfl := Option.some.inj h
  clear h
  go_enter Try.func86, Try.ntmps86
  refine wp_seq ?_
  refine wp_region_lit ?_
  refine wpList_step fun K0 hK0 => ?_
  refine hK0 _ _ ?_
  refine wpList_nil ?_
  show Code.wp _ _ _ _ _
  refine wp_seq ?_
  refine wp_region_lit ?_
  refine walk05 80 toponymref05_second.rows [] _ _ _ (rest := ?rest) ?pat (by decide) ⟨rfl, Below.refl _ _, fun j x hj => by simp at hj⟩ ?next
  case pat =>
    show pat05 _ 1 _ _
    repeat (refine ⟨⟨rfl, rfl, _, rfl, rfl⟩, ⟨by decide, by decide⟩, ⟨rfl, rfl, rfl⟩, ?_⟩)
    exact rfl
  case next =>
    intro tm W' hr
    refine last05 toponymref05_second.rows _ hr rfl 79 rfl _ rfl rfl (by decide) (by decide) ?_
    intro v W2 hn hb
    have hs := hr.size
    clear hr
    refine st_assign ?_
    refine wpList_nil ?_
    show Code.wp _ _ _ _ _
    refine wp_ret ?_
    refine bodyPost_ret (results_tmp rfl _ _ _) rfl ?_
    refine ⟨v, ?_, hn, hb⟩
    show Ending.returned (((tm.setIfInBounds 79 v).setIfInBounds 0 ((tm.setIfInBounds 79 v).getD 79 undef)).getD 0 undef) = _
    rw [getD_set_same _ _ _ (by simp [hs]), getD_set_same _ _ _ (by simp [hs])]

/-! ### toponymref05_Bases: function 75 -/
def toponymref05_Bases.f  : Option ((List (S89))) := (toponymref05_first.f).bind fun t329 => ((toponymref05_second.f).bind fun t332 => (if t329.length + t332.length < 4398046511104 then (some (t329 ++ t332)) else (none)))
set_option maxHeartbeats 8000000 in
set_option maxRecDepth 100000 in
theorem toponymref05_Bases.calls  (r : List (S89)) (w : World) (h : toponymref05_Bases.f  = some r) :
  Calls Try.prog 75 #[] w fun e w' => ∃ v0_ : Value, e = .returned (v0_) ∧ Kd.N k89 89 w' w.heap.size (fun k_ => (w.heap.size ≤ k_)) v0_ r ∧ Below w.heap.size w w' := by
 have HB := aM (Below.refl w.heap.size w)
 have H : ((toponymref05_first.f).bind fun t329 => ((toponymref05_second.f).bind fun t332 => (if t329.length + t332.length < 4398046511104 then (some (t329 ++ t332)) else (none)))) = some r := h
 clear h
 obtain ⟨t329, A1, H⟩ := zO H
 obtain ⟨t332, A2, H⟩ := zO H
 by_cases c3 : t329.length + t332.length < 4398046511104
 ·rw [if_pos c3] at H
  have LMc3 := aM c3
  clear c3
  obtain ⟨y335, hy335⟩ : ∃ y_ : List (S89), y_ = (t329 ++ t332) := ⟨_, rfl⟩
  replace H : (some y335) = some r := zY hy335 H
  have Ny335 := aM hy335
  clear hy335
  obtain rfl := sI H
  go_enter Try.func75, Try.ntmps75
  go_wp2_with (first | ((with_reducible refine gate_callee (f := 85) rfl ?_); refine goesL_ (some 1) rfl rfl Try.func85 zK rfl #[] rfl zM ?_; (with_reducible refine (toponymref05_first.calls  t329 _ A1.out).mono ?_); rintro e w4 ⟨v330, rfl, ho0, hb⟩; refine ⟨_, rfl, ?_⟩; have n_ := zI (aM (Kd.N_lower (Kd.N_mono (ok' := fun k_ => (w.heap.size ≤ k_)) ho0 (fun k_ hk_ => (Nat.le_trans (below_size zB) hk_))) (below_size zB))) (aM (below_step zB hb)); clear HB; obtain ⟨HO331, HB⟩ := n_; (try clear hb); (try clear hk); (try clear ho0)) | ((with_reducible refine gate_callee (f := 86) rfl ?_); refine goesL_ (some 2) rfl rfl Try.func86 zK rfl #[] rfl zM ?_; (with_reducible refine (toponymref05_second.calls  t332 _ A2.out).mono ?_); rintro e w5 ⟨v333, rfl, ho0, hb⟩; refine ⟨_, rfl, ?_⟩; have n_ := zI (aM (Kd.N_elder' (zN HO331) (Kd.N_base ho0) hb)) (zI (aM (Kd.N_lower (Kd.N_mono (ok' := fun k_ => (w.heap.size ≤ k_) ∧ some k_ ≠ (v330 : Value).ownBlock) ho0 (fun k_ hk_ => ⟨(Nat.le_trans (below_size zB) hk_), (Kd.fresh' (Kd.N_lt (zN HO331)) k_ hk_)⟩)) (below_size zB))) (aM (below_step zB hb))); clear HO331 HB; obtain ⟨HO331, HO334, HB⟩ := n_; (try clear hb); (try clear hk); (try clear ho0); obtain ⟨Ao7, co7, rfl⟩ := Kd.N_slice HO334.out) | ((with_reducible refine gate_builtin (b := .append) (xs := #[.tmp 1, .tmp 2]) rfl ?_); at_builtin; refine Kd.N_append_rows k89 (w0 := w) w.heap.size rfl (.tmp 1) (.tmp 2) 86 89 (.agg #[(.int .i32 0), (.slice none 0 0)]) 32 rfl Try.underlying86 info89 rfl (by decide) (by omega) v330 t329 t332 _ _ _ (fun k_ => (w.heap.size ≤ k_)) (fun k_ => ((fun k_ => (w.heap.size ≤ k_))) k_ ∧ some k_ ≠ (v330 : Value).ownBlock) rfl rfl ?aO ?aR (fun _ hk => hk) ?aF ?aB ?aS ?aL ?_; (case aR => exact (by skip; exact Kd.N_F (Kd.N_mono (ok' := (fun k_ => ((fun k_ => (w.heap.size ≤ k_))) k_ ∧ some k_ ≠ (v330 : Value).ownBlock)) (HO334.out) (fun k_ hk => ⟨hk.1, hk.2⟩)))); (case aB => exact zB); (case aF => exact (fun k_ hk => (Nat.le_trans (below_size zB) hk))); (case aO => exact (by (with_reducible repeat (first | apply Kd.N_alloc | apply Kd.N_drewN | apply Kd.N_drew)); exact Kd.N_mono HO331.out (fun _ hk => hk.1))); (case aS => exact (below_size zB)); (case aL => have := LMc3.out; omega); intro v336 w6 ho hb hg hat; rw [← Ny335.out] at ho; have n_ := zI (aM (Kd.N_afterv (ok := (fun k_ => (w.heap.size ≤ k_))) (zN HO334) hg hat)) (zI (aM (hb)) (aM (ho))); clear HO334 HB HO331; obtain ⟨HO334, HB, HO337⟩ := n_; clear ho hb hg hat))
  go_ret
  exact ⟨_, zE, zN HO337, zB⟩
 ·rw [if_neg c3] at H
  exact absurd H (by simp)

/-! ### toponymref05_Made: function 56 -/
mutual
def toponymref05_Made.l0 : Nat → Int → Int → List (S89) → Int → Option (Int)
 | 0, _, _, _, _ => none
 | k + 1, x0, x1, x5, x6 => if x6 < (x5.length : Int) then (toponymref05_Made.l1 k x0 x1 x5 x6 0) else (some 0)
def toponymref05_Made.l1 : Nat → Int → Int → List (S89) → Int → Int → Option (Int)
 | 0, _, _, _, _, _ => none
 | k + 1, x0, x1, x5, x6, x7 => if 0 ≤ x6 then (if x6 < (x5.length : Int) then (if (wrap64 (x7 + 1)) < (((rd_T89 x5 x6).f1).length : Int) then (if ((rd_T89 x5 x6).f0) = x0 then (if 0 ≤ (wrap64 (x7 + 1)) then (if (rd ((rd_T89 x5 x6).f1) (wrap64 (x7 + 1))) = x1 then (if 0 ≤ x7 then (if x7 < (((rd_T89 x5 x6).f1).length : Int) then (some (rd ((rd_T89 x5 x6).f1) x7)) else (none)) else (none)) else (toponymref05_Made.l1 k x0 x1 x5 x6 (wrap64 (x7 + 2)))) else (none)) else (toponymref05_Made.l1 k x0 x1 x5 x6 (wrap64 (x7 + 2)))) else (toponymref05_Made.l0 k x0 x1 x5 (wrap64 (x6 + 1)))) else (none)) else (none)
end
def toponymref05_Made.f (k : Nat) (a0 : Int) (a1 : Int) : Option (Int) := (toponymref05_Bases.f).bind fun t338 => (toponymref05_Made.l0 k a0 a1 t338 0)
theorem toponymref05_Made.mono_l : ∀ k, (∀ y0 y1 y2 y3, LeO (toponymref05_Made.l0 k y0 y1 y2 y3) (toponymref05_Made.l0 (k + 1) y0 y1 y2 y3)) ∧ (∀ y0 y1 y2 y3 y4, LeO (toponymref05_Made.l1 k y0 y1 y2 y3 y4) (toponymref05_Made.l1 (k + 1) y0 y1 y2 y3 y4))
 | 0 => ⟨fun _ _ _ _ r h => by simp [toponymref05_Made.l0] at h, fun _ _ _ _ _ r h => by simp [toponymref05_Made.l1] at h⟩
 | k + 1 => by
  obtain ⟨ih0, ih1⟩ := toponymref05_Made.mono_l k
  refine ⟨?_, ?_⟩
  ·intro y0 y1 y2 y3
   unfold toponymref05_Made.l0
   repeat' first
   | (with_reducible exact ih0 _ _ _ _)
   | (with_reducible exact ih1 _ _ _ _ _)
   | (with_reducible exact LeO.refl _)
   | exact ih0 _ _ _ _
   | exact ih1 _ _ _ _ _
   | exact LeO.none _
   | refine LeO.ite ?_ ?_
   | refine LeO.bind ?_ (fun _ => ?_)
  ·intro y0 y1 y2 y3 y4
   unfold toponymref05_Made.l1
   repeat' first
   | (with_reducible exact ih0 _ _ _ _)
   | (with_reducible exact ih1 _ _ _ _ _)
   | (with_reducible exact LeO.refl _)
   | exact ih0 _ _ _ _
   | exact ih1 _ _ _ _ _
   | exact LeO.none _
   | refine LeO.ite ?_ ?_
   | refine LeO.bind ?_ (fun _ => ?_)
theorem toponymref05_Made.mono : ∀ a0 a1 k, LeO (toponymref05_Made.f k a0 a1) (toponymref05_Made.f (k + 1) a0 a1) := by
 intro a0 a1 k
 obtain ⟨ih0, ih1⟩ := toponymref05_Made.mono_l k
 unfold toponymref05_Made.f
 repeat' first
   | (with_reducible exact ih0 _ _ _ _)
   | (with_reducible exact ih1 _ _ _ _ _)
   | (with_reducible exact LeO.refl _)
   | exact ih0 _ _ _ _
   | exact ih1 _ _ _ _ _
   | exact LeO.none _
   | refine LeO.ite ?_ ?_
   | refine LeO.bind ?_ (fun _ => ?_)
set_option maxHeartbeats 8000000 in
set_option maxRecDepth 100000 in
theorem toponymref05_Made.calls (k : Nat) (a0 : Int) (a1 : Int) (r : Int) (w : World) (h : toponymref05_Made.f k a0 a1 = some r) :
  Calls Try.prog 56 #[.int .i32 a0, .int .i32 a1] w fun e w' => e = .returned (.int .i32 r) ∧ Below w.heap.size w w' := by
 have HB := aM (Below.refl w.heap.size w)
 have H : ((toponymref05_Bases.f).bind fun t338 => (toponymref05_Made.l0 k a0 a1 t338 0)) = some r := h
 clear h
 obtain ⟨t338, A3, H⟩ := zO H
 have H' := aM H
 clear H
 go_enter Try.func56, Try.ntmps56
 go_wp2_with (first | ((with_reducible refine gate_callee (f := 75) rfl ?_); refine goesL_ (some 8) rfl rfl Try.func75 zK rfl #[] rfl zM ?_; (with_reducible refine (toponymref05_Bases.calls  t338 _ A3.out).mono ?_); rintro e w4 ⟨v339, rfl, ho0, hb⟩; refine ⟨_, rfl, ?_⟩; have n_ := zI (aM (Kd.N_lower (Kd.N_mono (ok' := fun k_ => True) ho0 (fun k_ hk_ => trivial)) (below_size zB))) (aM (below_step zB hb)); clear HB; obtain ⟨HO340, HB⟩ := n_; (try clear hb); (try clear ho0)))
 go_loopg [6] k (fun kq v6 w' => ∃ (x6_1 : Int), v6 = .int .i64 x6_1 ∧ Aside0 (toponymref05_Made.l0 kq a0 a1 t338 x6_1 = some r) ∧ Aside0 (kq ≤ k) ∧ Aside0 (Kd.N k89 89 w' w.heap.size (fun _ => True) v339 t338) ∧ Aside0 (Below w.heap.size w w'))
 case atStart => exact ⟨(0), zP, H', ⟨Nat.le_refl _⟩, ⟨zN HO340⟩, ⟨zB⟩⟩
 case round =>
  clear H'
  try clear p2
  obtain ⟨x6_1, rfl, HA, HK1, HO_5, HB⟩ := hrel
  cases gk with
  | zero => exact absurd HA.out (by simp [toponymref05_Made.l0])
  | succ k1 =>
   have H := HA.out
   clear HA
   simp only [toponymref05_Made.l0] at H
   by_cases c5 : x6_1 < (t338.length : Int)
   ·rw [if_pos c5] at H
    have c5b0 : decide (x6_1 < (t338.length : Int)) = true := decide_eq_true c5
    clear c5
    have H' := aM H
    clear H
    obtain ⟨Ao6, co6, eo6⟩ := Kd.N_slice HO_5.out
    subst eo6
    go_wp2
    go_loopg [7] k1 (fun kq v7 w' => ∃ (x7_2 : Int), v7 = .int .i64 x7_2 ∧ Aside0 (toponymref05_Made.l1 kq a0 a1 t338 x6_1 x7_2 = some r) ∧ Aside0 (kq ≤ k1) ∧ Aside0 (Kd.N k89 89 w' w.heap.size (fun _ => True) (.slice Ao6 t338.length co6) t338) ∧ Aside0 (Below w.heap.size w w'))
    case atStart => exact ⟨(0), zP, H', ⟨Nat.le_refl _⟩, ⟨zN HO_5⟩, ⟨zB⟩⟩
    case round =>
     clear H'
     try clear p2
     try clear c5
     try clear c5b0
     try clear p2
     obtain ⟨x7_2, rfl, HA, HK2, HO_5, HB⟩ := hrel
     cases gk with
     | zero => exact absurd HA.out (by simp [toponymref05_Made.l1])
     | succ k2 =>
      have H := HA.out
      clear HA
      simp only [toponymref05_Made.l1] at H
      by_cases c7 : 0 ≤ x6_1
      ·rw [if_pos c7] at H
       have c7b0 : decide (0 ≤ x6_1) = true := decide_eq_true c7
       clear c7
       by_cases c8 : x6_1 < (t338.length : Int)
       ·rw [if_pos c8] at H
        have c8b0 : decide (x6_1 < (t338.length : Int)) = true := decide_eq_true c8
        clear c8
        by_cases c9 : (wrap64 (x7_2 + 1)) < (((rd_T89 t338 x6_1).f1).length : Int)
        ·rw [if_pos c9] at H
         have c9b0 : decide ((wrap64 (x7_2 + 1)) < (((rd_T89 t338 x6_1).f1).length : Int)) = true := decide_eq_true c9
         clear c9
         by_cases c10 : ((rd_T89 t338 x6_1).f0) = a0
         ·rw [if_pos c10] at H
          have c10b0 : (((rd_T89 t338 x6_1).f0) == a0) = true := beq_iff_eq.mpr c10
          have c10b1 : (((rd_T89 t338 x6_1).f0) != a0) = false := bne_eq_false_iff_eq.mpr c10
          clear c10
          obtain ⟨ji11, hji11⟩ : ∃ j_ : Int, (wrap64 (x7_2 + 1)) = j_ := ⟨_, rfl⟩
          replace H : (if 0 ≤ (ji11) then (if (rd ((rd_T89 t338 x6_1).f1) (ji11)) = a1 then (if 0 ≤ x7_2 then (if x7_2 < (((rd_T89 t338 x6_1).f1).length : Int) then (some (rd ((rd_T89 t338 x6_1).f1) x7_2)) else (none)) else (none)) else (toponymref05_Made.l1 k2 a0 a1 t338 x6_1 (wrap64 (x7_2 + 2)))) else (none)) = some r := by first | (rw [hji11] at H; exact H) | (simp only [hji11] at H ⊢; exact H)
          (try rw [hji11] at c9b0)
          have hji11w : (IntKind.i64.wrap (x7_2 + 1)) = ji11 := (i64_w _).trans hji11
          by_cases c12 : 0 ≤ (ji11)
          ·rw [if_pos c12] at H
           have c12b0 : decide (0 ≤ (ji11)) = true := decide_eq_true c12
           clear c12
           by_cases c13 : (rd ((rd_T89 t338 x6_1).f1) (ji11)) = a1
           ·rw [if_pos c13] at H
            have c13b0 : ((rd ((rd_T89 t338 x6_1).f1) (ji11)) == a1) = true := beq_iff_eq.mpr c13
            have c13b1 : ((rd ((rd_T89 t338 x6_1).f1) (ji11)) != a1) = false := bne_eq_false_iff_eq.mpr c13
            clear c13
            by_cases c14 : 0 ≤ x7_2
            ·rw [if_pos c14] at H
             have c14b0 : decide (0 ≤ x7_2) = true := decide_eq_true c14
             clear c14
             by_cases c15 : x7_2 < (((rd_T89 t338 x6_1).f1).length : Int)
             ·rw [if_pos c15] at H
              have c15b0 : decide (x7_2 < (((rd_T89 t338 x6_1).f1).length : Int)) = true := decide_eq_true c15
              clear c15
              obtain rfl := sI H
              have p341 : 0 ≤ (x6_1 : Int) := zoA
              have q341 : x6_1 < (t338.length : Int) := zoA
              obtain ⟨ad341, A341_1, c341_1, e341, hx341_0, hx341_1, hl341_1, hi341_1⟩ := at_T89 (Kd.N_reads' HO_5.out).2.2 x6_1 p341 q341
              cases e341
              obtain ⟨ce341, hce341, hMe341, hcc341⟩ := Kd.N_get HO_5.out z89 x6_1 p341 (by first | exact q341 | exact zoA | (have e_ := (Kd.N_reads' HO_5.out).1; omega))
              obtain ⟨ua341_1, uc341_1, rfl, ul341_1, ge341_1⟩ := k89_openF hMe341
              have hv341_1 := hcc341 1 _ rfl
              rw [add_field _ _ 1 (by omega)] at hv341_1
              replace hv341_1 := sI (hv341_1.symm.trans hx341_1)
              injection hv341_1 with hva_ hvn_ hvc_
              rw [hva_] at ge341_1
              rw [hvc_] at ul341_1
              have HL341_1 := aM (show Kd.V (Kd.int .i32) 21 _ w.heap.size _ _ ((rd_T89 t338 x6_1).f1) from Kd.V_mk ul341_1 ge341_1)
              clear hva_ hvn_ hvc_ ge341_1 ul341_1
              clear hcc341 hce341
              have HR341_1 := aM hi341_1
              have HC341_1 := aM hl341_1
              clear hi341_1 hl341_1
              replace p341 := eq_true p341
              replace q341 := eq_true q341
              have p342 : 0 ≤ (x6_1 : Int) := zoA
              have q342 : x6_1 < (t338.length : Int) := zoA
              obtain ⟨ad342, A342_1, c342_1, e342, hx342_0, hx342_1, hl342_1, hi342_1⟩ := at_T89 (Kd.N_reads' HO_5.out).2.2 x6_1 p342 q342
              obtain rfl : ad341 = ad342 := (by injection e342)
              obtain ⟨ce342, hce342, hMe342, hcc342⟩ := Kd.N_get HO_5.out z89 x6_1 p342 (by first | exact q342 | exact zoA | (have e_ := (Kd.N_reads' HO_5.out).1; omega))
              obtain ⟨ua342_1, uc342_1, rfl, ul342_1, ge342_1⟩ := k89_openF hMe342
              have hv342_1 := hcc342 1 _ rfl
              rw [add_field _ _ 1 (by omega)] at hv342_1
              replace hv342_1 := sI (hv342_1.symm.trans hx342_1)
              injection hv342_1 with hva_ hvn_ hvc_
              rw [hva_] at ge342_1
              rw [hvc_] at ul342_1
              have HL342_1 := aM (show Kd.V (Kd.int .i32) 21 _ w.heap.size _ _ ((rd_T89 t338 x6_1).f1) from Kd.V_mk ul342_1 ge342_1)
              clear hva_ hvn_ hvc_ ge342_1 ul342_1
              clear hcc342 hce342
              have HR342_1 := aM hi342_1
              have HC342_1 := aM hl342_1
              clear hi342_1 hl342_1
              replace p342 := eq_true p342
              replace q342 := eq_true q342
              have ea_ := sI (hx341_1.symm.trans hx342_1)
              injection ea_ with ea_ en_ ec_
              subst ea_
              subst ec_
              clear en_
              have p343 : 0 ≤ (x6_1 : Int) := zoA
              have q343 : x6_1 < (t338.length : Int) := zoA
              obtain ⟨ad343, A343_1, c343_1, e343, hx343_0, hx343_1, hl343_1, hi343_1⟩ := at_T89 (Kd.N_reads' HO_5.out).2.2 x6_1 p343 q343
              obtain rfl : ad341 = ad343 := (by injection e343)
              obtain ⟨ce343, hce343, hMe343, hcc343⟩ := Kd.N_get HO_5.out z89 x6_1 p343 (by first | exact q343 | exact zoA | (have e_ := (Kd.N_reads' HO_5.out).1; omega))
              obtain ⟨ua343_1, uc343_1, rfl, ul343_1, ge343_1⟩ := k89_openF hMe343
              have hv343_1 := hcc343 1 _ rfl
              rw [add_field _ _ 1 (by omega)] at hv343_1
              replace hv343_1 := sI (hv343_1.symm.trans hx343_1)
              injection hv343_1 with hva_ hvn_ hvc_
              rw [hva_] at ge343_1
              rw [hvc_] at ul343_1
              have HL343_1 := aM (show Kd.V (Kd.int .i32) 21 _ w.heap.size _ _ ((rd_T89 t338 x6_1).f1) from Kd.V_mk ul343_1 ge343_1)
              clear hva_ hvn_ hvc_ ge343_1 ul343_1
              clear hcc343 hce343
              have HR343_1 := aM hi343_1
              have HC343_1 := aM hl343_1
              clear hi343_1 hl343_1
              replace p343 := eq_true p343
              replace q343 := eq_true q343
              have ea_ := sI (hx341_1.symm.trans hx343_1)
              injection ea_ with ea_ en_ ec_
              subst ea_
              subst ec_
              clear en_
              have p344 : 0 ≤ ((ji11) : Int) := zoA
              have q344 : (ji11) < (((rd_T89 t338 x6_1).f1).length : Int) := zoA
              obtain ⟨ad344, e344, hx344_0⟩ := Kd.at_int (by repeat (first | (with_reducible exact HR343_1.out) | (with_reducible refine Kd.C_alloc ?_ _) | (with_reducible refine Kd.C_drewN ?_ _) | (with_reducible refine Kd.C_drew ?_) | exact HR343_1.out)) (ji11) p344 q344
              cases e344
              replace p344 := eq_true p344
              replace q344 := eq_true q344
              have p345 : 0 ≤ (x6_1 : Int) := zoA
              have q345 : x6_1 < (t338.length : Int) := zoA
              obtain ⟨ad345, A345_1, c345_1, e345, hx345_0, hx345_1, hl345_1, hi345_1⟩ := at_T89 (Kd.N_reads' HO_5.out).2.2 x6_1 p345 q345
              obtain rfl : ad341 = ad345 := (by injection e345)
              obtain ⟨ce345, hce345, hMe345, hcc345⟩ := Kd.N_get HO_5.out z89 x6_1 p345 (by first | exact q345 | exact zoA | (have e_ := (Kd.N_reads' HO_5.out).1; omega))
              obtain ⟨ua345_1, uc345_1, rfl, ul345_1, ge345_1⟩ := k89_openF hMe345
              have hv345_1 := hcc345 1 _ rfl
              rw [add_field _ _ 1 (by omega)] at hv345_1
              replace hv345_1 := sI (hv345_1.symm.trans hx345_1)
              injection hv345_1 with hva_ hvn_ hvc_
              rw [hva_] at ge345_1
              rw [hvc_] at ul345_1
              have HL345_1 := aM (show Kd.V (Kd.int .i32) 21 _ w.heap.size _ _ ((rd_T89 t338 x6_1).f1) from Kd.V_mk ul345_1 ge345_1)
              clear hva_ hvn_ hvc_ ge345_1 ul345_1
              clear hcc345 hce345
              have HR345_1 := aM hi345_1
              have HC345_1 := aM hl345_1
              clear hi345_1 hl345_1
              replace p345 := eq_true p345
              replace q345 := eq_true q345
              have ea_ := sI (hx341_1.symm.trans hx345_1)
              injection ea_ with ea_ en_ ec_
              subst ea_
              subst ec_
              clear en_
              have p346 : 0 ≤ (x7_2 : Int) := zoA
              have q346 : x7_2 < (((rd_T89 t338 x6_1).f1).length : Int) := zoA
              obtain ⟨ad346, e346, hx346_0⟩ := Kd.at_int (by repeat (first | (with_reducible exact HR345_1.out) | (with_reducible refine Kd.C_alloc ?_ _) | (with_reducible refine Kd.C_drewN ?_ _) | (with_reducible refine Kd.C_drew ?_) | exact HR345_1.out)) x7_2 p346 q346
              cases e346
              replace p346 := eq_true p346
              replace q346 := eq_true q346
              go_wp2
              go_ret
              exact ⟨by first | rfl | (simp [errW_none, errW_some] <;> rfl) | (simp only [← hji11]; first | rfl | (simp [errW_none, errW_some] <;> rfl)) | (simp [*, errW_none, errW_some] <;> rfl), zB⟩
             ·rw [if_neg c15] at H
              exact absurd H (by simp)
            ·rw [if_neg c14] at H
             exact absurd H (by simp)
           ·rw [if_neg c13] at H
            have c13b0 : ((rd ((rd_T89 t338 x6_1).f1) (ji11)) == a1) = false := beq_eq_false_iff_ne.mpr c13
            have c13b1 : ((rd ((rd_T89 t338 x6_1).f1) (ji11)) != a1) = true := bne_iff_ne.mpr c13
            have H' := aM H
            clear H
            have p341 : 0 ≤ (x6_1 : Int) := zoA
            have q341 : x6_1 < (t338.length : Int) := zoA
            obtain ⟨ad341, A341_1, c341_1, e341, hx341_0, hx341_1, hl341_1, hi341_1⟩ := at_T89 (Kd.N_reads' HO_5.out).2.2 x6_1 p341 q341
            cases e341
            obtain ⟨ce341, hce341, hMe341, hcc341⟩ := Kd.N_get HO_5.out z89 x6_1 p341 (by first | exact q341 | exact zoA | (have e_ := (Kd.N_reads' HO_5.out).1; omega))
            obtain ⟨ua341_1, uc341_1, rfl, ul341_1, ge341_1⟩ := k89_openF hMe341
            have hv341_1 := hcc341 1 _ rfl
            rw [add_field _ _ 1 (by omega)] at hv341_1
            replace hv341_1 := sI (hv341_1.symm.trans hx341_1)
            injection hv341_1 with hva_ hvn_ hvc_
            rw [hva_] at ge341_1
            rw [hvc_] at ul341_1
            have HL341_1 := aM (show Kd.V (Kd.int .i32) 21 _ w.heap.size _ _ ((rd_T89 t338 x6_1).f1) from Kd.V_mk ul341_1 ge341_1)
            clear hva_ hvn_ hvc_ ge341_1 ul341_1
            clear hcc341 hce341
            have HR341_1 := aM hi341_1
            have HC341_1 := aM hl341_1
            clear hi341_1 hl341_1
            replace p341 := eq_true p341
            replace q341 := eq_true q341
            have p342 : 0 ≤ (x6_1 : Int) := zoA
            have q342 : x6_1 < (t338.length : Int) := zoA
            obtain ⟨ad342, A342_1, c342_1, e342, hx342_0, hx342_1, hl342_1, hi342_1⟩ := at_T89 (Kd.N_reads' HO_5.out).2.2 x6_1 p342 q342
            obtain rfl : ad341 = ad342 := (by injection e342)
            obtain ⟨ce342, hce342, hMe342, hcc342⟩ := Kd.N_get HO_5.out z89 x6_1 p342 (by first | exact q342 | exact zoA | (have e_ := (Kd.N_reads' HO_5.out).1; omega))
            obtain ⟨ua342_1, uc342_1, rfl, ul342_1, ge342_1⟩ := k89_openF hMe342
            have hv342_1 := hcc342 1 _ rfl
            rw [add_field _ _ 1 (by omega)] at hv342_1
            replace hv342_1 := sI (hv342_1.symm.trans hx342_1)
            injection hv342_1 with hva_ hvn_ hvc_
            rw [hva_] at ge342_1
            rw [hvc_] at ul342_1
            have HL342_1 := aM (show Kd.V (Kd.int .i32) 21 _ w.heap.size _ _ ((rd_T89 t338 x6_1).f1) from Kd.V_mk ul342_1 ge342_1)
            clear hva_ hvn_ hvc_ ge342_1 ul342_1
            clear hcc342 hce342
            have HR342_1 := aM hi342_1
            have HC342_1 := aM hl342_1
            clear hi342_1 hl342_1
            replace p342 := eq_true p342
            replace q342 := eq_true q342
            have ea_ := sI (hx341_1.symm.trans hx342_1)
            injection ea_ with ea_ en_ ec_
            subst ea_
            subst ec_
            clear en_
            have p343 : 0 ≤ (x6_1 : Int) := zoA
            have q343 : x6_1 < (t338.length : Int) := zoA
            obtain ⟨ad343, A343_1, c343_1, e343, hx343_0, hx343_1, hl343_1, hi343_1⟩ := at_T89 (Kd.N_reads' HO_5.out).2.2 x6_1 p343 q343
            obtain rfl : ad341 = ad343 := (by injection e343)
            obtain ⟨ce343, hce343, hMe343, hcc343⟩ := Kd.N_get HO_5.out z89 x6_1 p343 (by first | exact q343 | exact zoA | (have e_ := (Kd.N_reads' HO_5.out).1; omega))
            obtain ⟨ua343_1, uc343_1, rfl, ul343_1, ge343_1⟩ := k89_openF hMe343
            have hv343_1 := hcc343 1 _ rfl
            rw [add_field _ _ 1 (by omega)] at hv343_1
            replace hv343_1 := sI (hv343_1.symm.trans hx343_1)
            injection hv343_1 with hva_ hvn_ hvc_
            rw [hva_] at ge343_1
            rw [hvc_] at ul343_1
            have HL343_1 := aM (show Kd.V (Kd.int .i32) 21 _ w.heap.size _ _ ((rd_T89 t338 x6_1).f1) from Kd.V_mk ul343_1 ge343_1)
            clear hva_ hvn_ hvc_ ge343_1 ul343_1
            clear hcc343 hce343
            have HR343_1 := aM hi343_1
            have HC343_1 := aM hl343_1
            clear hi343_1 hl343_1
            replace p343 := eq_true p343
            replace q343 := eq_true q343
            have ea_ := sI (hx341_1.symm.trans hx343_1)
            injection ea_ with ea_ en_ ec_
            subst ea_
            subst ec_
            clear en_
            have p344 : 0 ≤ ((ji11) : Int) := zoA
            have q344 : (ji11) < (((rd_T89 t338 x6_1).f1).length : Int) := zoA
            obtain ⟨ad344, e344, hx344_0⟩ := Kd.at_int (by repeat (first | (with_reducible exact HR343_1.out) | (with_reducible refine Kd.C_alloc ?_ _) | (with_reducible refine Kd.C_drewN ?_ _) | (with_reducible refine Kd.C_drew ?_) | exact HR343_1.out)) (ji11) p344 q344
            cases e344
            replace p344 := eq_true p344
            replace q344 := eq_true q344
            go_wp2
            go_roundg k2
            case measure => have := HK1.out; have := HK2.out; omega
            case rel => exact ⟨(wrap64 (x7_2 + 2)), zP, H', ⟨by have := HK1.out; have := HK2.out; omega⟩, ⟨zN HO_5⟩, ⟨zB⟩⟩
          ·rw [if_neg c12] at H
           exact absurd H (by simp)
         ·rw [if_neg c10] at H
          have c10b0 : (((rd_T89 t338 x6_1).f0) == a0) = false := beq_eq_false_iff_ne.mpr c10
          have c10b1 : (((rd_T89 t338 x6_1).f0) != a0) = true := bne_iff_ne.mpr c10
          have H' := aM H
          clear H
          have p341 : 0 ≤ (x6_1 : Int) := zoA
          have q341 : x6_1 < (t338.length : Int) := zoA
          obtain ⟨ad341, A341_1, c341_1, e341, hx341_0, hx341_1, hl341_1, hi341_1⟩ := at_T89 (Kd.N_reads' HO_5.out).2.2 x6_1 p341 q341
          cases e341
          obtain ⟨ce341, hce341, hMe341, hcc341⟩ := Kd.N_get HO_5.out z89 x6_1 p341 (by first | exact q341 | exact zoA | (have e_ := (Kd.N_reads' HO_5.out).1; omega))
          obtain ⟨ua341_1, uc341_1, rfl, ul341_1, ge341_1⟩ := k89_openF hMe341
          have hv341_1 := hcc341 1 _ rfl
          rw [add_field _ _ 1 (by omega)] at hv341_1
          replace hv341_1 := sI (hv341_1.symm.trans hx341_1)
          injection hv341_1 with hva_ hvn_ hvc_
          rw [hva_] at ge341_1
          rw [hvc_] at ul341_1
          have HL341_1 := aM (show Kd.V (Kd.int .i32) 21 _ w.heap.size _ _ ((rd_T89 t338 x6_1).f1) from Kd.V_mk ul341_1 ge341_1)
          clear hva_ hvn_ hvc_ ge341_1 ul341_1
          clear hcc341 hce341
          have HR341_1 := aM hi341_1
          have HC341_1 := aM hl341_1
          clear hi341_1 hl341_1
          replace p341 := eq_true p341
          replace q341 := eq_true q341
          have p342 : 0 ≤ (x6_1 : Int) := zoA
          have q342 : x6_1 < (t338.length : Int) := zoA
          obtain ⟨ad342, A342_1, c342_1, e342, hx342_0, hx342_1, hl342_1, hi342_1⟩ := at_T89 (Kd.N_reads' HO_5.out).2.2 x6_1 p342 q342
          obtain rfl : ad341 = ad342 := (by injection e342)
          obtain ⟨ce342, hce342, hMe342, hcc342⟩ := Kd.N_get HO_5.out z89 x6_1 p342 (by first | exact q342 | exact zoA | (have e_ := (Kd.N_reads' HO_5.out).1; omega))
          obtain ⟨ua342_1, uc342_1, rfl, ul342_1, ge342_1⟩ := k89_openF hMe342
          have hv342_1 := hcc342 1 _ rfl
          rw [add_field _ _ 1 (by omega)] at hv342_1
          replace hv342_1 := sI (hv342_1.symm.trans hx342_1)
          injection hv342_1 with hva_ hvn_ hvc_
          rw [hva_] at ge342_1
          rw [hvc_] at ul342_1
          have HL342_1 := aM (show Kd.V (Kd.int .i32) 21 _ w.heap.size _ _ ((rd_T89 t338 x6_1).f1) from Kd.V_mk ul342_1 ge342_1)
          clear hva_ hvn_ hvc_ ge342_1 ul342_1
          clear hcc342 hce342
          have HR342_1 := aM hi342_1
          have HC342_1 := aM hl342_1
          clear hi342_1 hl342_1
          replace p342 := eq_true p342
          replace q342 := eq_true q342
          have ea_ := sI (hx341_1.symm.trans hx342_1)
          injection ea_ with ea_ en_ ec_
          subst ea_
          subst ec_
          clear en_
          go_wp2
          go_roundg k2
          case measure => have := HK1.out; have := HK2.out; omega
          case rel => exact ⟨(wrap64 (x7_2 + 2)), zP, H', ⟨by have := HK1.out; have := HK2.out; omega⟩, ⟨zN HO_5⟩, ⟨zB⟩⟩
        ·rw [if_neg c9] at H
         have c9b0 : decide ((wrap64 (x7_2 + 1)) < (((rd_T89 t338 x6_1).f1).length : Int)) = false := decide_eq_false c9
         clear c9
         have H' := aM H
         clear H
         have p341 : 0 ≤ (x6_1 : Int) := zoA
         have q341 : x6_1 < (t338.length : Int) := zoA
         obtain ⟨ad341, A341_1, c341_1, e341, hx341_0, hx341_1, hl341_1, hi341_1⟩ := at_T89 (Kd.N_reads' HO_5.out).2.2 x6_1 p341 q341
         cases e341
         obtain ⟨ce341, hce341, hMe341, hcc341⟩ := Kd.N_get HO_5.out z89 x6_1 p341 (by first | exact q341 | exact zoA | (have e_ := (Kd.N_reads' HO_5.out).1; omega))
         obtain ⟨ua341_1, uc341_1, rfl, ul341_1, ge341_1⟩ := k89_openF hMe341
         have hv341_1 := hcc341 1 _ rfl
         rw [add_field _ _ 1 (by omega)] at hv341_1
         replace hv341_1 := sI (hv341_1.symm.trans hx341_1)
         injection hv341_1 with hva_ hvn_ hvc_
         rw [hva_] at ge341_1
         rw [hvc_] at ul341_1
         have HL341_1 := aM (show Kd.V (Kd.int .i32) 21 _ w.heap.size _ _ ((rd_T89 t338 x6_1).f1) from Kd.V_mk ul341_1 ge341_1)
         clear hva_ hvn_ hvc_ ge341_1 ul341_1
         clear hcc341 hce341
         have HR341_1 := aM hi341_1
         have HC341_1 := aM hl341_1
         clear hi341_1 hl341_1
         replace p341 := eq_true p341
         replace q341 := eq_true q341
         go_wp2
         go_roundg k2
         case measure => have := HK1.out; have := HK2.out; omega
         case rel => exact ⟨(wrap64 (x6_1 + 1)), zP, H', ⟨by have := HK1.out; have := HK2.out; omega⟩, ⟨zN HO_5⟩, ⟨zB⟩⟩
       ·rw [if_neg c8] at H
        exact absurd H (by simp)
      ·rw [if_neg c7] at H
       exact absurd H (by simp)
   ·rw [if_neg c5] at H
    have c5b0 : decide (x6_1 < (t338.length : Int)) = false := decide_eq_false c5
    clear c5
    obtain rfl := sI H
    obtain ⟨Ao16, co16, eo16⟩ := Kd.N_slice HO_5.out
    subst eo16
    go_wp2
    go_ret
    exact ⟨zE, zB⟩

/-! ### toponymref07_Pair: function 36 -/
def toponymref07_Pair.f (k : Nat) (a0 : Int) (a1 : Int) : Option (Int × Bool) := (toponymref03_Class.f k a1).bind fun t347 => (if t347 = 0 then ((toponymref04_Join.f k a0 a1).bind fun bt348 => (some (bt348.1, bt348.2))) else ((toponymref05_Made.f k a0 a1).bind fun t350 => (if t350 = 0 then ((toponymref04_Join.f k a0 a1).bind fun bt351 => (some (bt351.1, bt351.2))) else (some (t350, true)))))
theorem toponymref07_Pair.mono : ∀ a0 a1 k, LeO (toponymref07_Pair.f k a0 a1) (toponymref07_Pair.f (k + 1) a0 a1) := by
 intro a0 a1 k
 unfold toponymref07_Pair.f
 repeat' first
   | (with_reducible exact toponymref03_Class.mono _ _)
   | (with_reducible exact toponymref04_Join.mono _ _ _)
   | (with_reducible exact toponymref05_Made.mono _ _ _)
   | (with_reducible exact LeO.refl _)
   | exact toponymref03_Class.mono _ _
   | exact toponymref04_Join.mono _ _ _
   | exact toponymref05_Made.mono _ _ _
   | exact LeO.none _
   | refine LeO.ite ?_ ?_
   | refine LeO.bind ?_ (fun _ => ?_)
set_option maxHeartbeats 8000000 in
set_option maxRecDepth 100000 in
theorem toponymref07_Pair.calls (k : Nat) (a0 : Int) (a1 : Int) (r1 : Int) (r2 : Bool) (w : World) (h : toponymref07_Pair.f k a0 a1 = some (r1, r2)) :
  Calls Try.prog 36 #[.int .i32 a0, .int .i32 a1] w fun e w' => e = .returned (.tuple #[.int .i32 r1, .bool r2]) ∧ Below w.heap.size w w' := by
 have HB := aM (Below.refl w.heap.size w)
 have H : ((toponymref03_Class.f k a1).bind fun t347 => (if t347 = 0 then ((toponymref04_Join.f k a0 a1).bind fun bt348 => (some (bt348.1, bt348.2))) else ((toponymref05_Made.f k a0 a1).bind fun t350 => (if t350 = 0 then ((toponymref04_Join.f k a0 a1).bind fun bt351 => (some (bt351.1, bt351.2))) else (some (t350, true)))))) = some (r1, r2) := h
 clear h
 obtain ⟨t347, A3, H⟩ := zO H
 by_cases c4 : t347 = 0
 ·rw [if_pos c4] at H
  have c4b0 : (t347 == 0) = true := beq_iff_eq.mpr c4
  have c4b1 : (t347 != 0) = false := bne_eq_false_iff_eq.mpr c4
  clear c4
  obtain ⟨⟨t348, t349⟩, A5, H⟩ := zO H
  try dsimp only at H
  simp only [Option.some.injEq, Prod.mk.injEq] at H
  obtain ⟨rfl, rfl⟩ := H
  go_enter Try.func36, Try.ntmps36
  go_wp2_with (first | ((with_reducible refine gate_callee (f := 34) rfl ?_); refine goesL_ (some 8) rfl rfl Try.func34 zK rfl #[.int .i32 a1] rfl zM ?_; (with_reducible refine (toponymref03_Class.calls k a1 t347 _ A3.out).mono ?_); rintro e w6 ⟨rfl, hb⟩; refine ⟨_, rfl, ?_⟩; replace HB := aM (below_step zB hb); (try clear hb)) | ((with_reducible refine gate_callee (f := 55) rfl ?_); refine goesL_ (some 12) rfl rfl Try.func55 zK rfl #[.int .i32 a0, .int .i32 a1] rfl zM ?_; (with_reducible refine (toponymref04_Join.calls k a0 a1 t348 t349 _ A5.out).mono ?_); rintro e w' ⟨rfl, ⟨nd, rfl⟩⟩; (try clear A5); refine ⟨_, rfl, ?_⟩))
  go_ret2
  exact ⟨zE, zB⟩
 ·rw [if_neg c4] at H
  have c4b0 : (t347 == 0) = false := beq_eq_false_iff_ne.mpr c4
  have c4b1 : (t347 != 0) = true := bne_iff_ne.mpr c4
  obtain ⟨t350, A7, H⟩ := zO H
  by_cases c8 : t350 = 0
  ·rw [if_pos c8] at H
   have c8b0 : (t350 == 0) = true := beq_iff_eq.mpr c8
   have c8b1 : (t350 != 0) = false := bne_eq_false_iff_eq.mpr c8
   clear c8
   obtain ⟨⟨t351, t352⟩, A9, H⟩ := zO H
   try dsimp only at H
   simp only [Option.some.injEq, Prod.mk.injEq] at H
   obtain ⟨rfl, rfl⟩ := H
   go_enter Try.func36, Try.ntmps36
   go_wp2_with (first | ((with_reducible refine gate_callee (f := 34) rfl ?_); refine goesL_ (some 8) rfl rfl Try.func34 zK rfl #[.int .i32 a1] rfl zM ?_; (with_reducible refine (toponymref03_Class.calls k a1 t347 _ A3.out).mono ?_); rintro e w10 ⟨rfl, hb⟩; refine ⟨_, rfl, ?_⟩; replace HB := aM (below_step zB hb); (try clear hb)) | ((with_reducible refine gate_callee (f := 56) rfl ?_); refine goesL_ (some 17) rfl rfl Try.func56 zK rfl #[.int .i32 a0, .int .i32 a1] rfl zM ?_; (with_reducible refine (toponymref05_Made.calls k a0 a1 t350 _ A7.out).mono ?_); rintro e w11 ⟨rfl, hb⟩; refine ⟨_, rfl, ?_⟩; replace HB := aM (below_step zB hb); (try clear hb)) | ((with_reducible refine gate_callee (f := 55) rfl ?_); refine goesL_ (some 23) rfl rfl Try.func55 zK rfl #[.int .i32 a0, .int .i32 a1] rfl zM ?_; (with_reducible refine (toponymref04_Join.calls k a0 a1 t351 t352 _ A9.out).mono ?_); rintro e w' ⟨rfl, ⟨nd, rfl⟩⟩; (try clear A9); refine ⟨_, rfl, ?_⟩))
   go_ret2
   exact ⟨zE, zB⟩
  ·rw [if_neg c8] at H
   have c8b0 : (t350 == 0) = false := beq_eq_false_iff_ne.mpr c8
   have c8b1 : (t350 != 0) = true := bne_iff_ne.mpr c8
   simp only [Option.some.injEq, Prod.mk.injEq] at H
   obtain ⟨rfl, rfl⟩ := H
   go_enter Try.func36, Try.ntmps36
   go_wp2_with (first | ((with_reducible refine gate_callee (f := 34) rfl ?_); refine goesL_ (some 8) rfl rfl Try.func34 zK rfl #[.int .i32 a1] rfl zM ?_; (with_reducible refine (toponymref03_Class.calls k a1 t347 _ A3.out).mono ?_); rintro e w12 ⟨rfl, hb⟩; refine ⟨_, rfl, ?_⟩; replace HB := aM (below_step zB hb); (try clear hb)) | ((with_reducible refine gate_callee (f := 56) rfl ?_); refine goesL_ (some 17) rfl rfl Try.func56 zK rfl #[.int .i32 a0, .int .i32 a1] rfl zM ?_; (with_reducible refine (toponymref05_Made.calls k a0 a1 t350 _ A7.out).mono ?_); rintro e w13 ⟨rfl, hb⟩; refine ⟨_, rfl, ?_⟩; replace HB := aM (below_step zB hb); (try clear hb)))
   go_ret2
   exact ⟨zE, zB⟩

end Go.Proofs.Ytpihglokjcbjkaa.P
