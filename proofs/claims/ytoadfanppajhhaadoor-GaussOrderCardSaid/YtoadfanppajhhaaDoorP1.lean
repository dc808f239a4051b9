-- Printed by wip/mk.py (this session's driver over the kit's print) and from wip/manual.
import Derived.Test.YtoadfanppajhhaaDoorP0
namespace Go.Proofs.YtoadfanppajhhaaDoor.P
open Go.RowKit Go.Proofs.YtoadfanppajhhaaDoorW.PrintWords Go.Proofs.YtoadfanppajhhaaDoorW.PrintLast Go.Proofs.YtoadfanppajhhaaDoorW.PrintMore
attribute [local go_sem] run_store_float run_store_complex max2_int min2_int max_two min_two max_three min_three max_four min_four   -- for this text's walks alone
set_option linter.unusedVariables false
set_option linter.unusedSimpArgs false

/-! ### gauss_part: function 42 -/
def gauss_part.f (a0 : Nat) : Option (Int × Bool) := if (Go.FloatKind.f64.format.order a0 13920209174949527552 == some .gt || Go.FloatKind.f64.format.order a0 13920209174949527552 == some .eq) = true then (if ((Go.FloatKind.f64.format.order a0 4696837138094751744 == some .lt || Go.FloatKind.f64.format.order a0 4696837138094751744 == some .eq) = true) then (if Go.floatToIntVal .f64 a0 .i64 = some (fTi a0) then (some ((fTi a0), (Go.FloatKind.f64.format.order (Go.floatOfInt .f64 (fTi a0)) a0 == some .eq))) else (none)) else (some (0, false))) else (some (0, false))
set_option maxHeartbeats 8000000 in
set_option maxRecDepth 100000 in
theorem gauss_part.calls (a0 : Nat) (r1 : Int) (r2 : Bool) (w : World) (h : gauss_part.f a0 = some (r1, r2)) :
  Calls Tryd.prog 42 #[.float .f64 a0] w fun e w' => e = .returned (.tuple #[.int .i64 r1, .bool r2]) ∧ Drawn0 w w' := by
 have H := h
 clear h
 unfold gauss_part.f at H
 by_cases c2 : (Go.FloatKind.f64.format.order a0 13920209174949527552 == some .gt || Go.FloatKind.f64.format.order a0 13920209174949527552 == some .eq) = true
 ·rw [if_pos c2] at H
  have c2b0 : (Go.FloatKind.f64.format.order a0 13920209174949527552 == some .gt || Go.FloatKind.f64.format.order a0 13920209174949527552 == some .eq) = true := c2
  (try (have c2b1 : decide (Go.FloatKind.f64.format.order a0 13920209174949527552 = some .gt || Go.FloatKind.f64.format.order a0 13920209174949527552 == some .eq) = true := by simpa using c2))
  (try (have c2b2 : (Go.FloatKind.f64.format.order a0 13920209174949527552 == some .gt || Go.FloatKind.f64.format.order a0 13920209174949527552 == some .eq) = true := by simpa using c2))
  clear c2
  by_cases c3 : ((Go.FloatKind.f64.format.order a0 4696837138094751744 == some .lt || Go.FloatKind.f64.format.order a0 4696837138094751744 == some .eq) = true)
  ·rw [if_pos c3] at H
   have c3b0 : (Go.FloatKind.f64.format.order a0 4696837138094751744 == some .lt || Go.FloatKind.f64.format.order a0 4696837138094751744 == some .eq) = true := c3
   (try (have c3b1 : decide (Go.FloatKind.f64.format.order a0 4696837138094751744 = some .lt || Go.FloatKind.f64.format.order a0 4696837138094751744 == some .eq) = true := by simpa using c3))
   (try (have c3b2 : (Go.FloatKind.f64.format.order a0 4696837138094751744 == some .lt || Go.FloatKind.f64.format.order a0 4696837138094751744 == some .eq) = true := by simpa using c3))
   clear c3
   by_cases c4 : Go.floatToIntVal .f64 a0 .i64 = some (fTi a0)
   ·rw [if_pos c4] at H
    have c4f := (show ∀ (w_ : World), (Go.convert 22 3 (.float .f64 a0)).run Tryd.prog w_ = .ok (.int .i64 (fTi a0)) w_ from fun w_ => run_convert_float_int w_ 22 3 .f64 .i64 _ _ (by rw [Tryd.underlying22]; rfl) Tryd.underlying3 c4)
    have c4b0 := eq_true c4
    have c4b1 : decide (Go.floatToIntVal .f64 a0 .i64 = some (fTi a0)) = true := decide_eq_true c4
    clear c4
    simp only [Option.some.injEq, Prod.mk.injEq] at H
    obtain ⟨rfl, rfl⟩ := H
    go_enter Tryd.func42, Tryd.ntmps42
    go_wp2
    go_ret2
    exact ⟨zP, zD⟩
   ·rw [if_neg c4] at H
    exact absurd H (by simp)
  ·rw [if_neg c3] at H
   have c3b0 : (Go.FloatKind.f64.format.order a0 4696837138094751744 == some .lt || Go.FloatKind.f64.format.order a0 4696837138094751744 == some .eq) = false := by simpa using c3
   (try (have c3b1 : decide (Go.FloatKind.f64.format.order a0 4696837138094751744 = some .lt || Go.FloatKind.f64.format.order a0 4696837138094751744 == some .eq) = false := by simpa using c3))
   (try (have c3b2 : (Go.FloatKind.f64.format.order a0 4696837138094751744 == some .lt || Go.FloatKind.f64.format.order a0 4696837138094751744 == some .eq) = false := by simpa using c3))
   (try (have c3b3 : ¬ (Go.FloatKind.f64.format.order a0 4696837138094751744 = some .lt || Go.FloatKind.f64.format.order a0 4696837138094751744 == some .eq) := by simpa using c3))
   clear c3
   simp only [Option.some.injEq, Prod.mk.injEq] at H
   obtain ⟨rfl, rfl⟩ := H
   go_enter Tryd.func42, Tryd.ntmps42
   go_wp2
   go_ret2
   exact ⟨zP, zD⟩
 ·rw [if_neg c2] at H
  have c2b0 : (Go.FloatKind.f64.format.order a0 13920209174949527552 == some .gt || Go.FloatKind.f64.format.order a0 13920209174949527552 == some .eq) = false := by simpa using c2
  (try (have c2b1 : decide (Go.FloatKind.f64.format.order a0 13920209174949527552 = some .gt || Go.FloatKind.f64.format.order a0 13920209174949527552 == some .eq) = false := by simpa using c2))
  (try (have c2b2 : (Go.FloatKind.f64.format.order a0 13920209174949527552 == some .gt || Go.FloatKind.f64.format.order a0 13920209174949527552 == some .eq) = false := by simpa using c2))
  (try (have c2b3 : ¬ (Go.FloatKind.f64.format.order a0 13920209174949527552 = some .gt || Go.FloatKind.f64.format.order a0 13920209174949527552 == some .eq) := by simpa using c2))
  clear c2
  simp only [Option.some.injEq, Prod.mk.injEq] at H
  obtain ⟨rfl, rfl⟩ := H
  go_enter Tryd.func42, Tryd.ntmps42
  go_wp2
  go_ret2
  exact ⟨zP, zD⟩

/-! ### gauss_parts: function 27 -/
def gauss_parts.f (a0 : (Nat × Nat)) : Option (Int × Int × Bool) := (gauss_part.f a0.1).bind fun bt101 => ((gauss_part.f a0.2).bind fun bt103 => (if bt101.2 = true then (some (bt101.1, bt103.1, bt103.2)) else (some (bt101.1, bt103.1, false))))
set_option maxHeartbeats 8000000 in
set_option maxRecDepth 100000 in
theorem gauss_parts.calls (a0 : (Nat × Nat)) (r1 : Int) (r2 : Int) (r3 : Bool) (w : World) (h : gauss_parts.f a0 = some (r1, r2, r3)) :
  Calls Tryd.prog 27 #[.complex .f64 a0.1 a0.2] w fun e w' => e = .returned (.tuple #[.int .i64 r1, .int .i64 r2, .bool r3]) ∧ Below w.heap.size w w' := by
 have HB := aM (Below.refl w.heap.size w)
 have H := h
 clear h
 unfold gauss_parts.f at H
 obtain ⟨⟨t101, t102⟩, A2, H⟩ := zO H
 try dsimp only at H
 obtain ⟨⟨t103, t104⟩, A3, H⟩ := zO H
 try dsimp only at H
 by_cases c4 : t102 = true
 ·subst c4
  rw [if_pos rfl] at H
  simp only [Option.some.injEq, Prod.mk.injEq] at H
  obtain ⟨rfl, rfl, rfl⟩ := H
  go_enter Tryd.func27, Tryd.ntmps27
  go_wp2_with (first | ((with_reducible refine gate_callee (f := 42) rfl ?_); refine goesL_ (some 12) rfl rfl Tryd.func42 zK rfl #[.float .f64 a0.1] rfl zM ?_; (with_reducible refine (gauss_part.calls a0.1 t101 true _ A2.out).mono ?_); rintro e w' ⟨rfl, ⟨nd, rfl⟩⟩; (try clear A2); refine ⟨_, rfl, ?_⟩) | ((with_reducible refine gate_callee (f := 42) rfl ?_); refine goesL_ (some 18) rfl rfl Tryd.func42 zK rfl #[.float .f64 a0.2] rfl zM ?_; (with_reducible refine (gauss_part.calls a0.2 t103 t104 _ A3.out).mono ?_); rintro e w' ⟨rfl, ⟨nd, rfl⟩⟩; (try clear A3); refine ⟨_, rfl, ?_⟩))
  go_ret3
  exact ⟨zE, zB⟩
 ·replace c4 := Bool.eq_false_iff.mpr c4
  subst c4
  rw [if_neg (show ¬ (false = true) by decide)] at H
  simp only [Option.some.injEq, Prod.mk.injEq] at H
  obtain ⟨rfl, rfl, rfl⟩ := H
  go_enter Tryd.func27, Tryd.ntmps27
  go_wp2_with (first | ((with_reducible refine gate_callee (f := 42) rfl ?_); refine goesL_ (some 12) rfl rfl Tryd.func42 zK rfl #[.float .f64 a0.1] rfl zM ?_; (with_reducible refine (gauss_part.calls a0.1 t101 false _ A2.out).mono ?_); rintro e w' ⟨rfl, ⟨nd, rfl⟩⟩; (try clear A2); refine ⟨_, rfl, ?_⟩) | ((with_reducible refine gate_callee (f := 42) rfl ?_); refine goesL_ (some 18) rfl rfl Tryd.func42 zK rfl #[.float .f64 a0.2] rfl zM ?_; (with_reducible refine (gauss_part.calls a0.2 t103 t104 _ A3.out).mono ?_); rintro e w' ⟨rfl, ⟨nd, rfl⟩⟩; (try clear A3); refine ⟨_, rfl, ?_⟩))
  go_ret3
  exact ⟨zE, zB⟩

/-! ### strconv_Itoa_29: function 29, by hand (strconv.Itoa.tpl) -/
/-- What the library's package-level variables hold: the table of powers of ten, two errors, the bound of its search. -/
def MaxOk (_ : World) : Prop := True
theorem MaxOk.below {w w' : World} (_ : MaxOk w) (_ : Below w.heap.size w w') : MaxOk w' := trivial
def Env (w : World) : Prop := (∃ t b, w.heap[(1 : Nat)]? = some (.cells (Lib.pow10Tab.map fun z => Value.int .u64 z).toArray t b)) ∧ (∃ tp p t b, w.heap[(2 : Nat)]? = some (.cells #[.iface tp p] t b)) ∧ (∃ tp p t b, w.heap[(3 : Nat)]? = some (.cells #[.iface tp p] t b)) ∧ MaxOk w
theorem keeps_block {w w' : World} (hb : Below w.heap.size w w') {g : Nat} {o : Obj} (h : w.heap[g]? = some o) : w'.heap[g]? = some o := (hb.block g (Array.getElem?_eq_some_iff.1 h).1).trans h
theorem Env.below {w w' : World} (h : Env w) (hb : Below w.heap.size w w') : Env w' := by
  obtain ⟨⟨t, b, h1⟩, ⟨tp, p, t2, b2, h2⟩, ⟨tq, q, t3, b3, h3⟩, h4⟩ := h
  exact ⟨⟨t, b, keeps_block hb h1⟩, ⟨tp, p, t2, b2, keeps_block hb h2⟩, ⟨tq, q, t3, b3, keeps_block hb h3⟩, h4.below hb⟩
theorem zEnv {w W : World} (HE : Aside0 (Env w)) (h : Below w.heap.size w W := by repeat (first | (with_reducible first | exact HB.out | apply bA | apply bN | apply bD) | exact HB.out)) : Env W := HE.out.below h
def strconv_Itoa_29.f (a0 : Int) : Option ByteArray := if -9223372036854775808 ≤ a0 ∧ a0 ≤ 9223372036854775807 then some ⟨(Lib.itoa a0).toArray⟩ else none
theorem strconv_Itoa_29.calls (a0 : Int) (r : ByteArray) (w : World) (hE : Env w) (h : strconv_Itoa_29.f a0 = some r) :
    Calls Tryd.prog 29 #[.int .i64 a0] w fun e w' => e = .returned (.string r) ∧ Below w.heap.size w w' := by
  unfold strconv_Itoa_29.f at h
  by_cases c : -9223372036854775808 ≤ a0 ∧ a0 ≤ 9223372036854775807
  · rw [if_pos c] at h
    obtain rfl := Option.some.inj h
    refine (Any.strconv_Itoa Tryd.laysM171 a0 c.1 c.2 w ?_).mono ?_
    · obtain ⟨t, b, h1⟩ := hE.1
      unfold Lib.TabIs World.var?
      rw [show Program.globalNamed Tryd.prog _ = some 1 from by kernel_rfl]
      simp only [Option.bind_some, h1]
    · rintro e w' ⟨rfl, k, os, rfl⟩
      refine ⟨rfl, ⟨rfl, rfl, rfl, ?_, fun i hi => ?_⟩⟩
      · show w.heap.size ≤ (w.heap ++ os).size
        simp
      · show (w.heap ++ os)[i]? = w.heap[i]?
        exact Array.getElem?_append_left hi
  · rw [if_neg c] at h
    exact absurd h (by simp)

/-! ### gauss_Show: function 9, by hand (gauss.Show.tpl) -/
section
variable {P : Program} {ops : Array Oper} {Q : Exit → Act → World → Prop}
theorem run_bound {oi : Oper} {a : Act} {w : World} {x : Tmp} {f : FuncId} {bd : Array Value} {fn : Func} {xs : Array Operand} {ts : Array TypeId} (hx : a.eval (.tmp x) = .func (.func f) bd #[]) (hf : P.funcs[f]? = some fn) (hname : (fn.name == "runtime.NumGoroutine") = false) (hb : fn.body.isSome = true) (args : Array Value)
    (hop : oi.op = .call { callee := .value (.tmp x), args := xs, argTypes := ts }) (hargs : bd ++ xs.map a.eval = args) : (execOp a.eval oi).run P w = .ok (.enter f args) w := by
  have he := enters_ hf hname hb args w
  unfold execOp
  simp [hop, resolve, Deferred.ofValue, invoke, hx, hargs, he]
theorem goesLB_ {rest : List Oper} {oi : Oper} {a : Act} {w : World} (N : Option Tmp) {x : Tmp} {f : FuncId} {bd : Array Value} (hx : a.eval (.tmp x) = .func (.func f) bd #[]) (hd : oi.dst = N) (hg : oi.guard = none) {fn : Func} {xs : Array Operand} {ts : Array TypeId} (hf : P.funcs[f]? = some fn) (hname : (fn.name == "runtime.NumGoroutine") = false) (hb : fn.body.isSome = true) (args : Array Value)
    (hop : oi.op = .call { callee := .value (.tmp x), args := xs, argTypes := ts }) (hargs : bd ++ xs.map a.eval = args)
    (h : Calls P f args w fun e w' => ∃ v, e = .returned v ∧ wpList P ops Q rest (a.put N v) w') : wpList P ops Q (oi :: rest) a w := by
  refine wpList_plain hg fun K hK => ?_
  unfold Oper.wp
  rw [run_bound hx hf hname hb args hop hargs, Oper.upon_enter]
  refine h.mono fun e w'' hh => ?_
  obtain ⟨v, rfl, hk⟩ := hh
  subst hd
  exact hK _ _ hk
end
set_option maxHeartbeats 4000000 in
set_option maxRecDepth 100000 in
/-- What a builder's writing methods look at first. -/
theorem b_check (B b : Nat) (bs : List Value) (w : World) (h : Lib.IsBuilder 61 5 B b bs w) :
    Calls Tryd.prog 43 #[.pointer (some ⟨b, 0, none⟩)] w fun e w' => e = .returned (.tuple #[]) ∧ Lib.BuilderAt 61 5 B b (.pointer (some ⟨b, 0, none⟩)) bs w' ∧ Below B w w' := by
  obtain ⟨j, hj, hjs⟩ := Option.map_eq_some_iff.1 Tryd.Builder_Extra_169.sizeBuilder
  have hj' : Tryd.prog.info? 61 = some j := hj
  rcases h with h | h
  · have h0 := h.cell0
    have hsh := h.shape
    have hfz := h.frozen0
    go_enter Tryd.func43, Tryd.ntmps43
    go_wp2
    rw [Lib.run_to_unsafe w ⟨b, 0, none⟩ Tryd.underlying58 Tryd.underlying87 hj' (by rw [hjs]; decide) hsh (Nat.zero_lt_succ 1)]
    simp only [Result.andThen]
    rw [Oper.upon_value]
    go_wp2
    rw [run_callFunc_extern Tryd.func53 (by kernel_rfl) (by kernel_rfl) (by kernel_rfl) (e := Extern.AbiNoEscape.same) (by kernel_rfl)]
    rw [Lib.run_noEscape]
    simp only [Result.andThen]
    rw [Oper.upon_value]
    go_wp2
    rw [Lib.run_from_unsafe w ⟨b, 0, none⟩ Tryd.underlying87 Tryd.underlying58 hj' hsh Tryd.Builder_Extra_169.liesBuilder]
    simp only [Result.andThen]
    rw [Oper.upon_value]
    go_wp2
    go_end0
    exact ⟨rfl, h.used _, (Below.refl B w).setCell (p := ⟨b, 0, none⟩) h.1 _⟩
  · have h0 := h.cell0
    go_enter Tryd.func43, Tryd.ntmps43
    go_wp2
    rw [Lib.run_neq_ptr_same w _ Tryd.underlying58 hj']
    go_wp2
    go_end0
    exact ⟨rfl, h, Below.refl B _⟩
set_option maxHeartbeats 4000000 in
set_option maxRecDepth 100000 in
theorem b_write (B b : Nat) (bs : List Value) (s : ByteArray) (w : World) (h : Lib.IsBuilder 61 5 B b bs w) (hlen : bs.length + s.size ≤ 140737488355328) (hBw : B ≤ w.heap.size) :
    Calls Tryd.prog 28 #[.pointer (some ⟨b, 0, none⟩), .string s] w fun e w' => ∃ x, e = .returned x ∧ Lib.BuilderAt 61 5 B b (.pointer (some ⟨b, 0, none⟩)) (bs ++ Lib.strCells s) w' ∧ Below B w w' := by
  obtain ⟨i0, hi, hz0, hz1, hz2⟩ := info_parts Tryd.Builder_Extra_169.infoByte
  go_enter Tryd.func28, Tryd.ntmps28
  go_wp2_with (go_at_call 43; refine (b_check B b bs _ h).mono ?_)
  rintro e w1 ⟨rfl, h1, hb1⟩
  obtain ⟨hB, v, hbk, hown, hne⟩ := h1
  have c0 : w1.cell? ⟨b, 0, none⟩ = some (.pointer (some ⟨b, 0, none⟩)) := by rw [Lib.cell_of_heap hbk]; rfl
  have c1 : w1.cell? ⟨b, 1, none⟩ = some v := by rw [Lib.cell_of_heap hbk]; rfl
  go_wp2_with (at_builtin; refine Lib.wpList_append_own_string _ rfl _ _ 59 9 rfl B 5 i0 Tryd.underlying59 Tryd.underlying9 hi hz0 hz1 hz2 _ _ _ rfl hown s rfl ?c3 ?c4 ?c5 ?_)
  case c3 => unfold maxLen; omega
  case c4 => omega
  case c5 => have := hb1.size; omega
  intro v' w2 hown' hgrow _
  have hlt : b < w1.heap.size := by
    rcases Nat.lt_or_ge b w1.heap.size with h' | h'
    · exact h'
    · simp [Array.getElem?_eq_none h'] at hbk
  have hb2 : w2.heap[b]? = some (.cells #[.pointer (some ⟨b, 0, none⟩), v] 61 (0, 0)) := by
    rw [hgrow.block b hlt (fun e => hne e.symm)]
    exact hbk
  have d0 : w2.cell? ⟨b, 0, none⟩ = some (.pointer (some ⟨b, 0, none⟩)) := by rw [Lib.cell_of_heap hb2]; rfl
  have d1 : w2.cell? ⟨b, 1, none⟩ = some v := by rw [Lib.cell_of_heap hb2]; rfl
  have f1 : w2.frozen? ⟨b, 1, none⟩ = false := Lib.frozen_of_heap hb2 1
  obtain ⟨ao, n', cap, rfl⟩ : ∃ ao n' cap, v' = .slice ao n' cap := by
    rcases hown'.2 with ⟨hv, _⟩ | ⟨g, cap, cur, hv, _⟩
    · exact ⟨_, _, _, hv⟩
    · exact ⟨_, _, _, hv⟩
  go_wp2
  go_ret2
  refine ⟨_, rfl, ?_, ?_⟩
  · exact Lib.BuilderAt.put (T := 61) (e := 5) hB hb2 (bs' := bs ++ Lib.strCells s) (by simpa [Lib.strCells_length] using hown') (by decide)
  · exact (hb1.grown hgrow (by have := hb1.size; omega) (fun k hk => (hown.lt k hk).1)).setCell (p := ⟨b, 1, none⟩) hB _
/-- The text of two whole parts. -/
def gText (a b : Int) : List UInt8 := if b = 0 then Lib.itoa a else if a = 0 then Lib.itoa b ++ [105] else if b > 0 then Lib.itoa a ++ ([43] ++ (Lib.itoa b ++ [105])) else Lib.itoa a ++ (Lib.itoa b ++ [105])
theorem b_below {B b : Nat} {bs : List Value} {w w' : World} (h : Lib.IsBuilder 61 5 B b bs w) (hb : Below w.heap.size w w') : Lib.IsBuilder 61 5 B b bs w' := by
  have key : ∀ p, Lib.BuilderAt 61 5 B b p bs w → Lib.BuilderAt 61 5 B b p bs w' := by
    rintro p ⟨hB, v, hk, hown, hne⟩
    refine ⟨hB, v, (hb.block b (Array.getElem?_eq_some_iff.1 hk).1).trans hk, ?_, hne⟩
    exact hown.kept (row := none) ⟨hb.os, hb.tape, hb.output, hb.size, fun j hj _ => hb.block j hj⟩ (by cases hv : v.ownBlock <;> simp)
  exact h.elim (fun h => Or.inl (key _ h)) (fun h => Or.inr (key _ h))
theorem b_writeL (B b : Nat) (l : List UInt8) (s : ByteArray) (w : World) (h : Lib.IsBuilder 61 5 B b (Lib.byteCells l) w) (hlen : l.length + s.size ≤ 140737488355328) (hBw : B ≤ w.heap.size) :
    Calls Tryd.prog 28 #[.pointer (some ⟨b, 0, none⟩), .string s] w fun e w' => ∃ x, e = .returned x ∧ Lib.IsBuilder 61 5 B b (Lib.byteCells (l ++ s.data.toList)) w' ∧ Below B w w' := by
  refine (b_write B b _ s w h (by rw [Lib.byteCells_length]; exact hlen) hBw).mono ?_
  rintro e w' ⟨x, rfl, h1, h2⟩
  refine ⟨x, rfl, Or.inr ?_, h2⟩
  have e : Lib.byteCells l ++ Lib.strCells s = Lib.byteCells (l ++ s.data.toList) := by simp [Lib.byteCells, Lib.strCells]
  rw [← e]
  exact h1
theorem itoa_calls (x : Int) (s : ByteArray) (hs : s = ⟨(Lib.itoa x).toArray⟩) (h1 : -999999 ≤ x) (h2 : x ≤ 999999) (w : World) (hE : Env w) :
    Calls Tryd.prog 29 #[.int .i64 x] w fun e w' => e = .returned (.string s) ∧ Below w.heap.size w w' := by
  subst hs
  exact strconv_Itoa_29.calls x _ w hE (by unfold strconv_Itoa_29.f; rw [if_pos ⟨by omega, by omega⟩])
theorem data_app (x y : ByteArray) : (x ++ y).data.toList = x.data.toList ++ y.data.toList := by simp [ByteArray.data_append]
theorem hlen_ {n : Nat} (h : n ≤ 200) : n ≤ 140737488355328 := by omega
theorem data_len (s : ByteArray) : s.data.toList.length = s.size := Array.length_toList
theorem sz1 : (⟨#[43]⟩ : ByteArray).size = 1 := rfl
theorem sz2 : (⟨#[105]⟩ : ByteArray).size = 1 := rfl
def gauss_Show.f (a0 : Nat × Nat) : Option (ByteArray × Int) := (gauss_parts.f a0).bind fun t => if t.2.2 = true then (if -999999 ≤ t.1 ∧ t.1 ≤ 999999 ∧ -999999 ≤ t.2.1 ∧ t.2.1 ≤ 999999 then some (⟨(gText t.1 t.2.1).toArray⟩, 0) else none) else some (⟨#[]⟩, 140)
theorem gText_length (a b : Int) (ha : -9223372036854775808 ≤ a ∧ a ≤ 9223372036854775807) (hb : -9223372036854775808 ≤ b ∧ b ≤ 9223372036854775807) : (gText a b).length ≤ 100 := by
  have h1 := Lib.itoa_length_le a ha.1 ha.2
  have h2 := Lib.itoa_length_le b hb.1 hb.2
  unfold gText
  repeat' split
  all_goals (try simp only [List.length_append, List.length_cons, List.length_nil])
  all_goals omega
set_option maxHeartbeats 8000000 in
set_option maxRecDepth 100000 in
theorem gauss_Show.calls (a0 : Nat × Nat) (r1 : ByteArray) (r2 : Int) (w : World) (hE : Env w) (h : gauss_Show.f a0 = some (r1, r2)) :
    Calls Tryd.prog 9 #[.complex .f64 a0.1 a0.2] w fun e w' => e = .returned (.tuple #[.string r1, .int .i64 r2]) ∧ Below w.heap.size w w' := by
  unfold gauss_Show.f at h
  obtain ⟨t, A1, H⟩ := zO h
  obtain ⟨a, b, ok⟩ := t
  clear h
  have HE := Aside0.mk hE
  clear hE
  dsimp only at H
  cases ok with
  | false =>
    rw [if_neg (by simp)] at H
    simp only [Option.some.injEq, Prod.mk.injEq] at H
    obtain ⟨rfl, rfl⟩ := H
    go_enter Tryd.func9, Tryd.ntmps9
    go_wp2_with ((with_reducible refine gate_callee (f := 27) rfl ?_); refine goesL_ (some 11) rfl rfl Tryd.func27 zK rfl #[.complex .f64 a0.1 a0.2] rfl zM ?_; (with_reducible refine (gauss_parts.calls a0 a b false _ A1.out).mono ?_); rintro e w' ⟨rfl, hb⟩; have HB := Aside0.mk hb; clear hb; refine ⟨_, rfl, ?_⟩)
    go_ret2
    exact ⟨rfl, by first | exact HB.out | exact Below.trans (pw_below_drewN (Below.refl _ _) _) HB.out⟩
  | true =>
    rw [if_pos rfl] at H
    by_cases cc : -999999 ≤ a ∧ a ≤ 999999 ∧ -999999 ≤ b ∧ b ≤ 999999
    rotate_left
    · rw [if_neg cc] at H; exact absurd H (by simp)
    rw [if_pos cc] at H
    simp only [Option.some.injEq, Prod.mk.injEq] at H
    obtain ⟨rfl, rfl⟩ := H
    have ra : -9223372036854775808 ≤ a ∧ a ≤ 9223372036854775807 := ⟨by omega, by omega⟩
    have rb : -9223372036854775808 ≤ b ∧ b ≤ 9223372036854775807 := ⟨by omega, by omega⟩
    obtain ⟨sa, ea⟩ : ∃ s : ByteArray, s = ⟨(Lib.itoa a).toArray⟩ := ⟨_, rfl⟩
    obtain ⟨sb, eb⟩ : ∃ s : ByteArray, s = ⟨(Lib.itoa b).toArray⟩ := ⟨_, rfl⟩
    have la : sa.size ≤ 21 := by rw [ea]; exact Lib.itoa_length_le a ra.1 ra.2
    have lb : sb.size ≤ 21 := by rw [eb]; exact Lib.itoa_length_le b rb.1 rb.2
    have k0 : (sb.size + 1 ≤ 9223372036854775807) = True := eq_true (by omega)
    have k1 : decide (sb.size + 1 ≤ 9223372036854775807) = true := decide_eq_true (by omega)
    have k2 : (9223372036854775807 < sb.size + 1) = False := eq_false (by omega)
    have IA := Aside0.mk (itoa_calls a sa ea cc.1 cc.2.1)
    have IB := Aside0.mk (itoa_calls b sb eb cc.2.2.1 cc.2.2.2)
    have EA := Aside0.mk ea
    have EB := Aside0.mk eb
    have LA := Aside0.mk la
    have LB := Aside0.mk lb
    clear ra rb ea eb la lb cc
    by_cases b0 : b = 0
    all_goals by_cases a0z : a = 0
    all_goals by_cases bp : b > 0
    all_goals first
      | (exfalso; omega)
      | (first | have f1 : (a == 0) = true := beq_iff_eq.mpr a0z | have f1 : (a == 0) = false := beq_eq_false_iff_ne.mpr a0z
         first | have f2 : (a != 0) = false := bne_eq_false_iff_eq.mpr a0z | have f2 : (a != 0) = true := bne_iff_ne.mpr a0z
         first | have f3 : (b == 0) = true := beq_iff_eq.mpr b0 | have f3 : (b == 0) = false := beq_eq_false_iff_ne.mpr b0
         first | have f4 : (b != 0) = false := bne_eq_false_iff_eq.mpr b0 | have f4 : (b != 0) = true := bne_iff_ne.mpr b0
         first | have f5 : decide (0 < b) = true := decide_eq_true bp | have f5 : decide (0 < b) = false := decide_eq_false bp
         have Hb := Aside0.mk b0
         have Ha := Aside0.mk a0z
         have Hp := Aside0.mk bp
         clear b0 a0z bp
         go_enter Tryd.func9, Tryd.ntmps9
         go_wp2_with (first
           | ((with_reducible refine gate_callee (f := 27) rfl ?_); refine goesL_ (some 11) rfl rfl Tryd.func27 zK rfl #[.complex .f64 a0.1 a0.2] rfl zM ?_; (with_reducible refine (gauss_parts.calls a0 a b true _ A1.out).mono ?_); rintro e W0 ⟨rfl, hb⟩; have HB := Aside0.mk hb; clear hb; refine ⟨_, rfl, ?_⟩)
           | ((with_reducible refine gate_dst (N := 7) rfl ?_); refine box_event ?hg (N := 7) ?hd (cs := #[.pointer none, .slice none 0 0]) (t := 61) ?hr ?_; (case hd => rfl); (case hg => rfl); (case hr => first | (go_simp; done) | (go_simp; rfl)); intro g hg W1 hbox hb; have GE := Aside0.mk (show w.heap.size ≤ g from by rw [hg]; exact (below_size zB)); have HB1 := Aside0.mk (below_step zB hb); clear HB; have HB := HB1; clear HB1; have BS := Aside0.mk (show Lib.IsBuilder 61 5 w.heap.size g (Lib.byteCells []) W1 from Or.inl ⟨GE.out, .slice none 0 0, hbox, World.ownsRow_nil _ _ _ _, by simp [Value.ownBlock]⟩); clear hb hbox hg)
           | (go_at_call 29; (first | (with_reducible refine (IA.out _ ?hE).mono ?_) | (with_reducible refine (IB.out _ ?hE).mono ?_)); (case hE => exact zEnv HE); rintro e W2 ⟨rfl, hb⟩; have BS2 := Aside0.mk (b_below BS.out hb); have HB2 := Aside0.mk (below_step zB hb); clear BS HB hb; have BS := BS2; have HB := HB2; clear BS2 HB2)
           | ((first
              | ((with_reducible refine gate_tmp (x := 24) rfl ?_); refine goesLB_ (some 27) rfl rfl rfl Tryd.func28 zK rfl #[.pointer (some ⟨g, 0, none⟩), .string sa] rfl zM ?_)
              | ((with_reducible refine gate_tmp (x := 34) rfl ?_); refine goesLB_ (some 35) rfl rfl rfl Tryd.func28 zK rfl #[.pointer (some ⟨g, 0, none⟩), .string ⟨#[43]⟩] rfl zM ?_)
              | ((with_reducible refine gate_tmp (x := 38) rfl ?_); refine goesLB_ (some 42) rfl rfl rfl Tryd.func28 zK rfl #[.pointer (some ⟨g, 0, none⟩), .string (sb ++ ⟨#[105]⟩)] rfl zM ?_)); (refine (b_writeL w.heap.size g _ _ _ BS.out ?hl ?hB).mono ?_); (case hl => exact hlen_ (by have h1 := LA.out; have h2 := LB.out; simp only [List.length_append, List.length_nil, List.length_cons, data_len, ByteArray.size_append, sz1, sz2]; omega)); (case hB => exact below_size zB); rintro e W3 ⟨x, rfl, hbs, hb⟩; have BS3 := Aside0.mk hbs; have HB3 := Aside0.mk (Below.trans zB hb); clear BS HB hb hbs; have BS := BS3; have HB := HB3; clear BS3 HB3; refine ⟨_, rfl, ?_⟩)
           | (go_at_call 30; (refine (Tryd.Builder_String_any w.heap.size g _ _ BS.out ?hB).mono ?_); (case hB => exact below_size zB); rintro e W4 ⟨rfl, hb⟩; have HB4 := Aside0.mk (Below.trans zB hb); clear HB hb; have HB := HB4; clear HB4))
         go_ret2
         refine ⟨?_, zB⟩
         unfold gText
         first | rw [if_pos Hb.out] | (rw [if_neg Hb.out]; first | rw [if_pos Ha.out] | (rw [if_neg Ha.out]; first | rw [if_pos Hp.out] | rw [if_neg (by have := Hp.out; omega)]))
         simp [EA.out, EB.out, data_app])

/-! ### toponymlaw14_Two_z: function 10 -/
def toponymlaw14_Two_z.f (a0_0 : Nat) (a0_1 : Nat) : Option ((Nat × Nat)) := some (a0_0, a0_1)
set_option maxHeartbeats 8000000 in
set_option maxRecDepth 100000 in
theorem toponymlaw14_Two_z.calls (a0_0 : Nat) (a0_1 : Nat) (r : (Nat × Nat)) (w : World) (h : toponymlaw14_Two_z.f a0_0 a0_1 = some r) :
  Calls Tryd.prog 10 #[.agg #[.float .f64 a0_0, .float .f64 a0_1]] w fun e w' => e = .returned (.complex .f64 r.1 r.2) ∧ Below w.heap.size w w' := by
 have hu24 := Tryd.underlying24
 have HB := aM (Below.refl w.heap.size w)
 have H := h
 clear h
 unfold toponymlaw14_Two_z.f at H
 obtain rfl := sI H
 go_enter Tryd.func10, Tryd.ntmps10
 go_wp2_with (first | ((with_reducible refine gate_dst (N := 1) rfl ?_); refine box_event ?hg (N := 1) ?hd (cs := #[.float .f64 a0_0, .float .f64 a0_1]) (t := 24) ?hr ?_; (case hd => rfl); (case hg => rfl); (case hr => first | (go_simp; done) | (go_simp; rfl)); intro gb105 hg w2 hbox hb; have n_ := zI (aM (below_step zB hb)) (zI (aM (hbox)) (zI (aM ((by rw [hg]; exact (below_size zB) : w.heap.size ≤ gb105))) (aM ((by rw [hg]; exact (below_size zB) : w.heap.size ≤ gb105))))); clear HB; obtain ⟨HB, BK105, GW105, GE105⟩ := n_; clear hb hbox hg; have hcz3_0 : w2.cell? ⟨gb105, 0, none⟩ = some (.float .f64 a0_0) := (blk_cell BK105.out 0).trans rfl; have hcz3_1 : w2.cell? ⟨gb105, 1, none⟩ = some (.float .f64 a0_1) := (blk_cell BK105.out 1).trans rfl; have hfz3_0 := blk_frozen BK105.out 0; have hfz3_1 := blk_frozen BK105.out 1))
 go_ret
 exact ⟨zE, by repeat (first | (with_reducible first | exact HB.out | apply bA | apply bN | apply bD | refine below_set ?_ GE105.out) | exact HB.out)⟩

/-! ### toponymref14_Whole: function 33 -/
def toponymref14_Whole.f (a0 : Nat) : Option (Int × Bool) := if (Go.FloatKind.f64.format.order a0 a0 != some .eq) = true then (some (0, false)) else (if (Go.FloatKind.f64.format.order a0 13920209174949527552 == some .lt) = true then (some (0, false)) else (if (Go.FloatKind.f64.format.order a0 4696837138094751744 == some .gt) = true then (some (0, false)) else (if Go.floatToIntVal .f64 a0 .i64 = some (fTi a0) then (some ((fTi a0), (Go.FloatKind.f64.format.order a0 (Go.floatOfInt .f64 (fTi a0)) == some .eq))) else (none))))
set_option maxHeartbeats 8000000 in
set_option maxRecDepth 100000 in
theorem toponymref14_Whole.calls (a0 : Nat) (r1 : Int) (r2 : Bool) (w : World) (h : toponymref14_Whole.f a0 = some (r1, r2)) :
  Calls Tryd.prog 33 #[.float .f64 a0] w fun e w' => e = .returned (.tuple #[.int .i64 r1, .bool r2]) ∧ Drawn0 w w' := by
 have H := h
 clear h
 unfold toponymref14_Whole.f at H
 by_cases c2 : (Go.FloatKind.f64.format.order a0 a0 != some .eq) = true
 ·rw [if_pos c2] at H
  have c2b0 : (Go.FloatKind.f64.format.order a0 a0 != some .eq) = true := c2
  (try (have c2b1 : decide (Go.FloatKind.f64.format.order a0 a0 = some .eq) = false := by simpa using c2))
  (try (have c2b2 : (Go.FloatKind.f64.format.order a0 a0 == some .eq) = false := by simpa using c2))
  (try (have c2b3 : ¬ (Go.FloatKind.f64.format.order a0 a0 = some .eq) := by simpa using c2))
  clear c2
  simp only [Option.some.injEq, Prod.mk.injEq] at H
  obtain ⟨rfl, rfl⟩ := H
  go_enter Tryd.func33, Tryd.ntmps33
  go_wp2
  go_ret2
  exact ⟨zP, zD⟩
 ·rw [if_neg c2] at H
  have c2b0 : (Go.FloatKind.f64.format.order a0 a0 != some .eq) = false := by simpa using c2
  (try (have c2b1 : decide (Go.FloatKind.f64.format.order a0 a0 = some .eq) = true := by simpa using c2))
  (try (have c2b2 : (Go.FloatKind.f64.format.order a0 a0 == some .eq) = true := by simpa using c2))
  clear c2
  by_cases c3 : (Go.FloatKind.f64.format.order a0 13920209174949527552 == some .lt) = true
  ·rw [if_pos c3] at H
   have c3b0 : (Go.FloatKind.f64.format.order a0 13920209174949527552 == some .lt) = true := c3
   (try (have c3b1 : decide (Go.FloatKind.f64.format.order a0 13920209174949527552 = some .lt) = true := by simpa using c3))
   (try (have c3b2 : (Go.FloatKind.f64.format.order a0 13920209174949527552 == some .lt) = true := by simpa using c3))
   clear c3
   simp only [Option.some.injEq, Prod.mk.injEq] at H
   obtain ⟨rfl, rfl⟩ := H
   go_enter Tryd.func33, Tryd.ntmps33
   go_wp2
   go_ret2
   exact ⟨zP, zD⟩
  ·rw [if_neg c3] at H
   have c3b0 : (Go.FloatKind.f64.format.order a0 13920209174949527552 == some .lt) = false := by simpa using c3
   (try (have c3b1 : decide (Go.FloatKind.f64.format.order a0 13920209174949527552 = some .lt) = false := by simpa using c3))
   (try (have c3b2 : (Go.FloatKind.f64.format.order a0 13920209174949527552 == some .lt) = false := by simpa using c3))
   (try (have c3b3 : ¬ (Go.FloatKind.f64.format.order a0 13920209174949527552 = some .lt) := by simpa using c3))
   clear c3
   by_cases c4 : (Go.FloatKind.f64.format.order a0 4696837138094751744 == some .gt) = true
   ·rw [if_pos c4] at H
    have c4b0 : (Go.FloatKind.f64.format.order a0 4696837138094751744 == some .gt) = true := c4
    (try (have c4b1 : decide (Go.FloatKind.f64.format.order a0 4696837138094751744 = some .gt) = true := by simpa using c4))
    (try (have c4b2 : (Go.FloatKind.f64.format.order a0 4696837138094751744 == some .gt) = true := by simpa using c4))
    clear c4
    simp only [Option.some.injEq, Prod.mk.injEq] at H
    obtain ⟨rfl, rfl⟩ := H
    go_enter Tryd.func33, Tryd.ntmps33
    go_wp2
    go_ret2
    exact ⟨zP, zD⟩
   ·rw [if_neg c4] at H
    have c4b0 : (Go.FloatKind.f64.format.order a0 4696837138094751744 == some .gt) = false := by simpa using c4
    (try (have c4b1 : decide (Go.FloatKind.f64.format.order a0 4696837138094751744 = some .gt) = false := by simpa using c4))
    (try (have c4b2 : (Go.FloatKind.f64.format.order a0 4696837138094751744 == some .gt) = false := by simpa using c4))
    (try (have c4b3 : ¬ (Go.FloatKind.f64.format.order a0 4696837138094751744 = some .gt) := by simpa using c4))
    clear c4
    by_cases c5 : Go.floatToIntVal .f64 a0 .i64 = some (fTi a0)
    ·rw [if_pos c5] at H
     have c5f := (show ∀ (w_ : World), (Go.convert 22 3 (.float .f64 a0)).run Tryd.prog w_ = .ok (.int .i64 (fTi a0)) w_ from fun w_ => run_convert_float_int w_ 22 3 .f64 .i64 _ _ (by rw [Tryd.underlying22]; rfl) Tryd.underlying3 c5)
     have c5b0 := eq_true c5
     have c5b1 : decide (Go.floatToIntVal .f64 a0 .i64 = some (fTi a0)) = true := decide_eq_true c5
     clear c5
     simp only [Option.some.injEq, Prod.mk.injEq] at H
     obtain ⟨rfl, rfl⟩ := H
     go_enter Tryd.func33, Tryd.ntmps33
     go_wp2
     go_ret2
     exact ⟨zP, zD⟩
    ·rw [if_neg c5] at H
     exact absurd H (by simp)

/-! ### toponymref14_Parts: function 15 -/
def toponymref14_Parts.f (a0_0 : Nat) (a0_1 : Nat) : Option (Int × Int × Bool) := (toponymref14_Whole.f a0_0).bind fun bt107 => ((toponymref14_Whole.f a0_1).bind fun bt109 => (if bt107.2 = true then (if bt109.2 = true then (some (bt107.1, bt109.1, true)) else (some (0, 0, false))) else (some (0, 0, false))))
set_option maxHeartbeats 8000000 in
set_option maxRecDepth 100000 in
theorem toponymref14_Parts.calls (a0_0 : Nat) (a0_1 : Nat) (r1 : Int) (r2 : Int) (r3 : Bool) (w : World) (h : toponymref14_Parts.f a0_0 a0_1 = some (r1, r2, r3)) :
  Calls Tryd.prog 15 #[.agg #[.float .f64 a0_0, .float .f64 a0_1]] w fun e w' => e = .returned (.tuple #[.int .i64 r1, .int .i64 r2, .bool r3]) ∧ Below w.heap.size w w' := by
 have hu32 := Tryd.underlying32
 have HB := aM (Below.refl w.heap.size w)
 have H := h
 clear h
 unfold toponymref14_Parts.f at H
 obtain ⟨⟨t107, t108⟩, A2, H⟩ := zO H
 try dsimp only at H
 obtain ⟨⟨t109, t110⟩, A3, H⟩ := zO H
 try dsimp only at H
 by_cases c4 : t108 = true
 ·subst c4
  rw [if_pos rfl] at H
  by_cases c5 : t110 = true
  ·subst c5
   rw [if_pos rfl] at H
   simp only [Option.some.injEq, Prod.mk.injEq] at H
   obtain ⟨rfl, rfl, rfl⟩ := H
   go_enter Tryd.func15, Tryd.ntmps15
   go_wp2_with (first | ((with_reducible refine gate_dst (N := 1) rfl ?_); refine box_event ?hg (N := 1) ?hd (cs := #[.float .f64 a0_0, .float .f64 a0_1]) (t := 32) ?hr ?_; (case hd => rfl); (case hg => rfl); (case hr => first | (go_simp; done) | (go_simp; rfl)); intro gb106 hg w6 hbox hb; have n_ := zI (aM (below_step zB hb)) (zI (aM (hbox)) (zI (aM ((by rw [hg]; exact (below_size zB) : w.heap.size ≤ gb106))) (aM ((by rw [hg]; exact (below_size zB) : w.heap.size ≤ gb106))))); clear HB; obtain ⟨HB, BK106, GW106, GE106⟩ := n_; clear hb hbox hg; have hcz7_0 : w6.cell? ⟨gb106, 0, none⟩ = some (.float .f64 a0_0) := (blk_cell BK106.out 0).trans rfl; have hcz7_1 : w6.cell? ⟨gb106, 1, none⟩ = some (.float .f64 a0_1) := (blk_cell BK106.out 1).trans rfl; have hfz7_0 := blk_frozen BK106.out 0; have hfz7_1 := blk_frozen BK106.out 1) | ((with_reducible refine gate_callee (f := 33) rfl ?_); refine goesL_ (some 12) rfl rfl Tryd.func33 zK rfl #[.float .f64 a0_0] rfl zM ?_; (with_reducible refine (toponymref14_Whole.calls a0_0 t107 true _ A2.out).mono ?_); rintro e w' ⟨rfl, ⟨nd, rfl⟩⟩; (try clear A2); refine ⟨_, rfl, ?_⟩) | ((with_reducible refine gate_callee (f := 33) rfl ?_); refine goesL_ (some 18) rfl rfl Tryd.func33 zK rfl #[.float .f64 a0_1] rfl zM ?_; (with_reducible refine (toponymref14_Whole.calls a0_1 t109 true _ A3.out).mono ?_); rintro e w' ⟨rfl, ⟨nd, rfl⟩⟩; (try clear A3); refine ⟨_, rfl, ?_⟩))
   go_ret3
   exact ⟨zE, by repeat (first | (with_reducible first | exact HB.out | apply bA | apply bN | apply bD | refine below_set ?_ GE106.out) | exact HB.out)⟩
  ·replace c5 := Bool.eq_false_iff.mpr c5
   subst c5
   rw [if_neg (show ¬ (false = true) by decide)] at H
   simp only [Option.some.injEq, Prod.mk.injEq] at H
   obtain ⟨rfl, rfl, rfl⟩ := H
   go_enter Tryd.func15, Tryd.ntmps15
   go_wp2_with (first | ((with_reducible refine gate_dst (N := 1) rfl ?_); refine box_event ?hg (N := 1) ?hd (cs := #[.float .f64 a0_0, .float .f64 a0_1]) (t := 32) ?hr ?_; (case hd => rfl); (case hg => rfl); (case hr => first | (go_simp; done) | (go_simp; rfl)); intro gb106 hg w8 hbox hb; have n_ := zI (aM (below_step zB hb)) (zI (aM (hbox)) (zI (aM ((by rw [hg]; exact (below_size zB) : w.heap.size ≤ gb106))) (aM ((by rw [hg]; exact (below_size zB) : w.heap.size ≤ gb106))))); clear HB; obtain ⟨HB, BK106, GW106, GE106⟩ := n_; clear hb hbox hg; have hcz9_0 : w8.cell? ⟨gb106, 0, none⟩ = some (.float .f64 a0_0) := (blk_cell BK106.out 0).trans rfl; have hcz9_1 : w8.cell? ⟨gb106, 1, none⟩ = some (.float .f64 a0_1) := (blk_cell BK106.out 1).trans rfl; have hfz9_0 := blk_frozen BK106.out 0; have hfz9_1 := blk_frozen BK106.out 1) | ((with_reducible refine gate_callee (f := 33) rfl ?_); refine goesL_ (some 12) rfl rfl Tryd.func33 zK rfl #[.float .f64 a0_0] rfl zM ?_; (with_reducible refine (toponymref14_Whole.calls a0_0 t107 true _ A2.out).mono ?_); rintro e w' ⟨rfl, ⟨nd, rfl⟩⟩; (try clear A2); refine ⟨_, rfl, ?_⟩) | ((with_reducible refine gate_callee (f := 33) rfl ?_); refine goesL_ (some 18) rfl rfl Tryd.func33 zK rfl #[.float .f64 a0_1] rfl zM ?_; (with_reducible refine (toponymref14_Whole.calls a0_1 t109 false _ A3.out).mono ?_); rintro e w' ⟨rfl, ⟨nd, rfl⟩⟩; (try clear A3); refine ⟨_, rfl, ?_⟩))
   go_ret3
   exact ⟨zE, by repeat (first | (with_reducible first | exact HB.out | apply bA | apply bN | apply bD | refine below_set ?_ GE106.out) | exact HB.out)⟩
 ·replace c4 := Bool.eq_false_iff.mpr c4
  subst c4
  rw [if_neg (show ¬ (false = true) by decide)] at H
  simp only [Option.some.injEq, Prod.mk.injEq] at H
  obtain ⟨rfl, rfl, rfl⟩ := H
  go_enter Tryd.func15, Tryd.ntmps15
  go_wp2_with (first | ((with_reducible refine gate_dst (N := 1) rfl ?_); refine box_event ?hg (N := 1) ?hd (cs := #[.float .f64 a0_0, .float .f64 a0_1]) (t := 32) ?hr ?_; (case hd => rfl); (case hg => rfl); (case hr => first | (go_simp; done) | (go_simp; rfl)); intro gb106 hg w10 hbox hb; have n_ := zI (aM (below_step zB hb)) (zI (aM (hbox)) (zI (aM ((by rw [hg]; exact (below_size zB) : w.heap.size ≤ gb106))) (aM ((by rw [hg]; exact (below_size zB) : w.heap.size ≤ gb106))))); clear HB; obtain ⟨HB, BK106, GW106, GE106⟩ := n_; clear hb hbox hg; have hcz11_0 : w10.cell? ⟨gb106, 0, none⟩ = some (.float .f64 a0_0) := (blk_cell BK106.out 0).trans rfl; have hcz11_1 : w10.cell? ⟨gb106, 1, none⟩ = some (.float .f64 a0_1) := (blk_cell BK106.out 1).trans rfl; have hfz11_0 := blk_frozen BK106.out 0; have hfz11_1 := blk_frozen BK106.out 1) | ((with_reducible refine gate_callee (f := 33) rfl ?_); refine goesL_ (some 12) rfl rfl Tryd.func33 zK rfl #[.float .f64 a0_0] rfl zM ?_; (with_reducible refine (toponymref14_Whole.calls a0_0 t107 false _ A2.out).mono ?_); rintro e w' ⟨rfl, ⟨nd, rfl⟩⟩; (try clear A2); refine ⟨_, rfl, ?_⟩) | ((with_reducible refine gate_callee (f := 33) rfl ?_); refine goesL_ (some 18) rfl rfl Tryd.func33 zK rfl #[.float .f64 a0_1] rfl zM ?_; (with_reducible refine (toponymref14_Whole.calls a0_1 t109 t110 _ A3.out).mono ?_); rintro e w' ⟨rfl, ⟨nd, rfl⟩⟩; (try clear A3); refine ⟨_, rfl, ?_⟩))
  go_ret3
  exact ⟨zE, by repeat (first | (with_reducible first | exact HB.out | apply bA | apply bN | apply bD | refine below_set ?_ GE106.out) | exact HB.out)⟩

/-! ### toponymref14_digits: function 45 -/
def toponymref14_digits.f : Nat → Int → Option (ByteArray)
 | 0, _ => none
 | k + 1, a0 => if a0 < 0 then ((toponymref14_digits.f k (wrap64 (-a0))).bind fun t111 => (if 1 + t111.size ≤ 9223372036854775807 then (some ((⟨#[45]⟩ : ByteArray) ++ t111)) else (none))) else (if a0 < 10 then (some (strOfNums (([(wrap64 (48 + a0)) % 256] : List Int)))) else ((toponymref14_digits.f k (wrap64 (Int.tdiv a0 10))).bind fun t115 => ((some (([(wrap64 (48 + (Int.tmod a0 10))) % 256] : List Int) : List Int)).bind fun y116 => (if t115.size + (strOfNums y116).size ≤ 9223372036854775807 then (some (t115 ++ (strOfNums y116))) else (none)))))
theorem toponymref14_digits.mono_l : ∀ k, (∀ y0, LeO (toponymref14_digits.f k y0) (toponymref14_digits.f (k + 1) y0))
 | 0 => fun _ r h => by simp [toponymref14_digits.f] at h
 | k + 1 => by
  have ih0 := toponymref14_digits.mono_l k
  ·intro y0
   unfold toponymref14_digits.f
   repeat' first
   | (with_reducible exact ih0 _)
   | (with_reducible exact LeO.refl _)
   | exact ih0 _
   | exact LeO.none _
   | refine LeO.ite ?_ ?_
   | refine LeO.bind ?_ (fun _ => ?_)
theorem toponymref14_digits.mono : ∀ a0 k, LeO (toponymref14_digits.f k a0) (toponymref14_digits.f (k + 1) a0) := by
 intro a0 k
 have ih0 := toponymref14_digits.mono_l k
 exact ih0 a0
def toponymref14_digits.T5 : Bool × List (List Nat × List Nat) := (true, [([], []), ([0], [0]), ([1], [1]), ([], []), ([3], [3]), ([4], [4]), ([5], [5]), ([6], [6]), ([7], [7]), ([2, 8], [2, 8]), ([9, 2, 0, 1, 2, 3, 4, 5, 6, 7, 8, 9], [9])])
def toponymref14_digits.B5 : List Nat := [0, 1, 3, 0, 8, 24, 56, 120, 248, 511, 1023]
theorem toponymref14_digits.tab5 : rtab .any (opsOf Tryd.f45 5) = toponymref14_digits.T5 := zK
theorem toponymref14_digits.bits5 : waitsOk toponymref14_digits.T5.2 toponymref14_digits.B5 = true := zK
set_option maxHeartbeats 8000000 in
set_option maxRecDepth 100000 in
theorem toponymref14_digits.calls (k : Nat) : ∀ (a0 : Int) (r : ByteArray) (w : World) (h : toponymref14_digits.f k a0 = some r),
  Calls Tryd.prog 45 #[.int .i64 a0] w fun e w' => e = .returned (.string r) ∧ Below w.heap.size w w' := by
 induction k using Nat.strongRecOn with
 | _ k ih =>
 intro a0 r w h
 cases k with
 | zero => exact absurd h (by simp [toponymref14_digits.f])
 | succ k =>
 simp only [toponymref14_digits.f] at h
 have HB := aM (Below.refl w.heap.size w)
 have H : (if a0 < 0 then ((toponymref14_digits.f k (wrap64 (-a0))).bind fun t111 => (if 1 + t111.size ≤ 9223372036854775807 then (some ((⟨#[45]⟩ : ByteArray) ++ t111)) else (none))) else (if a0 < 10 then (some (strOfNums (([(wrap64 (48 + a0)) % 256] : List Int)))) else ((toponymref14_digits.f k (wrap64 (Int.tdiv a0 10))).bind fun t115 => ((some (([(wrap64 (48 + (Int.tmod a0 10))) % 256] : List Int) : List Int)).bind fun y116 => (if t115.size + (strOfNums y116).size ≤ 9223372036854775807 then (some (t115 ++ (strOfNums y116))) else (none)))))) = some r := h
 clear h
 by_cases c2 : a0 < 0
 ·rw [if_pos c2] at H
  have c2b0 : decide (a0 < 0) = true := decide_eq_true c2
  clear c2
  obtain ⟨t111, A3, H⟩ := zO H
  by_cases c4 : 1 + t111.size ≤ 9223372036854775807
  ·rw [if_pos c4] at H
   have c4b0 := eq_true c4
   have c4b1 : decide (1 + t111.size ≤ 9223372036854775807) = true := decide_eq_true c4
   try have c4b2 : (9223372036854775807 < 1 + t111.size) = False := eq_false (Nat.not_lt.2 c4)
   obtain rfl := sI H
   go_enter Tryd.func45, Tryd.ntmps45
   go_wp2_with (first | ((with_reducible refine gate_callee (f := 45) rfl ?_); refine goesL_ (some 7) rfl rfl Tryd.func45 zK rfl #[.int .i64 (wrap64 (-a0))] rfl zM ?_; (with_reducible refine (ih k (by omega) (wrap64 (-a0)) t111 _ A3.out).mono ?_); rintro e w5 ⟨rfl, hb⟩; refine ⟨_, rfl, ?_⟩; replace HB := aM (below_step zB hb); (try clear hb)))
   go_ret
   exact ⟨zE, zB⟩
  ·rw [if_neg c4] at H
   exact absurd H (by simp)
 ·rw [if_neg c2] at H
  have c2b0 : decide (a0 < 0) = false := decide_eq_false c2
  clear c2
  by_cases c6 : a0 < 10
  ·rw [if_pos c6] at H
   have c6b0 : decide (a0 < 10) = true := decide_eq_true c6
   clear c6
   obtain ⟨y112, hy112⟩ : ∃ y_ : List Int, y_ = (([(wrap64 (48 + a0)) % 256] : List Int)) := ⟨_, rfl⟩
   replace H : (some (strOfNums y112)) = some r := zY hy112 H
   have Ny112 := aM hy112
   clear hy112
   obtain rfl := sI H
   go_enter Tryd.func45, Tryd.ntmps45
   go_wp2_with (first | ((with_reducible refine gate_dst (N := 14) rfl ?_); refine Kd.R_lit (Kd.int .u8) _ 5 ?hg (N := 14) ?hd (xs := ([(wrap64 (48 + a0)) % 256] : List Int)) (inner := [.int .u8 ((wrap64 (48 + a0)) % 256)]) (ok := fun _ => True) (okp := fun _ => True) ?hr ?hp (fun _ hk => hk) trivial (Below.refl _ _) (Nat.le_refl _) (by simp) ?_; (case hd => rfl); (case hg => rfl); (case hr => first | (go_simp; done) | (go_simp; rfl)); (case hp => exact (Reps.one (show Kd.M (Kd.int .u8) _ _ _ ((wrap64 (48 + a0)) % 256) [.int .u8 ((wrap64 (48 + a0)) % 256)] from rfl) (Reps.none _ _))); intro v113 w7 ho8 hb hg_ hnew_; clear hg_ hnew_; (first | rw [← Ny112.out] at ho8 | (simp only [Int.reduceToNat] at ho8; rw [← Ny112.out] at ho8)); have n_ := zI (aM (Kd.R_lower ho8 (below_size zB))) (aM (below_step zB hb)); clear HB; obtain ⟨HO114, HB⟩ := n_; clear hb ho8; have hcv9 := own_string (P := Tryd.prog) Tryd.underlying59 Tryd.underlying5 Tryd.underlying9 (Kd.own_of_R HO114.out)))
   go_ret
   exact ⟨zE, zB⟩
  ·rw [if_neg c6] at H
   have c6b0 : decide (a0 < 10) = false := decide_eq_false c6
   clear c6
   obtain ⟨t115, A10, H⟩ := zO H
   obtain ⟨y116, hy116⟩ : ∃ y_ : List Int, y_ = (([(wrap64 (48 + (Int.tmod a0 10))) % 256] : List Int)) := ⟨_, rfl⟩
   replace H : (if t115.size + (strOfNums y116).size ≤ 9223372036854775807 then (some (t115 ++ (strOfNums y116))) else (none)) = some r := zY hy116 H
   have Ny116 := aM hy116
   clear hy116
   by_cases c11 : t115.size + (strOfNums y116).size ≤ 9223372036854775807
   ·rw [if_pos c11] at H
    have c11b0 := eq_true c11
    have c11b1 : decide (t115.size + (strOfNums y116).size ≤ 9223372036854775807) = true := decide_eq_true c11
    try have c11b2 : (9223372036854775807 < t115.size + (strOfNums y116).size) = False := eq_false (Nat.not_lt.2 c11)
    obtain rfl := sI H
    go_enter Tryd.func45, Tryd.ntmps45
    try go_wp2
    have n0_ := aM (bD HB.out)
    clear HB
    have HB := n0_
    clear n0_
    refine start_ (n := 11) (S := fun w' => True) (ds := []) #[false, false, false, false, false, false, false, false, false, false, false] zK rfl rfl trivial (fun hHeld => ?_); refine with_tabW toponymref14_digits.tab5 toponymref14_digits.bits5 (fun HT_ HW_ => ?_)
    generalize w.drew = w12 at HB hHeld ⊢
    refine pure_ (i := 0) (N := some 16) (v := ?_) (a' := ?_) #[true, false, false, false, false, false, false, false, false, false, false] rfl rfl (any_of HT_.out zK) (fun _ _ _ h => h) (Or.inl ⟨by rfl, ?_⟩) ?_ ?_
    rotate_left
    ·intro w'
     go_simp
     with_reducible rfl
    rotate_left
    ·simp only [Act.put, List.setIfInBounds_toArray, List.set_cons_zero, List.set_cons_succ, i64_w, i32_w]
     rfl
    refine pure_ (i := 1) (N := some 17) (v := ?_) (a' := ?_) #[true, true, false, false, false, false, false, false, false, false, false] rfl rfl (any_of HT_.out zK) (fun _ _ _ h => h) (Or.inl ⟨by rfl, ?_⟩) ?_ ?_
    rotate_left
    ·intro w'
     go_simp
     with_reducible rfl
    rotate_left
    ·simp only [Act.put, List.setIfInBounds_toArray, List.set_cons_zero, List.set_cons_succ, i64_w, i32_w]
     rfl
    refine pure_ (i := 3) (N := some 19) (v := ?_) (a' := ?_) #[true, true, false, true, false, false, false, false, false, false, false] rfl rfl (any_of HT_.out zK) (fun _ _ _ h => h) (Or.inl ⟨by rfl, ?_⟩) ?_ ?_
    rotate_left
    ·intro w'
     go_simp
     with_reducible rfl
    rotate_left
    ·simp only [Act.put, List.setIfInBounds_toArray, List.set_cons_zero, List.set_cons_succ, i64_w, i32_w]
     rfl
    refine pure_ (i := 4) (N := some 20) (v := ?_) (a' := ?_) #[true, true, false, true, true, false, false, false, false, false, false] rfl rfl (any_of HT_.out zK) (fun _ _ _ h => h) (Or.inl ⟨by rfl, ?_⟩) ?_ ?_
    rotate_left
    ·intro w'
     go_simp
     with_reducible rfl
    rotate_left
    ·simp only [Act.put, List.setIfInBounds_toArray, List.set_cons_zero, List.set_cons_succ, i64_w, i32_w]
     rfl
    refine pure_ (i := 5) (N := some 21) (v := ?_) (a' := ?_) #[true, true, false, true, true, true, false, false, false, false, false] rfl rfl (any_of HT_.out zK) (fun _ _ _ h => h) (Or.inl ⟨by rfl, ?_⟩) ?_ ?_
    rotate_left
    ·intro w'
     go_simp
     with_reducible rfl
    rotate_left
    ·simp only [Act.put, List.setIfInBounds_toArray, List.set_cons_zero, List.set_cons_succ, i64_w, i32_w]
     rfl
    refine pure_ (i := 6) (N := some 22) (v := ?_) (a' := ?_) #[true, true, false, true, true, true, true, false, false, false, false] rfl rfl (any_of HT_.out zK) (fun _ _ _ h => h) (Or.inl ⟨by rfl, ?_⟩) ?_ ?_
    rotate_left
    ·intro w'
     go_simp
     with_reducible rfl
    rotate_left
    ·simp only [Act.put, List.setIfInBounds_toArray, List.set_cons_zero, List.set_cons_succ, i64_w, i32_w]
     rfl
    refine join_ (σ := Value) 2 #[true, true, true, true, true, true, true, true, true, false, false] (fun s_ => [(18, .string t115), (23, s_), (24, .string (strOfNums y116))]) (fun s_ w' => (Kd.R (Kd.int .u8) 5 w' w.heap.size (fun _ => True) s_ y116) ∧ (Below w.heap.size w w')) ?_ ?_
    rotate_left
    ·intro hCont
     refine two_ (i := 2) (j := 7) (Ni := some 18) (Nj := some 23) #[true, true, true, true, true, true, true, false, false, false, false] #[true, true, false, true, true, true, true, true, false, false, false] rfl rfl rfl rfl (two_of HT_.out zK) (by decide) (by decide) (fun K hK => ?_) (fun K hK => ?_)
     ·skip
      refine goes_ Tryd.func45 zK rfl #[.int .i64 (wrap64 (Int.tdiv a0 10))] (by rfl) rfl rfl zM ?_
      with_reducible refine (ih k (by omega) (wrap64 (Int.tdiv a0 10)) t115 _ A10.out).mono ?_
      rintro e w13 ⟨rfl, hb⟩
      refine ⟨_, rfl, ?_⟩
      have n0_ := aM (below_step zB hb)
      clear HB
      have HB := n0_
      clear n0_
      (try clear hb)
      (try clear hb2)
      (try clear hk)
      (try clear hi)
      refine hK.out _ _ trivial (fun hHeld => ?_)
      clear hK K
      refine norm_ (a' := ?_) ?_ ?_
      rotate_left
      ·show Act.put _ (some 18) _ = _
       simp only [Act.put, List.setIfInBounds_toArray, List.set_cons_zero, List.set_cons_succ, i64_w, i32_w]
       rfl
      refine one_ (i := 7) (N := some 23) #[true, true, true, true, true, true, true, true, false, false, false] rfl rfl (one_of HT_.out zK) (by decide) (fun K hK => ?_)
      refine Kd.R_lit_step (Kd.int .u8) _ 5 ?hg (N := 23) ?hd (xs := ([(wrap64 (48 + (Int.tmod a0 10))) % 256] : List Int)) (inner := [.int .u8 ((wrap64 (48 + (Int.tmod a0 10))) % 256)]) (ok := fun _ => True) (okp := fun _ => True) ?hr ?hp (fun _ hk => hk) trivial (Below.refl _ _) (Nat.le_refl _) (by simp) ?_; (case hd => rfl); (case hg => rfl); (case hr => first | (go_simp; done) | (go_simp; rfl)); (case hp => exact (Reps.one (show Kd.M (Kd.int .u8) _ _ _ ((wrap64 (48 + (Int.tmod a0 10))) % 256) [.int .u8 ((wrap64 (48 + (Int.tmod a0 10))) % 256)] from rfl) (Reps.none _ _)))
      intro v117 w14 ho15 hb hg_ hnew_
      clear hg_ hnew_
      (first | rw [← Ny116.out] at ho15 | (simp only [Int.reduceToNat] at ho15; rw [← Ny116.out] at ho15))
      have n0_ := aM (Kd.R_lower ho15 (below_size zB))
      have n1_ := aM (below_step zB hb)
      clear HB
      have HO118 := n0_
      have HB := n1_
      clear n0_ n1_
      clear hb ho15
      refine hK.out _ _ trivial (fun hHeld => ?_)
      clear hK K
      refine norm_ (a' := ?_) ?_ ?_
      rotate_left
      ·show Act.put _ (some 23) _ = _
       simp only [Act.put, List.setIfInBounds_toArray, List.set_cons_zero, List.set_cons_succ, i64_w, i32_w]
       rfl
      refine one_ (i := 8) (N := some 24) #[true, true, true, true, true, true, true, true, true, false, false] rfl rfl (one_of HT_.out zK) (by decide) (fun K hK => ?_)
      have hcv16 := own_string (P := Tryd.prog) Tryd.underlying59 Tryd.underlying5 Tryd.underlying9 (Kd.own_of_R HO118.out)
      refine value_ (w1 := ?_) (v := ?_) (by rfl) rfl ?_ ?_
      rotate_left 2
      ·go_simp
       constructor
       ·rfl
       ·rfl
      clear hcv16
      refine hK.out _ _ trivial (fun hHeld => ?_)
      clear hK K
      refine norm_ (a' := ?_) ?_ ?_
      rotate_left
      ·show Act.put _ (some 24) _ = _
       simp only [Act.put, List.setIfInBounds_toArray, List.set_cons_zero, List.set_cons_succ, i64_w, i32_w]
       rfl
      exact norm_ (by simp only [putAll, Act.put, List.setIfInBounds_toArray, List.set_cons_zero, List.set_cons_succ]) (hCont (v117) _ ⟨(zR HO118), zB⟩)
     ·skip
      refine Kd.R_lit_step (Kd.int .u8) _ 5 ?hg (N := 23) ?hd (xs := ([(wrap64 (48 + (Int.tmod a0 10))) % 256] : List Int)) (inner := [.int .u8 ((wrap64 (48 + (Int.tmod a0 10))) % 256)]) (ok := fun _ => True) (okp := fun _ => True) ?hr ?hp (fun _ hk => hk) trivial (Below.refl _ _) (Nat.le_refl _) (by simp) ?_; (case hd => rfl); (case hg => rfl); (case hr => first | (go_simp; done) | (go_simp; rfl)); (case hp => exact (Reps.one (show Kd.M (Kd.int .u8) _ _ _ ((wrap64 (48 + (Int.tmod a0 10))) % 256) [.int .u8 ((wrap64 (48 + (Int.tmod a0 10))) % 256)] from rfl) (Reps.none _ _)))
      intro v117 w13 ho14 hb hg_ hnew_
      clear hg_ hnew_
      (first | rw [← Ny116.out] at ho14 | (simp only [Int.reduceToNat] at ho14; rw [← Ny116.out] at ho14))
      have n0_ := aM (Kd.R_lower ho14 (below_size zB))
      have n1_ := aM (below_step zB hb)
      clear HB
      have HO118 := n0_
      have HB := n1_
      clear n0_ n1_
      clear hb ho14
      refine hK.out _ _ trivial (fun hHeld => ?_)
      clear hK K
      refine norm_ (a' := ?_) ?_ ?_
      rotate_left
      ·show Act.put _ (some 23) _ = _
       simp only [Act.put, List.setIfInBounds_toArray, List.set_cons_zero, List.set_cons_succ, i64_w, i32_w]
       rfl
      refine two_ (i := 2) (j := 8) (Ni := some 18) (Nj := some 24) #[true, true, true, true, true, true, true, true, false, false, false] #[true, true, false, true, true, true, true, true, true, false, false] rfl rfl rfl rfl (two_of HT_.out zK) (by decide) (by decide) (fun K hK => ?_) (fun K hK => ?_)
      ·skip
       refine goes_ Tryd.func45 zK rfl #[.int .i64 (wrap64 (Int.tdiv a0 10))] (by rfl) rfl rfl zM ?_
       with_reducible refine (ih k (by omega) (wrap64 (Int.tdiv a0 10)) t115 _ A10.out).mono ?_
       rintro e w15 ⟨rfl, hb⟩
       refine ⟨_, rfl, ?_⟩
       have n0_ := aM (Kd.R_below (zR HO118) hb)
       have n1_ := aM (below_step zB hb)
       clear HO118
       clear HB
       have HO118 := n0_
       have HB := n1_
       clear n0_ n1_
       (try clear hb)
       (try clear hb2)
       (try clear hk)
       (try clear hi)
       refine hK.out _ _ trivial (fun hHeld => ?_)
       clear hK K
       refine norm_ (a' := ?_) ?_ ?_
       rotate_left
       ·show Act.put _ (some 18) _ = _
        simp only [Act.put, List.setIfInBounds_toArray, List.set_cons_zero, List.set_cons_succ, i64_w, i32_w]
        rfl
       refine one_ (i := 8) (N := some 24) #[true, true, true, true, true, true, true, true, true, false, false] rfl rfl (one_of HT_.out zK) (by decide) (fun K hK => ?_)
       have hcv16 := own_string (P := Tryd.prog) Tryd.underlying59 Tryd.underlying5 Tryd.underlying9 (Kd.own_of_R HO118.out)
       refine value_ (w1 := ?_) (v := ?_) (by rfl) rfl ?_ ?_
       rotate_left 2
       ·go_simp
        constructor
        ·rfl
        ·rfl
       clear hcv16
       refine hK.out _ _ trivial (fun hHeld => ?_)
       clear hK K
       refine norm_ (a' := ?_) ?_ ?_
       rotate_left
       ·show Act.put _ (some 24) _ = _
        simp only [Act.put, List.setIfInBounds_toArray, List.set_cons_zero, List.set_cons_succ, i64_w, i32_w]
        rfl
       exact norm_ (by simp only [putAll, Act.put, List.setIfInBounds_toArray, List.set_cons_zero, List.set_cons_succ]) (hCont (v117) _ ⟨(zR HO118), zB⟩)
      ·skip
       have hcv15 := own_string (P := Tryd.prog) Tryd.underlying59 Tryd.underlying5 Tryd.underlying9 (Kd.own_of_R HO118.out)
       refine value_ (w1 := ?_) (v := ?_) (by rfl) rfl ?_ ?_
       rotate_left 2
       ·go_simp
        constructor
        ·rfl
        ·rfl
       clear hcv15
       refine hK.out _ _ trivial (fun hHeld => ?_)
       clear hK K
       refine norm_ (a' := ?_) ?_ ?_
       rotate_left
       ·show Act.put _ (some 24) _ = _
        simp only [Act.put, List.setIfInBounds_toArray, List.set_cons_zero, List.set_cons_succ, i64_w, i32_w]
        rfl
       refine one_ (i := 2) (N := some 18) #[true, true, true, true, true, true, true, true, true, false, false] rfl rfl (one_of HT_.out zK) (by decide) (fun K hK => ?_)
       refine goes_ Tryd.func45 zK rfl #[.int .i64 (wrap64 (Int.tdiv a0 10))] (by rfl) rfl rfl zM ?_
       with_reducible refine (ih k (by omega) (wrap64 (Int.tdiv a0 10)) t115 _ A10.out).mono ?_
       rintro e w16 ⟨rfl, hb⟩
       refine ⟨_, rfl, ?_⟩
       have n0_ := aM (Kd.R_below (zR HO118) hb)
       have n1_ := aM (below_step zB hb)
       clear HO118
       clear HB
       have HO118 := n0_
       have HB := n1_
       clear n0_ n1_
       (try clear hb)
       (try clear hb2)
       (try clear hk)
       (try clear hi)
       refine hK.out _ _ trivial (fun hHeld => ?_)
       clear hK K
       refine norm_ (a' := ?_) ?_ ?_
       rotate_left
       ·show Act.put _ (some 18) _ = _
        simp only [Act.put, List.setIfInBounds_toArray, List.set_cons_zero, List.set_cons_succ, i64_w, i32_w]
        rfl
       exact norm_ (by simp only [putAll, Act.put, List.setIfInBounds_toArray, List.set_cons_zero, List.set_cons_succ]) (hCont (v117) _ ⟨(zR HO118), zB⟩)
    rintro v117 w17 ⟨h0_, h1_⟩
    have n0_ : Aside0 (Kd.R (Kd.int .u8) 5 w17 w.heap.size (fun _ => True) v117 y116) := ⟨h0_⟩
    have n1_ : Aside0 (Below w.heap.size w w17) := ⟨h1_⟩
    clear HB
    clear h0_ h1_
    have HO118 := n0_
    have HB := n1_
    clear n0_ n1_
    have hHeld := trivial
    refine norm_ (a' := ?_) ?_ ?_
    rotate_left
    ·simp only [putAll, Act.put, List.setIfInBounds_toArray, List.set_cons_zero, List.set_cons_succ]
     rfl
    refine pure_ (i := 9) (N := some 25) (v := ?_) (a' := ?_) #[true, true, true, true, true, true, true, true, true, true, false] rfl rfl (any_of HT_.out zK) (fun _ _ _ h => h) (Or.inl ⟨by rfl, ?_⟩) ?_ ?_
    rotate_left
    ·intro w'
     go_simp
     with_reducible rfl
    rotate_left
    ·simp only [Act.put, List.setIfInBounds_toArray, List.set_cons_zero, List.set_cons_succ, i64_w, i32_w]
     rfl
    refine pure_ (i := 10) (N := some 2) (v := ?_) (a' := ?_) #[true, true, true, true, true, true, true, true, true, true, true] rfl rfl (any_of HT_.out zK) (fun _ _ _ h => h) (Or.inl ⟨by rfl, ?_⟩) ?_ ?_
    rotate_left
    ·intro w'
     go_simp
     with_reducible rfl
    rotate_left
    ·simp only [Act.put, List.setIfInBounds_toArray, List.set_cons_zero, List.set_cons_succ, i64_w, i32_w]
     rfl
    refine done_ (done_of HT_.out zK) ?_
    try go_wp2
    go_ret
    exact ⟨zE, zB⟩
   ·rw [if_neg c11] at H
    exact absurd H (by simp)

/-! ### toponymref14_Text: function 31 -/
def toponymref14_Text.f (k : Nat) (a0 : Int) (a1 : Int) : Option (ByteArray) := if a1 = 0 then ((toponymref14_digits.f k a0).bind fun t119 => (some t119)) else (if a0 = 0 then ((toponymref14_digits.f k a1).bind fun t120 => (if t120.size + 1 ≤ 9223372036854775807 then (some (t120 ++ (⟨#[105]⟩ : ByteArray))) else (none))) else (if a1 > 0 then ((toponymref14_digits.f k a0).bind fun t121 => (if t121.size + 1 ≤ 9223372036854775807 then ((toponymref14_digits.f k a1).bind fun t122 => (if (t121 ++ (⟨#[43]⟩ : ByteArray)).size + t122.size ≤ 9223372036854775807 then (if ((t121 ++ (⟨#[43]⟩ : ByteArray)) ++ t122).size + 1 ≤ 9223372036854775807 then (some (((t121 ++ (⟨#[43]⟩ : ByteArray)) ++ t122) ++ (⟨#[105]⟩ : ByteArray))) else (none)) else (none))) else (none))) else ((toponymref14_digits.f k a0).bind fun t123 => ((toponymref14_digits.f k a1).bind fun t124 => (if t123.size + t124.size ≤ 9223372036854775807 then (if (t123 ++ t124).size + 1 ≤ 9223372036854775807 then (some ((t123 ++ t124) ++ (⟨#[105]⟩ : ByteArray))) else (none)) else (none))))))
theorem toponymref14_Text.mono : ∀ a0 a1 k, LeO (toponymref14_Text.f k a0 a1) (toponymref14_Text.f (k + 1) a0 a1) := by
 intro a0 a1 k
 unfold toponymref14_Text.f
 repeat' first
   | (with_reducible exact toponymref14_digits.mono _ _)
   | (with_reducible exact LeO.refl _)
   | exact toponymref14_digits.mono _ _
   | exact LeO.none _
   | refine LeO.ite ?_ ?_
   | refine LeO.bind ?_ (fun _ => ?_)
set_option maxHeartbeats 8000000 in
set_option maxRecDepth 100000 in
theorem toponymref14_Text.calls (k : Nat) (a0 : Int) (a1 : Int) (r : ByteArray) (w : World) (h : toponymref14_Text.f k a0 a1 = some r) :
  Calls Tryd.prog 31 #[.int .i64 a0, .int .i64 a1] w fun e w' => e = .returned (.string r) ∧ Below w.heap.size w w' := by
 have HB := aM (Below.refl w.heap.size w)
 have H := h
 clear h
 unfold toponymref14_Text.f at H
 by_cases c3 : a1 = 0
 ·rw [if_pos c3] at H
  have c3b0 : (a1 == 0) = true := beq_iff_eq.mpr c3
  have c3b1 : (a1 != 0) = false := bne_eq_false_iff_eq.mpr c3
  clear c3
  obtain ⟨t119, A4, H⟩ := zO H
  obtain rfl := sI H
  go_enter Tryd.func31, Tryd.ntmps31
  go_wp2_with (first | ((with_reducible refine gate_callee (f := 45) rfl ?_); refine goesL_ (some 9) rfl rfl Tryd.func45 zK rfl #[.int .i64 a0] rfl zM ?_; (with_reducible refine (toponymref14_digits.calls k a0 t119 _ A4.out).mono ?_); rintro e w5 ⟨rfl, hb⟩; (try clear A4); refine ⟨_, rfl, ?_⟩; replace HB := aM (below_step zB hb); (try clear hb)))
  go_ret
  exact ⟨zE, zB⟩
 ·rw [if_neg c3] at H
  have c3b0 : (a1 == 0) = false := beq_eq_false_iff_ne.mpr c3
  have c3b1 : (a1 != 0) = true := bne_iff_ne.mpr c3
  by_cases c6 : a0 = 0
  ·rw [if_pos c6] at H
   have c6b0 : (a0 == 0) = true := beq_iff_eq.mpr c6
   have c6b1 : (a0 != 0) = false := bne_eq_false_iff_eq.mpr c6
   clear c6
   obtain ⟨t120, A7, H⟩ := zO H
   by_cases c8 : t120.size + 1 ≤ 9223372036854775807
   ·rw [if_pos c8] at H
    have c8b0 := eq_true c8
    have c8b1 : decide (t120.size + 1 ≤ 9223372036854775807) = true := decide_eq_true c8
    try have c8b2 : (9223372036854775807 < t120.size + 1) = False := eq_false (Nat.not_lt.2 c8)
    obtain rfl := sI H
    go_enter Tryd.func31, Tryd.ntmps31
    go_wp2_with (first | ((with_reducible refine gate_callee (f := 45) rfl ?_); refine goesL_ (some 14) rfl rfl Tryd.func45 zK rfl #[.int .i64 a1] rfl zM ?_; (with_reducible refine (toponymref14_digits.calls k a1 t120 _ A7.out).mono ?_); rintro e w9 ⟨rfl, hb⟩; (try clear A7); refine ⟨_, rfl, ?_⟩; replace HB := aM (below_step zB hb); (try clear hb)))
    go_ret
    exact ⟨zE, zB⟩
   ·rw [if_neg c8] at H
    exact absurd H (by simp)
  ·rw [if_neg c6] at H
   have c6b0 : (a0 == 0) = false := beq_eq_false_iff_ne.mpr c6
   have c6b1 : (a0 != 0) = true := bne_iff_ne.mpr c6
   by_cases c10 : a1 > 0
   ·rw [if_pos c10] at H
    have c10b0 : decide (0 < a1) = true := decide_eq_true c10
    clear c10
    obtain ⟨t121, A11, H⟩ := zO H
    by_cases c12 : t121.size + 1 ≤ 9223372036854775807
    ·rw [if_pos c12] at H
     have c12b0 := eq_true c12
     have c12b1 : decide (t121.size + 1 ≤ 9223372036854775807) = true := decide_eq_true c12
     try have c12b2 : (9223372036854775807 < t121.size + 1) = False := eq_false (Nat.not_lt.2 c12)
     obtain ⟨t122, A13, H⟩ := zO H
     by_cases c14 : (t121 ++ (⟨#[43]⟩ : ByteArray)).size + t122.size ≤ 9223372036854775807
     ·rw [if_pos c14] at H
      have c14b0 := eq_true c14
      try have c14b5 := eq_true (by have h_ := c14; simp only [ByteArray.size_append] at h_; exact h_ : t121.size + 1 + t122.size ≤ 9223372036854775807)
      try have c14b6 := decide_eq_true (by have h_ := c14; simp only [ByteArray.size_append] at h_; exact h_ : t121.size + 1 + t122.size ≤ 9223372036854775807)
      try have c14b7 := eq_false (Nat.not_lt.2 (by have h_ := c14; simp only [ByteArray.size_append] at h_; exact h_ : t121.size + 1 + t122.size ≤ 9223372036854775807))
      have c14b1 : decide ((t121 ++ (⟨#[43]⟩ : ByteArray)).size + t122.size ≤ 9223372036854775807) = true := decide_eq_true c14
      try have c14b2 : (9223372036854775807 < (t121 ++ (⟨#[43]⟩ : ByteArray)).size + t122.size) = False := eq_false (Nat.not_lt.2 c14)
      by_cases c15 : ((t121 ++ (⟨#[43]⟩ : ByteArray)) ++ t122).size + 1 ≤ 9223372036854775807
      ·rw [if_pos c15] at H
       have c15b0 := eq_true c15
       try have c15b5 := eq_true (by have h_ := c15; simp only [ByteArray.size_append] at h_; exact h_ : t121.size + 1 + t122.size + 1 ≤ 9223372036854775807)
       try have c15b6 := decide_eq_true (by have h_ := c15; simp only [ByteArray.size_append] at h_; exact h_ : t121.size + 1 + t122.size + 1 ≤ 9223372036854775807)
       try have c15b7 := eq_false (Nat.not_lt.2 (by have h_ := c15; simp only [ByteArray.size_append] at h_; exact h_ : t121.size + 1 + t122.size + 1 ≤ 9223372036854775807))
       have c15b1 : decide (((t121 ++ (⟨#[43]⟩ : ByteArray)) ++ t122).size + 1 ≤ 9223372036854775807) = true := decide_eq_true c15
       try have c15b2 : (9223372036854775807 < ((t121 ++ (⟨#[43]⟩ : ByteArray)) ++ t122).size + 1) = False := eq_false (Nat.not_lt.2 c15)
       obtain rfl := sI H
       go_enter Tryd.func31, Tryd.ntmps31
       go_wp2_with (first | ((with_reducible refine gate_callee (f := 45) rfl ?_); refine goesL_ (some 20) rfl rfl Tryd.func45 zK rfl #[.int .i64 a0] rfl zM ?_; (with_reducible refine (toponymref14_digits.calls k a0 t121 _ A11.out).mono ?_); rintro e w16 ⟨rfl, hb⟩; (try clear A11); refine ⟨_, rfl, ?_⟩; replace HB := aM (below_step zB hb); (try clear hb)) | ((with_reducible refine gate_callee (f := 45) rfl ?_); refine goesL_ (some 23) rfl rfl Tryd.func45 zK rfl #[.int .i64 a1] rfl zM ?_; (with_reducible refine (toponymref14_digits.calls k a1 t122 _ A13.out).mono ?_); rintro e w17 ⟨rfl, hb⟩; (try clear A13); refine ⟨_, rfl, ?_⟩; replace HB := aM (below_step zB hb); (try clear hb)))
       go_ret
       exact ⟨zE, zB⟩
      ·rw [if_neg c15] at H
       exact absurd H (by simp)
     ·rw [if_neg c14] at H
      exact absurd H (by simp)
    ·rw [if_neg c12] at H
     exact absurd H (by simp)
   ·rw [if_neg c10] at H
    have c10b0 : decide (0 < a1) = false := decide_eq_false c10
    clear c10
    obtain ⟨t123, A18, H⟩ := zO H
    obtain ⟨t124, A19, H⟩ := zO H
    by_cases c20 : t123.size + t124.size ≤ 9223372036854775807
    ·rw [if_pos c20] at H
     have c20b0 := eq_true c20
     have c20b1 : decide (t123.size + t124.size ≤ 9223372036854775807) = true := decide_eq_true c20
     try have c20b2 : (9223372036854775807 < t123.size + t124.size) = False := eq_false (Nat.not_lt.2 c20)
     by_cases c21 : (t123 ++ t124).size + 1 ≤ 9223372036854775807
     ·rw [if_pos c21] at H
      have c21b0 := eq_true c21
      try have c21b5 := eq_true (by have h_ := c21; simp only [ByteArray.size_append] at h_; exact h_ : t123.size + t124.size + 1 ≤ 9223372036854775807)
      try have c21b6 := decide_eq_true (by have h_ := c21; simp only [ByteArray.size_append] at h_; exact h_ : t123.size + t124.size + 1 ≤ 9223372036854775807)
      try have c21b7 := eq_false (Nat.not_lt.2 (by have h_ := c21; simp only [ByteArray.size_append] at h_; exact h_ : t123.size + t124.size + 1 ≤ 9223372036854775807))
      have c21b1 : decide ((t123 ++ t124).size + 1 ≤ 9223372036854775807) = true := decide_eq_true c21
      try have c21b2 : (9223372036854775807 < (t123 ++ t124).size + 1) = False := eq_false (Nat.not_lt.2 c21)
      obtain rfl := sI H
      go_enter Tryd.func31, Tryd.ntmps31
      go_wp2_with (first | ((with_reducible refine gate_callee (f := 45) rfl ?_); refine goesL_ (some 27) rfl rfl Tryd.func45 zK rfl #[.int .i64 a0] rfl zM ?_; (with_reducible refine (toponymref14_digits.calls k a0 t123 _ A18.out).mono ?_); rintro e w22 ⟨rfl, hb⟩; (try clear A18); refine ⟨_, rfl, ?_⟩; replace HB := aM (below_step zB hb); (try clear hb)) | ((with_reducible refine gate_callee (f := 45) rfl ?_); refine goesL_ (some 29) rfl rfl Tryd.func45 zK rfl #[.int .i64 a1] rfl zM ?_; (with_reducible refine (toponymref14_digits.calls k a1 t124 _ A19.out).mono ?_); rintro e w23 ⟨rfl, hb⟩; (try clear A19); refine ⟨_, rfl, ?_⟩; replace HB := aM (below_step zB hb); (try clear hb)))
      go_ret
      exact ⟨zE, zB⟩
     ·rw [if_neg c21] at H
      exact absurd H (by simp)
    ·rw [if_neg c20] at H
     exact absurd H (by simp)

/-! ### toponymref14_Show: function 11 -/
def toponymref14_Show.f (k : Nat) (a0_0 : Nat) (a0_1 : Nat) : Option (ByteArray × Int) := (toponymref14_Parts.f a0_0 a0_1).bind fun bt126 => (if bt126.2.2 = true then ((toponymref14_Text.f k bt126.1 bt126.2.1).bind fun t129 => (some (t129, 0))) else (some ((⟨#[]⟩ : ByteArray), 140)))
theorem toponymref14_Show.mono : ∀ a0 a1 k, LeO (toponymref14_Show.f k a0 a1) (toponymref14_Show.f (k + 1) a0 a1) := by
 intro a0 a1 k
 unfold toponymref14_Show.f
 repeat' first
   | (with_reducible exact toponymref14_Text.mono _ _ _)
   | (with_reducible exact LeO.refl _)
   | exact toponymref14_Text.mono _ _ _
   | exact LeO.none _
   | refine LeO.ite ?_ ?_
   | refine LeO.bind ?_ (fun _ => ?_)
set_option maxHeartbeats 8000000 in
set_option maxRecDepth 100000 in
theorem toponymref14_Show.calls (k : Nat) (a0_0 : Nat) (a0_1 : Nat) (r1 : ByteArray) (r2 : Int) (w : World) (h : toponymref14_Show.f k a0_0 a0_1 = some (r1, r2)) :
  Calls Tryd.prog 11 #[.agg #[.float .f64 a0_0, .float .f64 a0_1]] w fun e w' => e = .returned (.tuple #[.string r1, .int .i64 r2]) ∧ Below w.heap.size w w' := by
 have hu32 := Tryd.underlying32
 have HB := aM (Below.refl w.heap.size w)
 have H := h
 clear h
 unfold toponymref14_Show.f at H
 obtain ⟨⟨t126, t127, t128⟩, A2, H⟩ := zO H
 try dsimp only at H
 by_cases c3 : t128 = true
 ·subst c3
  rw [if_pos rfl] at H
  obtain ⟨t129, A4, H⟩ := zO H
  simp only [Option.some.injEq, Prod.mk.injEq] at H
  obtain ⟨rfl, rfl⟩ := H
  go_enter Tryd.func11, Tryd.ntmps11
  go_wp2_with (first | ((with_reducible refine gate_dst (N := 1) rfl ?_); refine box_event ?hg (N := 1) ?hd (cs := #[.float .f64 a0_0, .float .f64 a0_1]) (t := 32) ?hr ?_; (case hd => rfl); (case hg => rfl); (case hr => first | (go_simp; done) | (go_simp; rfl)); intro gb125 hg w5 hbox hb; have n_ := zI (aM (below_step zB hb)) (zI (aM (hbox)) (zI (aM ((by rw [hg]; exact (below_size zB) : w.heap.size ≤ gb125))) (aM ((by rw [hg]; exact (below_size zB) : w.heap.size ≤ gb125))))); clear HB; obtain ⟨HB, BK125, GW125, GE125⟩ := n_; clear hb hbox hg; have hcz6_0 : w5.cell? ⟨gb125, 0, none⟩ = some (.float .f64 a0_0) := (blk_cell BK125.out 0).trans rfl; have hcz6_1 : w5.cell? ⟨gb125, 1, none⟩ = some (.float .f64 a0_1) := (blk_cell BK125.out 1).trans rfl; have hfz6_0 := blk_frozen BK125.out 0; have hfz6_1 := blk_frozen BK125.out 1) | ((with_reducible refine gate_callee (f := 15) rfl ?_); refine goesL_ (some 9) rfl rfl Tryd.func15 zK rfl #[.agg #[.float .f64 a0_0, .float .f64 a0_1]] rfl zM ?_; (with_reducible refine (toponymref14_Parts.calls a0_0 a0_1 t126 t127 true _ A2.out).mono ?_); rintro e w7 ⟨rfl, hb⟩; refine ⟨_, rfl, ?_⟩; have n_ := zI (aM (blk_below (g := gb125) (o := .cells #[.float .f64 a0_0, .float .f64 a0_1] 32 (0, 0)) (by (with_reducible repeat (first | refine blk_drewN ?_ _ | refine blk_drew ?_ | refine blk_alloc ?_ _)); exact BK125.out) hb)) (aM (below_step (by repeat (first | (with_reducible first | exact HB.out | apply bA | apply bN | apply bD | refine below_set ?_ GE125.out) | exact HB.out)) hb)); clear BK125 HB; obtain ⟨BK125, HB⟩ := n_; (try clear hb)) | ((with_reducible refine gate_callee (f := 31) rfl ?_); refine goesL_ (some 17) rfl rfl Tryd.func31 zK rfl #[.int .i64 t126, .int .i64 t127] rfl zM ?_; (with_reducible refine (toponymref14_Text.calls k t126 t127 t129 _ A4.out).mono ?_); rintro e w8 ⟨rfl, hb⟩; refine ⟨_, rfl, ?_⟩; have n_ := zI (aM (blk_below (g := gb125) (o := .cells #[.float .f64 a0_0, .float .f64 a0_1] 32 (0, 0)) (by (with_reducible repeat (first | refine blk_drewN ?_ _ | refine blk_drew ?_ | refine blk_alloc ?_ _)); exact BK125.out) hb)) (aM (below_step (by repeat (first | (with_reducible first | exact HB.out | apply bA | apply bN | apply bD | refine below_set ?_ GE125.out) | exact HB.out)) hb)); clear BK125 HB; obtain ⟨BK125, HB⟩ := n_; (try clear hb)))
  go_ret2
  exact ⟨zE, by repeat (first | (with_reducible first | exact HB.out | apply bA | apply bN | apply bD | refine below_set ?_ GE125.out) | exact HB.out)⟩
 ·replace c3 := Bool.eq_false_iff.mpr c3
  subst c3
  rw [if_neg (show ¬ (false = true) by decide)] at H
  simp only [Option.some.injEq, Prod.mk.injEq] at H
  obtain ⟨rfl, rfl⟩ := H
  go_enter Tryd.func11, Tryd.ntmps11
  go_wp2_with (first | ((with_reducible refine gate_dst (N := 1) rfl ?_); refine box_event ?hg (N := 1) ?hd (cs := #[.float .f64 a0_0, .float .f64 a0_1]) (t := 32) ?hr ?_; (case hd => rfl); (case hg => rfl); (case hr => first | (go_simp; done) | (go_simp; rfl)); intro gb125 hg w9 hbox hb; have n_ := zI (aM (below_step zB hb)) (zI (aM (hbox)) (zI (aM ((by rw [hg]; exact (below_size zB) : w.heap.size ≤ gb125))) (aM ((by rw [hg]; exact (below_size zB) : w.heap.size ≤ gb125))))); clear HB; obtain ⟨HB, BK125, GW125, GE125⟩ := n_; clear hb hbox hg; have hcz10_0 : w9.cell? ⟨gb125, 0, none⟩ = some (.float .f64 a0_0) := (blk_cell BK125.out 0).trans rfl; have hcz10_1 : w9.cell? ⟨gb125, 1, none⟩ = some (.float .f64 a0_1) := (blk_cell BK125.out 1).trans rfl; have hfz10_0 := blk_frozen BK125.out 0; have hfz10_1 := blk_frozen BK125.out 1) | ((with_reducible refine gate_callee (f := 15) rfl ?_); refine goesL_ (some 9) rfl rfl Tryd.func15 zK rfl #[.agg #[.float .f64 a0_0, .float .f64 a0_1]] rfl zM ?_; (with_reducible refine (toponymref14_Parts.calls a0_0 a0_1 t126 t127 false _ A2.out).mono ?_); rintro e w11 ⟨rfl, hb⟩; refine ⟨_, rfl, ?_⟩; have n_ := zI (aM (blk_below (g := gb125) (o := .cells #[.float .f64 a0_0, .float .f64 a0_1] 32 (0, 0)) (by (with_reducible repeat (first | refine blk_drewN ?_ _ | refine blk_drew ?_ | refine blk_alloc ?_ _)); exact BK125.out) hb)) (aM (below_step (by repeat (first | (with_reducible first | exact HB.out | apply bA | apply bN | apply bD | refine below_set ?_ GE125.out) | exact HB.out)) hb)); clear BK125 HB; obtain ⟨BK125, HB⟩ := n_; (try clear hb)))
  go_ret2
  exact ⟨zE, by repeat (first | (with_reducible first | exact HB.out | apply bA | apply bN | apply bD | refine below_set ?_ GE125.out) | exact HB.out)⟩

/-! ### toponymlaw14_Two_r: function 12 -/
def toponymlaw14_Two_r.f (a0_0 : Nat) (a0_1 : Nat) : Option (Nat × Nat) := some (a0_0, a0_1)
set_option maxHeartbeats 8000000 in
set_option maxRecDepth 100000 in
theorem toponymlaw14_Two_r.calls (a0_0 : Nat) (a0_1 : Nat) (r1 : Nat) (r2 : Nat) (w : World) (h : toponymlaw14_Two_r.f a0_0 a0_1 = some (r1, r2)) :
  Calls Tryd.prog 12 #[.agg #[.float .f64 a0_0, .float .f64 a0_1]] w fun e w' => e = .returned (.agg #[.float .f64 r1, .float .f64 r2]) ∧ Below w.heap.size w w' := by
 have hu24 := Tryd.underlying24
 have hu32 := Tryd.underlying32
 have HB := aM (Below.refl w.heap.size w)
 have H := h
 clear h
 unfold toponymlaw14_Two_r.f at H
 simp only [Option.some.injEq, Prod.mk.injEq] at H
 obtain ⟨rfl, rfl⟩ := H
 go_enter Tryd.func12, Tryd.ntmps12
 go_wp2_with (first | ((with_reducible refine gate_dst (N := 1) rfl ?_); refine box_event ?hg (N := 1) ?hd (cs := #[.float .f64 a0_0, .float .f64 a0_1]) (t := 24) ?hr ?_; (case hd => rfl); (case hg => rfl); (case hr => first | (go_simp; done) | (go_simp; rfl)); intro gb130 hg w2 hbox hb; have n_ := zI (aM (below_step zB hb)) (zI (aM (hbox)) (zI (aM ((by rw [hg]; exact (below_size zB) : w.heap.size ≤ gb130))) (aM ((by rw [hg]; exact (below_size zB) : w.heap.size ≤ gb130))))); clear HB; obtain ⟨HB, BK130, GW130, GE130⟩ := n_; clear hb hbox hg) | ((with_reducible refine gate_dst (N := 2) rfl ?_); refine box_event ?hg (N := 2) ?hd (cs := #[.float .f64 0, .float .f64 0]) (t := 32) ?hr ?_; (case hd => rfl); (case hg => rfl); (case hr => first | (go_simp; done) | (go_simp; rfl)); intro gb131 hg w3 hbox hb; have n_ := zI (aM (blk_below (g := gb130) (o := .cells #[.float .f64 a0_0, .float .f64 a0_1] 24 (0, 0)) (by (with_reducible repeat (first | refine blk_drewN ?_ _ | refine blk_drew ?_ | refine blk_alloc ?_ _)); exact BK130.out) hb)) (zI (aM (below_step (by repeat (first | (with_reducible first | exact HB.out | apply bA | apply bN | apply bD | refine below_set ?_ GE130.out) | exact HB.out)) hb)) (zI (aM (hbox)) (zI (aM ((by rw [hg]; exact (below_size (by repeat (first | (with_reducible first | exact HB.out | apply bA | apply bN | apply bD | refine below_set ?_ GE130.out) | exact HB.out))) : w.heap.size ≤ gb131))) (zI (aM ((by rw [hg]; exact (below_size (by repeat (first | (with_reducible first | exact HB.out | apply bA | apply bN | apply bD | refine below_set ?_ GE130.out) | exact HB.out))) : w.heap.size ≤ gb131))) (zI (aM ((by rw [hg]; exact Nat.ne_of_lt (blk_lt (g := gb130) (o := .cells #[.float .f64 a0_0, .float .f64 a0_1] 24 (0, 0)) (by (with_reducible repeat (first | refine blk_drewN ?_ _ | refine blk_drew ?_ | refine blk_alloc ?_ _)); exact BK130.out)) : gb130 ≠ gb131))) (aM ((by rw [hg]; exact Nat.ne_of_gt (blk_lt (g := gb130) (o := .cells #[.float .f64 a0_0, .float .f64 a0_1] 24 (0, 0)) (by (with_reducible repeat (first | refine blk_drewN ?_ _ | refine blk_drew ?_ | refine blk_alloc ?_ _)); exact BK130.out)) : gb131 ≠ gb130)))))))); clear BK130 HB; obtain ⟨BK130, HB, BK131, GW131, GE131, NB130_131, NB131_130⟩ := n_; clear hb hbox hg; have hnb4 := NB130_131.out; have hnc4 := NB131_130.out; have hcz5_0 : w3.cell? ⟨gb130, 0, none⟩ = some (.float .f64 a0_0) := (blk_cell BK130.out 0).trans rfl; have hcz5_1 : w3.cell? ⟨gb130, 1, none⟩ = some (.float .f64 a0_1) := (blk_cell BK130.out 1).trans rfl; have hfz5_0 := blk_frozen BK130.out 0; have hfz5_1 := blk_frozen BK130.out 1; have hcz6_0 : w3.cell? ⟨gb131, 0, none⟩ = some (.float .f64 0) := (blk_cell BK131.out 0).trans rfl; have hcz6_1 : w3.cell? ⟨gb131, 1, none⟩ = some (.float .f64 0) := (blk_cell BK131.out 1).trans rfl; have hfz6_0 := blk_frozen BK131.out 0; have hfz6_1 := blk_frozen BK131.out 1))
 refine bodyPost_ret (results_cell_row rfl _ _ gb131 32 #[.float .f64 a0_0, .float .f64 a0_1] (0, 0) _ rfl (by (with_reducible repeat (first | refine blk_drewN ?_ _ | refine blk_drew ?_ | refine blk_alloc ?_ _)); refine blk_put (cs := #[.float .f64 a0_0, .float .f64 0]) ?_ 1 _ rfl; (with_reducible repeat (first | refine blk_drewN ?_ _ | refine blk_drew ?_ | refine blk_alloc ?_ _)); refine blk_put (cs := #[.float .f64 0, .float .f64 0]) ?_ 0 _ rfl; (with_reducible repeat (first | refine blk_drewN ?_ _ | refine blk_drew ?_ | refine blk_alloc ?_ _)); exact BK131.out) Tryd.underlying32 rfl zK) rfl ?_
 exact ⟨zE, by repeat (first | (with_reducible first | exact HB.out | apply bA | apply bN | apply bD | refine below_set ?_ GE130.out | refine below_set ?_ GE131.out) | exact HB.out)⟩

/-! ### gauss_whole: function 32 -/
def gauss_whole.f (a0 : Int) (a1 : Int) : Option ((Nat × Nat)) := some (Go.floatOfInt .f64 a0, Go.floatOfInt .f64 a1)
set_option maxHeartbeats 8000000 in
set_option maxRecDepth 100000 in
theorem gauss_whole.calls (a0 : Int) (a1 : Int) (r : (Nat × Nat)) (w : World) (h : gauss_whole.f a0 a1 = some r) :
  Calls Tryd.prog 32 #[.int .i64 a0, .int .i64 a1] w fun e w' => e = .returned (.complex .f64 r.1 r.2) ∧ Below w.heap.size w w' := by
 have HB := aM (Below.refl w.heap.size w)
 have H := h
 clear h
 unfold gauss_whole.f at H
 obtain rfl := sI H
 go_enter Tryd.func32, Tryd.ntmps32
 go_wp2
 go_ret
 exact ⟨zE, zB⟩

/-! ### gauss_Turn: function 13 -/
def gauss_Turn.f (a0 : (Nat × Nat)) (a1 : Int) : Option ((Nat × Nat) × Int) := (gauss_parts.f a0).bind fun bt132 => (if bt132.2.2 = true then (if (Int.tmod (wrap64 ((Int.tmod a1 4) + 4)) 4) = 1 then ((gauss_whole.f (wrap64 (-bt132.2.1)) bt132.1).bind fun t135 => (some (t135, 0))) else (if (Int.tmod (wrap64 ((Int.tmod a1 4) + 4)) 4) = 2 then ((gauss_whole.f (wrap64 (-bt132.1)) (wrap64 (-bt132.2.1))).bind fun t136 => (some (t136, 0))) else (if (Int.tmod (wrap64 ((Int.tmod a1 4) + 4)) 4) = 3 then ((gauss_whole.f bt132.2.1 (wrap64 (-bt132.1))).bind fun t137 => (some (t137, 0))) else ((gauss_whole.f bt132.1 bt132.2.1).bind fun t138 => (some (t138, 0)))))) else (some ((0, 0), 140)))
set_option maxHeartbeats 8000000 in
set_option maxRecDepth 100000 in
theorem gauss_Turn.calls (a0 : (Nat × Nat)) (a1 : Int) (r1 : (Nat × Nat)) (r2 : Int) (w : World) (h : gauss_Turn.f a0 a1 = some (r1, r2)) :
  Calls Tryd.prog 13 #[.complex .f64 a0.1 a0.2, .int .i64 a1] w fun e w' => e = .returned (.tuple #[.complex .f64 r1.1 r1.2, .int .i64 r2]) ∧ Below w.heap.size w w' := by
 have HB := aM (Below.refl w.heap.size w)
 have H := h
 clear h
 unfold gauss_Turn.f at H
 obtain ⟨⟨t132, t133, t134⟩, A3, H⟩ := zO H
 try dsimp only at H
 by_cases c4 : t134 = true
 ·subst c4
  rw [if_pos rfl] at H
  by_cases c5 : (Int.tmod (wrap64 ((Int.tmod a1 4) + 4)) 4) = 1
  ·rw [if_pos c5] at H
   have c5b0 : ((Int.tmod (wrap64 ((Int.tmod a1 4) + 4)) 4) == 1) = true := beq_iff_eq.mpr c5
   have c5b1 : ((Int.tmod (wrap64 ((Int.tmod a1 4) + 4)) 4) != 1) = false := bne_eq_false_iff_eq.mpr c5
   clear c5
   obtain ⟨t135, A6, H⟩ := zO H
   simp only [Option.some.injEq, Prod.mk.injEq] at H
   obtain ⟨rfl, rfl⟩ := H
   go_enter Tryd.func13, Tryd.ntmps13
   go_wp2_with (first | ((with_reducible refine gate_callee (f := 27) rfl ?_); refine goesL_ (some 11) rfl rfl Tryd.func27 zK rfl #[.complex .f64 a0.1 a0.2] rfl zM ?_; (with_reducible refine (gauss_parts.calls a0 t132 t133 true _ A3.out).mono ?_); rintro e w7 ⟨rfl, hb⟩; refine ⟨_, rfl, ?_⟩; replace HB := aM (below_step zB hb); (try clear hb)) | ((with_reducible refine gate_callee (f := 32) rfl ?_); refine goesL_ (some 26) rfl rfl Tryd.func32 zK rfl #[.int .i64 (wrap64 (-t133)), .int .i64 t132] rfl zM ?_; (with_reducible refine (gauss_whole.calls (wrap64 (-t133)) t132 t135 _ A6.out).mono ?_); rintro e w8 ⟨rfl, hb⟩; (try clear A6); refine ⟨_, rfl, ?_⟩; replace HB := aM (below_step zB hb); (try clear hb)))
   go_ret2
   exact ⟨zE, zB⟩
  ·rw [if_neg c5] at H
   have c5b0 : ((Int.tmod (wrap64 ((Int.tmod a1 4) + 4)) 4) == 1) = false := beq_eq_false_iff_ne.mpr c5
   have c5b1 : ((Int.tmod (wrap64 ((Int.tmod a1 4) + 4)) 4) != 1) = true := bne_iff_ne.mpr c5
   by_cases c9 : (Int.tmod (wrap64 ((Int.tmod a1 4) + 4)) 4) = 2
   ·rw [if_pos c9] at H
    have c9b0 : ((Int.tmod (wrap64 ((Int.tmod a1 4) + 4)) 4) == 2) = true := beq_iff_eq.mpr c9
    have c9b1 : ((Int.tmod (wrap64 ((Int.tmod a1 4) + 4)) 4) != 2) = false := bne_eq_false_iff_eq.mpr c9
    clear c9
    obtain ⟨t136, A10, H⟩ := zO H
    simp only [Option.some.injEq, Prod.mk.injEq] at H
    obtain ⟨rfl, rfl⟩ := H
    go_enter Tryd.func13, Tryd.ntmps13
    go_wp2_with (first | ((with_reducible refine gate_callee (f := 27) rfl ?_); refine goesL_ (some 11) rfl rfl Tryd.func27 zK rfl #[.complex .f64 a0.1 a0.2] rfl zM ?_; (with_reducible refine (gauss_parts.calls a0 t132 t133 true _ A3.out).mono ?_); rintro e w11 ⟨rfl, hb⟩; refine ⟨_, rfl, ?_⟩; replace HB := aM (below_step zB hb); (try clear hb)) | ((with_reducible refine gate_callee (f := 32) rfl ?_); refine goesL_ (some 33) rfl rfl Tryd.func32 zK rfl #[.int .i64 (wrap64 (-t132)), .int .i64 (wrap64 (-t133))] rfl zM ?_; (with_reducible refine (gauss_whole.calls (wrap64 (-t132)) (wrap64 (-t133)) t136 _ A10.out).mono ?_); rintro e w12 ⟨rfl, hb⟩; (try clear A10); refine ⟨_, rfl, ?_⟩; replace HB := aM (below_step zB hb); (try clear hb)))
    go_ret2
    exact ⟨zE, zB⟩
   ·rw [if_neg c9] at H
    have c9b0 : ((Int.tmod (wrap64 ((Int.tmod a1 4) + 4)) 4) == 2) = false := beq_eq_false_iff_ne.mpr c9
    have c9b1 : ((Int.tmod (wrap64 ((Int.tmod a1 4) + 4)) 4) != 2) = true := bne_iff_ne.mpr c9
    by_cases c13 : (Int.tmod (wrap64 ((Int.tmod a1 4) + 4)) 4) = 3
    ·rw [if_pos c13] at H
     have c13b0 : ((Int.tmod (wrap64 ((Int.tmod a1 4) + 4)) 4) == 3) = true := beq_iff_eq.mpr c13
     have c13b1 : ((Int.tmod (wrap64 ((Int.tmod a1 4) + 4)) 4) != 3) = false := bne_eq_false_iff_eq.mpr c13
     clear c13
     obtain ⟨t137, A14, H⟩ := zO H
     simp only [Option.some.injEq, Prod.mk.injEq] at H
     obtain ⟨rfl, rfl⟩ := H
     go_enter Tryd.func13, Tryd.ntmps13
     go_wp2_with (first | ((with_reducible refine gate_callee (f := 27) rfl ?_); refine goesL_ (some 11) rfl rfl Tryd.func27 zK rfl #[.complex .f64 a0.1 a0.2] rfl zM ?_; (with_reducible refine (gauss_parts.calls a0 t132 t133 true _ A3.out).mono ?_); rintro e w15 ⟨rfl, hb⟩; refine ⟨_, rfl, ?_⟩; replace HB := aM (below_step zB hb); (try clear hb)) | ((with_reducible refine gate_callee (f := 32) rfl ?_); refine goesL_ (some 39) rfl rfl Tryd.func32 zK rfl #[.int .i64 t133, .int .i64 (wrap64 (-t132))] rfl zM ?_; (with_reducible refine (gauss_whole.calls t133 (wrap64 (-t132)) t137 _ A14.out).mono ?_); rintro e w16 ⟨rfl, hb⟩; (try clear A14); refine ⟨_, rfl, ?_⟩; replace HB := aM (below_step zB hb); (try clear hb)))
     go_ret2
     exact ⟨zE, zB⟩
    ·rw [if_neg c13] at H
     have c13b0 : ((Int.tmod (wrap64 ((Int.tmod a1 4) + 4)) 4) == 3) = false := beq_eq_false_iff_ne.mpr c13
     have c13b1 : ((Int.tmod (wrap64 ((Int.tmod a1 4) + 4)) 4) != 3) = true := bne_iff_ne.mpr c13
     obtain ⟨t138, A17, H⟩ := zO H
     simp only [Option.some.injEq, Prod.mk.injEq] at H
     obtain ⟨rfl, rfl⟩ := H
     go_enter Tryd.func13, Tryd.ntmps13
     go_wp2_with (first | ((with_reducible refine gate_callee (f := 27) rfl ?_); refine goesL_ (some 11) rfl rfl Tryd.func27 zK rfl #[.complex .f64 a0.1 a0.2] rfl zM ?_; (with_reducible refine (gauss_parts.calls a0 t132 t133 true _ A3.out).mono ?_); rintro e w18 ⟨rfl, hb⟩; refine ⟨_, rfl, ?_⟩; replace HB := aM (below_step zB hb); (try clear hb)) | ((with_reducible refine gate_callee (f := 32) rfl ?_); refine goesL_ (some 42) rfl rfl Tryd.func32 zK rfl #[.int .i64 t132, .int .i64 t133] rfl zM ?_; (with_reducible refine (gauss_whole.calls t132 t133 t138 _ A17.out).mono ?_); rintro e w19 ⟨rfl, hb⟩; (try clear A17); refine ⟨_, rfl, ?_⟩; replace HB := aM (below_step zB hb); (try clear hb)))
     go_ret2
     exact ⟨zE, zB⟩
 ·replace c4 := Bool.eq_false_iff.mpr c4
  subst c4
  rw [if_neg (show ¬ (false = true) by decide)] at H
  simp only [Option.some.injEq, Prod.mk.injEq] at H
  obtain ⟨rfl, rfl⟩ := H
  go_enter Tryd.func13, Tryd.ntmps13
  go_wp2_with (first | ((with_reducible refine gate_callee (f := 27) rfl ?_); refine goesL_ (some 11) rfl rfl Tryd.func27 zK rfl #[.complex .f64 a0.1 a0.2] rfl zM ?_; (with_reducible refine (gauss_parts.calls a0 t132 t133 false _ A3.out).mono ?_); rintro e w20 ⟨rfl, hb⟩; refine ⟨_, rfl, ?_⟩; replace HB := aM (below_step zB hb); (try clear hb)))
  go_ret2
  exact ⟨zE, zB⟩

/-! ### toponymref14_Turn: function 14 -/
mutual
def toponymref14_Turn.j0 : Nat → Int → Int → Int → Option (Int × Int × Int)
 | 0, _, _, _ => none
 | k + 1, x7, x8, x10 => toponymref14_Turn.l0 k x7 x8 x10
def toponymref14_Turn.l0 : Nat → Int → Int → Int → Option (Int × Int × Int)
 | 0, _, _, _ => none
 | k + 1, x7, x8, x10 => if x10 > 0 then (toponymref14_Turn.l0 k (wrap64 (-x8)) x7 (wrap64 (x10 - 1))) else (some (x7, x8, 0))
end
def toponymref14_Turn.f (k : Nat) (a0_0 : Nat) (a0_1 : Nat) (a1 : Int) : Option (Int × Int × Int) := (toponymref14_Parts.f a0_0 a0_1).bind fun bt140 => (if bt140.2.2 = true then (if (Int.tmod a1 4) < 0 then (toponymref14_Turn.j0 k bt140.1 bt140.2.1 (wrap64 ((Int.tmod a1 4) + 4))) else (toponymref14_Turn.j0 k bt140.1 bt140.2.1 (Int.tmod a1 4))) else (some (0, 0, 140)))
theorem toponymref14_Turn.mono_l : ∀ k, (∀ y0 y1 y2, LeO (toponymref14_Turn.j0 k y0 y1 y2) (toponymref14_Turn.j0 (k + 1) y0 y1 y2)) ∧ (∀ y0 y1 y2, LeO (toponymref14_Turn.l0 k y0 y1 y2) (toponymref14_Turn.l0 (k + 1) y0 y1 y2))
 | 0 => ⟨fun _ _ _ r h => by simp [toponymref14_Turn.j0] at h, fun _ _ _ r h => by simp [toponymref14_Turn.l0] at h⟩
 | k + 1 => by
  obtain ⟨ih0, ih1⟩ := toponymref14_Turn.mono_l k
  refine ⟨?_, ?_⟩
  ·intro y0 y1 y2
   unfold toponymref14_Turn.j0
   repeat' first
   | (with_reducible exact ih0 _ _ _)
   | (with_reducible exact ih1 _ _ _)
   | (with_reducible exact LeO.refl _)
   | exact ih0 _ _ _
   | exact ih1 _ _ _
   | exact LeO.none _
   | refine LeO.ite ?_ ?_
   | refine LeO.bind ?_ (fun _ => ?_)
  ·intro y0 y1 y2
   unfold toponymref14_Turn.l0
   repeat' first
   | (with_reducible exact ih0 _ _ _)
   | (with_reducible exact ih1 _ _ _)
   | (with_reducible exact LeO.refl _)
   | exact ih0 _ _ _
   | exact ih1 _ _ _
   | exact LeO.none _
   | refine LeO.ite ?_ ?_
   | refine LeO.bind ?_ (fun _ => ?_)
theorem toponymref14_Turn.mono : ∀ a0 a1 a2 k, LeO (toponymref14_Turn.f k a0 a1 a2) (toponymref14_Turn.f (k + 1) a0 a1 a2) := by
 intro a0 a1 a2 k
 obtain ⟨ih0, ih1⟩ := toponymref14_Turn.mono_l k
 unfold toponymref14_Turn.f
 repeat' first
   | (with_reducible exact ih0 _ _ _)
   | (with_reducible exact ih1 _ _ _)
   | (with_reducible exact LeO.refl _)
   | exact ih0 _ _ _
   | exact ih1 _ _ _
   | exact LeO.none _
   | refine LeO.ite ?_ ?_
   | refine LeO.bind ?_ (fun _ => ?_)
set_option maxHeartbeats 8000000 in
set_option maxRecDepth 100000 in
theorem toponymref14_Turn.calls (k : Nat) (a0_0 : Nat) (a0_1 : Nat) (a1 : Int) (r1 : Int) (r2 : Int) (r3 : Int) (w : World) (h : toponymref14_Turn.f k a0_0 a0_1 a1 = some (r1, r2, r3)) :
  Calls Tryd.prog 14 #[.agg #[.float .f64 a0_0, .float .f64 a0_1], .int .i64 a1] w fun e w' => e = .returned (.tuple #[.int .i64 r1, .int .i64 r2, .int .i64 r3]) ∧ Below w.heap.size w w' := by
 have hu32 := Tryd.underlying32
 have HB := aM (Below.refl w.heap.size w)
 have H := h
 clear h
 unfold toponymref14_Turn.f at H
 obtain ⟨⟨t140, t141, t142⟩, A3, H⟩ := zO H
 try dsimp only at H
 by_cases c4 : t142 = true
 ·subst c4
  rw [if_pos rfl] at H
  have HC5 := aM H
  clear H
  go_enter Tryd.func14, Tryd.ntmps14
  go_upto_if 22 with (first | ((with_reducible refine gate_dst (N := 2) rfl ?_); refine box_event ?hg (N := 2) ?hd (cs := #[.float .f64 a0_0, .float .f64 a0_1]) (t := 32) ?hr ?_; (case hd => rfl); (case hg => rfl); (case hr => first | (go_simp; done) | (go_simp; rfl)); intro gb139 hg w6 hbox hb; have n_ := zI (aM (below_step zB hb)) (zI (aM (hbox)) (zI (aM ((by rw [hg]; exact (below_size zB) : w.heap.size ≤ gb139))) (aM ((by rw [hg]; exact (below_size zB) : w.heap.size ≤ gb139))))); clear HB; obtain ⟨HB, BK139, GW139, GE139⟩ := n_; clear hb hbox hg; have hcz7_0 : w6.cell? ⟨gb139, 0, none⟩ = some (.float .f64 a0_0) := (blk_cell BK139.out 0).trans rfl; have hcz7_1 : w6.cell? ⟨gb139, 1, none⟩ = some (.float .f64 a0_1) := (blk_cell BK139.out 1).trans rfl; have hfz7_0 := blk_frozen BK139.out 0; have hfz7_1 := blk_frozen BK139.out 1) | ((with_reducible refine gate_callee (f := 15) rfl ?_); refine goesL_ (some 13) rfl rfl Tryd.func15 zK rfl #[.agg #[.float .f64 a0_0, .float .f64 a0_1]] rfl zM ?_; (with_reducible refine (toponymref14_Parts.calls a0_0 a0_1 t140 t141 true _ A3.out).mono ?_); rintro e w8 ⟨rfl, hb⟩; refine ⟨_, rfl, ?_⟩; have n_ := zI (aM (blk_below (g := gb139) (o := .cells #[.float .f64 a0_0, .float .f64 a0_1] 32 (0, 0)) (by (with_reducible repeat (first | refine blk_drewN ?_ _ | refine blk_drew ?_ | refine blk_alloc ?_ _)); exact BK139.out) hb)) (aM (below_step (by repeat (first | (with_reducible first | exact HB.out | apply bA | apply bN | apply bD | refine below_set ?_ GE139.out) | exact HB.out)) hb)); clear BK139 HB; obtain ⟨BK139, HB⟩ := n_; (try clear hb)))
  (try simp only [Act.put, List.setIfInBounds_toArray, List.set_cons_zero, List.set_cons_succ])
  go_cut [10] (fun v10 wc => ∃ (kq : Nat) (x10_4 : Int), v10 = .int .i64 x10_4 ∧ Aside0 (toponymref14_Turn.j0 kq t140 t141 x10_4 = some (r1, r2, r3)) ∧ Aside0 (kq ≤ k) ∧ Aside0 (wc.heap[gb139]? = some (.cells #[.float .f64 a0_0, .float .f64 a0_1] 32 (0, 0))) ∧ Aside0 (Below w.heap.size w wc))
  case first =>
   have H := HC5.out
   clear HC5
   by_cases c9 : (Int.tmod a1 4) < 0
   ·rw [if_pos c9] at H
    have c9b0 : decide ((Int.tmod a1 4) < 0) = true := decide_eq_true c9
    clear c9
    (first | rw [c9b0] | (simp only [i64_w, i32_w]; rw [c9b0]) | skip)
    have H' := aM H
    clear H
    go_wp2
    go_meet
    case rel => exact ⟨_, (wrap64 ((Int.tmod a1 4) + 4)), zP, H', ⟨by first | omega | exact Nat.le_refl _⟩, ⟨by (with_reducible repeat (first | refine blk_drewN ?_ _ | refine blk_drew ?_ | refine blk_alloc ?_ _)); exact BK139.out⟩, ⟨by repeat (first | (with_reducible first | exact HB.out | apply bA | apply bN | apply bD | refine below_set ?_ GE139.out) | exact HB.out)⟩⟩
   ·rw [if_neg c9] at H
    have c9b0 : decide ((Int.tmod a1 4) < 0) = false := decide_eq_false c9
    clear c9
    (first | rw [c9b0] | (simp only [i64_w, i32_w]; rw [c9b0]) | skip)
    have H' := aM H
    clear H
    go_wp2
    go_meet
    case rel => exact ⟨_, (Int.tmod a1 4), zP, H', ⟨by first | omega | exact Nat.le_refl _⟩, ⟨by (with_reducible repeat (first | refine blk_drewN ?_ _ | refine blk_drew ?_ | refine blk_alloc ?_ _)); exact BK139.out⟩, ⟨by repeat (first | (with_reducible first | exact HB.out | apply bA | apply bN | apply bD | refine below_set ?_ GE139.out) | exact HB.out)⟩⟩
  case rest =>
   clear HC5
   try clear c1
   try clear p2
   try clear c4
   try clear p6
   try clear c9
   try clear c9b0
   try clear hcz7_0
   try clear hcz7_1
   try clear hfz7_0
   try clear hfz7_1
   obtain ⟨kq, x10_4, rfl, HA, HJ4, BK139, HB⟩ := hcut
   cases kq with
   | zero => exact absurd HA.out (by simp [toponymref14_Turn.j0])
   | succ kj4 =>
    have H := HA.out
    clear HA
    simp only [toponymref14_Turn.j0] at H
    have H' := aM H
    clear H
    go_wp2
    go_loopg [7, 8, 10] kj4 (fun kq v7 v8 v10 w' => ∃ (x7_2 : Int) (x8_2 : Int) (x10_2 : Int), v7 = .int .i64 x7_2 ∧ v8 = .int .i64 x8_2 ∧ v10 = .int .i64 x10_2 ∧ Aside0 (toponymref14_Turn.l0 kq x7_2 x8_2 x10_2 = some (r1, r2, r3)) ∧ Aside0 (kq ≤ kj4) ∧ Aside0 (w'.heap[gb139]? = some (.cells #[.float .f64 a0_0, .float .f64 a0_1] 32 (0, 0))) ∧ Aside0 (Below w.heap.size w w'))
    case atStart => exact ⟨(t140), (t141), (x10_4), zP, zP, zP, H', ⟨Nat.le_refl _⟩, ⟨by (with_reducible repeat (first | refine blk_drewN ?_ _ | refine blk_drew ?_ | refine blk_alloc ?_ _)); exact BK139.out⟩, ⟨by repeat (first | (with_reducible first | exact HB.out | apply bA | apply bN | apply bD | refine below_set ?_ GE139.out) | exact HB.out)⟩⟩
    case round =>
     clear H'
     try clear c1
     try clear p2
     try clear c4
     try clear p6
     try clear c9
     try clear c9b0
     try clear hcz7_0
     try clear hcz7_1
     try clear hfz7_0
     try clear hfz7_1
     try clear p2
     try clear p6
     obtain ⟨x7_2, x8_2, x10_2, rfl, rfl, rfl, HA, HK2, BK139, HB⟩ := hrel
     cases gk with
     | zero => exact absurd HA.out (by simp [toponymref14_Turn.l0])
     | succ k2 =>
      have H := HA.out
      clear HA
      simp only [toponymref14_Turn.l0] at H
      by_cases c10 : x10_2 > 0
      ·rw [if_pos c10] at H
       have c10b0 : decide (0 < x10_2) = true := decide_eq_true c10
       clear c10
       have H' := aM H
       clear H
       go_wp2
       go_roundg k2
       case measure => have := HJ4.out; have := HK2.out; omega
       case rel => exact ⟨(wrap64 (-x8_2)), (x7_2), (wrap64 (x10_2 - 1)), zP, zP, zP, H', ⟨by have := HJ4.out; have := HK2.out; omega⟩, ⟨by (with_reducible repeat (first | refine blk_drewN ?_ _ | refine blk_drew ?_ | refine blk_alloc ?_ _)); exact BK139.out⟩, ⟨by repeat (first | (with_reducible first | exact HB.out | apply bA | apply bN | apply bD | refine below_set ?_ GE139.out) | exact HB.out)⟩⟩
      ·rw [if_neg c10] at H
       have c10b0 : decide (0 < x10_2) = false := decide_eq_false c10
       clear c10
       simp only [Option.some.injEq, Prod.mk.injEq] at H
       obtain ⟨rfl, rfl, rfl⟩ := H
       go_wp2
       go_ret3
       exact ⟨zE, by repeat (first | (with_reducible first | exact HB.out | apply bA | apply bN | apply bD | refine below_set ?_ GE139.out) | exact HB.out)⟩
 ·replace c4 := Bool.eq_false_iff.mpr c4
  subst c4
  rw [if_neg (show ¬ (false = true) by decide)] at H
  simp only [Option.some.injEq, Prod.mk.injEq] at H
  obtain ⟨rfl, rfl, rfl⟩ := H
  go_enter Tryd.func14, Tryd.ntmps14
  go_wp2_with (first | ((with_reducible refine gate_dst (N := 2) rfl ?_); refine box_event ?hg (N := 2) ?hd (cs := #[.float .f64 a0_0, .float .f64 a0_1]) (t := 32) ?hr ?_; (case hd => rfl); (case hg => rfl); (case hr => first | (go_simp; done) | (go_simp; rfl)); intro gb139 hg w11 hbox hb; have n_ := zI (aM (below_step zB hb)) (zI (aM (hbox)) (zI (aM ((by rw [hg]; exact (below_size zB) : w.heap.size ≤ gb139))) (aM ((by rw [hg]; exact (below_size zB) : w.heap.size ≤ gb139))))); clear HB; obtain ⟨HB, BK139, GW139, GE139⟩ := n_; clear hb hbox hg; have hcz12_0 : w11.cell? ⟨gb139, 0, none⟩ = some (.float .f64 a0_0) := (blk_cell BK139.out 0).trans rfl; have hcz12_1 : w11.cell? ⟨gb139, 1, none⟩ = some (.float .f64 a0_1) := (blk_cell BK139.out 1).trans rfl; have hfz12_0 := blk_frozen BK139.out 0; have hfz12_1 := blk_frozen BK139.out 1) | ((with_reducible refine gate_callee (f := 15) rfl ?_); refine goesL_ (some 13) rfl rfl Tryd.func15 zK rfl #[.agg #[.float .f64 a0_0, .float .f64 a0_1]] rfl zM ?_; (with_reducible refine (toponymref14_Parts.calls a0_0 a0_1 t140 t141 false _ A3.out).mono ?_); rintro e w13 ⟨rfl, hb⟩; refine ⟨_, rfl, ?_⟩; have n_ := zI (aM (blk_below (g := gb139) (o := .cells #[.float .f64 a0_0, .float .f64 a0_1] 32 (0, 0)) (by (with_reducible repeat (first | refine blk_drewN ?_ _ | refine blk_drew ?_ | refine blk_alloc ?_ _)); exact BK139.out) hb)) (aM (below_step (by repeat (first | (with_reducible first | exact HB.out | apply bA | apply bN | apply bD | refine below_set ?_ GE139.out) | exact HB.out)) hb)); clear BK139 HB; obtain ⟨BK139, HB⟩ := n_; (try clear hb)))
  go_ret3
  exact ⟨zE, by repeat (first | (with_reducible first | exact HB.out | apply bA | apply bN | apply bD | refine below_set ?_ GE139.out) | exact HB.out)⟩

/-! ### toponymlaw14_is: function 16 -/
def toponymlaw14_is.f (a0 : (Nat × Nat)) (a1 : Int) (a2 : Int) : Option (Bool) := if (Go.FloatKind.f64.format.order a0.1 (Go.floatOfInt .f64 a1) == some .eq) = true then (some (Go.FloatKind.f64.format.order a0.2 (Go.floatOfInt .f64 a2) == some .eq)) else (some false)
set_option maxHeartbeats 8000000 in
set_option maxRecDepth 100000 in
theorem toponymlaw14_is.calls (a0 : (Nat × Nat)) (a1 : Int) (a2 : Int) (r : Bool) (w : World) (h : toponymlaw14_is.f a0 a1 a2 = some r) :
  Calls Tryd.prog 16 #[.complex .f64 a0.1 a0.2, .int .i64 a1, .int .i64 a2] w fun e w' => e = .returned (.bool r) ∧ Below w.heap.size w w' := by
 have HB := aM (Below.refl w.heap.size w)
 have H := h
 clear h
 unfold toponymlaw14_is.f at H
 by_cases c4 : (Go.FloatKind.f64.format.order a0.1 (Go.floatOfInt .f64 a1) == some .eq) = true
 ·rw [if_pos c4] at H
  have c4b0 : (Go.FloatKind.f64.format.order a0.1 (Go.floatOfInt .f64 a1) == some .eq) = true := c4
  (try (have c4b1 : decide (Go.FloatKind.f64.format.order a0.1 (Go.floatOfInt .f64 a1) = some .eq) = true := by simpa using c4))
  (try (have c4b2 : (Go.FloatKind.f64.format.order a0.1 (Go.floatOfInt .f64 a1) == some .eq) = true := by simpa using c4))
  clear c4
  obtain rfl := sI H
  go_enter Tryd.func16, Tryd.ntmps16
  go_wp2
  go_ret
  exact ⟨zE, zB⟩
 ·rw [if_neg c4] at H
  have c4b0 : (Go.FloatKind.f64.format.order a0.1 (Go.floatOfInt .f64 a1) == some .eq) = false := by simpa using c4
  (try (have c4b1 : decide (Go.FloatKind.f64.format.order a0.1 (Go.floatOfInt .f64 a1) = some .eq) = false := by simpa using c4))
  (try (have c4b2 : (Go.FloatKind.f64.format.order a0.1 (Go.floatOfInt .f64 a1) == some .eq) = false := by simpa using c4))
  (try (have c4b3 : ¬ (Go.FloatKind.f64.format.order a0.1 (Go.floatOfInt .f64 a1) = some .eq) := by simpa using c4))
  clear c4
  obtain rfl := sI H
  go_enter Tryd.func16, Tryd.ntmps16
  go_wp2
  go_ret
  exact ⟨zE, zB⟩

/-! ### gauss_Fits: function 17 -/
def gauss_Fits.f (a0 : (Nat × Nat)) : Option (Bool) := (gauss_parts.f a0).bind fun bt143 => (some bt143.2.2)
set_option maxHeartbeats 8000000 in
set_option maxRecDepth 100000 in
theorem gauss_Fits.calls (a0 : (Nat × Nat)) (r : Bool) (w : World) (h : gauss_Fits.f a0 = some r) :
  Calls Tryd.prog 17 #[.complex .f64 a0.1 a0.2] w fun e w' => e = .returned (.bool r) ∧ Below w.heap.size w w' := by
 have HB := aM (Below.refl w.heap.size w)
 have H := h
 clear h
 unfold gauss_Fits.f at H
 obtain ⟨⟨t143, t144, t145⟩, A2, H⟩ := zO H
 try dsimp only at H
 obtain rfl := sI H
 go_enter Tryd.func17, Tryd.ntmps17
 go_wp2_with (first | ((with_reducible refine gate_callee (f := 27) rfl ?_); refine goesL_ (some 8) rfl rfl Tryd.func27 zK rfl #[.complex .f64 a0.1 a0.2] rfl zM ?_; (with_reducible refine (gauss_parts.calls a0 t143 t144 t145 _ A2.out).mono ?_); rintro e w3 ⟨rfl, hb⟩; refine ⟨_, rfl, ?_⟩; replace HB := aM (below_step zB hb); (try clear hb)))
 go_ret
 exact ⟨zE, zB⟩

end Go.Proofs.YtoadfanppajhhaaDoor.P
