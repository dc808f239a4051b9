-- Printed by wip/mk.py (this session's driver over the kit's print) and from wip/manual.
import Derived.Test.YtdgnekknmpfepaaGreatDoorP0
import Derived.Test.YtdgnekknmpfepaaGreatDoorP1
import Derived.Test.YtdgnekknmpfepaaGreatDoorP6
import Derived.Test.YtdgnekknmpfepaaGreatDoorP7
namespace Go.Proofs.YtdgnekknmpfepaaGreatDoor.P
open Go.RowKit Go.Proofs.YtdgnekknmpfepaaGreatDoorW.PrintWords Go.Proofs.YtdgnekknmpfepaaGreatDoorW.PrintLast Go.Proofs.YtdgnekknmpfepaaGreatDoorW.PrintMore
attribute [local go_sem] run_store_float run_store_complex max2_int min2_int max_two min_two max_three min_three max_four min_four   -- for this text's walks alone
set_option linter.unusedVariables false
set_option linter.unusedSimpArgs false

/-! ### gauss_Show: function 60, by hand (gauss.Show.tpl) -/
section
variable {P : Program} {ops : Array Oper} {Q : Exit → Act → World → Prop}
theorem run_bound {oi : Oper} {a : Act} {w : World} {x : Tmp} {f : FuncId} {bd : Array Value} {fn : Func} {xs : Array Operand} {ts : Array TypeId} (hx : a.eval (.tmp x) = .func (.func f) bd #[]) (hf : P.funcs[f]? = some fn) (hname : (fn.name == "runtime.NumGoroutine") = false) (hb : fn.body.isSome = true) (args : Array Value)
    (hop : oi.op = .call { callee := .value (.tmp x), args := xs, argTypes := ts }) (hargs : bd ++ xs.map a.eval = args) : (execOp a.eval oi).run P w = .ok (.enter f args) w := by
  have he := enters_ hf hname hb args w
  unfold execOp
  simp [hop, resolve, Deferred.ofValue, invoke, hx, hargs, he]
theorem goesLB_ {rest : List Oper} {oi : Oper} {a : Act} {w : World} (N : Option Tmp) {x : Tmp} {f : FuncId} {bd : Array Value} (hx : a.eval (.tmp x) = .func (.func f) bd #[]) (hd : oi.dst = N) (hg : oi.guard = none) {fn : Func} {xs : Array Operand} {ts : Array TypeId} (hf : P.funcs[f]? = some fn) (hname : (fn.name == "runtime.NumGoroutine") = false) (hb : fn.body.isSome = true) (args : Array Value)
    (hop : oi.op = .call { callee := .value (.tmp x), args := xs, argTypes := ts }) (hargs : bd ++ xs.map a.eval = args)
    (h : Calls P f args w fun e w' => ∃ v, e = .returned v ∧ wpList P ops Q rest (a.put N v) w') : wpList P ops Q (oi :: rest) a w := by
  refine wpList_plain hg fun K hK => ?_
  unfold Oper.wp
  rw [run_bound hx hf hname hb args hop hargs, Oper.upon_enter]
  refine h.mono fun e w'' hh => ?_
  obtain ⟨v, rfl, hk⟩ := hh
  subst hd
  exact hK _ _ hk
end
set_option maxHeartbeats 4000000 in
set_option maxRecDepth 100000 in
/-- What a builder's writing methods look at first. -/
theorem b_check (B b : Nat) (bs : List Value) (w : World) (h : Lib.IsBuilder 149 5 B b bs w) :
    Calls Tryz.prog 159 #[.pointer (some ⟨b, 0, none⟩)] w fun e w' => e = .returned (.tuple #[]) ∧ Lib.BuilderAt 149 5 B b (.pointer (some ⟨b, 0, none⟩)) bs w' ∧ Below B w w' := by
  obtain ⟨j, hj, hjs⟩ := Option.map_eq_some_iff.1 Tryz.Builder_Extra_169.sizeBuilder
  have hj' : Tryz.prog.info? 149 = some j := hj
  rcases h with h | h
  · have h0 := h.cell0
    have hsh := h.shape
    have hfz := h.frozen0
    go_enter Tryz.func159, Tryz.ntmps159
    go_wp2
    rw [Lib.run_to_unsafe w ⟨b, 0, none⟩ Tryz.underlying147 Tryz.underlying205 hj' (by rw [hjs]; decide) hsh (Nat.zero_lt_succ 1)]
    simp only [Result.andThen]
    rw [Oper.upon_value]
    go_wp2
    rw [run_callFunc_extern Tryz.func190 (by kernel_rfl) (by kernel_rfl) (by kernel_rfl) (e := Extern.AbiNoEscape.same) (by kernel_rfl)]
    rw [Lib.run_noEscape]
    simp only [Result.andThen]
    rw [Oper.upon_value]
    go_wp2
    rw [Lib.run_from_unsafe w ⟨b, 0, none⟩ Tryz.underlying205 Tryz.underlying147 hj' hsh Tryz.Builder_Extra_169.liesBuilder]
    simp only [Result.andThen]
    rw [Oper.upon_value]
    go_wp2
    go_end0
    exact ⟨rfl, h.used _, (Below.refl B w).setCell (p := ⟨b, 0, none⟩) h.1 _⟩
  · have h0 := h.cell0
    go_enter Tryz.func159, Tryz.ntmps159
    go_wp2
    rw [Lib.run_neq_ptr_same w _ Tryz.underlying147 hj']
    go_wp2
    go_end0
    exact ⟨rfl, h, Below.refl B _⟩
set_option maxHeartbeats 4000000 in
set_option maxRecDepth 100000 in
theorem b_write (B b : Nat) (bs : List Value) (s : ByteArray) (w : World) (h : Lib.IsBuilder 149 5 B b bs w) (hlen : bs.length + s.size ≤ 140737488355328) (hBw : B ≤ w.heap.size) :
    Calls Tryz.prog 104 #[.pointer (some ⟨b, 0, none⟩), .string s] w fun e w' => ∃ x, e = .returned x ∧ Lib.BuilderAt 149 5 B b (.pointer (some ⟨b, 0, none⟩)) (bs ++ Lib.strCells s) w' ∧ Below B w w' := by
  obtain ⟨i0, hi, hz0, hz1, hz2⟩ := info_parts Tryz.Builder_Extra_169.infoByte
  go_enter Tryz.func104, Tryz.ntmps104
  go_wp2_with (go_at_call 159; refine (b_check B b bs _ h).mono ?_)
  rintro e w1 ⟨rfl, h1, hb1⟩
  obtain ⟨hB, v, hbk, hown, hne⟩ := h1
  have c0 : w1.cell? ⟨b, 0, none⟩ = some (.pointer (some ⟨b, 0, none⟩)) := by rw [Lib.cell_of_heap hbk]; rfl
  have c1 : w1.cell? ⟨b, 1, none⟩ = some v := by rw [Lib.cell_of_heap hbk]; rfl
  go_wp2_with (at_builtin; refine Lib.wpList_append_own_string _ rfl _ _ 119 9 rfl B 5 i0 Tryz.underlying119 Tryz.underlying9 hi hz0 hz1 hz2 _ _ _ rfl hown s rfl ?c3 ?c4 ?c5 ?_)
  case c3 => unfold maxLen; omega
  case c4 => omega
  case c5 => have := hb1.size; omega
  intro v' w2 hown' hgrow _
  have hlt : b < w1.heap.size := by
    rcases Nat.lt_or_ge b w1.heap.size with h' | h'
    · exact h'
    · simp [Array.getElem?_eq_none h'] at hbk
  have hb2 : w2.heap[b]? = some (.cells #[.pointer (some ⟨b, 0, none⟩), v] 149 (0, 0)) := by
    rw [hgrow.block b hlt (fun e => hne e.symm)]
    exact hbk
  have d0 : w2.cell? ⟨b, 0, none⟩ = some (.pointer (some ⟨b, 0, none⟩)) := by rw [Lib.cell_of_heap hb2]; rfl
  have d1 : w2.cell? ⟨b, 1, none⟩ = some v := by rw [Lib.cell_of_heap hb2]; rfl
  have f1 : w2.frozen? ⟨b, 1, none⟩ = false := Lib.frozen_of_heap hb2 1
  obtain ⟨ao, n', cap, rfl⟩ : ∃ ao n' cap, v' = .slice ao n' cap := by
    rcases hown'.2 with ⟨hv, _⟩ | ⟨g, cap, cur, hv, _⟩
    · exact ⟨_, _, _, hv⟩
    · exact ⟨_, _, _, hv⟩
  go_wp2
  go_ret2
  refine ⟨_, rfl, ?_, ?_⟩
  · exact Lib.BuilderAt.put (T := 149) (e := 5) hB hb2 (bs' := bs ++ Lib.strCells s) (by simpa [Lib.strCells_length] using hown') (by decide)
  · exact (hb1.grown hgrow (by have := hb1.size; omega) (fun k hk => (hown.lt k hk).1)).setCell (p := ⟨b, 1, none⟩) hB _
/-- The text of two whole parts. -/
def gText (a b : Int) : List UInt8 := if b = 0 then Lib.itoa a else if a = 0 then Lib.itoa b ++ [105] else if b > 0 then Lib.itoa a ++ ([43] ++ (Lib.itoa b ++ [105])) else Lib.itoa a ++ (Lib.itoa b ++ [105])
theorem b_below {B b : Nat} {bs : List Value} {w w' : World} (h : Lib.IsBuilder 149 5 B b bs w) (hb : Below w.heap.size w w') : Lib.IsBuilder 149 5 B b bs w' := by
  have key : ∀ p, Lib.BuilderAt 149 5 B b p bs w → Lib.BuilderAt 149 5 B b p bs w' := by
    rintro p ⟨hB, v, hk, hown, hne⟩
    refine ⟨hB, v, (hb.block b (Array.getElem?_eq_some_iff.1 hk).1).trans hk, ?_, hne⟩
    exact hown.kept (row := none) ⟨hb.os, hb.tape, hb.output, hb.size, fun j hj _ => hb.block j hj⟩ (by cases hv : v.ownBlock <;> simp)
  exact h.elim (fun h => Or.inl (key _ h)) (fun h => Or.inr (key _ h))
theorem b_writeL (B b : Nat) (l : List UInt8) (s : ByteArray) (w : World) (h : Lib.IsBuilder 149 5 B b (Lib.byteCells l) w) (hlen : l.length + s.size ≤ 140737488355328) (hBw : B ≤ w.heap.size) :
    Calls Tryz.prog 104 #[.pointer (some ⟨b, 0, none⟩), .string s] w fun e w' => ∃ x, e = .returned x ∧ Lib.IsBuilder 149 5 B b (Lib.byteCells (l ++ s.data.toList)) w' ∧ Below B w w' := by
  refine (b_write B b _ s w h (by rw [Lib.byteCells_length]; exact hlen) hBw).mono ?_
  rintro e w' ⟨x, rfl, h1, h2⟩
  refine ⟨x, rfl, Or.inr ?_, h2⟩
  have e : Lib.byteCells l ++ Lib.strCells s = Lib.byteCells (l ++ s.data.toList) := by simp [Lib.byteCells, Lib.strCells]
  rw [← e]
  exact h1
theorem itoa_calls (x : Int) (s : ByteArray) (hs : s = ⟨(Lib.itoa x).toArray⟩) (h1 : -999999 ≤ x) (h2 : x ≤ 999999) (w : World) (hE : Env w) :
    Calls Tryz.prog 97 #[.int .i64 x] w fun e w' => e = .returned (.string s) ∧ Below w.heap.size w w' := by
  subst hs
  exact strconv_Itoa_97.calls x _ w hE (by unfold strconv_Itoa_97.f; rw [if_pos ⟨by omega, by omega⟩])
theorem data_app (x y : ByteArray) : (x ++ y).data.toList = x.data.toList ++ y.data.toList := by simp [ByteArray.data_append]
theorem hlen_ {n : Nat} (h : n ≤ 200) : n ≤ 140737488355328 := by omega
theorem data_len (s : ByteArray) : s.data.toList.length = s.size := Array.length_toList
theorem sz1 : (⟨#[43]⟩ : ByteArray).size = 1 := rfl
theorem sz2 : (⟨#[105]⟩ : ByteArray).size = 1 := rfl
def gauss_Show.f (a0 : Nat × Nat) : Option (ByteArray × Int) := (gauss_parts.f a0).bind fun t => if t.2.2 = true then (if -999999 ≤ t.1 ∧ t.1 ≤ 999999 ∧ -999999 ≤ t.2.1 ∧ t.2.1 ≤ 999999 then some (⟨(gText t.1 t.2.1).toArray⟩, 0) else none) else some (⟨#[]⟩, 140)
theorem gText_length (a b : Int) (ha : -9223372036854775808 ≤ a ∧ a ≤ 9223372036854775807) (hb : -9223372036854775808 ≤ b ∧ b ≤ 9223372036854775807) : (gText a b).length ≤ 100 := by
  have h1 := Lib.itoa_length_le a ha.1 ha.2
  have h2 := Lib.itoa_length_le b hb.1 hb.2
  unfold gText
  repeat' split
  all_goals (try simp only [List.length_append, List.length_cons, List.length_nil])
  all_goals omega
set_option maxHeartbeats 8000000 in
set_option maxRecDepth 100000 in
theorem gauss_Show.calls (a0 : Nat × Nat) (r1 : ByteArray) (r2 : Int) (w : World) (hE : Env w) (h : gauss_Show.f a0 = some (r1, r2)) :
    Calls Tryz.prog 60 #[.complex .f64 a0.1 a0.2] w fun e w' => e = .returned (.tuple #[.string r1, .int .i64 r2]) ∧ Below w.heap.size w w' := by
  unfold gauss_Show.f at h
  obtain ⟨t, A1, H⟩ := zO h
  obtain ⟨a, b, ok⟩ := t
  clear h
  have HE := Aside0.mk hE
  clear hE
  dsimp only at H
  cases ok with
  | false =>
    rw [if_neg (by simp)] at H
    simp only [Option.some.injEq, Prod.mk.injEq] at H
    obtain ⟨rfl, rfl⟩ := H
    go_enter Tryz.func60, Tryz.ntmps60
    go_wp2_with ((with_reducible refine gate_callee (f := 103) rfl ?_); refine goesL_ (some 11) rfl rfl Tryz.func103 zK rfl #[.complex .f64 a0.1 a0.2] rfl zM ?_; (with_reducible refine (gauss_parts.calls a0 a b false _ A1.out).mono ?_); rintro e w' ⟨rfl, hb⟩; have HB := Aside0.mk hb; clear hb; refine ⟨_, rfl, ?_⟩)
    go_ret2
    exact ⟨rfl, by first | exact HB.out | exact Below.trans (pw_below_drewN (Below.refl _ _) _) HB.out⟩
  | true =>
    rw [if_pos rfl] at H
    by_cases cc : -999999 ≤ a ∧ a ≤ 999999 ∧ -999999 ≤ b ∧ b ≤ 999999
    rotate_left
    · rw [if_neg cc] at H; exact absurd H (by simp)
    rw [if_pos cc] at H
    simp only [Option.some.injEq, Prod.mk.injEq] at H
    obtain ⟨rfl, rfl⟩ := H
    have ra : -9223372036854775808 ≤ a ∧ a ≤ 9223372036854775807 := ⟨by omega, by omega⟩
    have rb : -9223372036854775808 ≤ b ∧ b ≤ 9223372036854775807 := ⟨by omega, by omega⟩
    obtain ⟨sa, ea⟩ : ∃ s : ByteArray, s = ⟨(Lib.itoa a).toArray⟩ := ⟨_, rfl⟩
    obtain ⟨sb, eb⟩ : ∃ s : ByteArray, s = ⟨(Lib.itoa b).toArray⟩ := ⟨_, rfl⟩
    have la : sa.size ≤ 21 := by rw [ea]; exact Lib.itoa_length_le a ra.1 ra.2
    have lb : sb.size ≤ 21 := by rw [eb]; exact Lib.itoa_length_le b rb.1 rb.2
    have k0 : (sb.size + 1 ≤ 9223372036854775807) = True := eq_true (by omega)
    have k1 : decide (sb.size + 1 ≤ 9223372036854775807) = true := decide_eq_true (by omega)
    have k2 : (9223372036854775807 < sb.size + 1) = False := eq_false (by omega)
    have IA := Aside0.mk (itoa_calls a sa ea cc.1 cc.2.1)
    have IB := Aside0.mk (itoa_calls b sb eb cc.2.2.1 cc.2.2.2)
    have EA := Aside0.mk ea
    have EB := Aside0.mk eb
    have LA := Aside0.mk la
    have LB := Aside0.mk lb
    clear ra rb ea eb la lb cc
    by_cases b0 : b = 0
    all_goals by_cases a0z : a = 0
    all_goals by_cases bp : b > 0
    all_goals first
      | (exfalso; omega)
      | (first | have f1 : (a == 0) = true := beq_iff_eq.mpr a0z | have f1 : (a == 0) = false := beq_eq_false_iff_ne.mpr a0z
         first | have f2 : (a != 0) = false := bne_eq_false_iff_eq.mpr a0z | have f2 : (a != 0) = true := bne_iff_ne.mpr a0z
         first | have f3 : (b == 0) = true := beq_iff_eq.mpr b0 | have f3 : (b == 0) = false := beq_eq_false_iff_ne.mpr b0
         first | have f4 : (b != 0) = false := bne_eq_false_iff_eq.mpr b0 | have f4 : (b != 0) = true := bne_iff_ne.mpr b0
         first | have f5 : decide (0 < b) = true := decide_eq_true bp | have f5 : decide (0 < b) = false := decide_eq_false bp
         have Hb := Aside0.mk b0
         have Ha := Aside0.mk a0z
         have Hp := Aside0.mk bp
         clear b0 a0z bp
         go_enter Tryz.func60, Tryz.ntmps60
         go_wp2_with (first
           | ((with_reducible refine gate_callee (f := 103) rfl ?_); refine goesL_ (some 11) rfl rfl Tryz.func103 zK rfl #[.complex .f64 a0.1 a0.2] rfl zM ?_; (with_reducible refine (gauss_parts.calls a0 a b true _ A1.out).mono ?_); rintro e W0 ⟨rfl, hb⟩; have HB := Aside0.mk hb; clear hb; refine ⟨_, rfl, ?_⟩)
           | ((with_reducible refine gate_dst (N := 7) rfl ?_); refine box_event ?hg (N := 7) ?hd (cs := #[.pointer none, .slice none 0 0]) (t := 149) ?hr ?_; (case hd => rfl); (case hg => rfl); (case hr => first | (go_simp; done) | (go_simp; rfl)); intro g hg W1 hbox hb; have GE := Aside0.mk (show w.heap.size ≤ g from by rw [hg]; exact (below_size zB)); have HB1 := Aside0.mk (below_step zB hb); clear HB; have HB := HB1; clear HB1; have BS := Aside0.mk (show Lib.IsBuilder 149 5 w.heap.size g (Lib.byteCells []) W1 from Or.inl ⟨GE.out, .slice none 0 0, hbox, World.ownsRow_nil _ _ _ _, by simp [Value.ownBlock]⟩); clear hb hbox hg)
           | (go_at_call 97; (first | (with_reducible refine (IA.out _ ?hE).mono ?_) | (with_reducible refine (IB.out _ ?hE).mono ?_)); (case hE => exact zEnv HE); rintro e W2 ⟨rfl, hb⟩; have BS2 := Aside0.mk (b_below BS.out hb); have HB2 := Aside0.mk (below_step zB hb); clear BS HB hb; have BS := BS2; have HB := HB2; clear BS2 HB2)
           | ((first
              | ((with_reducible refine gate_tmp (x := 24) rfl ?_); refine goesLB_ (some 27) rfl rfl rfl Tryz.func104 zK rfl #[.pointer (some ⟨g, 0, none⟩), .string sa] rfl zM ?_)
              | ((with_reducible refine gate_tmp (x := 34) rfl ?_); refine goesLB_ (some 35) rfl rfl rfl Tryz.func104 zK rfl #[.pointer (some ⟨g, 0, none⟩), .string ⟨#[43]⟩] rfl zM ?_)
              | ((with_reducible refine gate_tmp (x := 38) rfl ?_); refine goesLB_ (some 42) rfl rfl rfl Tryz.func104 zK rfl #[.pointer (some ⟨g, 0, none⟩), .string (sb ++ ⟨#[105]⟩)] rfl zM ?_)); (refine (b_writeL w.heap.size g _ _ _ BS.out ?hl ?hB).mono ?_); (case hl => exact hlen_ (by have h1 := LA.out; have h2 := LB.out; simp only [List.length_append, List.length_nil, List.length_cons, data_len, ByteArray.size_append, sz1, sz2]; omega)); (case hB => exact below_size zB); rintro e W3 ⟨x, rfl, hbs, hb⟩; have BS3 := Aside0.mk hbs; have HB3 := Aside0.mk (Below.trans zB hb); clear BS HB hb hbs; have BS := BS3; have HB := HB3; clear BS3 HB3; refine ⟨_, rfl, ?_⟩)
           | (go_at_call 105; (refine (Tryz.Builder_String_any w.heap.size g _ _ BS.out ?hB).mono ?_); (case hB => exact below_size zB); rintro e W4 ⟨rfl, hb⟩; have HB4 := Aside0.mk (Below.trans zB hb); clear HB hb; have HB := HB4; clear HB4))
         go_ret2
         refine ⟨?_, zB⟩
         unfold gText
         first | rw [if_pos Hb.out] | (rw [if_neg Hb.out]; first | rw [if_pos Ha.out] | (rw [if_neg Ha.out]; first | rw [if_pos Hp.out] | rw [if_neg (by have := Hp.out; omega)]))
         simp [EA.out, EB.out, data_app])

/-! ### gauss_Parse: function 31 -/
def gauss_Parse.j0 : Nat → ByteArray → ByteArray → ByteArray → Option ((Nat × Nat) × Int)
 | 0, _, _, _ => none
 | k + 1, x0, x4, x5 => (gauss_number.f x4).bind fun bt314 => ((gauss_number.f x5).bind fun bt316 => ((gauss_whole.f bt314.1 bt316.1).bind fun t318 => ((gauss_Show.f t318).bind fun bt319 => (if bt314.2 = true then (if bt316.2 = true then (if bt319.2 = 0 then (if bt319.1.toList = x0.toList then (some (t318, 0)) else (some ((0, 0), 140))) else (some ((0, 0), 140))) else (some ((0, 0), 140))) else (some ((0, 0), 140))))))
def gauss_Parse.f (k : Nat) (a0 : ByteArray) : Option ((Nat × Nat) × Int) := if (a0.size : Int) > 16 then (some ((0, 0), 140)) else ((strings_CutSuffix.f a0 (⟨#[105]⟩ : ByteArray)).bind fun bt309 => (if bt309.2 = true then ((strings_LastIndex.f bt309.1 (⟨#[43]⟩ : ByteArray)).bind fun t311 => ((strings_LastIndex.f bt309.1 (⟨#[45]⟩ : ByteArray)).bind fun t312 => (if (mx t311 t312) > 0 then (if 0 ≤ (mx t311 t312) then (if (mx t311 t312) ≤ (bt309.1.size : Int) then ((strings_TrimPrefix.f (bt309.1.extract ((mx t311 t312) : Int).toNat bt309.1.size) (⟨#[43]⟩ : ByteArray)).bind fun t313 => (gauss_Parse.j0 k a0 (bt309.1.extract 0 ((mx t311 t312) : Int).toNat) t313)) else (none)) else (none)) else (gauss_Parse.j0 k a0 (⟨#[48]⟩ : ByteArray) bt309.1)))) else (gauss_Parse.j0 k a0 a0 (⟨#[48]⟩ : ByteArray))))
theorem gauss_Parse.mono_l : ∀ k, (∀ y0 y1 y2, LeO (gauss_Parse.j0 k y0 y1 y2) (gauss_Parse.j0 (k + 1) y0 y1 y2))
 | 0 => fun _ _ _ r h => by simp [gauss_Parse.j0] at h
 | k + 1 => by
  have ih0 := gauss_Parse.mono_l k
  ·intro y0 y1 y2
   unfold gauss_Parse.j0
   repeat' first
   | (with_reducible exact ih0 _ _ _)
   | (with_reducible exact LeO.refl _)
   | exact ih0 _ _ _
   | exact LeO.none _
   | refine LeO.ite ?_ ?_
   | refine LeO.bind ?_ (fun _ => ?_)
theorem gauss_Parse.mono : ∀ a0 k, LeO (gauss_Parse.f k a0) (gauss_Parse.f (k + 1) a0) := by
 intro a0 k
 have ih0 := gauss_Parse.mono_l k
 unfold gauss_Parse.f
 repeat' first
   | (with_reducible exact ih0 _ _ _)
   | (with_reducible exact LeO.refl _)
   | exact ih0 _ _ _
   | exact LeO.none _
   | refine LeO.ite ?_ ?_
   | refine LeO.bind ?_ (fun _ => ?_)
set_option maxHeartbeats 8000000 in
set_option maxRecDepth 100000 in
theorem gauss_Parse.calls (k : Nat) (a0 : ByteArray) (r1 : (Nat × Nat)) (r2 : Int) (w : World) (hE : Env w) (h : gauss_Parse.f k a0 = some (r1, r2)) :
  Calls Tryz.prog 31 #[.string a0] w fun e w' => e = .returned (.tuple #[.complex .f64 r1.1 r1.2, .int .i64 r2]) ∧ Below w.heap.size w w' := by
 have HE := aM hE
 clear hE
 have HB := aM (Below.refl w.heap.size w)
 have H := h
 clear h
 unfold gauss_Parse.f at H
 by_cases c2 : (a0.size : Int) > 16
 ·rw [if_pos c2] at H
  have c2b0 : decide (16 < (a0.size : Int)) = true := decide_eq_true c2
  have c2b1 : decide (16 < a0.size) = true := decide_eq_true (by omega)
  clear c2
  simp only [Option.some.injEq, Prod.mk.injEq] at H
  obtain ⟨rfl, rfl⟩ := H
  go_enter Tryz.func31, Tryz.ntmps31
  go_wp2
  repeat (go_quiet (fail); try go_wp2)
  go_ret2
  exact ⟨zE, zB⟩
 ·rw [if_neg c2] at H
  have c2b0 : decide (16 < (a0.size : Int)) = false := decide_eq_false c2
  have c2b1 : decide (16 < a0.size) = false := decide_eq_false (by omega)
  clear c2
  obtain ⟨⟨t309, t310⟩, A3, H⟩ := zO H
  try dsimp only at H
  have HC4 := aM H
  clear H
  go_enter Tryz.func31, Tryz.ntmps31
  go_upto_if 25 with (first | (go_at_call 55; (with_reducible refine (strings_CutSuffix.calls a0 (⟨#[105]⟩ : ByteArray) t309 t310 _ A3.out).mono ?_); rintro e w' ⟨rfl, ⟨nd, rfl⟩⟩; (try first | exact ⟨rfl, _, World.drewN_drewN _ _ _⟩ | exact ⟨rfl, _, Eq.trans (World.drewN_drewN _ _ _) (congrArg (World.drewN _) (Nat.add_assoc _ _ _))⟩)))
  repeat (go_quiet (first | (go_at_call 55; (with_reducible refine (strings_CutSuffix.calls a0 (⟨#[105]⟩ : ByteArray) t309 t310 _ A3.out).mono ?_); rintro e w' ⟨rfl, ⟨nd, rfl⟩⟩; (try first | exact ⟨rfl, _, World.drewN_drewN _ _ _⟩ | exact ⟨rfl, _, Eq.trans (World.drewN_drewN _ _ _) (congrArg (World.drewN _) (Nat.add_assoc _ _ _))⟩))); go_upto_if 25 with (first | (go_at_call 55; (with_reducible refine (strings_CutSuffix.calls a0 (⟨#[105]⟩ : ByteArray) t309 t310 _ A3.out).mono ?_); rintro e w' ⟨rfl, ⟨nd, rfl⟩⟩; (try first | exact ⟨rfl, _, World.drewN_drewN _ _ _⟩ | exact ⟨rfl, _, Eq.trans (World.drewN_drewN _ _ _) (congrArg (World.drewN _) (Nat.add_assoc _ _ _))⟩))))
  (try simp only [Act.put, List.setIfInBounds_toArray, List.set_cons_zero, List.set_cons_succ])
  go_cut [4, 5] (fun v4 v5 wc => ∃ (kq : Nat) (x4_3 : ByteArray) (x5_3 : ByteArray), v4 = .string x4_3 ∧ v5 = .string x5_3 ∧ Aside0 (gauss_Parse.j0 kq a0 x4_3 x5_3 = some (r1, r2)) ∧ Aside0 (kq ≤ k) ∧ Aside0 (Below w.heap.size w wc))
  case first =>
   have H := HC4.out
   clear HC4
   by_cases c5 : t310 = true
   ·subst c5
    rw [if_pos rfl] at H
    obtain ⟨t311, A6, H⟩ := zO H
    obtain ⟨t312, A7, H⟩ := zO H
    obtain ⟨ji8, hji8⟩ : ∃ j_ : Int, (mx t311 t312) = j_ := ⟨_, rfl⟩
    replace H : (if (ji8) > 0 then (if 0 ≤ (ji8) then (if (ji8) ≤ (t309.size : Int) then ((strings_TrimPrefix.f (t309.extract ((ji8) : Int).toNat t309.size) (⟨#[43]⟩ : ByteArray)).bind fun t313 => (gauss_Parse.j0 k a0 (t309.extract 0 ((ji8) : Int).toNat) t313)) else (none)) else (none)) else (gauss_Parse.j0 k a0 (⟨#[48]⟩ : ByteArray) t309)) = some (r1, r2) := by first | (rw [hji8] at H; exact H) | (simp only [hji8] at H ⊢; exact H)
    (try rw [hji8] at A6)
    (try rw [hji8] at A7)
    have hji8_ : (if t311 < t312 then t312 else t311) = ji8 := hji8
    by_cases c9 : (ji8) > 0
    ·rw [if_pos c9] at H
     have c9b0 : decide (0 < (ji8)) = true := decide_eq_true c9
     clear c9
     (first | rw [c9b0] | (simp only [i64_w, i32_w]; rw [c9b0]) | skip)
     by_cases c10 : 0 ≤ (ji8)
     ·rw [if_pos c10] at H
      have c10b0 := eq_true c10
      have c10b1 : decide (0 ≤ (ji8)) = true := decide_eq_true c10
      clear c10
      by_cases c11 : (ji8) ≤ (t309.size : Int)
      ·rw [if_pos c11] at H
       have c11b0 := eq_true c11
       have c11b1 : decide ((ji8) ≤ (t309.size : Int)) = true := decide_eq_true c11
       clear c11
       have c12b0 := eq_true (zoA : 0 ≤ (ji8))
       have c13b0 := eq_true (zoA : (ji8) ≤ (t309.size : Int))
       obtain ⟨t313, A14, H⟩ := zO H
       have H' := aM H
       clear H
       go_wp2_with (first | (go_at_call 56; (with_reducible refine (strings_LastIndex.calls t309 (⟨#[43]⟩ : ByteArray) t311 _ A6.out).mono ?_); rintro e w' ⟨rfl, ⟨nd, rfl⟩⟩; (try clear A6); (try first | exact ⟨rfl, _, World.drewN_drewN _ _ _⟩ | exact ⟨rfl, _, Eq.trans (World.drewN_drewN _ _ _) (congrArg (World.drewN _) (Nat.add_assoc _ _ _))⟩)) | (go_at_call 56; (with_reducible refine (strings_LastIndex.calls t309 (⟨#[45]⟩ : ByteArray) t312 _ A7.out).mono ?_); rintro e w' ⟨rfl, ⟨nd, rfl⟩⟩; (try clear A7); (try first | exact ⟨rfl, _, World.drewN_drewN _ _ _⟩ | exact ⟨rfl, _, Eq.trans (World.drewN_drewN _ _ _) (congrArg (World.drewN _) (Nat.add_assoc _ _ _))⟩)) | (go_at_call 57; (with_reducible refine (strings_TrimPrefix.calls (t309.extract ((ji8) : Int).toNat t309.size) (⟨#[43]⟩ : ByteArray) t313 _ A14.out).mono ?_); rintro e w' ⟨rfl, ⟨nd, rfl⟩⟩; (try first | exact ⟨rfl, _, World.drewN_drewN _ _ _⟩ | exact ⟨rfl, _, Eq.trans (World.drewN_drewN _ _ _) (congrArg (World.drewN _) (Nat.add_assoc _ _ _))⟩)))
       repeat (go_quiet (first | (go_at_call 56; (with_reducible refine (strings_LastIndex.calls t309 (⟨#[43]⟩ : ByteArray) t311 _ A6.out).mono ?_); rintro e w' ⟨rfl, ⟨nd, rfl⟩⟩; (try clear A6); (try first | exact ⟨rfl, _, World.drewN_drewN _ _ _⟩ | exact ⟨rfl, _, Eq.trans (World.drewN_drewN _ _ _) (congrArg (World.drewN _) (Nat.add_assoc _ _ _))⟩)) | (go_at_call 56; (with_reducible refine (strings_LastIndex.calls t309 (⟨#[45]⟩ : ByteArray) t312 _ A7.out).mono ?_); rintro e w' ⟨rfl, ⟨nd, rfl⟩⟩; (try clear A7); (try first | exact ⟨rfl, _, World.drewN_drewN _ _ _⟩ | exact ⟨rfl, _, Eq.trans (World.drewN_drewN _ _ _) (congrArg (World.drewN _) (Nat.add_assoc _ _ _))⟩)) | (go_at_call 57; (with_reducible refine (strings_TrimPrefix.calls (t309.extract ((ji8) : Int).toNat t309.size) (⟨#[43]⟩ : ByteArray) t313 _ A14.out).mono ?_); rintro e w' ⟨rfl, ⟨nd, rfl⟩⟩; (try first | exact ⟨rfl, _, World.drewN_drewN _ _ _⟩ | exact ⟨rfl, _, Eq.trans (World.drewN_drewN _ _ _) (congrArg (World.drewN _) (Nat.add_assoc _ _ _))⟩))); try go_wp2_with (first | (go_at_call 56; (with_reducible refine (strings_LastIndex.calls t309 (⟨#[43]⟩ : ByteArray) t311 _ A6.out).mono ?_); rintro e w' ⟨rfl, ⟨nd, rfl⟩⟩; (try clear A6); (try first | exact ⟨rfl, _, World.drewN_drewN _ _ _⟩ | exact ⟨rfl, _, Eq.trans (World.drewN_drewN _ _ _) (congrArg (World.drewN _) (Nat.add_assoc _ _ _))⟩)) | (go_at_call 56; (with_reducible refine (strings_LastIndex.calls t309 (⟨#[45]⟩ : ByteArray) t312 _ A7.out).mono ?_); rintro e w' ⟨rfl, ⟨nd, rfl⟩⟩; (try clear A7); (try first | exact ⟨rfl, _, World.drewN_drewN _ _ _⟩ | exact ⟨rfl, _, Eq.trans (World.drewN_drewN _ _ _) (congrArg (World.drewN _) (Nat.add_assoc _ _ _))⟩)) | (go_at_call 57; (with_reducible refine (strings_TrimPrefix.calls (t309.extract ((ji8) : Int).toNat t309.size) (⟨#[43]⟩ : ByteArray) t313 _ A14.out).mono ?_); rintro e w' ⟨rfl, ⟨nd, rfl⟩⟩; (try first | exact ⟨rfl, _, World.drewN_drewN _ _ _⟩ | exact ⟨rfl, _, Eq.trans (World.drewN_drewN _ _ _) (congrArg (World.drewN _) (Nat.add_assoc _ _ _))⟩))))
       go_meet
       case rel => exact ⟨_, (t309.extract 0 ((ji8) : Int).toNat), (t313), (by first | rfl | (simp; done) | (simp only [← hji8] <;> (first | rfl | simp)) | (simp [*]; done)), zP, H', ⟨by first | omega | exact Nat.le_refl _⟩, ⟨zB⟩⟩
      ·rw [if_neg c11] at H
       exact absurd H (by simp)
     ·rw [if_neg c10] at H
      exact absurd H (by simp)
    ·rw [if_neg c9] at H
     have c9b0 : decide (0 < (ji8)) = false := decide_eq_false c9
     clear c9
     (first | rw [c9b0] | (simp only [i64_w, i32_w]; rw [c9b0]) | skip)
     have H' := aM H
     clear H
     go_wp2_with (first | (go_at_call 56; (with_reducible refine (strings_LastIndex.calls t309 (⟨#[43]⟩ : ByteArray) t311 _ A6.out).mono ?_); rintro e w' ⟨rfl, ⟨nd, rfl⟩⟩; (try clear A6); (try first | exact ⟨rfl, _, World.drewN_drewN _ _ _⟩ | exact ⟨rfl, _, Eq.trans (World.drewN_drewN _ _ _) (congrArg (World.drewN _) (Nat.add_assoc _ _ _))⟩)) | (go_at_call 56; (with_reducible refine (strings_LastIndex.calls t309 (⟨#[45]⟩ : ByteArray) t312 _ A7.out).mono ?_); rintro e w' ⟨rfl, ⟨nd, rfl⟩⟩; (try clear A7); (try first | exact ⟨rfl, _, World.drewN_drewN _ _ _⟩ | exact ⟨rfl, _, Eq.trans (World.drewN_drewN _ _ _) (congrArg (World.drewN _) (Nat.add_assoc _ _ _))⟩)))
     repeat (go_quiet (first | (go_at_call 56; (with_reducible refine (strings_LastIndex.calls t309 (⟨#[43]⟩ : ByteArray) t311 _ A6.out).mono ?_); rintro e w' ⟨rfl, ⟨nd, rfl⟩⟩; (try clear A6); (try first | exact ⟨rfl, _, World.drewN_drewN _ _ _⟩ | exact ⟨rfl, _, Eq.trans (World.drewN_drewN _ _ _) (congrArg (World.drewN _) (Nat.add_assoc _ _ _))⟩)) | (go_at_call 56; (with_reducible refine (strings_LastIndex.calls t309 (⟨#[45]⟩ : ByteArray) t312 _ A7.out).mono ?_); rintro e w' ⟨rfl, ⟨nd, rfl⟩⟩; (try clear A7); (try first | exact ⟨rfl, _, World.drewN_drewN _ _ _⟩ | exact ⟨rfl, _, Eq.trans (World.drewN_drewN _ _ _) (congrArg (World.drewN _) (Nat.add_assoc _ _ _))⟩))); try go_wp2_with (first | (go_at_call 56; (with_reducible refine (strings_LastIndex.calls t309 (⟨#[43]⟩ : ByteArray) t311 _ A6.out).mono ?_); rintro e w' ⟨rfl, ⟨nd, rfl⟩⟩; (try clear A6); (try first | exact ⟨rfl, _, World.drewN_drewN _ _ _⟩ | exact ⟨rfl, _, Eq.trans (World.drewN_drewN _ _ _) (congrArg (World.drewN _) (Nat.add_assoc _ _ _))⟩)) | (go_at_call 56; (with_reducible refine (strings_LastIndex.calls t309 (⟨#[45]⟩ : ByteArray) t312 _ A7.out).mono ?_); rintro e w' ⟨rfl, ⟨nd, rfl⟩⟩; (try clear A7); (try first | exact ⟨rfl, _, World.drewN_drewN _ _ _⟩ | exact ⟨rfl, _, Eq.trans (World.drewN_drewN _ _ _) (congrArg (World.drewN _) (Nat.add_assoc _ _ _))⟩))))
     go_meet
     case rel => exact ⟨_, ((⟨#[48]⟩ : ByteArray)), (t309), zP, zP, H', ⟨by first | omega | exact Nat.le_refl _⟩, ⟨zB⟩⟩
   ·replace c5 := Bool.eq_false_iff.mpr c5
    subst c5
    rw [if_neg (show ¬ (false = true) by decide)] at H
    have H' := aM H
    clear H
    go_wp2
    repeat (go_quiet (fail); try go_wp2)
    go_meet
    case rel => exact ⟨_, (a0), ((⟨#[48]⟩ : ByteArray)), zP, zP, H', ⟨by first | omega | exact Nat.le_refl _⟩, ⟨zB⟩⟩
  case rest =>
   clear HC4
   try clear c1
   try clear c2
   try clear c2b0
   try clear c2b1
   try clear p2
   try clear c3
   try clear c5
   try clear c9
   try clear c9b0
   try clear c10
   try clear c10b0
   try clear c10b1
   try clear c11
   try clear c11b0
   try clear c11b1
   try clear c12
   try clear c12b0
   try clear c13
   try clear c13b0
   obtain ⟨kq, x4_3, x5_3, rfl, rfl, HA, HJ3, HB⟩ := hcut
   cases kq with
   | zero => exact absurd HA.out (by simp [gauss_Parse.j0])
   | succ kj3 =>
    have H := HA.out
    clear HA
    simp only [gauss_Parse.j0] at H
    obtain ⟨⟨t314, t315⟩, A15, H⟩ := zO H
    try dsimp only at H
    obtain ⟨⟨t316, t317⟩, A16, H⟩ := zO H
    try dsimp only at H
    obtain ⟨t318, A17, H⟩ := zO H
    obtain ⟨⟨t319, t320⟩, A18, H⟩ := zO H
    try dsimp only at H
    by_cases c19 : t315 = true
    ·subst c19
     rw [if_pos rfl] at H
     by_cases c20 : t317 = true
     ·subst c20
      rw [if_pos rfl] at H
      by_cases c21 : t320 = 0
      ·rw [if_pos c21] at H
       have c21b0 : (t320 == 0) = true := beq_iff_eq.mpr c21
       have c21b1 : (t320 != 0) = false := bne_eq_false_iff_eq.mpr c21
       clear c21
       by_cases c22 : t319.toList = a0.toList
       ·rw [if_pos c22] at H
        have c22b0 : (t319.toList == a0.toList) = true := beq_iff_eq.mpr c22
        have c22b1 : (t319.toList != a0.toList) = false := bne_eq_false_iff_eq.mpr c22
        clear c22
        simp only [Option.some.injEq, Prod.mk.injEq] at H
        obtain ⟨rfl, rfl⟩ := H
        go_wp2_with (first | (go_at_call 58; (with_reducible refine (gauss_number.calls x4_3 t314 true _ (zEnv HE) A15.out).mono ?_); rintro e w23 ⟨rfl, hb⟩; (try clear A15); replace HB := aM (below_step zB hb); (try clear hb)) | (go_at_call 58; (with_reducible refine (gauss_number.calls x5_3 t316 true _ (zEnv HE) A16.out).mono ?_); rintro e w24 ⟨rfl, hb⟩; (try clear A16); replace HB := aM (below_step zB hb); (try clear hb)) | (go_at_call 59; (with_reducible refine (gauss_whole.calls t314 t316 t318 _ A17.out).mono ?_); rintro e w25 ⟨rfl, hb⟩; replace HB := aM (below_step zB hb); (try clear hb)) | (go_at_call 60; (with_reducible refine (gauss_Show.calls t318 t319 t320 _ (zEnv HE) A18.out).mono ?_); rintro e w26 ⟨rfl, hb⟩; replace HB := aM (below_step zB hb); (try clear hb)))
        repeat (go_quiet (first | (go_at_call 58; (with_reducible refine (gauss_number.calls x4_3 t314 true _ (zEnv HE) A15.out).mono ?_); rintro e w23 ⟨rfl, hb⟩; (try clear A15); replace HB := aM (below_step zB hb); (try clear hb)) | (go_at_call 58; (with_reducible refine (gauss_number.calls x5_3 t316 true _ (zEnv HE) A16.out).mono ?_); rintro e w24 ⟨rfl, hb⟩; (try clear A16); replace HB := aM (below_step zB hb); (try clear hb)) | (go_at_call 59; (with_reducible refine (gauss_whole.calls t314 t316 t318 _ A17.out).mono ?_); rintro e w25 ⟨rfl, hb⟩; replace HB := aM (below_step zB hb); (try clear hb)) | (go_at_call 60; (with_reducible refine (gauss_Show.calls t318 t319 t320 _ (zEnv HE) A18.out).mono ?_); rintro e w26 ⟨rfl, hb⟩; replace HB := aM (below_step zB hb); (try clear hb))); try go_wp2_with (first | (go_at_call 58; (with_reducible refine (gauss_number.calls x4_3 t314 true _ (zEnv HE) A15.out).mono ?_); rintro e w23 ⟨rfl, hb⟩; (try clear A15); replace HB := aM (below_step zB hb); (try clear hb)) | (go_at_call 58; (with_reducible refine (gauss_number.calls x5_3 t316 true _ (zEnv HE) A16.out).mono ?_); rintro e w24 ⟨rfl, hb⟩; (try clear A16); replace HB := aM (below_step zB hb); (try clear hb)) | (go_at_call 59; (with_reducible refine (gauss_whole.calls t314 t316 t318 _ A17.out).mono ?_); rintro e w25 ⟨rfl, hb⟩; replace HB := aM (below_step zB hb); (try clear hb)) | (go_at_call 60; (with_reducible refine (gauss_Show.calls t318 t319 t320 _ (zEnv HE) A18.out).mono ?_); rintro e w26 ⟨rfl, hb⟩; replace HB := aM (below_step zB hb); (try clear hb))))
        go_ret2
        exact ⟨zE, zB⟩
       ·rw [if_neg c22] at H
        have c22b0 : (t319.toList == a0.toList) = false := beq_eq_false_iff_ne.mpr c22
        have c22b1 : (t319.toList != a0.toList) = true := bne_iff_ne.mpr c22
        simp only [Option.some.injEq, Prod.mk.injEq] at H
        obtain ⟨rfl, rfl⟩ := H
        go_wp2_with (first | (go_at_call 58; (with_reducible refine (gauss_number.calls x4_3 t314 true _ (zEnv HE) A15.out).mono ?_); rintro e w27 ⟨rfl, hb⟩; (try clear A15); replace HB := aM (below_step zB hb); (try clear hb)) | (go_at_call 58; (with_reducible refine (gauss_number.calls x5_3 t316 true _ (zEnv HE) A16.out).mono ?_); rintro e w28 ⟨rfl, hb⟩; (try clear A16); replace HB := aM (below_step zB hb); (try clear hb)) | (go_at_call 59; (with_reducible refine (gauss_whole.calls t314 t316 t318 _ A17.out).mono ?_); rintro e w29 ⟨rfl, hb⟩; replace HB := aM (below_step zB hb); (try clear hb)) | (go_at_call 60; (with_reducible refine (gauss_Show.calls t318 t319 t320 _ (zEnv HE) A18.out).mono ?_); rintro e w30 ⟨rfl, hb⟩; replace HB := aM (below_step zB hb); (try clear hb)))
        repeat (go_quiet (first | (go_at_call 58; (with_reducible refine (gauss_number.calls x4_3 t314 true _ (zEnv HE) A15.out).mono ?_); rintro e w27 ⟨rfl, hb⟩; (try clear A15); replace HB := aM (below_step zB hb); (try clear hb)) | (go_at_call 58; (with_reducible refine (gauss_number.calls x5_3 t316 true _ (zEnv HE) A16.out).mono ?_); rintro e w28 ⟨rfl, hb⟩; (try clear A16); replace HB := aM (below_step zB hb); (try clear hb)) | (go_at_call 59; (with_reducible refine (gauss_whole.calls t314 t316 t318 _ A17.out).mono ?_); rintro e w29 ⟨rfl, hb⟩; replace HB := aM (below_step zB hb); (try clear hb)) | (go_at_call 60; (with_reducible refine (gauss_Show.calls t318 t319 t320 _ (zEnv HE) A18.out).mono ?_); rintro e w30 ⟨rfl, hb⟩; replace HB := aM (below_step zB hb); (try clear hb))); try go_wp2_with (first | (go_at_call 58; (with_reducible refine (gauss_number.calls x4_3 t314 true _ (zEnv HE) A15.out).mono ?_); rintro e w27 ⟨rfl, hb⟩; (try clear A15); replace HB := aM (below_step zB hb); (try clear hb)) | (go_at_call 58; (with_reducible refine (gauss_number.calls x5_3 t316 true _ (zEnv HE) A16.out).mono ?_); rintro e w28 ⟨rfl, hb⟩; (try clear A16); replace HB := aM (below_step zB hb); (try clear hb)) | (go_at_call 59; (with_reducible refine (gauss_whole.calls t314 t316 t318 _ A17.out).mono ?_); rintro e w29 ⟨rfl, hb⟩; replace HB := aM (below_step zB hb); (try clear hb)) | (go_at_call 60; (with_reducible refine (gauss_Show.calls t318 t319 t320 _ (zEnv HE) A18.out).mono ?_); rintro e w30 ⟨rfl, hb⟩; replace HB := aM (below_step zB hb); (try clear hb))))
        go_ret2
        exact ⟨zE, zB⟩
      ·rw [if_neg c21] at H
       have c21b0 : (t320 == 0) = false := beq_eq_false_iff_ne.mpr c21
       have c21b1 : (t320 != 0) = true := bne_iff_ne.mpr c21
       simp only [Option.some.injEq, Prod.mk.injEq] at H
       obtain ⟨rfl, rfl⟩ := H
       go_wp2_with (first | (go_at_call 58; (with_reducible refine (gauss_number.calls x4_3 t314 true _ (zEnv HE) A15.out).mono ?_); rintro e w31 ⟨rfl, hb⟩; (try clear A15); replace HB := aM (below_step zB hb); (try clear hb)) | (go_at_call 58; (with_reducible refine (gauss_number.calls x5_3 t316 true _ (zEnv HE) A16.out).mono ?_); rintro e w32 ⟨rfl, hb⟩; (try clear A16); replace HB := aM (below_step zB hb); (try clear hb)) | (go_at_call 59; (with_reducible refine (gauss_whole.calls t314 t316 t318 _ A17.out).mono ?_); rintro e w33 ⟨rfl, hb⟩; replace HB := aM (below_step zB hb); (try clear hb)) | (go_at_call 60; (with_reducible refine (gauss_Show.calls t318 t319 t320 _ (zEnv HE) A18.out).mono ?_); rintro e w34 ⟨rfl, hb⟩; replace HB := aM (below_step zB hb); (try clear hb)))
       repeat (go_quiet (first | (go_at_call 58; (with_reducible refine (gauss_number.calls x4_3 t314 true _ (zEnv HE) A15.out).mono ?_); rintro e w31 ⟨rfl, hb⟩; (try clear A15); replace HB := aM (below_step zB hb); (try clear hb)) | (go_at_call 58; (with_reducible refine (gauss_number.calls x5_3 t316 true _ (zEnv HE) A16.out).mono ?_); rintro e w32 ⟨rfl, hb⟩; (try clear A16); replace HB := aM (below_step zB hb); (try clear hb)) | (go_at_call 59; (with_reducible refine (gauss_whole.calls t314 t316 t318 _ A17.out).mono ?_); rintro e w33 ⟨rfl, hb⟩; replace HB := aM (below_step zB hb); (try clear hb)) | (go_at_call 60; (with_reducible refine (gauss_Show.calls t318 t319 t320 _ (zEnv HE) A18.out).mono ?_); rintro e w34 ⟨rfl, hb⟩; replace HB := aM (below_step zB hb); (try clear hb))); try go_wp2_with (first | (go_at_call 58; (with_reducible refine (gauss_number.calls x4_3 t314 true _ (zEnv HE) A15.out).mono ?_); rintro e w31 ⟨rfl, hb⟩; (try clear A15); replace HB := aM (below_step zB hb); (try clear hb)) | (go_at_call 58; (with_reducible refine (gauss_number.calls x5_3 t316 true _ (zEnv HE) A16.out).mono ?_); rintro e w32 ⟨rfl, hb⟩; (try clear A16); replace HB := aM (below_step zB hb); (try clear hb)) | (go_at_call 59; (with_reducible refine (gauss_whole.calls t314 t316 t318 _ A17.out).mono ?_); rintro e w33 ⟨rfl, hb⟩; replace HB := aM (below_step zB hb); (try clear hb)) | (go_at_call 60; (with_reducible refine (gauss_Show.calls t318 t319 t320 _ (zEnv HE) A18.out).mono ?_); rintro e w34 ⟨rfl, hb⟩; replace HB := aM (below_step zB hb); (try clear hb))))
       go_ret2
       exact ⟨zE, zB⟩
     ·replace c20 := Bool.eq_false_iff.mpr c20
      subst c20
      rw [if_neg (show ¬ (false = true) by decide)] at H
      simp only [Option.some.injEq, Prod.mk.injEq] at H
      obtain ⟨rfl, rfl⟩ := H
      go_wp2_with (first | (go_at_call 58; (with_reducible refine (gauss_number.calls x4_3 t314 true _ (zEnv HE) A15.out).mono ?_); rintro e w35 ⟨rfl, hb⟩; (try clear A15); replace HB := aM (below_step zB hb); (try clear hb)) | (go_at_call 58; (with_reducible refine (gauss_number.calls x5_3 t316 false _ (zEnv HE) A16.out).mono ?_); rintro e w36 ⟨rfl, hb⟩; (try clear A16); replace HB := aM (below_step zB hb); (try clear hb)) | (go_at_call 59; (with_reducible refine (gauss_whole.calls t314 t316 t318 _ A17.out).mono ?_); rintro e w37 ⟨rfl, hb⟩; replace HB := aM (below_step zB hb); (try clear hb)) | (go_at_call 60; (with_reducible refine (gauss_Show.calls t318 t319 t320 _ (zEnv HE) A18.out).mono ?_); rintro e w38 ⟨rfl, hb⟩; replace HB := aM (below_step zB hb); (try clear hb)))
      repeat (go_quiet (first | (go_at_call 58; (with_reducible refine (gauss_number.calls x4_3 t314 true _ (zEnv HE) A15.out).mono ?_); rintro e w35 ⟨rfl, hb⟩; (try clear A15); replace HB := aM (below_step zB hb); (try clear hb)) | (go_at_call 58; (with_reducible refine (gauss_number.calls x5_3 t316 false _ (zEnv HE) A16.out).mono ?_); rintro e w36 ⟨rfl, hb⟩; (try clear A16); replace HB := aM (below_step zB hb); (try clear hb)) | (go_at_call 59; (with_reducible refine (gauss_whole.calls t314 t316 t318 _ A17.out).mono ?_); rintro e w37 ⟨rfl, hb⟩; replace HB := aM (below_step zB hb); (try clear hb)) | (go_at_call 60; (with_reducible refine (gauss_Show.calls t318 t319 t320 _ (zEnv HE) A18.out).mono ?_); rintro e w38 ⟨rfl, hb⟩; replace HB := aM (below_step zB hb); (try clear hb))); try go_wp2_with (first | (go_at_call 58; (with_reducible refine (gauss_number.calls x4_3 t314 true _ (zEnv HE) A15.out).mono ?_); rintro e w35 ⟨rfl, hb⟩; (try clear A15); replace HB := aM (below_step zB hb); (try clear hb)) | (go_at_call 58; (with_reducible refine (gauss_number.calls x5_3 t316 false _ (zEnv HE) A16.out).mono ?_); rintro e w36 ⟨rfl, hb⟩; (try clear A16); replace HB := aM (below_step zB hb); (try clear hb)) | (go_at_call 59; (with_reducible refine (gauss_whole.calls t314 t316 t318 _ A17.out).mono ?_); rintro e w37 ⟨rfl, hb⟩; replace HB := aM (below_step zB hb); (try clear hb)) | (go_at_call 60; (with_reducible refine (gauss_Show.calls t318 t319 t320 _ (zEnv HE) A18.out).mono ?_); rintro e w38 ⟨rfl, hb⟩; replace HB := aM (below_step zB hb); (try clear hb))))
      go_ret2
      exact ⟨zE, zB⟩
    ·replace c19 := Bool.eq_false_iff.mpr c19
     subst c19
     rw [if_neg (show ¬ (false = true) by decide)] at H
     simp only [Option.some.injEq, Prod.mk.injEq] at H
     obtain ⟨rfl, rfl⟩ := H
     go_wp2_with (first | (go_at_call 58; (with_reducible refine (gauss_number.calls x4_3 t314 false _ (zEnv HE) A15.out).mono ?_); rintro e w39 ⟨rfl, hb⟩; (try clear A15); replace HB := aM (below_step zB hb); (try clear hb)) | (go_at_call 58; (with_reducible refine (gauss_number.calls x5_3 t316 t317 _ (zEnv HE) A16.out).mono ?_); rintro e w40 ⟨rfl, hb⟩; (try clear A16); replace HB := aM (below_step zB hb); (try clear hb)) | (go_at_call 59; (with_reducible refine (gauss_whole.calls t314 t316 t318 _ A17.out).mono ?_); rintro e w41 ⟨rfl, hb⟩; replace HB := aM (below_step zB hb); (try clear hb)) | (go_at_call 60; (with_reducible refine (gauss_Show.calls t318 t319 t320 _ (zEnv HE) A18.out).mono ?_); rintro e w42 ⟨rfl, hb⟩; replace HB := aM (below_step zB hb); (try clear hb)))
     repeat (go_quiet (first | (go_at_call 58; (with_reducible refine (gauss_number.calls x4_3 t314 false _ (zEnv HE) A15.out).mono ?_); rintro e w39 ⟨rfl, hb⟩; (try clear A15); replace HB := aM (below_step zB hb); (try clear hb)) | (go_at_call 58; (with_reducible refine (gauss_number.calls x5_3 t316 t317 _ (zEnv HE) A16.out).mono ?_); rintro e w40 ⟨rfl, hb⟩; (try clear A16); replace HB := aM (below_step zB hb); (try clear hb)) | (go_at_call 59; (with_reducible refine (gauss_whole.calls t314 t316 t318 _ A17.out).mono ?_); rintro e w41 ⟨rfl, hb⟩; replace HB := aM (below_step zB hb); (try clear hb)) | (go_at_call 60; (with_reducible refine (gauss_Show.calls t318 t319 t320 _ (zEnv HE) A18.out).mono ?_); rintro e w42 ⟨rfl, hb⟩; replace HB := aM (below_step zB hb); (try clear hb))); try go_wp2_with (first | (go_at_call 58; (with_reducible refine (gauss_number.calls x4_3 t314 false _ (zEnv HE) A15.out).mono ?_); rintro e w39 ⟨rfl, hb⟩; (try clear A15); replace HB := aM (below_step zB hb); (try clear hb)) | (go_at_call 58; (with_reducible refine (gauss_number.calls x5_3 t316 t317 _ (zEnv HE) A16.out).mono ?_); rintro e w40 ⟨rfl, hb⟩; (try clear A16); replace HB := aM (below_step zB hb); (try clear hb)) | (go_at_call 59; (with_reducible refine (gauss_whole.calls t314 t316 t318 _ A17.out).mono ?_); rintro e w41 ⟨rfl, hb⟩; replace HB := aM (below_step zB hb); (try clear hb)) | (go_at_call 60; (with_reducible refine (gauss_Show.calls t318 t319 t320 _ (zEnv HE) A18.out).mono ?_); rintro e w42 ⟨rfl, hb⟩; replace HB := aM (below_step zB hb); (try clear hb))))
     go_ret2
     exact ⟨zE, zB⟩

/-! ### syntax_of: function 16 -/
def syntax_of.f (k : Nat) (a0 : Int) (a1 : ByteArray) : Option (Bool) := if a0 = 1 then ((prep_Value.f k 1 a1).bind fun bt321 => (if a1.toList = ([] : List UInt8) then (some false) else (some (bt321.2 == 0)))) else (if a0 = 2 then ((syntax_span.f k a1 0 127).bind fun bt323 => (some bt323.1)) else (if a0 = 3 then ((syntax_Integer.f a1).bind fun bt334 => (some (bt334.2 == 0))) else (if a0 = 4 then (if a1.toList = ([84, 82, 85, 69] : List UInt8) then (some true) else (some (a1.toList == ([70, 65, 76, 83, 69] : List UInt8)))) else (if a0 = 6 then ((dn_Parse.f a1).bind fun bt325 => (some (bt325.2 == 0))) else (if a0 = 7 then (if a1.toList = ([] : List UInt8) then (some false) else ((syntax_numeric.f k a1).bind fun t329 => (some t329))) else (if a0 = 8 then ((syntax_span.f k a1 32 126).bind fun bt330 => (if bt330.1 = true then (some (decide (bt330.2 > 0))) else (some false))) else (if a0 = 9 then ((dn_Word.f k a1).bind fun t336 => (if t336 = true then (some true) else ((oid_Parse.f k a1).bind fun bt337 => (some (bt337.2 == 0))))) else (if a0 = 10 then ((gauss_Parse.f k a1).bind fun bt332 => (some (bt332.2 == 0))) else (if a0 = 5 then (some true) else (some true))))))))))
theorem syntax_of.mono : ∀ a0 a1 k, LeO (syntax_of.f k a0 a1) (syntax_of.f (k + 1) a0 a1) := by
 intro a0 a1 k
 unfold syntax_of.f
 repeat' first
   | (with_reducible exact dn_Word.mono _ _)
   | (with_reducible exact gauss_Parse.mono _ _)
   | (with_reducible exact oid_Parse.mono _ _)
   | (with_reducible exact prep_Value.mono _ _ _)
   | (with_reducible exact syntax_numeric.mono _ _)
   | (with_reducible exact syntax_span.mono _ _ _ _)
   | (with_reducible exact LeO.refl _)
   | exact dn_Word.mono _ _
   | exact gauss_Parse.mono _ _
   | exact oid_Parse.mono _ _
   | exact prep_Value.mono _ _ _
   | exact syntax_numeric.mono _ _
   | exact syntax_span.mono _ _ _ _
   | exact LeO.none _
   | refine LeO.ite ?_ ?_
   | refine LeO.bind ?_ (fun _ => ?_)
set_option maxHeartbeats 8000000 in
set_option maxRecDepth 100000 in
theorem syntax_of.calls (k : Nat) (a0 : Int) (a1 : ByteArray) (r : Bool) (w : World) (hE : Env w) (h : syntax_of.f k a0 a1 = some r) :
  Calls Tryz.prog 16 #[.int .i64 a0, .string a1] w fun e w' => e = .returned (.bool r) ∧ Below w.heap.size w w' := by
 have HE := aM hE
 clear hE
 have HB := aM (Below.refl w.heap.size w)
 have H := h
 clear h
 unfold syntax_of.f at H
 by_cases c3 : a0 = 1
 ·rw [if_pos c3] at H
  have c3b0 : (a0 == 1) = true := beq_iff_eq.mpr c3
  have c3b1 : (a0 != 1) = false := bne_eq_false_iff_eq.mpr c3
  clear c3
  obtain ⟨⟨t321, t322⟩, A4, H⟩ := zO H
  try dsimp only at H
  by_cases c5 : a1.toList = ([] : List UInt8)
  ·rw [if_pos c5] at H
   have c5b0 : (a1.toList == ([] : List UInt8)) = true := beq_iff_eq.mpr c5
   have c5b1 : (a1.toList != ([] : List UInt8)) = false := bne_eq_false_iff_eq.mpr c5
   clear c5
   obtain rfl := sI H
   go_enter Tryz.func16, Tryz.ntmps16
   go_wp2_with (first | ((with_reducible refine gate_callee (f := 25) rfl ?_); refine goesL_ (some 33) rfl rfl Tryz.func25 zK rfl #[.int .i64 1, .string a1] rfl zM ?_; (with_reducible refine (prep_Value.calls k 1 a1 t321 t322 _ A4.out).mono ?_); rintro e w6 ⟨rfl, hb⟩; refine ⟨_, rfl, ?_⟩; replace HB := aM (below_step zB hb); (try clear hb)))
   go_ret
   exact ⟨zE, zB⟩
  ·rw [if_neg c5] at H
   have c5b0 : (a1.toList == ([] : List UInt8)) = false := beq_eq_false_iff_ne.mpr c5
   have c5b1 : (a1.toList != ([] : List UInt8)) = true := bne_iff_ne.mpr c5
   obtain rfl := sI H
   go_enter Tryz.func16, Tryz.ntmps16
   go_wp2_with (first | ((with_reducible refine gate_callee (f := 25) rfl ?_); refine goesL_ (some 33) rfl rfl Tryz.func25 zK rfl #[.int .i64 1, .string a1] rfl zM ?_; (with_reducible refine (prep_Value.calls k 1 a1 t321 t322 _ A4.out).mono ?_); rintro e w7 ⟨rfl, hb⟩; refine ⟨_, rfl, ?_⟩; replace HB := aM (below_step zB hb); (try clear hb)))
   go_ret
   exact ⟨zE, zB⟩
 ·rw [if_neg c3] at H
  have c3b0 : (a0 == 1) = false := beq_eq_false_iff_ne.mpr c3
  have c3b1 : (a0 != 1) = true := bne_iff_ne.mpr c3
  by_cases c8 : a0 = 2
  ·rw [if_pos c8] at H
   have c8b0 : (a0 == 2) = true := beq_iff_eq.mpr c8
   have c8b1 : (a0 != 2) = false := bne_eq_false_iff_eq.mpr c8
   clear c8
   obtain ⟨⟨t323, t324⟩, A9, H⟩ := zO H
   try dsimp only at H
   obtain rfl := sI H
   go_enter Tryz.func16, Tryz.ntmps16
   go_wp2_with (first | ((with_reducible refine gate_callee (f := 26) rfl ?_); refine goesL_ (some 44) rfl rfl Tryz.func26 zK rfl #[.string a1, .int .u8 0, .int .u8 127] rfl zM ?_; (with_reducible refine (syntax_span.calls k a1 0 127 t323 t324 _ A9.out).mono ?_); rintro e w' ⟨rfl, ⟨nd, rfl⟩⟩; (try clear A9); refine ⟨_, rfl, ?_⟩))
   go_ret
   exact ⟨zE, zB⟩
  ·rw [if_neg c8] at H
   have c8b0 : (a0 == 2) = false := beq_eq_false_iff_ne.mpr c8
   have c8b1 : (a0 != 2) = true := bne_iff_ne.mpr c8
   by_cases c10 : a0 = 3
   ·rw [if_pos c10] at H
    have c10b0 : (a0 == 3) = true := beq_iff_eq.mpr c10
    have c10b1 : (a0 != 3) = false := bne_eq_false_iff_eq.mpr c10
    clear c10
    obtain ⟨⟨t334, t335⟩, A11, H⟩ := zO H
    try dsimp only at H
    obtain rfl := sI H
    go_enter Tryz.func16, Tryz.ntmps16
    go_wp2_with (first | ((with_reducible refine gate_callee (f := 10) rfl ?_); refine goesL_ (some 50) rfl rfl Tryz.func10 zK rfl #[.string a1] rfl zM ?_; (with_reducible refine (syntax_Integer.calls a1 t334 t335 _ (zEnv HE) A11.out).mono ?_); rintro e w12 ⟨rfl, hb⟩; refine ⟨_, rfl, ?_⟩; replace HB := aM (below_step zB hb); (try clear hb)))
    go_ret
    exact ⟨zE, zB⟩
   ·rw [if_neg c10] at H
    have c10b0 : (a0 == 3) = false := beq_eq_false_iff_ne.mpr c10
    have c10b1 : (a0 != 3) = true := bne_iff_ne.mpr c10
    by_cases c13 : a0 = 4
    ·rw [if_pos c13] at H
     have c13b0 : (a0 == 4) = true := beq_iff_eq.mpr c13
     have c13b1 : (a0 != 4) = false := bne_eq_false_iff_eq.mpr c13
     clear c13
     by_cases c14 : a1.toList = ([84, 82, 85, 69] : List UInt8)
     ·rw [if_pos c14] at H
      have c14b0 : (a1.toList == ([84, 82, 85, 69] : List UInt8)) = true := beq_iff_eq.mpr c14
      have c14b1 : (a1.toList != ([84, 82, 85, 69] : List UInt8)) = false := bne_eq_false_iff_eq.mpr c14
      clear c14
      obtain rfl := sI H
      go_enter Tryz.func16, Tryz.ntmps16
      go_wp2
      go_ret
      exact ⟨zE, zB⟩
     ·rw [if_neg c14] at H
      have c14b0 : (a1.toList == ([84, 82, 85, 69] : List UInt8)) = false := beq_eq_false_iff_ne.mpr c14
      have c14b1 : (a1.toList != ([84, 82, 85, 69] : List UInt8)) = true := bne_iff_ne.mpr c14
      obtain rfl := sI H
      go_enter Tryz.func16, Tryz.ntmps16
      go_wp2
      go_ret
      exact ⟨zE, zB⟩
    ·rw [if_neg c13] at H
     have c13b0 : (a0 == 4) = false := beq_eq_false_iff_ne.mpr c13
     have c13b1 : (a0 != 4) = true := bne_iff_ne.mpr c13
     by_cases c15 : a0 = 6
     ·rw [if_pos c15] at H
      have c15b0 : (a0 == 6) = true := beq_iff_eq.mpr c15
      have c15b1 : (a0 != 6) = false := bne_eq_false_iff_eq.mpr c15
      clear c15
      obtain ⟨⟨t325, t326⟩, A16, H⟩ := zO H
      try dsimp only at H
      obtain rfl := sI H
      go_enter Tryz.func16, Tryz.ntmps16
      go_wp2_with (first | ((with_reducible refine gate_callee (f := 27) rfl ?_); refine goesL_ (some 61) rfl rfl Tryz.func27 zK rfl #[.string a1] rfl zM ?_; (with_reducible refine (dn_Parse.calls a1 t325 t326 _ A16.out).mono ?_); rintro e w17 ⟨v327, rfl, ho0, hb⟩; refine ⟨_, rfl, ?_⟩; have n_ := zI (aM (Kd.S_lower ho0 (below_size zB))) (aM (below_step zB hb)); clear HB; obtain ⟨HO328, HB⟩ := n_; (try clear hb); (try clear ho0)))
      go_ret
      exact ⟨zE, zB⟩
     ·rw [if_neg c15] at H
      have c15b0 : (a0 == 6) = false := beq_eq_false_iff_ne.mpr c15
      have c15b1 : (a0 != 6) = true := bne_iff_ne.mpr c15
      by_cases c18 : a0 = 7
      ·rw [if_pos c18] at H
       have c18b0 : (a0 == 7) = true := beq_iff_eq.mpr c18
       have c18b1 : (a0 != 7) = false := bne_eq_false_iff_eq.mpr c18
       clear c18
       by_cases c19 : a1.toList = ([] : List UInt8)
       ·rw [if_pos c19] at H
        have c19b0 : (a1.toList == ([] : List UInt8)) = true := beq_iff_eq.mpr c19
        have c19b1 : (a1.toList != ([] : List UInt8)) = false := bne_eq_false_iff_eq.mpr c19
        clear c19
        obtain rfl := sI H
        go_enter Tryz.func16, Tryz.ntmps16
        go_wp2
        go_ret
        exact ⟨zE, zB⟩
       ·rw [if_neg c19] at H
        have c19b0 : (a1.toList == ([] : List UInt8)) = false := beq_eq_false_iff_ne.mpr c19
        have c19b1 : (a1.toList != ([] : List UInt8)) = true := bne_iff_ne.mpr c19
        obtain ⟨t329, A20, H⟩ := zO H
        obtain rfl := sI H
        go_enter Tryz.func16, Tryz.ntmps16
        go_wp2_with (first | (go_at_call 28; (with_reducible refine (syntax_numeric.calls k a1 t329 _ A20.out).mono ?_); rintro e w' ⟨rfl, ⟨nd, rfl⟩⟩))
        go_ret
        exact ⟨zE, zB⟩
      ·rw [if_neg c18] at H
       have c18b0 : (a0 == 7) = false := beq_eq_false_iff_ne.mpr c18
       have c18b1 : (a0 != 7) = true := bne_iff_ne.mpr c18
       by_cases c21 : a0 = 8
       ·rw [if_pos c21] at H
        have c21b0 : (a0 == 8) = true := beq_iff_eq.mpr c21
        have c21b1 : (a0 != 8) = false := bne_eq_false_iff_eq.mpr c21
        clear c21
        obtain ⟨⟨t330, t331⟩, A22, H⟩ := zO H
        try dsimp only at H
        by_cases c23 : t330 = true
        ·subst c23
         rw [if_pos rfl] at H
         obtain rfl := sI H
         go_enter Tryz.func16, Tryz.ntmps16
         go_wp2_with (first | ((with_reducible refine gate_callee (f := 26) rfl ?_); refine goesL_ (some 72) rfl rfl Tryz.func26 zK rfl #[.string a1, .int .u8 32, .int .u8 126] rfl zM ?_; (with_reducible refine (syntax_span.calls k a1 32 126 true t331 _ A22.out).mono ?_); rintro e w' ⟨rfl, ⟨nd, rfl⟩⟩; (try clear A22); refine ⟨_, rfl, ?_⟩))
         go_ret
         exact ⟨zE, zB⟩
        ·replace c23 := Bool.eq_false_iff.mpr c23
         subst c23
         rw [if_neg (show ¬ (false = true) by decide)] at H
         obtain rfl := sI H
         go_enter Tryz.func16, Tryz.ntmps16
         go_wp2_with (first | ((with_reducible refine gate_callee (f := 26) rfl ?_); refine goesL_ (some 72) rfl rfl Tryz.func26 zK rfl #[.string a1, .int .u8 32, .int .u8 126] rfl zM ?_; (with_reducible refine (syntax_span.calls k a1 32 126 false t331 _ A22.out).mono ?_); rintro e w' ⟨rfl, ⟨nd, rfl⟩⟩; (try clear A22); refine ⟨_, rfl, ?_⟩))
         go_ret
         exact ⟨zE, zB⟩
       ·rw [if_neg c21] at H
        have c21b0 : (a0 == 8) = false := beq_eq_false_iff_ne.mpr c21
        have c21b1 : (a0 != 8) = true := bne_iff_ne.mpr c21
        by_cases c24 : a0 = 9
        ·rw [if_pos c24] at H
         have c24b0 : (a0 == 9) = true := beq_iff_eq.mpr c24
         have c24b1 : (a0 != 9) = false := bne_eq_false_iff_eq.mpr c24
         clear c24
         obtain ⟨t336, A25, H⟩ := zO H
         by_cases c26 : t336 = true
         ·subst c26
          rw [if_pos rfl] at H
          obtain rfl := sI H
          go_enter Tryz.func16, Tryz.ntmps16
          go_wp2_with (first | ((with_reducible refine gate_callee (f := 29) rfl ?_); refine goesL_ (some 81) rfl rfl Tryz.func29 zK rfl #[.string a1] rfl zM ?_; (with_reducible refine (dn_Word.calls k a1 true _ A25.out).mono ?_); rintro e w' ⟨rfl, ⟨nd, rfl⟩⟩; refine ⟨_, rfl, ?_⟩))
          go_ret
          exact ⟨zE, zB⟩
         ·replace c26 := Bool.eq_false_iff.mpr c26
          subst c26
          rw [if_neg (show ¬ (false = true) by decide)] at H
          obtain ⟨⟨t337, t338⟩, A27, H⟩ := zO H
          try dsimp only at H
          obtain rfl := sI H
          go_enter Tryz.func16, Tryz.ntmps16
          go_wp2_with (first | ((with_reducible refine gate_callee (f := 29) rfl ?_); refine goesL_ (some 81) rfl rfl Tryz.func29 zK rfl #[.string a1] rfl zM ?_; (with_reducible refine (dn_Word.calls k a1 false _ A25.out).mono ?_); rintro e w' ⟨rfl, ⟨nd, rfl⟩⟩; refine ⟨_, rfl, ?_⟩) | ((with_reducible refine gate_callee (f := 30) rfl ?_); refine goesL_ (some 84) rfl rfl Tryz.func30 zK rfl #[.string a1] rfl zM ?_; (with_reducible refine (oid_Parse.calls k a1 t337 t338 _ (zEnv HE) A27.out).mono ?_); rintro e w28 ⟨v339, rfl, ho0, hb⟩; refine ⟨_, rfl, ?_⟩; have n_ := zI (aM (Kd.R_lower ho0 (below_size zB))) (aM (below_step zB hb)); clear HB; obtain ⟨HO340, HB⟩ := n_; (try clear hb); (try clear ho0)))
          go_ret
          exact ⟨zE, zB⟩
        ·rw [if_neg c24] at H
         have c24b0 : (a0 == 9) = false := beq_eq_false_iff_ne.mpr c24
         have c24b1 : (a0 != 9) = true := bne_iff_ne.mpr c24
         by_cases c29 : a0 = 10
         ·rw [if_pos c29] at H
          have c29b0 : (a0 == 10) = true := beq_iff_eq.mpr c29
          have c29b1 : (a0 != 10) = false := bne_eq_false_iff_eq.mpr c29
          clear c29
          obtain ⟨⟨t332, t333⟩, A30, H⟩ := zO H
          try dsimp only at H
          obtain rfl := sI H
          go_enter Tryz.func16, Tryz.ntmps16
          go_wp2_with (first | ((with_reducible refine gate_callee (f := 31) rfl ?_); refine goesL_ (some 89) rfl rfl Tryz.func31 zK rfl #[.string a1] rfl zM ?_; (with_reducible refine (gauss_Parse.calls k a1 t332 t333 _ (zEnv HE) A30.out).mono ?_); rintro e w31 ⟨rfl, hb⟩; refine ⟨_, rfl, ?_⟩; replace HB := aM (below_step zB hb); (try clear hb)))
          go_ret
          exact ⟨zE, zB⟩
         ·rw [if_neg c29] at H
          have c29b0 : (a0 == 10) = false := beq_eq_false_iff_ne.mpr c29
          have c29b1 : (a0 != 10) = true := bne_iff_ne.mpr c29
          by_cases c32 : a0 = 5
          ·rw [if_pos c32] at H
           have c32b0 : (a0 == 5) = true := beq_iff_eq.mpr c32
           have c32b1 : (a0 != 5) = false := bne_eq_false_iff_eq.mpr c32
           clear c32
           obtain rfl := sI H
           go_enter Tryz.func16, Tryz.ntmps16
           go_wp2
           go_ret
           exact ⟨zE, zB⟩
          ·rw [if_neg c32] at H
           have c32b0 : (a0 == 5) = false := beq_eq_false_iff_ne.mpr c32
           have c32b1 : (a0 != 5) = true := bne_iff_ne.mpr c32
           obtain rfl := sI H
           go_enter Tryz.func16, Tryz.ntmps16
           go_wp2
           go_ret
           exact ⟨zE, zB⟩

/-! ### syntax_Check: function 8 -/
def syntax_Check.f (k : Nat) (a0 : Int) (a1 : ByteArray) : Option (Int) := (syntax_Known.f a0).bind fun t341 => (if t341 = true then (if (a1.size : Int) > 400 then (some 3) else ((syntax_of.f k a0 a1).bind fun t342 => (if t342 = true then (some 0) else (some 180)))) else (some 2))
theorem syntax_Check.mono : ∀ a0 a1 k, LeO (syntax_Check.f k a0 a1) (syntax_Check.f (k + 1) a0 a1) := by
 intro a0 a1 k
 unfold syntax_Check.f
 repeat' first
   | (with_reducible exact syntax_of.mono _ _ _)
   | (with_reducible exact LeO.refl _)
   | exact syntax_of.mono _ _ _
   | exact LeO.none _
   | refine LeO.ite ?_ ?_
   | refine LeO.bind ?_ (fun _ => ?_)
set_option maxHeartbeats 8000000 in
set_option maxRecDepth 100000 in
theorem syntax_Check.calls (k : Nat) (a0 : Int) (a1 : ByteArray) (r : Int) (w : World) (hE : Env w) (h : syntax_Check.f k a0 a1 = some r) :
  Calls Tryz.prog 8 #[.int .i64 a0, .string a1] w fun e w' => e = .returned (.int .i64 r) ∧ Below w.heap.size w w' := by
 have HE := aM hE
 clear hE
 have HB := aM (Below.refl w.heap.size w)
 have H := h
 clear h
 unfold syntax_Check.f at H
 obtain ⟨t341, A3, H⟩ := zO H
 by_cases c4 : t341 = true
 ·subst c4
  rw [if_pos rfl] at H
  by_cases c5 : (a1.size : Int) > 400
  ·rw [if_pos c5] at H
   have c5b0 : decide (400 < (a1.size : Int)) = true := decide_eq_true c5
   have c5b1 : decide (400 < a1.size) = true := decide_eq_true (by omega)
   clear c5
   obtain rfl := sI H
   go_enter Tryz.func8, Tryz.ntmps8
   go_wp2_with (first | ((with_reducible refine gate_callee (f := 12) rfl ?_); refine goesL_ (some 7) rfl rfl Tryz.func12 zK rfl #[.int .i64 a0] rfl zM ?_; (with_reducible refine (syntax_Known.calls a0 true _ A3.out).mono ?_); rintro e w' ⟨rfl, ⟨nd, rfl⟩⟩; refine ⟨_, rfl, ?_⟩))
   go_ret
   exact ⟨zE, zB⟩
  ·rw [if_neg c5] at H
   have c5b0 : decide (400 < (a1.size : Int)) = false := decide_eq_false c5
   have c5b1 : decide (400 < a1.size) = false := decide_eq_false (by omega)
   clear c5
   obtain ⟨t342, A6, H⟩ := zO H
   by_cases c7 : t342 = true
   ·subst c7
    rw [if_pos rfl] at H
    obtain rfl := sI H
    go_enter Tryz.func8, Tryz.ntmps8
    go_wp2_with (first | ((with_reducible refine gate_callee (f := 12) rfl ?_); refine goesL_ (some 7) rfl rfl Tryz.func12 zK rfl #[.int .i64 a0] rfl zM ?_; (with_reducible refine (syntax_Known.calls a0 true _ A3.out).mono ?_); rintro e w' ⟨rfl, ⟨nd, rfl⟩⟩; refine ⟨_, rfl, ?_⟩) | ((with_reducible refine gate_callee (f := 16) rfl ?_); refine goesL_ (some 16) rfl rfl Tryz.func16 zK rfl #[.int .i64 a0, .string a1] rfl zM ?_; (with_reducible refine (syntax_of.calls k a0 a1 true _ (zEnv HE) A6.out).mono ?_); rintro e w8 ⟨rfl, hb⟩; refine ⟨_, rfl, ?_⟩; replace HB := aM (below_step zB hb); (try clear hb)))
    go_ret
    exact ⟨zE, zB⟩
   ·replace c7 := Bool.eq_false_iff.mpr c7
    subst c7
    rw [if_neg (show ¬ (false = true) by decide)] at H
    obtain rfl := sI H
    go_enter Tryz.func8, Tryz.ntmps8
    go_wp2_with (first | ((with_reducible refine gate_callee (f := 12) rfl ?_); refine goesL_ (some 7) rfl rfl Tryz.func12 zK rfl #[.int .i64 a0] rfl zM ?_; (with_reducible refine (syntax_Known.calls a0 true _ A3.out).mono ?_); rintro e w' ⟨rfl, ⟨nd, rfl⟩⟩; refine ⟨_, rfl, ?_⟩) | ((with_reducible refine gate_callee (f := 16) rfl ?_); refine goesL_ (some 16) rfl rfl Tryz.func16 zK rfl #[.int .i64 a0, .string a1] rfl zM ?_; (with_reducible refine (syntax_of.calls k a0 a1 false _ (zEnv HE) A6.out).mono ?_); rintro e w9 ⟨rfl, hb⟩; refine ⟨_, rfl, ?_⟩; replace HB := aM (below_step zB hb); (try clear hb)))
    go_ret
    exact ⟨zE, zB⟩
 ·replace c4 := Bool.eq_false_iff.mpr c4
  subst c4
  rw [if_neg (show ¬ (false = true) by decide)] at H
  obtain rfl := sI H
  go_enter Tryz.func8, Tryz.ntmps8
  go_wp2_with (first | ((with_reducible refine gate_callee (f := 12) rfl ?_); refine goesL_ (some 7) rfl rfl Tryz.func12 zK rfl #[.int .i64 a0] rfl zM ?_; (with_reducible refine (syntax_Known.calls a0 false _ A3.out).mono ?_); rintro e w' ⟨rfl, ⟨nd, rfl⟩⟩; refine ⟨_, rfl, ?_⟩))
  go_ret
  exact ⟨zE, zB⟩

/-! ### syntax_Fits: function 7 -/
def syntax_Fits.l0 : Nat → ByteArray → List Int → Int → Option (List Int)
 | 0, _, _, _ => none
 | k + 1, x0, x3, x4 => (syntax_Known.f x4).bind fun t343 => (if t343 = true then ((syntax_Check.f k x4 x0).bind fun t344 => (if t344 = 0 then (if x3.length < 17592186044416 then (syntax_Fits.l0 k x0 (x3 ++ [x4]) (wrap64 (x4 + 1))) else (none)) else (syntax_Fits.l0 k x0 x3 (wrap64 (x4 + 1))))) else (some x3))
def syntax_Fits.f (k : Nat) (a0 : ByteArray) : Option (List Int) := syntax_Fits.l0 k a0 ([] : List Int) 1
theorem syntax_Fits.mono_l : ∀ k, (∀ y0 y1 y2, LeO (syntax_Fits.l0 k y0 y1 y2) (syntax_Fits.l0 (k + 1) y0 y1 y2))
 | 0 => fun _ _ _ r h => by simp [syntax_Fits.l0] at h
 | k + 1 => by
  have ih0 := syntax_Fits.mono_l k
  ·intro y0 y1 y2
   unfold syntax_Fits.l0
   repeat' first
   | (with_reducible exact ih0 _ _ _)
   | (with_reducible exact syntax_Check.mono _ _ _)
   | (with_reducible exact LeO.refl _)
   | exact ih0 _ _ _
   | exact syntax_Check.mono _ _ _
   | exact LeO.none _
   | refine LeO.ite ?_ ?_
   | refine LeO.bind ?_ (fun _ => ?_)
theorem syntax_Fits.mono : ∀ a0 k, LeO (syntax_Fits.f k a0) (syntax_Fits.f (k + 1) a0) := by
 intro a0 k
 have ih0 := syntax_Fits.mono_l k
 unfold syntax_Fits.f
 repeat' first
   | (with_reducible exact ih0 _ _ _)
   | (with_reducible exact syntax_Check.mono _ _ _)
   | (with_reducible exact LeO.refl _)
   | exact ih0 _ _ _
   | exact syntax_Check.mono _ _ _
   | exact LeO.none _
   | refine LeO.ite ?_ ?_
   | refine LeO.bind ?_ (fun _ => ?_)
set_option maxHeartbeats 8000000 in
set_option maxRecDepth 100000 in
theorem syntax_Fits.calls (k : Nat) (a0 : ByteArray) (r : List Int) (w : World) (hE : Env w) (h : syntax_Fits.f k a0 = some r) :
  Calls Tryz.prog 7 #[.string a0] w fun e w' => ∃ v0_ : Value, e = .returned (v0_) ∧ Kd.R (Kd.int .i64) 3 w' w.heap.size (fun _ => True) v0_ r ∧ Below w.heap.size w w' := by
 have HE := aM hE
 clear hE
 have HB := aM (Below.refl w.heap.size w)
 have H := h
 clear h
 unfold syntax_Fits.f at H
 have H' := aM H
 clear H
 go_enter Tryz.func7, Tryz.ntmps7
 go_wp2
 (repeat (go_step3; try (go_wp2)))
 go_loopg [3, 4] k (fun kq v3 v4 w' => ∃ (x3_1 : List Int) (x4_1 : Int), v4 = .int .i64 x4_1 ∧ Aside0 (syntax_Fits.l0 kq a0 x3_1 x4_1 = some r) ∧ Aside0 (kq ≤ k) ∧ Aside0 (Kd.R (Kd.int .i64) 3 w' w.heap.size (fun _ => True) v3 x3_1) ∧ Aside0 (Below w.heap.size w w'))
 case atStart => exact ⟨(([] : List Int)), (1), zP, H', ⟨Nat.le_refl _⟩, ⟨zL⟩, ⟨zB⟩⟩
 case round =>
  clear H'
  obtain ⟨x3_1, x4_1, rfl, HA, HK1, HO_3, HB⟩ := hrel
  cases gk with
  | zero => exact absurd HA.out (by simp [syntax_Fits.l0])
  | succ k1 =>
   have H := HA.out
   clear HA
   simp only [syntax_Fits.l0] at H
   obtain ⟨t343, A2, H⟩ := zO H
   by_cases c3 : t343 = true
   ·subst c3
    rw [if_pos rfl] at H
    obtain ⟨t344, A4, H⟩ := zO H
    by_cases c5 : t344 = 0
    ·rw [if_pos c5] at H
     have c5b0 : (t344 == 0) = true := beq_iff_eq.mpr c5
     have c5b1 : (t344 != 0) = false := bne_eq_false_iff_eq.mpr c5
     clear c5
     by_cases c6 : x3_1.length < 17592186044416
     ·rw [if_pos c6] at H
      have LMc6 := aM c6
      clear c6
      obtain ⟨y345, hy345⟩ : ∃ y_ : List Int, y_ = (x3_1 ++ [x4_1]) := ⟨_, rfl⟩
      replace H : (syntax_Fits.l0 k1 a0 y345 (wrap64 (x4_1 + 1))) = some r := zY hy345 H
      have Ny345 := aM hy345
      clear hy345
      have H' := aM H
      clear H
      go_wp2_with (first | ((with_reducible refine gate_callee (f := 12) rfl ?_); refine goesL_ (some 6) rfl rfl Tryz.func12 zK rfl #[.int .i64 x4_1] rfl zM ?_; (with_reducible refine (syntax_Known.calls x4_1 true _ A2.out).mono ?_); rintro e w' ⟨rfl, ⟨nd, rfl⟩⟩; refine ⟨_, rfl, ?_⟩) | ((with_reducible refine gate_callee (f := 8) rfl ?_); refine goesL_ (some 11) rfl rfl Tryz.func8 zK rfl #[.int .i64 x4_1, .string a0] rfl zM ?_; (with_reducible refine (syntax_Check.calls k1 x4_1 a0 t344 _ (zEnv HE) A4.out).mono ?_); rintro e w7 ⟨rfl, hb⟩; refine ⟨_, rfl, ?_⟩; have n_ := zI (aM (Kd.R_below (zR HO_3) hb)) (aM (below_step zB hb)); clear HO_3 HB; obtain ⟨HO_3, HB⟩ := n_; (try clear hb); (try clear hk)) | ((with_reducible refine gate_builtin (b := .append) (xs := #[.tmp 13, .tmp 15]) rfl ?_); at_builtin; refine Kd.R_append (Kd.int .i64) (w0 := w) w.heap.size rfl (.tmp 13) (.tmp 15) 22 3 (.int .i64 0) 8 rfl Tryz.underlying22 info3 rfl (by decide) (by omega) u3 x3_1 x4_1 [.int .i64 x4_1] (fun _ => True) (fun _ => False) rfl rfl ?aP (fun _ hk => hk.elim) ?aF ?aO ?aB ?aS ?aL ?_; (case aP => exact rfl); (case aB => exact zB); (case aF => exact (fun _ _ => trivial)); (case aO => exact (zR HO_3)); (case aS => exact (below_size zB)); (case aL => have := LMc6.out; omega); intro v346 w8 ho hb hg hat; rw [← Ny345.out] at ho; have n_ := zI (aM (hb)) (aM (ho)); clear HB HO_3; obtain ⟨HB, HO347⟩ := n_; clear ho hb hg hat))
      go_roundg k1
      case measure => have := HK1.out; omega
      case rel => exact ⟨(y345), (wrap64 (x4_1 + 1)), zP, H', ⟨by have := HK1.out; omega⟩, ⟨zR HO347⟩, ⟨zB⟩⟩
     ·rw [if_neg c6] at H
      exact absurd H (by simp)
    ·rw [if_neg c5] at H
     have c5b0 : (t344 == 0) = false := beq_eq_false_iff_ne.mpr c5
     have c5b1 : (t344 != 0) = true := bne_iff_ne.mpr c5
     have H' := aM H
     clear H
     go_wp2_with (first | ((with_reducible refine gate_callee (f := 12) rfl ?_); refine goesL_ (some 6) rfl rfl Tryz.func12 zK rfl #[.int .i64 x4_1] rfl zM ?_; (with_reducible refine (syntax_Known.calls x4_1 true _ A2.out).mono ?_); rintro e w' ⟨rfl, ⟨nd, rfl⟩⟩; refine ⟨_, rfl, ?_⟩) | ((with_reducible refine gate_callee (f := 8) rfl ?_); refine goesL_ (some 11) rfl rfl Tryz.func8 zK rfl #[.int .i64 x4_1, .string a0] rfl zM ?_; (with_reducible refine (syntax_Check.calls k1 x4_1 a0 t344 _ (zEnv HE) A4.out).mono ?_); rintro e w9 ⟨rfl, hb⟩; refine ⟨_, rfl, ?_⟩; have n_ := zI (aM (Kd.R_below (zR HO_3) hb)) (aM (below_step zB hb)); clear HO_3 HB; obtain ⟨HO_3, HB⟩ := n_; (try clear hb)))
     go_roundg k1
     case measure => have := HK1.out; omega
     case rel => exact ⟨(x3_1), (wrap64 (x4_1 + 1)), zP, H', ⟨by have := HK1.out; omega⟩, ⟨zR HO_3⟩, ⟨zB⟩⟩
   ·replace c3 := Bool.eq_false_iff.mpr c3
    subst c3
    rw [if_neg (show ¬ (false = true) by decide)] at H
    obtain rfl := sI H
    go_wp2_with (first | ((with_reducible refine gate_callee (f := 12) rfl ?_); refine goesL_ (some 6) rfl rfl Tryz.func12 zK rfl #[.int .i64 x4_1] rfl zM ?_; (with_reducible refine (syntax_Known.calls x4_1 false _ A2.out).mono ?_); rintro e w' ⟨rfl, ⟨nd, rfl⟩⟩; refine ⟨_, rfl, ?_⟩))
    (try rw [Exit.noGoto_ret])
    go_ret
    exact ⟨_, zE, zR HO_3, zB⟩

/-! ### toponymlaw19_awake: function 9 -/
def toponymlaw19_awake.f (k : Nat)  : Option (Bool) := (syntax_Fits.f k (⟨#[49, 50]⟩ : ByteArray)).bind fun t348 => ((syntax_Integer.f (⟨#[45, 49, 50]⟩ : ByteArray)).bind fun bt351 => (if (t348.length : Int) = 7 then (if 0 < (t348.length : Int) then (if (rd t348 0) = 1 then (if 6 < (t348.length : Int) then (if (rd t348 6) = 10 then (if bt351.1 = (-12) then (if bt351.2 = 0 then ((syntax_Check.f k 4 (⟨#[116, 114, 117, 101]⟩ : ByteArray)).bind fun t355 => (if t355 = 180 then ((syntax_Check.f k 0 (⟨#[97]⟩ : ByteArray)).bind fun t356 => (if t356 = 2 then ((syntax_Known.f 10).bind fun t357 => (if t357 = true then ((syntax_Known.f 11).bind fun t358 => (some (!t358))) else (some false))) else (some false))) else (some false))) else (some false)) else (some false)) else (some false)) else (none)) else (some false)) else (none)) else (some false)))
theorem toponymlaw19_awake.mono : ∀ k, LeO (toponymlaw19_awake.f k ) (toponymlaw19_awake.f (k + 1) ) := by
 intro  k
 unfold toponymlaw19_awake.f
 repeat' first
   | (with_reducible exact syntax_Check.mono _ _ _)
   | (with_reducible exact syntax_Fits.mono _ _)
   | (with_reducible exact LeO.refl _)
   | exact syntax_Check.mono _ _ _
   | exact syntax_Fits.mono _ _
   | exact LeO.none _
   | refine LeO.ite ?_ ?_
   | refine LeO.bind ?_ (fun _ => ?_)
set_option maxHeartbeats 8000000 in
set_option maxRecDepth 100000 in
theorem toponymlaw19_awake.calls (k : Nat)  (r : Bool) (w : World) (hE : Env w) (h : toponymlaw19_awake.f k  = some r) :
  Calls Tryz.prog 9 #[] w fun e w' => e = .returned (.bool r) ∧ Below w.heap.size w w' := by
 have hT := aM (yes_of toponymlaw19_awake.mono (n := 100) (by decide +kernel) h)
 have HE := aM hE
 clear hE
 have HB := aM (Below.refl w.heap.size w)
 have H := h
 clear h
 unfold toponymlaw19_awake.f at H
 obtain ⟨t348, A1, H⟩ := zO H
 obtain ⟨⟨t351, t352⟩, A2, H⟩ := zO H
 try dsimp only at H
 by_cases c3 : (t348.length : Int) = 7
 ·rw [if_pos c3] at H
  have c3b0 : ((t348.length : Int) == 7) = true := beq_iff_eq.mpr c3
  have c3b1 : ((t348.length : Int) != 7) = false := bne_eq_false_iff_eq.mpr c3
  clear c3
  by_cases c4 : 0 < (t348.length : Int)
  ·rw [if_pos c4] at H
   have c4b0 : decide (0 < (t348.length : Int)) = true := decide_eq_true c4
   have c4b1 : decide (0 < t348.length) = true := decide_eq_true (by omega)
   clear c4
   by_cases c5 : (rd t348 0) = 1
   ·rw [if_pos c5] at H
    have c5b0 : ((rd t348 0) == 1) = true := beq_iff_eq.mpr c5
    have c5b1 : ((rd t348 0) != 1) = false := bne_eq_false_iff_eq.mpr c5
    clear c5
    by_cases c6 : 6 < (t348.length : Int)
    ·rw [if_pos c6] at H
     have c6b0 : decide (6 < (t348.length : Int)) = true := decide_eq_true c6
     have c6b1 : decide (6 < t348.length) = true := decide_eq_true (by omega)
     clear c6
     by_cases c7 : (rd t348 6) = 10
     ·rw [if_pos c7] at H
      have c7b0 : ((rd t348 6) == 10) = true := beq_iff_eq.mpr c7
      have c7b1 : ((rd t348 6) != 10) = false := bne_eq_false_iff_eq.mpr c7
      clear c7
      by_cases c8 : t351 = (-12)
      ·rw [if_pos c8] at H
       have c8b0 : (t351 == (-12)) = true := beq_iff_eq.mpr c8
       have c8b1 : (t351 != (-12)) = false := bne_eq_false_iff_eq.mpr c8
       clear c8
       by_cases c9 : t352 = 0
       ·rw [if_pos c9] at H
        have c9b0 : (t352 == 0) = true := beq_iff_eq.mpr c9
        have c9b1 : (t352 != 0) = false := bne_eq_false_iff_eq.mpr c9
        clear c9
        obtain ⟨t355, A10, H⟩ := zO H
        by_cases c11 : t355 = 180
        ·rw [if_pos c11] at H
         have c11b0 : (t355 == 180) = true := beq_iff_eq.mpr c11
         have c11b1 : (t355 != 180) = false := bne_eq_false_iff_eq.mpr c11
         clear c11
         obtain ⟨t356, A12, H⟩ := zO H
         by_cases c13 : t356 = 2
         ·rw [if_pos c13] at H
          have c13b0 : (t356 == 2) = true := beq_iff_eq.mpr c13
          have c13b1 : (t356 != 2) = false := bne_eq_false_iff_eq.mpr c13
          clear c13
          obtain ⟨t357, A14, H⟩ := zO H
          by_cases c15 : t357 = true
          ·subst c15
           rw [if_pos rfl] at H
           obtain ⟨t358, A16, H⟩ := zO H
           obtain rfl := sI H
           go_enter Tryz.func9, Tryz.ntmps9
           go_wp2_with (first | ((with_reducible refine gate_callee (f := 7) rfl ?_); refine goesL_ (some 4) rfl rfl Tryz.func7 zK rfl #[.string (⟨#[49, 50]⟩ : ByteArray)] rfl zM ?_; (with_reducible refine (syntax_Fits.calls k (⟨#[49, 50]⟩ : ByteArray) t348 _ (zEnv HE) A1.out).mono ?_); rintro e w17 ⟨v349, rfl, ho0, hb⟩; refine ⟨_, rfl, ?_⟩; have n_ := zI (aM (Kd.R_lower ho0 (below_size zB))) (aM (below_step zB hb)); clear HB; obtain ⟨HO350, HB⟩ := n_; (try clear hb); (try clear ho0)) | ((with_reducible refine gate_callee (f := 10) rfl ?_); refine goesL_ (some 6) rfl rfl Tryz.func10 zK rfl #[.string (⟨#[45, 49, 50]⟩ : ByteArray)] rfl zM ?_; (with_reducible refine (syntax_Integer.calls (⟨#[45, 49, 50]⟩ : ByteArray) t351 t352 _ (zEnv HE) A2.out).mono ?_); rintro e w18 ⟨rfl, hb⟩; refine ⟨_, rfl, ?_⟩; have n_ := zI (aM (Kd.R_below (zR HO350) hb)) (aM (below_step zB hb)); clear HO350 HB; obtain ⟨HO350, HB⟩ := n_; (try clear hb); obtain ⟨Ao19, co19, rfl⟩ := Kd.R_slice HO350.out; have p353 : 0 ≤ (0 : Int) := (by omega); have q353 : 0 < (t348.length : Int) := zoA; obtain ⟨ad353, e353, hx353_0⟩ := Kd.at_int (Kd.R_reads' HO350.out).2.2 0 p353 q353; cases e353; have qi353 : (0 < t348.length) = True := eq_true (by omega); (try rw [show ((0 : Int)).toNat = 0 from rfl] at hx353_0); (try rw [Addr.add_zero'] at hx353_0); replace p353 := eq_true p353; replace q353 := eq_true q353; have p354 : 0 ≤ (6 : Int) := (by omega); have q354 : 6 < (t348.length : Int) := zoA; obtain ⟨ad354, e354, hx354_0⟩ := Kd.at_int (Kd.R_reads' HO350.out).2.2 6 p354 q354; obtain rfl : ad353 = ad354 := (by injection e354); (try simp only [show (6 : Int).toNat = 6 from rfl, Nat.reduceMul, Nat.reduceEqDiff, Go.Addr.add, ↓reduceIte] at hx354_0); have qi354 : (6 < t348.length) = True := eq_true (by omega); (try rw [show ((6 : Int)).toNat = 6 from rfl] at hx354_0); replace p354 := eq_true p354; replace q354 := eq_true q354) | (go_at_call 8; (with_reducible refine (syntax_Check.calls k 4 (⟨#[116, 114, 117, 101]⟩ : ByteArray) t355 _ (zEnv HE) A10.out).mono ?_); rintro e w20 ⟨rfl, hb⟩; (try clear A10); have n_ := zI (aM (Kd.R_below (zR HO350) hb)) (aM (below_step zB hb)); clear HO350 HB; obtain ⟨HO350, HB⟩ := n_; (try clear hb)) | (go_at_call 8; (with_reducible refine (syntax_Check.calls k 0 (⟨#[97]⟩ : ByteArray) t356 _ (zEnv HE) A12.out).mono ?_); rintro e w21 ⟨rfl, hb⟩; (try clear A12); have n_ := zI (aM (Kd.R_below (zR HO350) hb)) (aM (below_step zB hb)); clear HO350 HB; obtain ⟨HO350, HB⟩ := n_; (try clear hb)) | (go_at_call 12; (with_reducible refine (syntax_Known.calls 10 true _ A14.out).mono ?_); rintro e w' ⟨rfl, ⟨nd, rfl⟩⟩; (try clear A14)) | (go_at_call 12; (with_reducible refine (syntax_Known.calls 11 t358 _ A16.out).mono ?_); rintro e w' ⟨rfl, ⟨nd, rfl⟩⟩; (try clear A16)))
           go_ret
           exact ⟨zE, zB⟩
          ·replace c15 := Bool.eq_false_iff.mpr c15
           subst c15
           rw [if_neg (show ¬ (false = true) by decide)] at H
           exact absurd ((sI H).trans hT.out) (by decide)
         ·rw [if_neg c13] at H
          exact absurd ((sI H).trans hT.out) (by decide)
        ·rw [if_neg c11] at H
         exact absurd ((sI H).trans hT.out) (by decide)
       ·rw [if_neg c9] at H
        exact absurd ((sI H).trans hT.out) (by decide)
      ·rw [if_neg c8] at H
       exact absurd ((sI H).trans hT.out) (by decide)
     ·rw [if_neg c7] at H
      exact absurd ((sI H).trans hT.out) (by decide)
    ·rw [if_neg c6] at H
     exact absurd H (by simp)
   ·rw [if_neg c5] at H
    exact absurd ((sI H).trans hT.out) (by decide)
  ·rw [if_neg c4] at H
   exact absurd H (by simp)
 ·rw [if_neg c3] at H
  exact absurd ((sI H).trans hT.out) (by decide)
/-! ### toponymlaw19_SyntaxSmall: function 4 -/
def toponymlaw19_SyntaxSmall.j0 : Nat → ByteArray → ByteArray → Int → Int → Int → Bool → Option (Bool)
 | 0, _, _, _, _, _, _ => none
 | k + 1, x0, x1, x5, x6, x7, x24 => if x24 = true then (if x6 = 0 then ((toponymlaw19_awake.f k).bind fun t363 => (some t363)) else (if x5 = 0 then (if x6 = 180 then ((toponymlaw19_awake.f k).bind fun t364 => (some t364)) else (some false)) else (some false))) else (if ((x5 == x7) == (x0.toList == x1.toList)) = true then ((toponymlaw19_awake.f k).bind fun t365 => (some t365)) else (some false))
def toponymlaw19_SyntaxSmall.f (k : Nat) (a0 : ByteArray) (a1 : ByteArray) : Option (Bool) := (syntax_Integer.f a0).bind fun bt359 => ((syntax_Integer.f a1).bind fun bt361 => (if bt359.2 = 0 then (toponymlaw19_SyntaxSmall.j0 k a0 a1 bt359.1 bt359.2 bt361.1 (bt361.2 != 0)) else (toponymlaw19_SyntaxSmall.j0 k a0 a1 bt359.1 bt359.2 bt361.1 true)))
theorem toponymlaw19_SyntaxSmall.mono_l : ∀ k, (∀ y0 y1 y2 y3 y4 y5, LeO (toponymlaw19_SyntaxSmall.j0 k y0 y1 y2 y3 y4 y5) (toponymlaw19_SyntaxSmall.j0 (k + 1) y0 y1 y2 y3 y4 y5))
 | 0 => fun _ _ _ _ _ _ r h => by simp [toponymlaw19_SyntaxSmall.j0] at h
 | k + 1 => by
  have ih0 := toponymlaw19_SyntaxSmall.mono_l k
  ·intro y0 y1 y2 y3 y4 y5
   unfold toponymlaw19_SyntaxSmall.j0
   repeat' first
   | (with_reducible exact ih0 _ _ _ _ _ _)
   | (with_reducible exact toponymlaw19_awake.mono _)
   | (with_reducible exact LeO.refl _)
   | exact ih0 _ _ _ _ _ _
   | exact toponymlaw19_awake.mono _
   | exact LeO.none _
   | refine LeO.ite ?_ ?_
   | refine LeO.bind ?_ (fun _ => ?_)
theorem toponymlaw19_SyntaxSmall.mono : ∀ a0 a1 k, LeO (toponymlaw19_SyntaxSmall.f k a0 a1) (toponymlaw19_SyntaxSmall.f (k + 1) a0 a1) := by
 intro a0 a1 k
 have ih0 := toponymlaw19_SyntaxSmall.mono_l k
 unfold toponymlaw19_SyntaxSmall.f
 repeat' first
   | (with_reducible exact ih0 _ _ _ _ _ _)
   | (with_reducible exact toponymlaw19_awake.mono _)
   | (with_reducible exact LeO.refl _)
   | exact ih0 _ _ _ _ _ _
   | exact toponymlaw19_awake.mono _
   | exact LeO.none _
   | refine LeO.ite ?_ ?_
   | refine LeO.bind ?_ (fun _ => ?_)
set_option maxHeartbeats 8000000 in
set_option maxRecDepth 100000 in
theorem toponymlaw19_SyntaxSmall.calls (k : Nat) (a0 : ByteArray) (a1 : ByteArray) (r : Bool) (w : World) (hE : Env w) (h : toponymlaw19_SyntaxSmall.f k a0 a1 = some r) (hT_ : r = true) :
  Calls Tryz.prog 4 #[.string a0, .string a1] w fun e w' => e = .returned (.bool r) ∧ Below w.heap.size w w' := by
 have hT := aM hT_
 clear hT_
 have HE := aM hE
 clear hE
 have HB := aM (Below.refl w.heap.size w)
 have H := h
 clear h
 unfold toponymlaw19_SyntaxSmall.f at H
 obtain ⟨⟨t359, t360⟩, A3, H⟩ := zO H
 try dsimp only at H
 obtain ⟨⟨t361, t362⟩, A4, H⟩ := zO H
 try dsimp only at H
 have HC5 := aM H
 clear H
 go_enter Tryz.func4, Tryz.ntmps4
 go_upto_region 3 with (first | ((with_reducible refine gate_callee (f := 10) rfl ?_); refine goesL_ (some 11) rfl rfl Tryz.func10 zK rfl #[.string a0] rfl zM ?_; (with_reducible refine (syntax_Integer.calls a0 t359 t360 _ (zEnv HE) A3.out).mono ?_); rintro e w6 ⟨rfl, hb⟩; (try clear A3); refine ⟨_, rfl, ?_⟩; replace HB := aM (below_step zB hb); (try clear hb)) | ((with_reducible refine gate_callee (f := 10) rfl ?_); refine goesL_ (some 16) rfl rfl Tryz.func10 zK rfl #[.string a1] rfl zM ?_; (with_reducible refine (syntax_Integer.calls a1 t361 t362 _ (zEnv HE) A4.out).mono ?_); rintro e w7 ⟨rfl, hb⟩; (try clear A4); refine ⟨_, rfl, ?_⟩; replace HB := aM (below_step zB hb); (try clear hb)))
 (try simp only [Act.put, List.setIfInBounds_toArray, List.set_cons_zero, List.set_cons_succ])
 go_cut [24] (fun v24 wc => ∃ (kq : Nat) (x24_4 : Bool), v24 = .bool x24_4 ∧ Aside0 (toponymlaw19_SyntaxSmall.j0 kq a0 a1 t359 t360 t361 x24_4 = some r) ∧ Aside0 (kq ≤ k) ∧ Aside0 (Below w.heap.size w wc))
 case first =>
  have H := HC5.out
  clear HC5
  by_cases c8 : t360 = 0
  ·rw [if_pos c8] at H
   have c8b0 : (t360 == 0) = true := beq_iff_eq.mpr c8
   have c8b1 : (t360 != 0) = false := bne_eq_false_iff_eq.mpr c8
   clear c8
   (first | rw [c8b0] | (simp only [i64_w, i32_w]; rw [c8b0]) | skip)
   have H' := aM H
   clear H
   go_wp2
   go_meet
   case rel => exact ⟨_, ((t362 != 0)), zP, H', ⟨by first | omega | exact Nat.le_refl _⟩, ⟨zB⟩⟩
  ·rw [if_neg c8] at H
   have c8b0 : (t360 == 0) = false := beq_eq_false_iff_ne.mpr c8
   have c8b1 : (t360 != 0) = true := bne_iff_ne.mpr c8
   (first | rw [c8b0] | (simp only [i64_w, i32_w]; rw [c8b0]) | skip)
   have H' := aM H
   clear H
   go_wp2
   go_meet
   case rel => exact ⟨_, (true), zP, H', ⟨by first | omega | exact Nat.le_refl _⟩, ⟨zB⟩⟩
 case rest =>
  clear HC5
  try clear c1
  try clear p2
  try clear c4
  try clear c8
  try clear c8b0
  try clear c8b1
  obtain ⟨kq, x24_4, rfl, HA, HJ4, HB⟩ := hcut
  cases kq with
  | zero => exact absurd HA.out (by simp [toponymlaw19_SyntaxSmall.j0])
  | succ kj4 =>
   have H := HA.out
   clear HA
   simp only [toponymlaw19_SyntaxSmall.j0] at H
   by_cases c9 : x24_4 = true
   ·subst c9
    rw [if_pos rfl] at H
    by_cases c10 : t360 = 0
    ·rw [if_pos c10] at H
     have c10b0 : (t360 == 0) = true := beq_iff_eq.mpr c10
     have c10b1 : (t360 != 0) = false := bne_eq_false_iff_eq.mpr c10
     clear c10
     obtain ⟨t363, A11, H⟩ := zO H
     obtain rfl := sI H
     go_wp2_with (first | (go_at_call 9; (with_reducible refine (toponymlaw19_awake.calls kj4  t363 _ (zEnv HE) A11.out).mono ?_); rintro e w12 ⟨rfl, hb⟩; (try clear A11); replace HB := aM (below_step zB hb); (try clear hb)))
     go_ret
     exact ⟨zE, zB⟩
    ·rw [if_neg c10] at H
     have c10b0 : (t360 == 0) = false := beq_eq_false_iff_ne.mpr c10
     have c10b1 : (t360 != 0) = true := bne_iff_ne.mpr c10
     by_cases c13 : t359 = 0
     ·rw [if_pos c13] at H
      have c13b0 : (t359 == 0) = true := beq_iff_eq.mpr c13
      have c13b1 : (t359 != 0) = false := bne_eq_false_iff_eq.mpr c13
      clear c13
      by_cases c14 : t360 = 180
      ·rw [if_pos c14] at H
       have c14b0 : (t360 == 180) = true := beq_iff_eq.mpr c14
       have c14b1 : (t360 != 180) = false := bne_eq_false_iff_eq.mpr c14
       clear c14
       obtain ⟨t364, A15, H⟩ := zO H
       obtain rfl := sI H
       go_wp2_with (first | (go_at_call 9; (with_reducible refine (toponymlaw19_awake.calls kj4  t364 _ (zEnv HE) A15.out).mono ?_); rintro e w16 ⟨rfl, hb⟩; (try clear A15); replace HB := aM (below_step zB hb); (try clear hb)))
       go_ret
       exact ⟨zE, zB⟩
      ·rw [if_neg c14] at H
       exact absurd ((sI H).trans hT.out) (by decide)
     ·rw [if_neg c13] at H
      exact absurd ((sI H).trans hT.out) (by decide)
   ·replace c9 := Bool.eq_false_iff.mpr c9
    subst c9
    rw [if_neg (show ¬ (false = true) by decide)] at H
    by_cases c17 : ((t359 == t361) == (a0.toList == a1.toList)) = true
    ·rw [if_pos c17] at H
     have c17b0 : ((t359 == t361) == (a0.toList == a1.toList)) = true := c17
     (try (have c17b1 : decide ((t359 == t361) = (a0.toList == a1.toList)) = true := by simpa using c17))
     (try (have c17b2 : ((t359 == t361) == (a0.toList == a1.toList)) = true := by simpa using c17))
     clear c17
     obtain ⟨t365, A18, H⟩ := zO H
     obtain rfl := sI H
     go_wp2_with (first | (go_at_call 9; (with_reducible refine (toponymlaw19_awake.calls kj4  t365 _ (zEnv HE) A18.out).mono ?_); rintro e w19 ⟨rfl, hb⟩; (try clear A18); replace HB := aM (below_step zB hb); (try clear hb)))
     go_ret
     exact ⟨zE, zB⟩
    ·rw [if_neg c17] at H
     exact absurd ((sI H).trans hT.out) (by decide)
/-- THE ONE PURE STATEMENT of toponymlaw19_SyntaxSmall: yours. -/
def toponymlaw19_SyntaxSmall.Pure : Prop := ∀ (a0 : ByteArray) (a1 : ByteArray), a0.size ≤ 140737488351232 → a1.size ≤ 140737488351232 → ∃ k, toponymlaw19_SyntaxSmall.f k a0 a1 = some true
theorem toponymlaw19_SyntaxSmall.walk (P : toponymlaw19_SyntaxSmall.Pure) (a0 : ByteArray) (a1 : ByteArray) (w : World) (hE : Env w) (w0 : a0.size ≤ 140737488351232) (w1 : a1.size ≤ 140737488351232) :
  Calls Tryz.prog 4 #[.string a0, .string a1] w fun e w' => e = .returned (.bool true) ∧ Below w.heap.size w w' := by
 obtain ⟨k, h⟩ := P a0 a1 w0 w1
 refine (toponymlaw19_SyntaxSmall.calls k a0 a1 true w hE h rfl).mono ?_
 rintro e w' ⟨rfl, hd⟩
 exact ⟨rfl, hd⟩

end Go.Proofs.YtdgnekknmpfepaaGreatDoor.P
