import Derived.Test.YtdgnekknmpfepaaGreatDoorWMore
import Derived.Laws.StructEq
import Derived.Laws.Rows
import Derived.Laws.Tables
import Derived.Laws.BitsLemmas
import Derived.ScopeJumps
import Derived.WalkMore
import Derived.Lib.Hide
import Derived.Lib.OthersKept
import Derived.WalkSpells
import Derived.Laws.RangeString
import Derived.Laws.RangeAny
/- Lemmas of this session's own for the functions that are walked by hand. -/
namespace Go.Proofs.YtdgnekknmpfepaaGreatDoor.P
open Go.RowKit Go.Proofs.YtdgnekknmpfepaaGreatDoorW.PrintWords Go.Proofs.YtdgnekknmpfepaaGreatDoorW.PrintLast Go.Proofs.YtdgnekknmpfepaaGreatDoorW.PrintMore
set_option linter.unusedVariables false
set_option linter.unusedSimpArgs false
/-- A new block of whole numbers, read from its head on. -/
theorem new_V {w w1 : World} {k : IntKind} {t : TypeId} (cs : List Int) (xs : List Int) (c : Nat) (e : Nat) (hd : Below w.heap.size w w1) (hx : xs = cs.take xs.length) (hl : xs.length ≤ c) (hm : xs.length ≤ 9223372036854775807) :
    Kd.V (Kd.int k) e (w1.alloc (.cells (cs.map (Value.int k)).toArray t)) w.heap.size (fun k_ => (w.heap.size ≤ k_)) (.slice (some ⟨w1.heap.size, 0, none⟩) xs.length c) xs := by
  refine Kd.V_mk hl (fun W' hW => ?_)
  have hs : w1.heap.size < (w1.alloc (.cells (cs.map (Value.int k)).toArray t)).heap.size := by
    show w1.heap.size < (w1.heap.push _).size
    simp
  have hb := hW w1.heap.size hd.size hs
  rw [heap_alloc_new] at hb
  refine Kd.C_of_reads (d := (0 : Int)) (h1 := fun _ => rfl) ⟨rfl, hm, fun hn => ⟨_, rfl, fun j hj => ?_⟩⟩
  rw [add_plain, cell_of_row W' w1.heap.size j _ t _ hb]
  have hc : xs[j]? = cs[j]? := by rw [hx, List.getElem?_take]; simp [hj]
  have hj2 : xs[j]? = some (xs.getD j 0) := by simp [List.getD_eq_getElem?_getD, List.getElem?_eq_getElem hj]
  simp only [List.getElem?_toArray, List.getElem?_map, ← hc, hj2, Option.map_some]
/-- '==' of arrays of two ints. -/
theorem eqA2 {P : Program} (d : Nat) (w : World) (t e : TypeId) (ht : P.underlying t = some (.array 2 e)) (he : P.underlying e = some (.int .i64)) (hsz : ∀ w, (sizeOf e).run P w = .ok 1 w) (a b a' b' : Int) :
    (Op.equalIn (d + 2) t (.agg #[.int .i64 a, .int .i64 b]) (.agg #[.int .i64 a', .int .i64 b'])).run P w = .ok (a == a' && b == b') w := by
  rw [Op.equalIn]
  simp only [Sem.run_bind, run_underlying ht, Result.andThen_ok, hsz, Std.Legacy.Range.forIn_eq_forIn_range', Std.Legacy.Range.size, Nat.sub_zero, Nat.add_sub_cancel, Nat.div_one]
  have p0 : ∀ x y : Int, (part e #[.int .i64 x, .int .i64 y] (0 * 1)).run P w = .ok (.int .i64 x) w := fun x y => by
    simp [part, isAgg, run_underlying he]
  have p1 : ∀ x y : Int, (part e #[.int .i64 x, .int .i64 y] (1 * 1)).run P w = .ok (.int .i64 y) w := fun x y => by
    simp [part, isAgg, run_underlying he]
  have l2 : List.range' 0 2 1 = [0, 1] := by decide
  rw [l2]
  simp only [List.forIn_cons, List.forIn_nil, Sem.run_bind, p0, p1, run_equalIn_int w d e .i64 .i64 _ _ he, Result.andThen_ok]
  have q0 : ∀ x y : Int, (part e #[.int .i64 x, .int .i64 y] 1).run P w = .ok (.int .i64 y) w := p1
  cases h1 : a == a' <;> cases h2 : b == b' <;> simp [h1, h2, q0, run_equalIn_int w d e .i64 .i64 _ _ he]
theorem run_eqA2 {P : Program} (w : World) (t e : TypeId) (ht : P.underlying t = some (.array 2 e)) (he : P.underlying e = some (.int .i64)) (hsz : ∀ w, (sizeOf e).run P w = .ok 1 w) (a b a' b' : Int) :
    (binOp .eql t (.agg #[.int .i64 a, .int .i64 b]) (.agg #[.int .i64 a', .int .i64 b'])).run P w = .ok (.bool (a == a' && b == b')) w := by
  rw [run_eql_struct, eqA2 9998 w t e ht he hsz]
  rfl
section
variable {Q : Exit → Act → World → Prop} {J : Act → World → Prop} {a : Act} {w : World}
@[go_sem] theorem jump_normal (l : Nat) : Exit.jump l J Q .normal a w = Q .normal a w := rfl
@[go_sem] theorem jump_exit (l id : Nat) : Exit.jump l J Q (.exit id) a w = Q (.exit id) a w := rfl
@[go_sem] theorem jump_ret (l : Nat) : Exit.jump l J Q .ret a w = Q .ret a w := rfl
@[go_sem] theorem jump_panic (l : Nat) (ch : List PanicEntry) : Exit.jump l J Q (.panic ch) a w = Q (.panic ch) a w := rfl
end
theorem or_and_63 (x : Int) : Go.bits .or .u8 128 (Go.bits .and .u8 (x % 256) 63) = 128 + x % 64 := by
  rw [u8_and63 _ (by omega) (by omega), u8_or128 _ (by omega) (by omega)]
  omega
theorem u8_and192 {x : Int} (h0 : 0 ≤ x) (h1 : x ≤ 255) : Go.bits .and .u8 x 192 = x / 64 * 64 := by
  have key : ∀ n : Fin 256, Go.bits .and .u8 ((n.val : Nat) : Int) 192 = ((n.val : Nat) : Int) / 64 * 64 := by decide +kernel
  obtain ⟨n, rfl⟩ := Int.eq_ofNat_of_zero_le h0
  exact key ⟨n, by omega⟩
/-! A chain of tests of one number ('r >= a && r <= b || ..') lies as one region of guarded operations; it is walked clause by clause, and the ways meet behind each. -/
section
variable {P : Program} {ops : Array Oper} {rest : List Oper} {Q : Exit → Act → World → Prop} {w : World} {tm : Array Value} {df : List Deferred} {d x y : Nat} {g : Option (Nat × Bool)} {ty t1 t2 : TypeId} {pos : String} {af : Array Edge} {r c : Int} {b e : Bool}
theorem st_skip {op : Op} (hg : Region.wanted ⟨some d, op, ty, pos, af, g⟩ (yielded ops tm) = false)
    (h : wpList P ops Q rest ⟨tm.setIfInBounds d undef, df⟩ w) : wpList P ops Q (⟨some d, op, ty, pos, af, g⟩ :: rest) ⟨tm, df⟩ w := by
  refine wpList_step fun K hK => ?_
  rw [hg]
  exact hK _ _ h
theorem st_move (hg : Region.wanted ⟨some d, .move (.tmp x), ty, pos, af, g⟩ (yielded ops tm) = true)
    (h : wpList P ops Q rest ⟨tm.setIfInBounds d (tm.getD x undef), df⟩ w) : wpList P ops Q (⟨some d, .move (.tmp x), ty, pos, af, g⟩ :: rest) ⟨tm, df⟩ w := by
  refine wpList_step fun K hK => ?_
  rw [hg]
  exact hK _ _ h
theorem st_geq (hg : Region.wanted ⟨some d, .binOp .geq t1 (.tmp x) (.const (.int .i32 c)) t2, ty, pos, af, g⟩ (yielded ops tm) = true) (hx : tm.getD x undef = .int .i32 r)
    (h : wpList P ops Q rest ⟨tm.setIfInBounds d (.bool (decide (c ≤ r))), df⟩ w) : wpList P ops Q (⟨some d, .binOp .geq t1 (.tmp x) (.const (.int .i32 c)) t2, ty, pos, af, g⟩ :: rest) ⟨tm, df⟩ w := by
  refine wpList_step fun K hK => ?_
  rw [hg, if_pos rfl]
  have hK := hK _ _ h
  unfold Oper.wp execOp
  simp only [Act.eval, hx]
  go_simp
  exact hK
theorem st_leq (hg : Region.wanted ⟨some d, .binOp .leq t1 (.tmp x) (.const (.int .i32 c)) t2, ty, pos, af, g⟩ (yielded ops tm) = true) (hx : tm.getD x undef = .int .i32 r)
    (h : wpList P ops Q rest ⟨tm.setIfInBounds d (.bool (decide (r ≤ c))), df⟩ w) : wpList P ops Q (⟨some d, .binOp .leq t1 (.tmp x) (.const (.int .i32 c)) t2, ty, pos, af, g⟩ :: rest) ⟨tm, df⟩ w := by
  refine wpList_step fun K hK => ?_
  rw [hg, if_pos rfl]
  have hK := hK _ _ h
  unfold Oper.wp execOp
  simp only [Act.eval, hx]
  go_simp
  exact hK
theorem st_eql (hu : P.underlying t1 = some (.int .i32)) (hg : Region.wanted ⟨some d, .binOp .eql t1 (.tmp x) (.const (.int .i32 c)) t2, ty, pos, af, g⟩ (yielded ops tm) = true) (hx : tm.getD x undef = .int .i32 r)
    (h : wpList P ops Q rest ⟨tm.setIfInBounds d (.bool (r == c)), df⟩ w) : wpList P ops Q (⟨some d, .binOp .eql t1 (.tmp x) (.const (.int .i32 c)) t2, ty, pos, af, g⟩ :: rest) ⟨tm, df⟩ w := by
  refine wpList_step fun K hK => ?_
  rw [hg, if_pos rfl]
  have hK := hK _ _ h
  unfold Oper.wp execOp
  simp only [Act.eval, hx]
  go_simp
  exact hK
theorem st_and (hg : Region.wanted ⟨some d, .pick (.tmp x) (.tmp y) (.const (.bool false)), ty, pos, af, g⟩ (yielded ops tm) = true) (hx : tm.getD x undef = .bool b)
    (h : wpList P ops Q rest ⟨tm.setIfInBounds d (if b then tm.getD y undef else .bool false), df⟩ w) : wpList P ops Q (⟨some d, .pick (.tmp x) (.tmp y) (.const (.bool false)), ty, pos, af, g⟩ :: rest) ⟨tm, df⟩ w := by
  refine wpList_step fun K hK => ?_
  rw [hg, if_pos rfl]
  have hK := hK _ _ h
  unfold Oper.wp execOp
  simp only [Act.eval, hx]
  cases b <;> exact hK
theorem st_or (hg : Region.wanted ⟨some d, .pick (.tmp x) (.const (.bool true)) (.tmp y), ty, pos, af, g⟩ (yielded ops tm) = true) (hx : tm.getD x undef = .bool b)
    (h : wpList P ops Q rest ⟨tm.setIfInBounds d (if b then .bool true else tm.getD y undef), df⟩ w) : wpList P ops Q (⟨some d, .pick (.tmp x) (.const (.bool true)) (.tmp y), ty, pos, af, g⟩ :: rest) ⟨tm, df⟩ w := by
  refine wpList_step fun K hK => ?_
  rw [hg, if_pos rfl]
  have hK := hK _ _ h
  unfold Oper.wp execOp
  simp only [Act.eval, hx]
  cases b <;> exact hK
/-- What a chain has come to: the number, and the tests so far. -/
structure Chain (tm : Array Value) (N s : Nat) (r : Int) (b : Bool) : Prop where
  size : tm.size = N
  num : tm.getD 0 undef = .int .i32 r
  acc : tm.getD s undef = .bool b
theorem getD_set_same (tm : Array Value) (i : Nat) (v : Value) (h : i < tm.size) : (tm.setIfInBounds i v).getD i undef = v := by
  simp [Array.getD, h]
theorem getD_set_ne (tm : Array Value) (i j : Nat) (v : Value) (h : i ≠ j) : (tm.setIfInBounds i v).getD j undef = tm.getD j undef := by
  simp only [Array.getD_eq_getD_getElem?]
  rw [Array.getElem?_setIfInBounds_ne h]
theorem yield_of {tm : Array Value} {i s : Nat} (h : (ops[i]?).bind (·.dst) = some s) (hv : tm.getD s undef = .bool b) : yielded ops tm i = some b := by
  unfold yielded
  rw [h]
  simp only [Option.bind_some]
  cases hs : tm[s]? with
  | none => simp [Array.getD_eq_getD_getElem?, hs] at hv; cases hv
  | some v =>
    have : v = .bool b := by simpa [Array.getD_eq_getD_getElem?, hs] using hv
    rw [this]
theorem wanted_none {op : Op} : Region.wanted ⟨some d, op, ty, pos, af, none⟩ (yielded ops tm) = true := rfl
theorem wanted_at {op : Op} {i : Nat} {want : Bool} (h : yielded ops tm i = some e) : Region.wanted ⟨some d, op, ty, pos, af, some (i, want)⟩ (yielded ops tm) = (e == want) := by
  unfold Region.wanted
  simp only [h]
  rfl
theorem getD_set (tm : Array Value) (i j : Nat) (v : Value) : (tm.setIfInBounds i v).getD j undef = if i = j then (if i < tm.size then v else undef) else tm.getD j undef := by
  by_cases h : i = j
  · subst h
    rw [if_pos rfl]
    by_cases h2 : i < tm.size
    · rw [if_pos h2, getD_set_same _ _ _ h2]
    · rw [if_neg h2]
      simp [Array.getD, h2]
  · rw [if_neg h, getD_set_ne _ _ _ _ h]
theorem yield_none {tm : Array Value} {i s : Nat} (h : (ops[i]?).bind (·.dst) = some s) (hv : tm.getD s undef = undef) : yielded ops tm i = none := by
  unfold yielded
  rw [h]
  simp only [Option.bind_some]
  cases hs : tm[s]? with
  | none => rfl
  | some v =>
    have : v = undef := by simpa [Array.getD_eq_getD_getElem?, hs] using hv
    rw [this]
    rfl
theorem wanted_not {op : Op} {i : Nat} {want : Bool} (h : yielded ops tm i = none) : Region.wanted ⟨some d, op, ty, pos, af, some (i, want)⟩ (yielded ops tm) = false := by
  unfold Region.wanted
  simp only [h]
  rfl
section
variable {N s d : Nat} {tm : Array Value} {r lo hi : Int} {b : Bool} {i j : Nat} {y1 y2 y3 y4 y5 y6 y7 y8 t1 t2 t3 t4 : TypeId} {p1 p2 p3 p4 p5 p6 p7 p8 : String} {f1 f2 f3 f4 f5 f6 f7 f8 : Array Edge}
theorem cl_range (hc : Chain tm N s r b) (hi_ : (ops[i]?).bind (·.dst) = some d) (hj_ : (ops[j]?).bind (·.dst) = some (d + 3)) (hN : d + 8 ≤ N) (hs : s < d) (h0 : 0 < s)
    (next : ∀ tm', Chain tm' N (d + 7) r (b || (decide (lo ≤ r) && decide (r ≤ hi))) → wpList P ops Q rest ⟨tm', df⟩ w) :
    wpList P ops Q (⟨some d, .move (.tmp s), y1, p1, f1, none⟩ :: ⟨some (d + 1), .move (.tmp 0), y2, p2, f2, some (i, false)⟩ :: ⟨some (d + 2), .binOp .geq t1 (.tmp (d + 1)) (.const (.int .i32 lo)) t2, y3, p3, f3, some (i, false)⟩ ::
      ⟨some (d + 3), .move (.tmp (d + 2)), y4, p4, f4, some (i, false)⟩ :: ⟨some (d + 4), .move (.tmp 0), y5, p5, f5, some (j, true)⟩ :: ⟨some (d + 5), .binOp .leq t3 (.tmp (d + 4)) (.const (.int .i32 hi)) t4, y6, p6, f6, some (j, true)⟩ ::
      ⟨some (d + 6), .pick (.tmp (d + 3)) (.tmp (d + 5)) (.const (.bool false)), y7, p7, f7, some (i, false)⟩ :: ⟨some (d + 7), .pick (.tmp d) (.const (.bool true)) (.tmp (d + 6)), y8, p8, f8, none⟩ :: rest) ⟨tm, df⟩ w := by
  obtain ⟨hz, hn, ha⟩ := hc
  have hn' := hn
  rw [Array.getD_eq_getD_getElem?] at hn'
  have n0 : d < N := by omega
  have n1 : d + 1 < N := by omega
  have n2 : d + 2 < N := by omega
  have n3 : d + 3 < N := by omega
  have n4 : d + 4 < N := by omega
  have n5 : d + 5 < N := by omega
  have n6 : d + 6 < N := by omega
  have n7 : d + 7 < N := by omega
  have z0 : ¬ d = 0 := by omega
  have zs : ¬ d = s := by omega
  refine st_move wanted_none ?_
  rw [ha]
  cases b with
  | true =>
    refine st_skip ((wanted_at (yield_of hi_ (b := true) (by simp [getD_set, hz, n0])))) ?_
    refine st_skip ((wanted_at (yield_of hi_ (b := true) (by simp [getD_set, hz, n0])))) ?_
    refine st_skip ((wanted_at (yield_of hi_ (b := true) (by simp [getD_set, hz, n0])))) ?_
    refine st_skip ((wanted_not (yield_none hj_ (by simp [getD_set, hz, n3])))) ?_
    refine st_skip ((wanted_not (yield_none hj_ (by simp [getD_set, hz, n3])))) ?_
    refine st_skip ((wanted_at (yield_of hi_ (b := true) (by simp [getD_set, hz, n0])))) ?_
    refine st_or (b := true) wanted_none (by simp [getD_set, hz, n0]) ?_
    exact next _ ⟨by simp [hz], by simp [getD_set, hn', z0], by simp [getD_set, hz, n7]⟩
  | false =>
    refine st_move ((wanted_at (yield_of hi_ (b := false) (by simp [getD_set, hz, n0])))) ?_
    refine st_geq (r := r) ((wanted_at (yield_of hi_ (b := false) (by simp [getD_set, hz, n0])))) (by simp [getD_set, hz, n1, hn', z0]) ?_
    refine st_move ((wanted_at (yield_of hi_ (b := false) (by simp [getD_set, hz, n0])))) ?_
    cases h1 : decide (lo ≤ r) with
    | true =>
      refine st_move ((wanted_at (yield_of hj_ (b := true) (by simp [getD_set, hz, n2, n3])))) ?_
      refine st_leq (r := r) ((wanted_at (yield_of hj_ (b := true) (by simp [getD_set, hz, n2, n3])))) (by simp [getD_set, hz, n4, hn', z0]) ?_
      refine st_and (b := true) ((wanted_at (yield_of hi_ (b := false) (by simp [getD_set, hz, n0])))) (by simp [getD_set, hz, n2, n3]) ?_
      refine st_or (b := false) wanted_none (by simp [getD_set, hz, n0]) ?_
      exact next _ ⟨by simp [hz], by simp [getD_set, hn', z0], by simp [getD_set, hz, n5, n6, n7, h1]⟩
    | false =>
      refine st_skip ((wanted_at (yield_of hj_ (b := false) (by simp [getD_set, hz, n2, n3])))) ?_
      refine st_skip ((wanted_at (yield_of hj_ (b := false) (by simp [getD_set, hz, n2, n3])))) ?_
      refine st_and (b := false) ((wanted_at (yield_of hi_ (b := false) (by simp [getD_set, hz, n0])))) (by simp [getD_set, hz, n2, n3]) ?_
      refine st_or (b := false) wanted_none (by simp [getD_set, hz, n0]) ?_
      exact next _ ⟨by simp [hz], by simp [getD_set, hn', z0], by simp [getD_set, hz, n6, n7, h1]⟩
theorem cl_one (hu : P.underlying t1 = some (.int .i32)) (hc : Chain tm N s r b) (hi_ : (ops[i]?).bind (·.dst) = some d) (hN : d + 4 ≤ N) (hs : s < d) (h0 : 0 < s)
    (next : ∀ tm', Chain tm' N (d + 3) r (b || (r == lo)) → wpList P ops Q rest ⟨tm', df⟩ w) :
    wpList P ops Q (⟨some d, .move (.tmp s), y1, p1, f1, none⟩ :: ⟨some (d + 1), .move (.tmp 0), y2, p2, f2, some (i, false)⟩ :: ⟨some (d + 2), .binOp .eql t1 (.tmp (d + 1)) (.const (.int .i32 lo)) t2, y3, p3, f3, some (i, false)⟩ ::
      ⟨some (d + 3), .pick (.tmp d) (.const (.bool true)) (.tmp (d + 2)), y8, p8, f8, none⟩ :: rest) ⟨tm, df⟩ w := by
  obtain ⟨hz, hn, ha⟩ := hc
  have hn' := hn
  rw [Array.getD_eq_getD_getElem?] at hn'
  have n0 : d < N := by omega
  have n1 : d + 1 < N := by omega
  have n2 : d + 2 < N := by omega
  have n3 : d + 3 < N := by omega
  have z0 : ¬ d = 0 := by omega
  refine st_move wanted_none ?_
  rw [ha]
  cases b with
  | true =>
    refine st_skip ((wanted_at (yield_of hi_ (b := true) (by simp [getD_set, hz, n0])))) ?_
    refine st_skip ((wanted_at (yield_of hi_ (b := true) (by simp [getD_set, hz, n0])))) ?_
    refine st_or (b := true) wanted_none (by simp [getD_set, hz, n0]) ?_
    exact next _ ⟨by simp [hz], by simp [getD_set, hn', z0], by simp [getD_set, hz, n3]⟩
  | false =>
    refine st_move ((wanted_at (yield_of hi_ (b := false) (by simp [getD_set, hz, n0])))) ?_
    refine st_eql (r := r) hu ((wanted_at (yield_of hi_ (b := false) (by simp [getD_set, hz, n0])))) (by simp [getD_set, hz, n1, hn', z0]) ?_
    refine st_or (b := false) wanted_none (by simp [getD_set, hz, n0]) ?_
    exact next _ ⟨by simp [hz], by simp [getD_set, hn', z0], by simp [getD_set, hz, n2, n3]⟩
/-- The first clause. -/
theorem cl_first (hz : tm.size = N) (hn : tm.getD 0 undef = .int .i32 r) (hj_ : (ops[j]?).bind (·.dst) = some (d + 2)) (hN : d + 6 ≤ N) (h0 : 0 < d)
    (next : ∀ tm', Chain tm' N (d + 5) r (decide (lo ≤ r) && decide (r ≤ hi)) → wpList P ops Q rest ⟨tm', df⟩ w) :
    wpList P ops Q (⟨some d, .move (.tmp 0), y2, p2, f2, none⟩ :: ⟨some (d + 1), .binOp .geq t1 (.tmp d) (.const (.int .i32 lo)) t2, y3, p3, f3, none⟩ ::
      ⟨some (d + 2), .move (.tmp (d + 1)), y4, p4, f4, none⟩ :: ⟨some (d + 3), .move (.tmp 0), y5, p5, f5, some (j, true)⟩ :: ⟨some (d + 4), .binOp .leq t3 (.tmp (d + 3)) (.const (.int .i32 hi)) t4, y6, p6, f6, some (j, true)⟩ ::
      ⟨some (d + 5), .pick (.tmp (d + 2)) (.tmp (d + 4)) (.const (.bool false)), y7, p7, f7, none⟩ :: rest) ⟨tm, df⟩ w := by
  have hn' := hn
  rw [Array.getD_eq_getD_getElem?] at hn'
  have n0 : d < N := by omega
  have n1 : d + 1 < N := by omega
  have n2 : d + 2 < N := by omega
  have n3 : d + 3 < N := by omega
  have n4 : d + 4 < N := by omega
  have n5 : d + 5 < N := by omega
  have z0 : ¬ d = 0 := by omega
  refine st_move wanted_none ?_
  refine st_geq (r := r) wanted_none (by simp [getD_set, hz, n0, hn', z0]) ?_
  refine st_move wanted_none ?_
  cases h1 : decide (lo ≤ r) with
  | true =>
    refine st_move ((wanted_at (yield_of hj_ (b := true) (by simp [getD_set, hz, n1, n2])))) ?_
    refine st_leq (r := r) ((wanted_at (yield_of hj_ (b := true) (by simp [getD_set, hz, n1, n2])))) (by simp [getD_set, hz, n3, hn', z0]) ?_
    refine st_and (b := true) wanted_none (by simp [getD_set, hz, n1, n2]) ?_
    exact next _ ⟨by simp [hz], by simp [getD_set, hn', z0], by simp [getD_set, hz, n4, n5, h1]⟩
  | false =>
    refine st_skip ((wanted_at (yield_of hj_ (b := false) (by simp [getD_set, hz, n1, n2])))) ?_
    refine st_skip ((wanted_at (yield_of hj_ (b := false) (by simp [getD_set, hz, n1, n2])))) ?_
    refine st_and (b := false) wanted_none (by simp [getD_set, hz, n1, n2]) ?_
    exact next _ ⟨by simp [hz], by simp [getD_set, hn', z0], by simp [getD_set, hz, n5, h1]⟩
end
end
theorem st_assign {P : Program} {ops : Array Oper} {rest : List Oper} {Q : Exit → Act → World → Prop} {w : World} {tm : Array Value} {df : List Deferred} {d x : Nat} {ty : TypeId} {pos : String} {af : Array Edge}
    (h : wpList P ops Q rest ⟨tm.setIfInBounds d (tm.getD x undef), df⟩ w) : wpList P ops Q (⟨some d, .assign (.tmp x), ty, pos, af, none⟩ :: rest) ⟨tm, df⟩ w := by
  refine wpList_step fun K hK => ?_
  exact hK _ _ h
end Go.Proofs.YtdgnekknmpfepaaGreatDoor.P
