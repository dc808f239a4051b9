import Derived.Test.YtoaikbfngeopgaaWMore
import Derived.Test.YtoaikbfngeopgaaWNEv
import Derived.Test.YtoaikbfngeopgaaWTab
import Derived.Test.YtoaikbfngeopgaaWInvWords
import Derived.Laws.StructEq
import Derived.Laws.Rows
import Derived.Laws.Tables
import Derived.Laws.BitsLemmas
import Derived.ScopeJumps
import Derived.WalkMore
import Derived.Lib.Hide
/- Lemmas of this session's own for the functions that are walked by hand. -/
namespace Go.Proofs.Ytoaikbfngeopgaa.P
open Go.RowKit Go.Proofs.YtoaikbfngeopgaaW.PrintWords Go.Proofs.YtoaikbfngeopgaaW.PrintLast Go.Proofs.YtoaikbfngeopgaaW.PrintMore
set_option linter.unusedVariables false
set_option linter.unusedSimpArgs false
/-- A new block of whole numbers, read from its head on. -/
theorem new_V {w w1 : World} {k : IntKind} {t : TypeId} (cs : List Int) (xs : List Int) (c : Nat) (e : Nat) (hd : Below w.heap.size w w1) (hx : xs = cs.take xs.length) (hl : xs.length ≤ c) (hm : xs.length ≤ 9223372036854775807) :
    Kd.V (Kd.int k) e (w1.alloc (.cells (cs.map (Value.int k)).toArray t)) w.heap.size (fun k_ => (w.heap.size ≤ k_)) (.slice (some ⟨w1.heap.size, 0, none⟩) xs.length c) xs := by
  refine Kd.V_mk hl (fun W' hW => ?_)
  have hs : w1.heap.size < (w1.alloc (.cells (cs.map (Value.int k)).toArray t)).heap.size := by
    show w1.heap.size < (w1.heap.push _).size
    simp
  have hb := hW w1.heap.size hd.size hs
  rw [heap_alloc_new] at hb
  refine Kd.C_of_reads (d := (0 : Int)) (h1 := fun _ => rfl) ⟨rfl, hm, fun hn => ⟨_, rfl, fun j hj => ?_⟩⟩
  rw [add_plain, cell_of_row W' w1.heap.size j _ t _ hb]
  have hc : xs[j]? = cs[j]? := by rw [hx, List.getElem?_take]; simp [hj]
  have hj2 : xs[j]? = some (xs.getD j 0) := by simp [List.getD_eq_getElem?_getD, List.getElem?_eq_getElem hj]
  simp only [List.getElem?_toArray, List.getElem?_map, ← hc, hj2, Option.map_some]
/-- '==' of arrays of two ints. -/
theorem eqA2 {P : Program} (d : Nat) (w : World) (t e : TypeId) (ht : P.underlying t = some (.array 2 e)) (he : P.underlying e = some (.int .i64)) (hsz : ∀ w, (sizeOf e).run P w = .ok 1 w) (a b a' b' : Int) :
    (Op.equalIn (d + 2) t (.agg #[.int .i64 a, .int .i64 b]) (.agg #[.int .i64 a', .int .i64 b'])).run P w = .ok (a == a' && b == b') w := by
  rw [Op.equalIn]
  simp only [Sem.run_bind, run_underlying ht, Result.andThen_ok, hsz, Std.Legacy.Range.forIn_eq_forIn_range', Std.Legacy.Range.size, Nat.sub_zero, Nat.add_sub_cancel, Nat.div_one]
  have p0 : ∀ x y : Int, (part e #[.int .i64 x, .int .i64 y] (0 * 1)).run P w = .ok (.int .i64 x) w := fun x y => by
    simp [part, isAgg, run_underlying he]
  have p1 : ∀ x y : Int, (part e #[.int .i64 x, .int .i64 y] (1 * 1)).run P w = .ok (.int .i64 y) w := fun x y => by
    simp [part, isAgg, run_underlying he]
  have l2 : List.range' 0 2 1 = [0, 1] := by decide
  rw [l2]
  simp only [List.forIn_cons, List.forIn_nil, Sem.run_bind, p0, p1, run_equalIn_int w d e .i64 .i64 _ _ he, Result.andThen_ok]
  have q0 : ∀ x y : Int, (part e #[.int .i64 x, .int .i64 y] 1).run P w = .ok (.int .i64 y) w := p1
  cases h1 : a == a' <;> cases h2 : b == b' <;> simp [h1, h2, q0, run_equalIn_int w d e .i64 .i64 _ _ he]
theorem run_eqA2 {P : Program} (w : World) (t e : TypeId) (ht : P.underlying t = some (.array 2 e)) (he : P.underlying e = some (.int .i64)) (hsz : ∀ w, (sizeOf e).run P w = .ok 1 w) (a b a' b' : Int) :
    (binOp .eql t (.agg #[.int .i64 a, .int .i64 b]) (.agg #[.int .i64 a', .int .i64 b'])).run P w = .ok (.bool (a == a' && b == b')) w := by
  rw [run_eql_struct, eqA2 9998 w t e ht he hsz]
  rfl
section
variable {Q : Exit → Act → World → Prop} {J : Act → World → Prop} {a : Act} {w : World}
@[go_sem] theorem jump_normal (l : Nat) : Exit.jump l J Q .normal a w = Q .normal a w := rfl
@[go_sem] theorem jump_exit (l id : Nat) : Exit.jump l J Q (.exit id) a w = Q (.exit id) a w := rfl
@[go_sem] theorem jump_ret (l : Nat) : Exit.jump l J Q .ret a w = Q .ret a w := rfl
@[go_sem] theorem jump_panic (l : Nat) (ch : List PanicEntry) : Exit.jump l J Q (.panic ch) a w = Q (.panic ch) a w := rfl
end
theorem or_and_63 (x : Int) : Go.bits .or .u8 128 (Go.bits .and .u8 (x % 256) 63) = 128 + x % 64 := by
  rw [u8_and63 _ (by omega) (by omega), u8_or128 _ (by omega) (by omega)]
  omega
theorem u8_and192 {x : Int} (h0 : 0 ≤ x) (h1 : x ≤ 255) : Go.bits .and .u8 x 192 = x / 64 * 64 := by
  have key : ∀ n : Fin 256, Go.bits .and .u8 ((n.val : Nat) : Int) 192 = ((n.val : Nat) : Int) / 64 * 64 := by decide +kernel
  obtain ⟨n, rfl⟩ := Int.eq_ofNat_of_zero_le h0
  exact key ⟨n, by omega⟩
end Go.Proofs.Ytoaikbfngeopgaa.P
