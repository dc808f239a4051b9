import Derived.Test.YtncppcjobimilaaRows
import Derived.Test.YtncppcjobimilaaPurePiecesMore
import Derived.WalkKit
import Derived.ProofKit
import Derived.OpenShut
import Derived.ShutString
import Derived.ChangeOld
import Derived.Below
import Derived.SizedLaws
import Derived.HandedShaped
import Derived.SliceStrings
import Derived.ChangeArms
import Derived.Carry
import Derived.Test.YtncppcjobimilaaWMore

namespace Go.Proofs.Ytncppcjobimilaa.piecesMore
open Go.ChangeShapes Go.WideShapes Go.ChangeAt Go.RowKit
open Go.ChangeMaps (open_string shut_string)
open Go.Proofs.YtncppcjobimilaaW.PrintWords Go.Proofs.YtncppcjobimilaaW.PrintLast
set_option linter.unusedVariables false
theorem own : ownKnob Try.prog.godebug = none := by kernel_rfl
theorem laidOut : laidOutB Try.prog = true := by kernel_rfl
theorem five {α : Type} {l : List α} (h : l.length = 5) : ∃ a b c d e, l = [a, b, c, d, e] := by
 rcases l with _ | ⟨a, _ | ⟨b, _ | ⟨c, _ | ⟨d, _ | ⟨e, _ | ⟨f, l⟩⟩⟩⟩⟩⟩
 all_goals first | (exact ⟨_, _, _, _, _, rfl⟩) | (simp at h)
theorem row_of {W : World} {a : Addr} {len : Nat} {ss : List ByteArray} (hl : len ≤ ss.length) (hm : len ≤ maxLen) (hcell : ∀ i, i < ss.length → W.cell? (a.add i) = some (.string (ss.getD i ByteArray.empty))) :
  Kd.C Kd.string W (some a) (ss.take len).length (ss.take len) := by
 have e : (ss.take len).length = len := by rw [List.length_take]; omega
 refine ⟨rfl, by rw [e]; exact hm, fun _ => ⟨a, rfl, fun j p hj => ⟨[.string p], rfl, rfl, fun i u hu => ?_⟩⟩⟩
 have hj2 : j < len := by
  have := (List.getElem?_eq_some_iff.1 hj).1
  omega
 have hp : ss.getD j ByteArray.empty = p := by
  rw [List.getElem?_take, if_pos hj2] at hj
  rw [List.getD_eq_getElem?_getD, hj]
  rfl
 cases i with
 | zero =>
  simp only [List.getElem?_cons_zero, Option.some.injEq] at hu
  subst hu
  have := hcell j (by omega)
  rw [hp] at this
  show W.cell? (a.add (j * 1 + 0)) = _
  rw [Nat.mul_one, Nat.add_zero]
  exact this
 | succ i => simp at hu
set_option maxRecDepth 100000 in
theorem lifted (os : Os) (started : os.Started) (H : Type) (enc : TypeId × Value → H) :
  ReturnsInHanded {} Try.checked os 5 .any (Rows.piecesMoreSpec.pre6 enc Try.prog Try.f5 Rows.piecesMoreRow.domain false) (Rows.piecesMoreSpec.post enc Try.prog Try.f5 false true false false) := by
 refine returnsInHanded_of_change_shaped (C := Try.checked) own started (by kernel_rfl) Try.func5
  (ChangeSpec.witness6 (enc := enc) (C := Try.checked) false ⟨#[], #[.string ByteArray.empty, .agg #[.string ByteArray.empty, .slice none 0 0, .string ByteArray.empty, .bool false, .bool false], .int .i64 0], []⟩ 8 (by kernel_rfl) (by kernel_rfl) (by kernel_rfl) (by kernel_rfl)) ?_
 intro W base args ds gs before hval0 hW hcnd hsz0 hSh _
 have hval : ∀ (j : Nat) t v, Try.f5.params[j]? = some t → args[j]? = some v → Value.okWide Try.prog W .any base t v := hval0
 have hW' := hW
 obtain ⟨p, q, hA0, hV, rfl, hfz, hnd⟩ := hW
 have hA : DataW.TrodAll enc Try.prog W 0 (fun _ => true) true Try.f5.params.toList args.toList ds p := hA0
 rw [Try.params5] at hA hval
 obtain ⟨v0, vs0, d0, ds0, p0, q0, hargs, rfl, rfl, h0, r0⟩ := trodAll_cons hA
 obtain ⟨v1, vs1, d1, ds1, p1, q1, rfl, rfl, rfl, h1, r1⟩ := trodAll_cons r0
 obtain ⟨v2, vs2, d2, ds2, p2, q2, rfl, rfl, rfl, h2, r2⟩ := trodAll_cons r1
 obtain ⟨rfl, rfl, rfl⟩ := trodAll_nil r2
 obtain rfl : args = #[v0, v1, v2] := by cases args; simp_all
 obtain ⟨rfl, rfl⟩ := trodVars_none hV
 obtain ⟨a0, rfl, rfl, rfl, y0⟩ := open_string Try.underlying9 (hval 0 9 v0 rfl rfl) h0
 obtain ⟨a2, rfl, rfl, rfl, y2⟩ := open_int Try.underlying3 (hval 2 3 v2 rfl rfl) h2
 have k1 := h1
 have lt1 : ∀ x ∈ p1, x.block < W.heap.size := by obtain ⟨m, hm⟩ := k1; exact DataW.trod_lt m _ _ _ hm
 obtain ⟨s0, A, c, l, s2, b3, b4, rfl, hC, hc⟩ : ∃ (s0 : ByteArray) (A : Option Addr) (c : Nat) (l : List ByteArray) (s2 : ByteArray) (b3 b4 : Bool),
   v1 = .agg #[.string s0, .slice A l.length c, .string s2, .bool b3, .bool b4] ∧ Kd.C Kd.string W A l.length l ∧ l.length ≤ c := by
  obtain ⟨cs, rfl, hcs⟩ := okWide_struct Try.underlying29 (hval 1 29 v1 rfl rfl)
  obtain ⟨fuel, hf⟩ := h1
  obtain ⟨xs, n, hfu, hx, hlen, hxl, hfield⟩ := DataW.trod_struct Try.underlying29 hf
  obtain ⟨x0, x1, x2, x3, x4, rfl⟩ := five hxl
  have e5 : Try.prog.cellsOf 29 = 5 := by kernel_rfl
  rw [e5] at hlen
  have hcl : (Value.agg cs).cells.toList = cs.toList := rfl
  rw [hcl] at hlen hfield
  obtain ⟨u0, u1, u2, u3, u4, hu⟩ := five hlen
  rw [hu] at hfield
  have e9 : Try.prog.cellsOf 9 = 1 := by kernel_rfl
  have e27 : Try.prog.cellsOf 27 = 1 := by kernel_rfl
  have e4 : Try.prog.cellsOf 4 = 1 := by kernel_rfl
  have f0 := hfield 0 _ rfl
  have f1 := hfield 1 _ rfl
  have f2 := hfield 2 _ rfl
  have f3 := hfield 3 _ rfl
  have f4 := hfield 4 _ rfl
  simp [e9, e27, e4] at f0 f1 f2 f3 f4
  obtain ⟨s0, g0, _⟩ := DataW.trod_string Try.underlying9 f0
  obtain ⟨s2, g2, _⟩ := DataW.trod_string Try.underlying9 f2
  obtain ⟨b3, g3, _⟩ := DataW.trod_bool Try.underlying4 f3
  obtain ⟨b4, g4, _⟩ := DataW.trod_bool Try.underlying4 f4
  simp only [List.cons.injEq, and_true] at g0 g2 g3 g4
  subst g0 g2 g3 g4
  have hcs2 : ∀ u, u1 = u → cs = #[.string s0, u, .string s2, .bool b3, .bool b4] := by
   rintro u rfl
   rw [← Array.toArray_toList (xs := cs), hu]
  rcases open_strings Try.underlying27 Try.underlying9 e9 f1 with ⟨g1, _⟩ | ⟨a, len, cap, ss, g1, _, hl, hm, hz, _, hcell, _⟩
  ·simp only [List.cons.injEq, and_true] at g1
   exact ⟨s0, none, 0, [], s2, b3, b4, by rw [hcs2 _ g1]; rfl, Kd.C_nil _ _, Nat.le_refl _⟩
  ·simp only [List.cons.injEq, and_true] at g1
   have hz' : ss.length = cap := by simpa using hz
   have e : (ss.take len).length = len := by rw [List.length_take]; omega
   exact ⟨s0, some a, cap, ss.take len, s2, b3, b4, by rw [hcs2 _ g1, e], row_of (by omega) (by omega) hcell, by omega⟩
 clear hA0 hval0 hsz0
 obtain ⟨k, hk⟩ := Pure.PiecesMore a0 s0 l s2 b3 b4 a2
 refine (P.toponymlaw13_PiecesMore.calls k a0 s0 A c l s2 b3 b4 a2 true W (Try.laysM145.s1_3 W hSh) hC hc hk rfl).mono fun e W' ⟨he, bel⟩ => ?_
 subst he
 exact ⟨_, rfl, _, _, _, [], _, [], hW', trodAll_mk1 (shut_bool Try.underlying4 _), (trodAll_cons_mk (shut_string Try.underlying9 y0) (trodAll_cons_mk (Below.trod laidOut (by kernel_rfl) (of_decide_eq_true (by kernel_rfl)) k1 bel lt1) (trodAll_cons_mk (shut_int Try.underlying3 y2) trodAll_mk0))), rfl, bel.frame _, fun h => by cases h⟩
theorem over : Rows.piecesMoreRow.holds Try.pinned (OpenSpec.ofChange Rows.piecesMoreSpec) :=
 OpenClaim.holds_of_wide 5 Try.f5 rfl rfl rfl rfl rfl rfl rfl ⟨rfl, rfl, rfl, rfl, rfl⟩ rfl rfl rfl rfl rfl (by kernel_rfl) Try.func5 (by kernel_rfl)
  (of_decide_eq_true (by kernel_rfl)) (by unfold Func.isWrapper; first | (rw [if_pos (by decide +kernel)]; kernel_rfl) | (rw [if_neg (by decide +kernel)]; exact ⟨rfl, rfl⟩))
  (fun os started H enc _ => lifted os started H enc)
theorem proved : Rows.PiecesMoreSaid := over
#print axioms proved
end Go.Proofs.Ytncppcjobimilaa.piecesMore
namespace Go.Proofs.Ytncppcjobimilaa
theorem piecesMore_holds : Rows.PiecesMoreSaid := piecesMore.proved
end Go.Proofs.Ytncppcjobimilaa
