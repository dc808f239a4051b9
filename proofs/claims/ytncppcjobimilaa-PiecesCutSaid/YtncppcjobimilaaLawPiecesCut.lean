import Derived.Test.YtncppcjobimilaaRows
import Derived.Test.YtncppcjobimilaaPurePiecesCut
import Derived.WalkKit
import Derived.ProofKit
import Derived.OpenShut
import Derived.ShutString
import Derived.ChangeOld
import Derived.Below
import Derived.SizedLaws
import Derived.HandedShaped
import Derived.SliceStrings
import Derived.ChangeArms
import Derived.Carry
import Derived.Test.YtncppcjobimilaaWMore

namespace Go.Proofs.Ytncppcjobimilaa.piecesCut
open Go.ChangeShapes Go.WideShapes Go.ChangeAt Go.RowKit
open Go.ChangeMaps (open_string shut_string)
open Go.Proofs.YtncppcjobimilaaW.PrintWords Go.Proofs.YtncppcjobimilaaW.PrintLast
set_option linter.unusedVariables false
theorem own : ownKnob Try.prog.godebug = none := by kernel_rfl
theorem laidOut : laidOutB Try.prog = true := by kernel_rfl
theorem seven {α : Type} {l : List α} (h : l.length = 7) : ∃ a b c d e f g, l = [a, b, c, d, e, f, g] := by
 rcases l with _ | ⟨a, _ | ⟨b, _ | ⟨c, _ | ⟨d, _ | ⟨e, _ | ⟨f, _ | ⟨g, _ | ⟨h, l⟩⟩⟩⟩⟩⟩⟩⟩
 all_goals first | (exact ⟨_, _, _, _, _, _, _, rfl⟩) | (simp at h)
set_option maxRecDepth 100000 in
theorem lifted (os : Os) (started : os.Started) (H : Type) (enc : TypeId × Value → H) :
  ReturnsInHanded {} Try.checked os 3 .any (Rows.piecesCutSpec.pre6 enc Try.prog Try.f3 Rows.piecesCutRow.domain false) (Rows.piecesCutSpec.post enc Try.prog Try.f3 false true false false) := by
 refine returnsInHanded_of_change_shaped (C := Try.checked) own started (by kernel_rfl) Try.func3
  (ChangeSpec.witness6 (enc := enc) (C := Try.checked) false ⟨#[], #[.string ByteArray.empty, .agg #[.int .i64 0, .int .i64 0, .int .i64 0, .int .i64 0, .bool false, .bool false, .bool false]], []⟩ 8 (by kernel_rfl) (by kernel_rfl) (by kernel_rfl) (by kernel_rfl)) ?_
 intro W base args ds gs before hval0 hW hcnd hsz0 hSh _
 have hval : ∀ (j : Nat) t v, Try.f3.params[j]? = some t → args[j]? = some v → Value.okWide Try.prog W .any base t v := hval0
 have hW' := hW
 obtain ⟨p, q, hA0, hV, rfl, hfz, hnd⟩ := hW
 have hA : DataW.TrodAll enc Try.prog W 0 (fun _ => true) true Try.f3.params.toList args.toList ds p := hA0
 rw [Try.params3] at hA hval
 obtain ⟨v0, vs0, d0, ds0, p0, q0, hargs, rfl, rfl, h0, r0⟩ := trodAll_cons hA
 obtain ⟨v1, vs1, d1, ds1, p1, q1, rfl, rfl, rfl, h1, r1⟩ := trodAll_cons r0
 obtain ⟨rfl, rfl, rfl⟩ := trodAll_nil r1
 obtain rfl : args = #[v0, v1] := by cases args; simp_all
 obtain ⟨rfl, rfl⟩ := trodVars_none hV
 obtain ⟨a0, rfl, rfl, rfl, y0⟩ := open_string Try.underlying9 (hval 0 9 v0 rfl rfl) h0
 have k1 := h1
 have lt1 : ∀ x ∈ p1, x.block < W.heap.size := by obtain ⟨m, hm⟩ := k1; exact DataW.trod_lt m _ _ _ hm
 obtain ⟨i0, i1, i2, i3, b4, b5, b6, rfl⟩ : ∃ (i0 i1 i2 i3 : Int) (b4 b5 b6 : Bool), v1 = .agg #[.int .i64 i0, .int .i64 i1, .int .i64 i2, .int .i64 i3, .bool b4, .bool b5, .bool b6] := by
  obtain ⟨cs, rfl, hcs⟩ := okWide_struct Try.underlying23 (hval 1 23 v1 rfl rfl)
  obtain ⟨fuel, hf⟩ := h1
  obtain ⟨xs, n, hfu, hx, hlen, hxl, hfield⟩ := DataW.trod_struct Try.underlying23 hf
  obtain ⟨x0, x1, x2, x3, x4, x5, x6, rfl⟩ := seven hxl
  have e7 : Try.prog.cellsOf 23 = 7 := by kernel_rfl
  rw [e7] at hlen
  have hcl : (Value.agg cs).cells.toList = cs.toList := rfl
  rw [hcl] at hlen hfield
  obtain ⟨u0, u1, u2, u3, u4, u5, u6, hu⟩ := seven hlen
  rw [hu] at hfield
  have e3 : Try.prog.cellsOf 3 = 1 := by kernel_rfl
  have e4 : Try.prog.cellsOf 4 = 1 := by kernel_rfl
  have f0 := hfield 0 _ rfl
  have f1 := hfield 1 _ rfl
  have f2 := hfield 2 _ rfl
  have f3 := hfield 3 _ rfl
  have f4 := hfield 4 _ rfl
  have f5 := hfield 5 _ rfl
  have f6 := hfield 6 _ rfl
  simp [e3, e4] at f0 f1 f2 f3 f4 f5 f6
  obtain ⟨i0, g0, _⟩ := DataW.trod_int Try.underlying3 f0
  obtain ⟨i1, g1, _⟩ := DataW.trod_int Try.underlying3 f1
  obtain ⟨i2, g2, _⟩ := DataW.trod_int Try.underlying3 f2
  obtain ⟨i3, g3, _⟩ := DataW.trod_int Try.underlying3 f3
  obtain ⟨b4, g4, _⟩ := DataW.trod_bool Try.underlying4 f4
  obtain ⟨b5, g5, _⟩ := DataW.trod_bool Try.underlying4 f5
  obtain ⟨b6, g6, _⟩ := DataW.trod_bool Try.underlying4 f6
  simp only [List.cons.injEq, and_true] at g0 g1 g2 g3 g4 g5 g6
  subst g0 g1 g2 g3 g4 g5 g6
  refine ⟨i0, i1, i2, i3, b4, b5, b6, ?_⟩
  congr 1
  rw [← Array.toArray_toList (xs := cs), hu]
 clear hA0 hval0 hsz0
 obtain ⟨k, hk⟩ := Pure.PiecesCut a0 i0 i1 i2 i3 b4 b5 b6
 refine (P.toponymlaw13_PiecesCut.calls k a0 i0 i1 i2 i3 b4 b5 b6 true W (Try.laysM145.s1_3 W hSh) hk rfl).mono fun e W' ⟨he, bel⟩ => ?_
 subst he
 exact ⟨_, rfl, _, _, _, [], _, [], hW', trodAll_mk1 (shut_bool Try.underlying4 _), (trodAll_cons_mk (shut_string Try.underlying9 y0) (trodAll_cons_mk (Below.trod laidOut (by kernel_rfl) (of_decide_eq_true (by kernel_rfl)) k1 bel lt1) trodAll_mk0)), rfl, bel.frame _, fun h => by cases h⟩
theorem over : Rows.piecesCutRow.holds Try.pinned (OpenSpec.ofChange Rows.piecesCutSpec) :=
 OpenClaim.holds_of_wide 3 Try.f3 rfl rfl rfl rfl rfl rfl rfl ⟨rfl, rfl, rfl, rfl, rfl⟩ rfl rfl rfl rfl rfl (by kernel_rfl) Try.func3 (by kernel_rfl)
  (of_decide_eq_true (by kernel_rfl)) (by unfold Func.isWrapper; first | (rw [if_pos (by decide +kernel)]; kernel_rfl) | (rw [if_neg (by decide +kernel)]; exact ⟨rfl, rfl⟩))
  (fun os started H enc _ => lifted os started H enc)
theorem proved : Rows.PiecesCutSaid := over
#print axioms proved
end Go.Proofs.Ytncppcjobimilaa.piecesCut
namespace Go.Proofs.Ytncppcjobimilaa
theorem piecesCut_holds : Rows.PiecesCutSaid := piecesCut.proved
end Go.Proofs.Ytncppcjobimilaa
