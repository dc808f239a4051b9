-- Printed by wip/mk.py (this session's driver over the kit's print) and from wip/manual.
import Derived.Test.YtncppcjobimilaaT0
import Derived.Test.YtncppcjobimilaaT1
import Derived.Test.YtncppcjobimilaaT2
import Derived.Test.YtncppcjobimilaaT14
namespace Go.Proofs.Ytncppcjobimilaa.P
open Go.RowKit Go.Proofs.YtncppcjobimilaaW.PrintWords Go.Proofs.YtncppcjobimilaaW.PrintLast Go.Proofs.YtncppcjobimilaaW.PrintMore
attribute [local go_sem] max2_int min2_int max_two min_two max_three min_three max_four min_four   -- for this text's walks alone
set_option linter.unusedVariables false
set_option linter.unusedSimpArgs false

/-! ### toponymlaw13_PiecesCut: function 3 -/
mutual
def toponymlaw13_PiecesCut.j0 : Nat → ByteArray → Bool → Int → Int → Int → Int → Bool → Bool → Bool → Int → Int → Int → Int → ByteArray → ByteArray → Bool → Bool → Option (Bool)
 | 0, _, _, _, _, _, _, _, _, _, _, _, _, _, _, _, _, _ => none
 | k + 1, x0, x22, x558000, x558001, x558002, x558003, x558004, x558005, x558006, x564000, x564001, x564002, x564003, x565000, x565002, x565003, x565004 => if x22 = true then (if 0 ≤ x564000 then (if x564000 ≤ (x0.size : Int) then (toponymlaw13_PiecesCut.j1 k x0 x558000 x558001 x558002 x558003 x558004 x558005 x558006 x564000 x564001 x564002 x564003 (x0.extract 0 (x564000 : Int).toNat) x565002 true x565004) else (none)) else (none)) else (toponymlaw13_PiecesCut.j1 k x0 x558000 x558001 x558002 x558003 x558004 x558005 x558006 x564000 x564001 x564002 x564003 x565000 x565002 x565003 x565004)
def toponymlaw13_PiecesCut.j1 : Nat → ByteArray → Int → Int → Int → Int → Bool → Bool → Bool → Int → Int → Int → Int → ByteArray → ByteArray → Bool → Bool → Option (Bool)
 | 0, _, _, _, _, _, _, _, _, _, _, _, _, _, _, _, _ => none
 | k + 1, x0, x558000, x558001, x558002, x558003, x558004, x558005, x558006, x564000, x564001, x564002, x564003, x565000, x565002, x565003, x565004 => if x558005 = true then (toponymlaw13_PiecesCut.j2 k x0 (decide (x564003 < (x0.size : Int))) x558000 x558001 x558002 x558003 x558004 x558005 x558006 x564000 x564001 x564002 x564003 x565000 x565002 x565003 x565004) else (toponymlaw13_PiecesCut.j2 k x0 false x558000 x558001 x558002 x558003 x558004 x558005 x558006 x564000 x564001 x564002 x564003 x565000 x565002 x565003 x565004)
def toponymlaw13_PiecesCut.j2 : Nat → ByteArray → Bool → Int → Int → Int → Int → Bool → Bool → Bool → Int → Int → Int → Int → ByteArray → ByteArray → Bool → Bool → Option (Bool)
 | 0, _, _, _, _, _, _, _, _, _, _, _, _, _, _, _, _, _ => none
 | k + 1, x0, x37, x558000, x558001, x558002, x558003, x558004, x558005, x558006, x564000, x564001, x564002, x564003, x565000, x565002, x565003, x565004 => if x37 = true then (if 0 ≤ x564003 then (if x564003 ≤ (x0.size : Int) then (toponymlaw13_PiecesCut.j3 k x0 x558000 x558001 x558002 x558003 x558004 x558005 x558006 x564000 x564001 x564002 x564003 x565000 (x0.extract (x564003 : Int).toNat x0.size) x565003 true) else (none)) else (none)) else (toponymlaw13_PiecesCut.j3 k x0 x558000 x558001 x558002 x558003 x558004 x558005 x558006 x564000 x564001 x564002 x564003 x565000 x565002 x565003 x565004)
def toponymlaw13_PiecesCut.j3 : Nat → ByteArray → Int → Int → Int → Int → Bool → Bool → Bool → Int → Int → Int → Int → ByteArray → ByteArray → Bool → Bool → Option (Bool)
 | 0, _, _, _, _, _, _, _, _, _, _, _, _, _, _, _, _ => none
 | k + 1, x0, x558000, x558001, x558002, x558003, x558004, x558005, x558006, x564000, x564001, x564002, x564003, x565000, x565002, x565003, x565004 => if x564000 < x564001 then (if 0 ≤ x564000 then (if x564000 ≤ x564001 then (if x564001 ≤ (x0.size : Int) then (if ([] : List ByteArray).length < 8796093022208 then (toponymlaw13_PiecesCut.j4 k x0 x558000 x558001 x558002 x558003 x558004 x558005 x558006 x564000 x564001 x564002 x564003 x565000 (([] : List ByteArray) ++ [x0.extract (x564000 : Int).toNat (x564001 : Int).toNat]) x565002 x565003 x565004) else (none)) else (none)) else (none)) else (none)) else (toponymlaw13_PiecesCut.j4 k x0 x558000 x558001 x558002 x558003 x558004 x558005 x558006 x564000 x564001 x564002 x564003 x565000 ([] : List ByteArray) x565002 x565003 x565004)
def toponymlaw13_PiecesCut.j4 : Nat → ByteArray → Int → Int → Int → Int → Bool → Bool → Bool → Int → Int → Int → Int → ByteArray → List ByteArray → ByteArray → Bool → Bool → Option (Bool)
 | 0, _, _, _, _, _, _, _, _, _, _, _, _, _, _, _, _, _ => none
 | k + 1, x0, x558000, x558001, x558002, x558003, x558004, x558005, x558006, x564000, x564001, x564002, x564003, x565000, x565001, x565002, x565003, x565004 => if x558006 = true then (toponymlaw13_PiecesCut.j5 k x0 (decide (x564002 < x564003)) x564000 x564001 x564002 x564003 x565000 x565001 x565002 x565003 x565004) else (toponymlaw13_PiecesCut.j5 k x0 false x564000 x564001 x564002 x564003 x565000 x565001 x565002 x565003 x565004)
def toponymlaw13_PiecesCut.j5 : Nat → ByteArray → Bool → Int → Int → Int → Int → ByteArray → List ByteArray → ByteArray → Bool → Bool → Option (Bool)
 | 0, _, _, _, _, _, _, _, _, _, _, _ => none
 | k + 1, x0, x68, x564000, x564001, x564002, x564003, x565000, x565001, x565002, x565003, x565004 => if x68 = true then (if 0 ≤ x564002 then (if x564002 ≤ x564003 then (if x564003 ≤ (x0.size : Int) then (if x565001.length < 8796093022208 then ((some (x565001 ++ [x0.extract (x564002 : Int).toNat (x564003 : Int).toNat] : List ByteArray)).bind fun y568 => ((pieces_Check.f k x565000 y568 x565002 x565003 x565004).bind fun t571 => (if t571 = 0 then ((pieces_Match.f k x0 x565000 y568 x565002 x565003 x565004).bind fun t572 => (if t572 = true then ((toponymlaw13_awake.f k).bind fun t573 => (some t573)) else (some false))) else ((toponymlaw13_awake.f k).bind fun t574 => (some t574))))) else (none)) else (none)) else (none)) else (none)) else ((pieces_Check.f k x565000 x565001 x565002 x565003 x565004).bind fun t575 => (if t575 = 0 then ((pieces_Match.f k x0 x565000 x565001 x565002 x565003 x565004).bind fun t576 => (if t576 = true then ((toponymlaw13_awake.f k).bind fun t577 => (some t577)) else (some false))) else ((toponymlaw13_awake.f k).bind fun t578 => (some t578))))
end
def toponymlaw13_PiecesCut.f (k : Nat) (a0 : ByteArray) (a1_0 : Int) (a1_1 : Int) (a1_2 : Int) (a1_3 : Int) (a1_4 : Bool) (a1_5 : Bool) (a1_6 : Bool) : Option (Bool) := if (a0.size : Int) > 5000 then ((toponymlaw13_awake.f k).bind fun t558 => (some t558)) else ((toponymlaw13_order.f (a0.size : Int) a1_0 a1_1 a1_2 a1_3 a1_4 a1_5 a1_6).bind fun bt559 => (if a1_4 = true then (toponymlaw13_PiecesCut.j0 k a0 (decide (bt559.1 > 0)) a1_0 a1_1 a1_2 a1_3 a1_4 a1_5 a1_6 bt559.1 bt559.2.1 bt559.2.2.1 bt559.2.2.2 (⟨#[]⟩ : ByteArray) (⟨#[]⟩ : ByteArray) false false) else (toponymlaw13_PiecesCut.j0 k a0 false a1_0 a1_1 a1_2 a1_3 a1_4 a1_5 a1_6 bt559.1 bt559.2.1 bt559.2.2.1 bt559.2.2.2 (⟨#[]⟩ : ByteArray) (⟨#[]⟩ : ByteArray) false false)))
theorem toponymlaw13_PiecesCut.mono_l : ∀ k, (∀ y0 y1 y2 y3 y4 y5 y6 y7 y8 y9 y10 y11 y12 y13 y14 y15 y16, LeO (toponymlaw13_PiecesCut.j0 k y0 y1 y2 y3 y4 y5 y6 y7 y8 y9 y10 y11 y12 y13 y14 y15 y16) (toponymlaw13_PiecesCut.j0 (k + 1) y0 y1 y2 y3 y4 y5 y6 y7 y8 y9 y10 y11 y12 y13 y14 y15 y16)) ∧ (∀ y0 y1 y2 y3 y4 y5 y6 y7 y8 y9 y10 y11 y12 y13 y14 y15, LeO (toponymlaw13_PiecesCut.j1 k y0 y1 y2 y3 y4 y5 y6 y7 y8 y9 y10 y11 y12 y13 y14 y15) (toponymlaw13_PiecesCut.j1 (k + 1) y0 y1 y2 y3 y4 y5 y6 y7 y8 y9 y10 y11 y12 y13 y14 y15)) ∧ (∀ y0 y1 y2 y3 y4 y5 y6 y7 y8 y9 y10 y11 y12 y13 y14 y15 y16, LeO (toponymlaw13_PiecesCut.j2 k y0 y1 y2 y3 y4 y5 y6 y7 y8 y9 y10 y11 y12 y13 y14 y15 y16) (toponymlaw13_PiecesCut.j2 (k + 1) y0 y1 y2 y3 y4 y5 y6 y7 y8 y9 y10 y11 y12 y13 y14 y15 y16)) ∧ (∀ y0 y1 y2 y3 y4 y5 y6 y7 y8 y9 y10 y11 y12 y13 y14 y15, LeO (toponymlaw13_PiecesCut.j3 k y0 y1 y2 y3 y4 y5 y6 y7 y8 y9 y10 y11 y12 y13 y14 y15) (toponymlaw13_PiecesCut.j3 (k + 1) y0 y1 y2 y3 y4 y5 y6 y7 y8 y9 y10 y11 y12 y13 y14 y15)) ∧ (∀ y0 y1 y2 y3 y4 y5 y6 y7 y8 y9 y10 y11 y12 y13 y14 y15 y16, LeO (toponymlaw13_PiecesCut.j4 k y0 y1 y2 y3 y4 y5 y6 y7 y8 y9 y10 y11 y12 y13 y14 y15 y16) (toponymlaw13_PiecesCut.j4 (k + 1) y0 y1 y2 y3 y4 y5 y6 y7 y8 y9 y10 y11 y12 y13 y14 y15 y16)) ∧ (∀ y0 y1 y2 y3 y4 y5 y6 y7 y8 y9 y10, LeO (toponymlaw13_PiecesCut.j5 k y0 y1 y2 y3 y4 y5 y6 y7 y8 y9 y10) (toponymlaw13_PiecesCut.j5 (k + 1) y0 y1 y2 y3 y4 y5 y6 y7 y8 y9 y10))
 | 0 => ⟨fun _ _ _ _ _ _ _ _ _ _ _ _ _ _ _ _ _ r h => by simp [toponymlaw13_PiecesCut.j0] at h, fun _ _ _ _ _ _ _ _ _ _ _ _ _ _ _ _ r h => by simp [toponymlaw13_PiecesCut.j1] at h, fun _ _ _ _ _ _ _ _ _ _ _ _ _ _ _ _ _ r h => by simp [toponymlaw13_PiecesCut.j2] at h, fun _ _ _ _ _ _ _ _ _ _ _ _ _ _ _ _ r h => by simp [toponymlaw13_PiecesCut.j3] at h, fun _ _ _ _ _ _ _ _ _ _ _ _ _ _ _ _ _ r h => by simp [toponymlaw13_PiecesCut.j4] at h, fun _ _ _ _ _ _ _ _ _ _ _ r h => by simp [toponymlaw13_PiecesCut.j5] at h⟩
 | k + 1 => by
  obtain ⟨ih0, ih1, ih2, ih3, ih4, ih5⟩ := toponymlaw13_PiecesCut.mono_l k
  refine ⟨?_, ?_, ?_, ?_, ?_, ?_⟩
  ·intro y0 y1 y2 y3 y4 y5 y6 y7 y8 y9 y10 y11 y12 y13 y14 y15 y16
   unfold toponymlaw13_PiecesCut.j0
   repeat' first
   | (with_reducible exact ih0 _ _ _ _ _ _ _ _ _ _ _ _ _ _ _ _ _)
   | (with_reducible exact ih1 _ _ _ _ _ _ _ _ _ _ _ _ _ _ _ _)
   | (with_reducible exact ih2 _ _ _ _ _ _ _ _ _ _ _ _ _ _ _ _ _)
   | (with_reducible exact ih3 _ _ _ _ _ _ _ _ _ _ _ _ _ _ _ _)
   | (with_reducible exact ih4 _ _ _ _ _ _ _ _ _ _ _ _ _ _ _ _ _)
   | (with_reducible exact ih5 _ _ _ _ _ _ _ _ _ _ _)
   | (with_reducible exact pieces_Check.mono _ _ _ _ _ _)
   | (with_reducible exact pieces_Match.mono _ _ _ _ _ _ _)
   | (with_reducible exact toponymlaw13_awake.mono _)
   | (with_reducible exact LeO.refl _)
   | exact ih0 _ _ _ _ _ _ _ _ _ _ _ _ _ _ _ _ _
   | exact ih1 _ _ _ _ _ _ _ _ _ _ _ _ _ _ _ _
   | exact ih2 _ _ _ _ _ _ _ _ _ _ _ _ _ _ _ _ _
   | exact ih3 _ _ _ _ _ _ _ _ _ _ _ _ _ _ _ _
   | exact ih4 _ _ _ _ _ _ _ _ _ _ _ _ _ _ _ _ _
   | exact ih5 _ _ _ _ _ _ _ _ _ _ _
   | exact pieces_Check.mono _ _ _ _ _ _
   | exact pieces_Match.mono _ _ _ _ _ _ _
   | exact toponymlaw13_awake.mono _
   | exact LeO.none _
   | refine LeO.ite ?_ ?_
   | refine LeO.bind ?_ (fun _ => ?_)
  ·intro y0 y1 y2 y3 y4 y5 y6 y7 y8 y9 y10 y11 y12 y13 y14 y15
   unfold toponymlaw13_PiecesCut.j1
   repeat' first
   | (with_reducible exact ih0 _ _ _ _ _ _ _ _ _ _ _ _ _ _ _ _ _)
   | (with_reducible exact ih1 _ _ _ _ _ _ _ _ _ _ _ _ _ _ _ _)
   | (with_reducible exact ih2 _ _ _ _ _ _ _ _ _ _ _ _ _ _ _ _ _)
   | (with_reducible exact ih3 _ _ _ _ _ _ _ _ _ _ _ _ _ _ _ _)
   | (with_reducible exact ih4 _ _ _ _ _ _ _ _ _ _ _ _ _ _ _ _ _)
   | (with_reducible exact ih5 _ _ _ _ _ _ _ _ _ _ _)
   | (with_reducible exact pieces_Check.mono _ _ _ _ _ _)
   | (with_reducible exact pieces_Match.mono _ _ _ _ _ _ _)
   | (with_reducible exact toponymlaw13_awake.mono _)
   | (with_reducible exact LeO.refl _)
   | exact ih0 _ _ _ _ _ _ _ _ _ _ _ _ _ _ _ _ _
   | exact ih1 _ _ _ _ _ _ _ _ _ _ _ _ _ _ _ _
   | exact ih2 _ _ _ _ _ _ _ _ _ _ _ _ _ _ _ _ _
   | exact ih3 _ _ _ _ _ _ _ _ _ _ _ _ _ _ _ _
   | exact ih4 _ _ _ _ _ _ _ _ _ _ _ _ _ _ _ _ _
   | exact ih5 _ _ _ _ _ _ _ _ _ _ _
   | exact pieces_Check.mono _ _ _ _ _ _
   | exact pieces_Match.mono _ _ _ _ _ _ _
   | exact toponymlaw13_awake.mono _
   | exact LeO.none _
   | refine LeO.ite ?_ ?_
   | refine LeO.bind ?_ (fun _ => ?_)
  ·intro y0 y1 y2 y3 y4 y5 y6 y7 y8 y9 y10 y11 y12 y13 y14 y15 y16
   unfold toponymlaw13_PiecesCut.j2
   repeat' first
   | (with_reducible exact ih0 _ _ _ _ _ _ _ _ _ _ _ _ _ _ _ _ _)
   | (with_reducible exact ih1 _ _ _ _ _ _ _ _ _ _ _ _ _ _ _ _)
   | (with_reducible exact ih2 _ _ _ _ _ _ _ _ _ _ _ _ _ _ _ _ _)
   | (with_reducible exact ih3 _ _ _ _ _ _ _ _ _ _ _ _ _ _ _ _)
   | (with_reducible exact ih4 _ _ _ _ _ _ _ _ _ _ _ _ _ _ _ _ _)
   | (with_reducible exact ih5 _ _ _ _ _ _ _ _ _ _ _)
   | (with_reducible exact pieces_Check.mono _ _ _ _ _ _)
   | (with_reducible exact pieces_Match.mono _ _ _ _ _ _ _)
   | (with_reducible exact toponymlaw13_awake.mono _)
   | (with_reducible exact LeO.refl _)
   | exact ih0 _ _ _ _ _ _ _ _ _ _ _ _ _ _ _ _ _
   | exact ih1 _ _ _ _ _ _ _ _ _ _ _ _ _ _ _ _
   | exact ih2 _ _ _ _ _ _ _ _ _ _ _ _ _ _ _ _ _
   | exact ih3 _ _ _ _ _ _ _ _ _ _ _ _ _ _ _ _
   | exact ih4 _ _ _ _ _ _ _ _ _ _ _ _ _ _ _ _ _
   | exact ih5 _ _ _ _ _ _ _ _ _ _ _
   | exact pieces_Check.mono _ _ _ _ _ _
   | exact pieces_Match.mono _ _ _ _ _ _ _
   | exact toponymlaw13_awake.mono _
   | exact LeO.none _
   | refine LeO.ite ?_ ?_
   | refine LeO.bind ?_ (fun _ => ?_)
  ·intro y0 y1 y2 y3 y4 y5 y6 y7 y8 y9 y10 y11 y12 y13 y14 y15
   unfold toponymlaw13_PiecesCut.j3
   repeat' first
   | (with_reducible exact ih0 _ _ _ _ _ _ _ _ _ _ _ _ _ _ _ _ _)
   | (with_reducible exact ih1 _ _ _ _ _ _ _ _ _ _ _ _ _ _ _ _)
   | (with_reducible exact ih2 _ _ _ _ _ _ _ _ _ _ _ _ _ _ _ _ _)
   | (with_reducible exact ih3 _ _ _ _ _ _ _ _ _ _ _ _ _ _ _ _)
   | (with_reducible exact ih4 _ _ _ _ _ _ _ _ _ _ _ _ _ _ _ _ _)
   | (with_reducible exact ih5 _ _ _ _ _ _ _ _ _ _ _)
   | (with_reducible exact pieces_Check.mono _ _ _ _ _ _)
   | (with_reducible exact pieces_Match.mono _ _ _ _ _ _ _)
   | (with_reducible exact toponymlaw13_awake.mono _)
   | (with_reducible exact LeO.refl _)
   | exact ih0 _ _ _ _ _ _ _ _ _ _ _ _ _ _ _ _ _
   | exact ih1 _ _ _ _ _ _ _ _ _ _ _ _ _ _ _ _
   | exact ih2 _ _ _ _ _ _ _ _ _ _ _ _ _ _ _ _ _
   | exact ih3 _ _ _ _ _ _ _ _ _ _ _ _ _ _ _ _
   | exact ih4 _ _ _ _ _ _ _ _ _ _ _ _ _ _ _ _ _
   | exact ih5 _ _ _ _ _ _ _ _ _ _ _
   | exact pieces_Check.mono _ _ _ _ _ _
   | exact pieces_Match.mono _ _ _ _ _ _ _
   | exact toponymlaw13_awake.mono _
   | exact LeO.none _
   | refine LeO.ite ?_ ?_
   | refine LeO.bind ?_ (fun _ => ?_)
  ·intro y0 y1 y2 y3 y4 y5 y6 y7 y8 y9 y10 y11 y12 y13 y14 y15 y16
   unfold toponymlaw13_PiecesCut.j4
   repeat' first
   | (with_reducible exact ih0 _ _ _ _ _ _ _ _ _ _ _ _ _ _ _ _ _)
   | (with_reducible exact ih1 _ _ _ _ _ _ _ _ _ _ _ _ _ _ _ _)
   | (with_reducible exact ih2 _ _ _ _ _ _ _ _ _ _ _ _ _ _ _ _ _)
   | (with_reducible exact ih3 _ _ _ _ _ _ _ _ _ _ _ _ _ _ _ _)
   | (with_reducible exact ih4 _ _ _ _ _ _ _ _ _ _ _ _ _ _ _ _ _)
   | (with_reducible exact ih5 _ _ _ _ _ _ _ _ _ _ _)
   | (with_reducible exact pieces_Check.mono _ _ _ _ _ _)
   | (with_reducible exact pieces_Match.mono _ _ _ _ _ _ _)
   | (with_reducible exact toponymlaw13_awake.mono _)
   | (with_reducible exact LeO.refl _)
   | exact ih0 _ _ _ _ _ _ _ _ _ _ _ _ _ _ _ _ _
   | exact ih1 _ _ _ _ _ _ _ _ _ _ _ _ _ _ _ _
   | exact ih2 _ _ _ _ _ _ _ _ _ _ _ _ _ _ _ _ _
   | exact ih3 _ _ _ _ _ _ _ _ _ _ _ _ _ _ _ _
   | exact ih4 _ _ _ _ _ _ _ _ _ _ _ _ _ _ _ _ _
   | exact ih5 _ _ _ _ _ _ _ _ _ _ _
   | exact pieces_Check.mono _ _ _ _ _ _
   | exact pieces_Match.mono _ _ _ _ _ _ _
   | exact toponymlaw13_awake.mono _
   | exact LeO.none _
   | refine LeO.ite ?_ ?_
   | refine LeO.bind ?_ (fun _ => ?_)
  ·intro y0 y1 y2 y3 y4 y5 y6 y7 y8 y9 y10
   unfold toponymlaw13_PiecesCut.j5
   repeat' first
   | (with_reducible exact ih0 _ _ _ _ _ _ _ _ _ _ _ _ _ _ _ _ _)
   | (with_reducible exact ih1 _ _ _ _ _ _ _ _ _ _ _ _ _ _ _ _)
   | (with_reducible exact ih2 _ _ _ _ _ _ _ _ _ _ _ _ _ _ _ _ _)
   | (with_reducible exact ih3 _ _ _ _ _ _ _ _ _ _ _ _ _ _ _ _)
   | (with_reducible exact ih4 _ _ _ _ _ _ _ _ _ _ _ _ _ _ _ _ _)
   | (with_reducible exact ih5 _ _ _ _ _ _ _ _ _ _ _)
   | (with_reducible exact pieces_Check.mono _ _ _ _ _ _)
   | (with_reducible exact pieces_Match.mono _ _ _ _ _ _ _)
   | (with_reducible exact toponymlaw13_awake.mono _)
   | (with_reducible exact LeO.refl _)
   | exact ih0 _ _ _ _ _ _ _ _ _ _ _ _ _ _ _ _ _
   | exact ih1 _ _ _ _ _ _ _ _ _ _ _ _ _ _ _ _
   | exact ih2 _ _ _ _ _ _ _ _ _ _ _ _ _ _ _ _ _
   | exact ih3 _ _ _ _ _ _ _ _ _ _ _ _ _ _ _ _
   | exact ih4 _ _ _ _ _ _ _ _ _ _ _ _ _ _ _ _ _
   | exact ih5 _ _ _ _ _ _ _ _ _ _ _
   | exact pieces_Check.mono _ _ _ _ _ _
   | exact pieces_Match.mono _ _ _ _ _ _ _
   | exact toponymlaw13_awake.mono _
   | exact LeO.none _
   | refine LeO.ite ?_ ?_
   | refine LeO.bind ?_ (fun _ => ?_)
theorem toponymlaw13_PiecesCut.mono : ∀ a0 a1 a2 a3 a4 a5 a6 a7 k, LeO (toponymlaw13_PiecesCut.f k a0 a1 a2 a3 a4 a5 a6 a7) (toponymlaw13_PiecesCut.f (k + 1) a0 a1 a2 a3 a4 a5 a6 a7) := by
 intro a0 a1 a2 a3 a4 a5 a6 a7 k
 obtain ⟨ih0, ih1, ih2, ih3, ih4, ih5⟩ := toponymlaw13_PiecesCut.mono_l k
 unfold toponymlaw13_PiecesCut.f
 repeat' first
   | (with_reducible exact ih0 _ _ _ _ _ _ _ _ _ _ _ _ _ _ _ _ _)
   | (with_reducible exact ih1 _ _ _ _ _ _ _ _ _ _ _ _ _ _ _ _)
   | (with_reducible exact ih2 _ _ _ _ _ _ _ _ _ _ _ _ _ _ _ _ _)
   | (with_reducible exact ih3 _ _ _ _ _ _ _ _ _ _ _ _ _ _ _ _)
   | (with_reducible exact ih4 _ _ _ _ _ _ _ _ _ _ _ _ _ _ _ _ _)
   | (with_reducible exact ih5 _ _ _ _ _ _ _ _ _ _ _)
   | (with_reducible exact pieces_Check.mono _ _ _ _ _ _)
   | (with_reducible exact pieces_Match.mono _ _ _ _ _ _ _)
   | (with_reducible exact toponymlaw13_awake.mono _)
   | (with_reducible exact LeO.refl _)
   | exact ih0 _ _ _ _ _ _ _ _ _ _ _ _ _ _ _ _ _
   | exact ih1 _ _ _ _ _ _ _ _ _ _ _ _ _ _ _ _
   | exact ih2 _ _ _ _ _ _ _ _ _ _ _ _ _ _ _ _ _
   | exact ih3 _ _ _ _ _ _ _ _ _ _ _ _ _ _ _ _
   | exact ih4 _ _ _ _ _ _ _ _ _ _ _ _ _ _ _ _ _
   | exact ih5 _ _ _ _ _ _ _ _ _ _ _
   | exact pieces_Check.mono _ _ _ _ _ _
   | exact pieces_Match.mono _ _ _ _ _ _ _
   | exact toponymlaw13_awake.mono _
   | exact LeO.none _
   | refine LeO.ite ?_ ?_
   | refine LeO.bind ?_ (fun _ => ?_)
def toponymlaw13_PiecesCut.T10 : Bool × List (List Nat × List Nat) := (true, [([], []), ([0], [0]), ([], []), ([], []), ([3], [3]), ([], []), ([5], [5]), ([2, 4, 6], [2, 4, 6]), ([7], [7]), ([1, 8], [1, 8]), ([0, 1, 2, 3, 4, 5, 6, 7, 8, 9], []), ([10, 9, 9, 0, 1, 2, 3, 4, 5, 6, 7, 8, 9], [9, 10])])
def toponymlaw13_PiecesCut.B10 : List Nat := [0, 1, 0, 0, 8, 0, 32, 124, 252, 511, 1023, 2047]
theorem toponymlaw13_PiecesCut.tab10 : rtab .any (opsOf Try.f3 10) = toponymlaw13_PiecesCut.T10 := zK
theorem toponymlaw13_PiecesCut.bits10 : waitsOk toponymlaw13_PiecesCut.T10.2 toponymlaw13_PiecesCut.B10 = true := zK
def toponymlaw13_PiecesCut.T12 : Bool × List (List Nat × List Nat) := (true, [([], []), ([0], [0]), ([], []), ([], []), ([3], [3]), ([], []), ([5], [5]), ([2, 4, 6], [2, 4, 6]), ([7], [7]), ([1, 8], [1, 8]), ([0, 1, 2, 3, 4, 5, 6, 7, 8, 9], []), ([10, 9, 9, 0, 1, 2, 3, 4, 5, 6, 7, 8, 9], [9, 10])])
def toponymlaw13_PiecesCut.B12 : List Nat := [0, 1, 0, 0, 8, 0, 32, 124, 252, 511, 1023, 2047]
theorem toponymlaw13_PiecesCut.tab12 : rtab .any (opsOf Try.f3 12) = toponymlaw13_PiecesCut.T12 := zK
theorem toponymlaw13_PiecesCut.bits12 : waitsOk toponymlaw13_PiecesCut.T12.2 toponymlaw13_PiecesCut.B12 = true := zK
set_option maxHeartbeats 48000000 in
set_option maxRecDepth 100000 in
theorem toponymlaw13_PiecesCut.calls (k : Nat) (a0 : ByteArray) (a1_0 : Int) (a1_1 : Int) (a1_2 : Int) (a1_3 : Int) (a1_4 : Bool) (a1_5 : Bool) (a1_6 : Bool) (r : Bool) (w : World) (hE : Env w) (h : toponymlaw13_PiecesCut.f k a0 a1_0 a1_1 a1_2 a1_3 a1_4 a1_5 a1_6 = some r) (hT_ : r = true) :
  Calls Try.prog 3 #[.string a0, .agg #[.int .i64 a1_0, .int .i64 a1_1, .int .i64 a1_2, .int .i64 a1_3, .bool a1_4, .bool a1_5, .bool a1_6]] w fun e w' => e = .returned (.bool r) ∧ Below w.heap.size w w' := by
 have hT := aM hT_
 clear hT_
 have HE := aM hE
 clear hE
 have hu23 := Try.underlying23
 have hu25 := Try.underlying25
 have hu29 := Try.underlying29
 have HB := aM (Below.refl w.heap.size w)
 have H := h
 clear h
 unfold toponymlaw13_PiecesCut.f at H
 by_cases c3 : (a0.size : Int) > 5000
 ·rw [if_pos c3] at H
  have c3b0 : decide (5000 < (a0.size : Int)) = true := decide_eq_true c3
  have c3b1 : decide (5000 < a0.size) = true := decide_eq_true (by omega)
  clear c3
  obtain ⟨t558, A4, H⟩ := zO H
  obtain rfl := sI H
  go_enter Try.func3, Try.ntmps3
  go_wp2_with (first | ((with_reducible refine gate_dst (N := 3) rfl ?_); (try (refine gate_guard (by rfl) ?_; dsimp only)); refine box_event ?hg (N := 3) ?hd (cs := #[.int .i64 a1_0, .int .i64 a1_1, .int .i64 a1_2, .int .i64 a1_3, .bool a1_4, .bool a1_5, .bool a1_6]) (t := 23) ?hr ?_; (case hd => rfl); (case hg => rfl); (case hr => first | (go_simp; done) | (go_simp; rfl)); intro gb557 hg w5 hbox hb; have n_ := zI (aM (below_step zB hb)) (zI (aM (hbox)) (zI (aM ((by rw [hg]; exact (below_size zB) : w.heap.size ≤ gb557))) (aM ((by rw [hg]; exact (below_size zB) : w.heap.size ≤ gb557))))); clear HB; obtain ⟨HB, BK557, GW557, GE557⟩ := n_; clear hb hbox hg) | ((with_reducible refine gate_callee (f := 6) rfl ?_); refine goesL_ (some 10) rfl rfl Try.func6 zK rfl #[] rfl zM ?_; (with_reducible refine (toponymlaw13_awake.calls k  t558 _ (zEnv HE) A4.out).mono ?_); rintro e w6 ⟨rfl, hb⟩; (try clear A4); refine ⟨_, rfl, ?_⟩; have n_ := zI (aM (blk_below (g := gb557) (o := .cells #[.int .i64 a1_0, .int .i64 a1_1, .int .i64 a1_2, .int .i64 a1_3, .bool a1_4, .bool a1_5, .bool a1_6] 23 (0, 0)) (by (with_reducible repeat (first | refine blk_drewN ?_ _ | refine blk_drew ?_ | refine blk_alloc ?_ _)); exact BK557.out) hb)) (aM (below_step (by repeat (first | (with_reducible first | exact HB.out | apply bA | apply bN | apply bD | refine below_set ?_ GE557.out) | exact HB.out)) hb)); clear BK557 HB; obtain ⟨BK557, HB⟩ := n_; (try clear hb)))
  go_ret
  exact ⟨zE, by repeat (first | (with_reducible first | exact HB.out | apply bA | apply bN | apply bD | refine below_set ?_ GE557.out) | exact HB.out)⟩
 ·rw [if_neg c3] at H
  have c3b0 : decide (5000 < (a0.size : Int)) = false := decide_eq_false c3
  have c3b1 : decide (5000 < a0.size) = false := decide_eq_false (by omega)
  clear c3
  obtain ⟨⟨t559, t560, t561, t562⟩, A7, H⟩ := zO H
  try dsimp only at H
  have HC8 := aM H
  clear H
  go_enter Try.func3, Try.ntmps3
  go_upto_region 5 with (first | ((with_reducible refine gate_dst (N := 3) rfl ?_); (try (refine gate_guard (by rfl) ?_; dsimp only)); refine box_event ?hg (N := 3) ?hd (cs := #[.int .i64 a1_0, .int .i64 a1_1, .int .i64 a1_2, .int .i64 a1_3, .bool a1_4, .bool a1_5, .bool a1_6]) (t := 23) ?hr ?_; (case hd => rfl); (case hg => rfl); (case hr => first | (go_simp; done) | (go_simp; rfl)); intro gb557 hg w9 hbox hb; have n_ := zI (aM (below_step zB hb)) (zI (aM (hbox)) (zI (aM ((by rw [hg]; exact (below_size zB) : w.heap.size ≤ gb557))) (aM ((by rw [hg]; exact (below_size zB) : w.heap.size ≤ gb557))))); clear HB; obtain ⟨HB, BK557, GW557, GE557⟩ := n_; clear hb hbox hg; have hcz10_0 : w9.cell? ⟨gb557, 0, none⟩ = some (.int .i64 a1_0) := (blk_cell BK557.out 0).trans rfl; have hcz10_1 : w9.cell? ⟨gb557, 1, none⟩ = some (.int .i64 a1_1) := (blk_cell BK557.out 1).trans rfl; have hcz10_2 : w9.cell? ⟨gb557, 2, none⟩ = some (.int .i64 a1_2) := (blk_cell BK557.out 2).trans rfl; have hcz10_3 : w9.cell? ⟨gb557, 3, none⟩ = some (.int .i64 a1_3) := (blk_cell BK557.out 3).trans rfl; have hcz10_4 : w9.cell? ⟨gb557, 4, none⟩ = some (.bool a1_4) := (blk_cell BK557.out 4).trans rfl; have hcz10_5 : w9.cell? ⟨gb557, 5, none⟩ = some (.bool a1_5) := (blk_cell BK557.out 5).trans rfl; have hcz10_6 : w9.cell? ⟨gb557, 6, none⟩ = some (.bool a1_6) := (blk_cell BK557.out 6).trans rfl; have hfz10_0 := blk_frozen BK557.out 0; have hfz10_1 := blk_frozen BK557.out 1; have hfz10_2 := blk_frozen BK557.out 2; have hfz10_3 := blk_frozen BK557.out 3; have hfz10_4 := blk_frozen BK557.out 4; have hfz10_5 := blk_frozen BK557.out 5; have hfz10_6 := blk_frozen BK557.out 6) | ((with_reducible refine gate_callee (f := 7) rfl ?_); refine goesL_ (some 14) rfl rfl Try.func7 zK rfl #[.int .i64 (a0.size : Int), .agg #[.int .i64 a1_0, .int .i64 a1_1, .int .i64 a1_2, .int .i64 a1_3, .bool a1_4, .bool a1_5, .bool a1_6]] rfl zM ?_; (with_reducible refine (toponymlaw13_order.calls (a0.size : Int) a1_0 a1_1 a1_2 a1_3 a1_4 a1_5 a1_6 t559 t560 t561 t562 _ A7.out).mono ?_); rintro e w11 ⟨rfl, hb⟩; refine ⟨_, rfl, ?_⟩; have n_ := zI (aM (blk_below (g := gb557) (o := .cells #[.int .i64 a1_0, .int .i64 a1_1, .int .i64 a1_2, .int .i64 a1_3, .bool a1_4, .bool a1_5, .bool a1_6] 23 (0, 0)) (by (with_reducible repeat (first | refine blk_drewN ?_ _ | refine blk_drew ?_ | refine blk_alloc ?_ _)); exact BK557.out) hb)) (aM (below_step (by repeat (first | (with_reducible first | exact HB.out | apply bA | apply bN | apply bD | refine below_set ?_ GE557.out) | exact HB.out)) hb)); clear BK557 HB; obtain ⟨BK557, HB⟩ := n_; (try clear hb)) | ((with_reducible refine gate_dst (N := 5) rfl ?_); (try (refine gate_guard (by rfl) ?_; dsimp only)); refine box_event ?hg (N := 5) ?hd (cs := #[.int .i64 0, .int .i64 0, .int .i64 0, .int .i64 0]) (t := 25) ?hr ?_; (case hd => rfl); (case hg => rfl); (case hr => first | (go_simp; done) | (go_simp; rfl)); intro gb563 hg w12 hbox hb; have n_ := zI (aM (blk_below (g := gb557) (o := .cells #[.int .i64 a1_0, .int .i64 a1_1, .int .i64 a1_2, .int .i64 a1_3, .bool a1_4, .bool a1_5, .bool a1_6] 23 (0, 0)) (by (with_reducible repeat (first | refine blk_drewN ?_ _ | refine blk_drew ?_ | refine blk_alloc ?_ _)); exact BK557.out) hb)) (zI (aM (below_step (by repeat (first | (with_reducible first | exact HB.out | apply bA | apply bN | apply bD | refine below_set ?_ GE557.out) | exact HB.out)) hb)) (zI (aM (hbox)) (zI (aM ((by rw [hg]; exact (below_size (by repeat (first | (with_reducible first | exact HB.out | apply bA | apply bN | apply bD | refine below_set ?_ GE557.out) | exact HB.out))) : w.heap.size ≤ gb563))) (zI (aM ((by rw [hg]; exact (below_size (by repeat (first | (with_reducible first | exact HB.out | apply bA | apply bN | apply bD | refine below_set ?_ GE557.out) | exact HB.out))) : w.heap.size ≤ gb563))) (zI (aM ((by rw [hg]; exact Nat.ne_of_lt (blk_lt (g := gb557) (o := .cells #[.int .i64 a1_0, .int .i64 a1_1, .int .i64 a1_2, .int .i64 a1_3, .bool a1_4, .bool a1_5, .bool a1_6] 23 (0, 0)) (by (with_reducible repeat (first | refine blk_drewN ?_ _ | refine blk_drew ?_ | refine blk_alloc ?_ _)); exact BK557.out)) : gb557 ≠ gb563))) (aM ((by rw [hg]; exact Nat.ne_of_gt (blk_lt (g := gb557) (o := .cells #[.int .i64 a1_0, .int .i64 a1_1, .int .i64 a1_2, .int .i64 a1_3, .bool a1_4, .bool a1_5, .bool a1_6] 23 (0, 0)) (by (with_reducible repeat (first | refine blk_drewN ?_ _ | refine blk_drew ?_ | refine blk_alloc ?_ _)); exact BK557.out)) : gb563 ≠ gb557)))))))); clear BK557 HB; obtain ⟨BK557, HB, BK563, GW563, GE563, NB557_563, NB563_557⟩ := n_; clear hb hbox hg; have hnb13 := NB563_557.out; have hnc13 := NB557_563.out; have hcz14_0 : w12.cell? ⟨gb563, 0, none⟩ = some (.int .i64 0) := (blk_cell BK563.out 0).trans rfl; have hcz14_1 : w12.cell? ⟨gb563, 1, none⟩ = some (.int .i64 0) := (blk_cell BK563.out 1).trans rfl; have hcz14_2 : w12.cell? ⟨gb563, 2, none⟩ = some (.int .i64 0) := (blk_cell BK563.out 2).trans rfl; have hcz14_3 : w12.cell? ⟨gb563, 3, none⟩ = some (.int .i64 0) := (blk_cell BK563.out 3).trans rfl; have hfz14_0 := blk_frozen BK563.out 0; have hfz14_1 := blk_frozen BK563.out 1; have hfz14_2 := blk_frozen BK563.out 2; have hfz14_3 := blk_frozen BK563.out 3) | ((with_reducible refine gate_dst (N := 6) rfl ?_); (try (refine gate_guard (by rfl) ?_; dsimp only)); refine box_event ?hg (N := 6) ?hd (cs := #[.string (⟨#[]⟩ : ByteArray), .slice none 0 0, .string (⟨#[]⟩ : ByteArray), .bool false, .bool false]) (t := 29) ?hr ?_; (case hd => rfl); (case hg => rfl); (case hr => first | (go_simp; done) | (go_simp; rfl)); intro gb564 hg w15 hbox hb; have n_ := zI (aM (blk_below (g := gb557) (o := .cells #[.int .i64 a1_0, .int .i64 a1_1, .int .i64 a1_2, .int .i64 a1_3, .bool a1_4, .bool a1_5, .bool a1_6] 23 (0, 0)) (by (with_reducible repeat (first | refine blk_drewN ?_ _ | refine blk_drew ?_ | refine blk_alloc ?_ _)); refine blk_far ?_ NB557_563.out _; (with_reducible repeat (first | refine blk_drewN ?_ _ | refine blk_drew ?_ | refine blk_alloc ?_ _)); refine blk_far ?_ NB557_563.out _; (with_reducible repeat (first | refine blk_drewN ?_ _ | refine blk_drew ?_ | refine blk_alloc ?_ _)); refine blk_far ?_ NB557_563.out _; (with_reducible repeat (first | refine blk_drewN ?_ _ | refine blk_drew ?_ | refine blk_alloc ?_ _)); refine blk_far ?_ NB557_563.out _; (with_reducible repeat (first | refine blk_drewN ?_ _ | refine blk_drew ?_ | refine blk_alloc ?_ _)); exact BK557.out) hb)) (zI (aM (blk_below (g := gb563) (o := .cells #[.int .i64 t559, .int .i64 t560, .int .i64 t561, .int .i64 t562] 25 (0, 0)) (by (with_reducible repeat (first | refine blk_drewN ?_ _ | refine blk_drew ?_ | refine blk_alloc ?_ _)); refine blk_put (cs := #[.int .i64 t559, .int .i64 t560, .int .i64 t561, .int .i64 0]) ?_ 3 _ rfl; (with_reducible repeat (first | refine blk_drewN ?_ _ | refine blk_drew ?_ | refine blk_alloc ?_ _)); refine blk_put (cs := #[.int .i64 t559, .int .i64 t560, .int .i64 0, .int .i64 0]) ?_ 2 _ rfl; (with_reducible repeat (first | refine blk_drewN ?_ _ | refine blk_drew ?_ | refine blk_alloc ?_ _)); refine blk_put (cs := #[.int .i64 t559, .int .i64 0, .int .i64 0, .int .i64 0]) ?_ 1 _ rfl; (with_reducible repeat (first | refine blk_drewN ?_ _ | refine blk_drew ?_ | refine blk_alloc ?_ _)); refine blk_put (cs := #[.int .i64 0, .int .i64 0, .int .i64 0, .int .i64 0]) ?_ 0 _ rfl; (with_reducible repeat (first | refine blk_drewN ?_ _ | refine blk_drew ?_ | refine blk_alloc ?_ _)); exact BK563.out) hb)) (zI (aM (below_step (by repeat (first | (with_reducible first | exact HB.out | apply bA | apply bN | apply bD | refine below_set ?_ GE557.out | refine below_set ?_ GE563.out) | exact HB.out)) hb)) (zI (aM (hbox)) (zI (aM ((by rw [hg]; exact (below_size (by repeat (first | (with_reducible first | exact HB.out | apply bA | apply bN | apply bD | refine below_set ?_ GE557.out | refine below_set ?_ GE563.out) | exact HB.out))) : w.heap.size ≤ gb564))) (zI (aM ((by rw [hg]; exact (below_size (by repeat (first | (with_reducible first | exact HB.out | apply bA | apply bN | apply bD | refine below_set ?_ GE557.out | refine below_set ?_ GE563.out) | exact HB.out))) : w.heap.size ≤ gb564))) (zI (aM ((by rw [hg]; exact Nat.ne_of_lt (blk_lt (g := gb557) (o := .cells #[.int .i64 a1_0, .int .i64 a1_1, .int .i64 a1_2, .int .i64 a1_3, .bool a1_4, .bool a1_5, .bool a1_6] 23 (0, 0)) (by (with_reducible repeat (first | refine blk_drewN ?_ _ | refine blk_drew ?_ | refine blk_alloc ?_ _)); refine blk_far ?_ NB557_563.out _; (with_reducible repeat (first | refine blk_drewN ?_ _ | refine blk_drew ?_ | refine blk_alloc ?_ _)); refine blk_far ?_ NB557_563.out _; (with_reducible repeat (first | refine blk_drewN ?_ _ | refine blk_drew ?_ | refine blk_alloc ?_ _)); refine blk_far ?_ NB557_563.out _; (with_reducible repeat (first | refine blk_drewN ?_ _ | refine blk_drew ?_ | refine blk_alloc ?_ _)); refine blk_far ?_ NB557_563.out _; (with_reducible repeat (first | refine blk_drewN ?_ _ | refine blk_drew ?_ | refine blk_alloc ?_ _)); exact BK557.out)) : gb557 ≠ gb564))) (zI (aM ((by rw [hg]; exact Nat.ne_of_gt (blk_lt (g := gb557) (o := .cells #[.int .i64 a1_0, .int .i64 a1_1, .int .i64 a1_2, .int .i64 a1_3, .bool a1_4, .bool a1_5, .bool a1_6] 23 (0, 0)) (by (with_reducible repeat (first | refine blk_drewN ?_ _ | refine blk_drew ?_ | refine blk_alloc ?_ _)); refine blk_far ?_ NB557_563.out _; (with_reducible repeat (first | refine blk_drewN ?_ _ | refine blk_drew ?_ | refine blk_alloc ?_ _)); refine blk_far ?_ NB557_563.out _; (with_reducible repeat (first | refine blk_drewN ?_ _ | refine blk_drew ?_ | refine blk_alloc ?_ _)); refine blk_far ?_ NB557_563.out _; (with_reducible repeat (first | refine blk_drewN ?_ _ | refine blk_drew ?_ | refine blk_alloc ?_ _)); refine blk_far ?_ NB557_563.out _; (with_reducible repeat (first | refine blk_drewN ?_ _ | refine blk_drew ?_ | refine blk_alloc ?_ _)); exact BK557.out)) : gb564 ≠ gb557))) (zI (aM ((by rw [hg]; exact Nat.ne_of_lt (blk_lt (g := gb563) (o := .cells #[.int .i64 t559, .int .i64 t560, .int .i64 t561, .int .i64 t562] 25 (0, 0)) (by (with_reducible repeat (first | refine blk_drewN ?_ _ | refine blk_drew ?_ | refine blk_alloc ?_ _)); refine blk_put (cs := #[.int .i64 t559, .int .i64 t560, .int .i64 t561, .int .i64 0]) ?_ 3 _ rfl; (with_reducible repeat (first | refine blk_drewN ?_ _ | refine blk_drew ?_ | refine blk_alloc ?_ _)); refine blk_put (cs := #[.int .i64 t559, .int .i64 t560, .int .i64 0, .int .i64 0]) ?_ 2 _ rfl; (with_reducible repeat (first | refine blk_drewN ?_ _ | refine blk_drew ?_ | refine blk_alloc ?_ _)); refine blk_put (cs := #[.int .i64 t559, .int .i64 0, .int .i64 0, .int .i64 0]) ?_ 1 _ rfl; (with_reducible repeat (first | refine blk_drewN ?_ _ | refine blk_drew ?_ | refine blk_alloc ?_ _)); refine blk_put (cs := #[.int .i64 0, .int .i64 0, .int .i64 0, .int .i64 0]) ?_ 0 _ rfl; (with_reducible repeat (first | refine blk_drewN ?_ _ | refine blk_drew ?_ | refine blk_alloc ?_ _)); exact BK563.out)) : gb563 ≠ gb564))) (aM ((by rw [hg]; exact Nat.ne_of_gt (blk_lt (g := gb563) (o := .cells #[.int .i64 t559, .int .i64 t560, .int .i64 t561, .int .i64 t562] 25 (0, 0)) (by (with_reducible repeat (first | refine blk_drewN ?_ _ | refine blk_drew ?_ | refine blk_alloc ?_ _)); refine blk_put (cs := #[.int .i64 t559, .int .i64 t560, .int .i64 t561, .int .i64 0]) ?_ 3 _ rfl; (with_reducible repeat (first | refine blk_drewN ?_ _ | refine blk_drew ?_ | refine blk_alloc ?_ _)); refine blk_put (cs := #[.int .i64 t559, .int .i64 t560, .int .i64 0, .int .i64 0]) ?_ 2 _ rfl; (with_reducible repeat (first | refine blk_drewN ?_ _ | refine blk_drew ?_ | refine blk_alloc ?_ _)); refine blk_put (cs := #[.int .i64 t559, .int .i64 0, .int .i64 0, .int .i64 0]) ?_ 1 _ rfl; (with_reducible repeat (first | refine blk_drewN ?_ _ | refine blk_drew ?_ | refine blk_alloc ?_ _)); refine blk_put (cs := #[.int .i64 0, .int .i64 0, .int .i64 0, .int .i64 0]) ?_ 0 _ rfl; (with_reducible repeat (first | refine blk_drewN ?_ _ | refine blk_drew ?_ | refine blk_alloc ?_ _)); exact BK563.out)) : gb564 ≠ gb563))))))))))); clear BK557 BK563 HB; obtain ⟨BK557, BK563, HB, BK564, GW564, GE564, NB557_564, NB564_557, NB563_564, NB564_563⟩ := n_; clear hb hbox hg; have hnb16 := NB564_557.out; have hnc16 := NB557_564.out; have hnb17 := NB564_563.out; have hnc17 := NB563_564.out; have hcz18_0 : w15.cell? ⟨gb564, 0, none⟩ = some (.string (⟨#[]⟩ : ByteArray)) := (blk_cell BK564.out 0).trans rfl; have hcz18_1 : w15.cell? ⟨gb564, 1, none⟩ = some (.slice none 0 0) := (blk_cell BK564.out 1).trans rfl; have hcz18_2 : w15.cell? ⟨gb564, 2, none⟩ = some (.string (⟨#[]⟩ : ByteArray)) := (blk_cell BK564.out 2).trans rfl; have hcz18_3 : w15.cell? ⟨gb564, 3, none⟩ = some (.bool false) := (blk_cell BK564.out 3).trans rfl; have hcz18_4 : w15.cell? ⟨gb564, 4, none⟩ = some (.bool false) := (blk_cell BK564.out 4).trans rfl; have hfz18_0 := blk_frozen BK564.out 0; have hfz18_1 := blk_frozen BK564.out 1; have hfz18_2 := blk_frozen BK564.out 2; have hfz18_3 := blk_frozen BK564.out 3; have hfz18_4 := blk_frozen BK564.out 4))
  (try simp only [Act.put, List.setIfInBounds_toArray, List.set_cons_zero, List.set_cons_succ])
  go_cut [22] (fun v22 wc => ∃ (kq : Nat) (x22_7 : Bool), v22 = .bool x22_7 ∧ Aside0 (toponymlaw13_PiecesCut.j0 kq a0 x22_7 a1_0 a1_1 a1_2 a1_3 a1_4 a1_5 a1_6 t559 t560 t561 t562 (⟨#[]⟩ : ByteArray) (⟨#[]⟩ : ByteArray) false false = some r) ∧ Aside0 (kq ≤ k) ∧ Aside0 (wc.heap[gb557]? = some (.cells #[.int .i64 a1_0, .int .i64 a1_1, .int .i64 a1_2, .int .i64 a1_3, .bool a1_4, .bool a1_5, .bool a1_6] 23 (0, 0))) ∧ Aside0 (wc.heap[gb563]? = some (.cells #[.int .i64 t559, .int .i64 t560, .int .i64 t561, .int .i64 t562] 25 (0, 0))) ∧ Aside0 (wc.heap[gb564]? = some (.cells #[.string (⟨#[]⟩ : ByteArray), (.slice none 0 0), .string (⟨#[]⟩ : ByteArray), .bool false, .bool false] 29 (0, 0))) ∧ Aside0 (Below w.heap.size w wc))
  case first =>
   have H := HC8.out
   clear HC8
   by_cases c19 : a1_4 = true
   ·subst c19
    rw [if_pos rfl] at H
    have H' := aM H
    clear H
    have hnb20 := NB557_563.out
    have hnc20 := NB563_557.out
    have hnb21 := NB557_564.out
    have hnc21 := NB564_557.out
    have hcz22_0 : w15.cell? ⟨gb557, 0, none⟩ = some (.int .i64 a1_0) := (blk_cell BK557.out 0).trans rfl
    have hcz22_1 : w15.cell? ⟨gb557, 1, none⟩ = some (.int .i64 a1_1) := (blk_cell BK557.out 1).trans rfl
    have hcz22_2 : w15.cell? ⟨gb557, 2, none⟩ = some (.int .i64 a1_2) := (blk_cell BK557.out 2).trans rfl
    have hcz22_3 : w15.cell? ⟨gb557, 3, none⟩ = some (.int .i64 a1_3) := (blk_cell BK557.out 3).trans rfl
    have hcz22_4 : w15.cell? ⟨gb557, 4, none⟩ = some (.bool true) := (blk_cell BK557.out 4).trans rfl
    have hcz22_5 : w15.cell? ⟨gb557, 5, none⟩ = some (.bool a1_5) := (blk_cell BK557.out 5).trans rfl
    have hcz22_6 : w15.cell? ⟨gb557, 6, none⟩ = some (.bool a1_6) := (blk_cell BK557.out 6).trans rfl
    have hfz22_0 := blk_frozen BK557.out 0
    have hfz22_1 := blk_frozen BK557.out 1
    have hfz22_2 := blk_frozen BK557.out 2
    have hfz22_3 := blk_frozen BK557.out 3
    have hfz22_4 := blk_frozen BK557.out 4
    have hfz22_5 := blk_frozen BK557.out 5
    have hfz22_6 := blk_frozen BK557.out 6
    have hnb23 := NB563_564.out
    have hnc23 := NB564_563.out
    have hcz24_0 : w15.cell? ⟨gb563, 0, none⟩ = some (.int .i64 t559) := (blk_cell BK563.out 0).trans rfl
    have hcz24_1 : w15.cell? ⟨gb563, 1, none⟩ = some (.int .i64 t560) := (blk_cell BK563.out 1).trans rfl
    have hcz24_2 : w15.cell? ⟨gb563, 2, none⟩ = some (.int .i64 t561) := (blk_cell BK563.out 2).trans rfl
    have hcz24_3 : w15.cell? ⟨gb563, 3, none⟩ = some (.int .i64 t562) := (blk_cell BK563.out 3).trans rfl
    have hfz24_0 := blk_frozen BK563.out 0
    have hfz24_1 := blk_frozen BK563.out 1
    have hfz24_2 := blk_frozen BK563.out 2
    have hfz24_3 := blk_frozen BK563.out 3
    go_wp2
    go_meet
    case rel => exact ⟨_, (decide (t559 > 0)), zP, H', ⟨by first | omega | exact Nat.le_refl _⟩, ⟨by (with_reducible repeat (first | refine blk_drewN ?_ _ | refine blk_drew ?_ | refine blk_alloc ?_ _)); refine blk_far ?_ NB557_564.out _; (with_reducible repeat (first | refine blk_drewN ?_ _ | refine blk_drew ?_ | refine blk_alloc ?_ _)); refine blk_far ?_ NB557_564.out _; (with_reducible repeat (first | refine blk_drewN ?_ _ | refine blk_drew ?_ | refine blk_alloc ?_ _)); refine blk_far ?_ NB557_564.out _; (with_reducible repeat (first | refine blk_drewN ?_ _ | refine blk_drew ?_ | refine blk_alloc ?_ _)); refine blk_far ?_ NB557_564.out _; (with_reducible repeat (first | refine blk_drewN ?_ _ | refine blk_drew ?_ | refine blk_alloc ?_ _)); refine blk_far ?_ NB557_564.out _; (with_reducible repeat (first | refine blk_drewN ?_ _ | refine blk_drew ?_ | refine blk_alloc ?_ _)); exact BK557.out⟩, ⟨by (with_reducible repeat (first | refine blk_drewN ?_ _ | refine blk_drew ?_ | refine blk_alloc ?_ _)); refine blk_far ?_ NB563_564.out _; (with_reducible repeat (first | refine blk_drewN ?_ _ | refine blk_drew ?_ | refine blk_alloc ?_ _)); refine blk_far ?_ NB563_564.out _; (with_reducible repeat (first | refine blk_drewN ?_ _ | refine blk_drew ?_ | refine blk_alloc ?_ _)); refine blk_far ?_ NB563_564.out _; (with_reducible repeat (first | refine blk_drewN ?_ _ | refine blk_drew ?_ | refine blk_alloc ?_ _)); refine blk_far ?_ NB563_564.out _; (with_reducible repeat (first | refine blk_drewN ?_ _ | refine blk_drew ?_ | refine blk_alloc ?_ _)); refine blk_far ?_ NB563_564.out _; (with_reducible repeat (first | refine blk_drewN ?_ _ | refine blk_drew ?_ | refine blk_alloc ?_ _)); exact BK563.out⟩, ⟨by (with_reducible repeat (first | refine blk_drewN ?_ _ | refine blk_drew ?_ | refine blk_alloc ?_ _)); refine blk_put (cs := #[.string (⟨#[]⟩ : ByteArray), .slice none 0 0, .string (⟨#[]⟩ : ByteArray), .bool false, .bool false]) ?_ 4 _ rfl; (with_reducible repeat (first | refine blk_drewN ?_ _ | refine blk_drew ?_ | refine blk_alloc ?_ _)); refine blk_put (cs := #[.string (⟨#[]⟩ : ByteArray), .slice none 0 0, .string (⟨#[]⟩ : ByteArray), .bool false, .bool false]) ?_ 3 _ rfl; (with_reducible repeat (first | refine blk_drewN ?_ _ | refine blk_drew ?_ | refine blk_alloc ?_ _)); refine blk_put (cs := #[.string (⟨#[]⟩ : ByteArray), .slice none 0 0, .string (⟨#[]⟩ : ByteArray), .bool false, .bool false]) ?_ 2 _ rfl; (with_reducible repeat (first | refine blk_drewN ?_ _ | refine blk_drew ?_ | refine blk_alloc ?_ _)); refine blk_put (cs := #[.string (⟨#[]⟩ : ByteArray), .slice none 0 0, .string (⟨#[]⟩ : ByteArray), .bool false, .bool false]) ?_ 1 _ rfl; (with_reducible repeat (first | refine blk_drewN ?_ _ | refine blk_drew ?_ | refine blk_alloc ?_ _)); refine blk_put (cs := #[.string (⟨#[]⟩ : ByteArray), .slice none 0 0, .string (⟨#[]⟩ : ByteArray), .bool false, .bool false]) ?_ 0 _ rfl; (with_reducible repeat (first | refine blk_drewN ?_ _ | refine blk_drew ?_ | refine blk_alloc ?_ _)); exact BK564.out⟩, ⟨by repeat (first | (with_reducible first | exact HB.out | apply bA | apply bN | apply bD | refine below_set ?_ GE557.out | refine below_set ?_ GE563.out | refine below_set ?_ GE564.out) | exact HB.out)⟩⟩
   ·replace c19 := Bool.eq_false_iff.mpr c19
    subst c19
    rw [if_neg (show ¬ (false = true) by decide)] at H
    have H' := aM H
    clear H
    have hnb25 := NB557_563.out
    have hnc25 := NB563_557.out
    have hnb26 := NB557_564.out
    have hnc26 := NB564_557.out
    have hcz27_0 : w15.cell? ⟨gb557, 0, none⟩ = some (.int .i64 a1_0) := (blk_cell BK557.out 0).trans rfl
    have hcz27_1 : w15.cell? ⟨gb557, 1, none⟩ = some (.int .i64 a1_1) := (blk_cell BK557.out 1).trans rfl
    have hcz27_2 : w15.cell? ⟨gb557, 2, none⟩ = some (.int .i64 a1_2) := (blk_cell BK557.out 2).trans rfl
    have hcz27_3 : w15.cell? ⟨gb557, 3, none⟩ = some (.int .i64 a1_3) := (blk_cell BK557.out 3).trans rfl
    have hcz27_4 : w15.cell? ⟨gb557, 4, none⟩ = some (.bool false) := (blk_cell BK557.out 4).trans rfl
    have hcz27_5 : w15.cell? ⟨gb557, 5, none⟩ = some (.bool a1_5) := (blk_cell BK557.out 5).trans rfl
    have hcz27_6 : w15.cell? ⟨gb557, 6, none⟩ = some (.bool a1_6) := (blk_cell BK557.out 6).trans rfl
    have hfz27_0 := blk_frozen BK557.out 0
    have hfz27_1 := blk_frozen BK557.out 1
    have hfz27_2 := blk_frozen BK557.out 2
    have hfz27_3 := blk_frozen BK557.out 3
    have hfz27_4 := blk_frozen BK557.out 4
    have hfz27_5 := blk_frozen BK557.out 5
    have hfz27_6 := blk_frozen BK557.out 6
    go_wp2
    go_meet
    case rel => exact ⟨_, (false), zP, H', ⟨by first | omega | exact Nat.le_refl _⟩, ⟨by (with_reducible repeat (first | refine blk_drewN ?_ _ | refine blk_drew ?_ | refine blk_alloc ?_ _)); refine blk_far ?_ NB557_564.out _; (with_reducible repeat (first | refine blk_drewN ?_ _ | refine blk_drew ?_ | refine blk_alloc ?_ _)); refine blk_far ?_ NB557_564.out _; (with_reducible repeat (first | refine blk_drewN ?_ _ | refine blk_drew ?_ | refine blk_alloc ?_ _)); refine blk_far ?_ NB557_564.out _; (with_reducible repeat (first | refine blk_drewN ?_ _ | refine blk_drew ?_ | refine blk_alloc ?_ _)); refine blk_far ?_ NB557_564.out _; (with_reducible repeat (first | refine blk_drewN ?_ _ | refine blk_drew ?_ | refine blk_alloc ?_ _)); refine blk_far ?_ NB557_564.out _; (with_reducible repeat (first | refine blk_drewN ?_ _ | refine blk_drew ?_ | refine blk_alloc ?_ _)); exact BK557.out⟩, ⟨by (with_reducible repeat (first | refine blk_drewN ?_ _ | refine blk_drew ?_ | refine blk_alloc ?_ _)); refine blk_far ?_ NB563_564.out _; (with_reducible repeat (first | refine blk_drewN ?_ _ | refine blk_drew ?_ | refine blk_alloc ?_ _)); refine blk_far ?_ NB563_564.out _; (with_reducible repeat (first | refine blk_drewN ?_ _ | refine blk_drew ?_ | refine blk_alloc ?_ _)); refine blk_far ?_ NB563_564.out _; (with_reducible repeat (first | refine blk_drewN ?_ _ | refine blk_drew ?_ | refine blk_alloc ?_ _)); refine blk_far ?_ NB563_564.out _; (with_reducible repeat (first | refine blk_drewN ?_ _ | refine blk_drew ?_ | refine blk_alloc ?_ _)); refine blk_far ?_ NB563_564.out _; (with_reducible repeat (first | refine blk_drewN ?_ _ | refine blk_drew ?_ | refine blk_alloc ?_ _)); exact BK563.out⟩, ⟨by (with_reducible repeat (first | refine blk_drewN ?_ _ | refine blk_drew ?_ | refine blk_alloc ?_ _)); refine blk_put (cs := #[.string (⟨#[]⟩ : ByteArray), .slice none 0 0, .string (⟨#[]⟩ : ByteArray), .bool false, .bool false]) ?_ 4 _ rfl; (with_reducible repeat (first | refine blk_drewN ?_ _ | refine blk_drew ?_ | refine blk_alloc ?_ _)); refine blk_put (cs := #[.string (⟨#[]⟩ : ByteArray), .slice none 0 0, .string (⟨#[]⟩ : ByteArray), .bool false, .bool false]) ?_ 3 _ rfl; (with_reducible repeat (first | refine blk_drewN ?_ _ | refine blk_drew ?_ | refine blk_alloc ?_ _)); refine blk_put (cs := #[.string (⟨#[]⟩ : ByteArray), .slice none 0 0, .string (⟨#[]⟩ : ByteArray), .bool false, .bool false]) ?_ 2 _ rfl; (with_reducible repeat (first | refine blk_drewN ?_ _ | refine blk_drew ?_ | refine blk_alloc ?_ _)); refine blk_put (cs := #[.string (⟨#[]⟩ : ByteArray), .slice none 0 0, .string (⟨#[]⟩ : ByteArray), .bool false, .bool false]) ?_ 1 _ rfl; (with_reducible repeat (first | refine blk_drewN ?_ _ | refine blk_drew ?_ | refine blk_alloc ?_ _)); refine blk_put (cs := #[.string (⟨#[]⟩ : ByteArray), .slice none 0 0, .string (⟨#[]⟩ : ByteArray), .bool false, .bool false]) ?_ 0 _ rfl; (with_reducible repeat (first | refine blk_drewN ?_ _ | refine blk_drew ?_ | refine blk_alloc ?_ _)); exact BK564.out⟩, ⟨by repeat (first | (with_reducible first | exact HB.out | apply bA | apply bN | apply bD | refine below_set ?_ GE557.out | refine below_set ?_ GE563.out | refine below_set ?_ GE564.out) | exact HB.out)⟩⟩
  case rest =>
   clear HC8
   try clear c1
   try clear c2
   try clear p2
   try clear c3
   try clear c3b0
   try clear c3b1
   try clear c6
   try clear c7
   try clear c13
   try clear c16
   try clear c17
   try clear c19
   try clear c20
   try clear c21
   try clear c23
   try clear c25
   try clear c26
   try clear hcz10_0
   try clear hcz10_1
   try clear hcz10_2
   try clear hcz10_3
   try clear hcz10_4
   try clear hcz10_5
   try clear hcz10_6
   try clear hcz14_0
   try clear hcz14_1
   try clear hcz14_2
   try clear hcz14_3
   try clear hcz18_0
   try clear hcz18_1
   try clear hcz18_2
   try clear hcz18_3
   try clear hcz18_4
   try clear hcz22_0
   try clear hcz22_1
   try clear hcz22_2
   try clear hcz22_3
   try clear hcz22_4
   try clear hcz22_5
   try clear hcz22_6
   try clear hcz24_0
   try clear hcz24_1
   try clear hcz24_2
   try clear hcz24_3
   try clear hcz27_0
   try clear hcz27_1
   try clear hcz27_2
   try clear hcz27_3
   try clear hcz27_4
   try clear hcz27_5
   try clear hcz27_6
   try clear hfz10_0
   try clear hfz10_1
   try clear hfz10_2
   try clear hfz10_3
   try clear hfz10_4
   try clear hfz10_5
   try clear hfz10_6
   try clear hfz14_0
   try clear hfz14_1
   try clear hfz14_2
   try clear hfz14_3
   try clear hfz18_0
   try clear hfz18_1
   try clear hfz18_2
   try clear hfz18_3
   try clear hfz18_4
   try clear hfz22_0
   try clear hfz22_1
   try clear hfz22_2
   try clear hfz22_3
   try clear hfz22_4
   try clear hfz22_5
   try clear hfz22_6
   try clear hfz24_0
   try clear hfz24_1
   try clear hfz24_2
   try clear hfz24_3
   try clear hfz27_0
   try clear hfz27_1
   try clear hfz27_2
   try clear hfz27_3
   try clear hfz27_4
   try clear hfz27_5
   try clear hfz27_6
   obtain ⟨kq, x22_7, rfl, HA, HJ7, BK557, BK563, BK564, HB⟩ := hcut
   cases kq with
   | zero => exact absurd HA.out (by simp [toponymlaw13_PiecesCut.j0])
   | succ kj7 =>
    have H := HA.out
    clear HA
    simp only [toponymlaw13_PiecesCut.j0] at H
    have HC28 := aM H
    clear H
    go_upto_if 22 with (fail)
    go_cut [] (fun wc => ∃ (kq : Nat) (x565000_27 : ByteArray) (x565003_27 : Bool), Aside0 (toponymlaw13_PiecesCut.j1 kq a0 a1_0 a1_1 a1_2 a1_3 a1_4 a1_5 a1_6 t559 t560 t561 t562 x565000_27 (⟨#[]⟩ : ByteArray) x565003_27 false = some r) ∧ Aside0 (kq ≤ kj7) ∧ Aside0 (wc.heap[gb557]? = some (.cells #[.int .i64 a1_0, .int .i64 a1_1, .int .i64 a1_2, .int .i64 a1_3, .bool a1_4, .bool a1_5, .bool a1_6] 23 (0, 0))) ∧ Aside0 (wc.heap[gb563]? = some (.cells #[.int .i64 t559, .int .i64 t560, .int .i64 t561, .int .i64 t562] 25 (0, 0))) ∧ Aside0 (wc.heap[gb564]? = some (.cells #[.string x565000_27, (.slice none 0 0), .string (⟨#[]⟩ : ByteArray), .bool x565003_27, .bool false] 29 (0, 0))) ∧ Aside0 (Below w.heap.size w wc))
    case first =>
     have H := HC28.out
     clear HC28
     by_cases c29 : x22_7 = true
     ·subst c29
      rw [if_pos rfl] at H
      by_cases c30 : 0 ≤ t559
      ·rw [if_pos c30] at H
       have c30b0 := eq_true c30
       have c30b1 : decide (0 ≤ t559) = true := decide_eq_true c30
       clear c30
       by_cases c31 : t559 ≤ (a0.size : Int)
       ·rw [if_pos c31] at H
        have c31b0 := eq_true c31
        have c31b1 : decide (t559 ≤ (a0.size : Int)) = true := decide_eq_true c31
        clear c31
        have H' := aM H
        clear H
        have hnb32 := NB563_557.out
        have hnc32 := NB557_563.out
        have hnb33 := NB563_564.out
        have hnc33 := NB564_563.out
        have hcz34_0 : wc.cell? ⟨gb563, 0, none⟩ = some (.int .i64 t559) := (blk_cell BK563.out 0).trans rfl
        have hcz34_1 : wc.cell? ⟨gb563, 1, none⟩ = some (.int .i64 t560) := (blk_cell BK563.out 1).trans rfl
        have hcz34_2 : wc.cell? ⟨gb563, 2, none⟩ = some (.int .i64 t561) := (blk_cell BK563.out 2).trans rfl
        have hcz34_3 : wc.cell? ⟨gb563, 3, none⟩ = some (.int .i64 t562) := (blk_cell BK563.out 3).trans rfl
        have hfz34_0 := blk_frozen BK563.out 0
        have hfz34_1 := blk_frozen BK563.out 1
        have hfz34_2 := blk_frozen BK563.out 2
        have hfz34_3 := blk_frozen BK563.out 3
        have hnb35 := NB564_557.out
        have hnc35 := NB557_564.out
        have hcz36_0 : wc.cell? ⟨gb564, 0, none⟩ = some (.string (⟨#[]⟩ : ByteArray)) := (blk_cell BK564.out 0).trans rfl
        have hcz36_1 : wc.cell? ⟨gb564, 1, none⟩ = some (.slice none 0 0) := (blk_cell BK564.out 1).trans rfl
        have hcz36_2 : wc.cell? ⟨gb564, 2, none⟩ = some (.string (⟨#[]⟩ : ByteArray)) := (blk_cell BK564.out 2).trans rfl
        have hcz36_3 : wc.cell? ⟨gb564, 3, none⟩ = some (.bool false) := (blk_cell BK564.out 3).trans rfl
        have hcz36_4 : wc.cell? ⟨gb564, 4, none⟩ = some (.bool false) := (blk_cell BK564.out 4).trans rfl
        have hfz36_0 := blk_frozen BK564.out 0
        have hfz36_1 := blk_frozen BK564.out 1
        have hfz36_2 := blk_frozen BK564.out 2
        have hfz36_3 := blk_frozen BK564.out 3
        have hfz36_4 := blk_frozen BK564.out 4
        go_wp2
        go_meet
        case rel => exact ⟨_, (a0.extract 0 (t559 : Int).toNat), (true), H', ⟨by have := HJ7.out; first | omega | exact Nat.le_refl _⟩, ⟨by (with_reducible repeat (first | refine blk_drewN ?_ _ | refine blk_drew ?_ | refine blk_alloc ?_ _)); refine blk_far ?_ NB557_564.out _; (with_reducible repeat (first | refine blk_drewN ?_ _ | refine blk_drew ?_ | refine blk_alloc ?_ _)); refine blk_far ?_ NB557_564.out _; (with_reducible repeat (first | refine blk_drewN ?_ _ | refine blk_drew ?_ | refine blk_alloc ?_ _)); exact BK557.out⟩, ⟨by (with_reducible repeat (first | refine blk_drewN ?_ _ | refine blk_drew ?_ | refine blk_alloc ?_ _)); refine blk_far ?_ NB563_564.out _; (with_reducible repeat (first | refine blk_drewN ?_ _ | refine blk_drew ?_ | refine blk_alloc ?_ _)); refine blk_far ?_ NB563_564.out _; (with_reducible repeat (first | refine blk_drewN ?_ _ | refine blk_drew ?_ | refine blk_alloc ?_ _)); exact BK563.out⟩, ⟨by (with_reducible repeat (first | refine blk_drewN ?_ _ | refine blk_drew ?_ | refine blk_alloc ?_ _)); refine blk_put (cs := #[.string (a0.extract 0 (t559 : Int).toNat), .slice none 0 0, .string (⟨#[]⟩ : ByteArray), .bool false, .bool false]) ?_ 3 _ rfl; (with_reducible repeat (first | refine blk_drewN ?_ _ | refine blk_drew ?_ | refine blk_alloc ?_ _)); refine blk_put (cs := #[.string (⟨#[]⟩ : ByteArray), .slice none 0 0, .string (⟨#[]⟩ : ByteArray), .bool false, .bool false]) ?_ 0 _ rfl; (with_reducible repeat (first | refine blk_drewN ?_ _ | refine blk_drew ?_ | refine blk_alloc ?_ _)); exact BK564.out⟩, ⟨by repeat (first | (with_reducible first | exact HB.out | apply bA | apply bN | apply bD | refine below_set ?_ GE557.out | refine below_set ?_ GE563.out | refine below_set ?_ GE564.out) | exact HB.out)⟩⟩
       ·rw [if_neg c31] at H
        exact absurd H (by simp)
      ·rw [if_neg c30] at H
       exact absurd H (by simp)
     ·replace c29 := Bool.eq_false_iff.mpr c29
      subst c29
      rw [if_neg (show ¬ (false = true) by decide)] at H
      have H' := aM H
      clear H
      go_wp2
      go_meet
      case rel => exact ⟨_, ((⟨#[]⟩ : ByteArray)), (false), H', ⟨by have := HJ7.out; first | omega | exact Nat.le_refl _⟩, ⟨by (with_reducible repeat (first | refine blk_drewN ?_ _ | refine blk_drew ?_ | refine blk_alloc ?_ _)); exact BK557.out⟩, ⟨by (with_reducible repeat (first | refine blk_drewN ?_ _ | refine blk_drew ?_ | refine blk_alloc ?_ _)); exact BK563.out⟩, ⟨by (with_reducible repeat (first | refine blk_drewN ?_ _ | refine blk_drew ?_ | refine blk_alloc ?_ _)); exact BK564.out⟩, ⟨by repeat (first | (with_reducible first | exact HB.out | apply bA | apply bN | apply bD | refine below_set ?_ GE557.out | refine below_set ?_ GE563.out | refine below_set ?_ GE564.out) | exact HB.out)⟩⟩
    case rest =>
     clear HC28
     try clear c1
     try clear c2
     try clear p2
     try clear c3
     try clear c3b0
     try clear c3b1
     try clear c6
     try clear c7
     try clear c13
     try clear c16
     try clear c17
     try clear c19
     try clear c20
     try clear c21
     try clear c23
     try clear c25
     try clear c26
     try clear c29
     try clear c30
     try clear c30b0
     try clear c30b1
     try clear c31
     try clear c31b0
     try clear c31b1
     try clear c32
     try clear c33
     try clear c35
     try clear hcz10_0
     try clear hcz10_1
     try clear hcz10_2
     try clear hcz10_3
     try clear hcz10_4
     try clear hcz10_5
     try clear hcz10_6
     try clear hcz14_0
     try clear hcz14_1
     try clear hcz14_2
     try clear hcz14_3
     try clear hcz18_0
     try clear hcz18_1
     try clear hcz18_2
     try clear hcz18_3
     try clear hcz18_4
     try clear hcz22_0
     try clear hcz22_1
     try clear hcz22_2
     try clear hcz22_3
     try clear hcz22_4
     try clear hcz22_5
     try clear hcz22_6
     try clear hcz24_0
     try clear hcz24_1
     try clear hcz24_2
     try clear hcz24_3
     try clear hcz27_0
     try clear hcz27_1
     try clear hcz27_2
     try clear hcz27_3
     try clear hcz27_4
     try clear hcz27_5
     try clear hcz27_6
     try clear hcz34_0
     try clear hcz34_1
     try clear hcz34_2
     try clear hcz34_3
     try clear hcz36_0
     try clear hcz36_1
     try clear hcz36_2
     try clear hcz36_3
     try clear hcz36_4
     try clear hfz10_0
     try clear hfz10_1
     try clear hfz10_2
     try clear hfz10_3
     try clear hfz10_4
     try clear hfz10_5
     try clear hfz10_6
     try clear hfz14_0
     try clear hfz14_1
     try clear hfz14_2
     try clear hfz14_3
     try clear hfz18_0
     try clear hfz18_1
     try clear hfz18_2
     try clear hfz18_3
     try clear hfz18_4
     try clear hfz22_0
     try clear hfz22_1
     try clear hfz22_2
     try clear hfz22_3
     try clear hfz22_4
     try clear hfz22_5
     try clear hfz22_6
     try clear hfz24_0
     try clear hfz24_1
     try clear hfz24_2
     try clear hfz24_3
     try clear hfz27_0
     try clear hfz27_1
     try clear hfz27_2
     try clear hfz27_3
     try clear hfz27_4
     try clear hfz27_5
     try clear hfz27_6
     try clear hfz34_0
     try clear hfz34_1
     try clear hfz34_2
     try clear hfz34_3
     try clear hfz36_0
     try clear hfz36_1
     try clear hfz36_2
     try clear hfz36_3
     try clear hfz36_4
     try clear p2
     obtain ⟨kq, x565000_27, x565003_27, HA, HJ27, BK557, BK563, BK564, HB⟩ := hcut
     cases kq with
     | zero => exact absurd HA.out (by simp [toponymlaw13_PiecesCut.j1])
     | succ kj27 =>
      have H := HA.out
      clear HA
      simp only [toponymlaw13_PiecesCut.j1] at H
      have HC37 := aM H
      clear H
      go_upto_region 7 with (fail)
      go_cut [37] (fun v37 wc => ∃ (kq : Nat) (x37_36 : Bool), v37 = .bool x37_36 ∧ Aside0 (toponymlaw13_PiecesCut.j2 kq a0 x37_36 a1_0 a1_1 a1_2 a1_3 a1_4 a1_5 a1_6 t559 t560 t561 t562 x565000_27 (⟨#[]⟩ : ByteArray) x565003_27 false = some r) ∧ Aside0 (kq ≤ kj27) ∧ Aside0 (wc.heap[gb557]? = some (.cells #[.int .i64 a1_0, .int .i64 a1_1, .int .i64 a1_2, .int .i64 a1_3, .bool a1_4, .bool a1_5, .bool a1_6] 23 (0, 0))) ∧ Aside0 (wc.heap[gb563]? = some (.cells #[.int .i64 t559, .int .i64 t560, .int .i64 t561, .int .i64 t562] 25 (0, 0))) ∧ Aside0 (wc.heap[gb564]? = some (.cells #[.string x565000_27, (.slice none 0 0), .string (⟨#[]⟩ : ByteArray), .bool x565003_27, .bool false] 29 (0, 0))) ∧ Aside0 (Below w.heap.size w wc))
      case first =>
       have H := HC37.out
       clear HC37
       by_cases c38 : a1_5 = true
       ·subst c38
        rw [if_pos rfl] at H
        have H' := aM H
        clear H
        have hnb39 := NB557_563.out
        have hnc39 := NB563_557.out
        have hnb40 := NB557_564.out
        have hnc40 := NB564_557.out
        have hcz41_0 : wc.cell? ⟨gb557, 0, none⟩ = some (.int .i64 a1_0) := (blk_cell BK557.out 0).trans rfl
        have hcz41_1 : wc.cell? ⟨gb557, 1, none⟩ = some (.int .i64 a1_1) := (blk_cell BK557.out 1).trans rfl
        have hcz41_2 : wc.cell? ⟨gb557, 2, none⟩ = some (.int .i64 a1_2) := (blk_cell BK557.out 2).trans rfl
        have hcz41_3 : wc.cell? ⟨gb557, 3, none⟩ = some (.int .i64 a1_3) := (blk_cell BK557.out 3).trans rfl
        have hcz41_4 : wc.cell? ⟨gb557, 4, none⟩ = some (.bool a1_4) := (blk_cell BK557.out 4).trans rfl
        have hcz41_5 : wc.cell? ⟨gb557, 5, none⟩ = some (.bool true) := (blk_cell BK557.out 5).trans rfl
        have hcz41_6 : wc.cell? ⟨gb557, 6, none⟩ = some (.bool a1_6) := (blk_cell BK557.out 6).trans rfl
        have hfz41_0 := blk_frozen BK557.out 0
        have hfz41_1 := blk_frozen BK557.out 1
        have hfz41_2 := blk_frozen BK557.out 2
        have hfz41_3 := blk_frozen BK557.out 3
        have hfz41_4 := blk_frozen BK557.out 4
        have hfz41_5 := blk_frozen BK557.out 5
        have hfz41_6 := blk_frozen BK557.out 6
        have hnb42 := NB563_564.out
        have hnc42 := NB564_563.out
        have hcz43_0 : wc.cell? ⟨gb563, 0, none⟩ = some (.int .i64 t559) := (blk_cell BK563.out 0).trans rfl
        have hcz43_1 : wc.cell? ⟨gb563, 1, none⟩ = some (.int .i64 t560) := (blk_cell BK563.out 1).trans rfl
        have hcz43_2 : wc.cell? ⟨gb563, 2, none⟩ = some (.int .i64 t561) := (blk_cell BK563.out 2).trans rfl
        have hcz43_3 : wc.cell? ⟨gb563, 3, none⟩ = some (.int .i64 t562) := (blk_cell BK563.out 3).trans rfl
        have hfz43_0 := blk_frozen BK563.out 0
        have hfz43_1 := blk_frozen BK563.out 1
        have hfz43_2 := blk_frozen BK563.out 2
        have hfz43_3 := blk_frozen BK563.out 3
        go_wp2
        go_meet
        case rel => exact ⟨_, (decide (t562 < (a0.size : Int))), zP, H', ⟨by have := HJ7.out; have := HJ27.out; first | omega | exact Nat.le_refl _⟩, ⟨by (with_reducible repeat (first | refine blk_drewN ?_ _ | refine blk_drew ?_ | refine blk_alloc ?_ _)); exact BK557.out⟩, ⟨by (with_reducible repeat (first | refine blk_drewN ?_ _ | refine blk_drew ?_ | refine blk_alloc ?_ _)); exact BK563.out⟩, ⟨by (with_reducible repeat (first | refine blk_drewN ?_ _ | refine blk_drew ?_ | refine blk_alloc ?_ _)); exact BK564.out⟩, ⟨by repeat (first | (with_reducible first | exact HB.out | apply bA | apply bN | apply bD | refine below_set ?_ GE557.out | refine below_set ?_ GE563.out | refine below_set ?_ GE564.out) | exact HB.out)⟩⟩
       ·replace c38 := Bool.eq_false_iff.mpr c38
        subst c38
        rw [if_neg (show ¬ (false = true) by decide)] at H
        have H' := aM H
        clear H
        have hnb44 := NB557_563.out
        have hnc44 := NB563_557.out
        have hnb45 := NB557_564.out
        have hnc45 := NB564_557.out
        have hcz46_0 : wc.cell? ⟨gb557, 0, none⟩ = some (.int .i64 a1_0) := (blk_cell BK557.out 0).trans rfl
        have hcz46_1 : wc.cell? ⟨gb557, 1, none⟩ = some (.int .i64 a1_1) := (blk_cell BK557.out 1).trans rfl
        have hcz46_2 : wc.cell? ⟨gb557, 2, none⟩ = some (.int .i64 a1_2) := (blk_cell BK557.out 2).trans rfl
        have hcz46_3 : wc.cell? ⟨gb557, 3, none⟩ = some (.int .i64 a1_3) := (blk_cell BK557.out 3).trans rfl
        have hcz46_4 : wc.cell? ⟨gb557, 4, none⟩ = some (.bool a1_4) := (blk_cell BK557.out 4).trans rfl
        have hcz46_5 : wc.cell? ⟨gb557, 5, none⟩ = some (.bool false) := (blk_cell BK557.out 5).trans rfl
        have hcz46_6 : wc.cell? ⟨gb557, 6, none⟩ = some (.bool a1_6) := (blk_cell BK557.out 6).trans rfl
        have hfz46_0 := blk_frozen BK557.out 0
        have hfz46_1 := blk_frozen BK557.out 1
        have hfz46_2 := blk_frozen BK557.out 2
        have hfz46_3 := blk_frozen BK557.out 3
        have hfz46_4 := blk_frozen BK557.out 4
        have hfz46_5 := blk_frozen BK557.out 5
        have hfz46_6 := blk_frozen BK557.out 6
        go_wp2
        go_meet
        case rel => exact ⟨_, (false), zP, H', ⟨by have := HJ7.out; have := HJ27.out; first | omega | exact Nat.le_refl _⟩, ⟨by (with_reducible repeat (first | refine blk_drewN ?_ _ | refine blk_drew ?_ | refine blk_alloc ?_ _)); exact BK557.out⟩, ⟨by (with_reducible repeat (first | refine blk_drewN ?_ _ | refine blk_drew ?_ | refine blk_alloc ?_ _)); exact BK563.out⟩, ⟨by (with_reducible repeat (first | refine blk_drewN ?_ _ | refine blk_drew ?_ | refine blk_alloc ?_ _)); exact BK564.out⟩, ⟨by repeat (first | (with_reducible first | exact HB.out | apply bA | apply bN | apply bD | refine below_set ?_ GE557.out | refine below_set ?_ GE563.out | refine below_set ?_ GE564.out) | exact HB.out)⟩⟩
      case rest =>
       clear HC37
       try clear c1
       try clear c2
       try clear p2
       try clear c3
       try clear c3b0
       try clear c3b1
       try clear c4
       try clear c6
       try clear c7
       try clear c13
       try clear c16
       try clear c17
       try clear c19
       try clear c20
       try clear c21
       try clear c23
       try clear c25
       try clear c26
       try clear c29
       try clear c30
       try clear c30b0
       try clear c30b1
       try clear c31
       try clear c31b0
       try clear c31b1
       try clear c32
       try clear c33
       try clear c35
       try clear c38
       try clear c39
       try clear c40
       try clear c42
       try clear c44
       try clear c45
       try clear hcz10_0
       try clear hcz10_1
       try clear hcz10_2
       try clear hcz10_3
       try clear hcz10_4
       try clear hcz10_5
       try clear hcz10_6
       try clear hcz14_0
       try clear hcz14_1
       try clear hcz14_2
       try clear hcz14_3
       try clear hcz18_0
       try clear hcz18_1
       try clear hcz18_2
       try clear hcz18_3
       try clear hcz18_4
       try clear hcz22_0
       try clear hcz22_1
       try clear hcz22_2
       try clear hcz22_3
       try clear hcz22_4
       try clear hcz22_5
       try clear hcz22_6
       try clear hcz24_0
       try clear hcz24_1
       try clear hcz24_2
       try clear hcz24_3
       try clear hcz27_0
       try clear hcz27_1
       try clear hcz27_2
       try clear hcz27_3
       try clear hcz27_4
       try clear hcz27_5
       try clear hcz27_6
       try clear hcz34_0
       try clear hcz34_1
       try clear hcz34_2
       try clear hcz34_3
       try clear hcz36_0
       try clear hcz36_1
       try clear hcz36_2
       try clear hcz36_3
       try clear hcz36_4
       try clear hcz41_0
       try clear hcz41_1
       try clear hcz41_2
       try clear hcz41_3
       try clear hcz41_4
       try clear hcz41_5
       try clear hcz41_6
       try clear hcz43_0
       try clear hcz43_1
       try clear hcz43_2
       try clear hcz43_3
       try clear hcz46_0
       try clear hcz46_1
       try clear hcz46_2
       try clear hcz46_3
       try clear hcz46_4
       try clear hcz46_5
       try clear hcz46_6
       try clear hfz10_0
       try clear hfz10_1
       try clear hfz10_2
       try clear hfz10_3
       try clear hfz10_4
       try clear hfz10_5
       try clear hfz10_6
       try clear hfz14_0
       try clear hfz14_1
       try clear hfz14_2
       try clear hfz14_3
       try clear hfz18_0
       try clear hfz18_1
       try clear hfz18_2
       try clear hfz18_3
       try clear hfz18_4
       try clear hfz22_0
       try clear hfz22_1
       try clear hfz22_2
       try clear hfz22_3
       try clear hfz22_4
       try clear hfz22_5
       try clear hfz22_6
       try clear hfz24_0
       try clear hfz24_1
       try clear hfz24_2
       try clear hfz24_3
       try clear hfz27_0
       try clear hfz27_1
       try clear hfz27_2
       try clear hfz27_3
       try clear hfz27_4
       try clear hfz27_5
       try clear hfz27_6
       try clear hfz34_0
       try clear hfz34_1
       try clear hfz34_2
       try clear hfz34_3
       try clear hfz36_0
       try clear hfz36_1
       try clear hfz36_2
       try clear hfz36_3
       try clear hfz36_4
       try clear hfz41_0
       try clear hfz41_1
       try clear hfz41_2
       try clear hfz41_3
       try clear hfz41_4
       try clear hfz41_5
       try clear hfz41_6
       try clear hfz43_0
       try clear hfz43_1
       try clear hfz43_2
       try clear hfz43_3
       try clear hfz46_0
       try clear hfz46_1
       try clear hfz46_2
       try clear hfz46_3
       try clear hfz46_4
       try clear hfz46_5
       try clear hfz46_6
       try clear p2
       obtain ⟨kq, x37_36, rfl, HA, HJ36, BK557, BK563, BK564, HB⟩ := hcut
       cases kq with
       | zero => exact absurd HA.out (by simp [toponymlaw13_PiecesCut.j2])
       | succ kj36 =>
        have H := HA.out
        clear HA
        simp only [toponymlaw13_PiecesCut.j2] at H
        have HC47 := aM H
        clear H
        go_upto_if 37 with (fail)
        go_cut [] (fun wc => ∃ (kq : Nat) (x565002_46 : ByteArray) (x565004_46 : Bool), Aside0 (toponymlaw13_PiecesCut.j3 kq a0 a1_0 a1_1 a1_2 a1_3 a1_4 a1_5 a1_6 t559 t560 t561 t562 x565000_27 x565002_46 x565003_27 x565004_46 = some r) ∧ Aside0 (kq ≤ kj36) ∧ Aside0 (wc.heap[gb557]? = some (.cells #[.int .i64 a1_0, .int .i64 a1_1, .int .i64 a1_2, .int .i64 a1_3, .bool a1_4, .bool a1_5, .bool a1_6] 23 (0, 0))) ∧ Aside0 (wc.heap[gb563]? = some (.cells #[.int .i64 t559, .int .i64 t560, .int .i64 t561, .int .i64 t562] 25 (0, 0))) ∧ Aside0 (wc.heap[gb564]? = some (.cells #[.string x565000_27, (.slice none 0 0), .string x565002_46, .bool x565003_27, .bool x565004_46] 29 (0, 0))) ∧ Aside0 (Below w.heap.size w wc))
        case first =>
         have H := HC47.out
         clear HC47
         by_cases c48 : x37_36 = true
         ·subst c48
          rw [if_pos rfl] at H
          by_cases c49 : 0 ≤ t562
          ·rw [if_pos c49] at H
           have c49b0 := eq_true c49
           have c49b1 : decide (0 ≤ t562) = true := decide_eq_true c49
           clear c49
           by_cases c50 : t562 ≤ (a0.size : Int)
           ·rw [if_pos c50] at H
            have c50b0 := eq_true c50
            have c50b1 : decide (t562 ≤ (a0.size : Int)) = true := decide_eq_true c50
            clear c50
            have H' := aM H
            clear H
            have hnb51 := NB563_557.out
            have hnc51 := NB557_563.out
            have hnb52 := NB563_564.out
            have hnc52 := NB564_563.out
            have hcz53_0 : wc.cell? ⟨gb563, 0, none⟩ = some (.int .i64 t559) := (blk_cell BK563.out 0).trans rfl
            have hcz53_1 : wc.cell? ⟨gb563, 1, none⟩ = some (.int .i64 t560) := (blk_cell BK563.out 1).trans rfl
            have hcz53_2 : wc.cell? ⟨gb563, 2, none⟩ = some (.int .i64 t561) := (blk_cell BK563.out 2).trans rfl
            have hcz53_3 : wc.cell? ⟨gb563, 3, none⟩ = some (.int .i64 t562) := (blk_cell BK563.out 3).trans rfl
            have hfz53_0 := blk_frozen BK563.out 0
            have hfz53_1 := blk_frozen BK563.out 1
            have hfz53_2 := blk_frozen BK563.out 2
            have hfz53_3 := blk_frozen BK563.out 3
            have hnb54 := NB564_557.out
            have hnc54 := NB557_564.out
            have hcz55_0 : wc.cell? ⟨gb564, 0, none⟩ = some (.string x565000_27) := (blk_cell BK564.out 0).trans rfl
            have hcz55_1 : wc.cell? ⟨gb564, 1, none⟩ = some (.slice none 0 0) := (blk_cell BK564.out 1).trans rfl
            have hcz55_2 : wc.cell? ⟨gb564, 2, none⟩ = some (.string (⟨#[]⟩ : ByteArray)) := (blk_cell BK564.out 2).trans rfl
            have hcz55_3 : wc.cell? ⟨gb564, 3, none⟩ = some (.bool x565003_27) := (blk_cell BK564.out 3).trans rfl
            have hcz55_4 : wc.cell? ⟨gb564, 4, none⟩ = some (.bool false) := (blk_cell BK564.out 4).trans rfl
            have hfz55_0 := blk_frozen BK564.out 0
            have hfz55_1 := blk_frozen BK564.out 1
            have hfz55_2 := blk_frozen BK564.out 2
            have hfz55_3 := blk_frozen BK564.out 3
            have hfz55_4 := blk_frozen BK564.out 4
            go_wp2
            go_meet
            case rel => exact ⟨_, (a0.extract (t562 : Int).toNat a0.size), (true), H', ⟨by have := HJ7.out; have := HJ27.out; have := HJ36.out; first | omega | exact Nat.le_refl _⟩, ⟨by (with_reducible repeat (first | refine blk_drewN ?_ _ | refine blk_drew ?_ | refine blk_alloc ?_ _)); refine blk_far ?_ NB557_564.out _; (with_reducible repeat (first | refine blk_drewN ?_ _ | refine blk_drew ?_ | refine blk_alloc ?_ _)); refine blk_far ?_ NB557_564.out _; (with_reducible repeat (first | refine blk_drewN ?_ _ | refine blk_drew ?_ | refine blk_alloc ?_ _)); exact BK557.out⟩, ⟨by (with_reducible repeat (first | refine blk_drewN ?_ _ | refine blk_drew ?_ | refine blk_alloc ?_ _)); refine blk_far ?_ NB563_564.out _; (with_reducible repeat (first | refine blk_drewN ?_ _ | refine blk_drew ?_ | refine blk_alloc ?_ _)); refine blk_far ?_ NB563_564.out _; (with_reducible repeat (first | refine blk_drewN ?_ _ | refine blk_drew ?_ | refine blk_alloc ?_ _)); exact BK563.out⟩, ⟨by (with_reducible repeat (first | refine blk_drewN ?_ _ | refine blk_drew ?_ | refine blk_alloc ?_ _)); refine blk_put (cs := #[.string x565000_27, .slice none 0 0, .string (a0.extract (t562 : Int).toNat a0.size), .bool x565003_27, .bool false]) ?_ 4 _ rfl; (with_reducible repeat (first | refine blk_drewN ?_ _ | refine blk_drew ?_ | refine blk_alloc ?_ _)); refine blk_put (cs := #[.string x565000_27, .slice none 0 0, .string (⟨#[]⟩ : ByteArray), .bool x565003_27, .bool false]) ?_ 2 _ rfl; (with_reducible repeat (first | refine blk_drewN ?_ _ | refine blk_drew ?_ | refine blk_alloc ?_ _)); exact BK564.out⟩, ⟨by repeat (first | (with_reducible first | exact HB.out | apply bA | apply bN | apply bD | refine below_set ?_ GE557.out | refine below_set ?_ GE563.out | refine below_set ?_ GE564.out) | exact HB.out)⟩⟩
           ·rw [if_neg c50] at H
            exact absurd H (by simp)
          ·rw [if_neg c49] at H
           exact absurd H (by simp)
         ·replace c48 := Bool.eq_false_iff.mpr c48
          subst c48
          rw [if_neg (show ¬ (false = true) by decide)] at H
          have H' := aM H
          clear H
          go_wp2
          go_meet
          case rel => exact ⟨_, ((⟨#[]⟩ : ByteArray)), (false), H', ⟨by have := HJ7.out; have := HJ27.out; have := HJ36.out; first | omega | exact Nat.le_refl _⟩, ⟨by (with_reducible repeat (first | refine blk_drewN ?_ _ | refine blk_drew ?_ | refine blk_alloc ?_ _)); exact BK557.out⟩, ⟨by (with_reducible repeat (first | refine blk_drewN ?_ _ | refine blk_drew ?_ | refine blk_alloc ?_ _)); exact BK563.out⟩, ⟨by (with_reducible repeat (first | refine blk_drewN ?_ _ | refine blk_drew ?_ | refine blk_alloc ?_ _)); exact BK564.out⟩, ⟨by repeat (first | (with_reducible first | exact HB.out | apply bA | apply bN | apply bD | refine below_set ?_ GE557.out | refine below_set ?_ GE563.out | refine below_set ?_ GE564.out) | exact HB.out)⟩⟩
        case rest =>
         clear HC47
         try clear c1
         try clear c2
         try clear p2
         try clear c3
         try clear c3b0
         try clear c3b1
         try clear c4
         try clear c5
         try clear c6
         try clear c7
         try clear c13
         try clear c16
         try clear c17
         try clear c19
         try clear c20
         try clear c21
         try clear c23
         try clear c25
         try clear c26
         try clear c29
         try clear c30
         try clear c30b0
         try clear c30b1
         try clear c31
         try clear c31b0
         try clear c31b1
         try clear c32
         try clear c33
         try clear c35
         try clear c38
         try clear c39
         try clear c40
         try clear c42
         try clear c44
         try clear c45
         try clear c48
         try clear c49
         try clear c49b0
         try clear c49b1
         try clear c50
         try clear c50b0
         try clear c50b1
         try clear c51
         try clear c52
         try clear c54
         try clear hcz10_0
         try clear hcz10_1
         try clear hcz10_2
         try clear hcz10_3
         try clear hcz10_4
         try clear hcz10_5
         try clear hcz10_6
         try clear hcz14_0
         try clear hcz14_1
         try clear hcz14_2
         try clear hcz14_3
         try clear hcz18_0
         try clear hcz18_1
         try clear hcz18_2
         try clear hcz18_3
         try clear hcz18_4
         try clear hcz22_0
         try clear hcz22_1
         try clear hcz22_2
         try clear hcz22_3
         try clear hcz22_4
         try clear hcz22_5
         try clear hcz22_6
         try clear hcz24_0
         try clear hcz24_1
         try clear hcz24_2
         try clear hcz24_3
         try clear hcz27_0
         try clear hcz27_1
         try clear hcz27_2
         try clear hcz27_3
         try clear hcz27_4
         try clear hcz27_5
         try clear hcz27_6
         try clear hcz34_0
         try clear hcz34_1
         try clear hcz34_2
         try clear hcz34_3
         try clear hcz36_0
         try clear hcz36_1
         try clear hcz36_2
         try clear hcz36_3
         try clear hcz36_4
         try clear hcz41_0
         try clear hcz41_1
         try clear hcz41_2
         try clear hcz41_3
         try clear hcz41_4
         try clear hcz41_5
         try clear hcz41_6
         try clear hcz43_0
         try clear hcz43_1
         try clear hcz43_2
         try clear hcz43_3
         try clear hcz46_0
         try clear hcz46_1
         try clear hcz46_2
         try clear hcz46_3
         try clear hcz46_4
         try clear hcz46_5
         try clear hcz46_6
         try clear hcz53_0
         try clear hcz53_1
         try clear hcz53_2
         try clear hcz53_3
         try clear hcz55_0
         try clear hcz55_1
         try clear hcz55_2
         try clear hcz55_3
         try clear hcz55_4
         try clear hfz10_0
         try clear hfz10_1
         try clear hfz10_2
         try clear hfz10_3
         try clear hfz10_4
         try clear hfz10_5
         try clear hfz10_6
         try clear hfz14_0
         try clear hfz14_1
         try clear hfz14_2
         try clear hfz14_3
         try clear hfz18_0
         try clear hfz18_1
         try clear hfz18_2
         try clear hfz18_3
         try clear hfz18_4
         try clear hfz22_0
         try clear hfz22_1
         try clear hfz22_2
         try clear hfz22_3
         try clear hfz22_4
         try clear hfz22_5
         try clear hfz22_6
         try clear hfz24_0
         try clear hfz24_1
         try clear hfz24_2
         try clear hfz24_3
         try clear hfz27_0
         try clear hfz27_1
         try clear hfz27_2
         try clear hfz27_3
         try clear hfz27_4
         try clear hfz27_5
         try clear hfz27_6
         try clear hfz34_0
         try clear hfz34_1
         try clear hfz34_2
         try clear hfz34_3
         try clear hfz36_0
         try clear hfz36_1
         try clear hfz36_2
         try clear hfz36_3
         try clear hfz36_4
         try clear hfz41_0
         try clear hfz41_1
         try clear hfz41_2
         try clear hfz41_3
         try clear hfz41_4
         try clear hfz41_5
         try clear hfz41_6
         try clear hfz43_0
         try clear hfz43_1
         try clear hfz43_2
         try clear hfz43_3
         try clear hfz46_0
         try clear hfz46_1
         try clear hfz46_2
         try clear hfz46_3
         try clear hfz46_4
         try clear hfz46_5
         try clear hfz46_6
         try clear hfz53_0
         try clear hfz53_1
         try clear hfz53_2
         try clear hfz53_3
         try clear hfz55_0
         try clear hfz55_1
         try clear hfz55_2
         try clear hfz55_3
         try clear hfz55_4
         try clear p2
         obtain ⟨kq, x565002_46, x565004_46, HA, HJ46, BK557, BK563, BK564, HB⟩ := hcut
         cases kq with
         | zero => exact absurd HA.out (by simp [toponymlaw13_PiecesCut.j3])
         | succ kj46 =>
          have H := HA.out
          clear HA
          simp only [toponymlaw13_PiecesCut.j3] at H
          have HC56 := aM H
          clear H
          have hnb57 := NB563_557.out
          have hnc57 := NB557_563.out
          have hnb58 := NB563_564.out
          have hnc58 := NB564_563.out
          have hcz59_0 : wc.cell? ⟨gb563, 0, none⟩ = some (.int .i64 t559) := (blk_cell BK563.out 0).trans rfl
          have hcz59_1 : wc.cell? ⟨gb563, 1, none⟩ = some (.int .i64 t560) := (blk_cell BK563.out 1).trans rfl
          have hcz59_2 : wc.cell? ⟨gb563, 2, none⟩ = some (.int .i64 t561) := (blk_cell BK563.out 2).trans rfl
          have hcz59_3 : wc.cell? ⟨gb563, 3, none⟩ = some (.int .i64 t562) := (blk_cell BK563.out 3).trans rfl
          have hfz59_0 := blk_frozen BK563.out 0
          have hfz59_1 := blk_frozen BK563.out 1
          have hfz59_2 := blk_frozen BK563.out 2
          have hfz59_3 := blk_frozen BK563.out 3
          go_upto_if 48 with (fail)
          go_cut [] (fun wc => ∃ (kq : Nat) (x565001_55 : List ByteArray) (u565001 : Value), Aside0 (toponymlaw13_PiecesCut.j4 kq a0 a1_0 a1_1 a1_2 a1_3 a1_4 a1_5 a1_6 t559 t560 t561 t562 x565000_27 x565001_55 x565002_46 x565003_27 x565004_46 = some r) ∧ Aside0 (kq ≤ kj46) ∧ Aside0 (Kd.R Kd.string 9 wc w.heap.size (fun _ => True) u565001 x565001_55) ∧ Aside0 (wc.heap[gb557]? = some (.cells #[.int .i64 a1_0, .int .i64 a1_1, .int .i64 a1_2, .int .i64 a1_3, .bool a1_4, .bool a1_5, .bool a1_6] 23 (0, 0))) ∧ Aside0 (wc.heap[gb563]? = some (.cells #[.int .i64 t559, .int .i64 t560, .int .i64 t561, .int .i64 t562] 25 (0, 0))) ∧ Aside0 (wc.heap[gb564]? = some (.cells #[.string x565000_27, u565001, .string x565002_46, .bool x565003_27, .bool x565004_46] 29 (0, 0))) ∧ Aside0 (Below w.heap.size w wc))
          case first =>
           have H := HC56.out
           clear HC56
           by_cases c60 : t559 < t560
           ·rw [if_pos c60] at H
            have c60b0 : decide (t559 < t560) = true := decide_eq_true c60
            clear c60
            (first | rw [c60b0] | (simp only [i64_w, i32_w]; rw [c60b0]) | skip)
            by_cases c61 : 0 ≤ t559
            ·rw [if_pos c61] at H
             have c61b0 := eq_true c61
             have c61b1 : decide (0 ≤ t559) = true := decide_eq_true c61
             clear c61
             by_cases c62 : t559 ≤ t560
             ·rw [if_pos c62] at H
              have c62b0 := eq_true c62
              have c62b1 : decide (t559 ≤ t560) = true := decide_eq_true c62
              clear c62
              by_cases c63 : t560 ≤ (a0.size : Int)
              ·rw [if_pos c63] at H
               have c63b0 := eq_true c63
               have c63b1 : decide (t560 ≤ (a0.size : Int)) = true := decide_eq_true c63
               clear c63
               by_cases c64 : ([] : List ByteArray).length < 8796093022208
               ·rw [if_pos c64] at H
                have LMc64 := aM c64
                clear c64
                obtain ⟨y565, hy565⟩ : ∃ y_ : List ByteArray, y_ = (([] : List ByteArray) ++ [a0.extract (t559 : Int).toNat (t560 : Int).toNat]) := ⟨_, rfl⟩
                replace H : (toponymlaw13_PiecesCut.j4 kj46 a0 a1_0 a1_1 a1_2 a1_3 a1_4 a1_5 a1_6 t559 t560 t561 t562 x565000_27 y565 x565002_46 x565003_27 x565004_46) = some r := zY hy565 H
                have Ny565 := aM hy565
                clear hy565
                have H' := aM H
                clear H
                try go_wp2
                have n0_ := aM (blk_drew BK557.out)
                have n1_ := aM (blk_drew BK563.out)
                have n2_ := aM (blk_drew BK564.out)
                have n3_ := aM (bD HB.out)
                clear BK557
                clear BK563
                clear BK564
                clear HB
                have BK557 := n0_
                have BK563 := n1_
                have BK564 := n2_
                have HB := n3_
                clear n0_ n1_ n2_ n3_
                refine start_ (n := 12) (S := fun w' => w'.cell? ⟨gb564, 0, none⟩ = some (.string x565000_27) ∧ w'.cell? ⟨gb564, 1, none⟩ = some (.slice none 0 0) ∧ w'.cell? ⟨gb564, 2, none⟩ = some (.string x565002_46) ∧ w'.cell? ⟨gb564, 3, none⟩ = some (.bool x565003_27) ∧ w'.cell? ⟨gb564, 4, none⟩ = some (.bool x565004_46) ∧ w'.cell? ⟨gb563, 0, none⟩ = some (.int .i64 t559) ∧ w'.cell? ⟨gb563, 1, none⟩ = some (.int .i64 t560) ∧ w'.cell? ⟨gb563, 2, none⟩ = some (.int .i64 t561) ∧ w'.cell? ⟨gb563, 3, none⟩ = some (.int .i64 t562)) (ds := [11]) #[false, false, false, false, false, false, false, false, false, false, false, false] zK rfl rfl ⟨(blk_cell BK564.out 0).trans rfl, (blk_cell BK564.out 1).trans rfl, (blk_cell BK564.out 2).trans rfl, (blk_cell BK564.out 3).trans rfl, (blk_cell BK564.out 4).trans rfl, (blk_cell BK563.out 0).trans rfl, (blk_cell BK563.out 1).trans rfl, (blk_cell BK563.out 2).trans rfl, (blk_cell BK563.out 3).trans rfl⟩ (fun hHeld => ?_); refine with_tabW toponymlaw13_PiecesCut.tab10 toponymlaw13_PiecesCut.bits10 (fun HT_ HW_ => ?_)
                generalize wc.drew = w65 at BK557 BK563 BK564 HB hHeld ⊢
                refine pure_ (i := 0) (N := some 49) (v := ?_) (a' := ?_) #[true, false, false, false, false, false, false, false, false, false, false, false] rfl rfl (any_of HT_.out zK) (fun _ _ _ h => h) (Or.inl ⟨by rfl, ?_⟩) ?_ ?_
                rotate_left
                ·intro w'
                 go_simp
                 with_reducible rfl
                rotate_left
                ·simp only [Act.put, List.setIfInBounds_toArray, List.set_cons_zero, List.set_cons_succ, i64_w, i32_w]
                 rfl
                refine pure_ (i := 2) (N := some 51) (v := ?_) (a' := ?_) #[true, false, true, false, false, false, false, false, false, false, false, false] rfl rfl (any_of HT_.out zK) (fun _ _ _ h => h) (Or.inl ⟨by rfl, ?_⟩) ?_ ?_
                rotate_left
                ·intro w'
                 go_simp
                 with_reducible rfl
                rotate_left
                ·simp only [Act.put, List.setIfInBounds_toArray, List.set_cons_zero, List.set_cons_succ, i64_w, i32_w]
                 rfl
                refine pure_ (i := 3) (N := some 52) (v := ?_) (a' := ?_) #[true, false, true, true, false, false, false, false, false, false, false, false] rfl rfl (any_of HT_.out zK) (fun _ _ _ h => h) (Or.inl ⟨by rfl, ?_⟩) ?_ ?_
                rotate_left
                ·intro w'
                 go_simp
                 with_reducible rfl
                rotate_left
                ·simp only [Act.put, List.setIfInBounds_toArray, List.set_cons_zero, List.set_cons_succ, i64_w, i32_w]
                 rfl
                refine pure_ (i := 5) (N := some 54) (v := ?_) (a' := ?_) #[true, false, true, true, false, true, false, false, false, false, false, false] rfl rfl (any_of HT_.out zK) (fun _ _ _ h => h) (Or.inl ⟨by rfl, ?_⟩) ?_ ?_
                rotate_left
                ·intro w'
                 go_simp
                 with_reducible rfl
                rotate_left
                ·simp only [Act.put, List.setIfInBounds_toArray, List.set_cons_zero, List.set_cons_succ, i64_w, i32_w]
                 rfl
                refine take_ (i := 1) (N := some 50) (v := ?_) (a' := ?_) #[true, true, true, true, false, true, false, false, false, false, false, false] rfl rfl (take_ofW HT_.out HW_.out zK) (fun _ _ _ h => h) (Or.inl ⟨by rfl, ?_⟩) hHeld ?_ ?_
                rotate_left
                ·rintro w' ⟨s0, s1, s2, s3, s4, s5, s6, s7, s8⟩
                 go_simp
                 with_reducible rfl
                rotate_left
                ·simp only [Act.put, List.setIfInBounds_toArray, List.set_cons_zero, List.set_cons_succ, i64_w, i32_w]
                 rfl
                refine take_ (i := 4) (N := some 53) (v := ?_) (a' := ?_) #[true, true, true, true, true, true, false, false, false, false, false, false] rfl rfl (take_ofW HT_.out HW_.out zK) (fun _ _ _ h => h) (Or.inl ⟨by rfl, ?_⟩) hHeld ?_ ?_
                rotate_left
                ·rintro w' ⟨s0, s1, s2, s3, s4, s5, s6, s7, s8⟩
                 go_simp
                 with_reducible rfl
                rotate_left
                ·simp only [Act.put, List.setIfInBounds_toArray, List.set_cons_zero, List.set_cons_succ, i64_w, i32_w]
                 rfl
                refine take_ (i := 6) (N := some 55) (v := ?_) (a' := ?_) #[true, true, true, true, true, true, true, false, false, false, false, false] rfl rfl (take_ofW HT_.out HW_.out zK) (fun _ _ _ h => h) (Or.inl ⟨by rfl, ?_⟩) hHeld ?_ ?_
                rotate_left
                ·rintro w' ⟨s0, s1, s2, s3, s4, s5, s6, s7, s8⟩
                 go_simp
                 with_reducible rfl
                rotate_left
                ·simp only [Act.put, List.setIfInBounds_toArray, List.set_cons_zero, List.set_cons_succ, i64_w, i32_w]
                 rfl
                refine pure_ (i := 7) (N := some 56) (v := ?_) (a' := ?_) #[true, true, true, true, true, true, true, true, false, false, false, false] rfl rfl (any_of HT_.out zK) (fun _ _ _ h => h) (Or.inl ⟨by rfl, ?_⟩) ?_ ?_
                rotate_left
                ·intro w'
                 go_simp
                 with_reducible rfl
                rotate_left
                ·simp only [Act.put, List.setIfInBounds_toArray, List.set_cons_zero, List.set_cons_succ, i64_w, i32_w]
                 rfl
                refine one_ (i := 8) (N := some 57) #[true, true, true, true, true, true, true, true, true, false, false, false] rfl rfl (one_of HT_.out zK) (by decide) (fun K hK => ?_)
                refine value_ (w1 := ?_) (v := ?_) (by rfl) rfl ?_ ?_
                rotate_left 2
                ·go_simp
                 constructor
                 ·rfl
                 ·rfl
                refine hK.out _ _ ⟨(blk_cell (blk_alloc BK564.out _) 0).trans rfl, (blk_cell (blk_alloc BK564.out _) 1).trans rfl, (blk_cell (blk_alloc BK564.out _) 2).trans rfl, (blk_cell (blk_alloc BK564.out _) 3).trans rfl, (blk_cell (blk_alloc BK564.out _) 4).trans rfl, (blk_cell (blk_alloc BK563.out _) 0).trans rfl, (blk_cell (blk_alloc BK563.out _) 1).trans rfl, (blk_cell (blk_alloc BK563.out _) 2).trans rfl, (blk_cell (blk_alloc BK563.out _) 3).trans rfl⟩ (fun hHeld => ?_)
                clear hK K
                refine norm_ (a' := ?_) ?_ ?_
                rotate_left
                ·show Act.put _ (some 57) _ = _
                 simp only [Act.put, List.setIfInBounds_toArray, List.set_cons_zero, List.set_cons_succ, i64_w, i32_w]
                 rfl
                refine one_ (i := 9) (N := some 58) #[true, true, true, true, true, true, true, true, true, true, false, false] rfl rfl (one_of HT_.out zK) (by decide) (fun K hK => ?_)
                refine Kd.R_append_step Kd.string (w0 := w) w.heap.size (by rfl) (.tmp 50) (.tmp 57) 27 9 (.string ⟨#[]⟩) 16 rfl Try.underlying27 info9 rfl (by decide) (by omega) (.slice none 0 0) ([] : List ByteArray) (a0.extract (t559 : Int).toNat (t560 : Int).toNat) [.string (a0.extract (t559 : Int).toNat (t560 : Int).toNat)] (fun _ => True) (fun _ => False) rfl rfl ?aP (fun _ hk => hk.elim) ?aF ?aO ?aB ?aS ?aL ?_
                (case aP => exact rfl)
                (case aB => exact (by repeat (first | (with_reducible first | exact HB.out | apply bA | apply bN | apply bD | refine below_set ?_ GE557.out | refine below_set ?_ GE563.out | refine below_set ?_ GE564.out) | exact HB.out)))
                (case aF => exact (fun _ _ => trivial))
                (case aO => exact ((Kd.R_nil _ _ _ _ (fun _ => True))))
                (case aS => exact (below_size (by repeat (first | (with_reducible first | exact HB.out | apply bA | apply bN | apply bD | refine below_set ?_ GE557.out | refine below_set ?_ GE563.out | refine below_set ?_ GE564.out) | exact HB.out))))
                (case aL => have := LMc64.out; omega)
                intro v566 w66 ho hb hg hat
                rw [← Ny565.out] at ho
                have n0_ := aM (blk_grown (g := gb557) (o := .cells #[.int .i64 a1_0, .int .i64 a1_1, .int .i64 a1_2, .int .i64 a1_3, .bool a1_4, .bool a1_5, .bool a1_6] 23 (0, 0)) (by (with_reducible repeat (first | refine blk_drewN ?_ _ | refine blk_drew ?_ | refine blk_alloc ?_ _)); exact BK557.out) hg (by simp [Value.ownBlock]))
                have n1_ := aM (blk_grown (g := gb563) (o := .cells #[.int .i64 t559, .int .i64 t560, .int .i64 t561, .int .i64 t562] 25 (0, 0)) (by (with_reducible repeat (first | refine blk_drewN ?_ _ | refine blk_drew ?_ | refine blk_alloc ?_ _)); exact BK563.out) hg (by simp [Value.ownBlock]))
                have n2_ := aM (blk_grown (g := gb564) (o := .cells #[.string x565000_27, .slice none 0 0, .string x565002_46, .bool x565003_27, .bool x565004_46] 29 (0, 0)) (by (with_reducible repeat (first | refine blk_drewN ?_ _ | refine blk_drew ?_ | refine blk_alloc ?_ _)); exact BK564.out) hg (by simp [Value.ownBlock]))
                have n3_ := aM (hb)
                have n4_ := aM (ho)
                clear BK557
                clear BK563
                clear BK564
                clear HB
                have BK557 := n0_
                have BK563 := n1_
                have BK564 := n2_
                have HB := n3_
                have HO567 := n4_
                clear n0_ n1_ n2_ n3_ n4_
                clear ho hb hg hat
                obtain ⟨Ao67, co67, eo67⟩ := Kd.R_slice HO567.out
                (first | subst eo67 | (injection eo67 with f1_ f2_ f3_; have f4_ := f1_.symm; have f5_ := f3_.symm; clear f1_ f2_ f3_; subst f4_; subst f5_))
                refine hK.out _ _ ⟨(blk_cell BK564.out 0).trans rfl, (blk_cell BK564.out 1).trans rfl, (blk_cell BK564.out 2).trans rfl, (blk_cell BK564.out 3).trans rfl, (blk_cell BK564.out 4).trans rfl, (blk_cell BK563.out 0).trans rfl, (blk_cell BK563.out 1).trans rfl, (blk_cell BK563.out 2).trans rfl, (blk_cell BK563.out 3).trans rfl⟩ (fun hHeld => ?_)
                clear hK K
                refine norm_ (a' := ?_) ?_ ?_
                rotate_left
                ·show Act.put _ (some 58) _ = _
                 simp only [Act.put, List.setIfInBounds_toArray, List.set_cons_zero, List.set_cons_succ, i64_w, i32_w]
                 rfl
                refine pure_ (i := 10) (N := some 59) (v := ?_) (a' := ?_) #[true, true, true, true, true, true, true, true, true, true, true, false] rfl rfl (any_of HT_.out zK) (fun _ _ _ h => h) (Or.inl ⟨by rfl, ?_⟩) ?_ ?_
                rotate_left
                ·intro w'
                 go_simp
                 with_reducible rfl
                rotate_left
                ·simp only [Act.put, List.setIfInBounds_toArray, List.set_cons_zero, List.set_cons_succ, i64_w, i32_w]
                 rfl
                refine last_ (i := 11) (N := none) #[true, true, true, true, true, true, true, true, true, true, true, true] rfl rfl (one_of HT_.out zK) (by decide) (fun K hK => ?_)
                have hs68 : w66.cell? ⟨gb564, 1, none⟩ = some (.slice none 0 0) := (blk_cell BK564.out 1).trans rfl
                have hfs68 := blk_frozen BK564.out 1
                have hns68_0 := NB557_564.out
                have hns68_1 := NB563_564.out
                have hms68_0 := NB564_557.out
                have hms68_1 := NB564_563.out
                refine skip_ (w1 := ?_) (by rfl) rfl ?_ ?_
                rotate_left
                ·go_simp
                 rfl
                refine hK.out _ _ ?_
                clear hK K
                refine done_ (done_of HT_.out zK) ?_
                try go_wp2
                go_meet
                case rel => exact ⟨_, (y565), (.slice Ao67 y565.length co67), H', ⟨by have := HJ7.out; have := HJ27.out; have := HJ36.out; have := HJ46.out; first | omega | exact Nat.le_refl _⟩, ⟨by (with_reducible repeat (first | apply Kd.R_alloc | apply Kd.R_drewN | apply Kd.R_drew)); exact Kd.R_mono (Kd.R_far (p := ⟨gb564, 1, none⟩) (Kd.R_types HO567.out BK564.out (by decide)) (fun _ hk => hk.2) (.slice Ao67 y565.length co67)) (fun _ hk => trivial)⟩, ⟨by (with_reducible repeat (first | refine blk_drewN ?_ _ | refine blk_drew ?_ | refine blk_alloc ?_ _)); refine blk_far ?_ NB557_564.out _; (with_reducible repeat (first | refine blk_drewN ?_ _ | refine blk_drew ?_ | refine blk_alloc ?_ _)); exact BK557.out⟩, ⟨by (with_reducible repeat (first | refine blk_drewN ?_ _ | refine blk_drew ?_ | refine blk_alloc ?_ _)); refine blk_far ?_ NB563_564.out _; (with_reducible repeat (first | refine blk_drewN ?_ _ | refine blk_drew ?_ | refine blk_alloc ?_ _)); exact BK563.out⟩, ⟨by (with_reducible repeat (first | refine blk_drewN ?_ _ | refine blk_drew ?_ | refine blk_alloc ?_ _)); refine blk_put (cs := #[.string x565000_27, .slice none 0 0, .string x565002_46, .bool x565003_27, .bool x565004_46]) ?_ 1 _ rfl; (with_reducible repeat (first | refine blk_drewN ?_ _ | refine blk_drew ?_ | refine blk_alloc ?_ _)); exact BK564.out⟩, ⟨by repeat (first | (with_reducible first | exact HB.out | apply bA | apply bN | apply bD | refine below_set ?_ GE557.out | refine below_set ?_ GE563.out | refine below_set ?_ GE564.out) | exact HB.out)⟩⟩
               ·rw [if_neg c64] at H
                exact absurd H (by simp)
              ·rw [if_neg c63] at H
               exact absurd H (by simp)
             ·rw [if_neg c62] at H
              exact absurd H (by simp)
            ·rw [if_neg c61] at H
             exact absurd H (by simp)
           ·rw [if_neg c60] at H
            have c60b0 : decide (t559 < t560) = false := decide_eq_false c60
            clear c60
            (first | rw [c60b0] | (simp only [i64_w, i32_w]; rw [c60b0]) | skip)
            have H' := aM H
            clear H
            go_wp2
            go_meet
            case rel => exact ⟨_, (([] : List ByteArray)), (.slice none 0 0), H', ⟨by have := HJ7.out; have := HJ27.out; have := HJ36.out; have := HJ46.out; first | omega | exact Nat.le_refl _⟩, ⟨zL⟩, ⟨by (with_reducible repeat (first | refine blk_drewN ?_ _ | refine blk_drew ?_ | refine blk_alloc ?_ _)); exact BK557.out⟩, ⟨by (with_reducible repeat (first | refine blk_drewN ?_ _ | refine blk_drew ?_ | refine blk_alloc ?_ _)); exact BK563.out⟩, ⟨by (with_reducible repeat (first | refine blk_drewN ?_ _ | refine blk_drew ?_ | refine blk_alloc ?_ _)); exact BK564.out⟩, ⟨by repeat (first | (with_reducible first | exact HB.out | apply bA | apply bN | apply bD | refine below_set ?_ GE557.out | refine below_set ?_ GE563.out | refine below_set ?_ GE564.out) | exact HB.out)⟩⟩
          case rest =>
           clear HC56
           try clear c1
           try clear c2
           try clear p2
           try clear c3
           try clear c3b0
           try clear c3b1
           try clear c4
           try clear c5
           try clear c6
           try clear c7
           try clear c13
           try clear c16
           try clear c17
           try clear c19
           try clear c20
           try clear c21
           try clear c23
           try clear c25
           try clear c26
           try clear c29
           try clear c30
           try clear c30b0
           try clear c30b1
           try clear c31
           try clear c31b0
           try clear c31b1
           try clear c32
           try clear c33
           try clear c35
           try clear c38
           try clear c39
           try clear c40
           try clear c42
           try clear c44
           try clear c45
           try clear c48
           try clear c49
           try clear c49b0
           try clear c49b1
           try clear c50
           try clear c50b0
           try clear c50b1
           try clear c51
           try clear c52
           try clear c54
           try clear c57
           try clear c58
           try clear c60
           try clear c60b0
           try clear c61
           try clear c61b0
           try clear c61b1
           try clear c62
           try clear c62b0
           try clear c62b1
           try clear c63
           try clear c63b0
           try clear c63b1
           try clear c64
           try clear hcz10_0
           try clear hcz10_1
           try clear hcz10_2
           try clear hcz10_3
           try clear hcz10_4
           try clear hcz10_5
           try clear hcz10_6
           try clear hcz14_0
           try clear hcz14_1
           try clear hcz14_2
           try clear hcz14_3
           try clear hcz18_0
           try clear hcz18_1
           try clear hcz18_2
           try clear hcz18_3
           try clear hcz18_4
           try clear hcz22_0
           try clear hcz22_1
           try clear hcz22_2
           try clear hcz22_3
           try clear hcz22_4
           try clear hcz22_5
           try clear hcz22_6
           try clear hcz24_0
           try clear hcz24_1
           try clear hcz24_2
           try clear hcz24_3
           try clear hcz27_0
           try clear hcz27_1
           try clear hcz27_2
           try clear hcz27_3
           try clear hcz27_4
           try clear hcz27_5
           try clear hcz27_6
           try clear hcz34_0
           try clear hcz34_1
           try clear hcz34_2
           try clear hcz34_3
           try clear hcz36_0
           try clear hcz36_1
           try clear hcz36_2
           try clear hcz36_3
           try clear hcz36_4
           try clear hcz41_0
           try clear hcz41_1
           try clear hcz41_2
           try clear hcz41_3
           try clear hcz41_4
           try clear hcz41_5
           try clear hcz41_6
           try clear hcz43_0
           try clear hcz43_1
           try clear hcz43_2
           try clear hcz43_3
           try clear hcz46_0
           try clear hcz46_1
           try clear hcz46_2
           try clear hcz46_3
           try clear hcz46_4
           try clear hcz46_5
           try clear hcz46_6
           try clear hcz53_0
           try clear hcz53_1
           try clear hcz53_2
           try clear hcz53_3
           try clear hcz55_0
           try clear hcz55_1
           try clear hcz55_2
           try clear hcz55_3
           try clear hcz55_4
           try clear hcz59_0
           try clear hcz59_1
           try clear hcz59_2
           try clear hcz59_3
           try clear hfz10_0
           try clear hfz10_1
           try clear hfz10_2
           try clear hfz10_3
           try clear hfz10_4
           try clear hfz10_5
           try clear hfz10_6
           try clear hfz14_0
           try clear hfz14_1
           try clear hfz14_2
           try clear hfz14_3
           try clear hfz18_0
           try clear hfz18_1
           try clear hfz18_2
           try clear hfz18_3
           try clear hfz18_4
           try clear hfz22_0
           try clear hfz22_1
           try clear hfz22_2
           try clear hfz22_3
           try clear hfz22_4
           try clear hfz22_5
           try clear hfz22_6
           try clear hfz24_0
           try clear hfz24_1
           try clear hfz24_2
           try clear hfz24_3
           try clear hfz27_0
           try clear hfz27_1
           try clear hfz27_2
           try clear hfz27_3
           try clear hfz27_4
           try clear hfz27_5
           try clear hfz27_6
           try clear hfz34_0
           try clear hfz34_1
           try clear hfz34_2
           try clear hfz34_3
           try clear hfz36_0
           try clear hfz36_1
           try clear hfz36_2
           try clear hfz36_3
           try clear hfz36_4
           try clear hfz41_0
           try clear hfz41_1
           try clear hfz41_2
           try clear hfz41_3
           try clear hfz41_4
           try clear hfz41_5
           try clear hfz41_6
           try clear hfz43_0
           try clear hfz43_1
           try clear hfz43_2
           try clear hfz43_3
           try clear hfz46_0
           try clear hfz46_1
           try clear hfz46_2
           try clear hfz46_3
           try clear hfz46_4
           try clear hfz46_5
           try clear hfz46_6
           try clear hfz53_0
           try clear hfz53_1
           try clear hfz53_2
           try clear hfz53_3
           try clear hfz55_0
           try clear hfz55_1
           try clear hfz55_2
           try clear hfz55_3
           try clear hfz55_4
           try clear hfz59_0
           try clear hfz59_1
           try clear hfz59_2
           try clear hfz59_3
           try clear p2
           obtain ⟨kq, x565001_55, u565001, HA, HJ55, HO_565001, BK557, BK563, BK564, HB⟩ := hcut
           cases kq with
           | zero => exact absurd HA.out (by simp [toponymlaw13_PiecesCut.j4])
           | succ kj55 =>
            have H := HA.out
            clear HA
            simp only [toponymlaw13_PiecesCut.j4] at H
            have HC69 := aM H
            clear H
            go_upto_region 11 with (fail)
            go_cut [68] (fun v68 wc => ∃ (kq : Nat) (x68_68 : Bool), v68 = .bool x68_68 ∧ Aside0 (toponymlaw13_PiecesCut.j5 kq a0 x68_68 t559 t560 t561 t562 x565000_27 x565001_55 x565002_46 x565003_27 x565004_46 = some r) ∧ Aside0 (kq ≤ kj55) ∧ Aside0 (Kd.R Kd.string 9 wc w.heap.size (fun _ => True) u565001 x565001_55) ∧ Aside0 (wc.heap[gb557]? = some (.cells #[.int .i64 a1_0, .int .i64 a1_1, .int .i64 a1_2, .int .i64 a1_3, .bool a1_4, .bool a1_5, .bool a1_6] 23 (0, 0))) ∧ Aside0 (wc.heap[gb563]? = some (.cells #[.int .i64 t559, .int .i64 t560, .int .i64 t561, .int .i64 t562] 25 (0, 0))) ∧ Aside0 (wc.heap[gb564]? = some (.cells #[.string x565000_27, u565001, .string x565002_46, .bool x565003_27, .bool x565004_46] 29 (0, 0))) ∧ Aside0 (Below w.heap.size w wc))
            case first =>
             have H := HC69.out
             clear HC69
             by_cases c70 : a1_6 = true
             ·subst c70
              rw [if_pos rfl] at H
              have H' := aM H
              clear H
              have hnb71 := NB557_563.out
              have hnc71 := NB563_557.out
              have hnb72 := NB557_564.out
              have hnc72 := NB564_557.out
              have hcz73_0 : wc.cell? ⟨gb557, 0, none⟩ = some (.int .i64 a1_0) := (blk_cell BK557.out 0).trans rfl
              have hcz73_1 : wc.cell? ⟨gb557, 1, none⟩ = some (.int .i64 a1_1) := (blk_cell BK557.out 1).trans rfl
              have hcz73_2 : wc.cell? ⟨gb557, 2, none⟩ = some (.int .i64 a1_2) := (blk_cell BK557.out 2).trans rfl
              have hcz73_3 : wc.cell? ⟨gb557, 3, none⟩ = some (.int .i64 a1_3) := (blk_cell BK557.out 3).trans rfl
              have hcz73_4 : wc.cell? ⟨gb557, 4, none⟩ = some (.bool a1_4) := (blk_cell BK557.out 4).trans rfl
              have hcz73_5 : wc.cell? ⟨gb557, 5, none⟩ = some (.bool a1_5) := (blk_cell BK557.out 5).trans rfl
              have hcz73_6 : wc.cell? ⟨gb557, 6, none⟩ = some (.bool true) := (blk_cell BK557.out 6).trans rfl
              have hfz73_0 := blk_frozen BK557.out 0
              have hfz73_1 := blk_frozen BK557.out 1
              have hfz73_2 := blk_frozen BK557.out 2
              have hfz73_3 := blk_frozen BK557.out 3
              have hfz73_4 := blk_frozen BK557.out 4
              have hfz73_5 := blk_frozen BK557.out 5
              have hfz73_6 := blk_frozen BK557.out 6
              have hnb74 := NB563_564.out
              have hnc74 := NB564_563.out
              have hcz75_0 : wc.cell? ⟨gb563, 0, none⟩ = some (.int .i64 t559) := (blk_cell BK563.out 0).trans rfl
              have hcz75_1 : wc.cell? ⟨gb563, 1, none⟩ = some (.int .i64 t560) := (blk_cell BK563.out 1).trans rfl
              have hcz75_2 : wc.cell? ⟨gb563, 2, none⟩ = some (.int .i64 t561) := (blk_cell BK563.out 2).trans rfl
              have hcz75_3 : wc.cell? ⟨gb563, 3, none⟩ = some (.int .i64 t562) := (blk_cell BK563.out 3).trans rfl
              have hfz75_0 := blk_frozen BK563.out 0
              have hfz75_1 := blk_frozen BK563.out 1
              have hfz75_2 := blk_frozen BK563.out 2
              have hfz75_3 := blk_frozen BK563.out 3
              go_wp2
              go_meet
              case rel => exact ⟨_, (decide (t561 < t562)), zP, H', ⟨by have := HJ7.out; have := HJ27.out; have := HJ36.out; have := HJ46.out; have := HJ55.out; first | omega | exact Nat.le_refl _⟩, ⟨zR HO_565001⟩, ⟨by (with_reducible repeat (first | refine blk_drewN ?_ _ | refine blk_drew ?_ | refine blk_alloc ?_ _)); exact BK557.out⟩, ⟨by (with_reducible repeat (first | refine blk_drewN ?_ _ | refine blk_drew ?_ | refine blk_alloc ?_ _)); exact BK563.out⟩, ⟨by (with_reducible repeat (first | refine blk_drewN ?_ _ | refine blk_drew ?_ | refine blk_alloc ?_ _)); exact BK564.out⟩, ⟨by repeat (first | (with_reducible first | exact HB.out | apply bA | apply bN | apply bD | refine below_set ?_ GE557.out | refine below_set ?_ GE563.out | refine below_set ?_ GE564.out) | exact HB.out)⟩⟩
             ·replace c70 := Bool.eq_false_iff.mpr c70
              subst c70
              rw [if_neg (show ¬ (false = true) by decide)] at H
              have H' := aM H
              clear H
              have hnb76 := NB557_563.out
              have hnc76 := NB563_557.out
              have hnb77 := NB557_564.out
              have hnc77 := NB564_557.out
              have hcz78_0 : wc.cell? ⟨gb557, 0, none⟩ = some (.int .i64 a1_0) := (blk_cell BK557.out 0).trans rfl
              have hcz78_1 : wc.cell? ⟨gb557, 1, none⟩ = some (.int .i64 a1_1) := (blk_cell BK557.out 1).trans rfl
              have hcz78_2 : wc.cell? ⟨gb557, 2, none⟩ = some (.int .i64 a1_2) := (blk_cell BK557.out 2).trans rfl
              have hcz78_3 : wc.cell? ⟨gb557, 3, none⟩ = some (.int .i64 a1_3) := (blk_cell BK557.out 3).trans rfl
              have hcz78_4 : wc.cell? ⟨gb557, 4, none⟩ = some (.bool a1_4) := (blk_cell BK557.out 4).trans rfl
              have hcz78_5 : wc.cell? ⟨gb557, 5, none⟩ = some (.bool a1_5) := (blk_cell BK557.out 5).trans rfl
              have hcz78_6 : wc.cell? ⟨gb557, 6, none⟩ = some (.bool false) := (blk_cell BK557.out 6).trans rfl
              have hfz78_0 := blk_frozen BK557.out 0
              have hfz78_1 := blk_frozen BK557.out 1
              have hfz78_2 := blk_frozen BK557.out 2
              have hfz78_3 := blk_frozen BK557.out 3
              have hfz78_4 := blk_frozen BK557.out 4
              have hfz78_5 := blk_frozen BK557.out 5
              have hfz78_6 := blk_frozen BK557.out 6
              go_wp2
              go_meet
              case rel => exact ⟨_, (false), zP, H', ⟨by have := HJ7.out; have := HJ27.out; have := HJ36.out; have := HJ46.out; have := HJ55.out; first | omega | exact Nat.le_refl _⟩, ⟨zR HO_565001⟩, ⟨by (with_reducible repeat (first | refine blk_drewN ?_ _ | refine blk_drew ?_ | refine blk_alloc ?_ _)); exact BK557.out⟩, ⟨by (with_reducible repeat (first | refine blk_drewN ?_ _ | refine blk_drew ?_ | refine blk_alloc ?_ _)); exact BK563.out⟩, ⟨by (with_reducible repeat (first | refine blk_drewN ?_ _ | refine blk_drew ?_ | refine blk_alloc ?_ _)); exact BK564.out⟩, ⟨by repeat (first | (with_reducible first | exact HB.out | apply bA | apply bN | apply bD | refine below_set ?_ GE557.out | refine below_set ?_ GE563.out | refine below_set ?_ GE564.out) | exact HB.out)⟩⟩
            case rest =>
             clear HC69
             try clear c1
             try clear c2
             try clear p2
             try clear c3
             try clear c3b0
             try clear c3b1
             try clear c4
             try clear c5
             try clear c6
             try clear c7
             try clear c13
             try clear c16
             try clear c17
             try clear c19
             try clear c20
             try clear c21
             try clear c23
             try clear c25
             try clear c26
             try clear c29
             try clear c30
             try clear c30b0
             try clear c30b1
             try clear c31
             try clear c31b0
             try clear c31b1
             try clear c32
             try clear c33
             try clear c35
             try clear c38
             try clear c39
             try clear c40
             try clear c42
             try clear c44
             try clear c45
             try clear c48
             try clear c49
             try clear c49b0
             try clear c49b1
             try clear c50
             try clear c50b0
             try clear c50b1
             try clear c51
             try clear c52
             try clear c54
             try clear c57
             try clear c58
             try clear c60
             try clear c60b0
             try clear c61
             try clear c61b0
             try clear c61b1
             try clear c62
             try clear c62b0
             try clear c62b1
             try clear c63
             try clear c63b0
             try clear c63b1
             try clear c64
             try clear c70
             try clear c71
             try clear c72
             try clear c74
             try clear c76
             try clear c77
             try clear hcz10_0
             try clear hcz10_1
             try clear hcz10_2
             try clear hcz10_3
             try clear hcz10_4
             try clear hcz10_5
             try clear hcz10_6
             try clear hcz14_0
             try clear hcz14_1
             try clear hcz14_2
             try clear hcz14_3
             try clear hcz18_0
             try clear hcz18_1
             try clear hcz18_2
             try clear hcz18_3
             try clear hcz18_4
             try clear hcz22_0
             try clear hcz22_1
             try clear hcz22_2
             try clear hcz22_3
             try clear hcz22_4
             try clear hcz22_5
             try clear hcz22_6
             try clear hcz24_0
             try clear hcz24_1
             try clear hcz24_2
             try clear hcz24_3
             try clear hcz27_0
             try clear hcz27_1
             try clear hcz27_2
             try clear hcz27_3
             try clear hcz27_4
             try clear hcz27_5
             try clear hcz27_6
             try clear hcz34_0
             try clear hcz34_1
             try clear hcz34_2
             try clear hcz34_3
             try clear hcz36_0
             try clear hcz36_1
             try clear hcz36_2
             try clear hcz36_3
             try clear hcz36_4
             try clear hcz41_0
             try clear hcz41_1
             try clear hcz41_2
             try clear hcz41_3
             try clear hcz41_4
             try clear hcz41_5
             try clear hcz41_6
             try clear hcz43_0
             try clear hcz43_1
             try clear hcz43_2
             try clear hcz43_3
             try clear hcz46_0
             try clear hcz46_1
             try clear hcz46_2
             try clear hcz46_3
             try clear hcz46_4
             try clear hcz46_5
             try clear hcz46_6
             try clear hcz53_0
             try clear hcz53_1
             try clear hcz53_2
             try clear hcz53_3
             try clear hcz55_0
             try clear hcz55_1
             try clear hcz55_2
             try clear hcz55_3
             try clear hcz55_4
             try clear hcz59_0
             try clear hcz59_1
             try clear hcz59_2
             try clear hcz59_3
             try clear hcz73_0
             try clear hcz73_1
             try clear hcz73_2
             try clear hcz73_3
             try clear hcz73_4
             try clear hcz73_5
             try clear hcz73_6
             try clear hcz75_0
             try clear hcz75_1
             try clear hcz75_2
             try clear hcz75_3
             try clear hcz78_0
             try clear hcz78_1
             try clear hcz78_2
             try clear hcz78_3
             try clear hcz78_4
             try clear hcz78_5
             try clear hcz78_6
             try clear hfz10_0
             try clear hfz10_1
             try clear hfz10_2
             try clear hfz10_3
             try clear hfz10_4
             try clear hfz10_5
             try clear hfz10_6
             try clear hfz14_0
             try clear hfz14_1
             try clear hfz14_2
             try clear hfz14_3
             try clear hfz18_0
             try clear hfz18_1
             try clear hfz18_2
             try clear hfz18_3
             try clear hfz18_4
             try clear hfz22_0
             try clear hfz22_1
             try clear hfz22_2
             try clear hfz22_3
             try clear hfz22_4
             try clear hfz22_5
             try clear hfz22_6
             try clear hfz24_0
             try clear hfz24_1
             try clear hfz24_2
             try clear hfz24_3
             try clear hfz27_0
             try clear hfz27_1
             try clear hfz27_2
             try clear hfz27_3
             try clear hfz27_4
             try clear hfz27_5
             try clear hfz27_6
             try clear hfz34_0
             try clear hfz34_1
             try clear hfz34_2
             try clear hfz34_3
             try clear hfz36_0
             try clear hfz36_1
             try clear hfz36_2
             try clear hfz36_3
             try clear hfz36_4
             try clear hfz41_0
             try clear hfz41_1
             try clear hfz41_2
             try clear hfz41_3
             try clear hfz41_4
             try clear hfz41_5
             try clear hfz41_6
             try clear hfz43_0
             try clear hfz43_1
             try clear hfz43_2
             try clear hfz43_3
             try clear hfz46_0
             try clear hfz46_1
             try clear hfz46_2
             try clear hfz46_3
             try clear hfz46_4
             try clear hfz46_5
             try clear hfz46_6
             try clear hfz53_0
             try clear hfz53_1
             try clear hfz53_2
             try clear hfz53_3
             try clear hfz55_0
             try clear hfz55_1
             try clear hfz55_2
             try clear hfz55_3
             try clear hfz55_4
             try clear hfz59_0
             try clear hfz59_1
             try clear hfz59_2
             try clear hfz59_3
             try clear hfz73_0
             try clear hfz73_1
             try clear hfz73_2
             try clear hfz73_3
             try clear hfz73_4
             try clear hfz73_5
             try clear hfz73_6
             try clear hfz75_0
             try clear hfz75_1
             try clear hfz75_2
             try clear hfz75_3
             try clear hfz78_0
             try clear hfz78_1
             try clear hfz78_2
             try clear hfz78_3
             try clear hfz78_4
             try clear hfz78_5
             try clear hfz78_6
             try clear p2
             obtain ⟨kq, x68_68, rfl, HA, HJ68, HO_565001, BK557, BK563, BK564, HB⟩ := hcut
             cases kq with
             | zero => exact absurd HA.out (by simp [toponymlaw13_PiecesCut.j5])
             | succ kj68 =>
              have H := HA.out
              clear HA
              simp only [toponymlaw13_PiecesCut.j5] at H
              by_cases c79 : x68_68 = true
              ·subst c79
               rw [if_pos rfl] at H
               by_cases c80 : 0 ≤ t561
               ·rw [if_pos c80] at H
                have c80b0 := eq_true c80
                have c80b1 : decide (0 ≤ t561) = true := decide_eq_true c80
                clear c80
                by_cases c81 : t561 ≤ t562
                ·rw [if_pos c81] at H
                 have c81b0 := eq_true c81
                 have c81b1 : decide (t561 ≤ t562) = true := decide_eq_true c81
                 clear c81
                 by_cases c82 : t562 ≤ (a0.size : Int)
                 ·rw [if_pos c82] at H
                  have c82b0 := eq_true c82
                  have c82b1 : decide (t562 ≤ (a0.size : Int)) = true := decide_eq_true c82
                  clear c82
                  by_cases c83 : x565001_55.length < 8796093022208
                  ·rw [if_pos c83] at H
                   have LMc83 := aM c83
                   clear c83
                   obtain ⟨y568, hy568⟩ : ∃ y_ : List ByteArray, y_ = (x565001_55 ++ [a0.extract (t561 : Int).toNat (t562 : Int).toNat]) := ⟨_, rfl⟩
                   replace H : ((pieces_Check.f kj68 x565000_27 y568 x565002_46 x565003_27 x565004_46).bind fun t571 => (if t571 = 0 then ((pieces_Match.f kj68 a0 x565000_27 y568 x565002_46 x565003_27 x565004_46).bind fun t572 => (if t572 = true then ((toponymlaw13_awake.f kj68).bind fun t573 => (some t573)) else (some false))) else ((toponymlaw13_awake.f kj68).bind fun t574 => (some t574)))) = some r := zY hy568 H
                   have Ny568 := aM hy568
                   clear hy568
                   obtain ⟨t571, A84, H⟩ := zO H
                   by_cases c85 : t571 = 0
                   ·rw [if_pos c85] at H
                    have c85b0 : (t571 == 0) = true := beq_iff_eq.mpr c85
                    have c85b1 : (t571 != 0) = false := bne_eq_false_iff_eq.mpr c85
                    clear c85
                    obtain ⟨t572, A86, H⟩ := zO H
                    by_cases c87 : t572 = true
                    ·subst c87
                     rw [if_pos rfl] at H
                     obtain ⟨t573, A88, H⟩ := zO H
                     obtain rfl := sI H
                     try go_wp2
                     have n0_ := aM (Kd.R_drew HO_565001.out)
                     have n1_ := aM (blk_drew BK557.out)
                     have n2_ := aM (blk_drew BK563.out)
                     have n3_ := aM (blk_drew BK564.out)
                     have n4_ := aM (bD HB.out)
                     clear HO_565001
                     clear BK557
                     clear BK563
                     clear BK564
                     clear HB
                     have HO_565001 := n0_
                     have BK557 := n1_
                     have BK563 := n2_
                     have BK564 := n3_
                     have HB := n4_
                     clear n0_ n1_ n2_ n3_ n4_
                     refine start_ (n := 12) (S := fun w' => w'.cell? ⟨gb564, 0, none⟩ = some (.string x565000_27) ∧ w'.cell? ⟨gb564, 1, none⟩ = some (u565001) ∧ w'.cell? ⟨gb564, 2, none⟩ = some (.string x565002_46) ∧ w'.cell? ⟨gb564, 3, none⟩ = some (.bool x565003_27) ∧ w'.cell? ⟨gb564, 4, none⟩ = some (.bool x565004_46) ∧ w'.cell? ⟨gb563, 0, none⟩ = some (.int .i64 t559) ∧ w'.cell? ⟨gb563, 1, none⟩ = some (.int .i64 t560) ∧ w'.cell? ⟨gb563, 2, none⟩ = some (.int .i64 t561) ∧ w'.cell? ⟨gb563, 3, none⟩ = some (.int .i64 t562)) (ds := [11]) #[false, false, false, false, false, false, false, false, false, false, false, false] zK rfl rfl ⟨(blk_cell BK564.out 0).trans rfl, (blk_cell BK564.out 1).trans rfl, (blk_cell BK564.out 2).trans rfl, (blk_cell BK564.out 3).trans rfl, (blk_cell BK564.out 4).trans rfl, (blk_cell BK563.out 0).trans rfl, (blk_cell BK563.out 1).trans rfl, (blk_cell BK563.out 2).trans rfl, (blk_cell BK563.out 3).trans rfl⟩ (fun hHeld => ?_); refine with_tabW toponymlaw13_PiecesCut.tab12 toponymlaw13_PiecesCut.bits12 (fun HT_ HW_ => ?_)
                     generalize wc.drew = w89 at HO_565001 BK557 BK563 BK564 HB hHeld ⊢
                     refine pure_ (i := 0) (N := some 69) (v := ?_) (a' := ?_) #[true, false, false, false, false, false, false, false, false, false, false, false] rfl rfl (any_of HT_.out zK) (fun _ _ _ h => h) (Or.inl ⟨by rfl, ?_⟩) ?_ ?_
                     rotate_left
                     ·intro w'
                      go_simp
                      with_reducible rfl
                     rotate_left
                     ·simp only [Act.put, List.setIfInBounds_toArray, List.set_cons_zero, List.set_cons_succ, i64_w, i32_w]
                      rfl
                     refine pure_ (i := 2) (N := some 71) (v := ?_) (a' := ?_) #[true, false, true, false, false, false, false, false, false, false, false, false] rfl rfl (any_of HT_.out zK) (fun _ _ _ h => h) (Or.inl ⟨by rfl, ?_⟩) ?_ ?_
                     rotate_left
                     ·intro w'
                      go_simp
                      with_reducible rfl
                     rotate_left
                     ·simp only [Act.put, List.setIfInBounds_toArray, List.set_cons_zero, List.set_cons_succ, i64_w, i32_w]
                      rfl
                     refine pure_ (i := 3) (N := some 72) (v := ?_) (a' := ?_) #[true, false, true, true, false, false, false, false, false, false, false, false] rfl rfl (any_of HT_.out zK) (fun _ _ _ h => h) (Or.inl ⟨by rfl, ?_⟩) ?_ ?_
                     rotate_left
                     ·intro w'
                      go_simp
                      with_reducible rfl
                     rotate_left
                     ·simp only [Act.put, List.setIfInBounds_toArray, List.set_cons_zero, List.set_cons_succ, i64_w, i32_w]
                      rfl
                     refine pure_ (i := 5) (N := some 74) (v := ?_) (a' := ?_) #[true, false, true, true, false, true, false, false, false, false, false, false] rfl rfl (any_of HT_.out zK) (fun _ _ _ h => h) (Or.inl ⟨by rfl, ?_⟩) ?_ ?_
                     rotate_left
                     ·intro w'
                      go_simp
                      with_reducible rfl
                     rotate_left
                     ·simp only [Act.put, List.setIfInBounds_toArray, List.set_cons_zero, List.set_cons_succ, i64_w, i32_w]
                      rfl
                     refine take_ (i := 1) (N := some 70) (v := ?_) (a' := ?_) #[true, true, true, true, false, true, false, false, false, false, false, false] rfl rfl (take_ofW HT_.out HW_.out zK) (fun _ _ _ h => h) (Or.inl ⟨by rfl, ?_⟩) hHeld ?_ ?_
                     rotate_left
                     ·rintro w' ⟨s0, s1, s2, s3, s4, s5, s6, s7, s8⟩
                      go_simp
                      with_reducible rfl
                     rotate_left
                     ·simp only [Act.put, List.setIfInBounds_toArray, List.set_cons_zero, List.set_cons_succ, i64_w, i32_w]
                      rfl
                     refine take_ (i := 4) (N := some 73) (v := ?_) (a' := ?_) #[true, true, true, true, true, true, false, false, false, false, false, false] rfl rfl (take_ofW HT_.out HW_.out zK) (fun _ _ _ h => h) (Or.inl ⟨by rfl, ?_⟩) hHeld ?_ ?_
                     rotate_left
                     ·rintro w' ⟨s0, s1, s2, s3, s4, s5, s6, s7, s8⟩
                      go_simp
                      with_reducible rfl
                     rotate_left
                     ·simp only [Act.put, List.setIfInBounds_toArray, List.set_cons_zero, List.set_cons_succ, i64_w, i32_w]
                      rfl
                     refine take_ (i := 6) (N := some 75) (v := ?_) (a' := ?_) #[true, true, true, true, true, true, true, false, false, false, false, false] rfl rfl (take_ofW HT_.out HW_.out zK) (fun _ _ _ h => h) (Or.inl ⟨by rfl, ?_⟩) hHeld ?_ ?_
                     rotate_left
                     ·rintro w' ⟨s0, s1, s2, s3, s4, s5, s6, s7, s8⟩
                      go_simp
                      with_reducible rfl
                     rotate_left
                     ·simp only [Act.put, List.setIfInBounds_toArray, List.set_cons_zero, List.set_cons_succ, i64_w, i32_w]
                      rfl
                     refine pure_ (i := 7) (N := some 76) (v := ?_) (a' := ?_) #[true, true, true, true, true, true, true, true, false, false, false, false] rfl rfl (any_of HT_.out zK) (fun _ _ _ h => h) (Or.inl ⟨by rfl, ?_⟩) ?_ ?_
                     rotate_left
                     ·intro w'
                      go_simp
                      with_reducible rfl
                     rotate_left
                     ·simp only [Act.put, List.setIfInBounds_toArray, List.set_cons_zero, List.set_cons_succ, i64_w, i32_w]
                      rfl
                     refine one_ (i := 8) (N := some 77) #[true, true, true, true, true, true, true, true, true, false, false, false] rfl rfl (one_of HT_.out zK) (by decide) (fun K hK => ?_)
                     refine value_ (w1 := ?_) (v := ?_) (by rfl) rfl ?_ ?_
                     rotate_left 2
                     ·go_simp
                      constructor
                      ·rfl
                      ·rfl
                     refine hK.out _ _ ⟨(blk_cell (blk_alloc BK564.out _) 0).trans rfl, (blk_cell (blk_alloc BK564.out _) 1).trans rfl, (blk_cell (blk_alloc BK564.out _) 2).trans rfl, (blk_cell (blk_alloc BK564.out _) 3).trans rfl, (blk_cell (blk_alloc BK564.out _) 4).trans rfl, (blk_cell (blk_alloc BK563.out _) 0).trans rfl, (blk_cell (blk_alloc BK563.out _) 1).trans rfl, (blk_cell (blk_alloc BK563.out _) 2).trans rfl, (blk_cell (blk_alloc BK563.out _) 3).trans rfl⟩ (fun hHeld => ?_)
                     clear hK K
                     refine norm_ (a' := ?_) ?_ ?_
                     rotate_left
                     ·show Act.put _ (some 77) _ = _
                      simp only [Act.put, List.setIfInBounds_toArray, List.set_cons_zero, List.set_cons_succ, i64_w, i32_w]
                      rfl
                     refine one_ (i := 9) (N := some 78) #[true, true, true, true, true, true, true, true, true, true, false, false] rfl rfl (one_of HT_.out zK) (by decide) (fun K hK => ?_)
                     refine Kd.R_append_step Kd.string (w0 := w) w.heap.size (by rfl) (.tmp 70) (.tmp 77) 27 9 (.string ⟨#[]⟩) 16 rfl Try.underlying27 info9 rfl (by decide) (by omega) u565001 x565001_55 (a0.extract (t561 : Int).toNat (t562 : Int).toNat) [.string (a0.extract (t561 : Int).toNat (t562 : Int).toNat)] (fun _ => True) (fun _ => False) rfl rfl ?aP (fun _ hk => hk.elim) ?aF ?aO ?aB ?aS ?aL ?_
                     (case aP => exact rfl)
                     (case aB => exact (by repeat (first | (with_reducible first | exact HB.out | apply bA | apply bN | apply bD | refine below_set ?_ GE557.out | refine below_set ?_ GE563.out | refine below_set ?_ GE564.out) | exact HB.out)))
                     (case aF => exact (fun _ _ => trivial))
                     (case aO => exact (zR HO_565001))
                     (case aS => exact (below_size (by repeat (first | (with_reducible first | exact HB.out | apply bA | apply bN | apply bD | refine below_set ?_ GE557.out | refine below_set ?_ GE563.out | refine below_set ?_ GE564.out) | exact HB.out))))
                     (case aL => have := LMc83.out; omega)
                     intro v569 w90 ho hb hg hat
                     rw [← Ny568.out] at ho
                     have n0_ := aM (blk_grown (g := gb557) (o := .cells #[.int .i64 a1_0, .int .i64 a1_1, .int .i64 a1_2, .int .i64 a1_3, .bool a1_4, .bool a1_5, .bool a1_6] 23 (0, 0)) (by (with_reducible repeat (first | refine blk_drewN ?_ _ | refine blk_drew ?_ | refine blk_alloc ?_ _)); exact BK557.out) hg (Kd.R_ne HO_565001.out BK557.out (by decide)))
                     have n1_ := aM (blk_grown (g := gb563) (o := .cells #[.int .i64 t559, .int .i64 t560, .int .i64 t561, .int .i64 t562] 25 (0, 0)) (by (with_reducible repeat (first | refine blk_drewN ?_ _ | refine blk_drew ?_ | refine blk_alloc ?_ _)); exact BK563.out) hg (Kd.R_ne HO_565001.out BK563.out (by decide)))
                     have n2_ := aM (blk_grown (g := gb564) (o := .cells #[.string x565000_27, u565001, .string x565002_46, .bool x565003_27, .bool x565004_46] 29 (0, 0)) (by (with_reducible repeat (first | refine blk_drewN ?_ _ | refine blk_drew ?_ | refine blk_alloc ?_ _)); exact BK564.out) hg (Kd.R_ne HO_565001.out BK564.out (by decide)))
                     have n3_ := aM (hb)
                     have n4_ := aM (ho)
                     clear BK557
                     clear BK563
                     clear BK564
                     clear HB
                     clear HO_565001
                     have BK557 := n0_
                     have BK563 := n1_
                     have BK564 := n2_
                     have HB := n3_
                     have HO570 := n4_
                     clear n0_ n1_ n2_ n3_ n4_
                     clear ho hb hg hat
                     obtain ⟨Ao91, co91, eo91⟩ := Kd.R_slice HO570.out
                     (first | subst eo91 | (injection eo91 with f1_ f2_ f3_; have f4_ := f1_.symm; have f5_ := f3_.symm; clear f1_ f2_ f3_; subst f4_; subst f5_))
                     refine hK.out _ _ ⟨(blk_cell BK564.out 0).trans rfl, (blk_cell BK564.out 1).trans rfl, (blk_cell BK564.out 2).trans rfl, (blk_cell BK564.out 3).trans rfl, (blk_cell BK564.out 4).trans rfl, (blk_cell BK563.out 0).trans rfl, (blk_cell BK563.out 1).trans rfl, (blk_cell BK563.out 2).trans rfl, (blk_cell BK563.out 3).trans rfl⟩ (fun hHeld => ?_)
                     clear hK K
                     refine norm_ (a' := ?_) ?_ ?_
                     rotate_left
                     ·show Act.put _ (some 78) _ = _
                      simp only [Act.put, List.setIfInBounds_toArray, List.set_cons_zero, List.set_cons_succ, i64_w, i32_w]
                      rfl
                     refine pure_ (i := 10) (N := some 79) (v := ?_) (a' := ?_) #[true, true, true, true, true, true, true, true, true, true, true, false] rfl rfl (any_of HT_.out zK) (fun _ _ _ h => h) (Or.inl ⟨by rfl, ?_⟩) ?_ ?_
                     rotate_left
                     ·intro w'
                      go_simp
                      with_reducible rfl
                     rotate_left
                     ·simp only [Act.put, List.setIfInBounds_toArray, List.set_cons_zero, List.set_cons_succ, i64_w, i32_w]
                      rfl
                     refine last_ (i := 11) (N := none) #[true, true, true, true, true, true, true, true, true, true, true, true] rfl rfl (one_of HT_.out zK) (by decide) (fun K hK => ?_)
                     have hs92 : w90.cell? ⟨gb564, 1, none⟩ = some (u565001) := (blk_cell BK564.out 1).trans rfl
                     have hfs92 := blk_frozen BK564.out 1
                     have hns92_0 := NB557_564.out
                     have hns92_1 := NB563_564.out
                     have hms92_0 := NB564_557.out
                     have hms92_1 := NB564_563.out
                     refine skip_ (w1 := ?_) (by rfl) rfl ?_ ?_
                     rotate_left
                     ·go_simp
                      rfl
                     refine hK.out _ _ ?_
                     clear hK K
                     refine done_ (done_of HT_.out zK) ?_
                     have hnb93 := NB564_557.out
                     have hnc93 := NB557_564.out
                     have hnb94 := NB564_563.out
                     have hnc94 := NB563_564.out
                     have hcz95_0 : w90.cell? ⟨gb564, 0, none⟩ = some (.string x565000_27) := (blk_cell BK564.out 0).trans rfl
                     have hcz95_1 : w90.cell? ⟨gb564, 1, none⟩ = some (u565001) := (blk_cell BK564.out 1).trans rfl
                     have hcz95_2 : w90.cell? ⟨gb564, 2, none⟩ = some (.string x565002_46) := (blk_cell BK564.out 2).trans rfl
                     have hcz95_3 : w90.cell? ⟨gb564, 3, none⟩ = some (.bool x565003_27) := (blk_cell BK564.out 3).trans rfl
                     have hcz95_4 : w90.cell? ⟨gb564, 4, none⟩ = some (.bool x565004_46) := (blk_cell BK564.out 4).trans rfl
                     have hfz95_0 := blk_frozen BK564.out 0
                     have hfz95_1 := blk_frozen BK564.out 1
                     have hfz95_2 := blk_frozen BK564.out 2
                     have hfz95_3 := blk_frozen BK564.out 3
                     have hfz95_4 := blk_frozen BK564.out 4
                     try go_wp2_with (first | ((with_reducible refine gate_callee (f := 8) rfl ?_); refine goesL_ (some 81) rfl rfl Try.func8 zK rfl #[.agg #[.string x565000_27, .slice Ao91 y568.length co91, .string x565002_46, .bool x565003_27, .bool x565004_46]] rfl zM ?_; (with_reducible refine (pieces_Check.calls kj68 x565000_27 _ _ y568 x565002_46 x565003_27 x565004_46 t571 _ ?side1 ?side2 A84.out).mono ?_); (case side1 => refine (Kd.R_reads' (e := 9) (base := w.heap.size) (ok := fun k_ => True) (n := y568.length) (c := co91) ?_).2.2; exact (by (with_reducible repeat (first | apply Kd.R_alloc | apply Kd.R_drewN | apply Kd.R_drew)); exact (Kd.R_mono (Kd.R_far (p := ⟨gb564, 1, none⟩) (Kd.R_types HO570.out BK564.out (by decide)) (fun _ hk => hk.2) (.slice Ao91 y568.length co91)) (fun _ h_ => h_.1)))); (case side2 => exact (Kd.R_reads' HO570.out).2.1); rintro e w96 ⟨rfl, hb⟩; (try clear A84); refine ⟨_, rfl, ?_⟩; have n_ := zI (aM (Kd.R_below (by (with_reducible repeat (first | apply Kd.R_alloc | apply Kd.R_drewN | apply Kd.R_drew)); exact (Kd.R_mono (Kd.R_far (p := ⟨gb564, 1, none⟩) (Kd.R_types HO570.out BK564.out (by decide)) (fun _ hk => hk.2) (.slice Ao91 y568.length co91)) (fun _ h_ => h_.1))) hb)) (zI (aM (blk_below (g := gb557) (o := .cells #[.int .i64 a1_0, .int .i64 a1_1, .int .i64 a1_2, .int .i64 a1_3, .bool a1_4, .bool a1_5, .bool a1_6] 23 (0, 0)) (by (with_reducible repeat (first | refine blk_drewN ?_ _ | refine blk_drew ?_ | refine blk_alloc ?_ _)); refine blk_far ?_ NB557_564.out _; (with_reducible repeat (first | refine blk_drewN ?_ _ | refine blk_drew ?_ | refine blk_alloc ?_ _)); exact BK557.out) hb)) (zI (aM (blk_below (g := gb563) (o := .cells #[.int .i64 t559, .int .i64 t560, .int .i64 t561, .int .i64 t562] 25 (0, 0)) (by (with_reducible repeat (first | refine blk_drewN ?_ _ | refine blk_drew ?_ | refine blk_alloc ?_ _)); refine blk_far ?_ NB563_564.out _; (with_reducible repeat (first | refine blk_drewN ?_ _ | refine blk_drew ?_ | refine blk_alloc ?_ _)); exact BK563.out) hb)) (zI (aM (blk_below (g := gb564) (o := .cells #[.string x565000_27, .slice Ao91 y568.length co91, .string x565002_46, .bool x565003_27, .bool x565004_46] 29 (0, 0)) (by (with_reducible repeat (first | refine blk_drewN ?_ _ | refine blk_drew ?_ | refine blk_alloc ?_ _)); refine blk_put (cs := #[.string x565000_27, u565001, .string x565002_46, .bool x565003_27, .bool x565004_46]) ?_ 1 _ rfl; (with_reducible repeat (first | refine blk_drewN ?_ _ | refine blk_drew ?_ | refine blk_alloc ?_ _)); exact BK564.out) hb)) (aM (below_step (by repeat (first | (with_reducible first | exact HB.out | apply bA | apply bN | apply bD | refine below_set ?_ GE557.out | refine below_set ?_ GE563.out | refine below_set ?_ GE564.out) | exact HB.out)) hb))))); clear HO570 BK557 BK563 BK564 HB; obtain ⟨HO570, BK557, BK563, BK564, HB⟩ := n_; (try clear hb); (try clear hk); have hcz97_0 : w96.cell? ⟨gb564, 0, none⟩ = some (.string x565000_27) := (blk_cell BK564.out 0).trans rfl; have hcz97_1 : w96.cell? ⟨gb564, 1, none⟩ = some (.slice Ao91 y568.length co91) := (blk_cell BK564.out 1).trans rfl; have hcz97_2 : w96.cell? ⟨gb564, 2, none⟩ = some (.string x565002_46) := (blk_cell BK564.out 2).trans rfl; have hcz97_3 : w96.cell? ⟨gb564, 3, none⟩ = some (.bool x565003_27) := (blk_cell BK564.out 3).trans rfl; have hcz97_4 : w96.cell? ⟨gb564, 4, none⟩ = some (.bool x565004_46) := (blk_cell BK564.out 4).trans rfl; have hfz97_0 := blk_frozen BK564.out 0; have hfz97_1 := blk_frozen BK564.out 1; have hfz97_2 := blk_frozen BK564.out 2; have hfz97_3 := blk_frozen BK564.out 3; have hfz97_4 := blk_frozen BK564.out 4) | (go_at_call 9; (with_reducible refine (pieces_Match.calls kj68 a0 x565000_27 _ _ y568 x565002_46 x565003_27 x565004_46 true _ (zEnv HE) ?side1 ?side2 A86.out).mono ?_); (case side1 => exact zC (Kd.R_reads' HO570.out).2.2); (case side2 => exact (Kd.R_reads' HO570.out).2.1); rintro e w98 ⟨rfl, hb⟩; (try clear A86); have n_ := zI (aM (Kd.R_below (zR HO570) hb)) (zI (aM (blk_below (g := gb557) (o := .cells #[.int .i64 a1_0, .int .i64 a1_1, .int .i64 a1_2, .int .i64 a1_3, .bool a1_4, .bool a1_5, .bool a1_6] 23 (0, 0)) (by (with_reducible repeat (first | refine blk_drewN ?_ _ | refine blk_drew ?_ | refine blk_alloc ?_ _)); exact BK557.out) hb)) (zI (aM (blk_below (g := gb563) (o := .cells #[.int .i64 t559, .int .i64 t560, .int .i64 t561, .int .i64 t562] 25 (0, 0)) (by (with_reducible repeat (first | refine blk_drewN ?_ _ | refine blk_drew ?_ | refine blk_alloc ?_ _)); exact BK563.out) hb)) (zI (aM (blk_below (g := gb564) (o := .cells #[.string x565000_27, .slice Ao91 y568.length co91, .string x565002_46, .bool x565003_27, .bool x565004_46] 29 (0, 0)) (by (with_reducible repeat (first | refine blk_drewN ?_ _ | refine blk_drew ?_ | refine blk_alloc ?_ _)); exact BK564.out) hb)) (aM (below_step (by repeat (first | (with_reducible first | exact HB.out | apply bA | apply bN | apply bD | refine below_set ?_ GE557.out | refine below_set ?_ GE563.out | refine below_set ?_ GE564.out) | exact HB.out)) hb))))); clear HO570 BK557 BK563 BK564 HB; obtain ⟨HO570, BK557, BK563, BK564, HB⟩ := n_; (try clear hb); (try clear hk)) | (go_at_call 6; (with_reducible refine (toponymlaw13_awake.calls kj68  t573 _ (zEnv HE) A88.out).mono ?_); rintro e w99 ⟨rfl, hb⟩; (try clear A88); have n_ := zI (aM (Kd.R_below (zR HO570) hb)) (zI (aM (blk_below (g := gb557) (o := .cells #[.int .i64 a1_0, .int .i64 a1_1, .int .i64 a1_2, .int .i64 a1_3, .bool a1_4, .bool a1_5, .bool a1_6] 23 (0, 0)) (by (with_reducible repeat (first | refine blk_drewN ?_ _ | refine blk_drew ?_ | refine blk_alloc ?_ _)); exact BK557.out) hb)) (zI (aM (blk_below (g := gb563) (o := .cells #[.int .i64 t559, .int .i64 t560, .int .i64 t561, .int .i64 t562] 25 (0, 0)) (by (with_reducible repeat (first | refine blk_drewN ?_ _ | refine blk_drew ?_ | refine blk_alloc ?_ _)); exact BK563.out) hb)) (zI (aM (blk_below (g := gb564) (o := .cells #[.string x565000_27, .slice Ao91 y568.length co91, .string x565002_46, .bool x565003_27, .bool x565004_46] 29 (0, 0)) (by (with_reducible repeat (first | refine blk_drewN ?_ _ | refine blk_drew ?_ | refine blk_alloc ?_ _)); exact BK564.out) hb)) (aM (below_step (by repeat (first | (with_reducible first | exact HB.out | apply bA | apply bN | apply bD | refine below_set ?_ GE557.out | refine below_set ?_ GE563.out | refine below_set ?_ GE564.out) | exact HB.out)) hb))))); clear HO570 BK557 BK563 BK564 HB; obtain ⟨HO570, BK557, BK563, BK564, HB⟩ := n_; (try clear hb); (try clear hk)))
                     go_ret
                     exact ⟨zE, by repeat (first | (with_reducible first | exact HB.out | apply bA | apply bN | apply bD | refine below_set ?_ GE557.out | refine below_set ?_ GE563.out | refine below_set ?_ GE564.out) | exact HB.out)⟩
                    ·replace c87 := Bool.eq_false_iff.mpr c87
                     subst c87
                     rw [if_neg (show ¬ (false = true) by decide)] at H
                     exact absurd ((sI H).trans hT.out) (by decide)
                   ·rw [if_neg c85] at H
                    have c85b0 : (t571 == 0) = false := beq_eq_false_iff_ne.mpr c85
                    have c85b1 : (t571 != 0) = true := bne_iff_ne.mpr c85
                    obtain ⟨t574, A110, H⟩ := zO H
                    obtain rfl := sI H
                    try go_wp2
                    have n0_ := aM (Kd.R_drew HO_565001.out)
                    have n1_ := aM (blk_drew BK557.out)
                    have n2_ := aM (blk_drew BK563.out)
                    have n3_ := aM (blk_drew BK564.out)
                    have n4_ := aM (bD HB.out)
                    clear HO_565001
                    clear BK557
                    clear BK563
                    clear BK564
                    clear HB
                    have HO_565001 := n0_
                    have BK557 := n1_
                    have BK563 := n2_
                    have BK564 := n3_
                    have HB := n4_
                    clear n0_ n1_ n2_ n3_ n4_
                    refine start_ (n := 12) (S := fun w' => w'.cell? ⟨gb564, 0, none⟩ = some (.string x565000_27) ∧ w'.cell? ⟨gb564, 1, none⟩ = some (u565001) ∧ w'.cell? ⟨gb564, 2, none⟩ = some (.string x565002_46) ∧ w'.cell? ⟨gb564, 3, none⟩ = some (.bool x565003_27) ∧ w'.cell? ⟨gb564, 4, none⟩ = some (.bool x565004_46) ∧ w'.cell? ⟨gb563, 0, none⟩ = some (.int .i64 t559) ∧ w'.cell? ⟨gb563, 1, none⟩ = some (.int .i64 t560) ∧ w'.cell? ⟨gb563, 2, none⟩ = some (.int .i64 t561) ∧ w'.cell? ⟨gb563, 3, none⟩ = some (.int .i64 t562)) (ds := [11]) #[false, false, false, false, false, false, false, false, false, false, false, false] zK rfl rfl ⟨(blk_cell BK564.out 0).trans rfl, (blk_cell BK564.out 1).trans rfl, (blk_cell BK564.out 2).trans rfl, (blk_cell BK564.out 3).trans rfl, (blk_cell BK564.out 4).trans rfl, (blk_cell BK563.out 0).trans rfl, (blk_cell BK563.out 1).trans rfl, (blk_cell BK563.out 2).trans rfl, (blk_cell BK563.out 3).trans rfl⟩ (fun hHeld => ?_); refine with_tabW toponymlaw13_PiecesCut.tab12 toponymlaw13_PiecesCut.bits12 (fun HT_ HW_ => ?_)
                    generalize wc.drew = w111 at HO_565001 BK557 BK563 BK564 HB hHeld ⊢
                    refine pure_ (i := 0) (N := some 69) (v := ?_) (a' := ?_) #[true, false, false, false, false, false, false, false, false, false, false, false] rfl rfl (any_of HT_.out zK) (fun _ _ _ h => h) (Or.inl ⟨by rfl, ?_⟩) ?_ ?_
                    rotate_left
                    ·intro w'
                     go_simp
                     with_reducible rfl
                    rotate_left
                    ·simp only [Act.put, List.setIfInBounds_toArray, List.set_cons_zero, List.set_cons_succ, i64_w, i32_w]
                     rfl
                    refine pure_ (i := 2) (N := some 71) (v := ?_) (a' := ?_) #[true, false, true, false, false, false, false, false, false, false, false, false] rfl rfl (any_of HT_.out zK) (fun _ _ _ h => h) (Or.inl ⟨by rfl, ?_⟩) ?_ ?_
                    rotate_left
                    ·intro w'
                     go_simp
                     with_reducible rfl
                    rotate_left
                    ·simp only [Act.put, List.setIfInBounds_toArray, List.set_cons_zero, List.set_cons_succ, i64_w, i32_w]
                     rfl
                    refine pure_ (i := 3) (N := some 72) (v := ?_) (a' := ?_) #[true, false, true, true, false, false, false, false, false, false, false, false] rfl rfl (any_of HT_.out zK) (fun _ _ _ h => h) (Or.inl ⟨by rfl, ?_⟩) ?_ ?_
                    rotate_left
                    ·intro w'
                     go_simp
                     with_reducible rfl
                    rotate_left
                    ·simp only [Act.put, List.setIfInBounds_toArray, List.set_cons_zero, List.set_cons_succ, i64_w, i32_w]
                     rfl
                    refine pure_ (i := 5) (N := some 74) (v := ?_) (a' := ?_) #[true, false, true, true, false, true, false, false, false, false, false, false] rfl rfl (any_of HT_.out zK) (fun _ _ _ h => h) (Or.inl ⟨by rfl, ?_⟩) ?_ ?_
                    rotate_left
                    ·intro w'
                     go_simp
                     with_reducible rfl
                    rotate_left
                    ·simp only [Act.put, List.setIfInBounds_toArray, List.set_cons_zero, List.set_cons_succ, i64_w, i32_w]
                     rfl
                    refine take_ (i := 1) (N := some 70) (v := ?_) (a' := ?_) #[true, true, true, true, false, true, false, false, false, false, false, false] rfl rfl (take_ofW HT_.out HW_.out zK) (fun _ _ _ h => h) (Or.inl ⟨by rfl, ?_⟩) hHeld ?_ ?_
                    rotate_left
                    ·rintro w' ⟨s0, s1, s2, s3, s4, s5, s6, s7, s8⟩
                     go_simp
                     with_reducible rfl
                    rotate_left
                    ·simp only [Act.put, List.setIfInBounds_toArray, List.set_cons_zero, List.set_cons_succ, i64_w, i32_w]
                     rfl
                    refine take_ (i := 4) (N := some 73) (v := ?_) (a' := ?_) #[true, true, true, true, true, true, false, false, false, false, false, false] rfl rfl (take_ofW HT_.out HW_.out zK) (fun _ _ _ h => h) (Or.inl ⟨by rfl, ?_⟩) hHeld ?_ ?_
                    rotate_left
                    ·rintro w' ⟨s0, s1, s2, s3, s4, s5, s6, s7, s8⟩
                     go_simp
                     with_reducible rfl
                    rotate_left
                    ·simp only [Act.put, List.setIfInBounds_toArray, List.set_cons_zero, List.set_cons_succ, i64_w, i32_w]
                     rfl
                    refine take_ (i := 6) (N := some 75) (v := ?_) (a' := ?_) #[true, true, true, true, true, true, true, false, false, false, false, false] rfl rfl (take_ofW HT_.out HW_.out zK) (fun _ _ _ h => h) (Or.inl ⟨by rfl, ?_⟩) hHeld ?_ ?_
                    rotate_left
                    ·rintro w' ⟨s0, s1, s2, s3, s4, s5, s6, s7, s8⟩
                     go_simp
                     with_reducible rfl
                    rotate_left
                    ·simp only [Act.put, List.setIfInBounds_toArray, List.set_cons_zero, List.set_cons_succ, i64_w, i32_w]
                     rfl
                    refine pure_ (i := 7) (N := some 76) (v := ?_) (a' := ?_) #[true, true, true, true, true, true, true, true, false, false, false, false] rfl rfl (any_of HT_.out zK) (fun _ _ _ h => h) (Or.inl ⟨by rfl, ?_⟩) ?_ ?_
                    rotate_left
                    ·intro w'
                     go_simp
                     with_reducible rfl
                    rotate_left
                    ·simp only [Act.put, List.setIfInBounds_toArray, List.set_cons_zero, List.set_cons_succ, i64_w, i32_w]
                     rfl
                    refine one_ (i := 8) (N := some 77) #[true, true, true, true, true, true, true, true, true, false, false, false] rfl rfl (one_of HT_.out zK) (by decide) (fun K hK => ?_)
                    refine value_ (w1 := ?_) (v := ?_) (by rfl) rfl ?_ ?_
                    rotate_left 2
                    ·go_simp
                     constructor
                     ·rfl
                     ·rfl
                    refine hK.out _ _ ⟨(blk_cell (blk_alloc BK564.out _) 0).trans rfl, (blk_cell (blk_alloc BK564.out _) 1).trans rfl, (blk_cell (blk_alloc BK564.out _) 2).trans rfl, (blk_cell (blk_alloc BK564.out _) 3).trans rfl, (blk_cell (blk_alloc BK564.out _) 4).trans rfl, (blk_cell (blk_alloc BK563.out _) 0).trans rfl, (blk_cell (blk_alloc BK563.out _) 1).trans rfl, (blk_cell (blk_alloc BK563.out _) 2).trans rfl, (blk_cell (blk_alloc BK563.out _) 3).trans rfl⟩ (fun hHeld => ?_)
                    clear hK K
                    refine norm_ (a' := ?_) ?_ ?_
                    rotate_left
                    ·show Act.put _ (some 77) _ = _
                     simp only [Act.put, List.setIfInBounds_toArray, List.set_cons_zero, List.set_cons_succ, i64_w, i32_w]
                     rfl
                    refine one_ (i := 9) (N := some 78) #[true, true, true, true, true, true, true, true, true, true, false, false] rfl rfl (one_of HT_.out zK) (by decide) (fun K hK => ?_)
                    refine Kd.R_append_step Kd.string (w0 := w) w.heap.size (by rfl) (.tmp 70) (.tmp 77) 27 9 (.string ⟨#[]⟩) 16 rfl Try.underlying27 info9 rfl (by decide) (by omega) u565001 x565001_55 (a0.extract (t561 : Int).toNat (t562 : Int).toNat) [.string (a0.extract (t561 : Int).toNat (t562 : Int).toNat)] (fun _ => True) (fun _ => False) rfl rfl ?aP (fun _ hk => hk.elim) ?aF ?aO ?aB ?aS ?aL ?_
                    (case aP => exact rfl)
                    (case aB => exact (by repeat (first | (with_reducible first | exact HB.out | apply bA | apply bN | apply bD | refine below_set ?_ GE557.out | refine below_set ?_ GE563.out | refine below_set ?_ GE564.out) | exact HB.out)))
                    (case aF => exact (fun _ _ => trivial))
                    (case aO => exact (zR HO_565001))
                    (case aS => exact (below_size (by repeat (first | (with_reducible first | exact HB.out | apply bA | apply bN | apply bD | refine below_set ?_ GE557.out | refine below_set ?_ GE563.out | refine below_set ?_ GE564.out) | exact HB.out))))
                    (case aL => have := LMc83.out; omega)
                    intro v569 w112 ho hb hg hat
                    rw [← Ny568.out] at ho
                    have n0_ := aM (blk_grown (g := gb557) (o := .cells #[.int .i64 a1_0, .int .i64 a1_1, .int .i64 a1_2, .int .i64 a1_3, .bool a1_4, .bool a1_5, .bool a1_6] 23 (0, 0)) (by (with_reducible repeat (first | refine blk_drewN ?_ _ | refine blk_drew ?_ | refine blk_alloc ?_ _)); exact BK557.out) hg (Kd.R_ne HO_565001.out BK557.out (by decide)))
                    have n1_ := aM (blk_grown (g := gb563) (o := .cells #[.int .i64 t559, .int .i64 t560, .int .i64 t561, .int .i64 t562] 25 (0, 0)) (by (with_reducible repeat (first | refine blk_drewN ?_ _ | refine blk_drew ?_ | refine blk_alloc ?_ _)); exact BK563.out) hg (Kd.R_ne HO_565001.out BK563.out (by decide)))
                    have n2_ := aM (blk_grown (g := gb564) (o := .cells #[.string x565000_27, u565001, .string x565002_46, .bool x565003_27, .bool x565004_46] 29 (0, 0)) (by (with_reducible repeat (first | refine blk_drewN ?_ _ | refine blk_drew ?_ | refine blk_alloc ?_ _)); exact BK564.out) hg (Kd.R_ne HO_565001.out BK564.out (by decide)))
                    have n3_ := aM (hb)
                    have n4_ := aM (ho)
                    clear BK557
                    clear BK563
                    clear BK564
                    clear HB
                    clear HO_565001
                    have BK557 := n0_
                    have BK563 := n1_
                    have BK564 := n2_
                    have HB := n3_
                    have HO570 := n4_
                    clear n0_ n1_ n2_ n3_ n4_
                    clear ho hb hg hat
                    obtain ⟨Ao113, co113, eo113⟩ := Kd.R_slice HO570.out
                    (first | subst eo113 | (injection eo113 with f1_ f2_ f3_; have f4_ := f1_.symm; have f5_ := f3_.symm; clear f1_ f2_ f3_; subst f4_; subst f5_))
                    refine hK.out _ _ ⟨(blk_cell BK564.out 0).trans rfl, (blk_cell BK564.out 1).trans rfl, (blk_cell BK564.out 2).trans rfl, (blk_cell BK564.out 3).trans rfl, (blk_cell BK564.out 4).trans rfl, (blk_cell BK563.out 0).trans rfl, (blk_cell BK563.out 1).trans rfl, (blk_cell BK563.out 2).trans rfl, (blk_cell BK563.out 3).trans rfl⟩ (fun hHeld => ?_)
                    clear hK K
                    refine norm_ (a' := ?_) ?_ ?_
                    rotate_left
                    ·show Act.put _ (some 78) _ = _
                     simp only [Act.put, List.setIfInBounds_toArray, List.set_cons_zero, List.set_cons_succ, i64_w, i32_w]
                     rfl
                    refine pure_ (i := 10) (N := some 79) (v := ?_) (a' := ?_) #[true, true, true, true, true, true, true, true, true, true, true, false] rfl rfl (any_of HT_.out zK) (fun _ _ _ h => h) (Or.inl ⟨by rfl, ?_⟩) ?_ ?_
                    rotate_left
                    ·intro w'
                     go_simp
                     with_reducible rfl
                    rotate_left
                    ·simp only [Act.put, List.setIfInBounds_toArray, List.set_cons_zero, List.set_cons_succ, i64_w, i32_w]
                     rfl
                    refine last_ (i := 11) (N := none) #[true, true, true, true, true, true, true, true, true, true, true, true] rfl rfl (one_of HT_.out zK) (by decide) (fun K hK => ?_)
                    have hs114 : w112.cell? ⟨gb564, 1, none⟩ = some (u565001) := (blk_cell BK564.out 1).trans rfl
                    have hfs114 := blk_frozen BK564.out 1
                    have hns114_0 := NB557_564.out
                    have hns114_1 := NB563_564.out
                    have hms114_0 := NB564_557.out
                    have hms114_1 := NB564_563.out
                    refine skip_ (w1 := ?_) (by rfl) rfl ?_ ?_
                    rotate_left
                    ·go_simp
                     rfl
                    refine hK.out _ _ ?_
                    clear hK K
                    refine done_ (done_of HT_.out zK) ?_
                    have hnb115 := NB564_557.out
                    have hnc115 := NB557_564.out
                    have hnb116 := NB564_563.out
                    have hnc116 := NB563_564.out
                    have hcz117_0 : w112.cell? ⟨gb564, 0, none⟩ = some (.string x565000_27) := (blk_cell BK564.out 0).trans rfl
                    have hcz117_1 : w112.cell? ⟨gb564, 1, none⟩ = some (u565001) := (blk_cell BK564.out 1).trans rfl
                    have hcz117_2 : w112.cell? ⟨gb564, 2, none⟩ = some (.string x565002_46) := (blk_cell BK564.out 2).trans rfl
                    have hcz117_3 : w112.cell? ⟨gb564, 3, none⟩ = some (.bool x565003_27) := (blk_cell BK564.out 3).trans rfl
                    have hcz117_4 : w112.cell? ⟨gb564, 4, none⟩ = some (.bool x565004_46) := (blk_cell BK564.out 4).trans rfl
                    have hfz117_0 := blk_frozen BK564.out 0
                    have hfz117_1 := blk_frozen BK564.out 1
                    have hfz117_2 := blk_frozen BK564.out 2
                    have hfz117_3 := blk_frozen BK564.out 3
                    have hfz117_4 := blk_frozen BK564.out 4
                    try go_wp2_with (first | ((with_reducible refine gate_callee (f := 8) rfl ?_); refine goesL_ (some 81) rfl rfl Try.func8 zK rfl #[.agg #[.string x565000_27, .slice Ao113 y568.length co113, .string x565002_46, .bool x565003_27, .bool x565004_46]] rfl zM ?_; (with_reducible refine (pieces_Check.calls kj68 x565000_27 _ _ y568 x565002_46 x565003_27 x565004_46 t571 _ ?side1 ?side2 A84.out).mono ?_); (case side1 => refine (Kd.R_reads' (e := 9) (base := w.heap.size) (ok := fun k_ => True) (n := y568.length) (c := co113) ?_).2.2; exact (by (with_reducible repeat (first | apply Kd.R_alloc | apply Kd.R_drewN | apply Kd.R_drew)); exact (Kd.R_mono (Kd.R_far (p := ⟨gb564, 1, none⟩) (Kd.R_types HO570.out BK564.out (by decide)) (fun _ hk => hk.2) (.slice Ao113 y568.length co113)) (fun _ h_ => h_.1)))); (case side2 => exact (Kd.R_reads' HO570.out).2.1); rintro e w118 ⟨rfl, hb⟩; (try clear A84); refine ⟨_, rfl, ?_⟩; have n_ := zI (aM (Kd.R_below (by (with_reducible repeat (first | apply Kd.R_alloc | apply Kd.R_drewN | apply Kd.R_drew)); exact (Kd.R_mono (Kd.R_far (p := ⟨gb564, 1, none⟩) (Kd.R_types HO570.out BK564.out (by decide)) (fun _ hk => hk.2) (.slice Ao113 y568.length co113)) (fun _ h_ => h_.1))) hb)) (zI (aM (blk_below (g := gb557) (o := .cells #[.int .i64 a1_0, .int .i64 a1_1, .int .i64 a1_2, .int .i64 a1_3, .bool a1_4, .bool a1_5, .bool a1_6] 23 (0, 0)) (by (with_reducible repeat (first | refine blk_drewN ?_ _ | refine blk_drew ?_ | refine blk_alloc ?_ _)); refine blk_far ?_ NB557_564.out _; (with_reducible repeat (first | refine blk_drewN ?_ _ | refine blk_drew ?_ | refine blk_alloc ?_ _)); exact BK557.out) hb)) (zI (aM (blk_below (g := gb563) (o := .cells #[.int .i64 t559, .int .i64 t560, .int .i64 t561, .int .i64 t562] 25 (0, 0)) (by (with_reducible repeat (first | refine blk_drewN ?_ _ | refine blk_drew ?_ | refine blk_alloc ?_ _)); refine blk_far ?_ NB563_564.out _; (with_reducible repeat (first | refine blk_drewN ?_ _ | refine blk_drew ?_ | refine blk_alloc ?_ _)); exact BK563.out) hb)) (zI (aM (blk_below (g := gb564) (o := .cells #[.string x565000_27, .slice Ao113 y568.length co113, .string x565002_46, .bool x565003_27, .bool x565004_46] 29 (0, 0)) (by (with_reducible repeat (first | refine blk_drewN ?_ _ | refine blk_drew ?_ | refine blk_alloc ?_ _)); refine blk_put (cs := #[.string x565000_27, u565001, .string x565002_46, .bool x565003_27, .bool x565004_46]) ?_ 1 _ rfl; (with_reducible repeat (first | refine blk_drewN ?_ _ | refine blk_drew ?_ | refine blk_alloc ?_ _)); exact BK564.out) hb)) (aM (below_step (by repeat (first | (with_reducible first | exact HB.out | apply bA | apply bN | apply bD | refine below_set ?_ GE557.out | refine below_set ?_ GE563.out | refine below_set ?_ GE564.out) | exact HB.out)) hb))))); clear HO570 BK557 BK563 BK564 HB; obtain ⟨HO570, BK557, BK563, BK564, HB⟩ := n_; (try clear hb); (try clear hk)) | (go_at_call 6; (with_reducible refine (toponymlaw13_awake.calls kj68  t574 _ (zEnv HE) A110.out).mono ?_); rintro e w119 ⟨rfl, hb⟩; (try clear A110); have n_ := zI (aM (Kd.R_below (zR HO570) hb)) (zI (aM (blk_below (g := gb557) (o := .cells #[.int .i64 a1_0, .int .i64 a1_1, .int .i64 a1_2, .int .i64 a1_3, .bool a1_4, .bool a1_5, .bool a1_6] 23 (0, 0)) (by (with_reducible repeat (first | refine blk_drewN ?_ _ | refine blk_drew ?_ | refine blk_alloc ?_ _)); exact BK557.out) hb)) (zI (aM (blk_below (g := gb563) (o := .cells #[.int .i64 t559, .int .i64 t560, .int .i64 t561, .int .i64 t562] 25 (0, 0)) (by (with_reducible repeat (first | refine blk_drewN ?_ _ | refine blk_drew ?_ | refine blk_alloc ?_ _)); exact BK563.out) hb)) (zI (aM (blk_below (g := gb564) (o := .cells #[.string x565000_27, .slice Ao113 y568.length co113, .string x565002_46, .bool x565003_27, .bool x565004_46] 29 (0, 0)) (by (with_reducible repeat (first | refine blk_drewN ?_ _ | refine blk_drew ?_ | refine blk_alloc ?_ _)); exact BK564.out) hb)) (aM (below_step (by repeat (first | (with_reducible first | exact HB.out | apply bA | apply bN | apply bD | refine below_set ?_ GE557.out | refine below_set ?_ GE563.out | refine below_set ?_ GE564.out) | exact HB.out)) hb))))); clear HO570 BK557 BK563 BK564 HB; obtain ⟨HO570, BK557, BK563, BK564, HB⟩ := n_; (try clear hb); (try clear hk)))
                    go_ret
                    exact ⟨zE, by repeat (first | (with_reducible first | exact HB.out | apply bA | apply bN | apply bD | refine below_set ?_ GE557.out | refine below_set ?_ GE563.out | refine below_set ?_ GE564.out) | exact HB.out)⟩
                  ·rw [if_neg c83] at H
                   exact absurd H (by simp)
                 ·rw [if_neg c82] at H
                  exact absurd H (by simp)
                ·rw [if_neg c81] at H
                 exact absurd H (by simp)
               ·rw [if_neg c80] at H
                exact absurd H (by simp)
              ·replace c79 := Bool.eq_false_iff.mpr c79
               subst c79
               rw [if_neg (show ¬ (false = true) by decide)] at H
               obtain ⟨t575, A120, H⟩ := zO H
               by_cases c121 : t575 = 0
               ·rw [if_pos c121] at H
                have c121b0 : (t575 == 0) = true := beq_iff_eq.mpr c121
                have c121b1 : (t575 != 0) = false := bne_eq_false_iff_eq.mpr c121
                clear c121
                obtain ⟨t576, A122, H⟩ := zO H
                by_cases c123 : t576 = true
                ·subst c123
                 rw [if_pos rfl] at H
                 obtain ⟨t577, A124, H⟩ := zO H
                 obtain rfl := sI H
                 have hnb125 := NB564_557.out
                 have hnc125 := NB557_564.out
                 have hnb126 := NB564_563.out
                 have hnc126 := NB563_564.out
                 have hcz127_0 : wc.cell? ⟨gb564, 0, none⟩ = some (.string x565000_27) := (blk_cell BK564.out 0).trans rfl
                 have hcz127_1 : wc.cell? ⟨gb564, 1, none⟩ = some (u565001) := (blk_cell BK564.out 1).trans rfl
                 have hcz127_2 : wc.cell? ⟨gb564, 2, none⟩ = some (.string x565002_46) := (blk_cell BK564.out 2).trans rfl
                 have hcz127_3 : wc.cell? ⟨gb564, 3, none⟩ = some (.bool x565003_27) := (blk_cell BK564.out 3).trans rfl
                 have hcz127_4 : wc.cell? ⟨gb564, 4, none⟩ = some (.bool x565004_46) := (blk_cell BK564.out 4).trans rfl
                 have hfz127_0 := blk_frozen BK564.out 0
                 have hfz127_1 := blk_frozen BK564.out 1
                 have hfz127_2 := blk_frozen BK564.out 2
                 have hfz127_3 := blk_frozen BK564.out 3
                 have hfz127_4 := blk_frozen BK564.out 4
                 obtain ⟨Ao128, co128, eo128⟩ := Kd.R_slice HO_565001.out
                 subst eo128
                 go_wp2_with (first | ((with_reducible refine gate_callee (f := 8) rfl ?_); refine goesL_ (some 81) rfl rfl Try.func8 zK rfl #[.agg #[.string x565000_27, .slice Ao128 x565001_55.length co128, .string x565002_46, .bool x565003_27, .bool x565004_46]] rfl zM ?_; (with_reducible refine (pieces_Check.calls kj68 x565000_27 _ _ x565001_55 x565002_46 x565003_27 x565004_46 t575 _ ?side1 ?side2 A120.out).mono ?_); (case side1 => exact zC (Kd.R_reads' HO_565001.out).2.2); (case side2 => exact (Kd.R_reads' HO_565001.out).2.1); rintro e w129 ⟨rfl, hb⟩; (try clear A120); refine ⟨_, rfl, ?_⟩; have n_ := zI (aM (Kd.R_below (zR HO_565001) hb)) (zI (aM (blk_below (g := gb557) (o := .cells #[.int .i64 a1_0, .int .i64 a1_1, .int .i64 a1_2, .int .i64 a1_3, .bool a1_4, .bool a1_5, .bool a1_6] 23 (0, 0)) (by (with_reducible repeat (first | refine blk_drewN ?_ _ | refine blk_drew ?_ | refine blk_alloc ?_ _)); exact BK557.out) hb)) (zI (aM (blk_below (g := gb563) (o := .cells #[.int .i64 t559, .int .i64 t560, .int .i64 t561, .int .i64 t562] 25 (0, 0)) (by (with_reducible repeat (first | refine blk_drewN ?_ _ | refine blk_drew ?_ | refine blk_alloc ?_ _)); exact BK563.out) hb)) (zI (aM (blk_below (g := gb564) (o := .cells #[.string x565000_27, .slice Ao128 x565001_55.length co128, .string x565002_46, .bool x565003_27, .bool x565004_46] 29 (0, 0)) (by (with_reducible repeat (first | refine blk_drewN ?_ _ | refine blk_drew ?_ | refine blk_alloc ?_ _)); exact BK564.out) hb)) (aM (below_step (by repeat (first | (with_reducible first | exact HB.out | apply bA | apply bN | apply bD | refine below_set ?_ GE557.out | refine below_set ?_ GE563.out | refine below_set ?_ GE564.out) | exact HB.out)) hb))))); clear HO_565001 BK557 BK563 BK564 HB; obtain ⟨HO_565001, BK557, BK563, BK564, HB⟩ := n_; (try clear hb); have hcz130_0 : w129.cell? ⟨gb564, 0, none⟩ = some (.string x565000_27) := (blk_cell BK564.out 0).trans rfl; have hcz130_1 : w129.cell? ⟨gb564, 1, none⟩ = some (.slice Ao128 x565001_55.length co128) := (blk_cell BK564.out 1).trans rfl; have hcz130_2 : w129.cell? ⟨gb564, 2, none⟩ = some (.string x565002_46) := (blk_cell BK564.out 2).trans rfl; have hcz130_3 : w129.cell? ⟨gb564, 3, none⟩ = some (.bool x565003_27) := (blk_cell BK564.out 3).trans rfl; have hcz130_4 : w129.cell? ⟨gb564, 4, none⟩ = some (.bool x565004_46) := (blk_cell BK564.out 4).trans rfl; have hfz130_0 := blk_frozen BK564.out 0; have hfz130_1 := blk_frozen BK564.out 1; have hfz130_2 := blk_frozen BK564.out 2; have hfz130_3 := blk_frozen BK564.out 3; have hfz130_4 := blk_frozen BK564.out 4) | (go_at_call 9; (with_reducible refine (pieces_Match.calls kj68 a0 x565000_27 _ _ x565001_55 x565002_46 x565003_27 x565004_46 true _ (zEnv HE) ?side1 ?side2 A122.out).mono ?_); (case side1 => exact zC (Kd.R_reads' HO_565001.out).2.2); (case side2 => exact (Kd.R_reads' HO_565001.out).2.1); rintro e w131 ⟨rfl, hb⟩; (try clear A122); have n_ := zI (aM (Kd.R_below (zR HO_565001) hb)) (zI (aM (blk_below (g := gb557) (o := .cells #[.int .i64 a1_0, .int .i64 a1_1, .int .i64 a1_2, .int .i64 a1_3, .bool a1_4, .bool a1_5, .bool a1_6] 23 (0, 0)) (by (with_reducible repeat (first | refine blk_drewN ?_ _ | refine blk_drew ?_ | refine blk_alloc ?_ _)); exact BK557.out) hb)) (zI (aM (blk_below (g := gb563) (o := .cells #[.int .i64 t559, .int .i64 t560, .int .i64 t561, .int .i64 t562] 25 (0, 0)) (by (with_reducible repeat (first | refine blk_drewN ?_ _ | refine blk_drew ?_ | refine blk_alloc ?_ _)); exact BK563.out) hb)) (zI (aM (blk_below (g := gb564) (o := .cells #[.string x565000_27, .slice Ao128 x565001_55.length co128, .string x565002_46, .bool x565003_27, .bool x565004_46] 29 (0, 0)) (by (with_reducible repeat (first | refine blk_drewN ?_ _ | refine blk_drew ?_ | refine blk_alloc ?_ _)); exact BK564.out) hb)) (aM (below_step (by repeat (first | (with_reducible first | exact HB.out | apply bA | apply bN | apply bD | refine below_set ?_ GE557.out | refine below_set ?_ GE563.out | refine below_set ?_ GE564.out) | exact HB.out)) hb))))); clear HO_565001 BK557 BK563 BK564 HB; obtain ⟨HO_565001, BK557, BK563, BK564, HB⟩ := n_; (try clear hb)) | (go_at_call 6; (with_reducible refine (toponymlaw13_awake.calls kj68  t577 _ (zEnv HE) A124.out).mono ?_); rintro e w132 ⟨rfl, hb⟩; (try clear A124); have n_ := zI (aM (Kd.R_below (zR HO_565001) hb)) (zI (aM (blk_below (g := gb557) (o := .cells #[.int .i64 a1_0, .int .i64 a1_1, .int .i64 a1_2, .int .i64 a1_3, .bool a1_4, .bool a1_5, .bool a1_6] 23 (0, 0)) (by (with_reducible repeat (first | refine blk_drewN ?_ _ | refine blk_drew ?_ | refine blk_alloc ?_ _)); exact BK557.out) hb)) (zI (aM (blk_below (g := gb563) (o := .cells #[.int .i64 t559, .int .i64 t560, .int .i64 t561, .int .i64 t562] 25 (0, 0)) (by (with_reducible repeat (first | refine blk_drewN ?_ _ | refine blk_drew ?_ | refine blk_alloc ?_ _)); exact BK563.out) hb)) (zI (aM (blk_below (g := gb564) (o := .cells #[.string x565000_27, .slice Ao128 x565001_55.length co128, .string x565002_46, .bool x565003_27, .bool x565004_46] 29 (0, 0)) (by (with_reducible repeat (first | refine blk_drewN ?_ _ | refine blk_drew ?_ | refine blk_alloc ?_ _)); exact BK564.out) hb)) (aM (below_step (by repeat (first | (with_reducible first | exact HB.out | apply bA | apply bN | apply bD | refine below_set ?_ GE557.out | refine below_set ?_ GE563.out | refine below_set ?_ GE564.out) | exact HB.out)) hb))))); clear HO_565001 BK557 BK563 BK564 HB; obtain ⟨HO_565001, BK557, BK563, BK564, HB⟩ := n_; (try clear hb)))
                 go_ret
                 exact ⟨zE, by repeat (first | (with_reducible first | exact HB.out | apply bA | apply bN | apply bD | refine below_set ?_ GE557.out | refine below_set ?_ GE563.out | refine below_set ?_ GE564.out) | exact HB.out)⟩
                ·replace c123 := Bool.eq_false_iff.mpr c123
                 subst c123
                 rw [if_neg (show ¬ (false = true) by decide)] at H
                 exact absurd ((sI H).trans hT.out) (by decide)
               ·rw [if_neg c121] at H
                have c121b0 : (t575 == 0) = false := beq_eq_false_iff_ne.mpr c121
                have c121b1 : (t575 != 0) = true := bne_iff_ne.mpr c121
                obtain ⟨t578, A140, H⟩ := zO H
                obtain rfl := sI H
                have hnb141 := NB564_557.out
                have hnc141 := NB557_564.out
                have hnb142 := NB564_563.out
                have hnc142 := NB563_564.out
                have hcz143_0 : wc.cell? ⟨gb564, 0, none⟩ = some (.string x565000_27) := (blk_cell BK564.out 0).trans rfl
                have hcz143_1 : wc.cell? ⟨gb564, 1, none⟩ = some (u565001) := (blk_cell BK564.out 1).trans rfl
                have hcz143_2 : wc.cell? ⟨gb564, 2, none⟩ = some (.string x565002_46) := (blk_cell BK564.out 2).trans rfl
                have hcz143_3 : wc.cell? ⟨gb564, 3, none⟩ = some (.bool x565003_27) := (blk_cell BK564.out 3).trans rfl
                have hcz143_4 : wc.cell? ⟨gb564, 4, none⟩ = some (.bool x565004_46) := (blk_cell BK564.out 4).trans rfl
                have hfz143_0 := blk_frozen BK564.out 0
                have hfz143_1 := blk_frozen BK564.out 1
                have hfz143_2 := blk_frozen BK564.out 2
                have hfz143_3 := blk_frozen BK564.out 3
                have hfz143_4 := blk_frozen BK564.out 4
                obtain ⟨Ao144, co144, eo144⟩ := Kd.R_slice HO_565001.out
                subst eo144
                go_wp2_with (first | ((with_reducible refine gate_callee (f := 8) rfl ?_); refine goesL_ (some 81) rfl rfl Try.func8 zK rfl #[.agg #[.string x565000_27, .slice Ao144 x565001_55.length co144, .string x565002_46, .bool x565003_27, .bool x565004_46]] rfl zM ?_; (with_reducible refine (pieces_Check.calls kj68 x565000_27 _ _ x565001_55 x565002_46 x565003_27 x565004_46 t575 _ ?side1 ?side2 A120.out).mono ?_); (case side1 => exact zC (Kd.R_reads' HO_565001.out).2.2); (case side2 => exact (Kd.R_reads' HO_565001.out).2.1); rintro e w145 ⟨rfl, hb⟩; (try clear A120); refine ⟨_, rfl, ?_⟩; have n_ := zI (aM (Kd.R_below (zR HO_565001) hb)) (zI (aM (blk_below (g := gb557) (o := .cells #[.int .i64 a1_0, .int .i64 a1_1, .int .i64 a1_2, .int .i64 a1_3, .bool a1_4, .bool a1_5, .bool a1_6] 23 (0, 0)) (by (with_reducible repeat (first | refine blk_drewN ?_ _ | refine blk_drew ?_ | refine blk_alloc ?_ _)); exact BK557.out) hb)) (zI (aM (blk_below (g := gb563) (o := .cells #[.int .i64 t559, .int .i64 t560, .int .i64 t561, .int .i64 t562] 25 (0, 0)) (by (with_reducible repeat (first | refine blk_drewN ?_ _ | refine blk_drew ?_ | refine blk_alloc ?_ _)); exact BK563.out) hb)) (zI (aM (blk_below (g := gb564) (o := .cells #[.string x565000_27, .slice Ao144 x565001_55.length co144, .string x565002_46, .bool x565003_27, .bool x565004_46] 29 (0, 0)) (by (with_reducible repeat (first | refine blk_drewN ?_ _ | refine blk_drew ?_ | refine blk_alloc ?_ _)); exact BK564.out) hb)) (aM (below_step (by repeat (first | (with_reducible first | exact HB.out | apply bA | apply bN | apply bD | refine below_set ?_ GE557.out | refine below_set ?_ GE563.out | refine below_set ?_ GE564.out) | exact HB.out)) hb))))); clear HO_565001 BK557 BK563 BK564 HB; obtain ⟨HO_565001, BK557, BK563, BK564, HB⟩ := n_; (try clear hb)) | (go_at_call 6; (with_reducible refine (toponymlaw13_awake.calls kj68  t578 _ (zEnv HE) A140.out).mono ?_); rintro e w146 ⟨rfl, hb⟩; (try clear A140); have n_ := zI (aM (Kd.R_below (zR HO_565001) hb)) (zI (aM (blk_below (g := gb557) (o := .cells #[.int .i64 a1_0, .int .i64 a1_1, .int .i64 a1_2, .int .i64 a1_3, .bool a1_4, .bool a1_5, .bool a1_6] 23 (0, 0)) (by (with_reducible repeat (first | refine blk_drewN ?_ _ | refine blk_drew ?_ | refine blk_alloc ?_ _)); exact BK557.out) hb)) (zI (aM (blk_below (g := gb563) (o := .cells #[.int .i64 t559, .int .i64 t560, .int .i64 t561, .int .i64 t562] 25 (0, 0)) (by (with_reducible repeat (first | refine blk_drewN ?_ _ | refine blk_drew ?_ | refine blk_alloc ?_ _)); exact BK563.out) hb)) (zI (aM (blk_below (g := gb564) (o := .cells #[.string x565000_27, .slice Ao144 x565001_55.length co144, .string x565002_46, .bool x565003_27, .bool x565004_46] 29 (0, 0)) (by (with_reducible repeat (first | refine blk_drewN ?_ _ | refine blk_drew ?_ | refine blk_alloc ?_ _)); exact BK564.out) hb)) (aM (below_step (by repeat (first | (with_reducible first | exact HB.out | apply bA | apply bN | apply bD | refine below_set ?_ GE557.out | refine below_set ?_ GE563.out | refine below_set ?_ GE564.out) | exact HB.out)) hb))))); clear HO_565001 BK557 BK563 BK564 HB; obtain ⟨HO_565001, BK557, BK563, BK564, HB⟩ := n_; (try clear hb)))
                go_ret
                exact ⟨zE, by repeat (first | (with_reducible first | exact HB.out | apply bA | apply bN | apply bD | refine below_set ?_ GE557.out | refine below_set ?_ GE563.out | refine below_set ?_ GE564.out) | exact HB.out)⟩

end Go.Proofs.Ytncppcjobimilaa.P
