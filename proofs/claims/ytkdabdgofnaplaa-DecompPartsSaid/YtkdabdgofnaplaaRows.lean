/-
  No cell of these rows narrows 'for every input' (looked for: loops, veiled, ifaces, maps, wideKeys, modest, calm, conditions, laid).
  DERIVED. THE GIVEN ROWS OF THIS SEAT. 5 by the template 'for every input the law returns true; each argument reads behind the call as it read before'; 0 by the template 'total and deterministic' (their statements: YtkdabdgofnaplaaTotals.lean).
  GIVEN WITH THE SEED: the statements are not yours to turn. If you find one false, say at which input.
  Laid BY PROGRAM, IN A SANDBOX (cutbox-rows.mjs): the forced cells as the released guide's own fill.sh prints them over the translation e8b0e015b6e5c811… (all of the seat's roots in one cut). By AI agents, Wed Nov 11 2026. No macro, syntax, notation, axiom, sorry.
-/
import Derived.Test.YtkdabdgofnaplaaChecked
import GoSem.Claim
import GoSem.ClaimJoined
import GoSem.ClaimMapViews
import Derived.JoinedTies
import Derived.KernelRfl
namespace Go.Proofs.Ytkdabdgofnaplaa
/- THE CELL 'sum', in the pinned program and in every row, IS THE sha256 OF THE DUMP (.gsa) THAT YtkdabdgofnaplaaProg.lean LOADS. Nothing in Lean hashes anything: it is a label: what it is worth is what the hold of that sum in a sandbox is worth. -/
noncomputable def Try.pinned : Pinned := { name := "ytkdabdgofnaplaa", sum := "e8b0e015b6e5c811a885b6be30cc9c8cda8688cde592dd4c0dc57b8d925f7f66", checked := Try.checked }
namespace Rows
def none {H : Type} : Left H := { results := [], args := [] }

/-- 'toponymlaw05.DecompParts': WHATEVER THE INPUT: true; the input reads as it did. -/
def decompPartsSpec : ChangeSpec := { name := "decompParts", fn := fun _ => fun
  | [d] => { results := [.lit (.bool true)], args := [d] }
  | _ => none }
def decompPartsRow : OpenClaim := { program := "ytkdabdgofnaplaa", sum := "e8b0e015b6e5c811a885b6be30cc9c8cda8688cde592dd4c0dc57b8d925f7f66", func := "toponym/toponymlaw05.DecompParts", spec := "decompParts", recurses := true, apart := false }
def DecompPartsSaid : Prop := decompPartsRow.holds Try.pinned (OpenSpec.ofChange decompPartsSpec)

/-- ITS FALSE NEIGHBOUR: 'it returns false'. Refute it at one input. -/
def decompPartsWrong : ChangeSpec := { name := "decompParts", fn := fun _ => fun
  | [d] => { results := [.lit (.bool false)], args := [d] }
  | _ => none }
def DecompPartsWrongFalsely : Prop := decompPartsRow.holds Try.pinned (OpenSpec.ofChange decompPartsWrong)

/-- 'toponymlaw05.DecompAll': WHATEVER THE INPUT: true; the input reads as it did. -/
def decompAllSpec : ChangeSpec := { name := "decompAll", fn := fun _ => fun
  | [d1, d2] => { results := [.lit (.bool true)], args := [d1, d2] }
  | _ => none }
def decompAllRow : OpenClaim := { program := "ytkdabdgofnaplaa", sum := "e8b0e015b6e5c811a885b6be30cc9c8cda8688cde592dd4c0dc57b8d925f7f66", func := "toponym/toponymlaw05.DecompAll", spec := "decompAll", recurses := true, apart := false }
def DecompAllSaid : Prop := decompAllRow.holds Try.pinned (OpenSpec.ofChange decompAllSpec)

/-- ITS FALSE NEIGHBOUR: 'it returns false'. Refute it at one input. -/
def decompAllWrong : ChangeSpec := { name := "decompAll", fn := fun _ => fun
  | [d1, d2] => { results := [.lit (.bool false)], args := [d1, d2] }
  | _ => none }
def DecompAllWrongFalsely : Prop := decompAllRow.holds Try.pinned (OpenSpec.ofChange decompAllWrong)

/-- 'toponymlaw05.DecompWhole': WHATEVER THE INPUT: true; the input reads as it did. -/
def decompWholeSpec : ChangeSpec := { name := "decompWhole", fn := fun _ => fun
  | [d1, d2] => { results := [.lit (.bool true)], args := [d1, d2] }
  | _ => none }
def decompWholeRow : OpenClaim := { program := "ytkdabdgofnaplaa", sum := "e8b0e015b6e5c811a885b6be30cc9c8cda8688cde592dd4c0dc57b8d925f7f66", func := "toponym/toponymlaw05.DecompWhole", spec := "decompWhole", recurses := true, apart := false }
def DecompWholeSaid : Prop := decompWholeRow.holds Try.pinned (OpenSpec.ofChange decompWholeSpec)

/-- ITS FALSE NEIGHBOUR: 'it returns false'. Refute it at one input. -/
def decompWholeWrong : ChangeSpec := { name := "decompWhole", fn := fun _ => fun
  | [d1, d2] => { results := [.lit (.bool false)], args := [d1, d2] }
  | _ => none }
def DecompWholeWrongFalsely : Prop := decompWholeRow.holds Try.pinned (OpenSpec.ofChange decompWholeWrong)

/-- 'toponymlaw05.DecompMore': WHATEVER THE INPUT: true; the input reads as it did. -/
def decompMoreSpec : ChangeSpec := { name := "decompMore", fn := fun _ => fun
  | [d] => { results := [.lit (.bool true)], args := [d] }
  | _ => none }
def decompMoreRow : OpenClaim := { program := "ytkdabdgofnaplaa", sum := "e8b0e015b6e5c811a885b6be30cc9c8cda8688cde592dd4c0dc57b8d925f7f66", func := "toponym/toponymlaw05.DecompMore", spec := "decompMore", recurses := true, apart := false }
def DecompMoreSaid : Prop := decompMoreRow.holds Try.pinned (OpenSpec.ofChange decompMoreSpec)

/-- ITS FALSE NEIGHBOUR: 'it returns false'. Refute it at one input. -/
def decompMoreWrong : ChangeSpec := { name := "decompMore", fn := fun _ => fun
  | [d] => { results := [.lit (.bool false)], args := [d] }
  | _ => none }
def DecompMoreWrongFalsely : Prop := decompMoreRow.holds Try.pinned (OpenSpec.ofChange decompMoreWrong)

/-- 'toponymlaw05.DecompThere': WHATEVER THE INPUT: true; the input reads as it did. -/
def decompThereSpec : ChangeSpec := { name := "decompThere", fn := fun _ => fun
  | [d] => { results := [.lit (.bool true)], args := [d] }
  | _ => none }
def decompThereRow : OpenClaim := { program := "ytkdabdgofnaplaa", sum := "e8b0e015b6e5c811a885b6be30cc9c8cda8688cde592dd4c0dc57b8d925f7f66", func := "toponym/toponymlaw05.DecompThere", spec := "decompThere", recurses := true, apart := false }
def DecompThereSaid : Prop := decompThereRow.holds Try.pinned (OpenSpec.ofChange decompThereSpec)

/-- ITS FALSE NEIGHBOUR: 'it returns false'. Refute it at one input. -/
def decompThereWrong : ChangeSpec := { name := "decompThere", fn := fun _ => fun
  | [d] => { results := [.lit (.bool false)], args := [d] }
  | _ => none }
def DecompThereWrongFalsely : Prop := decompThereRow.holds Try.pinned (OpenSpec.ofChange decompThereWrong)

/- THE SECOND FORM. 'bulk': how many values and letters a reading holds, each counted each time it is reached (what is shared counts as often as it is met; a slice's spare places count too). A statement '..UptoSaid' is the law's where the arguments, and the package variables that the reading takes, are together of bulk at most 1048576: NARROWER than '..Said'. Prove '..Said' where nothing that the law and all that it calls make is longer than what came in: it says more and counts as full. Else prove '..UptoSaid'. A law counts once. -/
mutual
def uptoBulk {H : Type} : DataW H → Nat
  | .lit (.string bytes) => bytes.length + 1
  | .lit _ => 1
  | .nil => 1
  | .ptr d => uptoBulk d + 1
  | .slice elems spare => uptoBulkAll elems + uptoBulkAll spare + 1
  | .agg parts => uptoBulkAll parts + 1
  | .iface _ d => uptoBulk d + 1
  | .map entries => uptoBulkEntries entries + 1
  | .held _ => 1
def uptoBulkAll {H : Type} : List (DataW H) → Nat
  | [] => 0
  | d :: r => uptoBulk d + uptoBulkAll r
def uptoBulkEntries {H : Type} : List (Lit × DataW H) → Nat
  | [] => 0
  | x :: r => uptoBulkEntry x + uptoBulkEntries r
def uptoBulkEntry {H : Type} : Lit × DataW H → Nat
  | (.string bytes, d) => bytes.length + uptoBulk d + 1
  | (_, d) => uptoBulk d + 1
 end
def uptoSmall : (H : Type) → List (DataW H) → Bool := fun _ ds => decide (uptoBulkAll ds ≤ 1048576)
def OpenSpec.upto (s : _root_.Go.ChangeSpec) : _root_.Go.OpenSpec := { _root_.Go.OpenSpec.ofChange s with cond := some uptoSmall }

/-- 'toponymlaw05.DecompParts', WHERE WHAT IT READS IS OF BULK AT MOST 1048576: true; the input reads as it did. -/
def decompPartsUptoRow : OpenClaim := { program := "ytkdabdgofnaplaa", sum := "e8b0e015b6e5c811a885b6be30cc9c8cda8688cde592dd4c0dc57b8d925f7f66", func := "toponym/toponymlaw05.DecompParts", spec := "decompParts", recurses := true, apart := false, narrowed := true }
def DecompPartsUptoSaid : Prop := decompPartsUptoRow.holds Try.pinned (OpenSpec.upto decompPartsSpec)

/-- 'toponymlaw05.DecompAll', WHERE WHAT IT READS IS OF BULK AT MOST 1048576: true; the input reads as it did. -/
def decompAllUptoRow : OpenClaim := { program := "ytkdabdgofnaplaa", sum := "e8b0e015b6e5c811a885b6be30cc9c8cda8688cde592dd4c0dc57b8d925f7f66", func := "toponym/toponymlaw05.DecompAll", spec := "decompAll", recurses := true, apart := false, narrowed := true }
def DecompAllUptoSaid : Prop := decompAllUptoRow.holds Try.pinned (OpenSpec.upto decompAllSpec)

/-- 'toponymlaw05.DecompWhole', WHERE WHAT IT READS IS OF BULK AT MOST 1048576: true; the input reads as it did. -/
def decompWholeUptoRow : OpenClaim := { program := "ytkdabdgofnaplaa", sum := "e8b0e015b6e5c811a885b6be30cc9c8cda8688cde592dd4c0dc57b8d925f7f66", func := "toponym/toponymlaw05.DecompWhole", spec := "decompWhole", recurses := true, apart := false, narrowed := true }
def DecompWholeUptoSaid : Prop := decompWholeUptoRow.holds Try.pinned (OpenSpec.upto decompWholeSpec)

/-- 'toponymlaw05.DecompMore', WHERE WHAT IT READS IS OF BULK AT MOST 1048576: true; the input reads as it did. -/
def decompMoreUptoRow : OpenClaim := { program := "ytkdabdgofnaplaa", sum := "e8b0e015b6e5c811a885b6be30cc9c8cda8688cde592dd4c0dc57b8d925f7f66", func := "toponym/toponymlaw05.DecompMore", spec := "decompMore", recurses := true, apart := false, narrowed := true }
def DecompMoreUptoSaid : Prop := decompMoreUptoRow.holds Try.pinned (OpenSpec.upto decompMoreSpec)

/-- 'toponymlaw05.DecompThere', WHERE WHAT IT READS IS OF BULK AT MOST 1048576: true; the input reads as it did. -/
def decompThereUptoRow : OpenClaim := { program := "ytkdabdgofnaplaa", sum := "e8b0e015b6e5c811a885b6be30cc9c8cda8688cde592dd4c0dc57b8d925f7f66", func := "toponym/toponymlaw05.DecompThere", spec := "decompThere", recurses := true, apart := false, narrowed := true }
def DecompThereUptoSaid : Prop := decompThereUptoRow.holds Try.pinned (OpenSpec.upto decompThereSpec)

end Rows
end Go.Proofs.Ytkdabdgofnaplaa
