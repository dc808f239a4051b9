/-
  No cell of these rows narrows 'for every input' (looked for: loops, veiled, ifaces, maps, wideKeys, modest, calm, conditions, laid).
  DERIVED. THE GIVEN ROWS OF THIS SEAT. 4 by the template 'for every input the law returns true; each argument reads behind the call as it read before'; 0 by the template 'total and deterministic' (their statements: YtobfngikgfjaoaaTotals.lean).
  GIVEN WITH THE SEED: the statements are not yours to turn. If you find one false, say at which input.
  Laid BY PROGRAM, IN A SANDBOX (cutbox-rows.mjs): the forced cells as the released guide's own fill.sh prints them over the translation 0d9d26660b28505e… (all of the seat's roots in one cut). By AI agents, Wed Nov 11 2026. No macro, syntax, notation, axiom, sorry.
-/
import Derived.Test.YtobfngikgfjaoaaChecked
import GoSem.Claim
import GoSem.ClaimJoined
import GoSem.ClaimMapViews
import Derived.JoinedTies
import Derived.KernelRfl
namespace Go.Proofs.Ytobfngikgfjaoaa
/- THE CELL 'sum', in the pinned program and in every row, IS THE sha256 OF THE DUMP (.gsa) THAT YtobfngikgfjaoaaProg.lean LOADS. Nothing in Lean hashes anything: it is a label: what it is worth is what the hold of that sum in a sandbox is worth. -/
noncomputable def Try.pinned : Pinned := { name := "ytobfngikgfjaoaa", sum := "0d9d26660b28505e3de38b20f7e505fad2b23a8b080e617a8d2e6bff8113f355", checked := Try.checked }
namespace Rows
def none {H : Type} : Left H := { results := [], args := [] }

/-- 'toponymlaw09.FoldOnes': WHATEVER THE INPUT: true; the input reads as it did. -/
def foldOnesSpec : ChangeSpec := { name := "foldOnes", fn := fun _ => fun
  | [d] => { results := [.lit (.bool true)], args := [d] }
  | _ => none }
def foldOnesRow : OpenClaim := { program := "ytobfngikgfjaoaa", sum := "0d9d26660b28505e3de38b20f7e505fad2b23a8b080e617a8d2e6bff8113f355", func := "toponym/toponymlaw09.FoldOnes", spec := "foldOnes", apart := false }
def FoldOnesSaid : Prop := foldOnesRow.holds Try.pinned (OpenSpec.ofChange foldOnesSpec)

/-- ITS FALSE NEIGHBOUR: 'it returns false'. Refute it at one input. -/
def foldOnesWrong : ChangeSpec := { name := "foldOnes", fn := fun _ => fun
  | [d] => { results := [.lit (.bool false)], args := [d] }
  | _ => none }
def FoldOnesWrongFalsely : Prop := foldOnesRow.holds Try.pinned (OpenSpec.ofChange foldOnesWrong)

/-- 'toponymlaw09.FoldMaps': WHATEVER THE INPUT: true; the input reads as it did. -/
def foldMapsSpec : ChangeSpec := { name := "foldMaps", fn := fun _ => fun
  | [d1, d2] => { results := [.lit (.bool true)], args := [d1, d2] }
  | _ => none }
def foldMapsRow : OpenClaim := { program := "ytobfngikgfjaoaa", sum := "0d9d26660b28505e3de38b20f7e505fad2b23a8b080e617a8d2e6bff8113f355", func := "toponym/toponymlaw09.FoldMaps", spec := "foldMaps", apart := false }
def FoldMapsSaid : Prop := foldMapsRow.holds Try.pinned (OpenSpec.ofChange foldMapsSpec)

/-- ITS FALSE NEIGHBOUR: 'it returns false'. Refute it at one input. -/
def foldMapsWrong : ChangeSpec := { name := "foldMaps", fn := fun _ => fun
  | [d1, d2] => { results := [.lit (.bool false)], args := [d1, d2] }
  | _ => none }
def FoldMapsWrongFalsely : Prop := foldMapsRow.holds Try.pinned (OpenSpec.ofChange foldMapsWrong)

/-- 'toponymlaw09.FoldAgain': WHATEVER THE INPUT: true; the input reads as it did. -/
def foldAgainSpec : ChangeSpec := { name := "foldAgain", fn := fun _ => fun
  | [d1, d2] => { results := [.lit (.bool true)], args := [d1, d2] }
  | _ => none }
def foldAgainRow : OpenClaim := { program := "ytobfngikgfjaoaa", sum := "0d9d26660b28505e3de38b20f7e505fad2b23a8b080e617a8d2e6bff8113f355", func := "toponym/toponymlaw09.FoldAgain", spec := "foldAgain", apart := false }
def FoldAgainSaid : Prop := foldAgainRow.holds Try.pinned (OpenSpec.ofChange foldAgainSpec)

/-- ITS FALSE NEIGHBOUR: 'it returns false'. Refute it at one input. -/
def foldAgainWrong : ChangeSpec := { name := "foldAgain", fn := fun _ => fun
  | [d1, d2] => { results := [.lit (.bool false)], args := [d1, d2] }
  | _ => none }
def FoldAgainWrongFalsely : Prop := foldAgainRow.holds Try.pinned (OpenSpec.ofChange foldAgainWrong)

/-- 'toponymlaw09.FoldClosed': WHATEVER THE INPUT: true; the input reads as it did. -/
def foldClosedSpec : ChangeSpec := { name := "foldClosed", fn := fun _ => fun
  | [d] => { results := [.lit (.bool true)], args := [d] }
  | _ => none }
def foldClosedRow : OpenClaim := { program := "ytobfngikgfjaoaa", sum := "0d9d26660b28505e3de38b20f7e505fad2b23a8b080e617a8d2e6bff8113f355", func := "toponym/toponymlaw09.FoldClosed", spec := "foldClosed", recurses := true, apart := false }
def FoldClosedSaid : Prop := foldClosedRow.holds Try.pinned (OpenSpec.ofChange foldClosedSpec)

/-- ITS FALSE NEIGHBOUR: 'it returns false'. Refute it at one input. -/
def foldClosedWrong : ChangeSpec := { name := "foldClosed", fn := fun _ => fun
  | [d] => { results := [.lit (.bool false)], args := [d] }
  | _ => none }
def FoldClosedWrongFalsely : Prop := foldClosedRow.holds Try.pinned (OpenSpec.ofChange foldClosedWrong)

/- THE SECOND FORM. 'bulk': how many values and letters a reading holds, each counted each time it is reached (what is shared counts as often as it is met; a slice's spare places count too). A statement '..UptoSaid' is the law's where the arguments, and the package variables that the reading takes, are together of bulk at most 1048576: NARROWER than '..Said'. Prove '..Said' where nothing that the law and all that it calls make is longer than what came in: it says more and counts as full. Else prove '..UptoSaid'. A law counts once. -/
mutual
def uptoBulk {H : Type} : DataW H → Nat
  | .lit (.string bytes) => bytes.length + 1
  | .lit _ => 1
  | .nil => 1
  | .ptr d => uptoBulk d + 1
  | .slice elems spare => uptoBulkAll elems + uptoBulkAll spare + 1
  | .agg parts => uptoBulkAll parts + 1
  | .iface _ d => uptoBulk d + 1
  | .map entries => uptoBulkEntries entries + 1
  | .held _ => 1
def uptoBulkAll {H : Type} : List (DataW H) → Nat
  | [] => 0
  | d :: r => uptoBulk d + uptoBulkAll r
def uptoBulkEntries {H : Type} : List (Lit × DataW H) → Nat
  | [] => 0
  | x :: r => uptoBulkEntry x + uptoBulkEntries r
def uptoBulkEntry {H : Type} : Lit × DataW H → Nat
  | (.string bytes, d) => bytes.length + uptoBulk d + 1
  | (_, d) => uptoBulk d + 1
 end
def uptoSmall : (H : Type) → List (DataW H) → Bool := fun _ ds => decide (uptoBulkAll ds ≤ 1048576)
def OpenSpec.upto (s : _root_.Go.ChangeSpec) : _root_.Go.OpenSpec := { _root_.Go.OpenSpec.ofChange s with cond := some uptoSmall }

/-- 'toponymlaw09.FoldOnes', WHERE WHAT IT READS IS OF BULK AT MOST 1048576: true; the input reads as it did. -/
def foldOnesUptoRow : OpenClaim := { program := "ytobfngikgfjaoaa", sum := "0d9d26660b28505e3de38b20f7e505fad2b23a8b080e617a8d2e6bff8113f355", func := "toponym/toponymlaw09.FoldOnes", spec := "foldOnes", apart := false, narrowed := true }
def FoldOnesUptoSaid : Prop := foldOnesUptoRow.holds Try.pinned (OpenSpec.upto foldOnesSpec)

/-- 'toponymlaw09.FoldMaps', WHERE WHAT IT READS IS OF BULK AT MOST 1048576: true; the input reads as it did. -/
def foldMapsUptoRow : OpenClaim := { program := "ytobfngikgfjaoaa", sum := "0d9d26660b28505e3de38b20f7e505fad2b23a8b080e617a8d2e6bff8113f355", func := "toponym/toponymlaw09.FoldMaps", spec := "foldMaps", apart := false, narrowed := true }
def FoldMapsUptoSaid : Prop := foldMapsUptoRow.holds Try.pinned (OpenSpec.upto foldMapsSpec)

/-- 'toponymlaw09.FoldAgain', WHERE WHAT IT READS IS OF BULK AT MOST 1048576: true; the input reads as it did. -/
def foldAgainUptoRow : OpenClaim := { program := "ytobfngikgfjaoaa", sum := "0d9d26660b28505e3de38b20f7e505fad2b23a8b080e617a8d2e6bff8113f355", func := "toponym/toponymlaw09.FoldAgain", spec := "foldAgain", apart := false, narrowed := true }
def FoldAgainUptoSaid : Prop := foldAgainUptoRow.holds Try.pinned (OpenSpec.upto foldAgainSpec)

/-- 'toponymlaw09.FoldClosed', WHERE WHAT IT READS IS OF BULK AT MOST 1048576: true; the input reads as it did. -/
def foldClosedUptoRow : OpenClaim := { program := "ytobfngikgfjaoaa", sum := "0d9d26660b28505e3de38b20f7e505fad2b23a8b080e617a8d2e6bff8113f355", func := "toponym/toponymlaw09.FoldClosed", spec := "foldClosed", recurses := true, apart := false, narrowed := true }
def FoldClosedUptoSaid : Prop := foldClosedUptoRow.holds Try.pinned (OpenSpec.upto foldClosedSpec)

end Rows
end Go.Proofs.Ytobfngikgfjaoaa
