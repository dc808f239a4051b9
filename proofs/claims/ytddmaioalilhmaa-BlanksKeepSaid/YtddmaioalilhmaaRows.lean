/-
  No cell of these rows narrows 'for every input' (looked for: loops, veiled, ifaces, maps, wideKeys, modest, calm, conditions, laid).
  DERIVED. THE GIVEN ROWS OF THIS SEAT. 5 by the template 'for every input the law returns true; each argument reads behind the call as it read before'; 0 by the template 'total and deterministic' (their statements: YtddmaioalilhmaaTotals.lean).
  GIVEN WITH THE SEED: the statements are not yours to turn. If you find one false, say at which input.
  Laid BY PROGRAM, IN A SANDBOX (cutbox-rows.mjs): the forced cells as the released guide's own fill.sh prints them over the translation 2b60905ba11a1ed0… (all of the seat's roots in one cut). By AI agents, Wed Nov 11 2026. No macro, syntax, notation, axiom, sorry.
-/
import Derived.Test.YtddmaioalilhmaaChecked
import GoSem.Claim
import GoSem.ClaimJoined
import GoSem.ClaimMapViews
import Derived.JoinedTies
import Derived.KernelRfl
namespace Go.Proofs.Ytddmaioalilhmaa
/- THE CELL 'sum', in the pinned program and in every row, IS THE sha256 OF THE DUMP (.gsa) THAT YtddmaioalilhmaaProg.lean LOADS. Nothing in Lean hashes anything: it is a label: what it is worth is what the hold of that sum in a sandbox is worth. -/
noncomputable def Try.pinned : Pinned := { name := "ytddmaioalilhmaa", sum := "2b60905ba11a1ed09a1350e2ea0ee554d32f02baa4507bac9151131734c5f10c", checked := Try.checked }
namespace Rows
def none {H : Type} : Left H := { results := [], args := [] }

/-- 'toponymlaw11.BlanksPieces': WHATEVER THE INPUT: true; the input reads as it did. -/
def blanksPiecesSpec : ChangeSpec := { name := "blanksPieces", fn := fun _ => fun
  | [d1, d2, d3] => { results := [.lit (.bool true)], args := [d1, d2, d3] }
  | _ => none }
def blanksPiecesRow : OpenClaim := { program := "ytddmaioalilhmaa", sum := "2b60905ba11a1ed09a1350e2ea0ee554d32f02baa4507bac9151131734c5f10c", func := "toponym/toponymlaw11.BlanksPieces", spec := "blanksPieces", unfollowed := true, recurses := true, apart := false }
def BlanksPiecesSaid : Prop := blanksPiecesRow.holds Try.pinned (OpenSpec.ofChange blanksPiecesSpec)

/-- ITS FALSE NEIGHBOUR: 'it returns false'. Refute it at one input. -/
def blanksPiecesWrong : ChangeSpec := { name := "blanksPieces", fn := fun _ => fun
  | [d1, d2, d3] => { results := [.lit (.bool false)], args := [d1, d2, d3] }
  | _ => none }
def BlanksPiecesWrongFalsely : Prop := blanksPiecesRow.holds Try.pinned (OpenSpec.ofChange blanksPiecesWrong)

/-- 'toponymlaw11.BlanksPiecewise': WHATEVER THE INPUT: true; the input reads as it did. -/
def blanksPiecewiseSpec : ChangeSpec := { name := "blanksPiecewise", fn := fun _ => fun
  | [d1, d2, d3] => { results := [.lit (.bool true)], args := [d1, d2, d3] }
  | _ => none }
def blanksPiecewiseRow : OpenClaim := { program := "ytddmaioalilhmaa", sum := "2b60905ba11a1ed09a1350e2ea0ee554d32f02baa4507bac9151131734c5f10c", func := "toponym/toponymlaw11.BlanksPiecewise", spec := "blanksPiecewise", unfollowed := true, recurses := true, apart := false }
def BlanksPiecewiseSaid : Prop := blanksPiecewiseRow.holds Try.pinned (OpenSpec.ofChange blanksPiecewiseSpec)

/-- ITS FALSE NEIGHBOUR: 'it returns false'. Refute it at one input. -/
def blanksPiecewiseWrong : ChangeSpec := { name := "blanksPiecewise", fn := fun _ => fun
  | [d1, d2, d3] => { results := [.lit (.bool false)], args := [d1, d2, d3] }
  | _ => none }
def BlanksPiecewiseWrongFalsely : Prop := blanksPiecewiseRow.holds Try.pinned (OpenSpec.ofChange blanksPiecewiseWrong)

/-- 'toponymlaw11.BlanksValues': WHATEVER THE INPUT: true; the input reads as it did. -/
def blanksValuesSpec : ChangeSpec := { name := "blanksValues", fn := fun _ => fun
  | [d] => { results := [.lit (.bool true)], args := [d] }
  | _ => none }
def blanksValuesRow : OpenClaim := { program := "ytddmaioalilhmaa", sum := "2b60905ba11a1ed09a1350e2ea0ee554d32f02baa4507bac9151131734c5f10c", func := "toponym/toponymlaw11.BlanksValues", spec := "blanksValues", unfollowed := true, recurses := true, apart := false }
def BlanksValuesSaid : Prop := blanksValuesRow.holds Try.pinned (OpenSpec.ofChange blanksValuesSpec)

/-- ITS FALSE NEIGHBOUR: 'it returns false'. Refute it at one input. -/
def blanksValuesWrong : ChangeSpec := { name := "blanksValues", fn := fun _ => fun
  | [d] => { results := [.lit (.bool false)], args := [d] }
  | _ => none }
def BlanksValuesWrongFalsely : Prop := blanksValuesRow.holds Try.pinned (OpenSpec.ofChange blanksValuesWrong)

/-- 'toponymlaw11.BlanksAgain': WHATEVER THE INPUT: true; the input reads as it did. -/
def blanksAgainSpec : ChangeSpec := { name := "blanksAgain", fn := fun _ => fun
  | [d1, d2] => { results := [.lit (.bool true)], args := [d1, d2] }
  | _ => none }
def blanksAgainRow : OpenClaim := { program := "ytddmaioalilhmaa", sum := "2b60905ba11a1ed09a1350e2ea0ee554d32f02baa4507bac9151131734c5f10c", func := "toponym/toponymlaw11.BlanksAgain", spec := "blanksAgain", unfollowed := true, recurses := true, apart := false }
def BlanksAgainSaid : Prop := blanksAgainRow.holds Try.pinned (OpenSpec.ofChange blanksAgainSpec)

/-- ITS FALSE NEIGHBOUR: 'it returns false'. Refute it at one input. -/
def blanksAgainWrong : ChangeSpec := { name := "blanksAgain", fn := fun _ => fun
  | [d1, d2] => { results := [.lit (.bool false)], args := [d1, d2] }
  | _ => none }
def BlanksAgainWrongFalsely : Prop := blanksAgainRow.holds Try.pinned (OpenSpec.ofChange blanksAgainWrong)

/-- 'toponymlaw11.BlanksKeep': WHATEVER THE INPUT: true; the input reads as it did. -/
def blanksKeepSpec : ChangeSpec := { name := "blanksKeep", fn := fun _ => fun
  | [d1, d2] => { results := [.lit (.bool true)], args := [d1, d2] }
  | _ => none }
def blanksKeepRow : OpenClaim := { program := "ytddmaioalilhmaa", sum := "2b60905ba11a1ed09a1350e2ea0ee554d32f02baa4507bac9151131734c5f10c", func := "toponym/toponymlaw11.BlanksKeep", spec := "blanksKeep", unfollowed := true, recurses := true, apart := false }
def BlanksKeepSaid : Prop := blanksKeepRow.holds Try.pinned (OpenSpec.ofChange blanksKeepSpec)

/-- ITS FALSE NEIGHBOUR: 'it returns false'. Refute it at one input. -/
def blanksKeepWrong : ChangeSpec := { name := "blanksKeep", fn := fun _ => fun
  | [d1, d2] => { results := [.lit (.bool false)], args := [d1, d2] }
  | _ => none }
def BlanksKeepWrongFalsely : Prop := blanksKeepRow.holds Try.pinned (OpenSpec.ofChange blanksKeepWrong)

/- THE SECOND FORM. 'bulk': how many values and letters a reading holds, each counted each time it is reached (what is shared counts as often as it is met; a slice's spare places count too). A statement '..UptoSaid' is the law's where the arguments, and the package variables that the reading takes, are together of bulk at most 1048576: NARROWER than '..Said'. Prove '..Said' where nothing that the law and all that it calls make is longer than what came in: it says more and counts as full. Else prove '..UptoSaid'. A law counts once. -/
mutual
def uptoBulk {H : Type} : DataW H → Nat
  | .lit (.string bytes) => bytes.length + 1
  | .lit _ => 1
  | .nil => 1
  | .ptr d => uptoBulk d + 1
  | .slice elems spare => uptoBulkAll elems + uptoBulkAll spare + 1
  | .agg parts => uptoBulkAll parts + 1
  | .iface _ d => uptoBulk d + 1
  | .map entries => uptoBulkEntries entries + 1
  | .held _ => 1
def uptoBulkAll {H : Type} : List (DataW H) → Nat
  | [] => 0
  | d :: r => uptoBulk d + uptoBulkAll r
def uptoBulkEntries {H : Type} : List (Lit × DataW H) → Nat
  | [] => 0
  | x :: r => uptoBulkEntry x + uptoBulkEntries r
def uptoBulkEntry {H : Type} : Lit × DataW H → Nat
  | (.string bytes, d) => bytes.length + uptoBulk d + 1
  | (_, d) => uptoBulk d + 1
 end
def uptoSmall : (H : Type) → List (DataW H) → Bool := fun _ ds => decide (uptoBulkAll ds ≤ 1048576)
def OpenSpec.upto (s : _root_.Go.ChangeSpec) : _root_.Go.OpenSpec := { _root_.Go.OpenSpec.ofChange s with cond := some uptoSmall }

/-- 'toponymlaw11.BlanksPieces', WHERE WHAT IT READS IS OF BULK AT MOST 1048576: true; the input reads as it did. -/
def blanksPiecesUptoRow : OpenClaim := { program := "ytddmaioalilhmaa", sum := "2b60905ba11a1ed09a1350e2ea0ee554d32f02baa4507bac9151131734c5f10c", func := "toponym/toponymlaw11.BlanksPieces", spec := "blanksPieces", unfollowed := true, recurses := true, apart := false, narrowed := true }
def BlanksPiecesUptoSaid : Prop := blanksPiecesUptoRow.holds Try.pinned (OpenSpec.upto blanksPiecesSpec)

/-- 'toponymlaw11.BlanksPiecewise', WHERE WHAT IT READS IS OF BULK AT MOST 1048576: true; the input reads as it did. -/
def blanksPiecewiseUptoRow : OpenClaim := { program := "ytddmaioalilhmaa", sum := "2b60905ba11a1ed09a1350e2ea0ee554d32f02baa4507bac9151131734c5f10c", func := "toponym/toponymlaw11.BlanksPiecewise", spec := "blanksPiecewise", unfollowed := true, recurses := true, apart := false, narrowed := true }
def BlanksPiecewiseUptoSaid : Prop := blanksPiecewiseUptoRow.holds Try.pinned (OpenSpec.upto blanksPiecewiseSpec)

/-- 'toponymlaw11.BlanksValues', WHERE WHAT IT READS IS OF BULK AT MOST 1048576: true; the input reads as it did. -/
def blanksValuesUptoRow : OpenClaim := { program := "ytddmaioalilhmaa", sum := "2b60905ba11a1ed09a1350e2ea0ee554d32f02baa4507bac9151131734c5f10c", func := "toponym/toponymlaw11.BlanksValues", spec := "blanksValues", unfollowed := true, recurses := true, apart := false, narrowed := true }
def BlanksValuesUptoSaid : Prop := blanksValuesUptoRow.holds Try.pinned (OpenSpec.upto blanksValuesSpec)

/-- 'toponymlaw11.BlanksAgain', WHERE WHAT IT READS IS OF BULK AT MOST 1048576: true; the input reads as it did. -/
def blanksAgainUptoRow : OpenClaim := { program := "ytddmaioalilhmaa", sum := "2b60905ba11a1ed09a1350e2ea0ee554d32f02baa4507bac9151131734c5f10c", func := "toponym/toponymlaw11.BlanksAgain", spec := "blanksAgain", unfollowed := true, recurses := true, apart := false, narrowed := true }
def BlanksAgainUptoSaid : Prop := blanksAgainUptoRow.holds Try.pinned (OpenSpec.upto blanksAgainSpec)

/-- 'toponymlaw11.BlanksKeep', WHERE WHAT IT READS IS OF BULK AT MOST 1048576: true; the input reads as it did. -/
def blanksKeepUptoRow : OpenClaim := { program := "ytddmaioalilhmaa", sum := "2b60905ba11a1ed09a1350e2ea0ee554d32f02baa4507bac9151131734c5f10c", func := "toponym/toponymlaw11.BlanksKeep", spec := "blanksKeep", unfollowed := true, recurses := true, apart := false, narrowed := true }
def BlanksKeepUptoSaid : Prop := blanksKeepUptoRow.holds Try.pinned (OpenSpec.upto blanksKeepSpec)

end Rows
end Go.Proofs.Ytddmaioalilhmaa
