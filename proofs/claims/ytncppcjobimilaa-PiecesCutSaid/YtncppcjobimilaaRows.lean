/-
  No cell of these rows narrows 'for every input' (looked for: loops, veiled, ifaces, maps, wideKeys, modest, calm, conditions, laid).
  DERIVED. THE GIVEN ROWS OF THIS SEAT. 3 by the template 'for every input the law returns true; each argument reads behind the call as it read before'; 0 by the template 'total and deterministic' (their statements: YtncppcjobimilaaTotals.lean).
  GIVEN WITH THE SEED: the statements are not yours to turn. If you find one false, say at which input.
  Laid BY PROGRAM, IN A SANDBOX (cutbox-rows.mjs): the forced cells as the released guide's own fill.sh prints them over the translation 1c6e111a1865399f… (all of the seat's roots in one cut). By AI agents, Wed Nov 11 2026. No macro, syntax, notation, axiom, sorry.
-/
import Derived.Test.YtncppcjobimilaaChecked
import GoSem.Claim
import GoSem.ClaimJoined
import GoSem.ClaimMapViews
import Derived.JoinedTies
import Derived.KernelRfl
namespace Go.Proofs.Ytncppcjobimilaa
/- THE CELL 'sum', in the pinned program and in every row, IS THE sha256 OF THE DUMP (.gsa) THAT YtncppcjobimilaaProg.lean LOADS. Nothing in Lean hashes anything: it is a label: what it is worth is what the hold of that sum in a sandbox is worth. -/
noncomputable def Try.pinned : Pinned := { name := "ytncppcjobimilaa", sum := "1c6e111a1865399f780c7ed80847b8ce8201d9cab63f9f954af0fbd01cd36e39", checked := Try.checked }
namespace Rows
def none {H : Type} : Left H := { results := [], args := [] }

/-- 'toponymlaw13.PiecesCut': WHATEVER THE INPUT: true; the input reads as it did. -/
def piecesCutSpec : ChangeSpec := { name := "piecesCut", fn := fun _ => fun
  | [d1, d2] => { results := [.lit (.bool true)], args := [d1, d2] }
  | _ => none }
def piecesCutRow : OpenClaim := { program := "ytncppcjobimilaa", sum := "1c6e111a1865399f780c7ed80847b8ce8201d9cab63f9f954af0fbd01cd36e39", func := "toponym/toponymlaw13.PiecesCut", spec := "piecesCut", inPlace := ["internal/bytealg.IndexByteString", "internal/bytealg.IndexString"], unfollowed := true, recurses := true, named := ["internal/bytealg.MaxLen"], apart := false }
def PiecesCutSaid : Prop := piecesCutRow.holds Try.pinned (OpenSpec.ofChange piecesCutSpec)

/-- ITS FALSE NEIGHBOUR: 'it returns false'. Refute it at one input. -/
def piecesCutWrong : ChangeSpec := { name := "piecesCut", fn := fun _ => fun
  | [d1, d2] => { results := [.lit (.bool false)], args := [d1, d2] }
  | _ => none }
def PiecesCutWrongFalsely : Prop := piecesCutRow.holds Try.pinned (OpenSpec.ofChange piecesCutWrong)

/-- 'toponymlaw13.PiecesEnds': WHATEVER THE INPUT: true; the input reads as it did. -/
def piecesEndsSpec : ChangeSpec := { name := "piecesEnds", fn := fun _ => fun
  | [d1, d2, d3] => { results := [.lit (.bool true)], args := [d1, d2, d3] }
  | _ => none }
def piecesEndsRow : OpenClaim := { program := "ytncppcjobimilaa", sum := "1c6e111a1865399f780c7ed80847b8ce8201d9cab63f9f954af0fbd01cd36e39", func := "toponym/toponymlaw13.PiecesEnds", spec := "piecesEnds", inPlace := ["internal/bytealg.IndexByteString", "internal/bytealg.IndexString"], unfollowed := true, recurses := true, named := ["internal/bytealg.MaxLen"], apart := false }
def PiecesEndsSaid : Prop := piecesEndsRow.holds Try.pinned (OpenSpec.ofChange piecesEndsSpec)

/-- ITS FALSE NEIGHBOUR: 'it returns false'. Refute it at one input. -/
def piecesEndsWrong : ChangeSpec := { name := "piecesEnds", fn := fun _ => fun
  | [d1, d2, d3] => { results := [.lit (.bool false)], args := [d1, d2, d3] }
  | _ => none }
def PiecesEndsWrongFalsely : Prop := piecesEndsRow.holds Try.pinned (OpenSpec.ofChange piecesEndsWrong)

/-- 'toponymlaw13.PiecesMore': WHATEVER THE INPUT: true; the input reads as it did. -/
def piecesMoreSpec : ChangeSpec := { name := "piecesMore", fn := fun _ => fun
  | [d1, d2, d3] => { results := [.lit (.bool true)], args := [d1, d2, d3] }
  | _ => none }
def piecesMoreRow : OpenClaim := { program := "ytncppcjobimilaa", sum := "1c6e111a1865399f780c7ed80847b8ce8201d9cab63f9f954af0fbd01cd36e39", func := "toponym/toponymlaw13.PiecesMore", spec := "piecesMore", inPlace := ["internal/bytealg.IndexByteString", "internal/bytealg.IndexString"], unfollowed := true, recurses := true, named := ["internal/bytealg.MaxLen"], apart := false }
def PiecesMoreSaid : Prop := piecesMoreRow.holds Try.pinned (OpenSpec.ofChange piecesMoreSpec)

/-- ITS FALSE NEIGHBOUR: 'it returns false'. Refute it at one input. -/
def piecesMoreWrong : ChangeSpec := { name := "piecesMore", fn := fun _ => fun
  | [d1, d2, d3] => { results := [.lit (.bool false)], args := [d1, d2, d3] }
  | _ => none }
def PiecesMoreWrongFalsely : Prop := piecesMoreRow.holds Try.pinned (OpenSpec.ofChange piecesMoreWrong)

/- THE SECOND FORM. 'bulk': how many values and letters a reading holds, each counted each time it is reached (what is shared counts as often as it is met; a slice's spare places count too). A statement '..UptoSaid' is the law's where the arguments, and the package variables that the reading takes, are together of bulk at most 1048576: NARROWER than '..Said'. Prove '..Said' where nothing that the law and all that it calls make is longer than what came in: it says more and counts as full. Else prove '..UptoSaid'. A law counts once. -/
mutual
def uptoBulk {H : Type} : DataW H → Nat
  | .lit (.string bytes) => bytes.length + 1
  | .lit _ => 1
  | .nil => 1
  | .ptr d => uptoBulk d + 1
  | .slice elems spare => uptoBulkAll elems + uptoBulkAll spare + 1
  | .agg parts => uptoBulkAll parts + 1
  | .iface _ d => uptoBulk d + 1
  | .map entries => uptoBulkEntries entries + 1
  | .held _ => 1
def uptoBulkAll {H : Type} : List (DataW H) → Nat
  | [] => 0
  | d :: r => uptoBulk d + uptoBulkAll r
def uptoBulkEntries {H : Type} : List (Lit × DataW H) → Nat
  | [] => 0
  | x :: r => uptoBulkEntry x + uptoBulkEntries r
def uptoBulkEntry {H : Type} : Lit × DataW H → Nat
  | (.string bytes, d) => bytes.length + uptoBulk d + 1
  | (_, d) => uptoBulk d + 1
 end
def uptoSmall : (H : Type) → List (DataW H) → Bool := fun _ ds => decide (uptoBulkAll ds ≤ 1048576)
def OpenSpec.upto (s : _root_.Go.ChangeSpec) : _root_.Go.OpenSpec := { _root_.Go.OpenSpec.ofChange s with cond := some uptoSmall }

/-- 'toponymlaw13.PiecesCut', WHERE WHAT IT READS IS OF BULK AT MOST 1048576: true; the input reads as it did. -/
def piecesCutUptoRow : OpenClaim := { program := "ytncppcjobimilaa", sum := "1c6e111a1865399f780c7ed80847b8ce8201d9cab63f9f954af0fbd01cd36e39", func := "toponym/toponymlaw13.PiecesCut", spec := "piecesCut", inPlace := ["internal/bytealg.IndexByteString", "internal/bytealg.IndexString"], unfollowed := true, recurses := true, named := ["internal/bytealg.MaxLen"], apart := false, narrowed := true }
def PiecesCutUptoSaid : Prop := piecesCutUptoRow.holds Try.pinned (OpenSpec.upto piecesCutSpec)

/-- 'toponymlaw13.PiecesEnds', WHERE WHAT IT READS IS OF BULK AT MOST 1048576: true; the input reads as it did. -/
def piecesEndsUptoRow : OpenClaim := { program := "ytncppcjobimilaa", sum := "1c6e111a1865399f780c7ed80847b8ce8201d9cab63f9f954af0fbd01cd36e39", func := "toponym/toponymlaw13.PiecesEnds", spec := "piecesEnds", inPlace := ["internal/bytealg.IndexByteString", "internal/bytealg.IndexString"], unfollowed := true, recurses := true, named := ["internal/bytealg.MaxLen"], apart := false, narrowed := true }
def PiecesEndsUptoSaid : Prop := piecesEndsUptoRow.holds Try.pinned (OpenSpec.upto piecesEndsSpec)

/-- 'toponymlaw13.PiecesMore', WHERE WHAT IT READS IS OF BULK AT MOST 1048576: true; the input reads as it did. -/
def piecesMoreUptoRow : OpenClaim := { program := "ytncppcjobimilaa", sum := "1c6e111a1865399f780c7ed80847b8ce8201d9cab63f9f954af0fbd01cd36e39", func := "toponym/toponymlaw13.PiecesMore", spec := "piecesMore", inPlace := ["internal/bytealg.IndexByteString", "internal/bytealg.IndexString"], unfollowed := true, recurses := true, named := ["internal/bytealg.MaxLen"], apart := false, narrowed := true }
def PiecesMoreUptoSaid : Prop := piecesMoreUptoRow.holds Try.pinned (OpenSpec.upto piecesMoreSpec)

end Rows
end Go.Proofs.Ytncppcjobimilaa
