/-
  No cell of these rows narrows 'for every input' (looked for: loops, veiled, ifaces, maps, wideKeys, modest, calm, conditions, laid).
  DERIVED. THE GIVEN ROWS OF THIS SEAT. 3 by the template 'for every input the law returns true; each argument reads behind the call as it read before'; 0 by the template 'total and deterministic' (their statements: YtbffakgmlgimeaaTotals.lean).
  GIVEN WITH THE SEED: the statements are not yours to turn. If you find one false, say at which input.
  Laid BY PROGRAM, IN A SANDBOX (cutbox-rows.mjs): the forced cells as the released guide's own fill.sh prints them over the translation 5b7173429a1a192e… (all of the seat's roots in one cut). By AI agents, Wed Nov 11 2026. No macro, syntax, notation, axiom, sorry.
-/
import Derived.Test.YtbffakgmlgimeaaChecked
import GoSem.Claim
import GoSem.ClaimJoined
import GoSem.ClaimMapViews
import Derived.JoinedTies
import Derived.KernelRfl
namespace Go.Proofs.Ytbffakgmlgimeaa
/- THE CELL 'sum', in the pinned program and in every row, IS THE sha256 OF THE DUMP (.gsa) THAT YtbffakgmlgimeaaProg.lean LOADS. Nothing in Lean hashes anything: it is a label: what it is worth is what the hold of that sum in a sandbox is worth. -/
noncomputable def Try.pinned : Pinned := { name := "ytbffakgmlgimeaa", sum := "5b7173429a1a192ea4d73aa46cc4fcb568a9c037822e0ba3b5a95a07cc16119e", checked := Try.checked }
namespace Rows
def none {H : Type} : Left H := { results := [], args := [] }

/-- 'toponymlaw12.PrepAgain': WHATEVER THE INPUT: true; the input reads as it did. -/
def prepAgainSpec : ChangeSpec := { name := "prepAgain", fn := fun _ => fun
  | [d1, d2] => { results := [.lit (.bool true)], args := [d1, d2] }
  | _ => none }
def prepAgainRow : OpenClaim := { program := "ytbffakgmlgimeaa", sum := "5b7173429a1a192ea4d73aa46cc4fcb568a9c037822e0ba3b5a95a07cc16119e", func := "toponym/toponymlaw12.PrepAgain", spec := "prepAgain", unfollowed := true, recurses := true, apart := false }
def PrepAgainSaid : Prop := prepAgainRow.holds Try.pinned (OpenSpec.ofChange prepAgainSpec)

/-- ITS FALSE NEIGHBOUR: 'it returns false'. Refute it at one input. -/
def prepAgainWrong : ChangeSpec := { name := "prepAgain", fn := fun _ => fun
  | [d1, d2] => { results := [.lit (.bool false)], args := [d1, d2] }
  | _ => none }
def PrepAgainWrongFalsely : Prop := prepAgainRow.holds Try.pinned (OpenSpec.ofChange prepAgainWrong)

/-- 'toponymlaw12.PrepSame': WHATEVER THE INPUT: true; the input reads as it did. -/
def prepSameSpec : ChangeSpec := { name := "prepSame", fn := fun _ => fun
  | [d1, d2] => { results := [.lit (.bool true)], args := [d1, d2] }
  | _ => none }
def prepSameRow : OpenClaim := { program := "ytbffakgmlgimeaa", sum := "5b7173429a1a192ea4d73aa46cc4fcb568a9c037822e0ba3b5a95a07cc16119e", func := "toponym/toponymlaw12.PrepSame", spec := "prepSame", unfollowed := true, recurses := true, apart := false }
def PrepSameSaid : Prop := prepSameRow.holds Try.pinned (OpenSpec.ofChange prepSameSpec)

/-- ITS FALSE NEIGHBOUR: 'it returns false'. Refute it at one input. -/
def prepSameWrong : ChangeSpec := { name := "prepSame", fn := fun _ => fun
  | [d1, d2] => { results := [.lit (.bool false)], args := [d1, d2] }
  | _ => none }
def PrepSameWrongFalsely : Prop := prepSameRow.holds Try.pinned (OpenSpec.ofChange prepSameWrong)

/-- 'toponymlaw12.PrepShort': WHATEVER THE INPUT: true; the input reads as it did. -/
def prepShortSpec : ChangeSpec := { name := "prepShort", fn := fun _ => fun
  | [d1, d2] => { results := [.lit (.bool true)], args := [d1, d2] }
  | _ => none }
def prepShortRow : OpenClaim := { program := "ytbffakgmlgimeaa", sum := "5b7173429a1a192ea4d73aa46cc4fcb568a9c037822e0ba3b5a95a07cc16119e", func := "toponym/toponymlaw12.PrepShort", spec := "prepShort", unfollowed := true, recurses := true, apart := false }
def PrepShortSaid : Prop := prepShortRow.holds Try.pinned (OpenSpec.ofChange prepShortSpec)

/-- ITS FALSE NEIGHBOUR: 'it returns false'. Refute it at one input. -/
def prepShortWrong : ChangeSpec := { name := "prepShort", fn := fun _ => fun
  | [d1, d2] => { results := [.lit (.bool false)], args := [d1, d2] }
  | _ => none }
def PrepShortWrongFalsely : Prop := prepShortRow.holds Try.pinned (OpenSpec.ofChange prepShortWrong)

/- THE SECOND FORM. 'bulk': how many values and letters a reading holds, each counted each time it is reached (what is shared counts as often as it is met; a slice's spare places count too). A statement '..UptoSaid' is the law's where the arguments, and the package variables that the reading takes, are together of bulk at most 1048576: NARROWER than '..Said'. Prove '..Said' where nothing that the law and all that it calls make is longer than what came in: it says more and counts as full. Else prove '..UptoSaid'. A law counts once. -/
mutual
def uptoBulk {H : Type} : DataW H → Nat
  | .lit (.string bytes) => bytes.length + 1
  | .lit _ => 1
  | .nil => 1
  | .ptr d => uptoBulk d + 1
  | .slice elems spare => uptoBulkAll elems + uptoBulkAll spare + 1
  | .agg parts => uptoBulkAll parts + 1
  | .iface _ d => uptoBulk d + 1
  | .map entries => uptoBulkEntries entries + 1
  | .held _ => 1
def uptoBulkAll {H : Type} : List (DataW H) → Nat
  | [] => 0
  | d :: r => uptoBulk d + uptoBulkAll r
def uptoBulkEntries {H : Type} : List (Lit × DataW H) → Nat
  | [] => 0
  | x :: r => uptoBulkEntry x + uptoBulkEntries r
def uptoBulkEntry {H : Type} : Lit × DataW H → Nat
  | (.string bytes, d) => bytes.length + uptoBulk d + 1
  | (_, d) => uptoBulk d + 1
 end
def uptoSmall : (H : Type) → List (DataW H) → Bool := fun _ ds => decide (uptoBulkAll ds ≤ 1048576)
def OpenSpec.upto (s : _root_.Go.ChangeSpec) : _root_.Go.OpenSpec := { _root_.Go.OpenSpec.ofChange s with cond := some uptoSmall }

/-- 'toponymlaw12.PrepAgain', WHERE WHAT IT READS IS OF BULK AT MOST 1048576: true; the input reads as it did. -/
def prepAgainUptoRow : OpenClaim := { program := "ytbffakgmlgimeaa", sum := "5b7173429a1a192ea4d73aa46cc4fcb568a9c037822e0ba3b5a95a07cc16119e", func := "toponym/toponymlaw12.PrepAgain", spec := "prepAgain", unfollowed := true, recurses := true, apart := false, narrowed := true }
def PrepAgainUptoSaid : Prop := prepAgainUptoRow.holds Try.pinned (OpenSpec.upto prepAgainSpec)

/-- 'toponymlaw12.PrepSame', WHERE WHAT IT READS IS OF BULK AT MOST 1048576: true; the input reads as it did. -/
def prepSameUptoRow : OpenClaim := { program := "ytbffakgmlgimeaa", sum := "5b7173429a1a192ea4d73aa46cc4fcb568a9c037822e0ba3b5a95a07cc16119e", func := "toponym/toponymlaw12.PrepSame", spec := "prepSame", unfollowed := true, recurses := true, apart := false, narrowed := true }
def PrepSameUptoSaid : Prop := prepSameUptoRow.holds Try.pinned (OpenSpec.upto prepSameSpec)

/-- 'toponymlaw12.PrepShort', WHERE WHAT IT READS IS OF BULK AT MOST 1048576: true; the input reads as it did. -/
def prepShortUptoRow : OpenClaim := { program := "ytbffakgmlgimeaa", sum := "5b7173429a1a192ea4d73aa46cc4fcb568a9c037822e0ba3b5a95a07cc16119e", func := "toponym/toponymlaw12.PrepShort", spec := "prepShort", unfollowed := true, recurses := true, apart := false, narrowed := true }
def PrepShortUptoSaid : Prop := prepShortUptoRow.holds Try.pinned (OpenSpec.upto prepShortSpec)

end Rows
end Go.Proofs.Ytbffakgmlgimeaa
