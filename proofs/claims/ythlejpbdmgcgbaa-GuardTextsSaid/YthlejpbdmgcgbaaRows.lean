/-
  No cell of these rows narrows 'for every input' (looked for: loops, veiled, ifaces, maps, wideKeys, modest, calm, conditions, laid).
  DERIVED. THE GIVEN ROWS OF THIS SEAT. 4 by the template 'for every input the law returns true; each argument reads behind the call as it read before'; 0 by the template 'total and deterministic' (their statements: YthlejpbdmgcgbaaTotals.lean).
  GIVEN WITH THE SEED: the statements are not yours to turn. If you find one false, say at which input.
  Laid BY PROGRAM, IN A SANDBOX (cutbox-rows.mjs): the forced cells as the released guide's own fill.sh prints them over the translation 4f33bb04c9a8edd9… (all of the seat's roots in one cut). By AI agents, Wed Nov 11 2026. No macro, syntax, notation, axiom, sorry.
-/
import Derived.Test.YthlejpbdmgcgbaaChecked
import GoSem.Claim
import GoSem.ClaimJoined
import GoSem.ClaimMapViews
import Derived.JoinedTies
import Derived.KernelRfl
namespace Go.Proofs.Ythlejpbdmgcgbaa
/- THE CELL 'sum', in the pinned program and in every row, IS THE sha256 OF THE DUMP (.gsa) THAT YthlejpbdmgcgbaaProg.lean LOADS. Nothing in Lean hashes anything: it is a label: what it is worth is what the hold of that sum in a sandbox is worth. -/
noncomputable def Try.pinned : Pinned := { name := "ythlejpbdmgcgbaa", sum := "4f33bb04c9a8edd989736205bc4eb95a582dd88d974dd36aee07cfc8e18d3571", checked := Try.checked }
namespace Rows
def none {H : Type} : Left H := { results := [], args := [] }

/-- 'toponymlaw10.GuardChecks': WHATEVER THE INPUT: true; the input reads as it did. -/
def guardChecksSpec : ChangeSpec := { name := "guardChecks", fn := fun _ => fun
  | [d] => { results := [.lit (.bool true)], args := [d] }
  | _ => none }
def guardChecksRow : OpenClaim := { program := "ythlejpbdmgcgbaa", sum := "4f33bb04c9a8edd989736205bc4eb95a582dd88d974dd36aee07cfc8e18d3571", func := "toponym/toponymlaw10.GuardChecks", spec := "guardChecks", unfollowed := true, recurses := true, apart := false }
def GuardChecksSaid : Prop := guardChecksRow.holds Try.pinned (OpenSpec.ofChange guardChecksSpec)

/-- ITS FALSE NEIGHBOUR: 'it returns false'. Refute it at one input. -/
def guardChecksWrong : ChangeSpec := { name := "guardChecks", fn := fun _ => fun
  | [d] => { results := [.lit (.bool false)], args := [d] }
  | _ => none }
def GuardChecksWrongFalsely : Prop := guardChecksRow.holds Try.pinned (OpenSpec.ofChange guardChecksWrong)

/-- 'toponymlaw10.GuardTexts': WHATEVER THE INPUT: true; the input reads as it did. -/
def guardTextsSpec : ChangeSpec := { name := "guardTexts", fn := fun _ => fun
  | [d1, d2] => { results := [.lit (.bool true)], args := [d1, d2] }
  | _ => none }
def guardTextsRow : OpenClaim := { program := "ythlejpbdmgcgbaa", sum := "4f33bb04c9a8edd989736205bc4eb95a582dd88d974dd36aee07cfc8e18d3571", func := "toponym/toponymlaw10.GuardTexts", spec := "guardTexts", unfollowed := true, recurses := true, apart := false }
def GuardTextsSaid : Prop := guardTextsRow.holds Try.pinned (OpenSpec.ofChange guardTextsSpec)

/-- ITS FALSE NEIGHBOUR: 'it returns false'. Refute it at one input. -/
def guardTextsWrong : ChangeSpec := { name := "guardTexts", fn := fun _ => fun
  | [d1, d2] => { results := [.lit (.bool false)], args := [d1, d2] }
  | _ => none }
def GuardTextsWrongFalsely : Prop := guardTextsRow.holds Try.pinned (OpenSpec.ofChange guardTextsWrong)

/-- 'toponymlaw10.GuardParts': WHATEVER THE INPUT: true; the input reads as it did. -/
def guardPartsSpec : ChangeSpec := { name := "guardParts", fn := fun _ => fun
  | [d1, d2] => { results := [.lit (.bool true)], args := [d1, d2] }
  | _ => none }
def guardPartsRow : OpenClaim := { program := "ythlejpbdmgcgbaa", sum := "4f33bb04c9a8edd989736205bc4eb95a582dd88d974dd36aee07cfc8e18d3571", func := "toponym/toponymlaw10.GuardParts", spec := "guardParts", unfollowed := true, recurses := true, apart := false }
def GuardPartsSaid : Prop := guardPartsRow.holds Try.pinned (OpenSpec.ofChange guardPartsSpec)

/-- ITS FALSE NEIGHBOUR: 'it returns false'. Refute it at one input. -/
def guardPartsWrong : ChangeSpec := { name := "guardParts", fn := fun _ => fun
  | [d1, d2] => { results := [.lit (.bool false)], args := [d1, d2] }
  | _ => none }
def GuardPartsWrongFalsely : Prop := guardPartsRow.holds Try.pinned (OpenSpec.ofChange guardPartsWrong)

/-- 'toponymlaw10.GuardKinds': WHATEVER THE INPUT: true; the input reads as it did. -/
def guardKindsSpec : ChangeSpec := { name := "guardKinds", fn := fun _ => fun
  | [d1, d2] => { results := [.lit (.bool true)], args := [d1, d2] }
  | _ => none }
def guardKindsRow : OpenClaim := { program := "ythlejpbdmgcgbaa", sum := "4f33bb04c9a8edd989736205bc4eb95a582dd88d974dd36aee07cfc8e18d3571", func := "toponym/toponymlaw10.GuardKinds", spec := "guardKinds", unfollowed := true, recurses := true, apart := false }
def GuardKindsSaid : Prop := guardKindsRow.holds Try.pinned (OpenSpec.ofChange guardKindsSpec)

/-- ITS FALSE NEIGHBOUR: 'it returns false'. Refute it at one input. -/
def guardKindsWrong : ChangeSpec := { name := "guardKinds", fn := fun _ => fun
  | [d1, d2] => { results := [.lit (.bool false)], args := [d1, d2] }
  | _ => none }
def GuardKindsWrongFalsely : Prop := guardKindsRow.holds Try.pinned (OpenSpec.ofChange guardKindsWrong)

/- THE SECOND FORM. 'bulk': how many values and letters a reading holds, each counted each time it is reached (what is shared counts as often as it is met; a slice's spare places count too). A statement '..UptoSaid' is the law's where the arguments, and the package variables that the reading takes, are together of bulk at most 1048576: NARROWER than '..Said'. Prove '..Said' where nothing that the law and all that it calls make is longer than what came in: it says more and counts as full. Else prove '..UptoSaid'. A law counts once. -/
mutual
def uptoBulk {H : Type} : DataW H → Nat
  | .lit (.string bytes) => bytes.length + 1
  | .lit _ => 1
  | .nil => 1
  | .ptr d => uptoBulk d + 1
  | .slice elems spare => uptoBulkAll elems + uptoBulkAll spare + 1
  | .agg parts => uptoBulkAll parts + 1
  | .iface _ d => uptoBulk d + 1
  | .map entries => uptoBulkEntries entries + 1
  | .held _ => 1
def uptoBulkAll {H : Type} : List (DataW H) → Nat
  | [] => 0
  | d :: r => uptoBulk d + uptoBulkAll r
def uptoBulkEntries {H : Type} : List (Lit × DataW H) → Nat
  | [] => 0
  | x :: r => uptoBulkEntry x + uptoBulkEntries r
def uptoBulkEntry {H : Type} : Lit × DataW H → Nat
  | (.string bytes, d) => bytes.length + uptoBulk d + 1
  | (_, d) => uptoBulk d + 1
 end
def uptoSmall : (H : Type) → List (DataW H) → Bool := fun _ ds => decide (uptoBulkAll ds ≤ 1048576)
def OpenSpec.upto (s : _root_.Go.ChangeSpec) : _root_.Go.OpenSpec := { _root_.Go.OpenSpec.ofChange s with cond := some uptoSmall }

/-- 'toponymlaw10.GuardChecks', WHERE WHAT IT READS IS OF BULK AT MOST 1048576: true; the input reads as it did. -/
def guardChecksUptoRow : OpenClaim := { program := "ythlejpbdmgcgbaa", sum := "4f33bb04c9a8edd989736205bc4eb95a582dd88d974dd36aee07cfc8e18d3571", func := "toponym/toponymlaw10.GuardChecks", spec := "guardChecks", unfollowed := true, recurses := true, apart := false, narrowed := true }
def GuardChecksUptoSaid : Prop := guardChecksUptoRow.holds Try.pinned (OpenSpec.upto guardChecksSpec)

/-- 'toponymlaw10.GuardTexts', WHERE WHAT IT READS IS OF BULK AT MOST 1048576: true; the input reads as it did. -/
def guardTextsUptoRow : OpenClaim := { program := "ythlejpbdmgcgbaa", sum := "4f33bb04c9a8edd989736205bc4eb95a582dd88d974dd36aee07cfc8e18d3571", func := "toponym/toponymlaw10.GuardTexts", spec := "guardTexts", unfollowed := true, recurses := true, apart := false, narrowed := true }
def GuardTextsUptoSaid : Prop := guardTextsUptoRow.holds Try.pinned (OpenSpec.upto guardTextsSpec)

/-- 'toponymlaw10.GuardParts', WHERE WHAT IT READS IS OF BULK AT MOST 1048576: true; the input reads as it did. -/
def guardPartsUptoRow : OpenClaim := { program := "ythlejpbdmgcgbaa", sum := "4f33bb04c9a8edd989736205bc4eb95a582dd88d974dd36aee07cfc8e18d3571", func := "toponym/toponymlaw10.GuardParts", spec := "guardParts", unfollowed := true, recurses := true, apart := false, narrowed := true }
def GuardPartsUptoSaid : Prop := guardPartsUptoRow.holds Try.pinned (OpenSpec.upto guardPartsSpec)

/-- 'toponymlaw10.GuardKinds', WHERE WHAT IT READS IS OF BULK AT MOST 1048576: true; the input reads as it did. -/
def guardKindsUptoRow : OpenClaim := { program := "ythlejpbdmgcgbaa", sum := "4f33bb04c9a8edd989736205bc4eb95a582dd88d974dd36aee07cfc8e18d3571", func := "toponym/toponymlaw10.GuardKinds", spec := "guardKinds", unfollowed := true, recurses := true, apart := false, narrowed := true }
def GuardKindsUptoSaid : Prop := guardKindsUptoRow.holds Try.pinned (OpenSpec.upto guardKindsSpec)

end Rows
end Go.Proofs.Ythlejpbdmgcgbaa
