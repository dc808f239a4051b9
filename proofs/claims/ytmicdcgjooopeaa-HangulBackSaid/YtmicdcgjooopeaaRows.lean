/-
  No cell of these rows narrows 'for every input' (looked for: loops, veiled, ifaces, maps, wideKeys, modest, calm, conditions, laid).
  DERIVED. THE GIVEN ROWS OF THIS SEAT. 5 by the template 'for every input the law returns true; each argument reads behind the call as it read before'; 0 by the template 'total and deterministic' (their statements: YtmicdcgjooopeaaTotals.lean).
  GIVEN WITH THE SEED: the statements are not yours to turn. If you find one false, say at which input.
  Laid BY PROGRAM, IN A SANDBOX (cutbox-rows.mjs): the forced cells as the released guide's own fill.sh prints them over the translation 2ef987206f24c29a… (all of the seat's roots in one cut). By AI agents, Wed Nov 11 2026. No macro, syntax, notation, axiom, sorry.
-/
import Derived.Test.YtmicdcgjooopeaaChecked
import GoSem.Claim
import GoSem.ClaimJoined
import GoSem.ClaimMapViews
import Derived.JoinedTies
import Derived.KernelRfl
namespace Go.Proofs.Ytmicdcgjooopeaa
/- THE CELL 'sum', in the pinned program and in every row, IS THE sha256 OF THE DUMP (.gsa) THAT YtmicdcgjooopeaaProg.lean LOADS. Nothing in Lean hashes anything: it is a label: what it is worth is what the hold of that sum in a sandbox is worth. -/
noncomputable def Try.pinned : Pinned := { name := "ytmicdcgjooopeaa", sum := "2ef987206f24c29aa57e0043b19028bb82a1b98021dcf88cb77ee8fdbd1f5f69", checked := Try.checked }
namespace Rows
def none {H : Type} : Left H := { results := [], args := [] }

/-- 'toponymlaw04.HangulParts': WHATEVER THE INPUT: true; the input reads as it did. -/
def hangulPartsSpec : ChangeSpec := { name := "hangulParts", fn := fun _ => fun
  | [d] => { results := [.lit (.bool true)], args := [d] }
  | _ => none }
def hangulPartsRow : OpenClaim := { program := "ytmicdcgjooopeaa", sum := "2ef987206f24c29aa57e0043b19028bb82a1b98021dcf88cb77ee8fdbd1f5f69", func := "toponym/toponymlaw04.HangulParts", spec := "hangulParts", apart := false }
def HangulPartsSaid : Prop := hangulPartsRow.holds Try.pinned (OpenSpec.ofChange hangulPartsSpec)

/-- ITS FALSE NEIGHBOUR: 'it returns false'. Refute it at one input. -/
def hangulPartsWrong : ChangeSpec := { name := "hangulParts", fn := fun _ => fun
  | [d] => { results := [.lit (.bool false)], args := [d] }
  | _ => none }
def HangulPartsWrongFalsely : Prop := hangulPartsRow.holds Try.pinned (OpenSpec.ofChange hangulPartsWrong)

/-- 'toponymlaw04.HangulJoins': WHATEVER THE INPUT: true; the input reads as it did. -/
def hangulJoinsSpec : ChangeSpec := { name := "hangulJoins", fn := fun _ => fun
  | [d1, d2] => { results := [.lit (.bool true)], args := [d1, d2] }
  | _ => none }
def hangulJoinsRow : OpenClaim := { program := "ytmicdcgjooopeaa", sum := "2ef987206f24c29aa57e0043b19028bb82a1b98021dcf88cb77ee8fdbd1f5f69", func := "toponym/toponymlaw04.HangulJoins", spec := "hangulJoins", apart := false }
def HangulJoinsSaid : Prop := hangulJoinsRow.holds Try.pinned (OpenSpec.ofChange hangulJoinsSpec)

/-- ITS FALSE NEIGHBOUR: 'it returns false'. Refute it at one input. -/
def hangulJoinsWrong : ChangeSpec := { name := "hangulJoins", fn := fun _ => fun
  | [d1, d2] => { results := [.lit (.bool false)], args := [d1, d2] }
  | _ => none }
def HangulJoinsWrongFalsely : Prop := hangulJoinsRow.holds Try.pinned (OpenSpec.ofChange hangulJoinsWrong)

/-- 'toponymlaw04.HangulWholes': WHATEVER THE INPUT: true; the input reads as it did. -/
def hangulWholesSpec : ChangeSpec := { name := "hangulWholes", fn := fun _ => fun
  | [d] => { results := [.lit (.bool true)], args := [d] }
  | _ => none }
def hangulWholesRow : OpenClaim := { program := "ytmicdcgjooopeaa", sum := "2ef987206f24c29aa57e0043b19028bb82a1b98021dcf88cb77ee8fdbd1f5f69", func := "toponym/toponymlaw04.HangulWholes", spec := "hangulWholes", apart := false }
def HangulWholesSaid : Prop := hangulWholesRow.holds Try.pinned (OpenSpec.ofChange hangulWholesSpec)

/-- ITS FALSE NEIGHBOUR: 'it returns false'. Refute it at one input. -/
def hangulWholesWrong : ChangeSpec := { name := "hangulWholes", fn := fun _ => fun
  | [d] => { results := [.lit (.bool false)], args := [d] }
  | _ => none }
def HangulWholesWrongFalsely : Prop := hangulWholesRow.holds Try.pinned (OpenSpec.ofChange hangulWholesWrong)

/-- 'toponymlaw04.HangulBack': WHATEVER THE INPUT: true; the input reads as it did. -/
def hangulBackSpec : ChangeSpec := { name := "hangulBack", fn := fun _ => fun
  | [d1, d2] => { results := [.lit (.bool true)], args := [d1, d2] }
  | _ => none }
def hangulBackRow : OpenClaim := { program := "ytmicdcgjooopeaa", sum := "2ef987206f24c29aa57e0043b19028bb82a1b98021dcf88cb77ee8fdbd1f5f69", func := "toponym/toponymlaw04.HangulBack", spec := "hangulBack", apart := false }
def HangulBackSaid : Prop := hangulBackRow.holds Try.pinned (OpenSpec.ofChange hangulBackSpec)

/-- ITS FALSE NEIGHBOUR: 'it returns false'. Refute it at one input. -/
def hangulBackWrong : ChangeSpec := { name := "hangulBack", fn := fun _ => fun
  | [d1, d2] => { results := [.lit (.bool false)], args := [d1, d2] }
  | _ => none }
def HangulBackWrongFalsely : Prop := hangulBackRow.holds Try.pinned (OpenSpec.ofChange hangulBackWrong)

/-- 'toponymlaw04.HangulWhole': WHATEVER THE INPUT: true; the input reads as it did. -/
def hangulWholeSpec : ChangeSpec := { name := "hangulWhole", fn := fun _ => fun
  | [d] => { results := [.lit (.bool true)], args := [d] }
  | _ => none }
def hangulWholeRow : OpenClaim := { program := "ytmicdcgjooopeaa", sum := "2ef987206f24c29aa57e0043b19028bb82a1b98021dcf88cb77ee8fdbd1f5f69", func := "toponym/toponymlaw04.HangulWhole", spec := "hangulWhole", apart := false }
def HangulWholeSaid : Prop := hangulWholeRow.holds Try.pinned (OpenSpec.ofChange hangulWholeSpec)

/-- ITS FALSE NEIGHBOUR: 'it returns false'. Refute it at one input. -/
def hangulWholeWrong : ChangeSpec := { name := "hangulWhole", fn := fun _ => fun
  | [d] => { results := [.lit (.bool false)], args := [d] }
  | _ => none }
def HangulWholeWrongFalsely : Prop := hangulWholeRow.holds Try.pinned (OpenSpec.ofChange hangulWholeWrong)

/- THE SECOND FORM. 'bulk': how many values and letters a reading holds, each counted each time it is reached (what is shared counts as often as it is met; a slice's spare places count too). A statement '..UptoSaid' is the law's where the arguments, and the package variables that the reading takes, are together of bulk at most 1048576: NARROWER than '..Said'. Prove '..Said' where nothing that the law and all that it calls make is longer than what came in: it says more and counts as full. Else prove '..UptoSaid'. A law counts once. -/
mutual
def uptoBulk {H : Type} : DataW H → Nat
  | .lit (.string bytes) => bytes.length + 1
  | .lit _ => 1
  | .nil => 1
  | .ptr d => uptoBulk d + 1
  | .slice elems spare => uptoBulkAll elems + uptoBulkAll spare + 1
  | .agg parts => uptoBulkAll parts + 1
  | .iface _ d => uptoBulk d + 1
  | .map entries => uptoBulkEntries entries + 1
  | .held _ => 1
def uptoBulkAll {H : Type} : List (DataW H) → Nat
  | [] => 0
  | d :: r => uptoBulk d + uptoBulkAll r
def uptoBulkEntries {H : Type} : List (Lit × DataW H) → Nat
  | [] => 0
  | x :: r => uptoBulkEntry x + uptoBulkEntries r
def uptoBulkEntry {H : Type} : Lit × DataW H → Nat
  | (.string bytes, d) => bytes.length + uptoBulk d + 1
  | (_, d) => uptoBulk d + 1
 end
def uptoSmall : (H : Type) → List (DataW H) → Bool := fun _ ds => decide (uptoBulkAll ds ≤ 1048576)
def OpenSpec.upto (s : _root_.Go.ChangeSpec) : _root_.Go.OpenSpec := { _root_.Go.OpenSpec.ofChange s with cond := some uptoSmall }

/-- 'toponymlaw04.HangulParts', WHERE WHAT IT READS IS OF BULK AT MOST 1048576: true; the input reads as it did. -/
def hangulPartsUptoRow : OpenClaim := { program := "ytmicdcgjooopeaa", sum := "2ef987206f24c29aa57e0043b19028bb82a1b98021dcf88cb77ee8fdbd1f5f69", func := "toponym/toponymlaw04.HangulParts", spec := "hangulParts", apart := false, narrowed := true }
def HangulPartsUptoSaid : Prop := hangulPartsUptoRow.holds Try.pinned (OpenSpec.upto hangulPartsSpec)

/-- 'toponymlaw04.HangulJoins', WHERE WHAT IT READS IS OF BULK AT MOST 1048576: true; the input reads as it did. -/
def hangulJoinsUptoRow : OpenClaim := { program := "ytmicdcgjooopeaa", sum := "2ef987206f24c29aa57e0043b19028bb82a1b98021dcf88cb77ee8fdbd1f5f69", func := "toponym/toponymlaw04.HangulJoins", spec := "hangulJoins", apart := false, narrowed := true }
def HangulJoinsUptoSaid : Prop := hangulJoinsUptoRow.holds Try.pinned (OpenSpec.upto hangulJoinsSpec)

/-- 'toponymlaw04.HangulWholes', WHERE WHAT IT READS IS OF BULK AT MOST 1048576: true; the input reads as it did. -/
def hangulWholesUptoRow : OpenClaim := { program := "ytmicdcgjooopeaa", sum := "2ef987206f24c29aa57e0043b19028bb82a1b98021dcf88cb77ee8fdbd1f5f69", func := "toponym/toponymlaw04.HangulWholes", spec := "hangulWholes", apart := false, narrowed := true }
def HangulWholesUptoSaid : Prop := hangulWholesUptoRow.holds Try.pinned (OpenSpec.upto hangulWholesSpec)

/-- 'toponymlaw04.HangulBack', WHERE WHAT IT READS IS OF BULK AT MOST 1048576: true; the input reads as it did. -/
def hangulBackUptoRow : OpenClaim := { program := "ytmicdcgjooopeaa", sum := "2ef987206f24c29aa57e0043b19028bb82a1b98021dcf88cb77ee8fdbd1f5f69", func := "toponym/toponymlaw04.HangulBack", spec := "hangulBack", apart := false, narrowed := true }
def HangulBackUptoSaid : Prop := hangulBackUptoRow.holds Try.pinned (OpenSpec.upto hangulBackSpec)

/-- 'toponymlaw04.HangulWhole', WHERE WHAT IT READS IS OF BULK AT MOST 1048576: true; the input reads as it did. -/
def hangulWholeUptoRow : OpenClaim := { program := "ytmicdcgjooopeaa", sum := "2ef987206f24c29aa57e0043b19028bb82a1b98021dcf88cb77ee8fdbd1f5f69", func := "toponym/toponymlaw04.HangulWhole", spec := "hangulWhole", apart := false, narrowed := true }
def HangulWholeUptoSaid : Prop := hangulWholeUptoRow.holds Try.pinned (OpenSpec.upto hangulWholeSpec)

end Rows
end Go.Proofs.Ytmicdcgjooopeaa
