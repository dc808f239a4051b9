/-
  No cell of these rows narrows 'for every input' (looked for: loops, veiled, ifaces, maps, wideKeys, modest, calm, conditions, laid).
  DERIVED. THE GIVEN ROWS OF THIS SEAT. 4 by the template 'for every input the law returns true; each argument reads behind the call as it read before'; 0 by the template 'total and deterministic' (their statements: YtkmimbchapcccaaTotals.lean).
  GIVEN WITH THE SEED: the statements are not yours to turn. If you find one false, say at which input.
  Laid BY PROGRAM, IN A SANDBOX (cutbox-rows.mjs): the forced cells as the released guide's own fill.sh prints them over the translation bbf8c813debf0c86… (all of the seat's roots in one cut). By AI agents, Wed Nov 11 2026. No macro, syntax, notation, axiom, sorry.
-/
import Derived.Test.YtkmimbchapcccaaChecked
import GoSem.Claim
import GoSem.ClaimJoined
import GoSem.ClaimMapViews
import Derived.JoinedTies
import Derived.KernelRfl
namespace Go.Proofs.Ytkmimbchapcccaa
/- THE CELL 'sum', in the pinned program and in every row, IS THE sha256 OF THE DUMP (.gsa) THAT YtkmimbchapcccaaProg.lean LOADS. Nothing in Lean hashes anything: it is a label: what it is worth is what the hold of that sum in a sandbox is worth. -/
noncomputable def Try.pinned : Pinned := { name := "ytkmimbchapcccaa", sum := "bbf8c813debf0c868cf16c7d12b6bfc330f683e4f6ed4003aa77db502848b082", checked := Try.checked }
namespace Rows
def none {H : Type} : Left H := { results := [], args := [] }

/-- 'toponymlaw07.ComposePairs': WHATEVER THE INPUT: true; the input reads as it did. -/
def composePairsSpec : ChangeSpec := { name := "composePairs", fn := fun _ => fun
  | [d1, d2] => { results := [.lit (.bool true)], args := [d1, d2] }
  | _ => none }
def composePairsRow : OpenClaim := { program := "ytkmimbchapcccaa", sum := "bbf8c813debf0c868cf16c7d12b6bfc330f683e4f6ed4003aa77db502848b082", func := "toponym/toponymlaw07.ComposePairs", spec := "composePairs", apart := false }
def ComposePairsSaid : Prop := composePairsRow.holds Try.pinned (OpenSpec.ofChange composePairsSpec)

/-- ITS FALSE NEIGHBOUR: 'it returns false'. Refute it at one input. -/
def composePairsWrong : ChangeSpec := { name := "composePairs", fn := fun _ => fun
  | [d1, d2] => { results := [.lit (.bool false)], args := [d1, d2] }
  | _ => none }
def ComposePairsWrongFalsely : Prop := composePairsRow.holds Try.pinned (OpenSpec.ofChange composePairsWrong)

/-- 'toponymlaw07.ComposeAll': WHATEVER THE INPUT: true; the input reads as it did. -/
def composeAllSpec : ChangeSpec := { name := "composeAll", fn := fun _ => fun
  | [d] => { results := [.lit (.bool true)], args := [d] }
  | _ => none }
def composeAllRow : OpenClaim := { program := "ytkmimbchapcccaa", sum := "bbf8c813debf0c868cf16c7d12b6bfc330f683e4f6ed4003aa77db502848b082", func := "toponym/toponymlaw07.ComposeAll", spec := "composeAll", apart := false }
def ComposeAllSaid : Prop := composeAllRow.holds Try.pinned (OpenSpec.ofChange composeAllSpec)

/-- ITS FALSE NEIGHBOUR: 'it returns false'. Refute it at one input. -/
def composeAllWrong : ChangeSpec := { name := "composeAll", fn := fun _ => fun
  | [d] => { results := [.lit (.bool false)], args := [d] }
  | _ => none }
def ComposeAllWrongFalsely : Prop := composeAllRow.holds Try.pinned (OpenSpec.ofChange composeAllWrong)

/-- 'toponymlaw07.ComposeTwo': WHATEVER THE INPUT: true; the input reads as it did. -/
def composeTwoSpec : ChangeSpec := { name := "composeTwo", fn := fun _ => fun
  | [d1, d2] => { results := [.lit (.bool true)], args := [d1, d2] }
  | _ => none }
def composeTwoRow : OpenClaim := { program := "ytkmimbchapcccaa", sum := "bbf8c813debf0c868cf16c7d12b6bfc330f683e4f6ed4003aa77db502848b082", func := "toponym/toponymlaw07.ComposeTwo", spec := "composeTwo", recurses := true, apart := false }
def ComposeTwoSaid : Prop := composeTwoRow.holds Try.pinned (OpenSpec.ofChange composeTwoSpec)

/-- ITS FALSE NEIGHBOUR: 'it returns false'. Refute it at one input. -/
def composeTwoWrong : ChangeSpec := { name := "composeTwo", fn := fun _ => fun
  | [d1, d2] => { results := [.lit (.bool false)], args := [d1, d2] }
  | _ => none }
def ComposeTwoWrongFalsely : Prop := composeTwoRow.holds Try.pinned (OpenSpec.ofChange composeTwoWrong)

/-- 'toponymlaw07.ComposeBack': WHATEVER THE INPUT: true; the input reads as it did. -/
def composeBackSpec : ChangeSpec := { name := "composeBack", fn := fun _ => fun
  | [d] => { results := [.lit (.bool true)], args := [d] }
  | _ => none }
def composeBackRow : OpenClaim := { program := "ytkmimbchapcccaa", sum := "bbf8c813debf0c868cf16c7d12b6bfc330f683e4f6ed4003aa77db502848b082", func := "toponym/toponymlaw07.ComposeBack", spec := "composeBack", recurses := true, apart := false }
def ComposeBackSaid : Prop := composeBackRow.holds Try.pinned (OpenSpec.ofChange composeBackSpec)

/-- ITS FALSE NEIGHBOUR: 'it returns false'. Refute it at one input. -/
def composeBackWrong : ChangeSpec := { name := "composeBack", fn := fun _ => fun
  | [d] => { results := [.lit (.bool false)], args := [d] }
  | _ => none }
def ComposeBackWrongFalsely : Prop := composeBackRow.holds Try.pinned (OpenSpec.ofChange composeBackWrong)

/- THE SECOND FORM. 'bulk': how many values and letters a reading holds, each counted each time it is reached (what is shared counts as often as it is met; a slice's spare places count too). A statement '..UptoSaid' is the law's where the arguments, and the package variables that the reading takes, are together of bulk at most 1048576: NARROWER than '..Said'. Prove '..Said' where nothing that the law and all that it calls make is longer than what came in: it says more and counts as full. Else prove '..UptoSaid'. A law counts once. -/
mutual
def uptoBulk {H : Type} : DataW H → Nat
  | .lit (.string bytes) => bytes.length + 1
  | .lit _ => 1
  | .nil => 1
  | .ptr d => uptoBulk d + 1
  | .slice elems spare => uptoBulkAll elems + uptoBulkAll spare + 1
  | .agg parts => uptoBulkAll parts + 1
  | .iface _ d => uptoBulk d + 1
  | .map entries => uptoBulkEntries entries + 1
  | .held _ => 1
def uptoBulkAll {H : Type} : List (DataW H) → Nat
  | [] => 0
  | d :: r => uptoBulk d + uptoBulkAll r
def uptoBulkEntries {H : Type} : List (Lit × DataW H) → Nat
  | [] => 0
  | x :: r => uptoBulkEntry x + uptoBulkEntries r
def uptoBulkEntry {H : Type} : Lit × DataW H → Nat
  | (.string bytes, d) => bytes.length + uptoBulk d + 1
  | (_, d) => uptoBulk d + 1
 end
def uptoSmall : (H : Type) → List (DataW H) → Bool := fun _ ds => decide (uptoBulkAll ds ≤ 1048576)
def OpenSpec.upto (s : _root_.Go.ChangeSpec) : _root_.Go.OpenSpec := { _root_.Go.OpenSpec.ofChange s with cond := some uptoSmall }

/-- 'toponymlaw07.ComposePairs', WHERE WHAT IT READS IS OF BULK AT MOST 1048576: true; the input reads as it did. -/
def composePairsUptoRow : OpenClaim := { program := "ytkmimbchapcccaa", sum := "bbf8c813debf0c868cf16c7d12b6bfc330f683e4f6ed4003aa77db502848b082", func := "toponym/toponymlaw07.ComposePairs", spec := "composePairs", apart := false, narrowed := true }
def ComposePairsUptoSaid : Prop := composePairsUptoRow.holds Try.pinned (OpenSpec.upto composePairsSpec)

/-- 'toponymlaw07.ComposeAll', WHERE WHAT IT READS IS OF BULK AT MOST 1048576: true; the input reads as it did. -/
def composeAllUptoRow : OpenClaim := { program := "ytkmimbchapcccaa", sum := "bbf8c813debf0c868cf16c7d12b6bfc330f683e4f6ed4003aa77db502848b082", func := "toponym/toponymlaw07.ComposeAll", spec := "composeAll", apart := false, narrowed := true }
def ComposeAllUptoSaid : Prop := composeAllUptoRow.holds Try.pinned (OpenSpec.upto composeAllSpec)

/-- 'toponymlaw07.ComposeTwo', WHERE WHAT IT READS IS OF BULK AT MOST 1048576: true; the input reads as it did. -/
def composeTwoUptoRow : OpenClaim := { program := "ytkmimbchapcccaa", sum := "bbf8c813debf0c868cf16c7d12b6bfc330f683e4f6ed4003aa77db502848b082", func := "toponym/toponymlaw07.ComposeTwo", spec := "composeTwo", recurses := true, apart := false, narrowed := true }
def ComposeTwoUptoSaid : Prop := composeTwoUptoRow.holds Try.pinned (OpenSpec.upto composeTwoSpec)

/-- 'toponymlaw07.ComposeBack', WHERE WHAT IT READS IS OF BULK AT MOST 1048576: true; the input reads as it did. -/
def composeBackUptoRow : OpenClaim := { program := "ytkmimbchapcccaa", sum := "bbf8c813debf0c868cf16c7d12b6bfc330f683e4f6ed4003aa77db502848b082", func := "toponym/toponymlaw07.ComposeBack", spec := "composeBack", recurses := true, apart := false, narrowed := true }
def ComposeBackUptoSaid : Prop := composeBackUptoRow.holds Try.pinned (OpenSpec.upto composeBackSpec)

end Rows
end Go.Proofs.Ytkmimbchapcccaa
