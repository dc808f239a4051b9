/-
  No cell of these rows narrows 'for every input' (looked for: loops, veiled, ifaces, maps, wideKeys, modest, calm, conditions, laid).
  DERIVED. THE GIVEN ROWS OF THIS SEAT. 5 by the template 'for every input the law returns true; each argument reads behind the call as it read before'; 0 by the template 'total and deterministic' (their statements: YtpihglokjcbjkaaTotals.lean).
  GIVEN WITH THE SEED: the statements are not yours to turn. If you find one false, say at which input.
  Laid BY PROGRAM, IN A SANDBOX (cutbox-rows.mjs): the forced cells as the released guide's own fill.sh prints them over the translation fea44cca3753609e… (all of the seat's roots in one cut). By AI agents, Wed Nov 11 2026. No macro, syntax, notation, axiom, sorry.
-/
import Derived.Test.YtpihglokjcbjkaaChecked
import GoSem.Claim
import GoSem.ClaimJoined
import GoSem.ClaimMapViews
import Derived.JoinedTies
import Derived.KernelRfl
namespace Go.Proofs.Ytpihglokjcbjkaa
/- THE CELL 'sum', in the pinned program and in every row, IS THE sha256 OF THE DUMP (.gsa) THAT YtpihglokjcbjkaaProg.lean LOADS. Nothing in Lean hashes anything: it is a label: what it is worth is what the hold of that sum in a sandbox is worth. -/
noncomputable def Try.pinned : Pinned := { name := "ytpihglokjcbjkaa", sum := "fea44cca3753609e1d5c574c2c2769e99e3e5724c0393f9579cb67da9450e3cd", checked := Try.checked }
namespace Rows
def none {H : Type} : Left H := { results := [], args := [] }

/-- 'toponymlaw08.NfkcRunes': WHATEVER THE INPUT: true; the input reads as it did. -/
def nfkcRunesSpec : ChangeSpec := { name := "nfkcRunes", fn := fun _ => fun
  | [d1, d2] => { results := [.lit (.bool true)], args := [d1, d2] }
  | _ => none }
def nfkcRunesRow : OpenClaim := { program := "ytpihglokjcbjkaa", sum := "fea44cca3753609e1d5c574c2c2769e99e3e5724c0393f9579cb67da9450e3cd", func := "toponym/toponymlaw08.NfkcRunes", spec := "nfkcRunes", unfollowed := true, recurses := true, apart := false }
def NfkcRunesSaid : Prop := nfkcRunesRow.holds Try.pinned (OpenSpec.ofChange nfkcRunesSpec)

/-- ITS FALSE NEIGHBOUR: 'it returns false'. Refute it at one input. -/
def nfkcRunesWrong : ChangeSpec := { name := "nfkcRunes", fn := fun _ => fun
  | [d1, d2] => { results := [.lit (.bool false)], args := [d1, d2] }
  | _ => none }
def NfkcRunesWrongFalsely : Prop := nfkcRunesRow.holds Try.pinned (OpenSpec.ofChange nfkcRunesWrong)

/-- 'toponymlaw08.NfkcTexts': WHATEVER THE INPUT: true; the input reads as it did. -/
def nfkcTextsSpec : ChangeSpec := { name := "nfkcTexts", fn := fun _ => fun
  | [d1, d2, d3] => { results := [.lit (.bool true)], args := [d1, d2, d3] }
  | _ => none }
def nfkcTextsRow : OpenClaim := { program := "ytpihglokjcbjkaa", sum := "fea44cca3753609e1d5c574c2c2769e99e3e5724c0393f9579cb67da9450e3cd", func := "toponym/toponymlaw08.NfkcTexts", spec := "nfkcTexts", unfollowed := true, recurses := true, apart := false }
def NfkcTextsSaid : Prop := nfkcTextsRow.holds Try.pinned (OpenSpec.ofChange nfkcTextsSpec)

/-- ITS FALSE NEIGHBOUR: 'it returns false'. Refute it at one input. -/
def nfkcTextsWrong : ChangeSpec := { name := "nfkcTexts", fn := fun _ => fun
  | [d1, d2, d3] => { results := [.lit (.bool false)], args := [d1, d2, d3] }
  | _ => none }
def NfkcTextsWrongFalsely : Prop := nfkcTextsRow.holds Try.pinned (OpenSpec.ofChange nfkcTextsWrong)

/-- 'toponymlaw08.NfkcStable': WHATEVER THE INPUT: true; the input reads as it did. -/
def nfkcStableSpec : ChangeSpec := { name := "nfkcStable", fn := fun _ => fun
  | [d1, d2] => { results := [.lit (.bool true)], args := [d1, d2] }
  | _ => none }
def nfkcStableRow : OpenClaim := { program := "ytpihglokjcbjkaa", sum := "fea44cca3753609e1d5c574c2c2769e99e3e5724c0393f9579cb67da9450e3cd", func := "toponym/toponymlaw08.NfkcStable", spec := "nfkcStable", unfollowed := true, recurses := true, apart := false }
def NfkcStableSaid : Prop := nfkcStableRow.holds Try.pinned (OpenSpec.ofChange nfkcStableSpec)

/-- ITS FALSE NEIGHBOUR: 'it returns false'. Refute it at one input. -/
def nfkcStableWrong : ChangeSpec := { name := "nfkcStable", fn := fun _ => fun
  | [d1, d2] => { results := [.lit (.bool false)], args := [d1, d2] }
  | _ => none }
def NfkcStableWrongFalsely : Prop := nfkcStableRow.holds Try.pinned (OpenSpec.ofChange nfkcStableWrong)

/-- 'toponymlaw08.NfkcSame': WHATEVER THE INPUT: true; the input reads as it did. -/
def nfkcSameSpec : ChangeSpec := { name := "nfkcSame", fn := fun _ => fun
  | [d1, d2] => { results := [.lit (.bool true)], args := [d1, d2] }
  | _ => none }
def nfkcSameRow : OpenClaim := { program := "ytpihglokjcbjkaa", sum := "fea44cca3753609e1d5c574c2c2769e99e3e5724c0393f9579cb67da9450e3cd", func := "toponym/toponymlaw08.NfkcSame", spec := "nfkcSame", unfollowed := true, recurses := true, apart := false }
def NfkcSameSaid : Prop := nfkcSameRow.holds Try.pinned (OpenSpec.ofChange nfkcSameSpec)

/-- ITS FALSE NEIGHBOUR: 'it returns false'. Refute it at one input. -/
def nfkcSameWrong : ChangeSpec := { name := "nfkcSame", fn := fun _ => fun
  | [d1, d2] => { results := [.lit (.bool false)], args := [d1, d2] }
  | _ => none }
def NfkcSameWrongFalsely : Prop := nfkcSameRow.holds Try.pinned (OpenSpec.ofChange nfkcSameWrong)

/-- 'toponymlaw08.NfkcShort': WHATEVER THE INPUT: true; the input reads as it did. -/
def nfkcShortSpec : ChangeSpec := { name := "nfkcShort", fn := fun _ => fun
  | [d1, d2] => { results := [.lit (.bool true)], args := [d1, d2] }
  | _ => none }
def nfkcShortRow : OpenClaim := { program := "ytpihglokjcbjkaa", sum := "fea44cca3753609e1d5c574c2c2769e99e3e5724c0393f9579cb67da9450e3cd", func := "toponym/toponymlaw08.NfkcShort", spec := "nfkcShort", unfollowed := true, recurses := true, apart := false }
def NfkcShortSaid : Prop := nfkcShortRow.holds Try.pinned (OpenSpec.ofChange nfkcShortSpec)

/-- ITS FALSE NEIGHBOUR: 'it returns false'. Refute it at one input. -/
def nfkcShortWrong : ChangeSpec := { name := "nfkcShort", fn := fun _ => fun
  | [d1, d2] => { results := [.lit (.bool false)], args := [d1, d2] }
  | _ => none }
def NfkcShortWrongFalsely : Prop := nfkcShortRow.holds Try.pinned (OpenSpec.ofChange nfkcShortWrong)

/- THE SECOND FORM. 'bulk': how many values and letters a reading holds, each counted each time it is reached (what is shared counts as often as it is met; a slice's spare places count too). A statement '..UptoSaid' is the law's where the arguments, and the package variables that the reading takes, are together of bulk at most 1048576: NARROWER than '..Said'. Prove '..Said' where nothing that the law and all that it calls make is longer than what came in: it says more and counts as full. Else prove '..UptoSaid'. A law counts once. -/
mutual
def uptoBulk {H : Type} : DataW H → Nat
  | .lit (.string bytes) => bytes.length + 1
  | .lit _ => 1
  | .nil => 1
  | .ptr d => uptoBulk d + 1
  | .slice elems spare => uptoBulkAll elems + uptoBulkAll spare + 1
  | .agg parts => uptoBulkAll parts + 1
  | .iface _ d => uptoBulk d + 1
  | .map entries => uptoBulkEntries entries + 1
  | .held _ => 1
def uptoBulkAll {H : Type} : List (DataW H) → Nat
  | [] => 0
  | d :: r => uptoBulk d + uptoBulkAll r
def uptoBulkEntries {H : Type} : List (Lit × DataW H) → Nat
  | [] => 0
  | x :: r => uptoBulkEntry x + uptoBulkEntries r
def uptoBulkEntry {H : Type} : Lit × DataW H → Nat
  | (.string bytes, d) => bytes.length + uptoBulk d + 1
  | (_, d) => uptoBulk d + 1
 end
def uptoSmall : (H : Type) → List (DataW H) → Bool := fun _ ds => decide (uptoBulkAll ds ≤ 1048576)
def OpenSpec.upto (s : _root_.Go.ChangeSpec) : _root_.Go.OpenSpec := { _root_.Go.OpenSpec.ofChange s with cond := some uptoSmall }

/-- 'toponymlaw08.NfkcRunes', WHERE WHAT IT READS IS OF BULK AT MOST 1048576: true; the input reads as it did. -/
def nfkcRunesUptoRow : OpenClaim := { program := "ytpihglokjcbjkaa", sum := "fea44cca3753609e1d5c574c2c2769e99e3e5724c0393f9579cb67da9450e3cd", func := "toponym/toponymlaw08.NfkcRunes", spec := "nfkcRunes", unfollowed := true, recurses := true, apart := false, narrowed := true }
def NfkcRunesUptoSaid : Prop := nfkcRunesUptoRow.holds Try.pinned (OpenSpec.upto nfkcRunesSpec)

/-- 'toponymlaw08.NfkcTexts', WHERE WHAT IT READS IS OF BULK AT MOST 1048576: true; the input reads as it did. -/
def nfkcTextsUptoRow : OpenClaim := { program := "ytpihglokjcbjkaa", sum := "fea44cca3753609e1d5c574c2c2769e99e3e5724c0393f9579cb67da9450e3cd", func := "toponym/toponymlaw08.NfkcTexts", spec := "nfkcTexts", unfollowed := true, recurses := true, apart := false, narrowed := true }
def NfkcTextsUptoSaid : Prop := nfkcTextsUptoRow.holds Try.pinned (OpenSpec.upto nfkcTextsSpec)

/-- 'toponymlaw08.NfkcStable', WHERE WHAT IT READS IS OF BULK AT MOST 1048576: true; the input reads as it did. -/
def nfkcStableUptoRow : OpenClaim := { program := "ytpihglokjcbjkaa", sum := "fea44cca3753609e1d5c574c2c2769e99e3e5724c0393f9579cb67da9450e3cd", func := "toponym/toponymlaw08.NfkcStable", spec := "nfkcStable", unfollowed := true, recurses := true, apart := false, narrowed := true }
def NfkcStableUptoSaid : Prop := nfkcStableUptoRow.holds Try.pinned (OpenSpec.upto nfkcStableSpec)

/-- 'toponymlaw08.NfkcSame', WHERE WHAT IT READS IS OF BULK AT MOST 1048576: true; the input reads as it did. -/
def nfkcSameUptoRow : OpenClaim := { program := "ytpihglokjcbjkaa", sum := "fea44cca3753609e1d5c574c2c2769e99e3e5724c0393f9579cb67da9450e3cd", func := "toponym/toponymlaw08.NfkcSame", spec := "nfkcSame", unfollowed := true, recurses := true, apart := false, narrowed := true }
def NfkcSameUptoSaid : Prop := nfkcSameUptoRow.holds Try.pinned (OpenSpec.upto nfkcSameSpec)

/-- 'toponymlaw08.NfkcShort', WHERE WHAT IT READS IS OF BULK AT MOST 1048576: true; the input reads as it did. -/
def nfkcShortUptoRow : OpenClaim := { program := "ytpihglokjcbjkaa", sum := "fea44cca3753609e1d5c574c2c2769e99e3e5724c0393f9579cb67da9450e3cd", func := "toponym/toponymlaw08.NfkcShort", spec := "nfkcShort", unfollowed := true, recurses := true, apart := false, narrowed := true }
def NfkcShortUptoSaid : Prop := nfkcShortUptoRow.holds Try.pinned (OpenSpec.upto nfkcShortSpec)

end Rows
end Go.Proofs.Ytpihglokjcbjkaa
