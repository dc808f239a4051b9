/-
  DERIVED. GIVEN WITH THE SEED: THE CARDS: each row of YtdgnekknmpfepaaGreatDoorRows.lean that lists a variable, with what it lists TIED to the program's text (the seventh form; the later family's looks); each row that meets fmt, with fmt's text TOLD by the authors' own Lean function (tested against real Go, not proved from fmt's source: count such statements apart). THE CARD IS WHAT COUNTS. Prove the row's statement (the work); the ties are given (YtdgnekknmpfepaaGreatDoorTie.lean); close each card by the builder's one call (the guide's Derived/Test/ToyasCard.lean, 'card_holds'). Laid BY PROGRAM, IN A SANDBOX (cutbox-door.mjs). By AI agents, Wed Nov 11 2026. No macro, syntax, notation, axiom, sorry.
-/
import Derived.Test.YtdgnekknmpfepaaGreatDoorRows
import GoSem.ClaimSeven
namespace Go.Proofs.YtdgnekknmpfepaaGreatDoor
namespace Rows

/-- THE TIED CARD OF 'toponymlaw19.SyntaxExact'. -/
def syntaxExactCard : Claim7 := { stood := { row := syntaxExactRow, standIns := [], harness := (true, "0a0308385e196f91ab35b0067b9a664be5698cffbc68360843a109e6b0e50e8f"), looks := true }, kinds := [], alts := [], laidByText := true, laidKinds := [.data, .data, .data, .data, .sentinel, .sentinel, .pinned], laidTests := true, laidLooks := .later }
def SyntaxExactCardSaid : Prop := Claim7.holds Tryz.pinned (.plain (OpenSpec.ofChange syntaxExactSpec)) syntaxExactCard

/-- THE TIED CARD OF 'toponymlaw19.SyntaxSmall'. -/
def syntaxSmallCard : Claim7 := { stood := { row := syntaxSmallRow, standIns := [], harness := (true, "0a0308385e196f91ab35b0067b9a664be5698cffbc68360843a109e6b0e50e8f"), looks := true }, kinds := [], alts := [], laidByText := true, laidKinds := [.data, .data, .data, .data, .sentinel, .sentinel, .pinned], laidTests := true, laidLooks := .later }
def SyntaxSmallCardSaid : Prop := Claim7.holds Tryz.pinned (.plain (OpenSpec.ofChange syntaxSmallSpec)) syntaxSmallCard

/-- THE TIED CARD OF 'toponymlaw19.SyntaxChecks'. -/
def syntaxChecksCard : Claim7 := { stood := { row := syntaxChecksRow, standIns := [], harness := (true, "0a0308385e196f91ab35b0067b9a664be5698cffbc68360843a109e6b0e50e8f"), looks := true }, kinds := [], alts := [], laidByText := true, laidKinds := [.data, .data, .data, .data, .sentinel, .sentinel, .pinned], laidTests := true, laidLooks := .later }
def SyntaxChecksCardSaid : Prop := Claim7.holds Tryz.pinned (.plain (OpenSpec.ofChange syntaxChecksSpec)) syntaxChecksCard

/-- THE TIED CARD OF 'toponymlaw19.SyntaxReads'. -/
def syntaxReadsCard : Claim7 := { stood := { row := syntaxReadsRow, standIns := [], harness := (true, "0a0308385e196f91ab35b0067b9a664be5698cffbc68360843a109e6b0e50e8f"), looks := true }, kinds := [], alts := [], laidByText := true, laidKinds := [.data, .data, .data, .data, .sentinel, .sentinel, .pinned], laidTests := true, laidLooks := .later }
def SyntaxReadsCardSaid : Prop := Claim7.holds Tryz.pinned (.plain (OpenSpec.ofChange syntaxReadsSpec)) syntaxReadsCard

/-- THE SECOND FORM's CARD OF 'toponymlaw19.SyntaxExact'. -/
def syntaxExactUptoCard : Claim7 := { stood := { row := syntaxExactUptoRow, standIns := [], harness := (true, "0a0308385e196f91ab35b0067b9a664be5698cffbc68360843a109e6b0e50e8f"), looks := true }, kinds := [], alts := [], laidByText := true, laidKinds := [.data, .data, .data, .data, .sentinel, .sentinel, .pinned], laidTests := true, laidLooks := .later }
def SyntaxExactUptoCardSaid : Prop := Claim7.holds Tryz.pinned (.plain (OpenSpec.upto syntaxExactSpec)) syntaxExactUptoCard

/-- THE SECOND FORM's CARD OF 'toponymlaw19.SyntaxSmall'. -/
def syntaxSmallUptoCard : Claim7 := { stood := { row := syntaxSmallUptoRow, standIns := [], harness := (true, "0a0308385e196f91ab35b0067b9a664be5698cffbc68360843a109e6b0e50e8f"), looks := true }, kinds := [], alts := [], laidByText := true, laidKinds := [.data, .data, .data, .data, .sentinel, .sentinel, .pinned], laidTests := true, laidLooks := .later }
def SyntaxSmallUptoCardSaid : Prop := Claim7.holds Tryz.pinned (.plain (OpenSpec.upto syntaxSmallSpec)) syntaxSmallUptoCard

/-- THE SECOND FORM's CARD OF 'toponymlaw19.SyntaxChecks'. -/
def syntaxChecksUptoCard : Claim7 := { stood := { row := syntaxChecksUptoRow, standIns := [], harness := (true, "0a0308385e196f91ab35b0067b9a664be5698cffbc68360843a109e6b0e50e8f"), looks := true }, kinds := [], alts := [], laidByText := true, laidKinds := [.data, .data, .data, .data, .sentinel, .sentinel, .pinned], laidTests := true, laidLooks := .later }
def SyntaxChecksUptoCardSaid : Prop := Claim7.holds Tryz.pinned (.plain (OpenSpec.upto syntaxChecksSpec)) syntaxChecksUptoCard

/-- THE SECOND FORM's CARD OF 'toponymlaw19.SyntaxReads'. -/
def syntaxReadsUptoCard : Claim7 := { stood := { row := syntaxReadsUptoRow, standIns := [], harness := (true, "0a0308385e196f91ab35b0067b9a664be5698cffbc68360843a109e6b0e50e8f"), looks := true }, kinds := [], alts := [], laidByText := true, laidKinds := [.data, .data, .data, .data, .sentinel, .sentinel, .pinned], laidTests := true, laidLooks := .later }
def SyntaxReadsUptoCardSaid : Prop := Claim7.holds Tryz.pinned (.plain (OpenSpec.upto syntaxReadsSpec)) syntaxReadsUptoCard
end Rows
end Go.Proofs.YtdgnekknmpfepaaGreatDoor
