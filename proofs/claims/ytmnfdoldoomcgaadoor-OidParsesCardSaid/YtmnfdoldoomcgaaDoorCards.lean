/-
  DERIVED. GIVEN WITH THE SEED: THE CARDS: each row of YtmnfdoldoomcgaaDoorRows.lean that lists a variable, with what it lists TIED to the program's text (the seventh form; the later family's looks); each row that meets fmt, with fmt's text TOLD by the authors' own Lean function (tested against real Go, not proved from fmt's source: count such statements apart). THE CARD IS WHAT COUNTS. Prove the row's statement (the work); the ties are given (YtmnfdoldoomcgaaDoorTie.lean); close each card by the builder's one call (the guide's Derived/Test/ToyasCard.lean, 'card_holds'). Laid BY PROGRAM, IN A SANDBOX (cutbox-door.mjs). By AI agents, Wed Nov 11 2026. No macro, syntax, notation, axiom, sorry.
-/
import Derived.Test.YtmnfdoldoomcgaaDoorRows
import GoSem.ClaimSeven
namespace Go.Proofs.YtmnfdoldoomcgaaDoor
namespace Rows

/-- THE TIED CARD OF 'toponymlaw17.OidChecks'. -/
def oidChecksCard : Claim7 := { stood := { row := oidChecksRow, standIns := [], harness := (true, "922ef8a904f52d3a985cdbefce3d778f4394a7c2f4574f738fce6e0bbc1402e9"), looks := true }, kinds := [], alts := [], laidByText := true, laidKinds := [.data, .data, .data, .data, .sentinel, .sentinel, .pinned], laidTests := true, laidLooks := .later }
def OidChecksCardSaid : Prop := Claim7.holds Tryd.pinned (.plain (OpenSpec.ofChange oidChecksSpec)) oidChecksCard

/-- THE TIED CARD OF 'toponymlaw17.OidParses'. -/
def oidParsesCard : Claim7 := { stood := { row := oidParsesRow, standIns := [], harness := (true, "922ef8a904f52d3a985cdbefce3d778f4394a7c2f4574f738fce6e0bbc1402e9"), looks := true }, kinds := [], alts := [], laidByText := true, laidKinds := [.data, .data, .data, .data, .sentinel, .sentinel, .pinned], laidTests := true, laidLooks := .later }
def OidParsesCardSaid : Prop := Claim7.holds Tryd.pinned (.plain (OpenSpec.ofChange oidParsesSpec)) oidParsesCard

/-- THE TIED CARD OF 'toponymlaw17.OidPairs'. -/
def oidPairsCard : Claim7 := { stood := { row := oidPairsRow, standIns := [], harness := (true, "922ef8a904f52d3a985cdbefce3d778f4394a7c2f4574f738fce6e0bbc1402e9"), looks := true }, kinds := [], alts := [], laidByText := true, laidKinds := [.data, .data, .data, .data, .sentinel, .sentinel, .pinned], laidTests := true, laidLooks := .later }
def OidPairsCardSaid : Prop := Claim7.holds Tryd.pinned (.plain (OpenSpec.ofChange oidPairsSpec)) oidPairsCard

/-- THE TIED CARD OF 'toponymlaw17.OidBack'. -/
def oidBackCard : Claim7 := { stood := { row := oidBackRow, standIns := [], harness := (true, "922ef8a904f52d3a985cdbefce3d778f4394a7c2f4574f738fce6e0bbc1402e9"), looks := true }, kinds := [], alts := [], laidByText := true, laidKinds := [.data, .data, .data, .data, .sentinel, .sentinel, .pinned], laidTests := true, laidLooks := .later }
def OidBackCardSaid : Prop := Claim7.holds Tryd.pinned (.plain (OpenSpec.ofChange oidBackSpec)) oidBackCard

/-- THE TIED CARD OF 'toponymlaw17.OidOrder'. -/
def oidOrderCard : Claim7 := { stood := { row := oidOrderRow, standIns := [], harness := (true, "922ef8a904f52d3a985cdbefce3d778f4394a7c2f4574f738fce6e0bbc1402e9"), looks := true }, kinds := [], alts := [], laidByText := true, laidKinds := [.data, .data, .data, .data, .sentinel, .sentinel, .pinned], laidTests := true, laidLooks := .later }
def OidOrderCardSaid : Prop := Claim7.holds Tryd.pinned (.plain (OpenSpec.ofChange oidOrderSpec)) oidOrderCard

/-- THE TIED CARD OF 'toponymlaw17.OidUnder'. -/
def oidUnderCard : Claim7 := { stood := { row := oidUnderRow, standIns := [], harness := (true, "922ef8a904f52d3a985cdbefce3d778f4394a7c2f4574f738fce6e0bbc1402e9"), looks := true }, kinds := [], alts := [], laidByText := true, laidKinds := [.data, .data, .data, .data, .sentinel, .sentinel, .pinned], laidTests := true, laidLooks := .later }
def OidUnderCardSaid : Prop := Claim7.holds Tryd.pinned (.plain (OpenSpec.ofChange oidUnderSpec)) oidUnderCard

/-- THE SECOND FORM's CARD OF 'toponymlaw17.OidChecks'. -/
def oidChecksUptoCard : Claim7 := { stood := { row := oidChecksUptoRow, standIns := [], harness := (true, "922ef8a904f52d3a985cdbefce3d778f4394a7c2f4574f738fce6e0bbc1402e9"), looks := true }, kinds := [], alts := [], laidByText := true, laidKinds := [.data, .data, .data, .data, .sentinel, .sentinel, .pinned], laidTests := true, laidLooks := .later }
def OidChecksUptoCardSaid : Prop := Claim7.holds Tryd.pinned (.plain (OpenSpec.upto oidChecksSpec)) oidChecksUptoCard

/-- THE SECOND FORM's CARD OF 'toponymlaw17.OidParses'. -/
def oidParsesUptoCard : Claim7 := { stood := { row := oidParsesUptoRow, standIns := [], harness := (true, "922ef8a904f52d3a985cdbefce3d778f4394a7c2f4574f738fce6e0bbc1402e9"), looks := true }, kinds := [], alts := [], laidByText := true, laidKinds := [.data, .data, .data, .data, .sentinel, .sentinel, .pinned], laidTests := true, laidLooks := .later }
def OidParsesUptoCardSaid : Prop := Claim7.holds Tryd.pinned (.plain (OpenSpec.upto oidParsesSpec)) oidParsesUptoCard

/-- THE SECOND FORM's CARD OF 'toponymlaw17.OidPairs'. -/
def oidPairsUptoCard : Claim7 := { stood := { row := oidPairsUptoRow, standIns := [], harness := (true, "922ef8a904f52d3a985cdbefce3d778f4394a7c2f4574f738fce6e0bbc1402e9"), looks := true }, kinds := [], alts := [], laidByText := true, laidKinds := [.data, .data, .data, .data, .sentinel, .sentinel, .pinned], laidTests := true, laidLooks := .later }
def OidPairsUptoCardSaid : Prop := Claim7.holds Tryd.pinned (.plain (OpenSpec.upto oidPairsSpec)) oidPairsUptoCard

/-- THE SECOND FORM's CARD OF 'toponymlaw17.OidBack'. -/
def oidBackUptoCard : Claim7 := { stood := { row := oidBackUptoRow, standIns := [], harness := (true, "922ef8a904f52d3a985cdbefce3d778f4394a7c2f4574f738fce6e0bbc1402e9"), looks := true }, kinds := [], alts := [], laidByText := true, laidKinds := [.data, .data, .data, .data, .sentinel, .sentinel, .pinned], laidTests := true, laidLooks := .later }
def OidBackUptoCardSaid : Prop := Claim7.holds Tryd.pinned (.plain (OpenSpec.upto oidBackSpec)) oidBackUptoCard

/-- THE SECOND FORM's CARD OF 'toponymlaw17.OidOrder'. -/
def oidOrderUptoCard : Claim7 := { stood := { row := oidOrderUptoRow, standIns := [], harness := (true, "922ef8a904f52d3a985cdbefce3d778f4394a7c2f4574f738fce6e0bbc1402e9"), looks := true }, kinds := [], alts := [], laidByText := true, laidKinds := [.data, .data, .data, .data, .sentinel, .sentinel, .pinned], laidTests := true, laidLooks := .later }
def OidOrderUptoCardSaid : Prop := Claim7.holds Tryd.pinned (.plain (OpenSpec.upto oidOrderSpec)) oidOrderUptoCard

/-- THE SECOND FORM's CARD OF 'toponymlaw17.OidUnder'. -/
def oidUnderUptoCard : Claim7 := { stood := { row := oidUnderUptoRow, standIns := [], harness := (true, "922ef8a904f52d3a985cdbefce3d778f4394a7c2f4574f738fce6e0bbc1402e9"), looks := true }, kinds := [], alts := [], laidByText := true, laidKinds := [.data, .data, .data, .data, .sentinel, .sentinel, .pinned], laidTests := true, laidLooks := .later }
def OidUnderUptoCardSaid : Prop := Claim7.holds Tryd.pinned (.plain (OpenSpec.upto oidUnderSpec)) oidUnderUptoCard
end Rows
end Go.Proofs.YtmnfdoldoomcgaaDoor
