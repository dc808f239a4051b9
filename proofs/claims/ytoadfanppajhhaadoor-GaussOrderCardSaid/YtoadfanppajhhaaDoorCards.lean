/-
  DERIVED. GIVEN WITH THE SEED: THE CARDS: each row of YtoadfanppajhhaaDoorRows.lean that lists a variable, with what it lists TIED to the program's text (the seventh form; the later family's looks); each row that meets fmt, with fmt's text TOLD by the authors' own Lean function (tested against real Go, not proved from fmt's source: count such statements apart). THE CARD IS WHAT COUNTS. Prove the row's statement (the work); the ties are given (YtoadfanppajhhaaDoorTie.lean); close each card by the builder's one call (the guide's Derived/Test/ToyasCard.lean, 'card_holds'). Laid BY PROGRAM, IN A SANDBOX (cutbox-door.mjs). By AI agents, Wed Nov 11 2026. No macro, syntax, notation, axiom, sorry.
-/
import Derived.Test.YtoadfanppajhhaaDoorRows
import GoSem.ClaimSeven
namespace Go.Proofs.YtoadfanppajhhaaDoor
namespace Rows

/-- THE TIED CARD OF 'toponymlaw14.GaussShows'. -/
def gaussShowsCard : Claim7 := { stood := { row := gaussShowsRow, standIns := [], harness := (true, "c40d050f1fe53ba08ac32828bd9cef7db037c15f959569180bf8bd60523c8616"), looks := true }, kinds := [], alts := [], laidByText := true, laidKinds := [.data, .data, .data, .sentinel, .sentinel], laidTests := true, laidLooks := .later }
def GaussShowsCardSaid : Prop := Claim7.holds Tryd.pinned (.plain (OpenSpec.ofChange gaussShowsSpec)) gaussShowsCard

/-- THE TIED CARD OF 'toponymlaw14.GaussParses'. -/
def gaussParsesCard : Claim7 := { stood := { row := gaussParsesRow, standIns := [], harness := (true, "c40d050f1fe53ba08ac32828bd9cef7db037c15f959569180bf8bd60523c8616"), looks := true }, kinds := [], alts := [], laidByText := true, laidKinds := [.data, .data, .data, .sentinel, .sentinel], laidTests := true, laidLooks := .later }
def GaussParsesCardSaid : Prop := Claim7.holds Tryd.pinned (.plain (OpenSpec.ofChange gaussParsesSpec)) gaussParsesCard

/-- THE TIED CARD OF 'toponymlaw14.GaussPairs'. -/
def gaussPairsCard : Claim7 := { stood := { row := gaussPairsRow, standIns := [], harness := (true, "c40d050f1fe53ba08ac32828bd9cef7db037c15f959569180bf8bd60523c8616"), looks := true }, kinds := [], alts := [], laidByText := true, laidKinds := [.data, .data, .data, .sentinel, .sentinel], laidTests := true, laidLooks := .later }
def GaussPairsCardSaid : Prop := Claim7.holds Tryd.pinned (.plain (OpenSpec.ofChange gaussPairsSpec)) gaussPairsCard

/-- THE TIED CARD OF 'toponymlaw14.GaussBack'. -/
def gaussBackCard : Claim7 := { stood := { row := gaussBackRow, standIns := [], harness := (true, "c40d050f1fe53ba08ac32828bd9cef7db037c15f959569180bf8bd60523c8616"), looks := true }, kinds := [], alts := [], laidByText := true, laidKinds := [.data, .data, .data, .sentinel, .sentinel], laidTests := true, laidLooks := .later }
def GaussBackCardSaid : Prop := Claim7.holds Tryd.pinned (.plain (OpenSpec.ofChange gaussBackSpec)) gaussBackCard

/-- THE TIED CARD OF 'toponymlaw14.GaussTurns'. -/
def gaussTurnsCard : Claim7 := { stood := { row := gaussTurnsRow, standIns := [], harness := (true, "c40d050f1fe53ba08ac32828bd9cef7db037c15f959569180bf8bd60523c8616"), looks := true }, kinds := [], alts := [], laidByText := true, laidKinds := [.data, .data, .data, .sentinel, .sentinel], laidTests := true, laidLooks := .later }
def GaussTurnsCardSaid : Prop := Claim7.holds Tryd.pinned (.plain (OpenSpec.ofChange gaussTurnsSpec)) gaussTurnsCard

/-- THE TIED CARD OF 'toponymlaw14.GaussOrder'. -/
def gaussOrderCard : Claim7 := { stood := { row := gaussOrderRow, standIns := [], harness := (true, "c40d050f1fe53ba08ac32828bd9cef7db037c15f959569180bf8bd60523c8616"), looks := true }, kinds := [], alts := [], laidByText := true, laidKinds := [.data, .data, .data, .sentinel, .sentinel], laidTests := true, laidLooks := .later }
def GaussOrderCardSaid : Prop := Claim7.holds Tryd.pinned (.plain (OpenSpec.ofChange gaussOrderSpec)) gaussOrderCard

/-- THE SECOND FORM's CARD OF 'toponymlaw14.GaussShows'. -/
def gaussShowsUptoCard : Claim7 := { stood := { row := gaussShowsUptoRow, standIns := [], harness := (true, "c40d050f1fe53ba08ac32828bd9cef7db037c15f959569180bf8bd60523c8616"), looks := true }, kinds := [], alts := [], laidByText := true, laidKinds := [.data, .data, .data, .sentinel, .sentinel], laidTests := true, laidLooks := .later }
def GaussShowsUptoCardSaid : Prop := Claim7.holds Tryd.pinned (.plain (OpenSpec.upto gaussShowsSpec)) gaussShowsUptoCard

/-- THE SECOND FORM's CARD OF 'toponymlaw14.GaussParses'. -/
def gaussParsesUptoCard : Claim7 := { stood := { row := gaussParsesUptoRow, standIns := [], harness := (true, "c40d050f1fe53ba08ac32828bd9cef7db037c15f959569180bf8bd60523c8616"), looks := true }, kinds := [], alts := [], laidByText := true, laidKinds := [.data, .data, .data, .sentinel, .sentinel], laidTests := true, laidLooks := .later }
def GaussParsesUptoCardSaid : Prop := Claim7.holds Tryd.pinned (.plain (OpenSpec.upto gaussParsesSpec)) gaussParsesUptoCard

/-- THE SECOND FORM's CARD OF 'toponymlaw14.GaussPairs'. -/
def gaussPairsUptoCard : Claim7 := { stood := { row := gaussPairsUptoRow, standIns := [], harness := (true, "c40d050f1fe53ba08ac32828bd9cef7db037c15f959569180bf8bd60523c8616"), looks := true }, kinds := [], alts := [], laidByText := true, laidKinds := [.data, .data, .data, .sentinel, .sentinel], laidTests := true, laidLooks := .later }
def GaussPairsUptoCardSaid : Prop := Claim7.holds Tryd.pinned (.plain (OpenSpec.upto gaussPairsSpec)) gaussPairsUptoCard

/-- THE SECOND FORM's CARD OF 'toponymlaw14.GaussBack'. -/
def gaussBackUptoCard : Claim7 := { stood := { row := gaussBackUptoRow, standIns := [], harness := (true, "c40d050f1fe53ba08ac32828bd9cef7db037c15f959569180bf8bd60523c8616"), looks := true }, kinds := [], alts := [], laidByText := true, laidKinds := [.data, .data, .data, .sentinel, .sentinel], laidTests := true, laidLooks := .later }
def GaussBackUptoCardSaid : Prop := Claim7.holds Tryd.pinned (.plain (OpenSpec.upto gaussBackSpec)) gaussBackUptoCard

/-- THE SECOND FORM's CARD OF 'toponymlaw14.GaussTurns'. -/
def gaussTurnsUptoCard : Claim7 := { stood := { row := gaussTurnsUptoRow, standIns := [], harness := (true, "c40d050f1fe53ba08ac32828bd9cef7db037c15f959569180bf8bd60523c8616"), looks := true }, kinds := [], alts := [], laidByText := true, laidKinds := [.data, .data, .data, .sentinel, .sentinel], laidTests := true, laidLooks := .later }
def GaussTurnsUptoCardSaid : Prop := Claim7.holds Tryd.pinned (.plain (OpenSpec.upto gaussTurnsSpec)) gaussTurnsUptoCard

/-- THE SECOND FORM's CARD OF 'toponymlaw14.GaussOrder'. -/
def gaussOrderUptoCard : Claim7 := { stood := { row := gaussOrderUptoRow, standIns := [], harness := (true, "c40d050f1fe53ba08ac32828bd9cef7db037c15f959569180bf8bd60523c8616"), looks := true }, kinds := [], alts := [], laidByText := true, laidKinds := [.data, .data, .data, .sentinel, .sentinel], laidTests := true, laidLooks := .later }
def GaussOrderUptoCardSaid : Prop := Claim7.holds Tryd.pinned (.plain (OpenSpec.upto gaussOrderSpec)) gaussOrderUptoCard
end Rows
end Go.Proofs.YtoadfanppajhhaaDoor
