/-
  DERIVED. GIVEN WITH THE SEED: THE CARDS: each row of YtlojhiacaleokaaDoorRows.lean that lists a variable, with what it lists TIED to the program's text (the seventh form; the later family's looks); each row that meets fmt, with fmt's text TOLD by the authors' own Lean function (tested against real Go, not proved from fmt's source: count such statements apart). THE CARD IS WHAT COUNTS. Prove the row's statement (the work); the ties are given (YtlojhiacaleokaaDoorTie.lean); close each card by the builder's one call (the guide's Derived/Test/ToyasCard.lean, 'card_holds'). Laid BY PROGRAM, IN A SANDBOX (cutbox-door.mjs). By AI agents, Wed Nov 11 2026. No macro, syntax, notation, axiom, sorry.
-/
import Derived.Test.YtlojhiacaleokaaDoorRows
import GoSem.ClaimSeven
namespace Go.Proofs.YtlojhiacaleokaaDoor
namespace Rows

/-- THE TIED CARD OF 'sumplaw12.PallocOnce'. -/
def pallocOnceCard : Claim7 := { stood := { row := pallocOnceRow, standIns := [], harness := (true, "050a21cd307ecbf4b279ca1b02f0a3754b1737a7b5b054d8aa55880ddfc89657"), looks := false }, kinds := [], alts := [], laidByText := true, laidKinds := [.data], laidTests := true, laidLooks := .later }
def PallocOnceCardSaid : Prop := Claim7.holds Tryd.pinned (.plain (OpenSpec.ofChange pallocOnceSpec)) pallocOnceCard

/-- THE TIED CARD OF 'sumplaw12.PallocDoes'. -/
def pallocDoesCard : Claim7 := { stood := { row := pallocDoesRow, standIns := [], harness := (true, "050a21cd307ecbf4b279ca1b02f0a3754b1737a7b5b054d8aa55880ddfc89657"), looks := false }, kinds := [], alts := [], laidByText := true, laidKinds := [.data], laidTests := true, laidLooks := .later }
def PallocDoesCardSaid : Prop := Claim7.holds Tryd.pinned (.plain (OpenSpec.ofChange pallocDoesSpec)) pallocDoesCard

/-- THE TIED CARD OF 'sumplaw12.PallocAll'. -/
def pallocAllCard : Claim7 := { stood := { row := pallocAllRow, standIns := [], harness := (true, "050a21cd307ecbf4b279ca1b02f0a3754b1737a7b5b054d8aa55880ddfc89657"), looks := false }, kinds := [], alts := [], laidByText := true, laidKinds := [.data], laidTests := true, laidLooks := .later }
def PallocAllCardSaid : Prop := Claim7.holds Tryd.pinned (.plain (OpenSpec.ofChange pallocAllSpec)) pallocAllCard

/-- THE TIED CARD OF 'sumplaw12.PallocRuns'. -/
def pallocRunsCard : Claim7 := { stood := { row := pallocRunsRow, standIns := [], harness := (true, "050a21cd307ecbf4b279ca1b02f0a3754b1737a7b5b054d8aa55880ddfc89657"), looks := false }, kinds := [], alts := [], laidByText := true, laidKinds := [.data], laidTests := true, laidLooks := .later }
def PallocRunsCardSaid : Prop := Claim7.holds Tryd.pinned (.plain (OpenSpec.ofChange pallocRunsSpec)) pallocRunsCard

/-- THE SECOND FORM's CARD OF 'sumplaw12.PallocOnce'. -/
def pallocOnceUptoCard : Claim7 := { stood := { row := pallocOnceUptoRow, standIns := [], harness := (true, "050a21cd307ecbf4b279ca1b02f0a3754b1737a7b5b054d8aa55880ddfc89657"), looks := false }, kinds := [], alts := [], laidByText := true, laidKinds := [.data], laidTests := true, laidLooks := .later }
def PallocOnceUptoCardSaid : Prop := Claim7.holds Tryd.pinned (.plain (OpenSpec.upto pallocOnceSpec)) pallocOnceUptoCard

/-- THE SECOND FORM's CARD OF 'sumplaw12.PallocDoes'. -/
def pallocDoesUptoCard : Claim7 := { stood := { row := pallocDoesUptoRow, standIns := [], harness := (true, "050a21cd307ecbf4b279ca1b02f0a3754b1737a7b5b054d8aa55880ddfc89657"), looks := false }, kinds := [], alts := [], laidByText := true, laidKinds := [.data], laidTests := true, laidLooks := .later }
def PallocDoesUptoCardSaid : Prop := Claim7.holds Tryd.pinned (.plain (OpenSpec.upto pallocDoesSpec)) pallocDoesUptoCard

/-- THE SECOND FORM's CARD OF 'sumplaw12.PallocAll'. -/
def pallocAllUptoCard : Claim7 := { stood := { row := pallocAllUptoRow, standIns := [], harness := (true, "050a21cd307ecbf4b279ca1b02f0a3754b1737a7b5b054d8aa55880ddfc89657"), looks := false }, kinds := [], alts := [], laidByText := true, laidKinds := [.data], laidTests := true, laidLooks := .later }
def PallocAllUptoCardSaid : Prop := Claim7.holds Tryd.pinned (.plain (OpenSpec.upto pallocAllSpec)) pallocAllUptoCard

/-- THE SECOND FORM's CARD OF 'sumplaw12.PallocRuns'. -/
def pallocRunsUptoCard : Claim7 := { stood := { row := pallocRunsUptoRow, standIns := [], harness := (true, "050a21cd307ecbf4b279ca1b02f0a3754b1737a7b5b054d8aa55880ddfc89657"), looks := false }, kinds := [], alts := [], laidByText := true, laidKinds := [.data], laidTests := true, laidLooks := .later }
def PallocRunsUptoCardSaid : Prop := Claim7.holds Tryd.pinned (.plain (OpenSpec.upto pallocRunsSpec)) pallocRunsUptoCard
end Rows
end Go.Proofs.YtlojhiacaleokaaDoor
