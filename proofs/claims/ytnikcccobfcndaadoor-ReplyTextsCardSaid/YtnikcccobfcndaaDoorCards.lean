/-
  DERIVED. GIVEN WITH THE SEED: THE CARDS: each row of YtnikcccobfcndaaDoorRows.lean that lists a variable, with what it lists TIED to the program's text (the seventh form; the later family's looks); each row that meets fmt, with fmt's text TOLD by the authors' own Lean function (tested against real Go, not proved from fmt's source: count such statements apart). THE CARD IS WHAT COUNTS. Prove the row's statement (the work); the ties are given (YtnikcccobfcndaaDoorTie.lean); close each card by the builder's one call (the guide's Derived/Test/ToyasCard.lean, 'card_holds'). Laid BY PROGRAM, IN A SANDBOX (cutbox-door.mjs). By AI agents, Wed Nov 11 2026. No macro, syntax, notation, axiom, sorry.
-/
import Derived.Test.YtnikcccobfcndaaDoorRows
import GoSem.ClaimSeven
namespace Go.Proofs.YtnikcccobfcndaaDoor
namespace Rows

/-- THE TIED CARD OF 'sumplaw26.ReplyTexts'. -/
def replyTextsCard : Claim7 := { stood := { row := replyTextsRow, standIns := [], harness := (true, "9181d635de54b98d9d91e628e659dc53c1f3c363cf039f89ad6cb947bc2bc035"), looks := false }, kinds := [], alts := [], laidByText := true, laidKinds := [.data, .data, .data], laidTests := true, laidLooks := .later }
def ReplyTextsCardSaid : Prop := Claim7.holds Tryd.pinned (.plain (OpenSpec.ofChange replyTextsSpec)) replyTextsCard

/-- THE TIED CARD OF 'sumplaw26.ReplyPlain'. -/
def replyPlainCard : Claim7 := { stood := { row := replyPlainRow, standIns := [], harness := (true, "9181d635de54b98d9d91e628e659dc53c1f3c363cf039f89ad6cb947bc2bc035"), looks := false }, kinds := [], alts := [], laidByText := true, laidKinds := [.data, .data, .data], laidTests := true, laidLooks := .later }
def ReplyPlainCardSaid : Prop := Claim7.holds Tryd.pinned (.plain (OpenSpec.ofChange replyPlainSpec)) replyPlainCard

/-- THE SECOND FORM's CARD OF 'sumplaw26.ReplyTexts'. -/
def replyTextsUptoCard : Claim7 := { stood := { row := replyTextsUptoRow, standIns := [], harness := (true, "9181d635de54b98d9d91e628e659dc53c1f3c363cf039f89ad6cb947bc2bc035"), looks := false }, kinds := [], alts := [], laidByText := true, laidKinds := [.data, .data, .data], laidTests := true, laidLooks := .later }
def ReplyTextsUptoCardSaid : Prop := Claim7.holds Tryd.pinned (.plain (OpenSpec.upto replyTextsSpec)) replyTextsUptoCard

/-- THE SECOND FORM's CARD OF 'sumplaw26.ReplyPlain'. -/
def replyPlainUptoCard : Claim7 := { stood := { row := replyPlainUptoRow, standIns := [], harness := (true, "9181d635de54b98d9d91e628e659dc53c1f3c363cf039f89ad6cb947bc2bc035"), looks := false }, kinds := [], alts := [], laidByText := true, laidKinds := [.data, .data, .data], laidTests := true, laidLooks := .later }
def ReplyPlainUptoCardSaid : Prop := Claim7.holds Tryd.pinned (.plain (OpenSpec.upto replyPlainSpec)) replyPlainUptoCard
end Rows
end Go.Proofs.YtnikcccobfcndaaDoor
