/-
  DERIVED. GIVEN WITH THE SEED: THE CARDS: each row of YtbhcmgakiojpeaaDoorRows.lean that lists a variable, with what it lists TIED to the program's text (the seventh form; the later family's looks); each row that meets fmt, with fmt's text TOLD by the authors' own Lean function (tested against real Go, not proved from fmt's source: count such statements apart). THE CARD IS WHAT COUNTS. Prove the row's statement (the work); the ties are given (YtbhcmgakiojpeaaDoorTie.lean); close each card by the builder's one call (the guide's Derived/Test/ToyasCard.lean, 'card_holds'). Laid BY PROGRAM, IN A SANDBOX (cutbox-door.mjs). By AI agents, Wed Nov 11 2026. No macro, syntax, notation, axiom, sorry.
-/
import Derived.Test.YtbhcmgakiojpeaaDoorRows
import GoSem.ClaimSeven
namespace Go.Proofs.YtbhcmgakiojpeaaDoor
namespace Rows

/-- THE TIED CARD OF 'bowlinetop.TopGarnetLists'. -/
def topGarnetListsCard : Claim7 := { stood := { row := topGarnetListsRow, standIns := [], harness := (true, "b1a64b558a347d07f0c683027c0cbce5275382503e4ddbaabdd0b1dd1f044879"), looks := false }, kinds := [], alts := [], laidByText := true, laidKinds := [.funcs], laidTests := true, laidLooks := .later }
def TopGarnetListsCardSaid : Prop := Claim7.holds Tryd.pinned (.plain (OpenSpec.ofChange topGarnetListsSpec)) topGarnetListsCard

/-- THE SECOND FORM's CARD OF 'bowlinetop.TopGarnetLists'. -/
def topGarnetListsUptoCard : Claim7 := { stood := { row := topGarnetListsUptoRow, standIns := [], harness := (true, "b1a64b558a347d07f0c683027c0cbce5275382503e4ddbaabdd0b1dd1f044879"), looks := false }, kinds := [], alts := [], laidByText := true, laidKinds := [.funcs], laidTests := true, laidLooks := .later }
def TopGarnetListsUptoCardSaid : Prop := Claim7.holds Tryd.pinned (.plain (OpenSpec.upto topGarnetListsSpec)) topGarnetListsUptoCard
end Rows
end Go.Proofs.YtbhcmgakiojpeaaDoor
