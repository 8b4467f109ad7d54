/-
  DERIVED. GIVEN WITH THE SEED: THE CARDS: each row of YtmbjmjbjdgjonaaGreatDoorRows.lean that lists a variable, with what it lists TIED to the program's text (the seventh form; the later family's looks); each row that meets fmt, with fmt's text TOLD by the authors' own Lean function (tested against real Go, not proved from fmt's source: count such statements apart). THE CARD IS WHAT COUNTS. Prove the row's statement (the work); the ties are given (YtmbjmjbjdgjonaaGreatDoorTie.lean); close each card by the builder's one call (the guide's Derived/Test/ToyasCard.lean, 'card_holds'). Laid BY PROGRAM, IN A SANDBOX (cutbox-door.mjs). By AI agents, Wed Nov 11 2026. No macro, syntax, notation, axiom, sorry.
-/
import Derived.Test.YtmbjmjbjdgjonaaGreatDoorRows
import GoSem.ClaimSeven
namespace Go.Proofs.YtmbjmjbjdgjonaaGreatDoor
namespace Rows

/-- THE TIED CARD OF 'kinespheretop.TopOrigins'. -/
def topOriginsCard : Claim7 := { stood := { row := topOriginsRow, standIns := [], harness := (true, "1defb4a59090b4c00c94cbb2106e7a020e9919768793c2fd9508aae66d76c103"), looks := false }, kinds := [], alts := [], laidByText := true, laidKinds := [.data, .data], laidTests := true, laidLooks := .later }
def TopOriginsCardSaid : Prop := Claim7.holds Tryz.pinned (.plain (OpenSpec.ofChange topOriginsSpec)) topOriginsCard

/-- THE SECOND FORM's CARD OF 'kinespheretop.TopOrigins'. -/
def topOriginsUptoCard : Claim7 := { stood := { row := topOriginsUptoRow, standIns := [], harness := (true, "1defb4a59090b4c00c94cbb2106e7a020e9919768793c2fd9508aae66d76c103"), looks := false }, kinds := [], alts := [], laidByText := true, laidKinds := [.data, .data], laidTests := true, laidLooks := .later }
def TopOriginsUptoCardSaid : Prop := Claim7.holds Tryz.pinned (.plain (OpenSpec.upto topOriginsSpec)) topOriginsUptoCard
end Rows
end Go.Proofs.YtmbjmjbjdgjonaaGreatDoor
