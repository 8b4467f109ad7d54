/-
  DERIVED. GIVEN WITH THE SEED: THE CARDS: each row of YthcffaheamikgaaGreatDoorRows.lean that lists a variable, with what it lists TIED to the program's text (the seventh form; the later family's looks); each row that meets fmt, with fmt's text TOLD by the authors' own Lean function (tested against real Go, not proved from fmt's source: count such statements apart). THE CARD IS WHAT COUNTS. Prove the row's statement (the work); the ties are given (YthcffaheamikgaaGreatDoorTie.lean); close each card by the builder's one call (the guide's Derived/Test/ToyasCard.lean, 'card_holds'). Laid BY PROGRAM, IN A SANDBOX (cutbox-door.mjs). By AI agents, Wed Nov 11 2026. No macro, syntax, notation, axiom, sorry.
-/
import Derived.Test.YthcffaheamikgaaGreatDoorRows
import GoSem.ClaimSeven
namespace Go.Proofs.YthcffaheamikgaaGreatDoor
namespace Rows

/-- THE TIED CARD OF 'kinespherelaw43.EditionRootsSpec'. -/
def editionRootsSpecCard : Claim7 := { stood := { row := editionRootsSpecRow, standIns := [], harness := (true, "8f6ee23c1fbf9c3664c8020e2566c908858422a5d72b5389ec7f99027414c650"), looks := false }, kinds := [], alts := [], laidByText := true, laidKinds := [.data, .data], laidTests := true, laidLooks := .later }
def EditionRootsSpecCardSaid : Prop := Claim7.holds Tryz.pinned (.plain (OpenSpec.ofChange editionRootsSpecSpec)) editionRootsSpecCard

/-- THE TIED CARD OF 'kinespherelaw43.EditionSignsSpec'. -/
def editionSignsSpecCard : Claim7 := { stood := { row := editionSignsSpecRow, standIns := [], harness := (true, "8f6ee23c1fbf9c3664c8020e2566c908858422a5d72b5389ec7f99027414c650"), looks := false }, kinds := [], alts := [], laidByText := true, laidKinds := [.data, .data], laidTests := true, laidLooks := .later }
def EditionSignsSpecCardSaid : Prop := Claim7.holds Tryz.pinned (.plain (OpenSpec.ofChange editionSignsSpecSpec)) editionSignsSpecCard

/-- THE SECOND FORM's CARD OF 'kinespherelaw43.EditionRootsSpec'. -/
def editionRootsSpecUptoCard : Claim7 := { stood := { row := editionRootsSpecUptoRow, standIns := [], harness := (true, "8f6ee23c1fbf9c3664c8020e2566c908858422a5d72b5389ec7f99027414c650"), looks := false }, kinds := [], alts := [], laidByText := true, laidKinds := [.data, .data], laidTests := true, laidLooks := .later }
def EditionRootsSpecUptoCardSaid : Prop := Claim7.holds Tryz.pinned (.plain (OpenSpec.upto editionRootsSpecSpec)) editionRootsSpecUptoCard

/-- THE SECOND FORM's CARD OF 'kinespherelaw43.EditionSignsSpec'. -/
def editionSignsSpecUptoCard : Claim7 := { stood := { row := editionSignsSpecUptoRow, standIns := [], harness := (true, "8f6ee23c1fbf9c3664c8020e2566c908858422a5d72b5389ec7f99027414c650"), looks := false }, kinds := [], alts := [], laidByText := true, laidKinds := [.data, .data], laidTests := true, laidLooks := .later }
def EditionSignsSpecUptoCardSaid : Prop := Claim7.holds Tryz.pinned (.plain (OpenSpec.upto editionSignsSpecSpec)) editionSignsSpecUptoCard
end Rows
end Go.Proofs.YthcffaheamikgaaGreatDoor
