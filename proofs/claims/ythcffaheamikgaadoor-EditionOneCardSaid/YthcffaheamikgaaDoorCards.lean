/-
  DERIVED. GIVEN WITH THE SEED: THE CARDS: each row of YthcffaheamikgaaDoorRows.lean that lists a variable, with what it lists TIED to the program's text (the seventh form; the later family's looks); each row that meets fmt, with fmt's text TOLD by the authors' own Lean function (tested against real Go, not proved from fmt's source: count such statements apart). THE CARD IS WHAT COUNTS. Prove the row's statement (the work); the ties are given (YthcffaheamikgaaDoorTie.lean); close each card by the builder's one call (the guide's Derived/Test/ToyasCard.lean, 'card_holds'). Laid BY PROGRAM, IN A SANDBOX (cutbox-door.mjs). By AI agents, Wed Nov 11 2026. No macro, syntax, notation, axiom, sorry.
-/
import Derived.Test.YthcffaheamikgaaDoorRows
import GoSem.ClaimSeven
namespace Go.Proofs.YthcffaheamikgaaDoor
namespace Rows

/-- THE TIED CARD OF 'kinespherelaw43.EditionRoot'. -/
def editionRootCard : Claim7 := { stood := { row := editionRootRow, standIns := [], harness := (true, "919b8fa584992d8ae3c594542a3c1b39c1f5bee942388cade4cc2b467c5275fd"), looks := false }, kinds := [], alts := [], laidByText := true, laidKinds := [.data, .data], laidTests := true, laidLooks := .later }
def EditionRootCardSaid : Prop := Claim7.holds Tryd.pinned (.plain (OpenSpec.ofChange editionRootSpec)) editionRootCard

/-- THE TIED CARD OF 'kinespherelaw43.EditionOne'. -/
def editionOneCard : Claim7 := { stood := { row := editionOneRow, standIns := [], harness := (true, "919b8fa584992d8ae3c594542a3c1b39c1f5bee942388cade4cc2b467c5275fd"), looks := false }, kinds := [], alts := [], laidByText := true, laidKinds := [.data, .data], laidTests := true, laidLooks := .later }
def EditionOneCardSaid : Prop := Claim7.holds Tryd.pinned (.plain (OpenSpec.ofChange editionOneSpec)) editionOneCard

/-- THE TIED CARD OF 'kinespherelaw43.EditionAgreed'. -/
def editionAgreedCard : Claim7 := { stood := { row := editionAgreedRow, standIns := [], harness := (true, "919b8fa584992d8ae3c594542a3c1b39c1f5bee942388cade4cc2b467c5275fd"), looks := false }, kinds := [], alts := [], laidByText := true, laidKinds := [.data, .data], laidTests := true, laidLooks := .later }
def EditionAgreedCardSaid : Prop := Claim7.holds Tryd.pinned (.plain (OpenSpec.ofChange editionAgreedSpec)) editionAgreedCard

/-- THE TIED CARD OF 'kinespherelaw43.EditionEmended'. -/
def editionEmendedCard : Claim7 := { stood := { row := editionEmendedRow, standIns := [], harness := (true, "919b8fa584992d8ae3c594542a3c1b39c1f5bee942388cade4cc2b467c5275fd"), looks := false }, kinds := [], alts := [], laidByText := true, laidKinds := [.data, .data], laidTests := true, laidLooks := .later }
def EditionEmendedCardSaid : Prop := Claim7.holds Tryd.pinned (.plain (OpenSpec.ofChange editionEmendedSpec)) editionEmendedCard

/-- THE TIED CARD OF 'kinespherelaw43.EditionForm'. -/
def editionFormCard : Claim7 := { stood := { row := editionFormRow, standIns := [], harness := (true, "919b8fa584992d8ae3c594542a3c1b39c1f5bee942388cade4cc2b467c5275fd"), looks := false }, kinds := [], alts := [], laidByText := true, laidKinds := [.data, .data], laidTests := true, laidLooks := .later }
def EditionFormCardSaid : Prop := Claim7.holds Tryd.pinned (.plain (OpenSpec.ofChange editionFormSpec)) editionFormCard

/-- THE SECOND FORM's CARD OF 'kinespherelaw43.EditionRoot'. -/
def editionRootUptoCard : Claim7 := { stood := { row := editionRootUptoRow, standIns := [], harness := (true, "919b8fa584992d8ae3c594542a3c1b39c1f5bee942388cade4cc2b467c5275fd"), looks := false }, kinds := [], alts := [], laidByText := true, laidKinds := [.data, .data], laidTests := true, laidLooks := .later }
def EditionRootUptoCardSaid : Prop := Claim7.holds Tryd.pinned (.plain (OpenSpec.upto editionRootSpec)) editionRootUptoCard

/-- THE SECOND FORM's CARD OF 'kinespherelaw43.EditionOne'. -/
def editionOneUptoCard : Claim7 := { stood := { row := editionOneUptoRow, standIns := [], harness := (true, "919b8fa584992d8ae3c594542a3c1b39c1f5bee942388cade4cc2b467c5275fd"), looks := false }, kinds := [], alts := [], laidByText := true, laidKinds := [.data, .data], laidTests := true, laidLooks := .later }
def EditionOneUptoCardSaid : Prop := Claim7.holds Tryd.pinned (.plain (OpenSpec.upto editionOneSpec)) editionOneUptoCard

/-- THE SECOND FORM's CARD OF 'kinespherelaw43.EditionAgreed'. -/
def editionAgreedUptoCard : Claim7 := { stood := { row := editionAgreedUptoRow, standIns := [], harness := (true, "919b8fa584992d8ae3c594542a3c1b39c1f5bee942388cade4cc2b467c5275fd"), looks := false }, kinds := [], alts := [], laidByText := true, laidKinds := [.data, .data], laidTests := true, laidLooks := .later }
def EditionAgreedUptoCardSaid : Prop := Claim7.holds Tryd.pinned (.plain (OpenSpec.upto editionAgreedSpec)) editionAgreedUptoCard

/-- THE SECOND FORM's CARD OF 'kinespherelaw43.EditionEmended'. -/
def editionEmendedUptoCard : Claim7 := { stood := { row := editionEmendedUptoRow, standIns := [], harness := (true, "919b8fa584992d8ae3c594542a3c1b39c1f5bee942388cade4cc2b467c5275fd"), looks := false }, kinds := [], alts := [], laidByText := true, laidKinds := [.data, .data], laidTests := true, laidLooks := .later }
def EditionEmendedUptoCardSaid : Prop := Claim7.holds Tryd.pinned (.plain (OpenSpec.upto editionEmendedSpec)) editionEmendedUptoCard

/-- THE SECOND FORM's CARD OF 'kinespherelaw43.EditionForm'. -/
def editionFormUptoCard : Claim7 := { stood := { row := editionFormUptoRow, standIns := [], harness := (true, "919b8fa584992d8ae3c594542a3c1b39c1f5bee942388cade4cc2b467c5275fd"), looks := false }, kinds := [], alts := [], laidByText := true, laidKinds := [.data, .data], laidTests := true, laidLooks := .later }
def EditionFormUptoCardSaid : Prop := Claim7.holds Tryd.pinned (.plain (OpenSpec.upto editionFormSpec)) editionFormUptoCard
end Rows
end Go.Proofs.YthcffaheamikgaaDoor
