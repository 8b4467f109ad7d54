/-
  DERIVED. GIVEN WITH THE SEED: THE CARDS: each row of YtodakphagkommaaGreatDoorRows.lean that lists a variable, with what it lists TIED to the program's text (the seventh form; the later family's looks); each row that meets fmt, with fmt's text TOLD by the authors' own Lean function (tested against real Go, not proved from fmt's source: count such statements apart). THE CARD IS WHAT COUNTS. Prove the row's statement (the work); the ties are given (YtodakphagkommaaGreatDoorTie.lean); close each card by the builder's one call (the guide's Derived/Test/ToyasCard.lean, 'card_holds'). Laid BY PROGRAM, IN A SANDBOX (cutbox-door.mjs). By AI agents, Wed Nov 11 2026. No macro, syntax, notation, axiom, sorry.
-/
import Derived.Test.YtodakphagkommaaGreatDoorRows
import GoSem.ClaimSeven
namespace Go.Proofs.YtodakphagkommaaGreatDoor
namespace Rows

/-- THE TIED CARD OF 'kinespherelaw44.ApparatusSpec'. -/
def apparatusSpecCard : Claim7 := { stood := { row := apparatusSpecRow, standIns := [], harness := (true, "7487adcbb88cd8c76305f1b55bc750fc8aca60cf0a33624839d1e2bb64e58a1a"), looks := false }, kinds := [], alts := [], laidByText := true, laidKinds := [.data, .data], laidTests := true, laidLooks := .later }
def ApparatusSpecCardSaid : Prop := Claim7.holds Tryz.pinned (.plain (OpenSpec.ofChange apparatusSpecSpec)) apparatusSpecCard

/-- THE TIED CARD OF 'kinespherelaw44.ApparatusOriginSpec'. -/
def apparatusOriginSpecCard : Claim7 := { stood := { row := apparatusOriginSpecRow, standIns := [], harness := (true, "7487adcbb88cd8c76305f1b55bc750fc8aca60cf0a33624839d1e2bb64e58a1a"), looks := false }, kinds := [], alts := [], laidByText := true, laidKinds := [.data, .data], laidTests := true, laidLooks := .later }
def ApparatusOriginSpecCardSaid : Prop := Claim7.holds Tryz.pinned (.plain (OpenSpec.ofChange apparatusOriginSpecSpec)) apparatusOriginSpecCard

/-- THE TIED CARD OF 'kinespherelaw44.ApparatusValue'. -/
def apparatusValueCard : Claim7 := { stood := { row := apparatusValueRow, standIns := [], harness := (true, "7487adcbb88cd8c76305f1b55bc750fc8aca60cf0a33624839d1e2bb64e58a1a"), looks := false }, kinds := [], alts := [], laidByText := true, laidKinds := [.data, .data], laidTests := true, laidLooks := .later }
def ApparatusValueCardSaid : Prop := Claim7.holds Tryz.pinned (.plain (OpenSpec.ofChange apparatusValueSpec)) apparatusValueCard

/-- THE TIED CARD OF 'kinespherelaw44.ApparatusRows'. -/
def apparatusRowsCard : Claim7 := { stood := { row := apparatusRowsRow, standIns := [], harness := (true, "7487adcbb88cd8c76305f1b55bc750fc8aca60cf0a33624839d1e2bb64e58a1a"), looks := false }, kinds := [], alts := [], laidByText := true, laidKinds := [.data, .data], laidTests := true, laidLooks := .later }
def ApparatusRowsCardSaid : Prop := Claim7.holds Tryz.pinned (.plain (OpenSpec.ofChange apparatusRowsSpec)) apparatusRowsCard

/-- THE TIED CARD OF 'kinespherelaw44.ApparatusTouched'. -/
def apparatusTouchedCard : Claim7 := { stood := { row := apparatusTouchedRow, standIns := [], harness := (true, "7487adcbb88cd8c76305f1b55bc750fc8aca60cf0a33624839d1e2bb64e58a1a"), looks := false }, kinds := [], alts := [], laidByText := true, laidKinds := [.data, .data], laidTests := true, laidLooks := .later }
def ApparatusTouchedCardSaid : Prop := Claim7.holds Tryz.pinned (.plain (OpenSpec.ofChange apparatusTouchedSpec)) apparatusTouchedCard

/-- THE TIED CARD OF 'kinespherelaw44.ApparatusLater'. -/
def apparatusLaterCard : Claim7 := { stood := { row := apparatusLaterRow, standIns := [], harness := (true, "7487adcbb88cd8c76305f1b55bc750fc8aca60cf0a33624839d1e2bb64e58a1a"), looks := false }, kinds := [], alts := [], laidByText := true, laidKinds := [.data, .data], laidTests := true, laidLooks := .later }
def ApparatusLaterCardSaid : Prop := Claim7.holds Tryz.pinned (.plain (OpenSpec.ofChange apparatusLaterSpec)) apparatusLaterCard

/-- THE SECOND FORM's CARD OF 'kinespherelaw44.ApparatusSpec'. -/
def apparatusSpecUptoCard : Claim7 := { stood := { row := apparatusSpecUptoRow, standIns := [], harness := (true, "7487adcbb88cd8c76305f1b55bc750fc8aca60cf0a33624839d1e2bb64e58a1a"), looks := false }, kinds := [], alts := [], laidByText := true, laidKinds := [.data, .data], laidTests := true, laidLooks := .later }
def ApparatusSpecUptoCardSaid : Prop := Claim7.holds Tryz.pinned (.plain (OpenSpec.upto apparatusSpecSpec)) apparatusSpecUptoCard

/-- THE SECOND FORM's CARD OF 'kinespherelaw44.ApparatusOriginSpec'. -/
def apparatusOriginSpecUptoCard : Claim7 := { stood := { row := apparatusOriginSpecUptoRow, standIns := [], harness := (true, "7487adcbb88cd8c76305f1b55bc750fc8aca60cf0a33624839d1e2bb64e58a1a"), looks := false }, kinds := [], alts := [], laidByText := true, laidKinds := [.data, .data], laidTests := true, laidLooks := .later }
def ApparatusOriginSpecUptoCardSaid : Prop := Claim7.holds Tryz.pinned (.plain (OpenSpec.upto apparatusOriginSpecSpec)) apparatusOriginSpecUptoCard

/-- THE SECOND FORM's CARD OF 'kinespherelaw44.ApparatusValue'. -/
def apparatusValueUptoCard : Claim7 := { stood := { row := apparatusValueUptoRow, standIns := [], harness := (true, "7487adcbb88cd8c76305f1b55bc750fc8aca60cf0a33624839d1e2bb64e58a1a"), looks := false }, kinds := [], alts := [], laidByText := true, laidKinds := [.data, .data], laidTests := true, laidLooks := .later }
def ApparatusValueUptoCardSaid : Prop := Claim7.holds Tryz.pinned (.plain (OpenSpec.upto apparatusValueSpec)) apparatusValueUptoCard

/-- THE SECOND FORM's CARD OF 'kinespherelaw44.ApparatusRows'. -/
def apparatusRowsUptoCard : Claim7 := { stood := { row := apparatusRowsUptoRow, standIns := [], harness := (true, "7487adcbb88cd8c76305f1b55bc750fc8aca60cf0a33624839d1e2bb64e58a1a"), looks := false }, kinds := [], alts := [], laidByText := true, laidKinds := [.data, .data], laidTests := true, laidLooks := .later }
def ApparatusRowsUptoCardSaid : Prop := Claim7.holds Tryz.pinned (.plain (OpenSpec.upto apparatusRowsSpec)) apparatusRowsUptoCard

/-- THE SECOND FORM's CARD OF 'kinespherelaw44.ApparatusTouched'. -/
def apparatusTouchedUptoCard : Claim7 := { stood := { row := apparatusTouchedUptoRow, standIns := [], harness := (true, "7487adcbb88cd8c76305f1b55bc750fc8aca60cf0a33624839d1e2bb64e58a1a"), looks := false }, kinds := [], alts := [], laidByText := true, laidKinds := [.data, .data], laidTests := true, laidLooks := .later }
def ApparatusTouchedUptoCardSaid : Prop := Claim7.holds Tryz.pinned (.plain (OpenSpec.upto apparatusTouchedSpec)) apparatusTouchedUptoCard

/-- THE SECOND FORM's CARD OF 'kinespherelaw44.ApparatusLater'. -/
def apparatusLaterUptoCard : Claim7 := { stood := { row := apparatusLaterUptoRow, standIns := [], harness := (true, "7487adcbb88cd8c76305f1b55bc750fc8aca60cf0a33624839d1e2bb64e58a1a"), looks := false }, kinds := [], alts := [], laidByText := true, laidKinds := [.data, .data], laidTests := true, laidLooks := .later }
def ApparatusLaterUptoCardSaid : Prop := Claim7.holds Tryz.pinned (.plain (OpenSpec.upto apparatusLaterSpec)) apparatusLaterUptoCard
end Rows
end Go.Proofs.YtodakphagkommaaGreatDoor
