/-
  DERIVED. GIVEN WITH THE SEED: THE CARDS: each row of YtkpmnnflikkhmaaDoorRows.lean that lists a variable, with what it lists TIED to the program's text (the seventh form; the later family's looks); each row that meets fmt, with fmt's text TOLD by the authors' own Lean function (tested against real Go, not proved from fmt's source: count such statements apart). THE CARD IS WHAT COUNTS. Prove the row's statement (the work); the ties are given (YtkpmnnflikkhmaaDoorTie.lean); close each card by the builder's one call (the guide's Derived/Test/ToyasCard.lean, 'card_holds'). Laid BY PROGRAM, IN A SANDBOX (cutbox-door.mjs). By AI agents, Wed Nov 11 2026. No macro, syntax, notation, axiom, sorry.
-/
import Derived.Test.YtkpmnnflikkhmaaDoorRows
import GoSem.ClaimSeven
namespace Go.Proofs.YtkpmnnflikkhmaaDoor
namespace Rows

/-- THE TIED CARD OF 'kinespherelaw42.StemmaSpec'. -/
def stemmaSpecCard : Claim7 := { stood := { row := stemmaSpecRow, standIns := [], harness := (true, "ee01672d72051c55a553832d8f1b557e85fe7de91745a851b14c5bb6cd11ba6c"), looks := false }, kinds := [], alts := [], laidByText := true, laidKinds := [.data, .data], laidTests := true, laidLooks := .later }
def StemmaSpecCardSaid : Prop := Claim7.holds Tryd.pinned (.plain (OpenSpec.ofChange stemmaSpecSpec)) stemmaSpecCard

/-- THE TIED CARD OF 'kinespherelaw42.StemmaBestSpec'. -/
def stemmaBestSpecCard : Claim7 := { stood := { row := stemmaBestSpecRow, standIns := [], harness := (true, "ee01672d72051c55a553832d8f1b557e85fe7de91745a851b14c5bb6cd11ba6c"), looks := false }, kinds := [], alts := [], laidByText := true, laidKinds := [.data, .data], laidTests := true, laidLooks := .later }
def StemmaBestSpecCardSaid : Prop := Claim7.holds Tryd.pinned (.plain (OpenSpec.ofChange stemmaBestSpecSpec)) stemmaBestSpecCard

/-- THE TIED CARD OF 'kinespherelaw42.StemmaTies'. -/
def stemmaTiesCard : Claim7 := { stood := { row := stemmaTiesRow, standIns := [], harness := (true, "ee01672d72051c55a553832d8f1b557e85fe7de91745a851b14c5bb6cd11ba6c"), looks := false }, kinds := [], alts := [], laidByText := true, laidKinds := [.data, .data], laidTests := true, laidLooks := .later }
def StemmaTiesCardSaid : Prop := Claim7.holds Tryd.pinned (.plain (OpenSpec.ofChange stemmaTiesSpec)) stemmaTiesCard

/-- THE TIED CARD OF 'kinespherelaw42.StemmaCost'. -/
def stemmaCostCard : Claim7 := { stood := { row := stemmaCostRow, standIns := [], harness := (true, "ee01672d72051c55a553832d8f1b557e85fe7de91745a851b14c5bb6cd11ba6c"), looks := false }, kinds := [], alts := [], laidByText := true, laidKinds := [.data, .data], laidTests := true, laidLooks := .later }
def StemmaCostCardSaid : Prop := Claim7.holds Tryd.pinned (.plain (OpenSpec.ofChange stemmaCostSpec)) stemmaCostCard

/-- THE TIED CARD OF 'kinespherelaw42.StemmaAll'. -/
def stemmaAllCard : Claim7 := { stood := { row := stemmaAllRow, standIns := [], harness := (true, "ee01672d72051c55a553832d8f1b557e85fe7de91745a851b14c5bb6cd11ba6c"), looks := false }, kinds := [], alts := [], laidByText := true, laidKinds := [.data, .data], laidTests := true, laidLooks := .later }
def StemmaAllCardSaid : Prop := Claim7.holds Tryd.pinned (.plain (OpenSpec.ofChange stemmaAllSpec)) stemmaAllCard

/-- THE TIED CARD OF 'kinespherelaw42.StemmaLoci'. -/
def stemmaLociCard : Claim7 := { stood := { row := stemmaLociRow, standIns := [], harness := (true, "ee01672d72051c55a553832d8f1b557e85fe7de91745a851b14c5bb6cd11ba6c"), looks := false }, kinds := [], alts := [], laidByText := true, laidKinds := [.data, .data], laidTests := true, laidLooks := .later }
def StemmaLociCardSaid : Prop := Claim7.holds Tryd.pinned (.plain (OpenSpec.ofChange stemmaLociSpec)) stemmaLociCard

/-- THE TIED CARD OF 'kinespherelaw42.StemmaFurther'. -/
def stemmaFurtherCard : Claim7 := { stood := { row := stemmaFurtherRow, standIns := [], harness := (true, "ee01672d72051c55a553832d8f1b557e85fe7de91745a851b14c5bb6cd11ba6c"), looks := false }, kinds := [], alts := [], laidByText := true, laidKinds := [.data, .data], laidTests := true, laidLooks := .later }
def StemmaFurtherCardSaid : Prop := Claim7.holds Tryd.pinned (.plain (OpenSpec.ofChange stemmaFurtherSpec)) stemmaFurtherCard

/-- THE SECOND FORM's CARD OF 'kinespherelaw42.StemmaSpec'. -/
def stemmaSpecUptoCard : Claim7 := { stood := { row := stemmaSpecUptoRow, standIns := [], harness := (true, "ee01672d72051c55a553832d8f1b557e85fe7de91745a851b14c5bb6cd11ba6c"), looks := false }, kinds := [], alts := [], laidByText := true, laidKinds := [.data, .data], laidTests := true, laidLooks := .later }
def StemmaSpecUptoCardSaid : Prop := Claim7.holds Tryd.pinned (.plain (OpenSpec.upto stemmaSpecSpec)) stemmaSpecUptoCard

/-- THE SECOND FORM's CARD OF 'kinespherelaw42.StemmaBestSpec'. -/
def stemmaBestSpecUptoCard : Claim7 := { stood := { row := stemmaBestSpecUptoRow, standIns := [], harness := (true, "ee01672d72051c55a553832d8f1b557e85fe7de91745a851b14c5bb6cd11ba6c"), looks := false }, kinds := [], alts := [], laidByText := true, laidKinds := [.data, .data], laidTests := true, laidLooks := .later }
def StemmaBestSpecUptoCardSaid : Prop := Claim7.holds Tryd.pinned (.plain (OpenSpec.upto stemmaBestSpecSpec)) stemmaBestSpecUptoCard

/-- THE SECOND FORM's CARD OF 'kinespherelaw42.StemmaTies'. -/
def stemmaTiesUptoCard : Claim7 := { stood := { row := stemmaTiesUptoRow, standIns := [], harness := (true, "ee01672d72051c55a553832d8f1b557e85fe7de91745a851b14c5bb6cd11ba6c"), looks := false }, kinds := [], alts := [], laidByText := true, laidKinds := [.data, .data], laidTests := true, laidLooks := .later }
def StemmaTiesUptoCardSaid : Prop := Claim7.holds Tryd.pinned (.plain (OpenSpec.upto stemmaTiesSpec)) stemmaTiesUptoCard

/-- THE SECOND FORM's CARD OF 'kinespherelaw42.StemmaCost'. -/
def stemmaCostUptoCard : Claim7 := { stood := { row := stemmaCostUptoRow, standIns := [], harness := (true, "ee01672d72051c55a553832d8f1b557e85fe7de91745a851b14c5bb6cd11ba6c"), looks := false }, kinds := [], alts := [], laidByText := true, laidKinds := [.data, .data], laidTests := true, laidLooks := .later }
def StemmaCostUptoCardSaid : Prop := Claim7.holds Tryd.pinned (.plain (OpenSpec.upto stemmaCostSpec)) stemmaCostUptoCard

/-- THE SECOND FORM's CARD OF 'kinespherelaw42.StemmaAll'. -/
def stemmaAllUptoCard : Claim7 := { stood := { row := stemmaAllUptoRow, standIns := [], harness := (true, "ee01672d72051c55a553832d8f1b557e85fe7de91745a851b14c5bb6cd11ba6c"), looks := false }, kinds := [], alts := [], laidByText := true, laidKinds := [.data, .data], laidTests := true, laidLooks := .later }
def StemmaAllUptoCardSaid : Prop := Claim7.holds Tryd.pinned (.plain (OpenSpec.upto stemmaAllSpec)) stemmaAllUptoCard

/-- THE SECOND FORM's CARD OF 'kinespherelaw42.StemmaLoci'. -/
def stemmaLociUptoCard : Claim7 := { stood := { row := stemmaLociUptoRow, standIns := [], harness := (true, "ee01672d72051c55a553832d8f1b557e85fe7de91745a851b14c5bb6cd11ba6c"), looks := false }, kinds := [], alts := [], laidByText := true, laidKinds := [.data, .data], laidTests := true, laidLooks := .later }
def StemmaLociUptoCardSaid : Prop := Claim7.holds Tryd.pinned (.plain (OpenSpec.upto stemmaLociSpec)) stemmaLociUptoCard

/-- THE SECOND FORM's CARD OF 'kinespherelaw42.StemmaFurther'. -/
def stemmaFurtherUptoCard : Claim7 := { stood := { row := stemmaFurtherUptoRow, standIns := [], harness := (true, "ee01672d72051c55a553832d8f1b557e85fe7de91745a851b14c5bb6cd11ba6c"), looks := false }, kinds := [], alts := [], laidByText := true, laidKinds := [.data, .data], laidTests := true, laidLooks := .later }
def StemmaFurtherUptoCardSaid : Prop := Claim7.holds Tryd.pinned (.plain (OpenSpec.upto stemmaFurtherSpec)) stemmaFurtherUptoCard
end Rows
end Go.Proofs.YtkpmnnflikkhmaaDoor
