/-
  NARROWER THAN 'FOR EVERY INPUT', by the rows' own cells (each row's printed sentence says how): ApparatusSpec: laid · ApparatusOriginSpec: laid · ApparatusValue: laid · ApparatusRows: laid · ApparatusTouched: laid · ApparatusLater: laid.
  DERIVED. THE GIVEN ROWS OF THIS SEAT. 6 by the template 'for every input the law returns true; each argument reads behind the call as it read before'; 0 by the template 'total and deterministic' (their statements: YtodakphagkommaaGreatDoorTotals.lean).
  GIVEN WITH THE SEED: the statements are not yours to turn. If you find one false, say at which input.
  Laid BY PROGRAM, IN A SANDBOX (cutbox-rows.mjs): the forced cells as the released guide's own fill.sh prints them over the translation eb67f066b44fee6d… (all of the seat's roots in one cut). By AI agents, Wed Nov 11 2026. No macro, syntax, notation, axiom, sorry.
-/
import Derived.Test.YtodakphagkommaaGreatDoorChecked
import GoSem.Claim
import GoSem.ClaimJoined
import GoSem.ClaimMapViews
import Derived.JoinedTies
import Derived.KernelRfl
namespace Go.Proofs.YtodakphagkommaaGreatDoor
/- THE CELL 'sum', in the pinned program and in every row, IS THE sha256 OF THE DUMP (.gsa) THAT YtodakphagkommaaGreatDoorProg.lean LOADS. Nothing in Lean hashes anything: it is a label: what it is worth is what the hold of that sum in a sandbox is worth. -/
noncomputable def Tryz.pinned : Pinned := { name := "ytodakphagkommaagreatdoor", sum := "eb67f066b44fee6dead4ad4b6a7022863f7046eeebf94ba9890eb0d6cc3bdd03", checked := Tryz.checked }
namespace Rows
def none {H : Type} : Left H := { results := [], args := [] }

/- WHAT THE LISTED PACKAGE-LEVEL VARIABLES READ AS WHEN THE CALL BEGINS. Each datum BY PROGRAM (the guide's laid-datum.mjs) off the statement by which the dump's own 'gosem.cut.vars' lays the variable. In a bare row this is a premise. The card (YtodakphagkommaaGreatDoorCards.lean) ties it to the program's text. -/
def laid_math_bits_deBruijn32tab {H : Type} : DataW H := .agg [.lit (.int .u8 0), .lit (.int .u8 1), .lit (.int .u8 28), .lit (.int .u8 2), .lit (.int .u8 29), .lit (.int .u8 14), .lit (.int .u8 24), .lit (.int .u8 3), .lit (.int .u8 30), .lit (.int .u8 22), .lit (.int .u8 20), .lit (.int .u8 15), .lit (.int .u8 25), .lit (.int .u8 17), .lit (.int .u8 4), .lit (.int .u8 8), .lit (.int .u8 31), .lit (.int .u8 27), .lit (.int .u8 13), .lit (.int .u8 23), .lit (.int .u8 21), .lit (.int .u8 19), .lit (.int .u8 16), .lit (.int .u8 7), .lit (.int .u8 26), .lit (.int .u8 12), .lit (.int .u8 18), .lit (.int .u8 6), .lit (.int .u8 11), .lit (.int .u8 5), .lit (.int .u8 10), .lit (.int .u8 9)]
def laid_math_bits_deBruijn64tab {H : Type} : DataW H := .agg [.lit (.int .u8 0), .lit (.int .u8 1), .lit (.int .u8 56), .lit (.int .u8 2), .lit (.int .u8 57), .lit (.int .u8 49), .lit (.int .u8 28), .lit (.int .u8 3), .lit (.int .u8 61), .lit (.int .u8 58), .lit (.int .u8 42), .lit (.int .u8 50), .lit (.int .u8 38), .lit (.int .u8 29), .lit (.int .u8 17), .lit (.int .u8 4), .lit (.int .u8 62), .lit (.int .u8 47), .lit (.int .u8 59), .lit (.int .u8 36), .lit (.int .u8 45), .lit (.int .u8 43), .lit (.int .u8 51), .lit (.int .u8 22), .lit (.int .u8 53), .lit (.int .u8 39), .lit (.int .u8 33), .lit (.int .u8 30), .lit (.int .u8 24), .lit (.int .u8 18), .lit (.int .u8 12), .lit (.int .u8 5), .lit (.int .u8 63), .lit (.int .u8 55), .lit (.int .u8 48), .lit (.int .u8 27), .lit (.int .u8 60), .lit (.int .u8 41), .lit (.int .u8 37), .lit (.int .u8 16), .lit (.int .u8 46), .lit (.int .u8 35), .lit (.int .u8 44), .lit (.int .u8 21), .lit (.int .u8 52), .lit (.int .u8 32), .lit (.int .u8 23), .lit (.int .u8 11), .lit (.int .u8 54), .lit (.int .u8 26), .lit (.int .u8 40), .lit (.int .u8 15), .lit (.int .u8 34), .lit (.int .u8 20), .lit (.int .u8 31), .lit (.int .u8 10), .lit (.int .u8 25), .lit (.int .u8 14), .lit (.int .u8 19), .lit (.int .u8 9), .lit (.int .u8 13), .lit (.int .u8 8), .lit (.int .u8 7), .lit (.int .u8 6)]

/-- 'kinespherelaw44.ApparatusSpec': WHATEVER THE INPUT: true; the input reads as it did. -/
def apparatusSpecSpec : ChangeSpec := { name := "apparatusSpec", fn := fun _ => fun
  | [d1, d2] => { results := [.lit (.bool true)], args := [d1, d2] }
  | _ => none }
def apparatusSpecRow : OpenClaim := { program := "ytodakphagkommaagreatdoor", sum := "eb67f066b44fee6dead4ad4b6a7022863f7046eeebf94ba9890eb0d6cc3bdd03", func := "kinesphere/kinespherelaw44.ApparatusSpec", spec := "apparatusSpec", unfollowed := true, recurses := true, named := ["math/bits.deBruijn32tab", "math/bits.deBruijn64tab"], plainKeys := false, apart := false, laid := [("math/bits.deBruijn32tab", laid_math_bits_deBruijn32tab), ("math/bits.deBruijn64tab", laid_math_bits_deBruijn64tab)] }
def ApparatusSpecSaid : Prop := apparatusSpecRow.holds Tryz.pinned (OpenSpec.ofChange apparatusSpecSpec)

/-- ITS FALSE NEIGHBOUR: 'it returns false'. Refute it at one input. -/
def apparatusSpecWrong : ChangeSpec := { name := "apparatusSpec", fn := fun _ => fun
  | [d1, d2] => { results := [.lit (.bool false)], args := [d1, d2] }
  | _ => none }
def ApparatusSpecWrongFalsely : Prop := apparatusSpecRow.holds Tryz.pinned (OpenSpec.ofChange apparatusSpecWrong)

/-- 'kinespherelaw44.ApparatusOriginSpec': WHATEVER THE INPUT: true; the input reads as it did. -/
def apparatusOriginSpecSpec : ChangeSpec := { name := "apparatusOriginSpec", fn := fun _ => fun
  | [d1, d2, d3, d4, d5, d6, d7] => { results := [.lit (.bool true)], args := [d1, d2, d3, d4, d5, d6, d7] }
  | _ => none }
def apparatusOriginSpecRow : OpenClaim := { program := "ytodakphagkommaagreatdoor", sum := "eb67f066b44fee6dead4ad4b6a7022863f7046eeebf94ba9890eb0d6cc3bdd03", func := "kinesphere/kinespherelaw44.ApparatusOriginSpec", spec := "apparatusOriginSpec", unfollowed := true, recurses := true, named := ["math/bits.deBruijn32tab", "math/bits.deBruijn64tab"], plainKeys := false, apart := false, laid := [("math/bits.deBruijn32tab", laid_math_bits_deBruijn32tab), ("math/bits.deBruijn64tab", laid_math_bits_deBruijn64tab)] }
def ApparatusOriginSpecSaid : Prop := apparatusOriginSpecRow.holds Tryz.pinned (OpenSpec.ofChange apparatusOriginSpecSpec)

/-- ITS FALSE NEIGHBOUR: 'it returns false'. Refute it at one input. -/
def apparatusOriginSpecWrong : ChangeSpec := { name := "apparatusOriginSpec", fn := fun _ => fun
  | [d1, d2, d3, d4, d5, d6, d7] => { results := [.lit (.bool false)], args := [d1, d2, d3, d4, d5, d6, d7] }
  | _ => none }
def ApparatusOriginSpecWrongFalsely : Prop := apparatusOriginSpecRow.holds Tryz.pinned (OpenSpec.ofChange apparatusOriginSpecWrong)

/-- 'kinespherelaw44.ApparatusValue': WHATEVER THE INPUT: true; the input reads as it did. -/
def apparatusValueSpec : ChangeSpec := { name := "apparatusValue", fn := fun _ => fun
  | [d1, d2, d3, d4, d5, d6] => { results := [.lit (.bool true)], args := [d1, d2, d3, d4, d5, d6] }
  | _ => none }
def apparatusValueRow : OpenClaim := { program := "ytodakphagkommaagreatdoor", sum := "eb67f066b44fee6dead4ad4b6a7022863f7046eeebf94ba9890eb0d6cc3bdd03", func := "kinesphere/kinespherelaw44.ApparatusValue", spec := "apparatusValue", unfollowed := true, recurses := true, named := ["math/bits.deBruijn32tab", "math/bits.deBruijn64tab"], plainKeys := false, apart := false, laid := [("math/bits.deBruijn32tab", laid_math_bits_deBruijn32tab), ("math/bits.deBruijn64tab", laid_math_bits_deBruijn64tab)] }
def ApparatusValueSaid : Prop := apparatusValueRow.holds Tryz.pinned (OpenSpec.ofChange apparatusValueSpec)

/-- ITS FALSE NEIGHBOUR: 'it returns false'. Refute it at one input. -/
def apparatusValueWrong : ChangeSpec := { name := "apparatusValue", fn := fun _ => fun
  | [d1, d2, d3, d4, d5, d6] => { results := [.lit (.bool false)], args := [d1, d2, d3, d4, d5, d6] }
  | _ => none }
def ApparatusValueWrongFalsely : Prop := apparatusValueRow.holds Tryz.pinned (OpenSpec.ofChange apparatusValueWrong)

/-- 'kinespherelaw44.ApparatusRows': WHATEVER THE INPUT: true; the input reads as it did. -/
def apparatusRowsSpec : ChangeSpec := { name := "apparatusRows", fn := fun _ => fun
  | [d1, d2] => { results := [.lit (.bool true)], args := [d1, d2] }
  | _ => none }
def apparatusRowsRow : OpenClaim := { program := "ytodakphagkommaagreatdoor", sum := "eb67f066b44fee6dead4ad4b6a7022863f7046eeebf94ba9890eb0d6cc3bdd03", func := "kinesphere/kinespherelaw44.ApparatusRows", spec := "apparatusRows", unfollowed := true, recurses := true, named := ["math/bits.deBruijn32tab", "math/bits.deBruijn64tab"], plainKeys := false, apart := false, laid := [("math/bits.deBruijn32tab", laid_math_bits_deBruijn32tab), ("math/bits.deBruijn64tab", laid_math_bits_deBruijn64tab)] }
def ApparatusRowsSaid : Prop := apparatusRowsRow.holds Tryz.pinned (OpenSpec.ofChange apparatusRowsSpec)

/-- ITS FALSE NEIGHBOUR: 'it returns false'. Refute it at one input. -/
def apparatusRowsWrong : ChangeSpec := { name := "apparatusRows", fn := fun _ => fun
  | [d1, d2] => { results := [.lit (.bool false)], args := [d1, d2] }
  | _ => none }
def ApparatusRowsWrongFalsely : Prop := apparatusRowsRow.holds Tryz.pinned (OpenSpec.ofChange apparatusRowsWrong)

/-- 'kinespherelaw44.ApparatusTouched': WHATEVER THE INPUT: true; the input reads as it did. -/
def apparatusTouchedSpec : ChangeSpec := { name := "apparatusTouched", fn := fun _ => fun
  | [d1, d2, d3, d4, d5] => { results := [.lit (.bool true)], args := [d1, d2, d3, d4, d5] }
  | _ => none }
def apparatusTouchedRow : OpenClaim := { program := "ytodakphagkommaagreatdoor", sum := "eb67f066b44fee6dead4ad4b6a7022863f7046eeebf94ba9890eb0d6cc3bdd03", func := "kinesphere/kinespherelaw44.ApparatusTouched", spec := "apparatusTouched", unfollowed := true, recurses := true, named := ["math/bits.deBruijn32tab", "math/bits.deBruijn64tab"], plainKeys := false, apart := false, laid := [("math/bits.deBruijn32tab", laid_math_bits_deBruijn32tab), ("math/bits.deBruijn64tab", laid_math_bits_deBruijn64tab)] }
def ApparatusTouchedSaid : Prop := apparatusTouchedRow.holds Tryz.pinned (OpenSpec.ofChange apparatusTouchedSpec)

/-- ITS FALSE NEIGHBOUR: 'it returns false'. Refute it at one input. -/
def apparatusTouchedWrong : ChangeSpec := { name := "apparatusTouched", fn := fun _ => fun
  | [d1, d2, d3, d4, d5] => { results := [.lit (.bool false)], args := [d1, d2, d3, d4, d5] }
  | _ => none }
def ApparatusTouchedWrongFalsely : Prop := apparatusTouchedRow.holds Tryz.pinned (OpenSpec.ofChange apparatusTouchedWrong)

/-- 'kinespherelaw44.ApparatusLater': WHATEVER THE INPUT: true; the input reads as it did. -/
def apparatusLaterSpec : ChangeSpec := { name := "apparatusLater", fn := fun _ => fun
  | [d1, d2, d3, d4, d5, d6] => { results := [.lit (.bool true)], args := [d1, d2, d3, d4, d5, d6] }
  | _ => none }
def apparatusLaterRow : OpenClaim := { program := "ytodakphagkommaagreatdoor", sum := "eb67f066b44fee6dead4ad4b6a7022863f7046eeebf94ba9890eb0d6cc3bdd03", func := "kinesphere/kinespherelaw44.ApparatusLater", spec := "apparatusLater", unfollowed := true, recurses := true, named := ["math/bits.deBruijn32tab", "math/bits.deBruijn64tab"], plainKeys := false, apart := false, laid := [("math/bits.deBruijn32tab", laid_math_bits_deBruijn32tab), ("math/bits.deBruijn64tab", laid_math_bits_deBruijn64tab)] }
def ApparatusLaterSaid : Prop := apparatusLaterRow.holds Tryz.pinned (OpenSpec.ofChange apparatusLaterSpec)

/-- ITS FALSE NEIGHBOUR: 'it returns false'. Refute it at one input. -/
def apparatusLaterWrong : ChangeSpec := { name := "apparatusLater", fn := fun _ => fun
  | [d1, d2, d3, d4, d5, d6] => { results := [.lit (.bool false)], args := [d1, d2, d3, d4, d5, d6] }
  | _ => none }
def ApparatusLaterWrongFalsely : Prop := apparatusLaterRow.holds Tryz.pinned (OpenSpec.ofChange apparatusLaterWrong)

/- THE SECOND FORM. 'bulk': how many values and letters a reading holds, each counted each time it is reached (what is shared counts as often as it is met; a slice's spare places count too). A statement '..UptoSaid' is the law's where the arguments, and the package variables that the reading takes, are together of bulk at most 1048576: NARROWER than '..Said'. Prove '..Said' where nothing that the law and all that it calls make is longer than what came in: it says more and counts as full. Else prove '..UptoSaid'. A law counts once. -/
mutual
def uptoBulk {H : Type} : DataW H → Nat
  | .lit (.string bytes) => bytes.length + 1
  | .lit _ => 1
  | .nil => 1
  | .ptr d => uptoBulk d + 1
  | .slice elems spare => uptoBulkAll elems + uptoBulkAll spare + 1
  | .agg parts => uptoBulkAll parts + 1
  | .iface _ d => uptoBulk d + 1
  | .map entries => uptoBulkEntries entries + 1
  | .held _ => 1
def uptoBulkAll {H : Type} : List (DataW H) → Nat
  | [] => 0
  | d :: r => uptoBulk d + uptoBulkAll r
def uptoBulkEntries {H : Type} : List (Lit × DataW H) → Nat
  | [] => 0
  | x :: r => uptoBulkEntry x + uptoBulkEntries r
def uptoBulkEntry {H : Type} : Lit × DataW H → Nat
  | (.string bytes, d) => bytes.length + uptoBulk d + 1
  | (_, d) => uptoBulk d + 1
 end
def uptoSmall : (H : Type) → List (DataW H) → Bool := fun _ ds => decide (uptoBulkAll ds ≤ 1048576)
def OpenSpec.upto (s : _root_.Go.ChangeSpec) : _root_.Go.OpenSpec := { _root_.Go.OpenSpec.ofChange s with cond := some uptoSmall }

/-- 'kinespherelaw44.ApparatusSpec', WHERE WHAT IT READS IS OF BULK AT MOST 1048576: true; the input reads as it did. -/
def apparatusSpecUptoRow : OpenClaim := { program := "ytodakphagkommaagreatdoor", sum := "eb67f066b44fee6dead4ad4b6a7022863f7046eeebf94ba9890eb0d6cc3bdd03", func := "kinesphere/kinespherelaw44.ApparatusSpec", spec := "apparatusSpec", unfollowed := true, recurses := true, named := ["math/bits.deBruijn32tab", "math/bits.deBruijn64tab"], plainKeys := false, apart := false, laid := [("math/bits.deBruijn32tab", laid_math_bits_deBruijn32tab), ("math/bits.deBruijn64tab", laid_math_bits_deBruijn64tab)], narrowed := true }
def ApparatusSpecUptoSaid : Prop := apparatusSpecUptoRow.holds Tryz.pinned (OpenSpec.upto apparatusSpecSpec)

/-- 'kinespherelaw44.ApparatusOriginSpec', WHERE WHAT IT READS IS OF BULK AT MOST 1048576: true; the input reads as it did. -/
def apparatusOriginSpecUptoRow : OpenClaim := { program := "ytodakphagkommaagreatdoor", sum := "eb67f066b44fee6dead4ad4b6a7022863f7046eeebf94ba9890eb0d6cc3bdd03", func := "kinesphere/kinespherelaw44.ApparatusOriginSpec", spec := "apparatusOriginSpec", unfollowed := true, recurses := true, named := ["math/bits.deBruijn32tab", "math/bits.deBruijn64tab"], plainKeys := false, apart := false, laid := [("math/bits.deBruijn32tab", laid_math_bits_deBruijn32tab), ("math/bits.deBruijn64tab", laid_math_bits_deBruijn64tab)], narrowed := true }
def ApparatusOriginSpecUptoSaid : Prop := apparatusOriginSpecUptoRow.holds Tryz.pinned (OpenSpec.upto apparatusOriginSpecSpec)

/-- 'kinespherelaw44.ApparatusValue', WHERE WHAT IT READS IS OF BULK AT MOST 1048576: true; the input reads as it did. -/
def apparatusValueUptoRow : OpenClaim := { program := "ytodakphagkommaagreatdoor", sum := "eb67f066b44fee6dead4ad4b6a7022863f7046eeebf94ba9890eb0d6cc3bdd03", func := "kinesphere/kinespherelaw44.ApparatusValue", spec := "apparatusValue", unfollowed := true, recurses := true, named := ["math/bits.deBruijn32tab", "math/bits.deBruijn64tab"], plainKeys := false, apart := false, laid := [("math/bits.deBruijn32tab", laid_math_bits_deBruijn32tab), ("math/bits.deBruijn64tab", laid_math_bits_deBruijn64tab)], narrowed := true }
def ApparatusValueUptoSaid : Prop := apparatusValueUptoRow.holds Tryz.pinned (OpenSpec.upto apparatusValueSpec)

/-- 'kinespherelaw44.ApparatusRows', WHERE WHAT IT READS IS OF BULK AT MOST 1048576: true; the input reads as it did. -/
def apparatusRowsUptoRow : OpenClaim := { program := "ytodakphagkommaagreatdoor", sum := "eb67f066b44fee6dead4ad4b6a7022863f7046eeebf94ba9890eb0d6cc3bdd03", func := "kinesphere/kinespherelaw44.ApparatusRows", spec := "apparatusRows", unfollowed := true, recurses := true, named := ["math/bits.deBruijn32tab", "math/bits.deBruijn64tab"], plainKeys := false, apart := false, laid := [("math/bits.deBruijn32tab", laid_math_bits_deBruijn32tab), ("math/bits.deBruijn64tab", laid_math_bits_deBruijn64tab)], narrowed := true }
def ApparatusRowsUptoSaid : Prop := apparatusRowsUptoRow.holds Tryz.pinned (OpenSpec.upto apparatusRowsSpec)

/-- 'kinespherelaw44.ApparatusTouched', WHERE WHAT IT READS IS OF BULK AT MOST 1048576: true; the input reads as it did. -/
def apparatusTouchedUptoRow : OpenClaim := { program := "ytodakphagkommaagreatdoor", sum := "eb67f066b44fee6dead4ad4b6a7022863f7046eeebf94ba9890eb0d6cc3bdd03", func := "kinesphere/kinespherelaw44.ApparatusTouched", spec := "apparatusTouched", unfollowed := true, recurses := true, named := ["math/bits.deBruijn32tab", "math/bits.deBruijn64tab"], plainKeys := false, apart := false, laid := [("math/bits.deBruijn32tab", laid_math_bits_deBruijn32tab), ("math/bits.deBruijn64tab", laid_math_bits_deBruijn64tab)], narrowed := true }
def ApparatusTouchedUptoSaid : Prop := apparatusTouchedUptoRow.holds Tryz.pinned (OpenSpec.upto apparatusTouchedSpec)

/-- 'kinespherelaw44.ApparatusLater', WHERE WHAT IT READS IS OF BULK AT MOST 1048576: true; the input reads as it did. -/
def apparatusLaterUptoRow : OpenClaim := { program := "ytodakphagkommaagreatdoor", sum := "eb67f066b44fee6dead4ad4b6a7022863f7046eeebf94ba9890eb0d6cc3bdd03", func := "kinesphere/kinespherelaw44.ApparatusLater", spec := "apparatusLater", unfollowed := true, recurses := true, named := ["math/bits.deBruijn32tab", "math/bits.deBruijn64tab"], plainKeys := false, apart := false, laid := [("math/bits.deBruijn32tab", laid_math_bits_deBruijn32tab), ("math/bits.deBruijn64tab", laid_math_bits_deBruijn64tab)], narrowed := true }
def ApparatusLaterUptoSaid : Prop := apparatusLaterUptoRow.holds Tryz.pinned (OpenSpec.upto apparatusLaterSpec)

end Rows
end Go.Proofs.YtodakphagkommaaGreatDoor
