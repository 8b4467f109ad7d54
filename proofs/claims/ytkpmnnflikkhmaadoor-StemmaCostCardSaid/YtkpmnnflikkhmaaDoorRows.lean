/-
  NARROWER THAN 'FOR EVERY INPUT', by the rows' own cells (each row's printed sentence says how): StemmaSpec: laid · StemmaBestSpec: laid · StemmaTies: laid · StemmaCost: laid · StemmaAll: laid · StemmaLoci: laid · StemmaFurther: laid.
  DERIVED. THE GIVEN ROWS OF THIS SEAT. 7 by the template 'for every input the law returns true; each argument reads behind the call as it read before'; 0 by the template 'total and deterministic' (their statements: YtkpmnnflikkhmaaDoorTotals.lean).
  GIVEN WITH THE SEED: the statements are not yours to turn. If you find one false, say at which input.
  Laid BY PROGRAM, IN A SANDBOX (cutbox-rows.mjs): the forced cells as the released guide's own fill.sh prints them over the translation 28b57aeae9eb669b… (all of the seat's roots in one cut). By AI agents, Wed Nov 11 2026. No macro, syntax, notation, axiom, sorry.
-/
import Derived.Test.YtkpmnnflikkhmaaDoorChecked
import GoSem.Claim
import GoSem.ClaimJoined
import GoSem.ClaimMapViews
import Derived.JoinedTies
import Derived.KernelRfl
namespace Go.Proofs.YtkpmnnflikkhmaaDoor
/- THE CELL 'sum', in the pinned program and in every row, IS THE sha256 OF THE DUMP (.gsa) THAT YtkpmnnflikkhmaaDoorProg.lean LOADS. Nothing in Lean hashes anything: it is a label: what it is worth is what the hold of that sum in a sandbox is worth. -/
noncomputable def Tryd.pinned : Pinned := { name := "ytkpmnnflikkhmaadoor", sum := "28b57aeae9eb669bdc0b830b80809a2f06217e6f4b9a59c8734213b7b01fe18a", checked := Tryd.checked }
namespace Rows
def none {H : Type} : Left H := { results := [], args := [] }

/- WHAT THE LISTED PACKAGE-LEVEL VARIABLES READ AS WHEN THE CALL BEGINS. Each datum BY PROGRAM (the guide's laid-datum.mjs) off the statement by which the dump's own 'gosem.cut.vars' lays the variable. In a bare row this is a premise. The card (YtkpmnnflikkhmaaDoorCards.lean) ties it to the program's text. -/
def laid_math_bits_deBruijn32tab {H : Type} : DataW H := .agg [.lit (.int .u8 0), .lit (.int .u8 1), .lit (.int .u8 28), .lit (.int .u8 2), .lit (.int .u8 29), .lit (.int .u8 14), .lit (.int .u8 24), .lit (.int .u8 3), .lit (.int .u8 30), .lit (.int .u8 22), .lit (.int .u8 20), .lit (.int .u8 15), .lit (.int .u8 25), .lit (.int .u8 17), .lit (.int .u8 4), .lit (.int .u8 8), .lit (.int .u8 31), .lit (.int .u8 27), .lit (.int .u8 13), .lit (.int .u8 23), .lit (.int .u8 21), .lit (.int .u8 19), .lit (.int .u8 16), .lit (.int .u8 7), .lit (.int .u8 26), .lit (.int .u8 12), .lit (.int .u8 18), .lit (.int .u8 6), .lit (.int .u8 11), .lit (.int .u8 5), .lit (.int .u8 10), .lit (.int .u8 9)]
def laid_math_bits_deBruijn64tab {H : Type} : DataW H := .agg [.lit (.int .u8 0), .lit (.int .u8 1), .lit (.int .u8 56), .lit (.int .u8 2), .lit (.int .u8 57), .lit (.int .u8 49), .lit (.int .u8 28), .lit (.int .u8 3), .lit (.int .u8 61), .lit (.int .u8 58), .lit (.int .u8 42), .lit (.int .u8 50), .lit (.int .u8 38), .lit (.int .u8 29), .lit (.int .u8 17), .lit (.int .u8 4), .lit (.int .u8 62), .lit (.int .u8 47), .lit (.int .u8 59), .lit (.int .u8 36), .lit (.int .u8 45), .lit (.int .u8 43), .lit (.int .u8 51), .lit (.int .u8 22), .lit (.int .u8 53), .lit (.int .u8 39), .lit (.int .u8 33), .lit (.int .u8 30), .lit (.int .u8 24), .lit (.int .u8 18), .lit (.int .u8 12), .lit (.int .u8 5), .lit (.int .u8 63), .lit (.int .u8 55), .lit (.int .u8 48), .lit (.int .u8 27), .lit (.int .u8 60), .lit (.int .u8 41), .lit (.int .u8 37), .lit (.int .u8 16), .lit (.int .u8 46), .lit (.int .u8 35), .lit (.int .u8 44), .lit (.int .u8 21), .lit (.int .u8 52), .lit (.int .u8 32), .lit (.int .u8 23), .lit (.int .u8 11), .lit (.int .u8 54), .lit (.int .u8 26), .lit (.int .u8 40), .lit (.int .u8 15), .lit (.int .u8 34), .lit (.int .u8 20), .lit (.int .u8 31), .lit (.int .u8 10), .lit (.int .u8 25), .lit (.int .u8 14), .lit (.int .u8 19), .lit (.int .u8 9), .lit (.int .u8 13), .lit (.int .u8 8), .lit (.int .u8 7), .lit (.int .u8 6)]

/-- 'kinespherelaw42.StemmaSpec': WHATEVER THE INPUT: true; the input reads as it did. -/
def stemmaSpecSpec : ChangeSpec := { name := "stemmaSpec", fn := fun _ => fun
  | [d1, d2, d3] => { results := [.lit (.bool true)], args := [d1, d2, d3] }
  | _ => none }
def stemmaSpecRow : OpenClaim := { program := "ytkpmnnflikkhmaadoor", sum := "28b57aeae9eb669bdc0b830b80809a2f06217e6f4b9a59c8734213b7b01fe18a", func := "kinesphere/kinespherelaw42.StemmaSpec", spec := "stemmaSpec", unfollowed := true, recurses := true, named := ["math/bits.deBruijn32tab", "math/bits.deBruijn64tab"], apart := false, laid := [("math/bits.deBruijn32tab", laid_math_bits_deBruijn32tab), ("math/bits.deBruijn64tab", laid_math_bits_deBruijn64tab)] }
def StemmaSpecSaid : Prop := stemmaSpecRow.holds Tryd.pinned (OpenSpec.ofChange stemmaSpecSpec)

/-- ITS FALSE NEIGHBOUR: 'it returns false'. Refute it at one input. -/
def stemmaSpecWrong : ChangeSpec := { name := "stemmaSpec", fn := fun _ => fun
  | [d1, d2, d3] => { results := [.lit (.bool false)], args := [d1, d2, d3] }
  | _ => none }
def StemmaSpecWrongFalsely : Prop := stemmaSpecRow.holds Tryd.pinned (OpenSpec.ofChange stemmaSpecWrong)

/-- 'kinespherelaw42.StemmaBestSpec': WHATEVER THE INPUT: true; the input reads as it did. -/
def stemmaBestSpecSpec : ChangeSpec := { name := "stemmaBestSpec", fn := fun _ => fun
  | [d1, d2] => { results := [.lit (.bool true)], args := [d1, d2] }
  | _ => none }
def stemmaBestSpecRow : OpenClaim := { program := "ytkpmnnflikkhmaadoor", sum := "28b57aeae9eb669bdc0b830b80809a2f06217e6f4b9a59c8734213b7b01fe18a", func := "kinesphere/kinespherelaw42.StemmaBestSpec", spec := "stemmaBestSpec", unfollowed := true, recurses := true, named := ["math/bits.deBruijn32tab", "math/bits.deBruijn64tab"], apart := false, laid := [("math/bits.deBruijn32tab", laid_math_bits_deBruijn32tab), ("math/bits.deBruijn64tab", laid_math_bits_deBruijn64tab)] }
def StemmaBestSpecSaid : Prop := stemmaBestSpecRow.holds Tryd.pinned (OpenSpec.ofChange stemmaBestSpecSpec)

/-- ITS FALSE NEIGHBOUR: 'it returns false'. Refute it at one input. -/
def stemmaBestSpecWrong : ChangeSpec := { name := "stemmaBestSpec", fn := fun _ => fun
  | [d1, d2] => { results := [.lit (.bool false)], args := [d1, d2] }
  | _ => none }
def StemmaBestSpecWrongFalsely : Prop := stemmaBestSpecRow.holds Tryd.pinned (OpenSpec.ofChange stemmaBestSpecWrong)

/-- 'kinespherelaw42.StemmaTies': WHATEVER THE INPUT: true; the input reads as it did. -/
def stemmaTiesSpec : ChangeSpec := { name := "stemmaTies", fn := fun _ => fun
  | [d1, d2] => { results := [.lit (.bool true)], args := [d1, d2] }
  | _ => none }
def stemmaTiesRow : OpenClaim := { program := "ytkpmnnflikkhmaadoor", sum := "28b57aeae9eb669bdc0b830b80809a2f06217e6f4b9a59c8734213b7b01fe18a", func := "kinesphere/kinespherelaw42.StemmaTies", spec := "stemmaTies", unfollowed := true, recurses := true, named := ["math/bits.deBruijn32tab", "math/bits.deBruijn64tab"], apart := false, laid := [("math/bits.deBruijn32tab", laid_math_bits_deBruijn32tab), ("math/bits.deBruijn64tab", laid_math_bits_deBruijn64tab)] }
def StemmaTiesSaid : Prop := stemmaTiesRow.holds Tryd.pinned (OpenSpec.ofChange stemmaTiesSpec)

/-- ITS FALSE NEIGHBOUR: 'it returns false'. Refute it at one input. -/
def stemmaTiesWrong : ChangeSpec := { name := "stemmaTies", fn := fun _ => fun
  | [d1, d2] => { results := [.lit (.bool false)], args := [d1, d2] }
  | _ => none }
def StemmaTiesWrongFalsely : Prop := stemmaTiesRow.holds Tryd.pinned (OpenSpec.ofChange stemmaTiesWrong)

/-- 'kinespherelaw42.StemmaCost': WHATEVER THE INPUT: true; the input reads as it did. -/
def stemmaCostSpec : ChangeSpec := { name := "stemmaCost", fn := fun _ => fun
  | [d1, d2] => { results := [.lit (.bool true)], args := [d1, d2] }
  | _ => none }
def stemmaCostRow : OpenClaim := { program := "ytkpmnnflikkhmaadoor", sum := "28b57aeae9eb669bdc0b830b80809a2f06217e6f4b9a59c8734213b7b01fe18a", func := "kinesphere/kinespherelaw42.StemmaCost", spec := "stemmaCost", unfollowed := true, recurses := true, named := ["math/bits.deBruijn32tab", "math/bits.deBruijn64tab"], apart := false, laid := [("math/bits.deBruijn32tab", laid_math_bits_deBruijn32tab), ("math/bits.deBruijn64tab", laid_math_bits_deBruijn64tab)] }
def StemmaCostSaid : Prop := stemmaCostRow.holds Tryd.pinned (OpenSpec.ofChange stemmaCostSpec)

/-- ITS FALSE NEIGHBOUR: 'it returns false'. Refute it at one input. -/
def stemmaCostWrong : ChangeSpec := { name := "stemmaCost", fn := fun _ => fun
  | [d1, d2] => { results := [.lit (.bool false)], args := [d1, d2] }
  | _ => none }
def StemmaCostWrongFalsely : Prop := stemmaCostRow.holds Tryd.pinned (OpenSpec.ofChange stemmaCostWrong)

/-- 'kinespherelaw42.StemmaAll': WHATEVER THE INPUT: true; the input reads as it did. -/
def stemmaAllSpec : ChangeSpec := { name := "stemmaAll", fn := fun _ => fun
  | [d1, d2] => { results := [.lit (.bool true)], args := [d1, d2] }
  | _ => none }
def stemmaAllRow : OpenClaim := { program := "ytkpmnnflikkhmaadoor", sum := "28b57aeae9eb669bdc0b830b80809a2f06217e6f4b9a59c8734213b7b01fe18a", func := "kinesphere/kinespherelaw42.StemmaAll", spec := "stemmaAll", unfollowed := true, recurses := true, named := ["math/bits.deBruijn32tab", "math/bits.deBruijn64tab"], apart := false, laid := [("math/bits.deBruijn32tab", laid_math_bits_deBruijn32tab), ("math/bits.deBruijn64tab", laid_math_bits_deBruijn64tab)] }
def StemmaAllSaid : Prop := stemmaAllRow.holds Tryd.pinned (OpenSpec.ofChange stemmaAllSpec)

/-- ITS FALSE NEIGHBOUR: 'it returns false'. Refute it at one input. -/
def stemmaAllWrong : ChangeSpec := { name := "stemmaAll", fn := fun _ => fun
  | [d1, d2] => { results := [.lit (.bool false)], args := [d1, d2] }
  | _ => none }
def StemmaAllWrongFalsely : Prop := stemmaAllRow.holds Tryd.pinned (OpenSpec.ofChange stemmaAllWrong)

/-- 'kinespherelaw42.StemmaLoci': WHATEVER THE INPUT: true; the input reads as it did. -/
def stemmaLociSpec : ChangeSpec := { name := "stemmaLoci", fn := fun _ => fun
  | [d1, d2, d3, d4] => { results := [.lit (.bool true)], args := [d1, d2, d3, d4] }
  | _ => none }
def stemmaLociRow : OpenClaim := { program := "ytkpmnnflikkhmaadoor", sum := "28b57aeae9eb669bdc0b830b80809a2f06217e6f4b9a59c8734213b7b01fe18a", func := "kinesphere/kinespherelaw42.StemmaLoci", spec := "stemmaLoci", unfollowed := true, recurses := true, named := ["math/bits.deBruijn32tab", "math/bits.deBruijn64tab"], apart := false, laid := [("math/bits.deBruijn32tab", laid_math_bits_deBruijn32tab), ("math/bits.deBruijn64tab", laid_math_bits_deBruijn64tab)] }
def StemmaLociSaid : Prop := stemmaLociRow.holds Tryd.pinned (OpenSpec.ofChange stemmaLociSpec)

/-- ITS FALSE NEIGHBOUR: 'it returns false'. Refute it at one input. -/
def stemmaLociWrong : ChangeSpec := { name := "stemmaLoci", fn := fun _ => fun
  | [d1, d2, d3, d4] => { results := [.lit (.bool false)], args := [d1, d2, d3, d4] }
  | _ => none }
def StemmaLociWrongFalsely : Prop := stemmaLociRow.holds Tryd.pinned (OpenSpec.ofChange stemmaLociWrong)

/-- 'kinespherelaw42.StemmaFurther': WHATEVER THE INPUT: true; the input reads as it did. -/
def stemmaFurtherSpec : ChangeSpec := { name := "stemmaFurther", fn := fun _ => fun
  | [d1, d2, d3] => { results := [.lit (.bool true)], args := [d1, d2, d3] }
  | _ => none }
def stemmaFurtherRow : OpenClaim := { program := "ytkpmnnflikkhmaadoor", sum := "28b57aeae9eb669bdc0b830b80809a2f06217e6f4b9a59c8734213b7b01fe18a", func := "kinesphere/kinespherelaw42.StemmaFurther", spec := "stemmaFurther", unfollowed := true, recurses := true, named := ["math/bits.deBruijn32tab", "math/bits.deBruijn64tab"], apart := false, laid := [("math/bits.deBruijn32tab", laid_math_bits_deBruijn32tab), ("math/bits.deBruijn64tab", laid_math_bits_deBruijn64tab)] }
def StemmaFurtherSaid : Prop := stemmaFurtherRow.holds Tryd.pinned (OpenSpec.ofChange stemmaFurtherSpec)

/-- ITS FALSE NEIGHBOUR: 'it returns false'. Refute it at one input. -/
def stemmaFurtherWrong : ChangeSpec := { name := "stemmaFurther", fn := fun _ => fun
  | [d1, d2, d3] => { results := [.lit (.bool false)], args := [d1, d2, d3] }
  | _ => none }
def StemmaFurtherWrongFalsely : Prop := stemmaFurtherRow.holds Tryd.pinned (OpenSpec.ofChange stemmaFurtherWrong)

/- THE SECOND FORM. 'bulk': how many values and letters a reading holds, each counted each time it is reached (what is shared counts as often as it is met; a slice's spare places count too). A statement '..UptoSaid' is the law's where the arguments, and the package variables that the reading takes, are together of bulk at most 1048576: NARROWER than '..Said'. Prove '..Said' where nothing that the law and all that it calls make is longer than what came in: it says more and counts as full. Else prove '..UptoSaid'. A law counts once. -/
mutual
def uptoBulk {H : Type} : DataW H → Nat
  | .lit (.string bytes) => bytes.length + 1
  | .lit _ => 1
  | .nil => 1
  | .ptr d => uptoBulk d + 1
  | .slice elems spare => uptoBulkAll elems + uptoBulkAll spare + 1
  | .agg parts => uptoBulkAll parts + 1
  | .iface _ d => uptoBulk d + 1
  | .map entries => uptoBulkEntries entries + 1
  | .held _ => 1
def uptoBulkAll {H : Type} : List (DataW H) → Nat
  | [] => 0
  | d :: r => uptoBulk d + uptoBulkAll r
def uptoBulkEntries {H : Type} : List (Lit × DataW H) → Nat
  | [] => 0
  | x :: r => uptoBulkEntry x + uptoBulkEntries r
def uptoBulkEntry {H : Type} : Lit × DataW H → Nat
  | (.string bytes, d) => bytes.length + uptoBulk d + 1
  | (_, d) => uptoBulk d + 1
 end
def uptoSmall : (H : Type) → List (DataW H) → Bool := fun _ ds => decide (uptoBulkAll ds ≤ 1048576)
def OpenSpec.upto (s : _root_.Go.ChangeSpec) : _root_.Go.OpenSpec := { _root_.Go.OpenSpec.ofChange s with cond := some uptoSmall }

/-- 'kinespherelaw42.StemmaSpec', WHERE WHAT IT READS IS OF BULK AT MOST 1048576: true; the input reads as it did. -/
def stemmaSpecUptoRow : OpenClaim := { program := "ytkpmnnflikkhmaadoor", sum := "28b57aeae9eb669bdc0b830b80809a2f06217e6f4b9a59c8734213b7b01fe18a", func := "kinesphere/kinespherelaw42.StemmaSpec", spec := "stemmaSpec", unfollowed := true, recurses := true, named := ["math/bits.deBruijn32tab", "math/bits.deBruijn64tab"], apart := false, laid := [("math/bits.deBruijn32tab", laid_math_bits_deBruijn32tab), ("math/bits.deBruijn64tab", laid_math_bits_deBruijn64tab)], narrowed := true }
def StemmaSpecUptoSaid : Prop := stemmaSpecUptoRow.holds Tryd.pinned (OpenSpec.upto stemmaSpecSpec)

/-- 'kinespherelaw42.StemmaBestSpec', WHERE WHAT IT READS IS OF BULK AT MOST 1048576: true; the input reads as it did. -/
def stemmaBestSpecUptoRow : OpenClaim := { program := "ytkpmnnflikkhmaadoor", sum := "28b57aeae9eb669bdc0b830b80809a2f06217e6f4b9a59c8734213b7b01fe18a", func := "kinesphere/kinespherelaw42.StemmaBestSpec", spec := "stemmaBestSpec", unfollowed := true, recurses := true, named := ["math/bits.deBruijn32tab", "math/bits.deBruijn64tab"], apart := false, laid := [("math/bits.deBruijn32tab", laid_math_bits_deBruijn32tab), ("math/bits.deBruijn64tab", laid_math_bits_deBruijn64tab)], narrowed := true }
def StemmaBestSpecUptoSaid : Prop := stemmaBestSpecUptoRow.holds Tryd.pinned (OpenSpec.upto stemmaBestSpecSpec)

/-- 'kinespherelaw42.StemmaTies', WHERE WHAT IT READS IS OF BULK AT MOST 1048576: true; the input reads as it did. -/
def stemmaTiesUptoRow : OpenClaim := { program := "ytkpmnnflikkhmaadoor", sum := "28b57aeae9eb669bdc0b830b80809a2f06217e6f4b9a59c8734213b7b01fe18a", func := "kinesphere/kinespherelaw42.StemmaTies", spec := "stemmaTies", unfollowed := true, recurses := true, named := ["math/bits.deBruijn32tab", "math/bits.deBruijn64tab"], apart := false, laid := [("math/bits.deBruijn32tab", laid_math_bits_deBruijn32tab), ("math/bits.deBruijn64tab", laid_math_bits_deBruijn64tab)], narrowed := true }
def StemmaTiesUptoSaid : Prop := stemmaTiesUptoRow.holds Tryd.pinned (OpenSpec.upto stemmaTiesSpec)

/-- 'kinespherelaw42.StemmaCost', WHERE WHAT IT READS IS OF BULK AT MOST 1048576: true; the input reads as it did. -/
def stemmaCostUptoRow : OpenClaim := { program := "ytkpmnnflikkhmaadoor", sum := "28b57aeae9eb669bdc0b830b80809a2f06217e6f4b9a59c8734213b7b01fe18a", func := "kinesphere/kinespherelaw42.StemmaCost", spec := "stemmaCost", unfollowed := true, recurses := true, named := ["math/bits.deBruijn32tab", "math/bits.deBruijn64tab"], apart := false, laid := [("math/bits.deBruijn32tab", laid_math_bits_deBruijn32tab), ("math/bits.deBruijn64tab", laid_math_bits_deBruijn64tab)], narrowed := true }
def StemmaCostUptoSaid : Prop := stemmaCostUptoRow.holds Tryd.pinned (OpenSpec.upto stemmaCostSpec)

/-- 'kinespherelaw42.StemmaAll', WHERE WHAT IT READS IS OF BULK AT MOST 1048576: true; the input reads as it did. -/
def stemmaAllUptoRow : OpenClaim := { program := "ytkpmnnflikkhmaadoor", sum := "28b57aeae9eb669bdc0b830b80809a2f06217e6f4b9a59c8734213b7b01fe18a", func := "kinesphere/kinespherelaw42.StemmaAll", spec := "stemmaAll", unfollowed := true, recurses := true, named := ["math/bits.deBruijn32tab", "math/bits.deBruijn64tab"], apart := false, laid := [("math/bits.deBruijn32tab", laid_math_bits_deBruijn32tab), ("math/bits.deBruijn64tab", laid_math_bits_deBruijn64tab)], narrowed := true }
def StemmaAllUptoSaid : Prop := stemmaAllUptoRow.holds Tryd.pinned (OpenSpec.upto stemmaAllSpec)

/-- 'kinespherelaw42.StemmaLoci', WHERE WHAT IT READS IS OF BULK AT MOST 1048576: true; the input reads as it did. -/
def stemmaLociUptoRow : OpenClaim := { program := "ytkpmnnflikkhmaadoor", sum := "28b57aeae9eb669bdc0b830b80809a2f06217e6f4b9a59c8734213b7b01fe18a", func := "kinesphere/kinespherelaw42.StemmaLoci", spec := "stemmaLoci", unfollowed := true, recurses := true, named := ["math/bits.deBruijn32tab", "math/bits.deBruijn64tab"], apart := false, laid := [("math/bits.deBruijn32tab", laid_math_bits_deBruijn32tab), ("math/bits.deBruijn64tab", laid_math_bits_deBruijn64tab)], narrowed := true }
def StemmaLociUptoSaid : Prop := stemmaLociUptoRow.holds Tryd.pinned (OpenSpec.upto stemmaLociSpec)

/-- 'kinespherelaw42.StemmaFurther', WHERE WHAT IT READS IS OF BULK AT MOST 1048576: true; the input reads as it did. -/
def stemmaFurtherUptoRow : OpenClaim := { program := "ytkpmnnflikkhmaadoor", sum := "28b57aeae9eb669bdc0b830b80809a2f06217e6f4b9a59c8734213b7b01fe18a", func := "kinesphere/kinespherelaw42.StemmaFurther", spec := "stemmaFurther", unfollowed := true, recurses := true, named := ["math/bits.deBruijn32tab", "math/bits.deBruijn64tab"], apart := false, laid := [("math/bits.deBruijn32tab", laid_math_bits_deBruijn32tab), ("math/bits.deBruijn64tab", laid_math_bits_deBruijn64tab)], narrowed := true }
def StemmaFurtherUptoSaid : Prop := stemmaFurtherUptoRow.holds Tryd.pinned (OpenSpec.upto stemmaFurtherSpec)

end Rows
end Go.Proofs.YtkpmnnflikkhmaaDoor
