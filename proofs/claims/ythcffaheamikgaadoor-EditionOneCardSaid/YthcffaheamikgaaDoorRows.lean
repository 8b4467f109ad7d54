/-
  NARROWER THAN 'FOR EVERY INPUT', by the rows' own cells (each row's printed sentence says how): EditionRoot: laid · EditionOne: laid · EditionAgreed: laid · EditionEmended: laid · EditionForm: laid.
  DERIVED. THE GIVEN ROWS OF THIS SEAT. 5 by the template 'for every input the law returns true; each argument reads behind the call as it read before'; 0 by the template 'total and deterministic' (their statements: YthcffaheamikgaaDoorTotals.lean).
  GIVEN WITH THE SEED: the statements are not yours to turn. If you find one false, say at which input.
  Laid BY PROGRAM, IN A SANDBOX (cutbox-rows.mjs): the forced cells as the released guide's own fill.sh prints them over the translation d7e0938a5032c0d3… (all of the seat's roots in one cut). By AI agents, Wed Nov 11 2026. No macro, syntax, notation, axiom, sorry.
-/
import Derived.Test.YthcffaheamikgaaDoorChecked
import GoSem.Claim
import GoSem.ClaimJoined
import GoSem.ClaimMapViews
import Derived.JoinedTies
import Derived.KernelRfl
namespace Go.Proofs.YthcffaheamikgaaDoor
/- THE CELL 'sum', in the pinned program and in every row, IS THE sha256 OF THE DUMP (.gsa) THAT YthcffaheamikgaaDoorProg.lean LOADS. Nothing in Lean hashes anything: it is a label: what it is worth is what the hold of that sum in a sandbox is worth. -/
noncomputable def Tryd.pinned : Pinned := { name := "ythcffaheamikgaadoor", sum := "d7e0938a5032c0d35998148e32aad1a6483eb6dd5a67453a2292854f71cc24d0", checked := Tryd.checked }
namespace Rows
def none {H : Type} : Left H := { results := [], args := [] }

/- WHAT THE LISTED PACKAGE-LEVEL VARIABLES READ AS WHEN THE CALL BEGINS. Each datum BY PROGRAM (the guide's laid-datum.mjs) off the statement by which the dump's own 'gosem.cut.vars' lays the variable. In a bare row this is a premise. The card (YthcffaheamikgaaDoorCards.lean) ties it to the program's text. -/
def laid_math_bits_deBruijn32tab {H : Type} : DataW H := .agg [.lit (.int .u8 0), .lit (.int .u8 1), .lit (.int .u8 28), .lit (.int .u8 2), .lit (.int .u8 29), .lit (.int .u8 14), .lit (.int .u8 24), .lit (.int .u8 3), .lit (.int .u8 30), .lit (.int .u8 22), .lit (.int .u8 20), .lit (.int .u8 15), .lit (.int .u8 25), .lit (.int .u8 17), .lit (.int .u8 4), .lit (.int .u8 8), .lit (.int .u8 31), .lit (.int .u8 27), .lit (.int .u8 13), .lit (.int .u8 23), .lit (.int .u8 21), .lit (.int .u8 19), .lit (.int .u8 16), .lit (.int .u8 7), .lit (.int .u8 26), .lit (.int .u8 12), .lit (.int .u8 18), .lit (.int .u8 6), .lit (.int .u8 11), .lit (.int .u8 5), .lit (.int .u8 10), .lit (.int .u8 9)]
def laid_math_bits_deBruijn64tab {H : Type} : DataW H := .agg [.lit (.int .u8 0), .lit (.int .u8 1), .lit (.int .u8 56), .lit (.int .u8 2), .lit (.int .u8 57), .lit (.int .u8 49), .lit (.int .u8 28), .lit (.int .u8 3), .lit (.int .u8 61), .lit (.int .u8 58), .lit (.int .u8 42), .lit (.int .u8 50), .lit (.int .u8 38), .lit (.int .u8 29), .lit (.int .u8 17), .lit (.int .u8 4), .lit (.int .u8 62), .lit (.int .u8 47), .lit (.int .u8 59), .lit (.int .u8 36), .lit (.int .u8 45), .lit (.int .u8 43), .lit (.int .u8 51), .lit (.int .u8 22), .lit (.int .u8 53), .lit (.int .u8 39), .lit (.int .u8 33), .lit (.int .u8 30), .lit (.int .u8 24), .lit (.int .u8 18), .lit (.int .u8 12), .lit (.int .u8 5), .lit (.int .u8 63), .lit (.int .u8 55), .lit (.int .u8 48), .lit (.int .u8 27), .lit (.int .u8 60), .lit (.int .u8 41), .lit (.int .u8 37), .lit (.int .u8 16), .lit (.int .u8 46), .lit (.int .u8 35), .lit (.int .u8 44), .lit (.int .u8 21), .lit (.int .u8 52), .lit (.int .u8 32), .lit (.int .u8 23), .lit (.int .u8 11), .lit (.int .u8 54), .lit (.int .u8 26), .lit (.int .u8 40), .lit (.int .u8 15), .lit (.int .u8 34), .lit (.int .u8 20), .lit (.int .u8 31), .lit (.int .u8 10), .lit (.int .u8 25), .lit (.int .u8 14), .lit (.int .u8 19), .lit (.int .u8 9), .lit (.int .u8 13), .lit (.int .u8 8), .lit (.int .u8 7), .lit (.int .u8 6)]

/-- 'kinespherelaw43.EditionRoot': WHATEVER THE INPUT: true; the input reads as it did. -/
def editionRootSpec : ChangeSpec := { name := "editionRoot", fn := fun _ => fun
  | [d1, d2, d3, d4] => { results := [.lit (.bool true)], args := [d1, d2, d3, d4] }
  | _ => none }
def editionRootRow : OpenClaim := { program := "ythcffaheamikgaadoor", sum := "d7e0938a5032c0d35998148e32aad1a6483eb6dd5a67453a2292854f71cc24d0", func := "kinesphere/kinespherelaw43.EditionRoot", spec := "editionRoot", unfollowed := true, recurses := true, named := ["math/bits.deBruijn32tab", "math/bits.deBruijn64tab"], plainKeys := false, apart := false, laid := [("math/bits.deBruijn32tab", laid_math_bits_deBruijn32tab), ("math/bits.deBruijn64tab", laid_math_bits_deBruijn64tab)] }
def EditionRootSaid : Prop := editionRootRow.holds Tryd.pinned (OpenSpec.ofChange editionRootSpec)

/-- ITS FALSE NEIGHBOUR: 'it returns false'. Refute it at one input. -/
def editionRootWrong : ChangeSpec := { name := "editionRoot", fn := fun _ => fun
  | [d1, d2, d3, d4] => { results := [.lit (.bool false)], args := [d1, d2, d3, d4] }
  | _ => none }
def EditionRootWrongFalsely : Prop := editionRootRow.holds Tryd.pinned (OpenSpec.ofChange editionRootWrong)

/-- 'kinespherelaw43.EditionOne': WHATEVER THE INPUT: true; the input reads as it did. -/
def editionOneSpec : ChangeSpec := { name := "editionOne", fn := fun _ => fun
  | [d1, d2] => { results := [.lit (.bool true)], args := [d1, d2] }
  | _ => none }
def editionOneRow : OpenClaim := { program := "ythcffaheamikgaadoor", sum := "d7e0938a5032c0d35998148e32aad1a6483eb6dd5a67453a2292854f71cc24d0", func := "kinesphere/kinespherelaw43.EditionOne", spec := "editionOne", unfollowed := true, recurses := true, named := ["math/bits.deBruijn32tab", "math/bits.deBruijn64tab"], plainKeys := false, apart := false, laid := [("math/bits.deBruijn32tab", laid_math_bits_deBruijn32tab), ("math/bits.deBruijn64tab", laid_math_bits_deBruijn64tab)] }
def EditionOneSaid : Prop := editionOneRow.holds Tryd.pinned (OpenSpec.ofChange editionOneSpec)

/-- ITS FALSE NEIGHBOUR: 'it returns false'. Refute it at one input. -/
def editionOneWrong : ChangeSpec := { name := "editionOne", fn := fun _ => fun
  | [d1, d2] => { results := [.lit (.bool false)], args := [d1, d2] }
  | _ => none }
def EditionOneWrongFalsely : Prop := editionOneRow.holds Tryd.pinned (OpenSpec.ofChange editionOneWrong)

/-- 'kinespherelaw43.EditionAgreed': WHATEVER THE INPUT: true; the input reads as it did. -/
def editionAgreedSpec : ChangeSpec := { name := "editionAgreed", fn := fun _ => fun
  | [d1, d2, d3] => { results := [.lit (.bool true)], args := [d1, d2, d3] }
  | _ => none }
def editionAgreedRow : OpenClaim := { program := "ythcffaheamikgaadoor", sum := "d7e0938a5032c0d35998148e32aad1a6483eb6dd5a67453a2292854f71cc24d0", func := "kinesphere/kinespherelaw43.EditionAgreed", spec := "editionAgreed", unfollowed := true, recurses := true, named := ["math/bits.deBruijn32tab", "math/bits.deBruijn64tab"], plainKeys := false, apart := false, laid := [("math/bits.deBruijn32tab", laid_math_bits_deBruijn32tab), ("math/bits.deBruijn64tab", laid_math_bits_deBruijn64tab)] }
def EditionAgreedSaid : Prop := editionAgreedRow.holds Tryd.pinned (OpenSpec.ofChange editionAgreedSpec)

/-- ITS FALSE NEIGHBOUR: 'it returns false'. Refute it at one input. -/
def editionAgreedWrong : ChangeSpec := { name := "editionAgreed", fn := fun _ => fun
  | [d1, d2, d3] => { results := [.lit (.bool false)], args := [d1, d2, d3] }
  | _ => none }
def EditionAgreedWrongFalsely : Prop := editionAgreedRow.holds Tryd.pinned (OpenSpec.ofChange editionAgreedWrong)

/-- 'kinespherelaw43.EditionEmended': WHATEVER THE INPUT: true; the input reads as it did. -/
def editionEmendedSpec : ChangeSpec := { name := "editionEmended", fn := fun _ => fun
  | [d1, d2, d3, d4, d5] => { results := [.lit (.bool true)], args := [d1, d2, d3, d4, d5] }
  | _ => none }
def editionEmendedRow : OpenClaim := { program := "ythcffaheamikgaadoor", sum := "d7e0938a5032c0d35998148e32aad1a6483eb6dd5a67453a2292854f71cc24d0", func := "kinesphere/kinespherelaw43.EditionEmended", spec := "editionEmended", unfollowed := true, recurses := true, named := ["math/bits.deBruijn32tab", "math/bits.deBruijn64tab"], plainKeys := false, apart := false, laid := [("math/bits.deBruijn32tab", laid_math_bits_deBruijn32tab), ("math/bits.deBruijn64tab", laid_math_bits_deBruijn64tab)] }
def EditionEmendedSaid : Prop := editionEmendedRow.holds Tryd.pinned (OpenSpec.ofChange editionEmendedSpec)

/-- ITS FALSE NEIGHBOUR: 'it returns false'. Refute it at one input. -/
def editionEmendedWrong : ChangeSpec := { name := "editionEmended", fn := fun _ => fun
  | [d1, d2, d3, d4, d5] => { results := [.lit (.bool false)], args := [d1, d2, d3, d4, d5] }
  | _ => none }
def EditionEmendedWrongFalsely : Prop := editionEmendedRow.holds Tryd.pinned (OpenSpec.ofChange editionEmendedWrong)

/-- 'kinespherelaw43.EditionForm': WHATEVER THE INPUT: true; the input reads as it did. -/
def editionFormSpec : ChangeSpec := { name := "editionForm", fn := fun _ => fun
  | [d1, d2, d3, d4] => { results := [.lit (.bool true)], args := [d1, d2, d3, d4] }
  | _ => none }
def editionFormRow : OpenClaim := { program := "ythcffaheamikgaadoor", sum := "d7e0938a5032c0d35998148e32aad1a6483eb6dd5a67453a2292854f71cc24d0", func := "kinesphere/kinespherelaw43.EditionForm", spec := "editionForm", unfollowed := true, recurses := true, named := ["math/bits.deBruijn32tab", "math/bits.deBruijn64tab"], plainKeys := false, apart := false, laid := [("math/bits.deBruijn32tab", laid_math_bits_deBruijn32tab), ("math/bits.deBruijn64tab", laid_math_bits_deBruijn64tab)] }
def EditionFormSaid : Prop := editionFormRow.holds Tryd.pinned (OpenSpec.ofChange editionFormSpec)

/-- ITS FALSE NEIGHBOUR: 'it returns false'. Refute it at one input. -/
def editionFormWrong : ChangeSpec := { name := "editionForm", fn := fun _ => fun
  | [d1, d2, d3, d4] => { results := [.lit (.bool false)], args := [d1, d2, d3, d4] }
  | _ => none }
def EditionFormWrongFalsely : Prop := editionFormRow.holds Tryd.pinned (OpenSpec.ofChange editionFormWrong)

/- THE SECOND FORM. 'bulk': how many values and letters a reading holds, each counted each time it is reached (what is shared counts as often as it is met; a slice's spare places count too). A statement '..UptoSaid' is the law's where the arguments, and the package variables that the reading takes, are together of bulk at most 1048576: NARROWER than '..Said'. Prove '..Said' where nothing that the law and all that it calls make is longer than what came in: it says more and counts as full. Else prove '..UptoSaid'. A law counts once. -/
mutual
def uptoBulk {H : Type} : DataW H → Nat
  | .lit (.string bytes) => bytes.length + 1
  | .lit _ => 1
  | .nil => 1
  | .ptr d => uptoBulk d + 1
  | .slice elems spare => uptoBulkAll elems + uptoBulkAll spare + 1
  | .agg parts => uptoBulkAll parts + 1
  | .iface _ d => uptoBulk d + 1
  | .map entries => uptoBulkEntries entries + 1
  | .held _ => 1
def uptoBulkAll {H : Type} : List (DataW H) → Nat
  | [] => 0
  | d :: r => uptoBulk d + uptoBulkAll r
def uptoBulkEntries {H : Type} : List (Lit × DataW H) → Nat
  | [] => 0
  | x :: r => uptoBulkEntry x + uptoBulkEntries r
def uptoBulkEntry {H : Type} : Lit × DataW H → Nat
  | (.string bytes, d) => bytes.length + uptoBulk d + 1
  | (_, d) => uptoBulk d + 1
 end
def uptoSmall : (H : Type) → List (DataW H) → Bool := fun _ ds => decide (uptoBulkAll ds ≤ 1048576)
def OpenSpec.upto (s : _root_.Go.ChangeSpec) : _root_.Go.OpenSpec := { _root_.Go.OpenSpec.ofChange s with cond := some uptoSmall }

/-- 'kinespherelaw43.EditionRoot', WHERE WHAT IT READS IS OF BULK AT MOST 1048576: true; the input reads as it did. -/
def editionRootUptoRow : OpenClaim := { program := "ythcffaheamikgaadoor", sum := "d7e0938a5032c0d35998148e32aad1a6483eb6dd5a67453a2292854f71cc24d0", func := "kinesphere/kinespherelaw43.EditionRoot", spec := "editionRoot", unfollowed := true, recurses := true, named := ["math/bits.deBruijn32tab", "math/bits.deBruijn64tab"], plainKeys := false, apart := false, laid := [("math/bits.deBruijn32tab", laid_math_bits_deBruijn32tab), ("math/bits.deBruijn64tab", laid_math_bits_deBruijn64tab)], narrowed := true }
def EditionRootUptoSaid : Prop := editionRootUptoRow.holds Tryd.pinned (OpenSpec.upto editionRootSpec)

/-- 'kinespherelaw43.EditionOne', WHERE WHAT IT READS IS OF BULK AT MOST 1048576: true; the input reads as it did. -/
def editionOneUptoRow : OpenClaim := { program := "ythcffaheamikgaadoor", sum := "d7e0938a5032c0d35998148e32aad1a6483eb6dd5a67453a2292854f71cc24d0", func := "kinesphere/kinespherelaw43.EditionOne", spec := "editionOne", unfollowed := true, recurses := true, named := ["math/bits.deBruijn32tab", "math/bits.deBruijn64tab"], plainKeys := false, apart := false, laid := [("math/bits.deBruijn32tab", laid_math_bits_deBruijn32tab), ("math/bits.deBruijn64tab", laid_math_bits_deBruijn64tab)], narrowed := true }
def EditionOneUptoSaid : Prop := editionOneUptoRow.holds Tryd.pinned (OpenSpec.upto editionOneSpec)

/-- 'kinespherelaw43.EditionAgreed', WHERE WHAT IT READS IS OF BULK AT MOST 1048576: true; the input reads as it did. -/
def editionAgreedUptoRow : OpenClaim := { program := "ythcffaheamikgaadoor", sum := "d7e0938a5032c0d35998148e32aad1a6483eb6dd5a67453a2292854f71cc24d0", func := "kinesphere/kinespherelaw43.EditionAgreed", spec := "editionAgreed", unfollowed := true, recurses := true, named := ["math/bits.deBruijn32tab", "math/bits.deBruijn64tab"], plainKeys := false, apart := false, laid := [("math/bits.deBruijn32tab", laid_math_bits_deBruijn32tab), ("math/bits.deBruijn64tab", laid_math_bits_deBruijn64tab)], narrowed := true }
def EditionAgreedUptoSaid : Prop := editionAgreedUptoRow.holds Tryd.pinned (OpenSpec.upto editionAgreedSpec)

/-- 'kinespherelaw43.EditionEmended', WHERE WHAT IT READS IS OF BULK AT MOST 1048576: true; the input reads as it did. -/
def editionEmendedUptoRow : OpenClaim := { program := "ythcffaheamikgaadoor", sum := "d7e0938a5032c0d35998148e32aad1a6483eb6dd5a67453a2292854f71cc24d0", func := "kinesphere/kinespherelaw43.EditionEmended", spec := "editionEmended", unfollowed := true, recurses := true, named := ["math/bits.deBruijn32tab", "math/bits.deBruijn64tab"], plainKeys := false, apart := false, laid := [("math/bits.deBruijn32tab", laid_math_bits_deBruijn32tab), ("math/bits.deBruijn64tab", laid_math_bits_deBruijn64tab)], narrowed := true }
def EditionEmendedUptoSaid : Prop := editionEmendedUptoRow.holds Tryd.pinned (OpenSpec.upto editionEmendedSpec)

/-- 'kinespherelaw43.EditionForm', WHERE WHAT IT READS IS OF BULK AT MOST 1048576: true; the input reads as it did. -/
def editionFormUptoRow : OpenClaim := { program := "ythcffaheamikgaadoor", sum := "d7e0938a5032c0d35998148e32aad1a6483eb6dd5a67453a2292854f71cc24d0", func := "kinesphere/kinespherelaw43.EditionForm", spec := "editionForm", unfollowed := true, recurses := true, named := ["math/bits.deBruijn32tab", "math/bits.deBruijn64tab"], plainKeys := false, apart := false, laid := [("math/bits.deBruijn32tab", laid_math_bits_deBruijn32tab), ("math/bits.deBruijn64tab", laid_math_bits_deBruijn64tab)], narrowed := true }
def EditionFormUptoSaid : Prop := editionFormUptoRow.holds Tryd.pinned (OpenSpec.upto editionFormSpec)

end Rows
end Go.Proofs.YthcffaheamikgaaDoor
