/-
  No cell of these rows narrows 'for every input' (looked for: loops, veiled, ifaces, maps, wideKeys, modest, calm, conditions, laid).
  DERIVED. THE GIVEN ROWS OF THIS SEAT. 7 by the template 'for every input the law returns true; each argument reads behind the call as it read before'; 0 by the template 'total and deterministic' (their statements: YtmflfccincbnaaaTotals.lean).
  GIVEN WITH THE SEED: the statements are not yours to turn. If you find one false, say at which input.
  Laid BY PROGRAM, IN A SANDBOX (cutbox-rows.mjs): the forced cells as the released guide's own fill.sh prints them over the translation 259fc785a40b4897… (all of the seat's roots in one cut). By AI agents, Wed Nov 11 2026. No macro, syntax, notation, axiom, sorry.
-/
import Derived.Test.YtmflfccincbnaaaChecked
import GoSem.Claim
import GoSem.ClaimJoined
import GoSem.ClaimMapViews
import Derived.JoinedTies
import Derived.KernelRfl
namespace Go.Proofs.Ytmflfccincbnaaa
/- THE CELL 'sum', in the pinned program and in every row, IS THE sha256 OF THE DUMP (.gsa) THAT YtmflfccincbnaaaProg.lean LOADS. Nothing in Lean hashes anything: it is a label: what it is worth is what the hold of that sum in a sandbox is worth. -/
noncomputable def Try.pinned : Pinned := { name := "ytmflfccincbnaaa", sum := "259fc785a40b4897b604726a87379ead1a06ca399c6d89faa3e2e8b64fed1436", checked := Try.checked }
namespace Rows
def none {H : Type} : Left H := { results := [], args := [] }

/-- 'kinespherelaw46.RightsSpec': WHATEVER THE INPUT: true; the input reads as it did. -/
def rightsSpecSpec : ChangeSpec := { name := "rightsSpec", fn := fun _ => fun
  | [d1, d2, d3] => { results := [.lit (.bool true)], args := [d1, d2, d3] }
  | _ => none }
def rightsSpecRow : OpenClaim := { program := "ytmflfccincbnaaa", sum := "259fc785a40b4897b604726a87379ead1a06ca399c6d89faa3e2e8b64fed1436", func := "kinesphere/kinespherelaw46.RightsSpec", spec := "rightsSpec", unfollowed := true, recurses := true, plainKeys := false, apart := false }
def RightsSpecSaid : Prop := rightsSpecRow.holds Try.pinned (OpenSpec.ofChange rightsSpecSpec)

/-- ITS FALSE NEIGHBOUR: 'it returns false'. Refute it at one input. -/
def rightsSpecWrong : ChangeSpec := { name := "rightsSpec", fn := fun _ => fun
  | [d1, d2, d3] => { results := [.lit (.bool false)], args := [d1, d2, d3] }
  | _ => none }
def RightsSpecWrongFalsely : Prop := rightsSpecRow.holds Try.pinned (OpenSpec.ofChange rightsSpecWrong)

/-- 'kinespherelaw46.RightsAllowedSpec': WHATEVER THE INPUT: true; the input reads as it did. -/
def rightsAllowedSpecSpec : ChangeSpec := { name := "rightsAllowedSpec", fn := fun _ => fun
  | [d1, d2] => { results := [.lit (.bool true)], args := [d1, d2] }
  | _ => none }
def rightsAllowedSpecRow : OpenClaim := { program := "ytmflfccincbnaaa", sum := "259fc785a40b4897b604726a87379ead1a06ca399c6d89faa3e2e8b64fed1436", func := "kinesphere/kinespherelaw46.RightsAllowedSpec", spec := "rightsAllowedSpec", unfollowed := true, recurses := true, plainKeys := false, apart := false }
def RightsAllowedSpecSaid : Prop := rightsAllowedSpecRow.holds Try.pinned (OpenSpec.ofChange rightsAllowedSpecSpec)

/-- ITS FALSE NEIGHBOUR: 'it returns false'. Refute it at one input. -/
def rightsAllowedSpecWrong : ChangeSpec := { name := "rightsAllowedSpec", fn := fun _ => fun
  | [d1, d2] => { results := [.lit (.bool false)], args := [d1, d2] }
  | _ => none }
def RightsAllowedSpecWrongFalsely : Prop := rightsAllowedSpecRow.holds Try.pinned (OpenSpec.ofChange rightsAllowedSpecWrong)

/-- 'kinespherelaw46.RightsConsent': WHATEVER THE INPUT: true; the input reads as it did. -/
def rightsConsentSpec : ChangeSpec := { name := "rightsConsent", fn := fun _ => fun
  | [d1, d2] => { results := [.lit (.bool true)], args := [d1, d2] }
  | _ => none }
def rightsConsentRow : OpenClaim := { program := "ytmflfccincbnaaa", sum := "259fc785a40b4897b604726a87379ead1a06ca399c6d89faa3e2e8b64fed1436", func := "kinesphere/kinespherelaw46.RightsConsent", spec := "rightsConsent", unfollowed := true, recurses := true, plainKeys := false, apart := false }
def RightsConsentSaid : Prop := rightsConsentRow.holds Try.pinned (OpenSpec.ofChange rightsConsentSpec)

/-- ITS FALSE NEIGHBOUR: 'it returns false'. Refute it at one input. -/
def rightsConsentWrong : ChangeSpec := { name := "rightsConsent", fn := fun _ => fun
  | [d1, d2] => { results := [.lit (.bool false)], args := [d1, d2] }
  | _ => none }
def RightsConsentWrongFalsely : Prop := rightsConsentRow.holds Try.pinned (OpenSpec.ofChange rightsConsentWrong)

/-- 'kinespherelaw46.RightsKnown': WHATEVER THE INPUT: true; the input reads as it did. -/
def rightsKnownSpec : ChangeSpec := { name := "rightsKnown", fn := fun _ => fun
  | [d1, d2] => { results := [.lit (.bool true)], args := [d1, d2] }
  | _ => none }
def rightsKnownRow : OpenClaim := { program := "ytmflfccincbnaaa", sum := "259fc785a40b4897b604726a87379ead1a06ca399c6d89faa3e2e8b64fed1436", func := "kinesphere/kinespherelaw46.RightsKnown", spec := "rightsKnown", unfollowed := true, recurses := true, plainKeys := false, apart := false }
def RightsKnownSaid : Prop := rightsKnownRow.holds Try.pinned (OpenSpec.ofChange rightsKnownSpec)

/-- ITS FALSE NEIGHBOUR: 'it returns false'. Refute it at one input. -/
def rightsKnownWrong : ChangeSpec := { name := "rightsKnown", fn := fun _ => fun
  | [d1, d2] => { results := [.lit (.bool false)], args := [d1, d2] }
  | _ => none }
def RightsKnownWrongFalsely : Prop := rightsKnownRow.holds Try.pinned (OpenSpec.ofChange rightsKnownWrong)

/-- 'kinespherelaw46.RightsFurther': WHATEVER THE INPUT: true; the input reads as it did. -/
def rightsFurtherSpec : ChangeSpec := { name := "rightsFurther", fn := fun _ => fun
  | [d1, d2, d3] => { results := [.lit (.bool true)], args := [d1, d2, d3] }
  | _ => none }
def rightsFurtherRow : OpenClaim := { program := "ytmflfccincbnaaa", sum := "259fc785a40b4897b604726a87379ead1a06ca399c6d89faa3e2e8b64fed1436", func := "kinesphere/kinespherelaw46.RightsFurther", spec := "rightsFurther", unfollowed := true, recurses := true, plainKeys := false, apart := false }
def RightsFurtherSaid : Prop := rightsFurtherRow.holds Try.pinned (OpenSpec.ofChange rightsFurtherSpec)

/-- ITS FALSE NEIGHBOUR: 'it returns false'. Refute it at one input. -/
def rightsFurtherWrong : ChangeSpec := { name := "rightsFurther", fn := fun _ => fun
  | [d1, d2, d3] => { results := [.lit (.bool false)], args := [d1, d2, d3] }
  | _ => none }
def RightsFurtherWrongFalsely : Prop := rightsFurtherRow.holds Try.pinned (OpenSpec.ofChange rightsFurtherWrong)

/-- 'kinespherelaw46.RightsVoid': WHATEVER THE INPUT: true; the input reads as it did. -/
def rightsVoidSpec : ChangeSpec := { name := "rightsVoid", fn := fun _ => fun
  | [d1, d2, d3, d4, d5, d6] => { results := [.lit (.bool true)], args := [d1, d2, d3, d4, d5, d6] }
  | _ => none }
def rightsVoidRow : OpenClaim := { program := "ytmflfccincbnaaa", sum := "259fc785a40b4897b604726a87379ead1a06ca399c6d89faa3e2e8b64fed1436", func := "kinesphere/kinespherelaw46.RightsVoid", spec := "rightsVoid", unfollowed := true, recurses := true, plainKeys := false, apart := false }
def RightsVoidSaid : Prop := rightsVoidRow.holds Try.pinned (OpenSpec.ofChange rightsVoidSpec)

/-- ITS FALSE NEIGHBOUR: 'it returns false'. Refute it at one input. -/
def rightsVoidWrong : ChangeSpec := { name := "rightsVoid", fn := fun _ => fun
  | [d1, d2, d3, d4, d5, d6] => { results := [.lit (.bool false)], args := [d1, d2, d3, d4, d5, d6] }
  | _ => none }
def RightsVoidWrongFalsely : Prop := rightsVoidRow.holds Try.pinned (OpenSpec.ofChange rightsVoidWrong)

/-- 'kinespherelaw46.RightsEach': WHATEVER THE INPUT: true; the input reads as it did. -/
def rightsEachSpec : ChangeSpec := { name := "rightsEach", fn := fun _ => fun
  | [d1, d2] => { results := [.lit (.bool true)], args := [d1, d2] }
  | _ => none }
def rightsEachRow : OpenClaim := { program := "ytmflfccincbnaaa", sum := "259fc785a40b4897b604726a87379ead1a06ca399c6d89faa3e2e8b64fed1436", func := "kinesphere/kinespherelaw46.RightsEach", spec := "rightsEach", unfollowed := true, recurses := true, plainKeys := false, apart := false }
def RightsEachSaid : Prop := rightsEachRow.holds Try.pinned (OpenSpec.ofChange rightsEachSpec)

/-- ITS FALSE NEIGHBOUR: 'it returns false'. Refute it at one input. -/
def rightsEachWrong : ChangeSpec := { name := "rightsEach", fn := fun _ => fun
  | [d1, d2] => { results := [.lit (.bool false)], args := [d1, d2] }
  | _ => none }
def RightsEachWrongFalsely : Prop := rightsEachRow.holds Try.pinned (OpenSpec.ofChange rightsEachWrong)

/- THE SECOND FORM. 'bulk': how many values and letters a reading holds, each counted each time it is reached (what is shared counts as often as it is met; a slice's spare places count too). A statement '..UptoSaid' is the law's where the arguments, and the package variables that the reading takes, are together of bulk at most 1048576: NARROWER than '..Said'. Prove '..Said' where nothing that the law and all that it calls make is longer than what came in: it says more and counts as full. Else prove '..UptoSaid'. A law counts once. -/
mutual
def uptoBulk {H : Type} : DataW H → Nat
  | .lit (.string bytes) => bytes.length + 1
  | .lit _ => 1
  | .nil => 1
  | .ptr d => uptoBulk d + 1
  | .slice elems spare => uptoBulkAll elems + uptoBulkAll spare + 1
  | .agg parts => uptoBulkAll parts + 1
  | .iface _ d => uptoBulk d + 1
  | .map entries => uptoBulkEntries entries + 1
  | .held _ => 1
def uptoBulkAll {H : Type} : List (DataW H) → Nat
  | [] => 0
  | d :: r => uptoBulk d + uptoBulkAll r
def uptoBulkEntries {H : Type} : List (Lit × DataW H) → Nat
  | [] => 0
  | x :: r => uptoBulkEntry x + uptoBulkEntries r
def uptoBulkEntry {H : Type} : Lit × DataW H → Nat
  | (.string bytes, d) => bytes.length + uptoBulk d + 1
  | (_, d) => uptoBulk d + 1
 end
def uptoSmall : (H : Type) → List (DataW H) → Bool := fun _ ds => decide (uptoBulkAll ds ≤ 1048576)
def OpenSpec.upto (s : _root_.Go.ChangeSpec) : _root_.Go.OpenSpec := { _root_.Go.OpenSpec.ofChange s with cond := some uptoSmall }

/-- 'kinespherelaw46.RightsSpec', WHERE WHAT IT READS IS OF BULK AT MOST 1048576: true; the input reads as it did. -/
def rightsSpecUptoRow : OpenClaim := { program := "ytmflfccincbnaaa", sum := "259fc785a40b4897b604726a87379ead1a06ca399c6d89faa3e2e8b64fed1436", func := "kinesphere/kinespherelaw46.RightsSpec", spec := "rightsSpec", unfollowed := true, recurses := true, plainKeys := false, apart := false, narrowed := true }
def RightsSpecUptoSaid : Prop := rightsSpecUptoRow.holds Try.pinned (OpenSpec.upto rightsSpecSpec)

/-- 'kinespherelaw46.RightsAllowedSpec', WHERE WHAT IT READS IS OF BULK AT MOST 1048576: true; the input reads as it did. -/
def rightsAllowedSpecUptoRow : OpenClaim := { program := "ytmflfccincbnaaa", sum := "259fc785a40b4897b604726a87379ead1a06ca399c6d89faa3e2e8b64fed1436", func := "kinesphere/kinespherelaw46.RightsAllowedSpec", spec := "rightsAllowedSpec", unfollowed := true, recurses := true, plainKeys := false, apart := false, narrowed := true }
def RightsAllowedSpecUptoSaid : Prop := rightsAllowedSpecUptoRow.holds Try.pinned (OpenSpec.upto rightsAllowedSpecSpec)

/-- 'kinespherelaw46.RightsConsent', WHERE WHAT IT READS IS OF BULK AT MOST 1048576: true; the input reads as it did. -/
def rightsConsentUptoRow : OpenClaim := { program := "ytmflfccincbnaaa", sum := "259fc785a40b4897b604726a87379ead1a06ca399c6d89faa3e2e8b64fed1436", func := "kinesphere/kinespherelaw46.RightsConsent", spec := "rightsConsent", unfollowed := true, recurses := true, plainKeys := false, apart := false, narrowed := true }
def RightsConsentUptoSaid : Prop := rightsConsentUptoRow.holds Try.pinned (OpenSpec.upto rightsConsentSpec)

/-- 'kinespherelaw46.RightsKnown', WHERE WHAT IT READS IS OF BULK AT MOST 1048576: true; the input reads as it did. -/
def rightsKnownUptoRow : OpenClaim := { program := "ytmflfccincbnaaa", sum := "259fc785a40b4897b604726a87379ead1a06ca399c6d89faa3e2e8b64fed1436", func := "kinesphere/kinespherelaw46.RightsKnown", spec := "rightsKnown", unfollowed := true, recurses := true, plainKeys := false, apart := false, narrowed := true }
def RightsKnownUptoSaid : Prop := rightsKnownUptoRow.holds Try.pinned (OpenSpec.upto rightsKnownSpec)

/-- 'kinespherelaw46.RightsFurther', WHERE WHAT IT READS IS OF BULK AT MOST 1048576: true; the input reads as it did. -/
def rightsFurtherUptoRow : OpenClaim := { program := "ytmflfccincbnaaa", sum := "259fc785a40b4897b604726a87379ead1a06ca399c6d89faa3e2e8b64fed1436", func := "kinesphere/kinespherelaw46.RightsFurther", spec := "rightsFurther", unfollowed := true, recurses := true, plainKeys := false, apart := false, narrowed := true }
def RightsFurtherUptoSaid : Prop := rightsFurtherUptoRow.holds Try.pinned (OpenSpec.upto rightsFurtherSpec)

/-- 'kinespherelaw46.RightsVoid', WHERE WHAT IT READS IS OF BULK AT MOST 1048576: true; the input reads as it did. -/
def rightsVoidUptoRow : OpenClaim := { program := "ytmflfccincbnaaa", sum := "259fc785a40b4897b604726a87379ead1a06ca399c6d89faa3e2e8b64fed1436", func := "kinesphere/kinespherelaw46.RightsVoid", spec := "rightsVoid", unfollowed := true, recurses := true, plainKeys := false, apart := false, narrowed := true }
def RightsVoidUptoSaid : Prop := rightsVoidUptoRow.holds Try.pinned (OpenSpec.upto rightsVoidSpec)

/-- 'kinespherelaw46.RightsEach', WHERE WHAT IT READS IS OF BULK AT MOST 1048576: true; the input reads as it did. -/
def rightsEachUptoRow : OpenClaim := { program := "ytmflfccincbnaaa", sum := "259fc785a40b4897b604726a87379ead1a06ca399c6d89faa3e2e8b64fed1436", func := "kinesphere/kinespherelaw46.RightsEach", spec := "rightsEach", unfollowed := true, recurses := true, plainKeys := false, apart := false, narrowed := true }
def RightsEachUptoSaid : Prop := rightsEachUptoRow.holds Try.pinned (OpenSpec.upto rightsEachSpec)

end Rows
end Go.Proofs.Ytmflfccincbnaaa
