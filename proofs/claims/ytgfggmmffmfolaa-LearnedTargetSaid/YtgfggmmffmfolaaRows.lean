/-
  No cell of these rows narrows 'for every input' (looked for: loops, veiled, ifaces, maps, wideKeys, modest, calm, conditions, laid).
  DERIVED. THE GIVEN ROWS OF THIS SEAT. 7 by the template 'for every input the law returns true; each argument reads behind the call as it read before'; 0 by the template 'total and deterministic' (their statements: YtgfggmmffmfolaaTotals.lean).
  GIVEN WITH THE SEED: the statements are not yours to turn. If you find one false, say at which input.
  Laid BY PROGRAM, IN A SANDBOX (cutbox-rows.mjs): the forced cells as the released guide's own fill.sh prints them over the translation 89634ec45cd07901… (all of the seat's roots in one cut). By AI agents, Wed Nov 11 2026. No macro, syntax, notation, axiom, sorry.
-/
import Derived.Test.YtgfggmmffmfolaaChecked
import GoSem.Claim
import GoSem.ClaimJoined
import GoSem.ClaimMapViews
import Derived.JoinedTies
import Derived.KernelRfl
namespace Go.Proofs.Ytgfggmmffmfolaa
/- THE CELL 'sum', in the pinned program and in every row, IS THE sha256 OF THE DUMP (.gsa) THAT YtgfggmmffmfolaaProg.lean LOADS. Nothing in Lean hashes anything: it is a label: what it is worth is what the hold of that sum in a sandbox is worth. -/
noncomputable def Try.pinned : Pinned := { name := "ytgfggmmffmfolaa", sum := "89634ec45cd079011965bc1b47cfac4ee1e497d9d2511207c3dd90f632717803", checked := Try.checked }
namespace Rows
def none {H : Type} : Left H := { results := [], args := [] }

/-- 'kinespherelaw39.LearnedSpec': WHATEVER THE INPUT: true; the input reads as it did. -/
def learnedSpecSpec : ChangeSpec := { name := "learnedSpec", fn := fun _ => fun
  | [d1, d2] => { results := [.lit (.bool true)], args := [d1, d2] }
  | _ => none }
def learnedSpecRow : OpenClaim := { program := "ytgfggmmffmfolaa", sum := "89634ec45cd079011965bc1b47cfac4ee1e497d9d2511207c3dd90f632717803", func := "kinesphere/kinespherelaw39.LearnedSpec", spec := "learnedSpec", inPlace := ["slices.overlaps[kinesphere/api.Lesson]"], unfollowed := true, recurses := true, apart := false }
def LearnedSpecSaid : Prop := learnedSpecRow.holds Try.pinned (OpenSpec.ofChange learnedSpecSpec)

/-- ITS FALSE NEIGHBOUR: 'it returns false'. Refute it at one input. -/
def learnedSpecWrong : ChangeSpec := { name := "learnedSpec", fn := fun _ => fun
  | [d1, d2] => { results := [.lit (.bool false)], args := [d1, d2] }
  | _ => none }
def LearnedSpecWrongFalsely : Prop := learnedSpecRow.holds Try.pinned (OpenSpec.ofChange learnedSpecWrong)

/-- 'kinespherelaw39.LearnedHasSpec': WHATEVER THE INPUT: true; the input reads as it did. -/
def learnedHasSpecSpec : ChangeSpec := { name := "learnedHasSpec", fn := fun _ => fun
  | [d1, d2, d3, d4] => { results := [.lit (.bool true)], args := [d1, d2, d3, d4] }
  | _ => none }
def learnedHasSpecRow : OpenClaim := { program := "ytgfggmmffmfolaa", sum := "89634ec45cd079011965bc1b47cfac4ee1e497d9d2511207c3dd90f632717803", func := "kinesphere/kinespherelaw39.LearnedHasSpec", spec := "learnedHasSpec", inPlace := ["slices.overlaps[kinesphere/api.Lesson]"], unfollowed := true, recurses := true, apart := false }
def LearnedHasSpecSaid : Prop := learnedHasSpecRow.holds Try.pinned (OpenSpec.ofChange learnedHasSpecSpec)

/-- ITS FALSE NEIGHBOUR: 'it returns false'. Refute it at one input. -/
def learnedHasSpecWrong : ChangeSpec := { name := "learnedHasSpec", fn := fun _ => fun
  | [d1, d2, d3, d4] => { results := [.lit (.bool false)], args := [d1, d2, d3, d4] }
  | _ => none }
def LearnedHasSpecWrongFalsely : Prop := learnedHasSpecRow.holds Try.pinned (OpenSpec.ofChange learnedHasSpecWrong)

/-- 'kinespherelaw39.LearnedGapSpec': WHATEVER THE INPUT: true; the input reads as it did. -/
def learnedGapSpecSpec : ChangeSpec := { name := "learnedGapSpec", fn := fun _ => fun
  | [d1, d2, d3, d4, d5, d6] => { results := [.lit (.bool true)], args := [d1, d2, d3, d4, d5, d6] }
  | _ => none }
def learnedGapSpecRow : OpenClaim := { program := "ytgfggmmffmfolaa", sum := "89634ec45cd079011965bc1b47cfac4ee1e497d9d2511207c3dd90f632717803", func := "kinesphere/kinespherelaw39.LearnedGapSpec", spec := "learnedGapSpec", inPlace := ["slices.overlaps[kinesphere/api.Lesson]"], unfollowed := true, recurses := true, apart := false }
def LearnedGapSpecSaid : Prop := learnedGapSpecRow.holds Try.pinned (OpenSpec.ofChange learnedGapSpecSpec)

/-- ITS FALSE NEIGHBOUR: 'it returns false'. Refute it at one input. -/
def learnedGapSpecWrong : ChangeSpec := { name := "learnedGapSpec", fn := fun _ => fun
  | [d1, d2, d3, d4, d5, d6] => { results := [.lit (.bool false)], args := [d1, d2, d3, d4, d5, d6] }
  | _ => none }
def LearnedGapSpecWrongFalsely : Prop := learnedGapSpecRow.holds Try.pinned (OpenSpec.ofChange learnedGapSpecWrong)

/-- 'kinespherelaw39.LearnedCausal': WHATEVER THE INPUT: true; the input reads as it did. -/
def learnedCausalSpec : ChangeSpec := { name := "learnedCausal", fn := fun _ => fun
  | [d1, d2, d3, d4] => { results := [.lit (.bool true)], args := [d1, d2, d3, d4] }
  | _ => none }
def learnedCausalRow : OpenClaim := { program := "ytgfggmmffmfolaa", sum := "89634ec45cd079011965bc1b47cfac4ee1e497d9d2511207c3dd90f632717803", func := "kinesphere/kinespherelaw39.LearnedCausal", spec := "learnedCausal", inPlace := ["slices.overlaps[kinesphere/api.Lesson]"], unfollowed := true, recurses := true, apart := false }
def LearnedCausalSaid : Prop := learnedCausalRow.holds Try.pinned (OpenSpec.ofChange learnedCausalSpec)

/-- ITS FALSE NEIGHBOUR: 'it returns false'. Refute it at one input. -/
def learnedCausalWrong : ChangeSpec := { name := "learnedCausal", fn := fun _ => fun
  | [d1, d2, d3, d4] => { results := [.lit (.bool false)], args := [d1, d2, d3, d4] }
  | _ => none }
def LearnedCausalWrongFalsely : Prop := learnedCausalRow.holds Try.pinned (OpenSpec.ofChange learnedCausalWrong)

/-- 'kinespherelaw39.LearnedLast': WHATEVER THE INPUT: true; the input reads as it did. -/
def learnedLastSpec : ChangeSpec := { name := "learnedLast", fn := fun _ => fun
  | [d1, d2, d3] => { results := [.lit (.bool true)], args := [d1, d2, d3] }
  | _ => none }
def learnedLastRow : OpenClaim := { program := "ytgfggmmffmfolaa", sum := "89634ec45cd079011965bc1b47cfac4ee1e497d9d2511207c3dd90f632717803", func := "kinesphere/kinespherelaw39.LearnedLast", spec := "learnedLast", inPlace := ["slices.overlaps[kinesphere/api.Lesson]"], unfollowed := true, recurses := true, apart := false }
def LearnedLastSaid : Prop := learnedLastRow.holds Try.pinned (OpenSpec.ofChange learnedLastSpec)

/-- ITS FALSE NEIGHBOUR: 'it returns false'. Refute it at one input. -/
def learnedLastWrong : ChangeSpec := { name := "learnedLast", fn := fun _ => fun
  | [d1, d2, d3] => { results := [.lit (.bool false)], args := [d1, d2, d3] }
  | _ => none }
def LearnedLastWrongFalsely : Prop := learnedLastRow.holds Try.pinned (OpenSpec.ofChange learnedLastWrong)

/-- 'kinespherelaw39.LearnedCast': WHATEVER THE INPUT: true; the input reads as it did. -/
def learnedCastSpec : ChangeSpec := { name := "learnedCast", fn := fun _ => fun
  | [d1, d2, d3, d4] => { results := [.lit (.bool true)], args := [d1, d2, d3, d4] }
  | _ => none }
def learnedCastRow : OpenClaim := { program := "ytgfggmmffmfolaa", sum := "89634ec45cd079011965bc1b47cfac4ee1e497d9d2511207c3dd90f632717803", func := "kinesphere/kinespherelaw39.LearnedCast", spec := "learnedCast", inPlace := ["slices.overlaps[kinesphere/api.Lesson]"], unfollowed := true, recurses := true, apart := false }
def LearnedCastSaid : Prop := learnedCastRow.holds Try.pinned (OpenSpec.ofChange learnedCastSpec)

/-- ITS FALSE NEIGHBOUR: 'it returns false'. Refute it at one input. -/
def learnedCastWrong : ChangeSpec := { name := "learnedCast", fn := fun _ => fun
  | [d1, d2, d3, d4] => { results := [.lit (.bool false)], args := [d1, d2, d3, d4] }
  | _ => none }
def LearnedCastWrongFalsely : Prop := learnedCastRow.holds Try.pinned (OpenSpec.ofChange learnedCastWrong)

/-- 'kinespherelaw39.LearnedTarget': WHATEVER THE INPUT: true; the input reads as it did. -/
def learnedTargetSpec : ChangeSpec := { name := "learnedTarget", fn := fun _ => fun
  | [d1, d2, d3, d4, d5, d6] => { results := [.lit (.bool true)], args := [d1, d2, d3, d4, d5, d6] }
  | _ => none }
def learnedTargetRow : OpenClaim := { program := "ytgfggmmffmfolaa", sum := "89634ec45cd079011965bc1b47cfac4ee1e497d9d2511207c3dd90f632717803", func := "kinesphere/kinespherelaw39.LearnedTarget", spec := "learnedTarget", inPlace := ["slices.overlaps[kinesphere/api.Lesson]"], unfollowed := true, recurses := true, apart := false }
def LearnedTargetSaid : Prop := learnedTargetRow.holds Try.pinned (OpenSpec.ofChange learnedTargetSpec)

/-- ITS FALSE NEIGHBOUR: 'it returns false'. Refute it at one input. -/
def learnedTargetWrong : ChangeSpec := { name := "learnedTarget", fn := fun _ => fun
  | [d1, d2, d3, d4, d5, d6] => { results := [.lit (.bool false)], args := [d1, d2, d3, d4, d5, d6] }
  | _ => none }
def LearnedTargetWrongFalsely : Prop := learnedTargetRow.holds Try.pinned (OpenSpec.ofChange learnedTargetWrong)

/- THE SECOND FORM. 'bulk': how many values and letters a reading holds, each counted each time it is reached (what is shared counts as often as it is met; a slice's spare places count too). A statement '..UptoSaid' is the law's where the arguments, and the package variables that the reading takes, are together of bulk at most 1048576: NARROWER than '..Said'. Prove '..Said' where nothing that the law and all that it calls make is longer than what came in: it says more and counts as full. Else prove '..UptoSaid'. A law counts once. -/
mutual
def uptoBulk {H : Type} : DataW H → Nat
  | .lit (.string bytes) => bytes.length + 1
  | .lit _ => 1
  | .nil => 1
  | .ptr d => uptoBulk d + 1
  | .slice elems spare => uptoBulkAll elems + uptoBulkAll spare + 1
  | .agg parts => uptoBulkAll parts + 1
  | .iface _ d => uptoBulk d + 1
  | .map entries => uptoBulkEntries entries + 1
  | .held _ => 1
def uptoBulkAll {H : Type} : List (DataW H) → Nat
  | [] => 0
  | d :: r => uptoBulk d + uptoBulkAll r
def uptoBulkEntries {H : Type} : List (Lit × DataW H) → Nat
  | [] => 0
  | x :: r => uptoBulkEntry x + uptoBulkEntries r
def uptoBulkEntry {H : Type} : Lit × DataW H → Nat
  | (.string bytes, d) => bytes.length + uptoBulk d + 1
  | (_, d) => uptoBulk d + 1
 end
def uptoSmall : (H : Type) → List (DataW H) → Bool := fun _ ds => decide (uptoBulkAll ds ≤ 1048576)
def OpenSpec.upto (s : _root_.Go.ChangeSpec) : _root_.Go.OpenSpec := { _root_.Go.OpenSpec.ofChange s with cond := some uptoSmall }

/-- 'kinespherelaw39.LearnedSpec', WHERE WHAT IT READS IS OF BULK AT MOST 1048576: true; the input reads as it did. -/
def learnedSpecUptoRow : OpenClaim := { program := "ytgfggmmffmfolaa", sum := "89634ec45cd079011965bc1b47cfac4ee1e497d9d2511207c3dd90f632717803", func := "kinesphere/kinespherelaw39.LearnedSpec", spec := "learnedSpec", inPlace := ["slices.overlaps[kinesphere/api.Lesson]"], unfollowed := true, recurses := true, apart := false, narrowed := true }
def LearnedSpecUptoSaid : Prop := learnedSpecUptoRow.holds Try.pinned (OpenSpec.upto learnedSpecSpec)

/-- 'kinespherelaw39.LearnedHasSpec', WHERE WHAT IT READS IS OF BULK AT MOST 1048576: true; the input reads as it did. -/
def learnedHasSpecUptoRow : OpenClaim := { program := "ytgfggmmffmfolaa", sum := "89634ec45cd079011965bc1b47cfac4ee1e497d9d2511207c3dd90f632717803", func := "kinesphere/kinespherelaw39.LearnedHasSpec", spec := "learnedHasSpec", inPlace := ["slices.overlaps[kinesphere/api.Lesson]"], unfollowed := true, recurses := true, apart := false, narrowed := true }
def LearnedHasSpecUptoSaid : Prop := learnedHasSpecUptoRow.holds Try.pinned (OpenSpec.upto learnedHasSpecSpec)

/-- 'kinespherelaw39.LearnedGapSpec', WHERE WHAT IT READS IS OF BULK AT MOST 1048576: true; the input reads as it did. -/
def learnedGapSpecUptoRow : OpenClaim := { program := "ytgfggmmffmfolaa", sum := "89634ec45cd079011965bc1b47cfac4ee1e497d9d2511207c3dd90f632717803", func := "kinesphere/kinespherelaw39.LearnedGapSpec", spec := "learnedGapSpec", inPlace := ["slices.overlaps[kinesphere/api.Lesson]"], unfollowed := true, recurses := true, apart := false, narrowed := true }
def LearnedGapSpecUptoSaid : Prop := learnedGapSpecUptoRow.holds Try.pinned (OpenSpec.upto learnedGapSpecSpec)

/-- 'kinespherelaw39.LearnedCausal', WHERE WHAT IT READS IS OF BULK AT MOST 1048576: true; the input reads as it did. -/
def learnedCausalUptoRow : OpenClaim := { program := "ytgfggmmffmfolaa", sum := "89634ec45cd079011965bc1b47cfac4ee1e497d9d2511207c3dd90f632717803", func := "kinesphere/kinespherelaw39.LearnedCausal", spec := "learnedCausal", inPlace := ["slices.overlaps[kinesphere/api.Lesson]"], unfollowed := true, recurses := true, apart := false, narrowed := true }
def LearnedCausalUptoSaid : Prop := learnedCausalUptoRow.holds Try.pinned (OpenSpec.upto learnedCausalSpec)

/-- 'kinespherelaw39.LearnedLast', WHERE WHAT IT READS IS OF BULK AT MOST 1048576: true; the input reads as it did. -/
def learnedLastUptoRow : OpenClaim := { program := "ytgfggmmffmfolaa", sum := "89634ec45cd079011965bc1b47cfac4ee1e497d9d2511207c3dd90f632717803", func := "kinesphere/kinespherelaw39.LearnedLast", spec := "learnedLast", inPlace := ["slices.overlaps[kinesphere/api.Lesson]"], unfollowed := true, recurses := true, apart := false, narrowed := true }
def LearnedLastUptoSaid : Prop := learnedLastUptoRow.holds Try.pinned (OpenSpec.upto learnedLastSpec)

/-- 'kinespherelaw39.LearnedCast', WHERE WHAT IT READS IS OF BULK AT MOST 1048576: true; the input reads as it did. -/
def learnedCastUptoRow : OpenClaim := { program := "ytgfggmmffmfolaa", sum := "89634ec45cd079011965bc1b47cfac4ee1e497d9d2511207c3dd90f632717803", func := "kinesphere/kinespherelaw39.LearnedCast", spec := "learnedCast", inPlace := ["slices.overlaps[kinesphere/api.Lesson]"], unfollowed := true, recurses := true, apart := false, narrowed := true }
def LearnedCastUptoSaid : Prop := learnedCastUptoRow.holds Try.pinned (OpenSpec.upto learnedCastSpec)

/-- 'kinespherelaw39.LearnedTarget', WHERE WHAT IT READS IS OF BULK AT MOST 1048576: true; the input reads as it did. -/
def learnedTargetUptoRow : OpenClaim := { program := "ytgfggmmffmfolaa", sum := "89634ec45cd079011965bc1b47cfac4ee1e497d9d2511207c3dd90f632717803", func := "kinesphere/kinespherelaw39.LearnedTarget", spec := "learnedTarget", inPlace := ["slices.overlaps[kinesphere/api.Lesson]"], unfollowed := true, recurses := true, apart := false, narrowed := true }
def LearnedTargetUptoSaid : Prop := learnedTargetUptoRow.holds Try.pinned (OpenSpec.upto learnedTargetSpec)

end Rows
end Go.Proofs.Ytgfggmmffmfolaa
