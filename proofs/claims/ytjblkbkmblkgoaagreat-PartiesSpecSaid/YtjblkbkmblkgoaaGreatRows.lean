/-
  No cell of these rows narrows 'for every input' (looked for: loops, veiled, ifaces, maps, wideKeys, modest, calm, conditions, laid).
  DERIVED. THE GIVEN ROWS OF THIS SEAT. 7 by the template 'for every input the law returns true; each argument reads behind the call as it read before'; 0 by the template 'total and deterministic' (their statements: YtjblkbkmblkgoaaGreatTotals.lean).
  GIVEN WITH THE SEED: the statements are not yours to turn. If you find one false, say at which input.
  Laid BY PROGRAM, IN A SANDBOX (cutbox-rows.mjs): the forced cells as the released guide's own fill.sh prints them over the translation 4b97ea59d709610b… (all of the seat's roots in one cut). By AI agents, Wed Nov 11 2026. No macro, syntax, notation, axiom, sorry.
-/
import Derived.Test.YtjblkbkmblkgoaaGreatChecked
import GoSem.Claim
import GoSem.ClaimJoined
import GoSem.ClaimMapViews
import Derived.JoinedTies
import Derived.KernelRfl
namespace Go.Proofs.YtjblkbkmblkgoaaGreat
/- THE CELL 'sum', in the pinned program and in every row, IS THE sha256 OF THE DUMP (.gsa) THAT YtjblkbkmblkgoaaGreatProg.lean LOADS. Nothing in Lean hashes anything: it is a label: what it is worth is what the hold of that sum in a sandbox is worth. -/
noncomputable def Tryz.pinned : Pinned := { name := "ytjblkbkmblkgoaagreat", sum := "4b97ea59d709610b09907be59aea3add02a3ba5d725e50ff4282ba59db93671d", checked := Tryz.checked }
namespace Rows
def none {H : Type} : Left H := { results := [], args := [] }

/-- 'kinespherelaw57.PartiesSpec': WHATEVER THE INPUT: true; the input reads as it did. -/
def partiesSpecSpec : ChangeSpec := { name := "partiesSpec", fn := fun _ => fun
  | [d1, d2, d3] => { results := [.lit (.bool true)], args := [d1, d2, d3] }
  | _ => none }
def partiesSpecRow : OpenClaim := { program := "ytjblkbkmblkgoaagreat", sum := "4b97ea59d709610b09907be59aea3add02a3ba5d725e50ff4282ba59db93671d", func := "kinesphere/kinespherelaw57.PartiesSpec", spec := "partiesSpec", inPlace := ["slices.overlaps[kinesphere/api.Limit]", "slices.overlaps[kinesphere/api.Right]", "internal/bytealg.abigen_runtime_cmpstring", "slices.overlaps[kinesphere/api.Note]"], unfollowed := true, recurses := true, apart := false }
def PartiesSpecSaid : Prop := partiesSpecRow.holds Tryz.pinned (OpenSpec.ofChange partiesSpecSpec)

/-- ITS FALSE NEIGHBOUR: 'it returns false'. Refute it at one input. -/
def partiesSpecWrong : ChangeSpec := { name := "partiesSpec", fn := fun _ => fun
  | [d1, d2, d3] => { results := [.lit (.bool false)], args := [d1, d2, d3] }
  | _ => none }
def PartiesSpecWrongFalsely : Prop := partiesSpecRow.holds Tryz.pinned (OpenSpec.ofChange partiesSpecWrong)

/-- 'kinespherelaw57.PartiesWorldSpec': WHATEVER THE INPUT: true; the input reads as it did. -/
def partiesWorldSpecSpec : ChangeSpec := { name := "partiesWorldSpec", fn := fun _ => fun
  | [d1, d2] => { results := [.lit (.bool true)], args := [d1, d2] }
  | _ => none }
def partiesWorldSpecRow : OpenClaim := { program := "ytjblkbkmblkgoaagreat", sum := "4b97ea59d709610b09907be59aea3add02a3ba5d725e50ff4282ba59db93671d", func := "kinesphere/kinespherelaw57.PartiesWorldSpec", spec := "partiesWorldSpec", inPlace := ["slices.overlaps[kinesphere/api.Limit]", "slices.overlaps[kinesphere/api.Right]", "internal/bytealg.abigen_runtime_cmpstring", "slices.overlaps[kinesphere/api.Note]"], unfollowed := true, recurses := true, apart := false }
def PartiesWorldSpecSaid : Prop := partiesWorldSpecRow.holds Tryz.pinned (OpenSpec.ofChange partiesWorldSpecSpec)

/-- ITS FALSE NEIGHBOUR: 'it returns false'. Refute it at one input. -/
def partiesWorldSpecWrong : ChangeSpec := { name := "partiesWorldSpec", fn := fun _ => fun
  | [d1, d2] => { results := [.lit (.bool false)], args := [d1, d2] }
  | _ => none }
def PartiesWorldSpecWrongFalsely : Prop := partiesWorldSpecRow.holds Tryz.pinned (OpenSpec.ofChange partiesWorldSpecWrong)

/-- 'kinespherelaw57.PartiesConverge': WHATEVER THE INPUT: true; the input reads as it did. -/
def partiesConvergeSpec : ChangeSpec := { name := "partiesConverge", fn := fun _ => fun
  | [d1, d2, d3] => { results := [.lit (.bool true)], args := [d1, d2, d3] }
  | _ => none }
def partiesConvergeRow : OpenClaim := { program := "ytjblkbkmblkgoaagreat", sum := "4b97ea59d709610b09907be59aea3add02a3ba5d725e50ff4282ba59db93671d", func := "kinesphere/kinespherelaw57.PartiesConverge", spec := "partiesConverge", inPlace := ["slices.overlaps[kinesphere/api.Limit]", "slices.overlaps[kinesphere/api.Right]", "internal/bytealg.abigen_runtime_cmpstring", "slices.overlaps[kinesphere/api.Note]"], unfollowed := true, recurses := true, apart := false }
def PartiesConvergeSaid : Prop := partiesConvergeRow.holds Tryz.pinned (OpenSpec.ofChange partiesConvergeSpec)

/-- ITS FALSE NEIGHBOUR: 'it returns false'. Refute it at one input. -/
def partiesConvergeWrong : ChangeSpec := { name := "partiesConverge", fn := fun _ => fun
  | [d1, d2, d3] => { results := [.lit (.bool false)], args := [d1, d2, d3] }
  | _ => none }
def PartiesConvergeWrongFalsely : Prop := partiesConvergeRow.holds Tryz.pinned (OpenSpec.ofChange partiesConvergeWrong)

/-- 'kinespherelaw57.PartiesKnown': WHATEVER THE INPUT: true; the input reads as it did. -/
def partiesKnownSpec : ChangeSpec := { name := "partiesKnown", fn := fun _ => fun
  | [d1, d2] => { results := [.lit (.bool true)], args := [d1, d2] }
  | _ => none }
def partiesKnownRow : OpenClaim := { program := "ytjblkbkmblkgoaagreat", sum := "4b97ea59d709610b09907be59aea3add02a3ba5d725e50ff4282ba59db93671d", func := "kinesphere/kinespherelaw57.PartiesKnown", spec := "partiesKnown", inPlace := ["slices.overlaps[kinesphere/api.Limit]", "slices.overlaps[kinesphere/api.Right]", "internal/bytealg.abigen_runtime_cmpstring", "slices.overlaps[kinesphere/api.Note]"], unfollowed := true, recurses := true, apart := false }
def PartiesKnownSaid : Prop := partiesKnownRow.holds Tryz.pinned (OpenSpec.ofChange partiesKnownSpec)

/-- ITS FALSE NEIGHBOUR: 'it returns false'. Refute it at one input. -/
def partiesKnownWrong : ChangeSpec := { name := "partiesKnown", fn := fun _ => fun
  | [d1, d2] => { results := [.lit (.bool false)], args := [d1, d2] }
  | _ => none }
def PartiesKnownWrongFalsely : Prop := partiesKnownRow.holds Tryz.pinned (OpenSpec.ofChange partiesKnownWrong)

/-- 'kinespherelaw57.PartiesOrder': WHATEVER THE INPUT: true; the input reads as it did. -/
def partiesOrderSpec : ChangeSpec := { name := "partiesOrder", fn := fun _ => fun
  | [d1, d2, d3] => { results := [.lit (.bool true)], args := [d1, d2, d3] }
  | _ => none }
def partiesOrderRow : OpenClaim := { program := "ytjblkbkmblkgoaagreat", sum := "4b97ea59d709610b09907be59aea3add02a3ba5d725e50ff4282ba59db93671d", func := "kinesphere/kinespherelaw57.PartiesOrder", spec := "partiesOrder", inPlace := ["slices.overlaps[kinesphere/api.Limit]", "slices.overlaps[kinesphere/api.Right]", "internal/bytealg.abigen_runtime_cmpstring", "slices.overlaps[kinesphere/api.Note]"], unfollowed := true, recurses := true, apart := false }
def PartiesOrderSaid : Prop := partiesOrderRow.holds Tryz.pinned (OpenSpec.ofChange partiesOrderSpec)

/-- ITS FALSE NEIGHBOUR: 'it returns false'. Refute it at one input. -/
def partiesOrderWrong : ChangeSpec := { name := "partiesOrder", fn := fun _ => fun
  | [d1, d2, d3] => { results := [.lit (.bool false)], args := [d1, d2, d3] }
  | _ => none }
def PartiesOrderWrongFalsely : Prop := partiesOrderRow.holds Tryz.pinned (OpenSpec.ofChange partiesOrderWrong)

/-- 'kinespherelaw57.PartiesWorld': WHATEVER THE INPUT: true; the input reads as it did. -/
def partiesWorldSpec : ChangeSpec := { name := "partiesWorld", fn := fun _ => fun
  | [d] => { results := [.lit (.bool true)], args := [d] }
  | _ => none }
def partiesWorldRow : OpenClaim := { program := "ytjblkbkmblkgoaagreat", sum := "4b97ea59d709610b09907be59aea3add02a3ba5d725e50ff4282ba59db93671d", func := "kinesphere/kinespherelaw57.PartiesWorld", spec := "partiesWorld", inPlace := ["slices.overlaps[kinesphere/api.Limit]", "slices.overlaps[kinesphere/api.Right]", "internal/bytealg.abigen_runtime_cmpstring", "slices.overlaps[kinesphere/api.Note]"], unfollowed := true, recurses := true, apart := false }
def PartiesWorldSaid : Prop := partiesWorldRow.holds Tryz.pinned (OpenSpec.ofChange partiesWorldSpec)

/-- ITS FALSE NEIGHBOUR: 'it returns false'. Refute it at one input. -/
def partiesWorldWrong : ChangeSpec := { name := "partiesWorld", fn := fun _ => fun
  | [d] => { results := [.lit (.bool false)], args := [d] }
  | _ => none }
def PartiesWorldWrongFalsely : Prop := partiesWorldRow.holds Tryz.pinned (OpenSpec.ofChange partiesWorldWrong)

/-- 'kinespherelaw57.PartiesKept': WHATEVER THE INPUT: true; the input reads as it did. -/
def partiesKeptSpec : ChangeSpec := { name := "partiesKept", fn := fun _ => fun
  | [d1, d2, d3] => { results := [.lit (.bool true)], args := [d1, d2, d3] }
  | _ => none }
def partiesKeptRow : OpenClaim := { program := "ytjblkbkmblkgoaagreat", sum := "4b97ea59d709610b09907be59aea3add02a3ba5d725e50ff4282ba59db93671d", func := "kinesphere/kinespherelaw57.PartiesKept", spec := "partiesKept", inPlace := ["slices.overlaps[kinesphere/api.Limit]", "slices.overlaps[kinesphere/api.Right]", "internal/bytealg.abigen_runtime_cmpstring", "slices.overlaps[kinesphere/api.Note]"], unfollowed := true, recurses := true, apart := false }
def PartiesKeptSaid : Prop := partiesKeptRow.holds Tryz.pinned (OpenSpec.ofChange partiesKeptSpec)

/-- ITS FALSE NEIGHBOUR: 'it returns false'. Refute it at one input. -/
def partiesKeptWrong : ChangeSpec := { name := "partiesKept", fn := fun _ => fun
  | [d1, d2, d3] => { results := [.lit (.bool false)], args := [d1, d2, d3] }
  | _ => none }
def PartiesKeptWrongFalsely : Prop := partiesKeptRow.holds Tryz.pinned (OpenSpec.ofChange partiesKeptWrong)

/- THE SECOND FORM. 'bulk': how many values and letters a reading holds, each counted each time it is reached (what is shared counts as often as it is met; a slice's spare places count too). A statement '..UptoSaid' is the law's where the arguments, and the package variables that the reading takes, are together of bulk at most 1048576: NARROWER than '..Said'. Prove '..Said' where nothing that the law and all that it calls make is longer than what came in: it says more and counts as full. Else prove '..UptoSaid'. A law counts once. -/
mutual
def uptoBulk {H : Type} : DataW H → Nat
  | .lit (.string bytes) => bytes.length + 1
  | .lit _ => 1
  | .nil => 1
  | .ptr d => uptoBulk d + 1
  | .slice elems spare => uptoBulkAll elems + uptoBulkAll spare + 1
  | .agg parts => uptoBulkAll parts + 1
  | .iface _ d => uptoBulk d + 1
  | .map entries => uptoBulkEntries entries + 1
  | .held _ => 1
def uptoBulkAll {H : Type} : List (DataW H) → Nat
  | [] => 0
  | d :: r => uptoBulk d + uptoBulkAll r
def uptoBulkEntries {H : Type} : List (Lit × DataW H) → Nat
  | [] => 0
  | x :: r => uptoBulkEntry x + uptoBulkEntries r
def uptoBulkEntry {H : Type} : Lit × DataW H → Nat
  | (.string bytes, d) => bytes.length + uptoBulk d + 1
  | (_, d) => uptoBulk d + 1
 end
def uptoSmall : (H : Type) → List (DataW H) → Bool := fun _ ds => decide (uptoBulkAll ds ≤ 1048576)
def OpenSpec.upto (s : _root_.Go.ChangeSpec) : _root_.Go.OpenSpec := { _root_.Go.OpenSpec.ofChange s with cond := some uptoSmall }

/-- 'kinespherelaw57.PartiesSpec', WHERE WHAT IT READS IS OF BULK AT MOST 1048576: true; the input reads as it did. -/
def partiesSpecUptoRow : OpenClaim := { program := "ytjblkbkmblkgoaagreat", sum := "4b97ea59d709610b09907be59aea3add02a3ba5d725e50ff4282ba59db93671d", func := "kinesphere/kinespherelaw57.PartiesSpec", spec := "partiesSpec", inPlace := ["slices.overlaps[kinesphere/api.Limit]", "slices.overlaps[kinesphere/api.Right]", "internal/bytealg.abigen_runtime_cmpstring", "slices.overlaps[kinesphere/api.Note]"], unfollowed := true, recurses := true, apart := false, narrowed := true }
def PartiesSpecUptoSaid : Prop := partiesSpecUptoRow.holds Tryz.pinned (OpenSpec.upto partiesSpecSpec)

/-- 'kinespherelaw57.PartiesWorldSpec', WHERE WHAT IT READS IS OF BULK AT MOST 1048576: true; the input reads as it did. -/
def partiesWorldSpecUptoRow : OpenClaim := { program := "ytjblkbkmblkgoaagreat", sum := "4b97ea59d709610b09907be59aea3add02a3ba5d725e50ff4282ba59db93671d", func := "kinesphere/kinespherelaw57.PartiesWorldSpec", spec := "partiesWorldSpec", inPlace := ["slices.overlaps[kinesphere/api.Limit]", "slices.overlaps[kinesphere/api.Right]", "internal/bytealg.abigen_runtime_cmpstring", "slices.overlaps[kinesphere/api.Note]"], unfollowed := true, recurses := true, apart := false, narrowed := true }
def PartiesWorldSpecUptoSaid : Prop := partiesWorldSpecUptoRow.holds Tryz.pinned (OpenSpec.upto partiesWorldSpecSpec)

/-- 'kinespherelaw57.PartiesConverge', WHERE WHAT IT READS IS OF BULK AT MOST 1048576: true; the input reads as it did. -/
def partiesConvergeUptoRow : OpenClaim := { program := "ytjblkbkmblkgoaagreat", sum := "4b97ea59d709610b09907be59aea3add02a3ba5d725e50ff4282ba59db93671d", func := "kinesphere/kinespherelaw57.PartiesConverge", spec := "partiesConverge", inPlace := ["slices.overlaps[kinesphere/api.Limit]", "slices.overlaps[kinesphere/api.Right]", "internal/bytealg.abigen_runtime_cmpstring", "slices.overlaps[kinesphere/api.Note]"], unfollowed := true, recurses := true, apart := false, narrowed := true }
def PartiesConvergeUptoSaid : Prop := partiesConvergeUptoRow.holds Tryz.pinned (OpenSpec.upto partiesConvergeSpec)

/-- 'kinespherelaw57.PartiesKnown', WHERE WHAT IT READS IS OF BULK AT MOST 1048576: true; the input reads as it did. -/
def partiesKnownUptoRow : OpenClaim := { program := "ytjblkbkmblkgoaagreat", sum := "4b97ea59d709610b09907be59aea3add02a3ba5d725e50ff4282ba59db93671d", func := "kinesphere/kinespherelaw57.PartiesKnown", spec := "partiesKnown", inPlace := ["slices.overlaps[kinesphere/api.Limit]", "slices.overlaps[kinesphere/api.Right]", "internal/bytealg.abigen_runtime_cmpstring", "slices.overlaps[kinesphere/api.Note]"], unfollowed := true, recurses := true, apart := false, narrowed := true }
def PartiesKnownUptoSaid : Prop := partiesKnownUptoRow.holds Tryz.pinned (OpenSpec.upto partiesKnownSpec)

/-- 'kinespherelaw57.PartiesOrder', WHERE WHAT IT READS IS OF BULK AT MOST 1048576: true; the input reads as it did. -/
def partiesOrderUptoRow : OpenClaim := { program := "ytjblkbkmblkgoaagreat", sum := "4b97ea59d709610b09907be59aea3add02a3ba5d725e50ff4282ba59db93671d", func := "kinesphere/kinespherelaw57.PartiesOrder", spec := "partiesOrder", inPlace := ["slices.overlaps[kinesphere/api.Limit]", "slices.overlaps[kinesphere/api.Right]", "internal/bytealg.abigen_runtime_cmpstring", "slices.overlaps[kinesphere/api.Note]"], unfollowed := true, recurses := true, apart := false, narrowed := true }
def PartiesOrderUptoSaid : Prop := partiesOrderUptoRow.holds Tryz.pinned (OpenSpec.upto partiesOrderSpec)

/-- 'kinespherelaw57.PartiesWorld', WHERE WHAT IT READS IS OF BULK AT MOST 1048576: true; the input reads as it did. -/
def partiesWorldUptoRow : OpenClaim := { program := "ytjblkbkmblkgoaagreat", sum := "4b97ea59d709610b09907be59aea3add02a3ba5d725e50ff4282ba59db93671d", func := "kinesphere/kinespherelaw57.PartiesWorld", spec := "partiesWorld", inPlace := ["slices.overlaps[kinesphere/api.Limit]", "slices.overlaps[kinesphere/api.Right]", "internal/bytealg.abigen_runtime_cmpstring", "slices.overlaps[kinesphere/api.Note]"], unfollowed := true, recurses := true, apart := false, narrowed := true }
def PartiesWorldUptoSaid : Prop := partiesWorldUptoRow.holds Tryz.pinned (OpenSpec.upto partiesWorldSpec)

/-- 'kinespherelaw57.PartiesKept', WHERE WHAT IT READS IS OF BULK AT MOST 1048576: true; the input reads as it did. -/
def partiesKeptUptoRow : OpenClaim := { program := "ytjblkbkmblkgoaagreat", sum := "4b97ea59d709610b09907be59aea3add02a3ba5d725e50ff4282ba59db93671d", func := "kinesphere/kinespherelaw57.PartiesKept", spec := "partiesKept", inPlace := ["slices.overlaps[kinesphere/api.Limit]", "slices.overlaps[kinesphere/api.Right]", "internal/bytealg.abigen_runtime_cmpstring", "slices.overlaps[kinesphere/api.Note]"], unfollowed := true, recurses := true, apart := false, narrowed := true }
def PartiesKeptUptoSaid : Prop := partiesKeptUptoRow.holds Tryz.pinned (OpenSpec.upto partiesKeptSpec)

end Rows
end Go.Proofs.YtjblkbkmblkgoaaGreat
