/-
  NARROWER THAN 'FOR EVERY INPUT', by the rows' own cells (each row's printed sentence says how): RehearseProofSpec: loops · RehearseEither: loops.
  DERIVED. THE GIVEN ROWS OF THIS SEAT. 7 by the template 'for every input the law returns true; each argument reads behind the call as it read before'; 0 by the template 'total and deterministic' (their statements: YtehkiccapbkhnaaGreatTotals.lean).
  GIVEN WITH THE SEED: the statements are not yours to turn. If you find one false, say at which input.
  Laid BY PROGRAM, IN A SANDBOX (cutbox-rows.mjs): the forced cells as the released guide's own fill.sh prints them over the translation 9a898f38eff3edb7… (all of the seat's roots in one cut). By AI agents, Wed Nov 11 2026. No macro, syntax, notation, axiom, sorry.
-/
import Derived.Test.YtehkiccapbkhnaaGreatChecked
import GoSem.Claim
import GoSem.ClaimJoined
import GoSem.ClaimMapViews
import Derived.JoinedTies
import Derived.KernelRfl
namespace Go.Proofs.YtehkiccapbkhnaaGreat
/- THE CELL 'sum', in the pinned program and in every row, IS THE sha256 OF THE DUMP (.gsa) THAT YtehkiccapbkhnaaGreatProg.lean LOADS. Nothing in Lean hashes anything: it is a label: what it is worth is what the hold of that sum in a sandbox is worth. -/
noncomputable def Tryz.pinned : Pinned := { name := "ytehkiccapbkhnaagreat", sum := "9a898f38eff3edb78c7e5becafb8409539db3450d55d21631bbf96976e287443", checked := Tryz.checked }
namespace Rows
def none {H : Type} : Left H := { results := [], args := [] }

/-- 'kinespherelaw40.RehearseFromSpec': WHATEVER THE INPUT: true; the input reads as it did. -/
def rehearseFromSpecSpec : ChangeSpec := { name := "rehearseFromSpec", fn := fun _ => fun
  | [d1, d2, d3] => { results := [.lit (.bool true)], args := [d1, d2, d3] }
  | _ => none }
def rehearseFromSpecRow : OpenClaim := { program := "ytehkiccapbkhnaagreat", sum := "9a898f38eff3edb78c7e5becafb8409539db3450d55d21631bbf96976e287443", func := "kinesphere/kinespherelaw40.RehearseFromSpec", spec := "rehearseFromSpec", unfollowed := true, recurses := true, plainKeys := false, apart := false }
def RehearseFromSpecSaid : Prop := rehearseFromSpecRow.holds Tryz.pinned (OpenSpec.ofChange rehearseFromSpecSpec)

/-- ITS FALSE NEIGHBOUR: 'it returns false'. Refute it at one input. -/
def rehearseFromSpecWrong : ChangeSpec := { name := "rehearseFromSpec", fn := fun _ => fun
  | [d1, d2, d3] => { results := [.lit (.bool false)], args := [d1, d2, d3] }
  | _ => none }
def RehearseFromSpecWrongFalsely : Prop := rehearseFromSpecRow.holds Tryz.pinned (OpenSpec.ofChange rehearseFromSpecWrong)

/-- 'kinespherelaw40.RehearsePlanSpec': WHATEVER THE INPUT: true; the input reads as it did. -/
def rehearsePlanSpecSpec : ChangeSpec := { name := "rehearsePlanSpec", fn := fun _ => fun
  | [d1, d2] => { results := [.lit (.bool true)], args := [d1, d2] }
  | _ => none }
def rehearsePlanSpecRow : OpenClaim := { program := "ytehkiccapbkhnaagreat", sum := "9a898f38eff3edb78c7e5becafb8409539db3450d55d21631bbf96976e287443", func := "kinesphere/kinespherelaw40.RehearsePlanSpec", spec := "rehearsePlanSpec", unfollowed := true, recurses := true, plainKeys := false, apart := false }
def RehearsePlanSpecSaid : Prop := rehearsePlanSpecRow.holds Tryz.pinned (OpenSpec.ofChange rehearsePlanSpecSpec)

/-- ITS FALSE NEIGHBOUR: 'it returns false'. Refute it at one input. -/
def rehearsePlanSpecWrong : ChangeSpec := { name := "rehearsePlanSpec", fn := fun _ => fun
  | [d1, d2] => { results := [.lit (.bool false)], args := [d1, d2] }
  | _ => none }
def RehearsePlanSpecWrongFalsely : Prop := rehearsePlanSpecRow.holds Tryz.pinned (OpenSpec.ofChange rehearsePlanSpecWrong)

/-- 'kinespherelaw40.RehearseProofSpec': WHATEVER THE INPUT: true; the input reads as it did. -/
def rehearseProofSpecSpec : ChangeSpec := { name := "rehearseProofSpec", fn := fun _ => fun
  | [d1, d2, d3] => { results := [.lit (.bool true)], args := [d1, d2, d3] }
  | _ => none }
def rehearseProofSpecRow : OpenClaim := { program := "ytehkiccapbkhnaagreat", sum := "9a898f38eff3edb78c7e5becafb8409539db3450d55d21631bbf96976e287443", func := "kinesphere/kinespherelaw40.RehearseProofSpec", spec := "rehearseProofSpec", unfollowed := true, recurses := true, loops := true, plainKeys := false, apart := false }
def RehearseProofSpecSaid : Prop := rehearseProofSpecRow.holds Tryz.pinned (OpenSpec.ofChange rehearseProofSpecSpec)

/-- ITS FALSE NEIGHBOUR: 'it returns false'. Refute it at one input. -/
def rehearseProofSpecWrong : ChangeSpec := { name := "rehearseProofSpec", fn := fun _ => fun
  | [d1, d2, d3] => { results := [.lit (.bool false)], args := [d1, d2, d3] }
  | _ => none }
def RehearseProofSpecWrongFalsely : Prop := rehearseProofSpecRow.holds Tryz.pinned (OpenSpec.ofChange rehearseProofSpecWrong)

/-- 'kinespherelaw40.RehearseEither': WHATEVER THE INPUT: true; the input reads as it did. -/
def rehearseEitherSpec : ChangeSpec := { name := "rehearseEither", fn := fun _ => fun
  | [d1, d2, d3] => { results := [.lit (.bool true)], args := [d1, d2, d3] }
  | _ => none }
def rehearseEitherRow : OpenClaim := { program := "ytehkiccapbkhnaagreat", sum := "9a898f38eff3edb78c7e5becafb8409539db3450d55d21631bbf96976e287443", func := "kinesphere/kinespherelaw40.RehearseEither", spec := "rehearseEither", unfollowed := true, recurses := true, loops := true, plainKeys := false, apart := false }
def RehearseEitherSaid : Prop := rehearseEitherRow.holds Tryz.pinned (OpenSpec.ofChange rehearseEitherSpec)

/-- ITS FALSE NEIGHBOUR: 'it returns false'. Refute it at one input. -/
def rehearseEitherWrong : ChangeSpec := { name := "rehearseEither", fn := fun _ => fun
  | [d1, d2, d3] => { results := [.lit (.bool false)], args := [d1, d2, d3] }
  | _ => none }
def RehearseEitherWrongFalsely : Prop := rehearseEitherRow.holds Tryz.pinned (OpenSpec.ofChange rehearseEitherWrong)

/-- 'kinespherelaw40.RehearseKeeps': WHATEVER THE INPUT: true; the input reads as it did. -/
def rehearseKeepsSpec : ChangeSpec := { name := "rehearseKeeps", fn := fun _ => fun
  | [d1, d2, d3] => { results := [.lit (.bool true)], args := [d1, d2, d3] }
  | _ => none }
def rehearseKeepsRow : OpenClaim := { program := "ytehkiccapbkhnaagreat", sum := "9a898f38eff3edb78c7e5becafb8409539db3450d55d21631bbf96976e287443", func := "kinesphere/kinespherelaw40.RehearseKeeps", spec := "rehearseKeeps", unfollowed := true, recurses := true, plainKeys := false, apart := false }
def RehearseKeepsSaid : Prop := rehearseKeepsRow.holds Tryz.pinned (OpenSpec.ofChange rehearseKeepsSpec)

/-- ITS FALSE NEIGHBOUR: 'it returns false'. Refute it at one input. -/
def rehearseKeepsWrong : ChangeSpec := { name := "rehearseKeeps", fn := fun _ => fun
  | [d1, d2, d3] => { results := [.lit (.bool false)], args := [d1, d2, d3] }
  | _ => none }
def RehearseKeepsWrongFalsely : Prop := rehearseKeepsRow.holds Tryz.pinned (OpenSpec.ofChange rehearseKeepsWrong)

/-- 'kinespherelaw40.RehearseTogether': WHATEVER THE INPUT: true; the input reads as it did. -/
def rehearseTogetherSpec : ChangeSpec := { name := "rehearseTogether", fn := fun _ => fun
  | [d1, d2, d3, d4, d5] => { results := [.lit (.bool true)], args := [d1, d2, d3, d4, d5] }
  | _ => none }
def rehearseTogetherRow : OpenClaim := { program := "ytehkiccapbkhnaagreat", sum := "9a898f38eff3edb78c7e5becafb8409539db3450d55d21631bbf96976e287443", func := "kinesphere/kinespherelaw40.RehearseTogether", spec := "rehearseTogether", unfollowed := true, recurses := true, plainKeys := false, apart := false }
def RehearseTogetherSaid : Prop := rehearseTogetherRow.holds Tryz.pinned (OpenSpec.ofChange rehearseTogetherSpec)

/-- ITS FALSE NEIGHBOUR: 'it returns false'. Refute it at one input. -/
def rehearseTogetherWrong : ChangeSpec := { name := "rehearseTogether", fn := fun _ => fun
  | [d1, d2, d3, d4, d5] => { results := [.lit (.bool false)], args := [d1, d2, d3, d4, d5] }
  | _ => none }
def RehearseTogetherWrongFalsely : Prop := rehearseTogetherRow.holds Tryz.pinned (OpenSpec.ofChange rehearseTogetherWrong)

/-- 'kinespherelaw40.RehearseMore': WHATEVER THE INPUT: true; the input reads as it did. -/
def rehearseMoreSpec : ChangeSpec := { name := "rehearseMore", fn := fun _ => fun
  | [d1, d2, d3, d4, d5, d6] => { results := [.lit (.bool true)], args := [d1, d2, d3, d4, d5, d6] }
  | _ => none }
def rehearseMoreRow : OpenClaim := { program := "ytehkiccapbkhnaagreat", sum := "9a898f38eff3edb78c7e5becafb8409539db3450d55d21631bbf96976e287443", func := "kinesphere/kinespherelaw40.RehearseMore", spec := "rehearseMore", unfollowed := true, recurses := true, plainKeys := false, apart := false }
def RehearseMoreSaid : Prop := rehearseMoreRow.holds Tryz.pinned (OpenSpec.ofChange rehearseMoreSpec)

/-- ITS FALSE NEIGHBOUR: 'it returns false'. Refute it at one input. -/
def rehearseMoreWrong : ChangeSpec := { name := "rehearseMore", fn := fun _ => fun
  | [d1, d2, d3, d4, d5, d6] => { results := [.lit (.bool false)], args := [d1, d2, d3, d4, d5, d6] }
  | _ => none }
def RehearseMoreWrongFalsely : Prop := rehearseMoreRow.holds Tryz.pinned (OpenSpec.ofChange rehearseMoreWrong)

/- THE SECOND FORM. 'bulk': how many values and letters a reading holds, each counted each time it is reached (what is shared counts as often as it is met; a slice's spare places count too). A statement '..UptoSaid' is the law's where the arguments, and the package variables that the reading takes, are together of bulk at most 1048576: NARROWER than '..Said'. Prove '..Said' where nothing that the law and all that it calls make is longer than what came in: it says more and counts as full. Else prove '..UptoSaid'. A law counts once. -/
mutual
def uptoBulk {H : Type} : DataW H → Nat
  | .lit (.string bytes) => bytes.length + 1
  | .lit _ => 1
  | .nil => 1
  | .ptr d => uptoBulk d + 1
  | .slice elems spare => uptoBulkAll elems + uptoBulkAll spare + 1
  | .agg parts => uptoBulkAll parts + 1
  | .iface _ d => uptoBulk d + 1
  | .map entries => uptoBulkEntries entries + 1
  | .held _ => 1
def uptoBulkAll {H : Type} : List (DataW H) → Nat
  | [] => 0
  | d :: r => uptoBulk d + uptoBulkAll r
def uptoBulkEntries {H : Type} : List (Lit × DataW H) → Nat
  | [] => 0
  | x :: r => uptoBulkEntry x + uptoBulkEntries r
def uptoBulkEntry {H : Type} : Lit × DataW H → Nat
  | (.string bytes, d) => bytes.length + uptoBulk d + 1
  | (_, d) => uptoBulk d + 1
 end
def uptoSmall : (H : Type) → List (DataW H) → Bool := fun _ ds => decide (uptoBulkAll ds ≤ 1048576)
def OpenSpec.upto (s : _root_.Go.ChangeSpec) : _root_.Go.OpenSpec := { _root_.Go.OpenSpec.ofChange s with cond := some uptoSmall }

/-- 'kinespherelaw40.RehearseFromSpec', WHERE WHAT IT READS IS OF BULK AT MOST 1048576: true; the input reads as it did. -/
def rehearseFromSpecUptoRow : OpenClaim := { program := "ytehkiccapbkhnaagreat", sum := "9a898f38eff3edb78c7e5becafb8409539db3450d55d21631bbf96976e287443", func := "kinesphere/kinespherelaw40.RehearseFromSpec", spec := "rehearseFromSpec", unfollowed := true, recurses := true, plainKeys := false, apart := false, narrowed := true }
def RehearseFromSpecUptoSaid : Prop := rehearseFromSpecUptoRow.holds Tryz.pinned (OpenSpec.upto rehearseFromSpecSpec)

/-- 'kinespherelaw40.RehearsePlanSpec', WHERE WHAT IT READS IS OF BULK AT MOST 1048576: true; the input reads as it did. -/
def rehearsePlanSpecUptoRow : OpenClaim := { program := "ytehkiccapbkhnaagreat", sum := "9a898f38eff3edb78c7e5becafb8409539db3450d55d21631bbf96976e287443", func := "kinesphere/kinespherelaw40.RehearsePlanSpec", spec := "rehearsePlanSpec", unfollowed := true, recurses := true, plainKeys := false, apart := false, narrowed := true }
def RehearsePlanSpecUptoSaid : Prop := rehearsePlanSpecUptoRow.holds Tryz.pinned (OpenSpec.upto rehearsePlanSpecSpec)

/-- 'kinespherelaw40.RehearseProofSpec', WHERE WHAT IT READS IS OF BULK AT MOST 1048576: true; the input reads as it did. -/
def rehearseProofSpecUptoRow : OpenClaim := { program := "ytehkiccapbkhnaagreat", sum := "9a898f38eff3edb78c7e5becafb8409539db3450d55d21631bbf96976e287443", func := "kinesphere/kinespherelaw40.RehearseProofSpec", spec := "rehearseProofSpec", unfollowed := true, recurses := true, loops := true, plainKeys := false, apart := false, narrowed := true }
def RehearseProofSpecUptoSaid : Prop := rehearseProofSpecUptoRow.holds Tryz.pinned (OpenSpec.upto rehearseProofSpecSpec)

/-- 'kinespherelaw40.RehearseEither', WHERE WHAT IT READS IS OF BULK AT MOST 1048576: true; the input reads as it did. -/
def rehearseEitherUptoRow : OpenClaim := { program := "ytehkiccapbkhnaagreat", sum := "9a898f38eff3edb78c7e5becafb8409539db3450d55d21631bbf96976e287443", func := "kinesphere/kinespherelaw40.RehearseEither", spec := "rehearseEither", unfollowed := true, recurses := true, loops := true, plainKeys := false, apart := false, narrowed := true }
def RehearseEitherUptoSaid : Prop := rehearseEitherUptoRow.holds Tryz.pinned (OpenSpec.upto rehearseEitherSpec)

/-- 'kinespherelaw40.RehearseKeeps', WHERE WHAT IT READS IS OF BULK AT MOST 1048576: true; the input reads as it did. -/
def rehearseKeepsUptoRow : OpenClaim := { program := "ytehkiccapbkhnaagreat", sum := "9a898f38eff3edb78c7e5becafb8409539db3450d55d21631bbf96976e287443", func := "kinesphere/kinespherelaw40.RehearseKeeps", spec := "rehearseKeeps", unfollowed := true, recurses := true, plainKeys := false, apart := false, narrowed := true }
def RehearseKeepsUptoSaid : Prop := rehearseKeepsUptoRow.holds Tryz.pinned (OpenSpec.upto rehearseKeepsSpec)

/-- 'kinespherelaw40.RehearseTogether', WHERE WHAT IT READS IS OF BULK AT MOST 1048576: true; the input reads as it did. -/
def rehearseTogetherUptoRow : OpenClaim := { program := "ytehkiccapbkhnaagreat", sum := "9a898f38eff3edb78c7e5becafb8409539db3450d55d21631bbf96976e287443", func := "kinesphere/kinespherelaw40.RehearseTogether", spec := "rehearseTogether", unfollowed := true, recurses := true, plainKeys := false, apart := false, narrowed := true }
def RehearseTogetherUptoSaid : Prop := rehearseTogetherUptoRow.holds Tryz.pinned (OpenSpec.upto rehearseTogetherSpec)

/-- 'kinespherelaw40.RehearseMore', WHERE WHAT IT READS IS OF BULK AT MOST 1048576: true; the input reads as it did. -/
def rehearseMoreUptoRow : OpenClaim := { program := "ytehkiccapbkhnaagreat", sum := "9a898f38eff3edb78c7e5becafb8409539db3450d55d21631bbf96976e287443", func := "kinesphere/kinespherelaw40.RehearseMore", spec := "rehearseMore", unfollowed := true, recurses := true, plainKeys := false, apart := false, narrowed := true }
def RehearseMoreUptoSaid : Prop := rehearseMoreUptoRow.holds Tryz.pinned (OpenSpec.upto rehearseMoreSpec)

end Rows
end Go.Proofs.YtehkiccapbkhnaaGreat
