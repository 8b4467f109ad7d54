/-
  No cell of these rows narrows 'for every input' (looked for: loops, veiled, ifaces, maps, wideKeys, modest, calm, conditions, laid).
  DERIVED. THE GIVEN ROWS OF THIS SEAT. 5 by the template 'for every input the law returns true; each argument reads behind the call as it read before'; 0 by the template 'total and deterministic' (their statements: YtccomeanpppfmaaTotals.lean).
  GIVEN WITH THE SEED: the statements are not yours to turn. If you find one false, say at which input.
  Laid BY PROGRAM, IN A SANDBOX (cutbox-rows.mjs): the forced cells as the released guide's own fill.sh prints them over the translation fb072987f1f56aa1… (all of the seat's roots in one cut). By AI agents, Wed Nov 11 2026. No macro, syntax, notation, axiom, sorry.
-/
import Derived.Test.YtccomeanpppfmaaChecked
import GoSem.Claim
import GoSem.ClaimJoined
import GoSem.ClaimMapViews
import Derived.JoinedTies
import Derived.KernelRfl
namespace Go.Proofs.Ytccomeanpppfmaa
/- THE CELL 'sum', in the pinned program and in every row, IS THE sha256 OF THE DUMP (.gsa) THAT YtccomeanpppfmaaProg.lean LOADS. Nothing in Lean hashes anything: it is a label: what it is worth is what the hold of that sum in a sandbox is worth. -/
noncomputable def Try.pinned : Pinned := { name := "ytccomeanpppfmaa", sum := "fb072987f1f56aa193fb8436b0f17155ec9e20f22a7f791afcb805bc61a8f2ff", checked := Try.checked }
namespace Rows
def none {H : Type} : Left H := { results := [], args := [] }

/-- 'kinespherelaw38.RoomsMerge': WHATEVER THE INPUT: true; the input reads as it did. -/
def roomsMergeSpec : ChangeSpec := { name := "roomsMerge", fn := fun _ => fun
  | [d1, d2, d3, d4] => { results := [.lit (.bool true)], args := [d1, d2, d3, d4] }
  | _ => none }
def roomsMergeRow : OpenClaim := { program := "ytccomeanpppfmaa", sum := "fb072987f1f56aa193fb8436b0f17155ec9e20f22a7f791afcb805bc61a8f2ff", func := "kinesphere/kinespherelaw38.RoomsMerge", spec := "roomsMerge", unfollowed := true, recurses := true, plainKeys := false, apart := false }
def RoomsMergeSaid : Prop := roomsMergeRow.holds Try.pinned (OpenSpec.ofChange roomsMergeSpec)

/-- ITS FALSE NEIGHBOUR: 'it returns false'. Refute it at one input. -/
def roomsMergeWrong : ChangeSpec := { name := "roomsMerge", fn := fun _ => fun
  | [d1, d2, d3, d4] => { results := [.lit (.bool false)], args := [d1, d2, d3, d4] }
  | _ => none }
def RoomsMergeWrongFalsely : Prop := roomsMergeRow.holds Try.pinned (OpenSpec.ofChange roomsMergeWrong)

/-- 'kinespherelaw38.RoomsResolved': WHATEVER THE INPUT: true; the input reads as it did. -/
def roomsResolvedSpec : ChangeSpec := { name := "roomsResolved", fn := fun _ => fun
  | [d1, d2, d3, d4, d5] => { results := [.lit (.bool true)], args := [d1, d2, d3, d4, d5] }
  | _ => none }
def roomsResolvedRow : OpenClaim := { program := "ytccomeanpppfmaa", sum := "fb072987f1f56aa193fb8436b0f17155ec9e20f22a7f791afcb805bc61a8f2ff", func := "kinesphere/kinespherelaw38.RoomsResolved", spec := "roomsResolved", unfollowed := true, recurses := true, plainKeys := false, apart := false }
def RoomsResolvedSaid : Prop := roomsResolvedRow.holds Try.pinned (OpenSpec.ofChange roomsResolvedSpec)

/-- ITS FALSE NEIGHBOUR: 'it returns false'. Refute it at one input. -/
def roomsResolvedWrong : ChangeSpec := { name := "roomsResolved", fn := fun _ => fun
  | [d1, d2, d3, d4, d5] => { results := [.lit (.bool false)], args := [d1, d2, d3, d4, d5] }
  | _ => none }
def RoomsResolvedWrongFalsely : Prop := roomsResolvedRow.holds Try.pinned (OpenSpec.ofChange roomsResolvedWrong)

/-- 'kinespherelaw38.RoomsAlone': WHATEVER THE INPUT: true; the input reads as it did. -/
def roomsAloneSpec : ChangeSpec := { name := "roomsAlone", fn := fun _ => fun
  | [d1, d2, d3] => { results := [.lit (.bool true)], args := [d1, d2, d3] }
  | _ => none }
def roomsAloneRow : OpenClaim := { program := "ytccomeanpppfmaa", sum := "fb072987f1f56aa193fb8436b0f17155ec9e20f22a7f791afcb805bc61a8f2ff", func := "kinesphere/kinespherelaw38.RoomsAlone", spec := "roomsAlone", unfollowed := true, recurses := true, plainKeys := false, apart := false }
def RoomsAloneSaid : Prop := roomsAloneRow.holds Try.pinned (OpenSpec.ofChange roomsAloneSpec)

/-- ITS FALSE NEIGHBOUR: 'it returns false'. Refute it at one input. -/
def roomsAloneWrong : ChangeSpec := { name := "roomsAlone", fn := fun _ => fun
  | [d1, d2, d3] => { results := [.lit (.bool false)], args := [d1, d2, d3] }
  | _ => none }
def RoomsAloneWrongFalsely : Prop := roomsAloneRow.holds Try.pinned (OpenSpec.ofChange roomsAloneWrong)

/-- 'kinespherelaw38.RoomsOthers': WHATEVER THE INPUT: true; the input reads as it did. -/
def roomsOthersSpec : ChangeSpec := { name := "roomsOthers", fn := fun _ => fun
  | [d1, d2, d3, d4] => { results := [.lit (.bool true)], args := [d1, d2, d3, d4] }
  | _ => none }
def roomsOthersRow : OpenClaim := { program := "ytccomeanpppfmaa", sum := "fb072987f1f56aa193fb8436b0f17155ec9e20f22a7f791afcb805bc61a8f2ff", func := "kinesphere/kinespherelaw38.RoomsOthers", spec := "roomsOthers", unfollowed := true, recurses := true, plainKeys := false, apart := false }
def RoomsOthersSaid : Prop := roomsOthersRow.holds Try.pinned (OpenSpec.ofChange roomsOthersSpec)

/-- ITS FALSE NEIGHBOUR: 'it returns false'. Refute it at one input. -/
def roomsOthersWrong : ChangeSpec := { name := "roomsOthers", fn := fun _ => fun
  | [d1, d2, d3, d4] => { results := [.lit (.bool false)], args := [d1, d2, d3, d4] }
  | _ => none }
def RoomsOthersWrongFalsely : Prop := roomsOthersRow.holds Try.pinned (OpenSpec.ofChange roomsOthersWrong)

/-- 'kinespherelaw38.RoomsRun': WHATEVER THE INPUT: true; the input reads as it did. -/
def roomsRunSpec : ChangeSpec := { name := "roomsRun", fn := fun _ => fun
  | [d1, d2, d3, d4] => { results := [.lit (.bool true)], args := [d1, d2, d3, d4] }
  | _ => none }
def roomsRunRow : OpenClaim := { program := "ytccomeanpppfmaa", sum := "fb072987f1f56aa193fb8436b0f17155ec9e20f22a7f791afcb805bc61a8f2ff", func := "kinesphere/kinespherelaw38.RoomsRun", spec := "roomsRun", unfollowed := true, recurses := true, plainKeys := false, apart := false }
def RoomsRunSaid : Prop := roomsRunRow.holds Try.pinned (OpenSpec.ofChange roomsRunSpec)

/-- ITS FALSE NEIGHBOUR: 'it returns false'. Refute it at one input. -/
def roomsRunWrong : ChangeSpec := { name := "roomsRun", fn := fun _ => fun
  | [d1, d2, d3, d4] => { results := [.lit (.bool false)], args := [d1, d2, d3, d4] }
  | _ => none }
def RoomsRunWrongFalsely : Prop := roomsRunRow.holds Try.pinned (OpenSpec.ofChange roomsRunWrong)

/- THE SECOND FORM. 'bulk': how many values and letters a reading holds, each counted each time it is reached (what is shared counts as often as it is met; a slice's spare places count too). A statement '..UptoSaid' is the law's where the arguments, and the package variables that the reading takes, are together of bulk at most 1048576: NARROWER than '..Said'. Prove '..Said' where nothing that the law and all that it calls make is longer than what came in: it says more and counts as full. Else prove '..UptoSaid'. A law counts once. -/
mutual
def uptoBulk {H : Type} : DataW H → Nat
  | .lit (.string bytes) => bytes.length + 1
  | .lit _ => 1
  | .nil => 1
  | .ptr d => uptoBulk d + 1
  | .slice elems spare => uptoBulkAll elems + uptoBulkAll spare + 1
  | .agg parts => uptoBulkAll parts + 1
  | .iface _ d => uptoBulk d + 1
  | .map entries => uptoBulkEntries entries + 1
  | .held _ => 1
def uptoBulkAll {H : Type} : List (DataW H) → Nat
  | [] => 0
  | d :: r => uptoBulk d + uptoBulkAll r
def uptoBulkEntries {H : Type} : List (Lit × DataW H) → Nat
  | [] => 0
  | x :: r => uptoBulkEntry x + uptoBulkEntries r
def uptoBulkEntry {H : Type} : Lit × DataW H → Nat
  | (.string bytes, d) => bytes.length + uptoBulk d + 1
  | (_, d) => uptoBulk d + 1
 end
def uptoSmall : (H : Type) → List (DataW H) → Bool := fun _ ds => decide (uptoBulkAll ds ≤ 1048576)
def OpenSpec.upto (s : _root_.Go.ChangeSpec) : _root_.Go.OpenSpec := { _root_.Go.OpenSpec.ofChange s with cond := some uptoSmall }

/-- 'kinespherelaw38.RoomsMerge', WHERE WHAT IT READS IS OF BULK AT MOST 1048576: true; the input reads as it did. -/
def roomsMergeUptoRow : OpenClaim := { program := "ytccomeanpppfmaa", sum := "fb072987f1f56aa193fb8436b0f17155ec9e20f22a7f791afcb805bc61a8f2ff", func := "kinesphere/kinespherelaw38.RoomsMerge", spec := "roomsMerge", unfollowed := true, recurses := true, plainKeys := false, apart := false, narrowed := true }
def RoomsMergeUptoSaid : Prop := roomsMergeUptoRow.holds Try.pinned (OpenSpec.upto roomsMergeSpec)

/-- 'kinespherelaw38.RoomsResolved', WHERE WHAT IT READS IS OF BULK AT MOST 1048576: true; the input reads as it did. -/
def roomsResolvedUptoRow : OpenClaim := { program := "ytccomeanpppfmaa", sum := "fb072987f1f56aa193fb8436b0f17155ec9e20f22a7f791afcb805bc61a8f2ff", func := "kinesphere/kinespherelaw38.RoomsResolved", spec := "roomsResolved", unfollowed := true, recurses := true, plainKeys := false, apart := false, narrowed := true }
def RoomsResolvedUptoSaid : Prop := roomsResolvedUptoRow.holds Try.pinned (OpenSpec.upto roomsResolvedSpec)

/-- 'kinespherelaw38.RoomsAlone', WHERE WHAT IT READS IS OF BULK AT MOST 1048576: true; the input reads as it did. -/
def roomsAloneUptoRow : OpenClaim := { program := "ytccomeanpppfmaa", sum := "fb072987f1f56aa193fb8436b0f17155ec9e20f22a7f791afcb805bc61a8f2ff", func := "kinesphere/kinespherelaw38.RoomsAlone", spec := "roomsAlone", unfollowed := true, recurses := true, plainKeys := false, apart := false, narrowed := true }
def RoomsAloneUptoSaid : Prop := roomsAloneUptoRow.holds Try.pinned (OpenSpec.upto roomsAloneSpec)

/-- 'kinespherelaw38.RoomsOthers', WHERE WHAT IT READS IS OF BULK AT MOST 1048576: true; the input reads as it did. -/
def roomsOthersUptoRow : OpenClaim := { program := "ytccomeanpppfmaa", sum := "fb072987f1f56aa193fb8436b0f17155ec9e20f22a7f791afcb805bc61a8f2ff", func := "kinesphere/kinespherelaw38.RoomsOthers", spec := "roomsOthers", unfollowed := true, recurses := true, plainKeys := false, apart := false, narrowed := true }
def RoomsOthersUptoSaid : Prop := roomsOthersUptoRow.holds Try.pinned (OpenSpec.upto roomsOthersSpec)

/-- 'kinespherelaw38.RoomsRun', WHERE WHAT IT READS IS OF BULK AT MOST 1048576: true; the input reads as it did. -/
def roomsRunUptoRow : OpenClaim := { program := "ytccomeanpppfmaa", sum := "fb072987f1f56aa193fb8436b0f17155ec9e20f22a7f791afcb805bc61a8f2ff", func := "kinesphere/kinespherelaw38.RoomsRun", spec := "roomsRun", unfollowed := true, recurses := true, plainKeys := false, apart := false, narrowed := true }
def RoomsRunUptoSaid : Prop := roomsRunUptoRow.holds Try.pinned (OpenSpec.upto roomsRunSpec)

end Rows
end Go.Proofs.Ytccomeanpppfmaa
