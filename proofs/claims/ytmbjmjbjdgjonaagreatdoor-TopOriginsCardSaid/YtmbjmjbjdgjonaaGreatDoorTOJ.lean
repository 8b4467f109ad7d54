/- topOrigins_holds, part J of the proof: what its theorems say holds without further conditions. -/
import Derived.ProofKit
import Derived.Deep.Slices
import Derived.Test.YtmbjmjbjdgjonaaGreatDoorRows
import Derived.LaidMore
import Derived.MakeChecks
import Derived.Lib.LaidTab
import Derived.Test.YtmbjmjbjdgjonaaGreatDoorCards
import Derived.Test.YtmbjmjbjdgjonaaGreatDoorTie
import Derived.Stop.Joined
import Derived.SevenTiedAt
import Derived.Test.YtmbjmjbjdgjonaaGreatDoorTOI
namespace Go.Proofs.YtmbjmjbjdgjonaaGreatDoor
section
open Go Go.Kn Go.Proofs
open Go.ChangeShapes Go.WideShapes Go.ChangeAt Go.RowKit
theorem Vu {a b:Bool}(h1:a=true)(h2:b=true):(a&&b)=true:=by rw [h1,h2];rfl
theorem jf0:(Rows.topOriginsRow.wf (OpenSpec.ofChange Rows.topOriginsSpec))=true:=kA
theorem jf1:(laidOutB Tryz.checked.prog)=true:=kA
theorem jf2:(mapsRowed Tryz.checked.prog)=true:=kA
theorem jf3:(Tryz.f3.params.all (Tryz.checked.prog.readableRec ·))=true:=kA
theorem jf4:(namedTie Tryz.checked.prog Rows.topOriginsRow.named Rows.topOriginsSpec.vars)=true:=kA
theorem jf5:(Rows.topOriginsRow.stops== [])=true:=kA
theorem jf6:(Tryz.checked.prog.stops== [])=true:=kA
theorem jf7:(Rows.topOriginsRow.knobs== [])=true:=kA
theorem jf8:(Tryz.checked.prog.stopKnobs== [])=true:=kA
theorem jf9:(Rows.topOriginsRow.inPlace==(Tryz.checked.prog.inPlace 3))=true:=kA
theorem zF4:(Rows.topOriginsRow.unfollowed==(Tryz.checked.prog.unfollowed 3))=true:=kA
theorem zGq:(Rows.topOriginsRow.recurses==(Tryz.checked.prog.recurses 3))=true:=kA
theorem zGE:(Rows.topOriginsRow.named==(Tryz.checked.prog.varsNamed 3))=true:=kA
theorem zGb:(Rows.topOriginsRow.maps==(Tryz.f3.params.toList++Rows.topOriginsSpec.plain.varTypes Tryz.checked.prog).any (Tryz.checked.prog.mapsRec ·))=true:=kA
theorem zGz:(Rows.topOriginsRow.ifaces==(Tryz.f3.params.toList++Rows.topOriginsSpec.plain.varTypes Tryz.checked.prog).any (Tryz.checked.prog.ifacesRec ·))=true:=kA
theorem zGs:(Rows.topOriginsRow.mapsOut==Tryz.checked.prog.mapsAmong Tryz.f3.resultTypes.toList)=true:=kA
theorem zGt:(Rows.topOriginsRow.loops==(Tryz.f3.params.toList++Rows.topOriginsSpec.plain.varTypes Tryz.checked.prog).any (Tryz.checked.prog.loopsFrom ·))=true:=kA
theorem zGv:(Rows.topOriginsRow.wideKeys==(Tryz.f3.params.toList++Rows.topOriginsSpec.plain.varTypes Tryz.checked.prog++Tryz.f3.resultTypes.toList).any (Tryz.checked.prog.wideKeysFrom ·))=true:=kA
theorem zGu:(Rows.topOriginsSpec.vars.all (Tryz.checked.prog.varReadable ·))=true:=kA
theorem zGo:(Tryz.f3.resultTypes.all (fun t=>Tryz.checked.prog.readableRec t&&decide (t<Tryz.checked.prog.types.size)))=true:=kA
theorem zGw:(Rows.topOriginsRow.ifacesOut==Tryz.f3.resultTypes.toList.any (Tryz.checked.prog.ifacesRec ·))=true:=kA
theorem zGx:(Rows.topOriginsRow.loopsOut==Tryz.f3.resultTypes.toList.any (Tryz.checked.prog.loopsFrom ·))=true:=kA
theorem zGl:(Rows.topOriginsRow.plainKeys==Tryz.checked.prog.plainKeys)=true:=kA
theorem zF8:(Rows.topOriginsRow.shortTexts.isNone)=true:=kA
theorem zGa:(Tryz.checked.prog.stopsHeard)=true:=kA
theorem zGC:(Tryz.checked.prog.mayEnter)=true:=kA
theorem zGr:(Rows.topOriginsRow.lifted==Tryz.checked.prog.liftsFinal)=true:=kA
theorem zGp:(Tryz.checked.prog.make==some Rows.topOriginsRow.make)=true:=kA
theorem zF2:(Rows.topOriginsRow.pinned==Rows.topOriginsRow.pinnedBy)=true:=kA
theorem zF9:(Rows.topOriginsRow.veiled==(Tryz.f3.params.toList++Rows.topOriginsSpec.plain.varTypes Tryz.checked.prog++Tryz.f3.resultTypes.toList).any (Tryz.checked.prog.veiledRec ·))=true:=kA
theorem zF1:(Rows.topOriginsRow.veiledFits Tryz.checked.prog Tryz.f3.params.toList (Tryz.f3.params.toList++Rows.topOriginsSpec.plain.varTypes Tryz.checked.prog++Tryz.f3.resultTypes.toList))=true:=kA
theorem zBC:joinedFacts Tryz.checked.prog 3 Tryz.f3 Rows.topOriginsSpec Rows.topOriginsRow=true:=by unfold joinedFacts;exact (Vu (Vu (Vu (Vu (Vu (Vu (Vu (Vu (Vu (Vu (Vu (Vu (Vu (Vu (Vu (Vu (Vu (Vu (Vu (Vu (Vu (Vu (Vu (Vu (Vu (Vu (Vu (Vu (Vu (Vu (Vu jf0 jf1) jf2) jf3) jf4) jf5) jf6) jf7) jf8) jf9) zF4) zGq) zGE) zGb) zGz) zGs) zGt) zGv) zGu) zGo) zGw) zGx) zGl) zF8) zGa) zGC) zGr) zGp) kA) zF2) zF9) zF1)
theorem zci:Rows.TopOriginsSaid:=
 OpenClaim.holds_of_wide 3 Tryz.f3 U U U U U U U ⟨U,U,U,U,U⟩ U U U U U kA Tryz.func3 zBC
  (Oi kA) (by unfold Func.isWrapper;first | (rw [jb (by decide+kernel)];kernel_rfl) | (rw [ja (by decide+kernel)];exact ⟨U,U⟩))
  (fun os started H enc _=>zag os started H enc)
theorem topOrigins_holds:Rows.TopOriginsCardSaid:=
 Claim7.holds_tied_plain_at .later [] [.data,.data] true (true, "1defb4a59090b4c00c94cbb2106e7a020e9919768793c2fd9508aae66d76c103") false
  zci (fun _ h=>by cases h) kA (fun _ h=>by cases h) topOrigins_row_tie U ⟨U,U⟩ kA U
  (fun f fn hf hfn=>by
   obtain rfl:f=3:=Ob ((show Tryz.prog.funcNamed "kinesphere/kinespheretop.TopOrigins" =some 3 by kernel_rfl).symm.trans hf) |>.symm;obtain rfl:fn=Tryz.f3:=(Ob (Tryz.func3.symm.trans hfn)).symm
   exact ⟨kA,fun j t ht=>by
    rw [Tryz.params3] at ht;have hm:t∈[22,23,24,30,5]:=(by simpa using Array.mem_of_getElem? ht);have hall:([22,23,24,30,5].all fun u=> !Tryz.prog.wantsStandIn u)=true:=kA
    exact (show Tryz.prog.wantsStandIn t=false by simpa using ji.1 hall t hm)⟩)
  kA
#print axioms topOrigins_holds
end
end Go.Proofs.YtmbjmjbjdgjonaaGreatDoor
