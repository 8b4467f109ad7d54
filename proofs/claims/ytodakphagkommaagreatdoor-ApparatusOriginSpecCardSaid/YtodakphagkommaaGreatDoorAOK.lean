/- apparatusOriginSpec_holds, part K of the proof: what its theorems say holds without further conditions. -/
import Derived.ProofKit
import Derived.Deep.Slices
import Derived.Test.YtodakphagkommaaGreatDoorRows
import Derived.LaidMore
import Derived.MakeChecks
import Derived.Lib.LaidTab
import Derived.Test.YtodakphagkommaaGreatDoorCards
import Derived.Test.YtodakphagkommaaGreatDoorTie
import Derived.Stop.Joined
import Derived.SevenTiedAt
import Derived.Test.YtodakphagkommaaGreatDoorAOJ
namespace Go.Proofs.YtodakphagkommaaGreatDoor
section
open Go Go.Kn Go.Proofs
open Go.ChangeShapes Go.WideShapes Go.ChangeAt Go.RowKit
theorem and_t{a b:Bool}(h1:a=true)(h2:b=true):(a&&b)=true:=by rw [h1,h2];rfl
theorem jf0:(Rows.apparatusOriginSpecRow.wf (OpenSpec.ofChange Rows.apparatusOriginSpecSpec))=true:=kA
theorem jf1:(laidOutB Tryz.checked.prog )=true:=kA
theorem jf2:(mapsRowed Tryz.checked.prog )=true:=kA
theorem jf3:(Tryz.f4.params.all (Tryz.checked.prog.readableRec ·))=true:=kA
theorem jf4:(namedTie Tryz.checked.prog Rows.apparatusOriginSpecRow.named Rows.apparatusOriginSpecSpec.vars)=true:=kA
theorem jf5:(Rows.apparatusOriginSpecRow.stops == [])=true:=kA
theorem jf6:(Tryz.checked.prog.stops == [])=true:=kA
theorem jf7:(Rows.apparatusOriginSpecRow.knobs == [])=true:=kA
theorem jf8:(Tryz.checked.prog.stopKnobs == [])=true:=kA
theorem jf9:(Rows.apparatusOriginSpecRow.inPlace == (Tryz.checked.prog.inPlace 4))=true:=kA
theorem jf10:(Rows.apparatusOriginSpecRow.unfollowed == (Tryz.checked.prog.unfollowed 4))=true:=kA
theorem jf11:(Rows.apparatusOriginSpecRow.recurses == (Tryz.checked.prog.recurses 4))=true:=kA
theorem jf12:(Rows.apparatusOriginSpecRow.named == (Tryz.checked.prog.varsNamed 4))=true:=kA
theorem jf13:(Rows.apparatusOriginSpecRow.maps == (Tryz.f4.params.toList ++ Rows.apparatusOriginSpecSpec.plain.varTypes Tryz.checked.prog).any (Tryz.checked.prog.mapsRec ·))=true:=kA
theorem jf14:(Rows.apparatusOriginSpecRow.ifaces == (Tryz.f4.params.toList ++ Rows.apparatusOriginSpecSpec.plain.varTypes Tryz.checked.prog).any (Tryz.checked.prog.ifacesRec ·))=true:=kA
theorem jf15:(Rows.apparatusOriginSpecRow.mapsOut == Tryz.checked.prog.mapsAmong Tryz.f4.resultTypes.toList)=true:=kA
theorem jf16:(Rows.apparatusOriginSpecRow.loops == (Tryz.f4.params.toList ++ Rows.apparatusOriginSpecSpec.plain.varTypes Tryz.checked.prog).any (Tryz.checked.prog.loopsFrom ·))=true:=kA
theorem jf17:(Rows.apparatusOriginSpecRow.wideKeys == (Tryz.f4.params.toList ++ Rows.apparatusOriginSpecSpec.plain.varTypes Tryz.checked.prog ++ Tryz.f4.resultTypes.toList).any (Tryz.checked.prog.wideKeysFrom ·))=true:=kA
theorem jf18:(Rows.apparatusOriginSpecSpec.vars.all (Tryz.checked.prog.varReadable ·))=true:=kA
theorem jf19:(Tryz.f4.resultTypes.all (fun t => Tryz.checked.prog.readableRec t && decide (t < Tryz.checked.prog.types.size)))=true:=kA
theorem jf20:(Rows.apparatusOriginSpecRow.ifacesOut == Tryz.f4.resultTypes.toList.any (Tryz.checked.prog.ifacesRec ·))=true:=kA
theorem jf21:(Rows.apparatusOriginSpecRow.loopsOut == Tryz.f4.resultTypes.toList.any (Tryz.checked.prog.loopsFrom ·))=true:=kA
theorem jf22:(Rows.apparatusOriginSpecRow.plainKeys == Tryz.checked.prog.plainKeys)=true:=kA
theorem jf23:(Rows.apparatusOriginSpecRow.shortTexts.isNone)=true:=kA
theorem jf24:(Tryz.checked.prog.stopsHeard)=true:=kA
theorem jf25:(Tryz.checked.prog.mayEnter)=true:=kA
theorem jf26:(Rows.apparatusOriginSpecRow.lifted == Tryz.checked.prog.liftsFinal)=true:=kA
theorem jf27:(Tryz.checked.prog.make == some Rows.apparatusOriginSpecRow.make)=true:=kA
theorem jf29:(Rows.apparatusOriginSpecRow.pinned == Rows.apparatusOriginSpecRow.pinnedBy)=true:=kA
theorem jf30:(Rows.apparatusOriginSpecRow.veiled == (Tryz.f4.params.toList ++ Rows.apparatusOriginSpecSpec.plain.varTypes Tryz.checked.prog ++ Tryz.f4.resultTypes.toList).any (Tryz.checked.prog.veiledRec ·))=true:=kA
theorem jf31:(Rows.apparatusOriginSpecRow.veiledFits Tryz.checked.prog Tryz.f4.params.toList (Tryz.f4.params.toList ++ Rows.apparatusOriginSpecSpec.plain.varTypes Tryz.checked.prog ++ Tryz.f4.resultTypes.toList))=true:=kA
theorem joined:joinedFacts Tryz.checked.prog 4 Tryz.f4 Rows.apparatusOriginSpecSpec Rows.apparatusOriginSpecRow=true:=by unfold joinedFacts;exact (and_t (and_t (and_t (and_t (and_t (and_t (and_t (and_t (and_t (and_t (and_t (and_t (and_t (and_t (and_t (and_t (and_t (and_t (and_t (and_t (and_t (and_t (and_t (and_t (and_t (and_t (and_t (and_t (and_t (and_t (and_t jf0 jf1) jf2) jf3) jf4) jf5) jf6) jf7) jf8) jf9) jf10) jf11) jf12) jf13) jf14) jf15) jf16) jf17) jf18) jf19) jf20) jf21) jf22) jf23) jf24) jf25) jf26) jf27) kA) jf29) jf30) jf31)
theorem Uo:Rows.ApparatusOriginSpecSaid:=
 OpenClaim.holds_of_wide 4 Tryz.f4 U U U U U U U ⟨U,U,U,U,U⟩ U U U U U kA Tryz.func4 joined
  (Oq kA) (by unfold Func.isWrapper;first | (rw [jb (by decide+kernel)];kernel_rfl) | (rw [ja (by decide+kernel)];exact ⟨U,U⟩))
  (fun d a H b _=>KL d a H b)
theorem apparatusOriginSpec_holds:Rows.ApparatusOriginSpecCardSaid:=
 Claim7.holds_tied_plain_at .later [] [.data,.data] true (true, "7487adcbb88cd8c76305f1b55bc750fc8aca60cf0a33624839d1e2bb64e58a1a") false
  Uo (fun _ h=>by cases h) kA (fun _ h=>by cases h) apparatusOriginSpec_row_tie U ⟨U,U⟩ kA U
  (fun f g i b=>by
   obtain rfl:f=4:=Ob ((show Tryz.prog.funcNamed "kinesphere/kinespherelaw44.ApparatusOriginSpec" =some 4 by kernel_rfl).symm.trans i) |>.symm;obtain rfl:g=Tryz.f4:=(Ob (Tryz.func4.symm.trans b)).symm
   exact ⟨kA,fun j t d=>by
    rw [Tryz.params4] at d;have l:t∈[35,22,26,36,23,3,3]:=(by simpa using Array.mem_of_getElem? d);have a:([35,22,26,36,23,3,3].all fun u=> !Tryz.prog.wantsStandIn u)=true:=kA
    exact (show Tryz.prog.wantsStandIn t=false by simpa using jk.1 a t l)⟩)
  kA
#print axioms apparatusOriginSpec_holds
end
end Go.Proofs.YtodakphagkommaaGreatDoor
