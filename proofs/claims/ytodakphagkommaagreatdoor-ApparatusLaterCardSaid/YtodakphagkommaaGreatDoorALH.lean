/- apparatusLater_holds, part H of the proof: what its theorems say holds without further conditions. -/
import Derived.ProofKit
import Derived.Deep.Slices
import Derived.Test.YtodakphagkommaaGreatDoorRows
import Derived.LaidMore
import Derived.MakeChecks
import Derived.Lib.LaidTab
import Derived.Test.YtodakphagkommaaGreatDoorCards
import Derived.Test.YtodakphagkommaaGreatDoorTie
import Derived.Stop.Joined
import Derived.SevenTiedAt
import Derived.Test.YtodakphagkommaaGreatDoorALG
namespace Go.Proofs.YtodakphagkommaaGreatDoor
section
open Go Go.Kn Go.Proofs
open Go.ChangeShapes Go.WideShapes Go.ChangeAt Go.RowKit
theorem own:ownKnob Tryz.prog.godebug=none:=by kernel_rfl
theorem zp0:laidOutB Tryz.prog=true:=by kernel_rfl
set_option maxRecDepth 100000 in
theorem Kw (os:Os) (started:os.Started) (H:Type) (enc:TypeId×Value→H):
  ReturnsInHanded {} Tryz.checked os 8 .any (fun w args=>(Rows.apparatusLaterSpec.pre enc Tryz.prog Tryz.f8 [] false w args∧laidMetH Tryz.prog zgO w)∧sizedMet enc Tryz.prog Tryz.f8 (OpenSpec.ofChange Rows.apparatusLaterSpec) false w args)
   (Rows.apparatusLaterSpec.post enc Tryz.prog Tryz.f8 false true false false):=by
 refine returnsInHanded_of_change_and (C:=Tryz.checked) (X:=fun w _=>laidMetH Tryz.prog zgO w) (fun _ _ _ hh h=>h.of_heap hh) own started (by kernel_rfl) Tryz.func8
  (ChangeSpec.witness_shaped (enc:=enc) (C:=Tryz.checked) (os:=os) (X:=fun w _=>laidMetH Tryz.prog zgO w) false (World.doorLaid Tryz.prog 400 os) #[.slice none 0 0,.slice none 0 0,.agg #[.int .i64 0,.slice none 0 0,.slice none 0 0,.slice none 0 0],.slice none 0 0,.slice none 0 0,.slice none 0 0] 8 rfl (World.shaped_of_RefB (by kernel_rfl) (by kernel_rfl)) (by kernel_rfl) (by kernel_rfl) (by kernel_rfl) (zll os _)) ?_
 intro W base args ds gs before hval0 hW _ _ hL _
 have hval:∀ (j:Nat) t v,Tryz.f8.params[j]? =some t→args[j]? =some v→Value.okWide Tryz.prog W .any base t v:=hval0
 have hW':=hW
 obtain ⟨p,q,hA0,hV,rfl,hfz,hnd⟩:=hW
 have hA:DataW.TrodAll enc Tryz.prog W 0 (fun _=>true) true Tryz.f8.params.toList args.toList ds p:=hA0
 rw [Tryz.params8] at hA hval
 obtain ⟨v0,vs1,d0,ds1,p0,q1,ea,rfl,rfl,h0,hA⟩:=trodAll_cons hA
 obtain ⟨v1,vs2,d1,ds2,p1,q2,rfl,rfl,rfl,h1,hA⟩:=trodAll_cons hA
 obtain ⟨v2,vs3,d2,ds3,p2,q3,rfl,rfl,rfl,h2,hA⟩:=trodAll_cons hA
 obtain ⟨v3,vs4,d3,ds4,p3,q4,rfl,rfl,rfl,h3,hA⟩:=trodAll_cons hA
 obtain ⟨v4,vs5,d4,ds5,p4,q5,rfl,rfl,rfl,h4,hA⟩:=trodAll_cons hA
 obtain ⟨v5,vs6,d5,ds6,p5,q6,rfl,rfl,rfl,h5,hA⟩:=trodAll_cons hA
 obtain ⟨rfl,rfl,rfl⟩:=trodAll_nil hA
 have ea':args= #[v0,v1,v2,v3,v4,v5]:=by rw [←Array.toArray_toList (xs:=args),ea]
 subst ea'
 obtain ⟨rfl,rfl⟩:=trodVars_none hV
 have hDb:=zvG hL
 obtain ⟨wv,nw,cw,ws,rfl,hW0,hbig⟩:=zoz (hval 0 35 v0 rfl rfl) h0
 obtain ⟨bv,n2,c2,rows,rfl,hV,hbg⟩:=ziV (hval 1 22 v1 rfl rfl) h1
 obtain ⟨ed,rfl,⟨xs,hX1⟩,⟨es,hX2⟩,⟨rd,hX3⟩⟩:=zow (hval 2 26 v2 rfl rfl) h2
 obtain ⟨pv,pn,pc,ps,rfl,hP⟩:=R.open_ps (hval 3 36 v3 rfl rfl) h3
 obtain ⟨dv,n3,c3,vs,rfl,hVs,hbn⟩:=zda (hval 4 23 v4 rfl rfl) h4
 obtain ⟨ev,n4,c4,us,rfl,hUs,hbm⟩:=zda (hval 5 23 v5 rfl rfl) h5
 refine (Zx.law (R.w_lLater hW0 hbig hV hX1 hX2 hX3 ed.no hP hVs hUs hDb)).mono fun e W' ⟨he,hB⟩=>?_
 subst he
 exact ⟨_,rfl,zlK zp0 (by kernel_rfl) zol rfl rfl (by rw [Tryz.params8];simp only [List.mem_cons,List.not_mem_nil,or_false,forall_eq_or_imp,forall_eq];exact ⟨⟨by kernel_rfl,of_decide_eq_true (by kernel_rfl)⟩,⟨by kernel_rfl,of_decide_eq_true (by kernel_rfl)⟩,⟨by kernel_rfl,of_decide_eq_true (by kernel_rfl)⟩,⟨by kernel_rfl,of_decide_eq_true (by kernel_rfl)⟩,⟨by kernel_rfl,of_decide_eq_true (by kernel_rfl)⟩,⟨by kernel_rfl,of_decide_eq_true (by kernel_rfl)⟩⟩) hW' hB⟩
theorem U5:Rows.ApparatusLaterSaid:=
 OpenClaim.holds_of_wide 8 Tryz.f8 rfl rfl rfl rfl rfl rfl rfl ⟨rfl,rfl,rfl,rfl,rfl⟩ rfl rfl rfl rfl rfl (by kernel_rfl) Tryz.func8 (by kernel_rfl)
  (of_decide_eq_true (by kernel_rfl)) (by unfold Func.isWrapper;first | (rw [if_pos (by decide+kernel)];kernel_rfl) | (rw [if_neg (by decide+kernel)];exact ⟨rfl,rfl⟩))
  (fun os started H enc _=>Kw os started H enc)
theorem apparatusLater_holds:Rows.ApparatusLaterCardSaid:=
 Claim7.holds_tied_plain_at .later [] [.data,.data] true (true, "7487adcbb88cd8c76305f1b55bc750fc8aca60cf0a33624839d1e2bb64e58a1a") false
  U5 (fun _ h=>by cases h) (by kernel_rfl) (fun _ h=>by cases h) apparatusLater_row_tie rfl ⟨rfl,rfl⟩ (by kernel_rfl) rfl
  (fun f fn hf hfn=>by
   obtain rfl:f=8:=Option.some.inj ((show Tryz.prog.funcNamed "kinesphere/kinespherelaw44.ApparatusLater" =some 8 by kernel_rfl).symm.trans hf) |>.symm
   obtain rfl:fn=Tryz.f8:=(Option.some.inj (Tryz.func8.symm.trans hfn)).symm
   exact ⟨by kernel_rfl,fun j t ht=>by
    rw [Tryz.params8] at ht
    have hm:t∈[35,22,26,36,23,23]:=by simpa using Array.mem_of_getElem? ht
    have hall:([35,22,26,36,23,23].all fun u=> !Tryz.prog.wantsStandIn u)=true:=by kernel_rfl
    exact (show Tryz.prog.wantsStandIn t=false by simpa using List.all_eq_true.1 hall t hm)⟩)
  (by kernel_rfl)
#print axioms apparatusLater_holds
end
end Go.Proofs.YtodakphagkommaaGreatDoor
