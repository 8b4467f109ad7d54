/- rehearsePlanSpec_holds, part H of the proof: what its theorems say holds without further conditions. -/
import Derived.Test.YtehkiccapbkhnaaGreatRows
import Derived.Test.YtehkiccapbkhnaaGreatRPG
section
namespace Go.Proofs.YtehkiccapbkhnaaGreat
open Go Go.Kn Go.Proofs
open Go.ChangeShapes Go.WideShapes Go.ChangeAt Go.RowKit
set_option maxRecDepth 100000
theorem ound_3 : Tryz.prog.underlying 3 = some (.int .i64) := by kernel_rfl
theorem ound_23 : Tryz.prog.underlying 23 = some (.slice 3) := by kernel_rfl
theorem ostr_58 : Tryz.prog.underlying 58 = some (.struct (Tryz.prog.fieldsOf 58)) := by kernel_rfl
theorem ound_27 : Tryz.prog.underlying 27 = some (.slice 58) := by kernel_rfl
theorem ostr_33 : Tryz.prog.underlying 33 = some (.struct (Tryz.prog.fieldsOf 33)) := by kernel_rfl
theorem relS_of {I : HMap} : ∀ {hs : List SH}, (∀ h ∈ hs, ∃ s, SesAt I h s) → ∃ ss, RelS I hs ss
  | [], _ => ⟨[], RelS.nil⟩
  | h :: hs, H => by
    obtain ⟨s, h0⟩ := H h (by simp)
    obtain ⟨ss, h1⟩ := relS_of (hs := hs) fun x hx => H x (by simp [hx])
    refine ⟨s :: ss, by simp [h1.1], fun k x y a b => ?_⟩
    cases k with
    | zero => simp at a b; subst a b; exact h0
    | succ k => simp at a b; exact h1.2 k x y a b
theorem crAt_of {I : HMap} {a a2 : Option Addr} {n c n2 c2 : Nat} {ds : List Int} {st da lo ru : Int} {hs : List SH} (h0 : Sl I 1 encI a n c ds) (h5 : Sl I 4 encSH a2 n2 c2 hs) (ho : ∀ h ∈ hs, ∃ s, SesAt I h s) : ∃ cr, CrAt I ⟨a, n, c, st, da, lo, ru, a2, n2, c2⟩ cr := by
  obtain ⟨ss, hr⟩ := relS_of ho
  exact ⟨⟨ds, st, da, lo, ru, ss⟩, h0, rfl, rfl, rfl, rfl, hs, h5, hr⟩
theorem el_ses {H : Type} {enc : TypeId × Value → H} {W : World} (fuel : Nat) (cs : List Value) (x : DataW H × List MemPlace) (h : DataW.trod enc Tryz.prog W 0 (fun _ => true) true fuel 58 cs = some x) : ∃ y : SH, (fun h => ∃ s, SesAt (heapI W) h s) y ∧ encSH y = cs := by
  obtain ⟨hl, n0_, f0⟩ := trod_seg (C := 4) ostr_58 (by kernel_rfl) h
  match cs, hl with
  | [c0, c1, c2, c3], _ =>
    obtain ⟨_, g0_0⟩ := f0 0 3 0 1 (by kernel_rfl) (by kernel_rfl)
    obtain ⟨n0, e0, _, w0⟩ := DataW.trod_int ound_3 (show DataW.trod enc Tryz.prog W 0 (fun _ => true) true n0_ 3 [c0] = some _ from g0_0)
    obtain ⟨_, g0_1⟩ := f0 1 3 1 1 (by kernel_rfl) (by kernel_rfl)
    obtain ⟨n1, e1, _, w1⟩ := DataW.trod_int ound_3 (show DataW.trod enc Tryz.prog W 0 (fun _ => true) true n0_ 3 [c1] = some _ from g0_1)
    obtain ⟨_, g0_2⟩ := f0 2 23 2 1 (by kernel_rfl) (by kernel_rfl)
    obtain ⟨a2, m2, q2, n2, e2, s2, o2, _⟩ := open_SlT (t := 23) (e := 3) encI (fun n : Int => -9223372036854775808 ≤ n ∧ n ≤ 9223372036854775807) ound_23 (by kernel_rfl) (by decide) encI_len (fun fuel cs x h => el_int ound_3 rfl fuel cs x h) (show DataW.trod enc Tryz.prog W 0 (fun _ => true) true n0_ 23 [c2] = some _ from g0_2)
    obtain ⟨_, g0_3⟩ := f0 3 23 3 1 (by kernel_rfl) (by kernel_rfl)
    obtain ⟨a3, m3, q3, n3, e3, s3, o3, _⟩ := open_SlT (t := 23) (e := 3) encI (fun n : Int => -9223372036854775808 ≤ n ∧ n ≤ 9223372036854775807) ound_23 (by kernel_rfl) (by decide) encI_len (fun fuel cs x h => el_int ound_3 rfl fuel cs x h) (show DataW.trod enc Tryz.prog W 0 (fun _ => true) true n0_ 23 [c3] = some _ from g0_3)
    cases e0; cases e1; cases e2; cases e3
    exact ⟨⟨n0, n1, a2, m2, q2, a3, m3, q3⟩, ⟨⟨n0, n1, n2, n3⟩, rfl, rfl, s2, s3⟩, rfl⟩
theorem el_cr {H : Type} {enc : TypeId × Value → H} {W : World} (fuel : Nat) (cs : List Value) (x : DataW H × List MemPlace) (h : DataW.trod enc Tryz.prog W 0 (fun _ => true) true fuel 33 cs = some x) : ∃ y : CH, (fun x => ∃ cr, CrAt (heapI W) x cr) y ∧ encCH y = cs := by
  obtain ⟨hl, n0_, f0⟩ := trod_seg (C := 6) ostr_33 (by kernel_rfl) h
  match cs, hl with
  | [c0, c1, c2, c3, c4, c5], _ =>
    obtain ⟨_, g0_0⟩ := f0 0 23 0 1 (by kernel_rfl) (by kernel_rfl)
    obtain ⟨a0, m0, q0, n0, e0, s0, o0, _⟩ := open_SlT (t := 23) (e := 3) encI (fun n : Int => -9223372036854775808 ≤ n ∧ n ≤ 9223372036854775807) ound_23 (by kernel_rfl) (by decide) encI_len (fun fuel cs x h => el_int ound_3 rfl fuel cs x h) (show DataW.trod enc Tryz.prog W 0 (fun _ => true) true n0_ 23 [c0] = some _ from g0_0)
    obtain ⟨_, g0_1⟩ := f0 1 3 1 1 (by kernel_rfl) (by kernel_rfl)
    obtain ⟨n1, e1, _, w1⟩ := DataW.trod_int ound_3 (show DataW.trod enc Tryz.prog W 0 (fun _ => true) true n0_ 3 [c1] = some _ from g0_1)
    obtain ⟨_, g0_2⟩ := f0 2 3 2 1 (by kernel_rfl) (by kernel_rfl)
    obtain ⟨n2, e2, _, w2⟩ := DataW.trod_int ound_3 (show DataW.trod enc Tryz.prog W 0 (fun _ => true) true n0_ 3 [c2] = some _ from g0_2)
    obtain ⟨_, g0_3⟩ := f0 3 3 3 1 (by kernel_rfl) (by kernel_rfl)
    obtain ⟨n3, e3, _, w3⟩ := DataW.trod_int ound_3 (show DataW.trod enc Tryz.prog W 0 (fun _ => true) true n0_ 3 [c3] = some _ from g0_3)
    obtain ⟨_, g0_4⟩ := f0 4 3 4 1 (by kernel_rfl) (by kernel_rfl)
    obtain ⟨n4, e4, _, w4⟩ := DataW.trod_int ound_3 (show DataW.trod enc Tryz.prog W 0 (fun _ => true) true n0_ 3 [c4] = some _ from g0_4)
    obtain ⟨_, g0_5⟩ := f0 5 27 5 1 (by kernel_rfl) (by kernel_rfl)
    obtain ⟨a5, m5, q5, n5, e5, s5, o5, _⟩ := open_SlT (t := 27) (e := 58) encSH (fun h => ∃ s, SesAt (heapI W) h s) ound_27 (by kernel_rfl) (by decide) encSH_len (fun fuel cs x h => el_ses fuel cs x h) (show DataW.trod enc Tryz.prog W 0 (fun _ => true) true n0_ 27 [c5] = some _ from g0_5)
    cases e0; cases e1; cases e2; cases e3; cases e4; cases e5
    exact ⟨⟨a0, m0, q0, n1, n2, n3, n4, a5, m5, q5⟩, crAt_of s0 s5 o5, rfl⟩
theorem open_cr {H : Type} {enc : TypeId × Value → H} {W : World} {base : Nat} {v : Value} {d : DataW H} {p : List MemPlace} (hv : Value.okWide Tryz.prog W .any base 33 v) (h : DataW.Trod enc Tryz.prog W 0 (fun _ => true) true 33 v d p) : ∃ y : CH, v = encCHA y ∧ (fun x => ∃ cr, CrAt (heapI W) x cr) y := by
  obtain ⟨cs, rfl, _⟩ := okWide_struct ostr_33 hv
  obtain ⟨fuel, hf⟩ := h
  obtain ⟨l⟩ := cs
  obtain ⟨y, hy, e⟩ := el_cr fuel l _ hf
  exact ⟨y, by rw [← e]; rfl, hy⟩
theorem open_ints {H : Type} {enc : TypeId × Value → H} {W : World} {base : Nat} {v : Value} {d : DataW H} {p : List MemPlace} (hv : Value.okWide Tryz.prog W .any base 23 v) (h : DataW.Trod enc Tryz.prog W 0 (fun _ => true) true 23 v d p) :
    ∃ av n c xs, v = .slice av n c ∧ Sl (heapI W) 1 encI av n c xs := by
  obtain ⟨av, n, c, xs, e, hS, hok, _⟩ := open_Sl (e := 3) encI (fun n : Int => -9223372036854775808 ≤ n ∧ n ≤ 9223372036854775807) ound_23 (by kernel_rfl) (by decide) encI_len (fun fuel cs x h => el_int ound_3 rfl fuel cs x h) hv h
  exact ⟨av, n, c, xs, e, hS⟩
end Go.Proofs.YtehkiccapbkhnaaGreat
end
section
namespace Go.Proofs.YtehkiccapbkhnaaGreat
open Go Go.Kn Go.Proofs
open Go.ChangeShapes Go.WideShapes Go.ChangeAt Go.RowKit
theorem own : ownKnob Tryz.prog.godebug = none := by kernel_rfl
theorem laidOut : laidOutB Tryz.prog = true := by kernel_rfl
set_option maxRecDepth 100000 in
theorem rehearsePlanSpec_lifted (os : Os) (started : os.Started) (H : Type) (enc : TypeId × Value → H) :
    ReturnsInHanded {} Tryz.checked os 4 .any (Rows.rehearsePlanSpecSpec.pre6 enc Tryz.prog Tryz.f4 Rows.rehearsePlanSpecRow.domain false) (Rows.rehearsePlanSpecSpec.post enc Tryz.prog Tryz.f4 false true false false) := by
  refine returnsInHanded_of_change (C := Tryz.checked) own started (by kernel_rfl) Tryz.func4
    (ChangeSpec.witness6 (enc := enc) (C := Tryz.checked) false ⟨#[], #[.agg #[.slice none 0 0, .int .i64 0, .int .i64 0, .int .i64 0, .int .i64 0, .slice none 0 0], .slice none 0 0], []⟩ 8 (by kernel_rfl) (by kernel_rfl) (by kernel_rfl) (by kernel_rfl)) ?_
  intro W base args ds gs before hval0 hW hcnd _
  have hval : ∀ (j : Nat) t v, Tryz.f4.params[j]? = some t → args[j]? = some v → Value.okWide Tryz.prog W .any base t v := hval0
  have hW' := hW
  obtain ⟨p, q, hA0, hV, rfl, hfz, hnd⟩ := hW
  have hA : DataW.TrodAll enc Tryz.prog W 0 (fun _ => true) true Tryz.f4.params.toList args.toList ds p := hA0
  rw [Tryz.params4] at hA hval
  obtain ⟨v0, vs1, d0, ds1, p0, q1, ea, rfl, rfl, h0, hA⟩ := trodAll_cons hA
  obtain ⟨v1, vs2, d1, ds2, p1, q2, rfl, rfl, rfl, h1, hA⟩ := trodAll_cons hA
  obtain ⟨rfl, rfl, rfl⟩ := trodAll_nil hA
  have ea' : args = #[v0, v1] := by rw [← Array.toArray_toList (xs := args), ea]
  subst ea'
  obtain ⟨rfl, rfl⟩ := trodVars_none hV
  obtain ⟨x, rfl, cr, hC⟩ := open_cr (hval 0 33 v0 rfl rfl) h0
  obtain ⟨av, n, c, pl, rfl, hS⟩ := open_ints (hval 1 23 v1 rfl rfl) h1
  refine (RetV.law (w_planSpec hC hS)).mono fun e W' ⟨he, hB⟩ => ?_
  subst he
  exact ⟨_, rfl, post_law laidOut (by kernel_rfl) und_4 rfl rfl (by rw [Tryz.params4]; simp only [List.mem_cons, List.not_mem_nil, or_false, forall_eq_or_imp, forall_eq]; exact ⟨⟨by kernel_rfl, of_decide_eq_true (by kernel_rfl)⟩, ⟨by kernel_rfl, of_decide_eq_true (by kernel_rfl)⟩⟩) hW' hB⟩
theorem rehearsePlanSpec_holds : Rows.RehearsePlanSpecSaid :=
  OpenClaim.holds_of_wide 4 Tryz.f4 rfl rfl rfl rfl rfl rfl rfl ⟨rfl, rfl, rfl, rfl, rfl⟩ rfl rfl rfl rfl rfl (by kernel_rfl) Tryz.func4 (by kernel_rfl)
    (of_decide_eq_true (by kernel_rfl)) (by unfold Func.isWrapper; first | (rw [if_pos (by decide +kernel)]; kernel_rfl) | (rw [if_neg (by decide +kernel)]; exact ⟨rfl, rfl⟩))
    (fun os started H enc _ => rehearsePlanSpec_lifted os started H enc)
#print axioms rehearsePlanSpec_holds
end Go.Proofs.YtehkiccapbkhnaaGreat
end
