/- rehearseProofSpec_holds, part F of the proof: what its theorems say holds without further conditions. -/
import Derived.KernelRfl
import Derived.Test.YtehkiccapbkhnaaGreatRQE
section
namespace Go.Proofs.YtehkiccapbkhnaaGreat
open Go Go.Kn Go.Proofs
def ssNe (a b : Ses) : Bool := (((a.pa != b.pa) || (a.ef != b.ef)) || !(a.who == b.who)) || !(a.needs == b.needs)
def samS (as' bs : List Ses) : Bool := decide (as'.length = bs.length) && !(as'.zip bs).any fun q => ssNe q.1 q.2
theorem samS_len {xs ys : List Ses} (h : xs.length ≠ ys.length) : samS xs ys = false := by unfold samS; rw [decide_eq_false h]; rfl
theorem samS_bad {xs ys : List Ses} {k : Nat} {x y : Ses} (hx : xs[k]? = some x) (hy : ys[k]? = some y) (h : ssNe x y = true) : samS xs ys = false := by
  unfold samS
  rw [List.any_eq_true.2 ⟨(x, y), zip_mem hx hy, h⟩]; simp
theorem samS_end {xs ys : List Ses} (hl : xs.length = ys.length) (h : ((xs.zip ys).take xs.length).any (fun q => ssNe q.1 q.2) = false) : samS xs ys = true := by
  unfold samS
  rw [List.take_of_length_le (by rw [List.length_zip]; omega)] at h
  rw [h, decide_eq_true hl]; rfl
def samPs (as' bs : List Pr) : Bool := decide (as'.length = bs.length) && samL 20 as' bs
theorem samPs_len {xs ys : List Pr} (h : xs.length ≠ ys.length) : samPs xs ys = false := by unfold samPs; rw [decide_eq_false h]; rfl
theorem samPs_self {xs : List Pr} (h : ∀ p ∈ xs, dpP p ≤ 20) : samPs xs xs = true := by
  unfold samPs; rw [decide_eq_true rfl, samL_self xs 20 (dpL_le h)]; rfl
theorem goS_sml {g : Nat → Pr × Option (List Int)} (hg : ∀ d, smlP (g d).1) : ∀ (m d : Nat) (ks : List Pr), smlL ks → ks.length + m ≤ 100000 → smlP (goS g m d ks).1
  | 0, _, ks, h, hl => by unfold goS smlP; exact ⟨by omega, h⟩
  | m + 1, d, ks, h, hl => by
    cases e : (g d).2 with
    | some x => rw [goS_some e]; show smlP (.mk 0 0 0 ks); unfold smlP; exact ⟨by omega, h⟩
    | none =>
      rw [goS_none e]
      refine goS_sml hg m (d + 1) _ ?_ (by simp; omega)
      have app : ∀ l : List Pr, smlL l → smlL (l ++ [(g d).1]) := by
        intro l
        induction l with
        | nil => intro _; exact ⟨hg d, trivial⟩
        | cons a l ih => intro h; exact ⟨h.1, ih h.2⟩
      exact app ks h
theorem srch_sml {c : Cr} {last : Nat} (hl : last ≤ 100000) : ∀ (f : Nat) (pl : List Int), smlP (srch c last f pl).1
  | f, pl => by
    cases e : brkL c pl with
    | cons b l => rw [srch_leaf e]; show smlP (leafP b); unfold leafP smlP smlL; exact ⟨by simp, trivial⟩
    | nil =>
      cases f with
      | zero => rw [srch_full e]; show smlP (.mk 0 0 0 []); unfold smlP smlL; exact ⟨by simp, trivial⟩
      | succ f => rw [srch_step e]; exact goS_sml (fun d => srch_sml hl f _) _ _ _ trivial (by simpa using hl)
theorem zero_sml : smlP (.mk 0 0 0 []) := by unfold smlP smlL; exact ⟨by simp, trivial⟩
end Go.Proofs.YtehkiccapbkhnaaGreat
namespace Go.Proofs.YtehkiccapbkhnaaGreat
open Go Go.Kn Go.Proofs
theorem samP_bad {f : Nat} {r d w r' d' w' : Int} {ks ks' : List Pr} (h : (((((r != r') || (d != d')) || (w != w')) || ((ks.length : Int) != (ks'.length : Int))) || ((f : Int) == 0)) = true) : samP f (.mk r d w ks) (.mk r' d' w' ks') = false := by
  unfold samP; rw [if_pos h]
theorem samP_good {f : Nat} {r d w r' d' w' : Int} {ks ks' : List Pr} (h : (((((r != r') || (d != d')) || (w != w')) || ((ks.length : Int) != (ks'.length : Int))) || (((f + 1 : Nat) : Int) == 0)) = false) : samP (f + 1) (.mk r d w ks) (.mk r' d' w' ks') = samL f ks ks' := by
  rw [samP, if_neg (by rw [h]; decide)]
end Go.Proofs.YtehkiccapbkhnaaGreat
namespace Go.Proofs.YtehkiccapbkhnaaGreat
open Go Go.Kn Go.Proofs
theorem prsAt_lf {I : HMap} : ∀ (bs : List Br), PrsAt I (bs.map lfH) (bs.map leafP)
  | [] => trivial
  | b :: bs => ⟨PrAt.leaf b, prsAt_lf bs⟩
theorem sml_lf (bs : List Br) : ∀ p ∈ bs.map leafP, smlP p := fun p hp => by
  obtain ⟨b, _, rfl⟩ := List.mem_map.1 hp
  unfold leafP smlP smlL; exact ⟨by simp, trivial⟩
end Go.Proofs.YtehkiccapbkhnaaGreat
end
section
namespace Go.Proofs.YtehkiccapbkhnaaGreat
open Go Go.Kn Go.Proofs
theorem fun_23 : Fun Tryz.prog 23 := .of Tryz.func23 (by kernel_rfl) (by kernel_rfl)
theorem fun_64 : Fun Tryz.prog 64 := .of Tryz.func64 (by kernel_rfl) (by kernel_rfl)
theorem fun_65 : Fun Tryz.prog 65 := .of Tryz.func65 (by kernel_rfl) (by kernel_rfl)
theorem w_size_step {I : HMap} {r d wz : Int} {ks : List Pr} {ka : Option Addr} {kn kc : Nat} {hs9 : List PH} (hK : Sl I 4 encPH ka kn kc hs9) (hks : PrsAt I hs9 ks) (dd : Int) (hd0 : 0 ≤ dd) (hd13 : dd ≤ 13) (ih : ∀ k ∈ ks, ∀ (I' : HMap), HLe I I' → ∀ (h' : PH), PrAt I' h' k → ∀ (d' : Int), 0 ≤ d' → d' ≤ 13 → RetV Tryz.prog 65 [encPHA h', .int .i64 d'] I' (.int .i64 (sizeP k d'))) : RetV Tryz.prog 65 [encPHA ⟨r, d, wz, ka, kn, kc⟩, .int .i64 dd] I (.int .i64 (sizeP (.mk r d wz ks) dd)) := by
 intro g H w hw
 refine enter Tryz.func65 rfl Tryz.ntmps65 rfl hw ?_
 have hIc := HLe.refl I
 have hlK : ks.length = kn := by rw [← hks.len]; exact hK.len
 refine zR ?_
 refine XO_box rfl rfl rfl (fun b_2 => ?_)
 refine zA ?_
 refine zN ?_
 refine X_seq ?_
 refine X_seq ?_
 refine X_freeze .here (fun I1 hI1 hb1 => ?_)
 have hK := hK.mono hI1; have hks := hks.mono hI1; have hIc := hIc.trans hI1
 have h2 := ImmC.of hb1
 refine X_region ?_
 refine zM ?_
 refine zC ?_
 refine zM ?_
 refine XO_pushF 2 rfl rfl rfl ?_
 refine XO_v1 (ev_fieldAddr rfl fld_45_3) (.some rfl rfl rfl rfl gbf) rfl rfl rfl ?_
 refine XO_v1 (ev_load rfl sct_35 (fun hg => by first | exact Cell.imm h2 rfl | (repeat (first | exact Cell.here rfl | apply Cell.there | apply Cell.app)))) (.some rfl rfl rfl rfl gbf) rfl rfl rfl ?_
 refine XO_v1 (ev_lenS rfl slt_35) (.some rfl rfl rfl rfl gbf) rfl rfl rfl ?_
 refine XO_v1 (ev_cmp rfl rfl rfl) (.some rfl rfl rfl rfl gbf) rfl rfl rfl ?_
 refine XO_or0 rfl rfl rfl rfl rfl ?_
 refine zN ?_
 refine X_cond rfl (fun hc14 => ?_) (fun hc14 => ?_)
 ·
  have h1 : (decide (dd > 12) || decide ((ks.length : Int) > 100)) = true := by rw [hlK]; exact hc14
  refine zR ?_
  refine zA ?_
  refine zN ?_
  refine X_ret ?_
  refine at_then_r ?_
  exact at_ret1 rfl rfl (fun w hw => ⟨by rw [sizeP, if_pos h1], (hw.mono hIc).drop⟩)
 have h1 : (decide (dd > 12) || decide ((ks.length : Int) > 100)) = false := by rw [hlK]; exact hc14
 have h1s := h1
 simp at h1s
 refine X_skip ?_
 refine at_then ?_
 refine zR ?_
 refine zA ?_
 refine zN ?_
 refine X_seq ?_
 refine zR ?_
 refine zA ?_
 refine zN ?_
 refine X_block ?_
 refine X_loopT [(1, _), (2, _)] (.cons rfl (.cons rfl .nil)) (fun T L0 mz E I' loc' => ∃ (k : Nat) (acc : Int), mz = kn - k ∧ E = (5, .int .i64 acc) :: (6, .int .i64 k) :: T ∧ I1 = I' ∧ L0 = loc' ∧ k ≤ kn ∧ sizeL ks dd 1 = sizeL (ks.drop k) dd acc ∧ 1 ≤ acc ∧ acc ≤ 100000) _ _ _ _ ⟨0, 1, rfl, rfl, rfl, rfl, Nat.zero_le _, rfl, by decide, by decide⟩ (.cons rfl (.cons rfl (.cons rfl (.cons rfl .nil)))) (HLe.refl _) rfl ?_
 rintro mz E I' loc' ⟨k, acc, rfl, rfl, rfl, rfl, hk, hz, ha1, ha2⟩
 refine X_seq ?_
 refine zR ?_
 refine zM ?_
 refine XO_v0 (ev_fieldAddr rfl fld_45_3) rfl rfl rfl ?_
 refine XO_v0 (ev_load rfl sct_35 (fun hg => by first | exact Cell.imm h2 rfl | (repeat (first | exact Cell.here rfl | apply Cell.there | apply Cell.app)))) rfl rfl rfl ?_
 refine XO_v0 (ev_lenS rfl slt_35) rfl rfl rfl ?_
 refine zC ?_
 refine zM ?_
 refine XO_pushT 5 rfl rfl rfl ?_
 refine XO_v1 (ev_move rfl) (.some rfl rfl rfl rfl gbt) rfl rfl rfl ?_
 refine XO_v1 (ev_cmp rfl rfl rfl) (.some rfl rfl rfl rfl gbt) rfl rfl rfl ?_
 refine XO_and0 rfl rfl rfl rfl rfl ?_
 refine zN ?_
 refine X_cond rfl (fun hc23 => ?_) (fun hc23 => ?_)
 ·
  have hc1 : k < kn ∧ acc ≤ 2000 := by have h := hc23; simp at h; omega
  obtain ⟨hlt_k, hc2⟩ := hc1
  obtain ⟨kh, hkh⟩ := hK.at hlt_k
  obtain ⟨kk, hkk, hka⟩ := hks.at k kh hkh
  have hsb := sizeP_bd kk (dd + 1) (by omega)
  refine X_skip ?_
  refine at_then ?_
  refine X_seq ?_
  refine X_block ?_
  refine X_region ?_
  refine zM ?_
  refine XO_v0 (ev_fieldAddr rfl fld_45_3) rfl rfl rfl ?_
  refine XO_v0 (ev_load rfl sct_35 (fun hg => by first | exact Cell.imm h2 rfl | (repeat (first | exact Cell.here rfl | apply Cell.there | apply Cell.app)))) rfl rfl rfl ?_
  refine zM ?_
  refine XO_v0 (ev_indexSl rfl rfl slt_35 hK (fun hg => by first | omega | (simp [conj] at hg; omega) | (dsimp only; omega) | (simp [conj] at hg; dsimp only at *; omega))) rfl rfl rfl ?_
  refine XO_v0 (ev_loadA rfl agt_45 (fun hg => by first | exact Sl.getA hK hkh | (repeat (first | exact Cells.here | exact Cells.s0 (vs := [_, _, _, _]) rfl | apply Cells.there | apply Cells.app))) rfl) rfl rfl rfl ?_
  refine zM ?_
  refine XO_v0 (ev_arB rfl rfl rfl (fun hg => by first | omega | (simp [conj] at hg; omega) | (dsimp only; omega) | (simp [conj] at hg; dsimp only at *; omega))) rfl rfl rfl ?_
  refine XO_callV0 (cap := []) (vs := [_, _]) rfl rfl fun_65 (ih kk (List.mem_of_getElem? hkk) _ hIc kh hka (dd + 1) (by omega) (by omega)) rfl rfl ?_
  refine XO_v0 (ev_arB rfl rfl rfl (fun hg => by first | omega | (simp [conj] at hg; omega) | (dsimp only; omega) | (simp [conj] at hg; dsimp only at *; omega))) rfl rfl rfl ?_
  refine zA ?_
  refine XO_nil ?_
  refine at_block_n ?_
  refine at_then ?_
  refine X_region ?_
  refine zM ?_
  refine XO_v0 (ev_arB rfl rfl rfl (fun hg => by first | omega | (simp [conj] at hg; omega) | (dsimp only; omega) | (simp [conj] at hg; dsimp only at *; omega))) rfl rfl rfl ?_
  refine zA ?_
  refine XO_nil ?_
  exact at_met2 _ _ ⟨kn - (k + 1), by omega, k + 1, _, rfl, rfl, rfl, rfl, by omega, by rw [hz, sizeL_go hkk hc2], by omega, by omega⟩ (.cons rfl (.cons rfl (.cons rfl (.cons rfl .nil)))) (by repeat (first | exact .refl | exact subL_left | refine subL_app ?_ | refine .drop ?_ | refine subL_add ?_))
 have hc1 : ks.length ≤ k ∨ ¬ acc ≤ 2000 := by have h := hc23; simp at h; omega
 refine X_exit ?_
 refine at_then_e ?_
 refine at_then_e ?_
 refine at_block_hit ?_
 refine at_then ?_
 refine zR ?_
 refine zM ?_
 refine zA ?_
 refine zN ?_
 refine X_ret ?_
 first
 | exact at_ret1 rfl rfl (fun w hw => ⟨by rw [sizeP, if_neg (by rw [h1]; decide), hz, sizeL_end hc1], (hw.mono hIc).drop⟩)
theorem w_size : ∀ (p : Pr) {I : HMap} (h : PH) (_ : PrAt I h p) (d : Int) (_ : 0 ≤ d) (_ : d ≤ 13), RetV Tryz.prog 65 [encPHA h, .int .i64 d] I (.int .i64 (sizeP p d))
 | .mk r d w ks, I, h, hP, dd, hd0, hd13 => by
  obtain ⟨hr0, hdd0, hw0, ka, kn, kc⟩ := h
  unfold PrAt at hP
  obtain ⟨e1, e2, e3, hs9, hK, hks⟩ := hP
  simp only at e1 e2 e3 hK
  subst e1 e2 e3
  exact w_size_step hK hks dd hd0 hd13 (fun k hk I' hI' h' hP' d' hd0' hd13' => w_size k h' hP' d' hd0' hd13')
termination_by p => SizeOf.sizeOf p
decreasing_by have := List.sizeOf_lt_of_mem hk; simp; omega
theorem w_rFewP (I : HMap) (p : Pr) (h : PH) (hP : PrAt I h p) : RetV Tryz.prog 24 [encPHA h] I (.bool (decide (sizeP p 0 ≤ 2000))) := by
 intro g H w hw
 refine enter Tryz.func24 rfl Tryz.ntmps24 rfl hw ?_
 have hIc := HLe.refl I
 refine zR ?_
 refine XO_box rfl rfl rfl (fun b_1 => ?_)
 refine zA ?_
 refine zN ?_
 refine X_seq ?_
 refine X_freeze .here (fun I1 hI1 hb1 => ?_)
 have hP := hP.mono hI1; have hIc := hIc.trans hI1
 have h1 := ImmC.of hb1
 refine X_region ?_
 refine XO_v0 (ev_loadA rfl agt_45 (fun hg => by first | exact Cells.immC (vs := encPH h) h1 | (repeat (first | exact Cells.here | exact Cells.s0 (vs := [_, _, _, _]) rfl | apply Cells.there | apply Cells.app))) rfl) rfl rfl rfl ?_
 refine XO_callV0 (cap := []) (vs := [_, _]) rfl rfl fun_65 (w_size p h hP 0 (by decide) (by decide)) rfl rfl ?_
 refine zC ?_
 refine zA ?_
 refine zN ?_
 refine X_ret ?_
 exact at_ret1 rfl rfl (fun w hw => ⟨by rfl, (hw.mono hIc).drop⟩)
theorem w_samP_step {I : HMap} {r d wz : Int} {ks : List Pr} {ka : Option Addr} {kn kc : Nat} {hs9 : List PH} (hK : Sl I 4 encPH ka kn kc hs9) (hks : PrsAt I hs9 ks) {r' d' wz' : Int} {ks' : List Pr} {ka' : Option Addr} {kn' kc' : Nat} {hs9' : List PH} (hK' : Sl I 4 encPH ka' kn' kc' hs9') (hks' : PrsAt I hs9' ks') (hkn : kn ≤ 100000) (f : Nat) (hf : f ≤ 100) (ih : ∀ f', f = f' + 1 → ∀ (k k' : Pr), k ∈ ks → k' ∈ ks' → ∀ (I' : HMap), HLe I I' → ∀ (h h' : PH), PrAt I' h k → PrAt I' h' k' → RetV Tryz.prog 64 [encPHA h, encPHA h', .int .i64 f'] I' (.bool (samP f' k k'))) : RetV Tryz.prog 64 [encPHA ⟨r, d, wz, ka, kn, kc⟩, encPHA ⟨r', d', wz', ka', kn', kc'⟩, .int .i64 f] I (.bool (samP f (.mk r d wz ks) (.mk r' d' wz' ks'))) := by
 intro g H w hw
 refine enter Tryz.func64 rfl Tryz.ntmps64 rfl hw ?_
 have hIc := HLe.refl I
 have hlK : ks.length = kn := by rw [← hks.len]; exact hK.len
 have hlK' : ks'.length = kn' := by rw [← hks'.len]; exact hK'.len
 refine zR ?_
 refine XO_box rfl rfl rfl (fun b_3 => ?_)
 refine XO_box rfl rfl rfl (fun b_4 => ?_)
 refine zA ?_
 refine zN ?_
 refine X_seq ?_
 refine X_seq ?_
 refine X_freeze .here (fun I1 hI1 hb1 => ?_)
 have hK := hK.mono hI1; have hks := hks.mono hI1; have hK' := hK'.mono hI1; have hks' := hks'.mono hI1; have hIc := hIc.trans hI1
 have h4 := ImmC.of hb1
 refine X_freeze .here (fun I2 hI2 hb2 => ?_)
 have hK := hK.mono hI2; have hks := hks.mono hI2; have hK' := hK'.mono hI2; have hks' := hks'.mono hI2; have h4 := h4.mono hI2; have hIc := hIc.trans hI2
 have h3 := ImmC.of hb2
 refine X_region ?_
 refine XO_v0 (ev_fieldAddr rfl fld_45_0) rfl rfl rfl ?_
 refine XO_v0 (ev_load rfl sct_3 (fun hg => by first | exact Cell.imm h3 rfl | exact Cell.imm h4 rfl | (repeat (first | exact Cell.here rfl | apply Cell.there | apply Cell.app)))) rfl rfl rfl ?_
 refine XO_v0 (ev_fieldAddr rfl fld_45_0) rfl rfl rfl ?_
 refine XO_v0 (ev_load rfl sct_3 (fun hg => by first | exact Cell.imm h3 rfl | exact Cell.imm h4 rfl | (repeat (first | exact Cell.here rfl | apply Cell.there | apply Cell.app)))) rfl rfl rfl ?_
 refine zC ?_
 refine zM ?_
 refine XO_pushF 5 rfl rfl rfl ?_
 refine XO_v1 (ev_fieldAddr rfl fld_45_1) (.some rfl rfl rfl rfl gbf) rfl rfl rfl ?_
 refine XO_v1 (ev_load rfl sct_3 (fun hg => by first | exact Cell.imm h3 rfl | exact Cell.imm h4 rfl | (repeat (first | exact Cell.here rfl | apply Cell.there | apply Cell.app)))) (.some rfl rfl rfl rfl gbf) rfl rfl rfl ?_
 refine XO_v1 (ev_fieldAddr rfl fld_45_1) (.some rfl rfl rfl rfl gbf) rfl rfl rfl ?_
 refine XO_v1 (ev_load rfl sct_3 (fun hg => by first | exact Cell.imm h3 rfl | exact Cell.imm h4 rfl | (repeat (first | exact Cell.here rfl | apply Cell.there | apply Cell.app)))) (.some rfl rfl rfl rfl gbf) rfl rfl rfl ?_
 refine XO_v1 (ev_cmp rfl rfl rfl) (.some rfl rfl rfl rfl gbf) rfl rfl rfl ?_
 refine XO_or0 rfl rfl rfl rfl rfl ?_
 refine zM ?_
 refine XO_pushF 12 rfl rfl rfl ?_
 refine XO_v1 (ev_fieldAddr rfl fld_45_2) (.some rfl rfl rfl rfl gbf) rfl rfl rfl ?_
 refine XO_v1 (ev_load rfl sct_3 (fun hg => by first | exact Cell.imm h3 rfl | exact Cell.imm h4 rfl | (repeat (first | exact Cell.here rfl | apply Cell.there | apply Cell.app)))) (.some rfl rfl rfl rfl gbf) rfl rfl rfl ?_
 refine XO_v1 (ev_fieldAddr rfl fld_45_2) (.some rfl rfl rfl rfl gbf) rfl rfl rfl ?_
 refine XO_v1 (ev_load rfl sct_3 (fun hg => by first | exact Cell.imm h3 rfl | exact Cell.imm h4 rfl | (repeat (first | exact Cell.here rfl | apply Cell.there | apply Cell.app)))) (.some rfl rfl rfl rfl gbf) rfl rfl rfl ?_
 refine XO_v1 (ev_cmp rfl rfl rfl) (.some rfl rfl rfl rfl gbf) rfl rfl rfl ?_
 refine XO_or0 rfl rfl rfl rfl rfl ?_
 refine zM ?_
 refine XO_pushF 19 rfl rfl rfl ?_
 refine XO_v1 (ev_fieldAddr rfl fld_45_3) (.some rfl rfl rfl rfl gbf) rfl rfl rfl ?_
 refine XO_v1 (ev_load rfl sct_35 (fun hg => by first | exact Cell.imm h3 rfl | exact Cell.imm h4 rfl | (repeat (first | exact Cell.here rfl | apply Cell.there | apply Cell.app)))) (.some rfl rfl rfl rfl gbf) rfl rfl rfl ?_
 refine XO_v1 (ev_lenS rfl slt_35) (.some rfl rfl rfl rfl gbf) rfl rfl rfl ?_
 refine XO_v1 (ev_fieldAddr rfl fld_45_3) (.some rfl rfl rfl rfl gbf) rfl rfl rfl ?_
 refine XO_v1 (ev_load rfl sct_35 (fun hg => by first | exact Cell.imm h3 rfl | exact Cell.imm h4 rfl | (repeat (first | exact Cell.here rfl | apply Cell.there | apply Cell.app)))) (.some rfl rfl rfl rfl gbf) rfl rfl rfl ?_
 refine XO_v1 (ev_lenS rfl slt_35) (.some rfl rfl rfl rfl gbf) rfl rfl rfl ?_
 refine XO_v1 (ev_cmp rfl rfl rfl) (.some rfl rfl rfl rfl gbf) rfl rfl rfl ?_
 refine XO_or0 rfl rfl rfl rfl rfl ?_
 refine zM ?_
 refine XO_pushF 28 rfl rfl rfl ?_
 refine XO_v1 (ev_move rfl) (.some rfl rfl rfl rfl gbf) rfl rfl rfl ?_
 refine XO_v1 (ev_cmp rfl rfl rfl) (.some rfl rfl rfl rfl gbf) rfl rfl rfl ?_
 refine XO_or0 rfl rfl rfl rfl rfl ?_
 refine zN ?_
 refine X_cond rfl (fun hc39 => ?_) (fun hc39 => ?_)
 ·
  have h1 : (((((r != r') || (d != d')) || (wz != wz')) || ((ks.length : Int) != (ks'.length : Int))) || ((f : Int) == 0)) = true := by rw [hlK, hlK']; exact hc39
  refine zR ?_
  refine zA ?_
  refine zN ?_
  refine X_ret ?_
  refine at_then_r ?_
  exact at_ret1 rfl rfl (fun w hw => ⟨by rw [samP_bad h1], (hw.mono hIc).drop⟩)
 have h1 : (((((r != r') || (d != d')) || (wz != wz')) || ((ks.length : Int) != (ks'.length : Int))) || ((f : Int) == 0)) = false := by rw [hlK, hlK']; exact hc39
 have h1s := h1
 simp at h1s
 obtain ⟨f', rfl⟩ : ∃ f', f = f' + 1 := ⟨f - 1, by omega⟩
 refine X_skip ?_
 refine at_then ?_
 refine X_seq ?_
 refine zR ?_
 refine zA ?_
 refine zN ?_
 refine X_block ?_
 refine X_loopT [(2, _), (3, _), (4, _)] (.cons rfl (.cons rfl (.cons rfl .nil))) (fun T L0 mz E I' loc' => ∃ (k : Nat), mz = kn - k ∧ E = (7, .int .i64 k) :: T ∧ I2 = I' ∧ L0 = loc' ∧ k ≤ kn ∧ SamT f' ks ks' k) _ _ _ _ ⟨0, rfl, rfl, rfl, rfl, Nat.zero_le _, samT_0⟩ (.cons rfl (.cons rfl (.cons rfl (.cons rfl .nil)))) (HLe.refl _) rfl ?_
 rintro mz E I' loc' ⟨k, rfl, rfl, rfl, rfl, hk, hsa⟩
 refine X_seq ?_
 refine zR ?_
 refine zM ?_
 refine XO_v0 (ev_fieldAddr rfl fld_45_3) rfl rfl rfl ?_
 refine XO_v0 (ev_load rfl sct_35 (fun hg => by first | exact Cell.imm h3 rfl | exact Cell.imm h4 rfl | (repeat (first | exact Cell.here rfl | apply Cell.there | apply Cell.app)))) rfl rfl rfl ?_
 refine XO_v0 (ev_lenS rfl slt_35) rfl rfl rfl ?_
 refine zC ?_
 refine zN ?_
 refine X_cond rfl (fun hc44 => ?_) (fun hc44 => ?_)
 ·
  have hlt_k : k < kn := by have h := hc44; simp at h; omega
  obtain ⟨kh, hkh⟩ := hK.at hlt_k
  obtain ⟨kk, hkk, hka⟩ := hks.at k kh hkh
  obtain ⟨kh', hkh'⟩ := hK'.at (show k < kn' by omega)
  obtain ⟨kk', hkk', hka'⟩ := hks'.at k kh' hkh'
  refine X_skip ?_
  refine at_then ?_
  refine X_seq ?_
  refine X_block ?_
  refine X_seq ?_
  refine X_draw mixed (by kernel_rfl) ?_
  refine XQ_v0 (ev_fieldAddr rfl fld_45_3) rfl rfl rfl ?_
  refine XQ_v0 (ev_load rfl sct_35 (fun hg => by first | exact Cell.imm h3 rfl | exact Cell.imm h4 rfl | (repeat (first | exact Cell.here rfl | apply Cell.there | apply Cell.app)))) rfl rfl rfl ?_
  refine XQ_v0 (ev_move rfl) rfl rfl rfl ?_
  refine XQ_v0 (ev_indexSl rfl rfl slt_35 hK (fun hg => by first | omega | (simp [conj] at hg; omega) | (dsimp only; omega) | (simp [conj] at hg; dsimp only at *; omega))) rfl rfl rfl ?_
  refine XQ_v0 (ev_loadA rfl agt_45 (fun hg => by first | exact Sl.getA hK hkh | exact Sl.getA hK' hkh' | (repeat (first | exact Cells.here | exact Cells.s0 (vs := [_, _, _, _]) rfl | apply Cells.there | apply Cells.app))) rfl) rfl rfl rfl ?_
  refine XQ_v0 (ev_fieldAddr rfl fld_45_3) rfl rfl rfl ?_
  refine XQ_v0 (ev_load rfl sct_35 (fun hg => by first | exact Cell.imm h3 rfl | exact Cell.imm h4 rfl | (repeat (first | exact Cell.here rfl | apply Cell.there | apply Cell.app)))) rfl rfl rfl ?_
  refine XQ_v0 (ev_move rfl) rfl rfl rfl ?_
  refine XQ_v0 (ev_indexSl rfl rfl slt_35 hK' (fun hg => by first | omega | (simp [conj] at hg; omega) | (dsimp only; omega) | (simp [conj] at hg; dsimp only at *; omega))) rfl rfl rfl ?_
  refine XQ_v0 (ev_loadA rfl agt_45 (fun hg => by first | exact Sl.getA hK hkh | exact Sl.getA hK' hkh' | (repeat (first | exact Cells.here | exact Cells.s0 (vs := [_, _, _, _]) rfl | apply Cells.there | apply Cells.app))) rfl) rfl rfl rfl ?_
  refine XQ_v0 (ev_move rfl) rfl rfl rfl ?_
  refine XQ_v0 (ev_arB rfl rfl rfl (fun hg => by first | omega | (simp [conj] at hg; omega) | (dsimp only; omega) | (simp [conj] at hg; dsimp only at *; omega))) rfl rfl rfl ?_
  refine XQ_callV0 (cap := []) (vs := [_, _, _]) rfl rfl fun_64 ((show RetV Tryz.prog 64 [encPHA kh, encPHA kh', .int .i64 (((f' + 1 : Nat) : Int) - 1)] I2 (.bool (samP f' kk kk')) from by rw [show ((f' + 1 : Nat) : Int) - 1 = (f' : Int) by omega]; exact ih f' rfl kk kk' (List.mem_of_getElem? hkk) (List.mem_of_getElem? hkk') _ hIc kh kh' hka hka')) rfl rfl ?_
  refine XQ_v0 (ev_not rfl) rfl rfl rfl ?_
  refine XQ_nil ?_
  refine at_then ?_
  refine X_cond rfl (fun hc60 => ?_) (fun hc60 => ?_)
  ·
   have hsb : samP f' kk kk' = false := by simpa using hc60
   refine zR ?_
   refine zA ?_
   refine zN ?_
   refine X_ret ?_
   refine at_block_r ?_
   refine at_then_r ?_
   refine at_then_r ?_
   refine at_block_r ?_
   refine at_then_r ?_
   exact at_ret1 rfl rfl (fun w hw => ⟨by rw [samP_good h1, samL_bad hkk hkk' hsb], (hw.mono hIc).drop⟩)
  refine X_skip ?_
  refine at_block_n ?_
  refine at_then ?_
  refine X_region ?_
  refine zM ?_
  refine XO_v0 (ev_arB rfl rfl rfl (fun hg => by first | omega | (simp [conj] at hg; omega) | (dsimp only; omega) | (simp [conj] at hg; dsimp only at *; omega))) rfl rfl rfl ?_
  refine zA ?_
  refine XO_nil ?_
  exact at_met2 _ _ ⟨kn - (k + 1), by omega, k + 1, rfl, rfl, rfl, rfl, by omega, samT_step hsa hkk hkk' (by simpa using hc60)⟩ (.cons rfl (.cons rfl (.cons rfl (.cons rfl .nil)))) (by repeat (first | exact .refl | exact subL_left | refine subL_app ?_ | refine .drop ?_ | refine subL_add ?_))
 have hge_k : kn ≤ k := by have h := hc44; simp at h; omega
 refine X_exit ?_
 refine at_then_e ?_
 refine at_then_e ?_
 refine at_block_hit ?_
 refine at_then ?_
 refine zR ?_
 refine zA ?_
 refine zN ?_
 refine X_ret ?_
 exact at_ret1 rfl rfl (fun w hw => ⟨by rw [samP_good h1, samT_end hsa (by omega)], (hw.mono hIc).drop⟩)
theorem w_samP : ∀ (f : Nat) (hf : f ≤ 100) (p p' : Pr) {I : HMap} (h h' : PH) (_ : PrAt I h p) (_ : PrAt I h' p') (_ : smlP p), RetV Tryz.prog 64 [encPHA h, encPHA h', .int .i64 f] I (.bool (samP f p p')) := by
 intro f
 induction f with
 | zero =>
  rintro hf ⟨r, d, w, ks⟩ ⟨r', d', w', ks'⟩ I ⟨hr0, hd0, hw0, ka, kn, kc⟩ ⟨hr0', hd0', hw0', ka', kn', kc'⟩ hP hP' hsm
  unfold PrAt at hP hP'
  obtain ⟨e1, e2, e3, hs9, hK, hks⟩ := hP
  obtain ⟨e1', e2', e3', hs9', hK', hks'⟩ := hP'
  simp only at e1 e2 e3 hK e1' e2' e3' hK'
  subst e1 e2 e3 e1' e2' e3'
  unfold smlP at hsm
  exact w_samP_step hK hks hK' hks' (by have h1 := hks.len; have h2 := hK.len; omega) 0 hf (fun f' e => by omega)
 | succ f ih =>
  rintro hf ⟨r, d, w, ks⟩ ⟨r', d', w', ks'⟩ I ⟨hr0, hd0, hw0, ka, kn, kc⟩ ⟨hr0', hd0', hw0', ka', kn', kc'⟩ hP hP' hsm
  unfold PrAt at hP hP'
  obtain ⟨e1, e2, e3, hs9, hK, hks⟩ := hP
  obtain ⟨e1', e2', e3', hs9', hK', hks'⟩ := hP'
  simp only at e1 e2 e3 hK e1' e2' e3' hK'
  subst e1 e2 e3 e1' e2' e3'
  unfold smlP at hsm
  exact w_samP_step hK hks hK' hks' (by have h1 := hks.len; have h2 := hK.len; omega) (f + 1) hf (fun f' e k k' hk hk' I' hI' h h' hP hP' => by
   obtain rfl : f' = f := by omega
   exact ih (by omega) k k' h h' hP hP' (smlL_mem hsm.2 hk))
theorem w_samPs {I : HMap} {av : Option Addr} {n c : Nat} {hs : List PH} {xs : List Pr} (hS : Sl I 4 encPH av n c hs) (hxs : PrsAt I hs xs) (hn : n ≤ 100000) (hsm : ∀ p ∈ xs, smlP p) {bv : Option Addr} {n2 c2 : Nat} {hs2 : List PH} {ys : List Pr} (hT : Sl I 4 encPH bv n2 c2 hs2) (hys : PrsAt I hs2 ys) : RetV Tryz.prog 22 [.slice av n c, .slice bv n2 c2] I (.bool (samPs xs ys)) := by
 intro g H w hw
 refine enter Tryz.func22 rfl Tryz.ntmps22 rfl hw ?_
 have hlX : xs.length = n := by rw [← hxs.len]; exact hS.len
 have hlY : ys.length = n2 := by rw [← hys.len]; exact hT.len
 refine zR ?_
 refine zA ?_
 refine zN ?_
 refine X_seq ?_
 refine zR ?_
 refine zM ?_
 refine XO_v0 (ev_lenS rfl slt_35) rfl rfl rfl ?_
 refine zM ?_
 refine XO_v0 (ev_lenS rfl slt_35) rfl rfl rfl ?_
 refine zC ?_
 refine zN ?_
 refine X_cond rfl (fun hc10 => ?_) (fun hc10 => ?_)
 ·
  have hne : xs.length ≠ ys.length := fun e => by have h := hc10; simp at h; omega
  refine zR ?_
  refine zA ?_
  refine zN ?_
  refine X_ret ?_
  refine at_then_r ?_
  exact at_ret1 rfl rfl (fun w hw => ⟨by rw [samPs_len hne], hw.drop⟩)
 have hnn : n = n2 := by have h := hc10; simp at h; omega
 refine X_skip ?_
 refine at_then ?_
 refine X_seq ?_
 refine zR ?_
 refine zA ?_
 refine zN ?_
 refine X_block ?_
 refine X_loopT [(0, _), (1, _)] (.cons rfl (.cons rfl .nil)) (fun T L0 mz E I' loc' => ∃ (k : Nat), mz = n - k ∧ E = (5, .int .i64 k) :: T ∧ I = I' ∧ L0 = loc' ∧ k ≤ n ∧ SamT 20 xs ys k) _ _ _ _ ⟨0, rfl, rfl, rfl, rfl, Nat.zero_le _, samT_0⟩ (.cons rfl (.cons rfl (.cons rfl .nil))) (HLe.refl _) rfl ?_
 rintro mz E I' loc' ⟨k, rfl, rfl, rfl, rfl, hk, hsa⟩
 refine X_seq ?_
 refine zR ?_
 refine zM ?_
 refine zM ?_
 refine XO_v0 (ev_lenS rfl slt_35) rfl rfl rfl ?_
 refine zC ?_
 refine zN ?_
 refine X_cond rfl (fun hc14 => ?_) (fun hc14 => ?_)
 ·
  have hlt_k : k < n := by have h := hc14; simp at h; omega
  obtain ⟨kh, hkh⟩ := hS.at hlt_k
  obtain ⟨kk, hkk, hka⟩ := hxs.at k kh hkh
  obtain ⟨kh', hkh'⟩ := hT.at (show k < n2 by omega)
  obtain ⟨kk', hkk', hka'⟩ := hys.at k kh' hkh'
  refine X_skip ?_
  refine at_then ?_
  refine X_seq ?_
  refine X_block ?_
  refine X_seq ?_
  refine X_draw mixed (by kernel_rfl) ?_
  refine XQ_v0 (ev_move rfl) rfl rfl rfl ?_
  refine XQ_v0 (ev_move rfl) rfl rfl rfl ?_
  refine XQ_v0 (ev_indexSl rfl rfl slt_35 hS (fun hg => by first | omega | (simp [conj] at hg; omega))) rfl rfl rfl ?_
  refine XQ_v0 (ev_loadA rfl agt_45 (fun hg => by first | exact Sl.getA hS hkh | exact Sl.getA hT hkh' | (repeat (first | exact Cells.here | exact Cells.s0 (vs := [_, _, _, _]) rfl | apply Cells.there | apply Cells.app))) rfl) rfl rfl rfl ?_
  refine XQ_v0 (ev_move rfl) rfl rfl rfl ?_
  refine XQ_v0 (ev_move rfl) rfl rfl rfl ?_
  refine XQ_v0 (ev_indexSl rfl rfl slt_35 hT (fun hg => by first | omega | (simp [conj] at hg; omega))) rfl rfl rfl ?_
  refine XQ_v0 (ev_loadA rfl agt_45 (fun hg => by first | exact Sl.getA hS hkh | exact Sl.getA hT hkh' | (repeat (first | exact Cells.here | exact Cells.s0 (vs := [_, _, _, _]) rfl | apply Cells.there | apply Cells.app))) rfl) rfl rfl rfl ?_
  refine XQ_callV0 (cap := []) (vs := [_, _, _]) rfl rfl fun_64 (w_samP 20 (by decide) kk kk' kh kh' hka hka' (hsm kk (List.mem_of_getElem? hkk))) rfl rfl ?_
  refine XQ_v0 (ev_not rfl) rfl rfl rfl ?_
  refine XQ_nil ?_
  refine at_then ?_
  refine X_cond rfl (fun hc26 => ?_) (fun hc26 => ?_)
  ·
   refine zR ?_
   refine zA ?_
   refine zN ?_
   refine X_ret ?_
   refine at_block_r ?_
   refine at_then_r ?_
   refine at_then_r ?_
   refine at_block_r ?_
   refine at_then_r ?_
   first
   | exact at_ret1 rfl rfl (fun w hw => ⟨by unfold samPs; rw [samL_bad hkk hkk' (by simpa using hc26), Bool.and_false], hw.drop⟩)
  refine X_skip ?_
  refine at_block_n ?_
  refine at_then ?_
  refine X_region ?_
  refine zM ?_
  refine zB ?_
  refine zA ?_
  refine XO_nil ?_
  exact at_met2 _ _ ⟨n - (k + 1), by omega, k + 1, rfl, rfl, rfl, rfl, by omega, samT_step hsa hkk hkk' (by simpa using hc26)⟩ (.cons rfl (.cons rfl (.cons rfl .nil))) (by repeat (first | exact .refl | exact subL_left | refine subL_app ?_ | refine .drop ?_ | refine subL_add ?_))
 have hge_k : n ≤ k := by have h := hc14; simp at h; omega
 refine X_exit ?_
 refine at_then_e ?_
 refine at_then_e ?_
 refine at_block_hit ?_
 refine at_then ?_
 refine zR ?_
 refine zA ?_
 refine zN ?_
 refine X_ret ?_
 first
 | exact at_ret1 rfl rfl (fun w hw => ⟨by unfold samPs; rw [decide_eq_true (show xs.length = ys.length by omega), samT_end hsa (by omega)]; rfl, hw.drop⟩)
theorem w_samS {I : HMap} {av : Option Addr} {n c : Nat} {hs : List SH} {xs : List Ses} (hS : SlSH I av n c hs xs) (hn : n ≤ 100000) (hwh : ∀ s ∈ xs, s.who.length ≤ 100000 ∧ s.needs.length ≤ 100000) {bv : Option Addr} {n2 c2 : Nat} {hs2 : List SH} {ys : List Ses} (hT : SlSH I bv n2 c2 hs2 ys) : RetV Tryz.prog 14 [.slice av n c, .slice bv n2 c2] I (.bool (samS xs ys)) := by
 intro g H w hw
 refine enter Tryz.func14 rfl Tryz.ntmps14 rfl hw ?_
 have hlX := hS.len
 have hlY := hT.len
 refine zR ?_
 refine zA ?_
 refine zN ?_
 refine X_seq ?_
 refine zR ?_
 refine zM ?_
 refine XO_v0 (ev_lenS rfl slt_27) rfl rfl rfl ?_
 refine zM ?_
 refine XO_v0 (ev_lenS rfl slt_27) rfl rfl rfl ?_
 refine zC ?_
 refine zN ?_
 refine X_cond rfl (fun hc10 => ?_) (fun hc10 => ?_)
 ·
  have hne : xs.length ≠ ys.length := fun e => by have h := hc10; simp at h; omega
  refine zR ?_
  refine zA ?_
  refine zN ?_
  refine X_ret ?_
  refine at_then_r ?_
  exact at_ret1 rfl rfl (fun w hw => ⟨by rw [samS_len hne], hw.drop⟩)
 have hnn : n = n2 := by have h := hc10; simp at h; omega
 refine X_skip ?_
 refine at_then ?_
 refine X_seq ?_
 refine zR ?_
 refine zA ?_
 refine zN ?_
 refine X_block ?_
 refine X_loopT [(0, _), (1, _)] (.cons rfl (.cons rfl .nil)) (fun T L0 mz E I' loc' => ∃ (k : Nat), mz = n - k ∧ E = (5, .int .i64 k) :: T ∧ I = I' ∧ L0 = loc' ∧ k ≤ n ∧ ((xs.zip ys).take k).any (fun q => ssNe q.1 q.2) = false) _ _ _ _ ⟨0, rfl, rfl, rfl, rfl, Nat.zero_le _, rfl⟩ (.cons rfl (.cons rfl (.cons rfl .nil))) (HLe.refl _) rfl ?_
 rintro mz E I' loc' ⟨k, rfl, rfl, rfl, rfl, hk, hno⟩
 refine X_seq ?_
 refine zR ?_
 refine zM ?_
 refine zM ?_
 refine XO_v0 (ev_lenS rfl slt_27) rfl rfl rfl ?_
 refine zC ?_
 refine zN ?_
 refine X_cond rfl (fun hc14 => ?_) (fun hc14 => ?_)
 ·
  have hlt_k : k < n := by have h := hc14; simp at h; omega
  obtain ⟨x, s, hx, hx2, q1, q2, hW1, hN1⟩ := hS.at hlt_k
  obtain ⟨y, t, hy, hy2, p1, p2, hW2, hN2⟩ := hT.at (show k < n2 by omega)
  have hwl := hwh s (List.mem_of_getElem? hx2)
  have hl1 := hW1.len
  have hl2 := hN1.len
  refine X_skip ?_
  refine at_then ?_
  refine X_seq ?_
  refine X_block ?_
  refine X_seq ?_
  refine X_draw mixed (by kernel_rfl) ?_
  refine XQ_v0 (ev_move rfl) rfl rfl rfl ?_
  refine XQ_v0 (ev_move rfl) rfl rfl rfl ?_
  refine XQ_v0 (ev_indexSl rfl rfl slt_27 hS.1 (fun hg => by first | omega | (simp [conj] at hg; omega))) rfl rfl rfl ?_
  refine XQ_v0 (ev_fieldAddr rfl fld_58_0) rfl rfl rfl ?_
  refine XQ_v0 (ev_load rfl sct_3 (fun hg => by first | exact Sl.get0 hS.1 hx rfl | exact Sl.get0 hT.1 hy rfl | exact Sl.get hS.1 hx (j := 1) rfl | exact Sl.get hS.1 hx (j := 2) rfl | exact Sl.get hS.1 hx (j := 3) rfl | exact Sl.get hT.1 hy (j := 1) rfl | exact Sl.get hT.1 hy (j := 2) rfl | exact Sl.get hT.1 hy (j := 3) rfl | (repeat (first | exact Cell.here rfl | apply Cell.there | apply Cell.app)))) rfl rfl rfl ?_
  refine XQ_v0 (ev_move rfl) rfl rfl rfl ?_
  refine XQ_v0 (ev_move rfl) rfl rfl rfl ?_
  refine XQ_v0 (ev_indexSl rfl rfl slt_27 hT.1 (fun hg => by first | omega | (simp [conj] at hg; omega))) rfl rfl rfl ?_
  refine XQ_v0 (ev_fieldAddr rfl fld_58_0) rfl rfl rfl ?_
  refine XQ_v0 (ev_load rfl sct_3 (fun hg => by first | exact Sl.get0 hS.1 hx rfl | exact Sl.get0 hT.1 hy rfl | exact Sl.get hS.1 hx (j := 1) rfl | exact Sl.get hS.1 hx (j := 2) rfl | exact Sl.get hS.1 hx (j := 3) rfl | exact Sl.get hT.1 hy (j := 1) rfl | exact Sl.get hT.1 hy (j := 2) rfl | exact Sl.get hT.1 hy (j := 3) rfl | (repeat (first | exact Cell.here rfl | apply Cell.there | apply Cell.app)))) rfl rfl rfl ?_
  refine XQ_v0 (ev_cmp rfl rfl rfl) rfl rfl rfl ?_
  refine XQ_v0 (ev_move rfl) rfl rfl rfl ?_
  refine XQ_pushF 11 rfl rfl rfl ?_
  refine XQ_v1 (ev_move rfl) (.some rfl rfl rfl rfl gbf) rfl rfl rfl ?_
  refine XQ_v1 (ev_move rfl) (.some rfl rfl rfl rfl gbf) rfl rfl rfl ?_
  refine XQ_v1 (ev_indexSl rfl rfl slt_27 hS.1 (fun hg => by first | omega | (simp [conj] at hg; omega))) (.some rfl rfl rfl rfl gbf) rfl rfl rfl ?_
  refine XQ_v1 (ev_fieldAddr rfl fld_58_1) (.some rfl rfl rfl rfl gbf) rfl rfl rfl ?_
  refine XQ_v1 (ev_load rfl sct_3 (fun hg => by first | exact Sl.get0 hS.1 hx rfl | exact Sl.get0 hT.1 hy rfl | exact Sl.get hS.1 hx (j := 1) rfl | exact Sl.get hS.1 hx (j := 2) rfl | exact Sl.get hS.1 hx (j := 3) rfl | exact Sl.get hT.1 hy (j := 1) rfl | exact Sl.get hT.1 hy (j := 2) rfl | exact Sl.get hT.1 hy (j := 3) rfl | (repeat (first | exact Cell.here rfl | apply Cell.there | apply Cell.app)))) (.some rfl rfl rfl rfl gbf) rfl rfl rfl ?_
  refine XQ_v1 (ev_move rfl) (.some rfl rfl rfl rfl gbf) rfl rfl rfl ?_
  refine XQ_v1 (ev_move rfl) (.some rfl rfl rfl rfl gbf) rfl rfl rfl ?_
  refine XQ_v1 (ev_indexSl rfl rfl slt_27 hT.1 (fun hg => by first | omega | (simp [conj] at hg; omega))) (.some rfl rfl rfl rfl gbf) rfl rfl rfl ?_
  refine XQ_v1 (ev_fieldAddr rfl fld_58_1) (.some rfl rfl rfl rfl gbf) rfl rfl rfl ?_
  refine XQ_v1 (ev_load rfl sct_3 (fun hg => by first | exact Sl.get0 hS.1 hx rfl | exact Sl.get0 hT.1 hy rfl | exact Sl.get hS.1 hx (j := 1) rfl | exact Sl.get hS.1 hx (j := 2) rfl | exact Sl.get hS.1 hx (j := 3) rfl | exact Sl.get hT.1 hy (j := 1) rfl | exact Sl.get hT.1 hy (j := 2) rfl | exact Sl.get hT.1 hy (j := 3) rfl | (repeat (first | exact Cell.here rfl | apply Cell.there | apply Cell.app)))) (.some rfl rfl rfl rfl gbf) rfl rfl rfl ?_
  refine XQ_v1 (ev_cmp rfl rfl rfl) (.some rfl rfl rfl rfl gbf) rfl rfl rfl ?_
  refine XQ_or0 rfl rfl rfl rfl rfl ?_
  refine XQ_v0 (ev_move rfl) rfl rfl rfl ?_
  refine XQ_pushF 24 rfl rfl rfl ?_
  refine XQ_v1 (ev_move rfl) (.some rfl rfl rfl rfl gbf) rfl rfl rfl ?_
  refine XQ_v1 (ev_move rfl) (.some rfl rfl rfl rfl gbf) rfl rfl rfl ?_
  refine XQ_v1 (ev_indexSl rfl rfl slt_27 hS.1 (fun hg => by first | omega | (simp [conj] at hg; omega))) (.some rfl rfl rfl rfl gbf) rfl rfl rfl ?_
  refine XQ_v1 (ev_fieldAddr rfl fld_58_2) (.some rfl rfl rfl rfl gbf) rfl rfl rfl ?_
  refine XQ_v1 (ev_load rfl sct_23 (fun hg => by first | exact Sl.get0 hS.1 hx rfl | exact Sl.get0 hT.1 hy rfl | exact Sl.get hS.1 hx (j := 1) rfl | exact Sl.get hS.1 hx (j := 2) rfl | exact Sl.get hS.1 hx (j := 3) rfl | exact Sl.get hT.1 hy (j := 1) rfl | exact Sl.get hT.1 hy (j := 2) rfl | exact Sl.get hT.1 hy (j := 3) rfl | (repeat (first | exact Cell.here rfl | apply Cell.there | apply Cell.app)))) (.some rfl rfl rfl rfl gbf) rfl rfl rfl ?_
  refine XQ_v1 (ev_move rfl) (.some rfl rfl rfl rfl gbf) rfl rfl rfl ?_
  refine XQ_v1 (ev_move rfl) (.some rfl rfl rfl rfl gbf) rfl rfl rfl ?_
  refine XQ_v1 (ev_indexSl rfl rfl slt_27 hT.1 (fun hg => by first | omega | (simp [conj] at hg; omega))) (.some rfl rfl rfl rfl gbf) rfl rfl rfl ?_
  refine XQ_v1 (ev_fieldAddr rfl fld_58_2) (.some rfl rfl rfl rfl gbf) rfl rfl rfl ?_
  refine XQ_v1 (ev_load rfl sct_23 (fun hg => by first | exact Sl.get0 hS.1 hx rfl | exact Sl.get0 hT.1 hy rfl | exact Sl.get hS.1 hx (j := 1) rfl | exact Sl.get hS.1 hx (j := 2) rfl | exact Sl.get hS.1 hx (j := 3) rfl | exact Sl.get hT.1 hy (j := 1) rfl | exact Sl.get hT.1 hy (j := 2) rfl | exact Sl.get hT.1 hy (j := 3) rfl | (repeat (first | exact Cell.here rfl | apply Cell.there | apply Cell.app)))) (.some rfl rfl rfl rfl gbf) rfl rfl rfl ?_
  refine XQ_callV1 (cap := []) (vs := [_, _]) rfl rfl fun_23 (fun hg => w_rSame hW1 (by omega) hW2) (.some rfl rfl rfl rfl gbf) rfl rfl ?_
  refine XQ_v1 (ev_not rfl) (.some rfl rfl rfl rfl gbf) rfl rfl rfl ?_
  refine XQ_or0 rfl rfl rfl rfl rfl ?_
  refine XQ_v0 (ev_move rfl) rfl rfl rfl ?_
  refine XQ_pushF 38 rfl rfl rfl ?_
  refine XQ_v1 (ev_move rfl) (.some rfl rfl rfl rfl gbf) rfl rfl rfl ?_
  refine XQ_v1 (ev_move rfl) (.some rfl rfl rfl rfl gbf) rfl rfl rfl ?_
  refine XQ_v1 (ev_indexSl rfl rfl slt_27 hS.1 (fun hg => by first | omega | (simp [conj] at hg; omega))) (.some rfl rfl rfl rfl gbf) rfl rfl rfl ?_
  refine XQ_v1 (ev_fieldAddr rfl fld_58_3) (.some rfl rfl rfl rfl gbf) rfl rfl rfl ?_
  refine XQ_v1 (ev_load rfl sct_23 (fun hg => by first | exact Sl.get0 hS.1 hx rfl | exact Sl.get0 hT.1 hy rfl | exact Sl.get hS.1 hx (j := 1) rfl | exact Sl.get hS.1 hx (j := 2) rfl | exact Sl.get hS.1 hx (j := 3) rfl | exact Sl.get hT.1 hy (j := 1) rfl | exact Sl.get hT.1 hy (j := 2) rfl | exact Sl.get hT.1 hy (j := 3) rfl | (repeat (first | exact Cell.here rfl | apply Cell.there | apply Cell.app)))) (.some rfl rfl rfl rfl gbf) rfl rfl rfl ?_
  refine XQ_v1 (ev_move rfl) (.some rfl rfl rfl rfl gbf) rfl rfl rfl ?_
  refine XQ_v1 (ev_move rfl) (.some rfl rfl rfl rfl gbf) rfl rfl rfl ?_
  refine XQ_v1 (ev_indexSl rfl rfl slt_27 hT.1 (fun hg => by first | omega | (simp [conj] at hg; omega))) (.some rfl rfl rfl rfl gbf) rfl rfl rfl ?_
  refine XQ_v1 (ev_fieldAddr rfl fld_58_3) (.some rfl rfl rfl rfl gbf) rfl rfl rfl ?_
  refine XQ_v1 (ev_load rfl sct_23 (fun hg => by first | exact Sl.get0 hS.1 hx rfl | exact Sl.get0 hT.1 hy rfl | exact Sl.get hS.1 hx (j := 1) rfl | exact Sl.get hS.1 hx (j := 2) rfl | exact Sl.get hS.1 hx (j := 3) rfl | exact Sl.get hT.1 hy (j := 1) rfl | exact Sl.get hT.1 hy (j := 2) rfl | exact Sl.get hT.1 hy (j := 3) rfl | (repeat (first | exact Cell.here rfl | apply Cell.there | apply Cell.app)))) (.some rfl rfl rfl rfl gbf) rfl rfl rfl ?_
  refine XQ_callV1 (cap := []) (vs := [_, _]) rfl rfl fun_23 (fun hg => w_rSame hN1 (by omega) hN2) (.some rfl rfl rfl rfl gbf) rfl rfl ?_
  refine XQ_v1 (ev_not rfl) (.some rfl rfl rfl rfl gbf) rfl rfl rfl ?_
  refine XQ_or0 rfl rfl rfl rfl rfl ?_
  refine XQ_nil ?_
  refine at_then ?_
  refine X_cond rfl (fun hc68 => ?_) (fun hc68 => ?_)
  ·
   have hb : ssNe s t = true := by unfold ssNe; rw [← q1, ← q2, ← p1, ← p2]; exact hc68
   refine zR ?_
   refine zA ?_
   refine zN ?_
   refine X_ret ?_
   refine at_block_r ?_
   refine at_then_r ?_
   refine at_then_r ?_
   refine at_block_r ?_
   refine at_then_r ?_
   exact at_ret1 rfl rfl (fun w hw => ⟨by rw [samS_bad hx2 hy2 hb], hw.drop⟩)
  have hb : ssNe s t = false := by unfold ssNe; rw [← q1, ← q2, ← p1, ← p2]; exact hc68
  refine X_skip ?_
  refine at_block_n ?_
  refine at_then ?_
  refine X_region ?_
  refine zM ?_
  refine zB ?_
  refine zA ?_
  refine XO_nil ?_
  exact at_met2 _ _ ⟨n - (k + 1), by omega, k + 1, rfl, rfl, rfl, rfl, by omega, any_no (show (xs.zip ys)[k]? = some (s, t) from List.getElem?_zip_eq_some.2 ⟨hx2, hy2⟩) hno hb⟩ (.cons rfl (.cons rfl (.cons rfl .nil))) (by repeat (first | exact .refl | exact subL_left | refine subL_app ?_ | refine .drop ?_ | refine subL_add ?_))
 have hge_k : n ≤ k := by have h := hc14; simp at h; omega
 have hkn : k = xs.length := by omega
 subst hkn
 refine X_exit ?_
 refine at_then_e ?_
 refine at_then_e ?_
 refine at_block_hit ?_
 refine at_then ?_
 refine zR ?_
 refine zA ?_
 refine zN ?_
 refine X_ret ?_
 exact at_ret1 rfl rfl (fun w hw => ⟨by rw [samS_end (by omega) hno], hw.drop⟩)
end Go.Proofs.YtehkiccapbkhnaaGreat
end
section
namespace Go.Proofs.YtehkiccapbkhnaaGreat
open Go Go.Kn Go.Proofs
def twoC : Cr := ⟨[4, 5, 8], 1, 1, 9, 2, [⟨3, 1, [7], []⟩, ⟨4, 2, [7], [0]⟩]⟩
def two1C : Cr := ⟨[4, 5, 8], 1, 1, 9, 1, [⟨3, 1, [7], []⟩, ⟨4, 2, [7], [0]⟩]⟩
def empC : Cr := ⟨[], 1, 1, 1, 1, []⟩
def zerC : Cr := ⟨[], 0, 0, 0, 0, []⟩
def manC : Cr := ⟨List.replicate 17 0, 0, 0, 0, 0, []⟩
def patP : Pt := ⟨2, 1, 0, 5, ⟨0, 0, 0, 0, 0, 0, 1, 0, 0, 0, 0, 0, 0, 0⟩, none, 0, 0, []⟩
def prfP : Pr := .mk 0 0 0 [.mk 0 0 0 [.mk 1 0 0 []]]
theorem f_pl1 : planL twoC = [0, 1] := by kernel_rfl
theorem f_po1 : planO twoC = true := by kernel_rfl
theorem f_ck1 : chkC twoC = 0 := by kernel_rfl
theorem f_ro1 : refO twoC 1 = true := by kernel_rfl
theorem f_le1 : lastE twoC 1 = 0 := by kernel_rfl
theorem f_rp1 : refP twoC 1 = prfP := by kernel_rfl
theorem f_ro2 : refO twoC 2 = false := by kernel_rfl
theorem f_le2 : lastE twoC 2 = 0 := by kernel_rfl
theorem f_ac1 : accO twoC 1 prfP = true := by kernel_rfl
theorem f_ac2 : accO twoC 2 prfP = false := by kernel_rfl
theorem f_be1 : brokE twoC [1, 1] = 0 := by kernel_rfl
theorem f_bl1 : brokL twoC [1, 1] = [⟨1, 1, 0⟩, ⟨2, 1, 0⟩, ⟨3, 1, 7⟩] := by kernel_rfl
theorem f_pl2 : planL two1C = [0, 2] := by kernel_rfl
theorem f_po2 : planO two1C = true := by kernel_rfl
theorem f_ck2 : chkC two1C = 0 := by kernel_rfl
theorem f_be2 : brokE two1C [0, 0, 0] = 400 := by kernel_rfl
theorem f_pl3 : planL empC = [] := by kernel_rfl
theorem f_po3 : planO empC = true := by kernel_rfl
theorem f_ck3 : chkC empC = 0 := by kernel_rfl
theorem f_ck4 : chkC zerC = 400 := by kernel_rfl
theorem f_ck5 : chkC manC = 2 := by kernel_rfl
theorem f_fe1 : fromE [patP] [2] [[], [2], []] = 0 := by kernel_rfl
theorem f_fr1 : fromR [patP] [2] [[], [2], []] = [⟨2, 1, [0, 2], []⟩] := by kernel_rfl
theorem f_fe2 : fromE [patP] [3] [] = 400 := by kernel_rfl
theorem f_sp : samPs [prfP] [prfP] = true := by kernel_rfl
theorem f_sm : smlP prfP := by unfold prfP smlP smlL smlP smlL smlP smlL; exact ⟨by decide, ⟨by decide, ⟨by decide, trivial⟩, trivial⟩, trivial⟩
theorem d_two : ∀ s ∈ twoC.ss, s.needs.length ≤ 100000 := by decide
theorem d_two1 : ∀ s ∈ two1C.ss, s.needs.length ≤ 100000 := by decide
theorem d_emp : ∀ s ∈ empC.ss, s.needs.length ≤ 100000 := by decide
end Go.Proofs.YtehkiccapbkhnaaGreat
end
section
namespace Go.Proofs.YtehkiccapbkhnaaGreat
open Go Go.Kn Go.Proofs
theorem fun_12 : Fun Tryz.prog 12 := .of Tryz.func12 (by kernel_rfl) (by kernel_rfl)
theorem fun_14 : Fun Tryz.prog 14 := .of Tryz.func14 (by kernel_rfl) (by kernel_rfl)
theorem fun_16 : Fun Tryz.prog 16 := .of Tryz.func16 (by kernel_rfl) (by kernel_rfl)
theorem fun_18 : Fun Tryz.prog 18 := .of Tryz.func18 (by kernel_rfl) (by kernel_rfl)
theorem fun_22 : Fun Tryz.prog 22 := .of Tryz.func22 (by kernel_rfl) (by kernel_rfl)
theorem fun_25 : Fun Tryz.prog 25 := .of Tryz.func25 (by kernel_rfl) (by kernel_rfl)
theorem fun_27 : Fun Tryz.prog 27 := .of Tryz.func27 (by kernel_rfl) (by kernel_rfl)
theorem fun_37 : Fun Tryz.prog 37 := .of Tryz.func37 (by kernel_rfl) (by kernel_rfl)
theorem fun_38 : Fun Tryz.prog 38 := .of Tryz.func38 (by kernel_rfl) (by kernel_rfl)
theorem mkt_23 : MkT Tryz.prog 23 3 8 (.int .i64 0) := ⟨by kernel_rfl, by kernel_rfl, rfl⟩
theorem plt_33 : PlT Tryz.prog 33 #[(0, 1), (1, 1), (2, 1), (3, 1), (4, 1), (5, 1)] (.agg #[(.slice none 0 0), (.int .i64 0), (.int .i64 0), (.int .i64 0), (.int .i64 0), (.slice none 0 0)]) := ⟨.of (by kernel_rfl), by kernel_rfl, fun w => by kernel_rfl⟩
theorem plt_65 : PlT Tryz.prog 65 #[(0, 1), (1, 1), (2, 1), (3, 1), (4, 14), (18, 1)] (.agg #[(.int .i64 0), (.int .i64 0), (.int .i64 0), (.int .i64 0), (.int .i64 0), (.int .i64 0), (.int .i64 0), (.int .i64 0), (.int .i64 0), (.int .i64 0), (.int .i64 0), (.int .i64 0), (.int .i64 0), (.int .i64 0), (.int .i64 0), (.int .i64 0), (.int .i64 0), (.int .i64 0), (.slice none 0 0)]) := ⟨.of (by kernel_rfl), by kernel_rfl, fun w => by kernel_rfl⟩
theorem szt_33 : SzT Tryz.prog 33 6 := .of (by kernel_rfl)
theorem zt_33 : ZeroT Tryz.prog 33 (.agg #[(.slice none 0 0), (.int .i64 0), (.int .i64 0), (.int .i64 0), (.int .i64 0), (.slice none 0 0)]) := .of (by kernel_rfl)
theorem w_two (I : HMap) : RetM Tryz.prog 37 [] I [] (fun v I' L => L = [] ∧ ∃ a c b d, v = encCHA ⟨a, 3, c, 1, 1, 9, 2, b, 2, d⟩ ∧ CrAt I' ⟨a, 3, c, 1, 1, 9, 2, b, 2, d⟩ twoC) := by
 intro g H w hw
 refine enter Tryz.func37 rfl Tryz.ntmps37 rfl hw ?_
 have hIc := HLe.refl I
 refine zR ?_
 refine XO_alloc zt_33 rfl rfl (fun b_0 => ?_)
 refine zN (zR ?_)
 refine XO_buildSlice (ps := [(0, _), (1, _), (2, _)]) (m := [encI 4, encI 5, encI 8]) elt_23 rfl (.cons rfl (.cons rfl (.cons rfl (.nil)))) rfl (by simp [encI_len]) (by decide) (by decide) rfl rfl (fun b_1 => ?_)
 refine XO_freeze (by repeat (first | exact Take.here | apply Take.there)) (fun I1 hI1 hb1 => ?_)
 have hIc := hIc.trans hI1
 have hD := Sl.lit ([4, 5, 8] : List Int) rfl encI_len (show I1 b_1 = some (Obj.cells (([4, 5, 8] : List Int).flatMap encI).toArray 3 (0, 0)) from hb1)
 refine XO_buildSlice (ps := [(0, _)]) (m := [encI 7]) elt_23 rfl (.cons rfl (.nil)) rfl (by simp [encI_len]) (by decide) (by decide) rfl rfl (fun b_2 => ?_)
 refine XO_freeze (by repeat (first | exact Take.here | apply Take.there)) (fun I2 hI2 hb2 => ?_)
 have hD := hD.mono hI2; have hIc := hIc.trans hI2
 have hw1 := Sl.lit ([7] : List Int) rfl encI_len (show I2 b_2 = some (Obj.cells (([7] : List Int).flatMap encI).toArray 3 (0, 0)) from hb2)
 refine XO_v0 (ev_buildL (ps := [(0, _), (1, _), (2, _)]) [_, _, _, _] plt_58 rfl rfl) rfl rfl rfl ?_
 refine XO_buildSlice (ps := [(0, _)]) (m := [encI 7]) elt_23 rfl (.cons rfl (.nil)) rfl (by simp [encI_len]) (by decide) (by decide) rfl rfl (fun b_4 => ?_)
 refine XO_freeze (by repeat (first | exact Take.here | apply Take.there)) (fun I3 hI3 hb3 => ?_)
 have hD := hD.mono hI3; have hw1 := hw1.mono hI3; have hIc := hIc.trans hI3
 have hw2 := Sl.lit ([7] : List Int) rfl encI_len (show I3 b_4 = some (Obj.cells (([7] : List Int).flatMap encI).toArray 3 (0, 0)) from hb3)
 refine XO_buildSlice (ps := [(0, _)]) (m := [encI 0]) elt_23 rfl (.cons rfl (.nil)) rfl (by simp [encI_len]) (by decide) (by decide) rfl rfl (fun b_5 => ?_)
 refine XO_freeze (by repeat (first | exact Take.here | apply Take.there)) (fun I4 hI4 hb4 => ?_)
 have hD := hD.mono hI4; have hw1 := hw1.mono hI4; have hw2 := hw2.mono hI4; have hIc := hIc.trans hI4
 have hn2 := Sl.lit ([0] : List Int) rfl encI_len (show I4 b_5 = some (Obj.cells (([0] : List Int).flatMap encI).toArray 3 (0, 0)) from hb4)
 refine XO_v0 (ev_buildL (ps := [(0, _), (1, _), (2, _), (3, _)]) [_, _, _, _] plt_58 rfl rfl) rfl rfl rfl ?_
 refine XO_buildSlice (ps := [(0, _), (1, _)]) (m := [encSH ⟨3, 1, some ⟨b_2, 0, none⟩, 1, 1, none, 0, 0⟩, encSH ⟨4, 2, some ⟨b_4, 0, none⟩, 1, 1, some ⟨b_5, 0, none⟩, 1, 1⟩]) elt_27 rfl (.cons rfl (.cons rfl (.nil))) rfl (by simp [encSH_len]) (by decide) (by decide) rfl rfl (fun b_7 => ?_)
 refine XO_freeze (by repeat (first | exact Take.here | apply Take.there)) (fun I5 hI5 hb5 => ?_)
 have hD := hD.mono hI5; have hw1 := hw1.mono hI5; have hw2 := hw2.mono hI5; have hn2 := hn2.mono hI5; have hIc := hIc.trans hI5
 have hSS := Sl.lit ([⟨3, 1, some ⟨b_2, 0, none⟩, 1, 1, none, 0, 0⟩, ⟨4, 2, some ⟨b_4, 0, none⟩, 1, 1, some ⟨b_5, 0, none⟩, 1, 1⟩] : List SH) rfl encSH_len (show I5 b_7 = some (Obj.cells (([⟨3, 1, some ⟨b_2, 0, none⟩, 1, 1, none, 0, 0⟩, ⟨4, 2, some ⟨b_4, 0, none⟩, 1, 1, some ⟨b_5, 0, none⟩, 1, 1⟩] : List SH).flatMap encSH).toArray 58 (0, 0)) from hb5)
 refine XO_v0 (ev_buildL (ps := [(0, _), (1, _), (2, _), (3, _), (4, _), (5, _)]) [_, _, _, _, _, _] plt_33 rfl rfl) rfl rfl rfl ?_
 refine XO_storeA rfl rfl szt_33 rfl rfl rfl rfl (by repeat (first | exact Upd.here | apply Upd.there | apply upd_app)) ?_
 refine zN ?_
 refine X_ret ?_
 exact at_ret1L rfl rfl (.ag agt_33 (vs := encCH ⟨some ⟨b_1, 0, none⟩, 3, 3, 1, 1, 9, 2, some ⟨b_7, 0, none⟩, 2, 2⟩) (by repeat (first | exact Cells.here | apply Cells.there)) rfl) (fun w hw => ⟨_, I5, [], rfl, hIc, hw.drop, rfl, _, _, _, _, rfl, hD, rfl, rfl, rfl, rfl, _, hSS, (RelS.nil.snoc ⟨rfl, rfl, hw1, Sl.nil⟩).snoc ⟨rfl, rfl, hw2, hn2⟩⟩)
theorem w_leafS (I : HMap) (r d w9 : Int) : RetV Tryz.prog 38 [.int .i64 r, .int .i64 d, .int .i64 w9] I (encPHA ⟨r, d, w9, none, 0, 0⟩) := by
 intro g H w hw
 refine enter Tryz.func38 rfl Tryz.ntmps38 rfl hw ?_
 refine zR ?_
 refine XO_alloc zt_45 rfl rfl (fun b_6 => ?_)
 refine zN (zR ?_)
 refine zM ?_
 refine zM ?_
 refine zM ?_
 refine XO_v0 (ev_buildL (ps := [(0, _), (1, _), (2, _)]) [_, _, _, _] plt_45 rfl rfl) rfl rfl rfl ?_
 refine XO_storeA rfl rfl szt_45 rfl rfl rfl rfl (by repeat (first | exact Upd.here | apply Upd.there | apply upd_app)) ?_
 refine zN ?_
 refine X_ret ?_
 exact at_ret1L rfl rfl (.ag agt_45 (Cells.here (vs := encPH ⟨r, d, w9, none, 0, 0⟩)) rfl) (fun w hw => ⟨rfl, hw.drop⟩)
theorem w_planE (I : HMap) : RetM Tryz.prog 18 [encCHA (⟨none, 0, 0, 1, 1, 1, 1, none, 0, 0⟩ : CH)] I [] (fun v I' L' => L' = [] ∧ ∃ a cc, v = .tuple #[.slice a 0 cc, .bool true, .int .i64 0]) := by
 have hC : CrAt I (⟨none, 0, 0, 1, 1, 1, 1, none, 0, 0⟩ : CH) empC := ⟨Sl.nil, rfl, rfl, rfl, rfl, [], Sl.nil, RelS.nil⟩
 refine (w_Plan hC d_emp).mono fun v I' L' hI ⟨h1, a, cc, h2, h3⟩ => ⟨h1, a, cc, ?_⟩
 rw [f_pl3, f_po3, f_ck3] at h2
 exact h2
theorem w_chkZ (I : HMap) : RetV Tryz.prog 20 [encCHA (⟨none, 0, 0, 0, 0, 0, 0, none, 0, 0⟩ : CH)] I (.int .i64 400) := by
 have hC : CrAt I (⟨none, 0, 0, 0, 0, 0, 0, none, 0, 0⟩ : CH) zerC := ⟨Sl.nil, rfl, rfl, rfl, rfl, [], Sl.nil, RelS.nil⟩
 have h := w_chkC hC (by intro s hs; cases hs)
 rw [f_ck4] at h
 exact h
theorem w_chkM {I : HMap} {b : Nat} (hM : Sl I 1 encI (some ⟨b, 0, none⟩) 17 17 manC.days) : RetV Tryz.prog 20 [encCHA ⟨some ⟨b, 0, none⟩, 17, 17, 0, 0, 0, 0, none, 0, 0⟩] I (.int .i64 2) := by
 have hC : CrAt I ⟨some ⟨b, 0, none⟩, 17, 17, 0, 0, 0, 0, none, 0, 0⟩ manC := ⟨hM, rfl, rfl, rfl, rfl, [], Sl.nil, RelS.nil⟩
 have h := w_chkC hC (by intro s hs; cases hs)
 rw [f_ck5] at h
 exact h
set_option maxHeartbeats 1000000 in
set_option maxRecDepth 100000 in
theorem w_sane40 (I : HMap) : RetV Tryz.prog 10 [] I (.bool true) := by
 intro g H w hw
 refine enter Tryz.func10 rfl Tryz.ntmps10 rfl hw ?_
 have hIc := HLe.refl I
 refine zR ?_
 refine zA ?_
 refine zN (zR ?_)
 refine XO_callM (cap := []) (vs := []) rfl rfl fun_37 .nil (w_two I) rfl rfl ?_
 rintro vv1 I1 L1 hI1 ⟨rfl, ca, cc, sa, sc, rfl, hC1⟩
 have hIc := hIc.trans hI1
 rw [List.nil_append]
 refine XO_alloc zt_33 rfl rfl (fun b_1 => ?_)
 refine XO_storeA rfl rfl szt_33 rfl rfl rfl rfl (by repeat (first | exact Upd.here | apply Upd.there | apply upd_app)) ?_
 refine zN (zR ?_)
 refine XO_v0 (ev_loadA rfl agt_33 (fun hg => by first | exact Cells.immC (vs := encPH rh1) h5z | exact Cells.here (vs := encCH ⟨ca, 3, cc, 1, 1, 9, 2, sa, 2, sc⟩) | exact Cells.here (vs := encCH ⟨ca, 3, cc, 1, 1, 9, 1, sa, 2, sc⟩) | exact (Cells.here (vs := encCH ⟨ca, 3, cc, 1, 1, 9, 2, sa, 2, sc⟩)).there | exact Cells.immC (vs := encPH rh1) h5 | (repeat (first | exact Cells.here | exact Cells.s0 (vs := [_, _, _, _, _, _]) rfl | apply Cells.there | apply Cells.app))) rfl) rfl rfl rfl ?_
 refine XO_callM (cap := []) (vs := [_]) rfl rfl fun_18 .nil (w_Plan hC1 d_two) rfl rfl ?_
 rintro vv2 I2 L2 hI2 ⟨rfl, pa1, pc1, rfl, hP1⟩
 have hC1 := hC1.mono hI2; have hIc := hIc.trans hI2
 rw [List.nil_append]
 rw [f_pl1] at hP1
 rw [f_pl1, f_po1, f_ck1]
 refine zM ?_
 refine XO_v0 (ev_extract rfl rfl) rfl rfl rfl ?_
 refine XO_v0 (ev_extract rfl rfl) rfl rfl rfl ?_
 refine XO_v0 (ev_extract rfl rfl) rfl rfl rfl ?_
 refine zA ?_
 refine zA ?_
 refine zA ?_
 refine zN (zR ?_)
 refine XO_v0 (ev_loadA rfl agt_33 (fun hg => by first | exact Cells.immC (vs := encPH rh1) h5z | exact Cells.here (vs := encCH ⟨ca, 3, cc, 1, 1, 9, 2, sa, 2, sc⟩) | exact Cells.here (vs := encCH ⟨ca, 3, cc, 1, 1, 9, 1, sa, 2, sc⟩) | exact (Cells.here (vs := encCH ⟨ca, 3, cc, 1, 1, 9, 2, sa, 2, sc⟩)).there | exact Cells.immC (vs := encPH rh1) h5 | (repeat (first | exact Cells.here | exact Cells.s0 (vs := [_, _, _, _, _, _]) rfl | apply Cells.there | apply Cells.app))) rfl) rfl rfl rfl ?_
 refine XO_callM (cap := []) (vs := [_, _]) rfl rfl fun_25 .nil (w_Refute hC1 d_two 1) rfl rfl ?_
 rintro vv3 I3 L3 hI3 ⟨rfl, rh1, rfl, hR1⟩
 have hC1 := hC1.mono hI3; have hP1 := hP1.mono hI3; have hIc := hIc.trans hI3
 rw [List.nil_append]
 rw [f_rp1] at hR1
 rw [f_ro1, f_le1]
 refine zM ?_
 refine XO_v0 (ev_extract rfl rfl) rfl rfl rfl ?_
 refine XO_v0 (ev_extract rfl rfl) rfl rfl rfl ?_
 refine XO_v0 (ev_extract rfl rfl) rfl rfl rfl ?_
 refine XO_alloc zt_45 rfl rfl (fun b_5 => ?_)
 refine XO_storeA rfl rfl szt_45 rfl rfl rfl rfl (by repeat (first | exact Upd.here | apply Upd.there | apply upd_app)) ?_
 refine zA ?_
 refine zA ?_
 refine zN ?_
 refine X_seq ?_
 refine X_freeze .here (fun I4 hI4 hb4 => ?_)
 have hC1 := hC1.mono hI4; have hP1 := hP1.mono hI4; have hR1 := hR1.mono hI4; have hIc := hIc.trans hI4
 have h5 := ImmC.of hb4
 refine X_region ?_
 refine XO_v0 (ev_loadA rfl agt_33 (fun hg => by first | exact Cells.immC (vs := encPH rh1) h5z | exact Cells.here (vs := encCH ⟨ca, 3, cc, 1, 1, 9, 2, sa, 2, sc⟩) | exact Cells.here (vs := encCH ⟨ca, 3, cc, 1, 1, 9, 1, sa, 2, sc⟩) | exact (Cells.here (vs := encCH ⟨ca, 3, cc, 1, 1, 9, 2, sa, 2, sc⟩)).there | exact Cells.immC (vs := encPH rh1) h5 | (repeat (first | exact Cells.here | exact Cells.s0 (vs := [_, _, _, _, _, _]) rfl | apply Cells.there | apply Cells.app))) rfl) rfl rfl rfl ?_
 refine XO_callM (cap := []) (vs := [_, _]) rfl rfl fun_25 .nil (w_Refute hC1 d_two 2) rfl rfl ?_
 rintro vv5 I5 L5 hI5 ⟨rfl, rh2, rfl, hR2⟩
 have hC1 := hC1.mono hI5; have hP1 := hP1.mono hI5; have hR1 := hR1.mono hI5; have h5 := h5.mono hI5; have hIc := hIc.trans hI5
 rw [List.nil_append]
 rw [f_ro2, f_le2]
 refine zM ?_
 refine XO_v0 (ev_extract rfl rfl) rfl rfl rfl ?_
 refine XO_v0 (ev_extract rfl rfl) rfl rfl rfl ?_
 refine XO_v0 (ev_extract rfl rfl) rfl rfl rfl ?_
 refine XO_alloc zt_45 rfl rfl (fun b_8 => ?_)
 refine XO_storeA rfl rfl szt_45 rfl rfl rfl rfl (by repeat (first | exact Upd.here | apply Upd.there | apply upd_app)) ?_
 refine zA ?_
 refine zA ?_
 refine zN ?_
 refine X_seq ?_
 refine X_freeze .here (fun I6 hI6 hb6 => ?_)
 have hC1 := hC1.mono hI6; have hP1 := hP1.mono hI6; have hR1 := hR1.mono hI6; have h5 := h5.mono hI6; have hIc := hIc.trans hI6
 have h8 := ImmC.of hb6
 refine X_region ?_
 refine XO_v0 (ev_loadA rfl agt_33 (fun hg => by first | exact Cells.immC (vs := encPH rh1) h5z | exact Cells.here (vs := encCH ⟨ca, 3, cc, 1, 1, 9, 2, sa, 2, sc⟩) | exact Cells.here (vs := encCH ⟨ca, 3, cc, 1, 1, 9, 1, sa, 2, sc⟩) | exact (Cells.here (vs := encCH ⟨ca, 3, cc, 1, 1, 9, 2, sa, 2, sc⟩)).there | exact Cells.immC (vs := encPH rh1) h5 | (repeat (first | exact Cells.here | exact Cells.s0 (vs := [_, _, _, _, _, _]) rfl | apply Cells.there | apply Cells.app))) rfl) rfl rfl rfl ?_
 refine XO_v0 (ev_loadA rfl agt_45 (fun hg => by first | exact Cells.immC (vs := encPH rh1) h5z | exact Cells.here (vs := encCH ⟨ca, 3, cc, 1, 1, 9, 2, sa, 2, sc⟩) | exact Cells.here (vs := encCH ⟨ca, 3, cc, 1, 1, 9, 1, sa, 2, sc⟩) | exact (Cells.here (vs := encCH ⟨ca, 3, cc, 1, 1, 9, 2, sa, 2, sc⟩)).there | exact Cells.immC (vs := encPH rh1) h5 | (repeat (first | exact Cells.here | exact Cells.s0 (vs := [_, _, _, _]) rfl | apply Cells.there | apply Cells.app))) rfl) rfl rfl rfl ?_
 refine XO_callV0 (cap := []) (vs := [_, _, _]) rfl rfl fun_27 (w_Accepts hC1 d_two 1 prfP rh1 hR1 f_sm) rfl rfl ?_
 rw [f_ac1, f_le1]
 refine zM ?_
 refine XO_v0 (ev_extract rfl rfl) rfl rfl rfl ?_
 refine XO_v0 (ev_extract rfl rfl) rfl rfl rfl ?_
 refine zA ?_
 refine zA ?_
 refine zN (zR ?_)
 refine XO_v0 (ev_loadA rfl agt_33 (fun hg => by first | exact Cells.immC (vs := encPH rh1) h5z | exact Cells.here (vs := encCH ⟨ca, 3, cc, 1, 1, 9, 2, sa, 2, sc⟩) | exact Cells.here (vs := encCH ⟨ca, 3, cc, 1, 1, 9, 1, sa, 2, sc⟩) | exact (Cells.here (vs := encCH ⟨ca, 3, cc, 1, 1, 9, 2, sa, 2, sc⟩)).there | exact Cells.immC (vs := encPH rh1) h5 | (repeat (first | exact Cells.here | exact Cells.s0 (vs := [_, _, _, _, _, _]) rfl | apply Cells.there | apply Cells.app))) rfl) rfl rfl rfl ?_
 refine XO_v0 (ev_loadA rfl agt_45 (fun hg => by first | exact Cells.immC (vs := encPH rh1) h5z | exact Cells.here (vs := encCH ⟨ca, 3, cc, 1, 1, 9, 2, sa, 2, sc⟩) | exact Cells.here (vs := encCH ⟨ca, 3, cc, 1, 1, 9, 1, sa, 2, sc⟩) | exact (Cells.here (vs := encCH ⟨ca, 3, cc, 1, 1, 9, 2, sa, 2, sc⟩)).there | exact Cells.immC (vs := encPH rh1) h5 | (repeat (first | exact Cells.here | exact Cells.s0 (vs := [_, _, _, _]) rfl | apply Cells.there | apply Cells.app))) rfl) rfl rfl rfl ?_
 refine XO_callV0 (cap := []) (vs := [_, _, _]) rfl rfl fun_27 (w_Accepts hC1 d_two 2 prfP rh1 hR1 f_sm) rfl rfl ?_
 rw [f_ac2, f_le2]
 refine zM ?_
 refine XO_v0 (ev_extract rfl rfl) rfl rfl rfl ?_
 refine XO_v0 (ev_extract rfl rfl) rfl rfl rfl ?_
 refine zA ?_
 refine zA ?_
 refine zN (zR ?_)
 refine XO_v0 (ev_loadA rfl agt_33 (fun hg => by first | exact Cells.immC (vs := encPH rh1) h5z | exact Cells.here (vs := encCH ⟨ca, 3, cc, 1, 1, 9, 2, sa, 2, sc⟩) | exact Cells.here (vs := encCH ⟨ca, 3, cc, 1, 1, 9, 1, sa, 2, sc⟩) | exact (Cells.here (vs := encCH ⟨ca, 3, cc, 1, 1, 9, 2, sa, 2, sc⟩)).there | exact Cells.immC (vs := encPH rh1) h5 | (repeat (first | exact Cells.here | exact Cells.s0 (vs := [_, _, _, _, _, _]) rfl | apply Cells.there | apply Cells.app))) rfl) rfl rfl rfl ?_
 refine XO_buildSlice (ps := [(0, _), (1, _)]) (m := [encI 1, encI 1]) elt_23 rfl (.cons rfl (.cons rfl (.nil))) rfl (by simp [encI_len]) (by decide) (by decide) rfl rfl (fun b_64 => ?_)
 refine XO_freeze (by repeat (first | exact Take.here | apply Take.there)) (fun I7 hI7 hb7 => ?_)
 have hC1 := hC1.mono hI7; have hP1 := hP1.mono hI7; have hR1 := hR1.mono hI7; have h5 := h5.mono hI7; have h8 := h8.mono hI7; have hIc := hIc.trans hI7
 have hG1 := Sl.lit ([1, 1] : List Int) rfl encI_len (show I7 b_64 = some (Obj.cells (([1, 1] : List Int).flatMap encI).toArray 3 (0, 0)) from hb7)
 refine XO_callM (cap := []) (vs := [_, _]) rfl rfl fun_16 .nil (w_Broken hC1 d_two hG1 (by decide)) rfl rfl ?_
 rintro vv8 I8 L8 hI8 ⟨rfl, ba1, bc1, rfl, hK1⟩
 have hC1 := hC1.mono hI8; have hP1 := hP1.mono hI8; have hR1 := hR1.mono hI8; have h5 := h5.mono hI8; have h8 := h8.mono hI8; have hG1 := hG1.mono hI8; have hIc := hIc.trans hI8
 rw [List.nil_append]
 rw [f_bl1] at hK1
 rw [f_bl1, f_be1]
 refine zM ?_
 refine XO_v0 (ev_extract rfl rfl) rfl rfl rfl ?_
 refine XO_v0 (ev_extract rfl rfl) rfl rfl rfl ?_
 refine zA ?_
 refine zA ?_
 refine zN (zR ?_)
 refine XO_v0 (ev_fieldAddr rfl fld_33_4) rfl rfl rfl ?_
 refine zS szt_3 ?_
 refine zN ?_
 refine X_seq ?_
 refine X_locEq (loc' := [(b_1, .cells (encCH ⟨ca, 3, cc, 1, 1, 9, 1, sa, 2, sc⟩).toArray 33 (0, 0))]) rfl ?_
 have hC2 : CrAt I8 ⟨ca, 3, cc, 1, 1, 9, 1, sa, 2, sc⟩ two1C := ⟨hC1.1, rfl, rfl, rfl, rfl, hC1.2.2.2.2.2⟩
 refine X_region ?_
 refine XO_v0 (ev_loadA rfl agt_33 (fun hg => by first | exact Cells.immC (vs := encPH rh1) h5z | exact Cells.here (vs := encCH ⟨ca, 3, cc, 1, 1, 9, 2, sa, 2, sc⟩) | exact Cells.here (vs := encCH ⟨ca, 3, cc, 1, 1, 9, 1, sa, 2, sc⟩) | exact (Cells.here (vs := encCH ⟨ca, 3, cc, 1, 1, 9, 2, sa, 2, sc⟩)).there | exact Cells.immC (vs := encPH rh1) h5 | (repeat (first | exact Cells.here | exact Cells.s0 (vs := [_, _, _, _, _, _]) rfl | apply Cells.there | apply Cells.app))) rfl) rfl rfl rfl ?_
 refine XO_callM (cap := []) (vs := [_]) rfl rfl fun_18 .nil (w_Plan hC2 d_two1) rfl rfl ?_
 rintro vv9 I9 L9 hI9 ⟨rfl, pa2, pc2, rfl, hP2⟩
 have hC1 := hC1.mono hI9; have hP1 := hP1.mono hI9; have hR1 := hR1.mono hI9; have h5 := h5.mono hI9; have h8 := h8.mono hI9; have hG1 := hG1.mono hI9; have hK1 := hK1.mono hI9; have hC2 := hC2.mono hI9; have hIc := hIc.trans hI9
 rw [List.nil_append]
 rw [f_pl2] at hP2
 rw [f_pl2, f_po2, f_ck2]
 refine zM ?_
 refine XO_v0 (ev_extract rfl rfl) rfl rfl rfl ?_
 refine XO_v0 (ev_extract rfl rfl) rfl rfl rfl ?_
 refine XO_v0 (ev_extract rfl rfl) rfl rfl rfl ?_
 refine zA ?_
 refine zA ?_
 refine zA ?_
 refine zN (zR ?_)
 refine XO_v0 (ev_buildL (ps := [(6, _)]) [_, _, _, _, _, _, _, _, _, _, _, _, _, _] plt_63 rfl rfl) rfl rfl rfl ?_
 refine XO_v0 (ev_buildL (ps := [(0, _), (1, _), (3, _), (4, _)]) [_, _, _, _, _, _, _, _, _, _, _, _, _, _, _, _, _, _, _] plt_65 rfl rfl) rfl rfl rfl ?_
 refine XO_buildSlice (ps := [(0, _)]) (m := [encP patP]) elt_22 rfl (.cons rfl (.nil)) rfl (by simp [encP_len]) (by decide) (by decide) rfl rfl (fun b_77 => ?_)
 refine XO_freeze (by repeat (first | exact Take.here | apply Take.there)) (fun I10 hI10 hb10 => ?_)
 have hC1 := hC1.mono hI10; have hP1 := hP1.mono hI10; have hR1 := hR1.mono hI10; have h5 := h5.mono hI10; have h8 := h8.mono hI10; have hG1 := hG1.mono hI10; have hK1 := hK1.mono hI10; have hC2 := hC2.mono hI10; have hP2 := hP2.mono hI10; have hIc := hIc.trans hI10
 have hP0 := Sl.lit ([patP] : List Pt) rfl encP_len (show I10 b_77 = some (Obj.cells (([patP] : List Pt).flatMap encP).toArray 65 (0, 0)) from hb10)
 have hPs : SlP I10 (some ⟨b_77, 0, none⟩) 1 1 [patP] := ⟨hP0, fun q hq => by simp only [List.mem_singleton] at hq; subst hq; exact Sl.nil⟩
 refine zA ?_
 refine zN (zR ?_)
 refine zM ?_
 refine XO_buildSlice (ps := [(0, _)]) (m := [encI 2]) elt_23 rfl (.cons rfl (.nil)) rfl (by simp [encI_len]) (by decide) (by decide) rfl rfl (fun b_80 => ?_)
 refine XO_freeze (by repeat (first | exact Take.here | apply Take.there)) (fun I11 hI11 hb11 => ?_)
 have hC1 := hC1.mono hI11; have hP1 := hP1.mono hI11; have hR1 := hR1.mono hI11; have h5 := h5.mono hI11; have h8 := h8.mono hI11; have hG1 := hG1.mono hI11; have hK1 := hK1.mono hI11; have hC2 := hC2.mono hI11; have hP2 := hP2.mono hI11; have hP0 := hP0.mono hI11; have hPs := hPs.mono hI11; have hIc := hIc.trans hI11
 have hT1 := Sl.lit ([2] : List Int) rfl encI_len (show I11 b_80 = some (Obj.cells (([2] : List Int).flatMap encI).toArray 3 (0, 0)) from hb11)
 refine XO_buildSlice (ps := [(0, _)]) (m := [encI 2]) elt_23 rfl (.cons rfl (.nil)) rfl (by simp [encI_len]) (by decide) (by decide) rfl rfl (fun b_81 => ?_)
 refine XO_freeze (by repeat (first | exact Take.here | apply Take.there)) (fun I12 hI12 hb12 => ?_)
 have hC1 := hC1.mono hI12; have hP1 := hP1.mono hI12; have hR1 := hR1.mono hI12; have h5 := h5.mono hI12; have h8 := h8.mono hI12; have hG1 := hG1.mono hI12; have hK1 := hK1.mono hI12; have hC2 := hC2.mono hI12; have hP2 := hP2.mono hI12; have hP0 := hP0.mono hI12; have hPs := hPs.mono hI12; have hT1 := hT1.mono hI12
 have hIc := hIc.trans hI12
 have hT2 := Sl.lit ([2] : List Int) rfl encI_len (show I12 b_81 = some (Obj.cells (([2] : List Int).flatMap encI).toArray 3 (0, 0)) from hb12)
 refine XO_buildSlice (ps := [(0, _), (1, _), (2, _)]) (m := [encH ⟨none, 0, 0⟩, encH ⟨some ⟨b_81, 0, none⟩, 1, 1⟩, encH ⟨none, 0, 0⟩]) elt_24 rfl (.cons rfl (.cons rfl (.cons rfl (.nil)))) rfl (by simp [encH_len]) (by decide) (by decide) rfl rfl (fun b_82 => ?_)
 refine XO_freeze (by repeat (first | exact Take.here | apply Take.there)) (fun I13 hI13 hb13 => ?_)
 have hC1 := hC1.mono hI13; have hP1 := hP1.mono hI13; have hR1 := hR1.mono hI13; have h5 := h5.mono hI13; have h8 := h8.mono hI13; have hG1 := hG1.mono hI13; have hK1 := hK1.mono hI13; have hC2 := hC2.mono hI13; have hP2 := hP2.mono hI13; have hP0 := hP0.mono hI13; have hPs := hPs.mono hI13; have hT1 := hT1.mono hI13
 have hT2 := hT2.mono hI13; have hIc := hIc.trans hI13
 have hH3 := Sl.lit [(⟨none, 0, 0⟩ : Hd), ⟨some ⟨b_81, 0, none⟩, 1, 1⟩, ⟨none, 0, 0⟩] rfl encH_len (show I13 b_82 = some (Obj.cells ([(⟨none, 0, 0⟩ : Hd), ⟨some ⟨b_81, 0, none⟩, 1, 1⟩, ⟨none, 0, 0⟩].flatMap encH).toArray 23 (0, 0)) from hb13)
 refine XO_callM (cap := []) (vs := [_, _, _]) rfl rfl fun_12 .nil (w_From hPs (by decide) hT1 (by decide) (show SlHA I13 1 encI _ _ _ _ [[], [2], []] from ⟨hH3, .cons Sl.nil (.cons hT2 (.cons Sl.nil .nil))⟩) (by decide) (by intro v hv; simp only [List.mem_cons, List.not_mem_nil, or_false] at hv; rcases hv with rfl | rfl | rfl <;> simp)) rfl rfl ?_
 rintro vv14 I14 L14 hI14 ⟨rfl, fa1, fc1, rfl, hF1⟩
 have hC1 := hC1.mono hI14; have hP1 := hP1.mono hI14; have hR1 := hR1.mono hI14; have h5 := h5.mono hI14; have h8 := h8.mono hI14; have hG1 := hG1.mono hI14; have hK1 := hK1.mono hI14; have hC2 := hC2.mono hI14; have hP2 := hP2.mono hI14; have hP0 := hP0.mono hI14; have hPs := hPs.mono hI14; have hT1 := hT1.mono hI14
 have hT2 := hT2.mono hI14; have hH3 := hH3.mono hI14; have hIc := hIc.trans hI14
 rw [List.nil_append]
 rw [f_fr1] at hF1
 rw [f_fr1, f_fe1]
 refine zM ?_
 refine XO_v0 (ev_extract rfl rfl) rfl rfl rfl ?_
 refine XO_v0 (ev_extract rfl rfl) rfl rfl rfl ?_
 refine zA ?_
 refine zA ?_
 refine zN (zR ?_)
 refine zM ?_
 refine XO_buildSlice (ps := [(0, _)]) (m := [encI 3]) elt_23 rfl (.cons rfl (.nil)) rfl (by simp [encI_len]) (by decide) (by decide) rfl rfl (fun b_88 => ?_)
 refine XO_freeze (by repeat (first | exact Take.here | apply Take.there)) (fun I15 hI15 hb15 => ?_)
 have hC1 := hC1.mono hI15; have hP1 := hP1.mono hI15; have hR1 := hR1.mono hI15; have h5 := h5.mono hI15; have h8 := h8.mono hI15; have hG1 := hG1.mono hI15; have hK1 := hK1.mono hI15; have hC2 := hC2.mono hI15; have hP2 := hP2.mono hI15; have hP0 := hP0.mono hI15; have hPs := hPs.mono hI15; have hT1 := hT1.mono hI15
 have hT2 := hT2.mono hI15; have hH3 := hH3.mono hI15; have hF1 := hF1.mono hI15; have hIc := hIc.trans hI15
 have hT3 := Sl.lit ([3] : List Int) rfl encI_len (show I15 b_88 = some (Obj.cells (([3] : List Int).flatMap encI).toArray 3 (0, 0)) from hb15)
 refine XO_callM (cap := []) (vs := [_, _, _]) rfl rfl fun_12 .nil (w_From hPs (by decide) hT3 (by decide) (show SlHA I15 1 encI none 0 0 [] [] from ⟨Sl.nil, .nil⟩) (by decide) (by intro v hv; cases hv)) rfl rfl ?_
 rintro vv16 I16 L16 hI16 ⟨rfl, fa2, fc2, rfl, hF2⟩
 have hC1 := hC1.mono hI16; have hP1 := hP1.mono hI16; have hR1 := hR1.mono hI16; have h5 := h5.mono hI16; have h8 := h8.mono hI16; have hG1 := hG1.mono hI16; have hK1 := hK1.mono hI16; have hC2 := hC2.mono hI16; have hP2 := hP2.mono hI16; have hP0 := hP0.mono hI16; have hPs := hPs.mono hI16; have hT1 := hT1.mono hI16
 have hT2 := hT2.mono hI16; have hH3 := hH3.mono hI16; have hF1 := hF1.mono hI16; have hT3 := hT3.mono hI16; have hIc := hIc.trans hI16
 rw [List.nil_append]
 rw [f_fe2]
 refine zM ?_
 refine XO_v0 (ev_extract rfl rfl) rfl rfl rfl ?_
 refine XO_v0 (ev_extract rfl rfl) rfl rfl rfl ?_
 refine zA ?_
 refine zA ?_
 refine zN (zR ?_)
 refine XO_v0 (ev_loadA rfl agt_33 (fun hg => by first | exact Cells.immC (vs := encPH rh1) h5z | exact Cells.here (vs := encCH ⟨ca, 3, cc, 1, 1, 9, 2, sa, 2, sc⟩) | exact Cells.here (vs := encCH ⟨ca, 3, cc, 1, 1, 9, 1, sa, 2, sc⟩) | exact (Cells.here (vs := encCH ⟨ca, 3, cc, 1, 1, 9, 2, sa, 2, sc⟩)).there | exact Cells.immC (vs := encPH rh1) h5 | (repeat (first | exact Cells.here | exact Cells.s0 (vs := [_, _, _, _, _, _]) rfl | apply Cells.there | apply Cells.app))) rfl) rfl rfl rfl ?_
 refine XO_buildSlice (ps := [(0, _), (1, _), (2, _)]) (m := [encI 0, encI 0, encI 0]) elt_23 rfl (.cons rfl (.cons rfl (.cons rfl (.nil)))) rfl (by simp [encI_len]) (by decide) (by decide) rfl rfl (fun b_94 => ?_)
 refine XO_freeze (by repeat (first | exact Take.here | apply Take.there)) (fun I17 hI17 hb17 => ?_)
 have hC1 := hC1.mono hI17; have hP1 := hP1.mono hI17; have hR1 := hR1.mono hI17; have h5 := h5.mono hI17; have h8 := h8.mono hI17; have hG1 := hG1.mono hI17; have hK1 := hK1.mono hI17; have hC2 := hC2.mono hI17; have hP2 := hP2.mono hI17; have hP0 := hP0.mono hI17; have hPs := hPs.mono hI17; have hT1 := hT1.mono hI17
 have hT2 := hT2.mono hI17; have hH3 := hH3.mono hI17; have hF1 := hF1.mono hI17; have hT3 := hT3.mono hI17; have hIc := hIc.trans hI17
 have hG2 := Sl.lit ([0, 0, 0] : List Int) rfl encI_len (show I17 b_94 = some (Obj.cells (([0, 0, 0] : List Int).flatMap encI).toArray 3 (0, 0)) from hb17)
 refine XO_callM (cap := []) (vs := [_, _]) rfl rfl fun_16 .nil (w_Broken hC2 d_two1 hG2 (by decide)) rfl rfl ?_
 rintro vv18 I18 L18 hI18 ⟨rfl, ba2, bc2, rfl, hK2⟩
 have hC1 := hC1.mono hI18; have hP1 := hP1.mono hI18; have hR1 := hR1.mono hI18; have h5 := h5.mono hI18; have h8 := h8.mono hI18; have hG1 := hG1.mono hI18; have hK1 := hK1.mono hI18; have hC2 := hC2.mono hI18; have hP2 := hP2.mono hI18; have hP0 := hP0.mono hI18; have hPs := hPs.mono hI18; have hT1 := hT1.mono hI18
 have hT2 := hT2.mono hI18; have hH3 := hH3.mono hI18; have hF1 := hF1.mono hI18; have hT3 := hT3.mono hI18; have hG2 := hG2.mono hI18; have hIc := hIc.trans hI18
 rw [List.nil_append]
 rw [f_be2]
 refine zM ?_
 refine XO_v0 (ev_extract rfl rfl) rfl rfl rfl ?_
 refine XO_v0 (ev_extract rfl rfl) rfl rfl rfl ?_
 refine zA ?_
 refine zA ?_
 refine zN (zR ?_)
 refine XO_v0 (ev_buildL (ps := [(1, _), (2, _), (3, _), (4, _)]) [_, _, _, _, _, _] plt_33 rfl rfl) rfl rfl rfl ?_
 refine XO_callM (cap := []) (vs := [_]) rfl rfl fun_18 .nil (w_planE I18) rfl rfl ?_
 rintro vv19 I19 L19 hI19 ⟨rfl, pa3, pc3, rfl⟩
 have hC1 := hC1.mono hI19; have hP1 := hP1.mono hI19; have hR1 := hR1.mono hI19; have h5 := h5.mono hI19; have h8 := h8.mono hI19; have hG1 := hG1.mono hI19; have hK1 := hK1.mono hI19; have hC2 := hC2.mono hI19; have hP2 := hP2.mono hI19; have hP0 := hP0.mono hI19; have hPs := hPs.mono hI19; have hT1 := hT1.mono hI19
 have hT2 := hT2.mono hI19; have hH3 := hH3.mono hI19; have hF1 := hF1.mono hI19; have hT3 := hT3.mono hI19; have hG2 := hG2.mono hI19; have hIc := hIc.trans hI19
 rw [List.nil_append]
 refine zM ?_
 refine XO_v0 (ev_extract rfl rfl) rfl rfl rfl ?_
 refine XO_v0 (ev_extract rfl rfl) rfl rfl rfl ?_
 refine XO_v0 (ev_extract rfl rfl) rfl rfl rfl ?_
 refine zA ?_
 refine zA ?_
 refine zA ?_
 refine zN ?_
 refine X_seq ?_
 refine zR ?_
 simp only [List.append_eq, List.cons_append, List.nil_append]
 refine zM ?_
 refine zC ?_
 refine zM ?_
 refine XO_pushF 2 rfl rfl rfl ?_
 refine XO_v1 (ev_move rfl) (.some rfl rfl rfl rfl gbf) rfl rfl rfl ?_
 refine XO_v1 (ev_cmp rfl rfl rfl) (.some rfl rfl rfl rfl gbf) rfl rfl rfl ?_
 refine XO_or0 rfl rfl rfl rfl rfl ?_
 refine zM ?_
 refine XO_pushF 6 rfl rfl rfl ?_
 refine XO_v1 (ev_move rfl) (.some rfl rfl rfl rfl gbf) rfl rfl rfl ?_
 refine XO_v1 (ev_cmp rfl rfl rfl) (.some rfl rfl rfl rfl gbf) rfl rfl rfl ?_
 refine XO_or0 rfl rfl rfl rfl rfl ?_
 refine zM ?_
 refine XO_pushF 10 rfl rfl rfl ?_
 refine XO_v1 (ev_move rfl) (.some rfl rfl rfl rfl gbf) rfl rfl rfl ?_
 refine XO_v1 (ev_cmp rfl rfl rfl) (.some rfl rfl rfl rfl gbf) rfl rfl rfl ?_
 refine XO_or0 rfl rfl rfl rfl rfl ?_
 refine zM ?_
 refine XO_pushF 14 rfl rfl rfl ?_
 refine XO_v1 (ev_move rfl) (.some rfl rfl rfl rfl gbf) rfl rfl rfl ?_
 refine XO_v1 (ev_cmp rfl rfl rfl) (.some rfl rfl rfl rfl gbf) rfl rfl rfl ?_
 refine XO_or0 rfl rfl rfl rfl rfl ?_
 refine zM ?_
 refine XO_pushF 18 rfl rfl rfl ?_
 refine XO_v1 (ev_move rfl) (.some rfl rfl rfl rfl gbf) rfl rfl rfl ?_
 refine XO_v1 (ev_cmp rfl rfl rfl) (.some rfl rfl rfl rfl gbf) rfl rfl rfl ?_
 refine XO_or0 rfl rfl rfl rfl rfl ?_
 refine zM ?_
 refine XO_pushF 22 rfl rfl rfl ?_
 refine XO_v1 (ev_move rfl) (.some rfl rfl rfl rfl gbf) rfl rfl rfl ?_
 refine XO_v1 (ev_cmp rfl rfl rfl) (.some rfl rfl rfl rfl gbf) rfl rfl rfl ?_
 refine XO_or0 rfl rfl rfl rfl rfl ?_
 refine zM ?_
 refine XO_pushF 26 rfl rfl rfl ?_
 refine XO_v1 (ev_move rfl) (.some rfl rfl rfl rfl gbf) rfl rfl rfl ?_
 refine XO_v1 (ev_cmp rfl rfl rfl) (.some rfl rfl rfl rfl gbf) rfl rfl rfl ?_
 refine XO_or0 rfl rfl rfl rfl rfl ?_
 refine zM ?_
 refine XO_pushF 30 rfl rfl rfl ?_
 refine XO_v1 (ev_move rfl) (.some rfl rfl rfl rfl gbf) rfl rfl rfl ?_
 refine XO_v1 (ev_cmp rfl rfl rfl) (.some rfl rfl rfl rfl gbf) rfl rfl rfl ?_
 refine XO_or0 rfl rfl rfl rfl rfl ?_
 refine zM ?_
 refine XO_pushF 34 rfl rfl rfl ?_
 refine XO_v1 (ev_move rfl) (.some rfl rfl rfl rfl gbf) rfl rfl rfl ?_
 refine XO_v1 (ev_cmp rfl rfl rfl) (.some rfl rfl rfl rfl gbf) rfl rfl rfl ?_
 refine XO_or0 rfl rfl rfl rfl rfl ?_
 refine zM ?_
 refine XO_pushF 38 rfl rfl rfl ?_
 refine XO_v1 (ev_move rfl) (.some rfl rfl rfl rfl gbf) rfl rfl rfl ?_
 refine XO_v1 (ev_cmp rfl rfl rfl) (.some rfl rfl rfl rfl gbf) rfl rfl rfl ?_
 refine XO_or0 rfl rfl rfl rfl rfl ?_
 refine zM ?_
 refine XO_pushF 42 rfl rfl rfl ?_
 refine XO_v1 (ev_move rfl) (.some rfl rfl rfl rfl gbf) rfl rfl rfl ?_
 refine XO_v1 (ev_not rfl) (.some rfl rfl rfl rfl gbf) rfl rfl rfl ?_
 refine XO_or0 rfl rfl rfl rfl rfl ?_
 refine zM ?_
 refine XO_pushF 46 rfl rfl rfl ?_
 refine XO_v1 (ev_move rfl) (.some rfl rfl rfl rfl gbf) rfl rfl rfl ?_
 refine XO_v1 (ev_not rfl) (.some rfl rfl rfl rfl gbf) rfl rfl rfl ?_
 refine XO_or0 rfl rfl rfl rfl rfl ?_
 refine zM ?_
 refine XO_pushF 50 rfl rfl rfl ?_
 refine XO_v1 (ev_move rfl) (.some rfl rfl rfl rfl gbf) rfl rfl rfl ?_
 refine XO_or0 rfl rfl rfl rfl rfl ?_
 refine zM ?_
 refine XO_pushF 53 rfl rfl rfl ?_
 refine XO_v1 (ev_move rfl) (.some rfl rfl rfl rfl gbf) rfl rfl rfl ?_
 refine XO_v1 (ev_not rfl) (.some rfl rfl rfl rfl gbf) rfl rfl rfl ?_
 refine XO_or0 rfl rfl rfl rfl rfl ?_
 refine zM ?_
 refine XO_pushF 57 rfl rfl rfl ?_
 refine XO_v1 (ev_move rfl) (.some rfl rfl rfl rfl gbf) rfl rfl rfl ?_
 refine XO_or0 rfl rfl rfl rfl rfl ?_
 refine zM ?_
 refine XO_pushF 60 rfl rfl rfl ?_
 refine XO_v1 (ev_move rfl) (.some rfl rfl rfl rfl gbf) rfl rfl rfl ?_
 refine XO_v1 (ev_not rfl) (.some rfl rfl rfl rfl gbf) rfl rfl rfl ?_
 refine XO_or0 rfl rfl rfl rfl rfl ?_
 refine zM ?_
 refine XO_pushF 64 rfl rfl rfl ?_
 refine XO_v1 (ev_move rfl) (.some rfl rfl rfl rfl gbf) rfl rfl rfl ?_
 refine XO_v1 (ev_not rfl) (.some rfl rfl rfl rfl gbf) rfl rfl rfl ?_
 refine XO_or0 rfl rfl rfl rfl rfl ?_
 refine zM ?_
 refine XO_pushF 68 rfl rfl rfl ?_
 refine XO_v1 (ev_move rfl) (.some rfl rfl rfl rfl gbf) rfl rfl rfl ?_
 refine XO_v1 (ev_lenS rfl slt_23) (.some rfl rfl rfl rfl gbf) rfl rfl rfl ?_
 refine XO_v1 (ev_cmp rfl rfl rfl) (.some rfl rfl rfl rfl gbf) rfl rfl rfl ?_
 refine XO_or0 rfl rfl rfl rfl rfl ?_
 refine zN ?_
 refine X_cond rfl (fun hc176 => ?_) (fun hc176 => ?_)
 ·
  exact absurd hc176 (by first | decide | (simp only []; decide))
 refine X_skip ?_
 refine at_then ?_
 refine X_seq ?_
 refine zR ?_
 refine XO_v0 (ev_buildL (ps := []) [_, _, _, _, _, _] plt_33 rfl rfl) rfl rfl rfl ?_
 refine XO_callV0 (cap := []) (vs := [_]) rfl rfl fun_20 (w_chkZ _) rfl rfl ?_
 refine zC ?_
 refine zM ?_
 refine XO_want (dj := 180) rfl rfl rfl ?_
 refine XO_v0 (ev_loadA rfl agt_33 (fun hg => by first | exact Cells.immC (vs := encPH rh1) h5z | exact Cells.here (vs := encCH ⟨ca, 3, cc, 1, 1, 9, 2, sa, 2, sc⟩) | exact Cells.here (vs := encCH ⟨ca, 3, cc, 1, 1, 9, 1, sa, 2, sc⟩) | exact (Cells.here (vs := encCH ⟨ca, 3, cc, 1, 1, 9, 2, sa, 2, sc⟩)).there | exact Cells.immC (vs := encPH rh1) h5 | (repeat (first | exact Cells.here | exact Cells.s0 (vs := [_, _, _, _, _, _]) rfl | apply Cells.there | apply Cells.app))) rfl) rfl rfl rfl ?_
 refine XO_want (dj := 180) rfl rfl rfl ?_
 refine XO_callV0 (cap := []) (vs := [_]) rfl rfl fun_20 (w_chkC hC2 d_two1) rfl rfl ?_
 rw [f_ck2]
 refine XO_want (dj := 180) rfl rfl rfl ?_
 refine zC ?_
 refine XO_v0 (ev_pickb rfl rfl rfl) rfl rfl rfl ?_
 refine zM ?_
 refine XO_want (dj := 185) rfl rfl rfl ?_
 refine XO_makeSlice mkt_23 rfl rfl (by omega) (by decide) rfl rfl (fun b_186 => ?_)
 refine XO_freeze .here (fun I20 hI20 hb20 => ?_)
 have hC1 := hC1.mono hI20; have hP1 := hP1.mono hI20; have hR1 := hR1.mono hI20; have h5 := h5.mono hI20; have h8 := h8.mono hI20; have hG1 := hG1.mono hI20; have hK1 := hK1.mono hI20; have hC2 := hC2.mono hI20; have hP2 := hP2.mono hI20; have hP0 := hP0.mono hI20; have hPs := hPs.mono hI20; have hT1 := hT1.mono hI20
 have hT2 := hT2.mono hI20; have hH3 := hH3.mono hI20; have hF1 := hF1.mono hI20; have hT3 := hT3.mono hI20; have hG2 := hG2.mono hI20; have hIc := hIc.trans hI20
 have hM17 : Sl I20 1 encI (some ⟨b_186, 0, none⟩) 17 17 manC.days := Sl.lit manC.days rfl encI_len (show I20 b_186 = some (Obj.cells ((manC.days : List Int).flatMap encI).toArray 3 (0, 0)) from hb20)
 refine XO_want (dj := 185) rfl rfl rfl ?_
 refine XO_v0 (ev_buildL (ps := [(0, _)]) [_, _, _, _, _, _] plt_33 rfl rfl) rfl rfl rfl ?_
 refine XO_want (dj := 185) rfl rfl rfl ?_
 refine XO_callV0 (cap := []) (vs := [_]) rfl rfl fun_20 (w_chkM hM17) rfl rfl ?_
 refine XO_want (dj := 185) rfl rfl rfl ?_
 refine zC ?_
 refine XO_v0 (ev_pickb rfl rfl rfl) rfl rfl rfl ?_
 refine zN ?_
 refine X_cond rfl (fun hc190 => ?_) (fun hc190 => ?_)
 ·
  exact absurd hc190 (by first | decide | (simp only []; decide))
 refine X_skip ?_
 refine at_then ?_
 refine zR ?_
 refine zA ?_
 refine zN ?_
 refine X_seq ?_
 have h5z := h5
 have hD := HLe.refl I20
 refine X_drawC mixed ?_
 refine zT 0 rfl (ev_move rfl) hD ?_
 refine XD_one 1 rfl (by kernel_rfl) ?_
 refine XO_buildSlice (ps := [(0, _), (1, _)]) (m := [encI 0, encI 1]) elt_23 rfl (.cons rfl (.cons rfl (.nil))) rfl (by simp [encI_len]) (by decide) (by decide) rfl rfl (fun b_192 => ?_)
 refine XO_freeze (by repeat (first | exact Take.here | apply Take.there)) (fun I21 hI21 hb21 => ?_)
 have hC1 := hC1.mono hI21; have hP1 := hP1.mono hI21; have hR1 := hR1.mono hI21; have h5 := h5.mono hI21; have h8 := h8.mono hI21; have hG1 := hG1.mono hI21; have hK1 := hK1.mono hI21; have hC2 := hC2.mono hI21; have hP2 := hP2.mono hI21; have hP0 := hP0.mono hI21; have hPs := hPs.mono hI21; have hT1 := hT1.mono hI21
 have hT2 := hT2.mono hI21; have hH3 := hH3.mono hI21; have hF1 := hF1.mono hI21; have hT3 := hT3.mono hI21; have hG2 := hG2.mono hI21; have hIc := hIc.trans hI21; have hD := hD.trans hI21
 have hL1 := Sl.lit ([0, 1] : List Int) rfl encI_len (show I21 b_192 = some (Obj.cells (([0, 1] : List Int).flatMap encI).toArray 3 (0, 0)) from hb21)
 refine XO_nil ?_
 refine zD hD ?_
 refine XD_one 2 rfl (by kernel_rfl) ?_
 refine XO_callV0 (cap := []) (vs := [_, _]) rfl rfl fun_23 (w_rSame hP1 (by decide) hL1) rfl rfl ?_
 refine XO_nil ?_
 refine zD hD ?_
 refine zT 3 rfl (ev_move rfl) hD ?_
 refine XD_takeW 4 rfl rfl rfl (dj := 194) rfl (ev_move rfl) rfl (by kernel_rfl) (by kernel_rfl) (by kernel_rfl) noP_ok hD (by repeat (first | exact .refl | exact subL_nil | refine .keep ?_ | refine .drop ?_ | refine subL_add ?_)) ?_
 refine XD_one 5 rfl (by kernel_rfl) ?_
 refine XO_want (dj := 194) rfl rfl rfl ?_
 refine XO_buildSlice (ps := [(0, _), (1, _)]) (m := [encI 0, encI 2]) elt_23 rfl (.cons rfl (.cons rfl (.nil))) rfl (by simp [encI_len]) (by decide) (by decide) rfl rfl (fun b_196 => ?_)
 refine XO_freeze (by repeat (first | exact Take.here | apply Take.there)) (fun I22 hI22 hb22 => ?_)
 have hC1 := hC1.mono hI22; have hP1 := hP1.mono hI22; have hR1 := hR1.mono hI22; have h5 := h5.mono hI22; have h8 := h8.mono hI22; have hG1 := hG1.mono hI22; have hK1 := hK1.mono hI22; have hC2 := hC2.mono hI22; have hP2 := hP2.mono hI22; have hP0 := hP0.mono hI22; have hPs := hPs.mono hI22; have hT1 := hT1.mono hI22
 have hT2 := hT2.mono hI22; have hH3 := hH3.mono hI22; have hF1 := hF1.mono hI22; have hT3 := hT3.mono hI22; have hG2 := hG2.mono hI22; have hL1 := hL1.mono hI22; have hIc := hIc.trans hI22; have hD := hD.trans hI22
 have hL2 := Sl.lit ([0, 2] : List Int) rfl encI_len (show I22 b_196 = some (Obj.cells (([0, 2] : List Int).flatMap encI).toArray 3 (0, 0)) from hb22)
 refine XO_nil ?_
 refine zD hD ?_
 refine XD_one 6 rfl (by kernel_rfl) ?_
 refine XO_want (dj := 194) rfl rfl rfl ?_
 refine XO_callV0 (cap := []) (vs := [_, _]) rfl rfl fun_23 (w_rSame hP2 (by decide) hL2) rfl rfl ?_
 refine XO_nil ?_
 refine zD hD ?_
 refine zT 7 rfl (ev_pickb rfl rfl rfl) hD ?_
 refine zT 8 rfl (ev_move rfl) hD ?_
 refine XD_takeW 9 rfl rfl rfl (dj := 199) rfl (ev_move rfl) rfl (by kernel_rfl) (by kernel_rfl) (by kernel_rfl) noP_ok hD (by repeat (first | exact .refl | exact subL_nil | refine .keep ?_ | refine .drop ?_ | refine subL_add ?_)) ?_
 refine XD_one 10 rfl (by kernel_rfl) ?_
 refine XO_want (dj := 199) rfl rfl rfl ?_
 refine XO_buildSlice (ps := [(0, _), (1, _)]) (m := [encI 0, encI 2]) elt_23 rfl (.cons rfl (.cons rfl (.nil))) rfl (by simp [encI_len]) (by decide) (by decide) rfl rfl (fun b_201 => ?_)
 refine XO_freeze (by repeat (first | exact Take.here | apply Take.there)) (fun I23 hI23 hb23 => ?_)
 have hC1 := hC1.mono hI23; have hP1 := hP1.mono hI23; have hR1 := hR1.mono hI23; have h5 := h5.mono hI23; have h8 := h8.mono hI23; have hG1 := hG1.mono hI23; have hK1 := hK1.mono hI23; have hC2 := hC2.mono hI23; have hP2 := hP2.mono hI23; have hP0 := hP0.mono hI23; have hPs := hPs.mono hI23; have hT1 := hT1.mono hI23
 have hT2 := hT2.mono hI23; have hH3 := hH3.mono hI23; have hF1 := hF1.mono hI23; have hT3 := hT3.mono hI23; have hG2 := hG2.mono hI23; have hL1 := hL1.mono hI23; have hL2 := hL2.mono hI23; have hIc := hIc.trans hI23; have hD := hD.trans hI23
 have hL3 := Sl.lit ([0, 2] : List Int) rfl encI_len (show I23 b_201 = some (Obj.cells (([0, 2] : List Int).flatMap encI).toArray 3 (0, 0)) from hb23)
 refine XO_nil ?_
 refine zD hD ?_
 refine XD_takeW 11 rfl rfl rfl (dj := 199) rfl (ev_buildL (ps := [(0, _), (1, _), (2, _)]) [_, _, _, _] plt_58 rfl rfl) rfl (by kernel_rfl) (by kernel_rfl) (by kernel_rfl) noP_ok hD (by repeat (first | exact .refl | exact subL_nil | refine .keep ?_ | refine .drop ?_ | refine subL_add ?_)) ?_
 refine XD_one 12 rfl (by kernel_rfl) ?_
 refine XO_want (dj := 199) rfl rfl rfl ?_
 refine XO_buildSlice (ps := [(0, _)]) (m := [encSH ⟨2, 1, some ⟨b_201, 0, none⟩, 2, 2, none, 0, 0⟩]) elt_27 rfl (.cons rfl (.nil)) rfl (by simp [encSH_len]) (by decide) (by decide) rfl rfl (fun b_203 => ?_)
 refine XO_freeze (by repeat (first | exact Take.here | apply Take.there)) (fun I24 hI24 hb24 => ?_)
 have hC1 := hC1.mono hI24; have hP1 := hP1.mono hI24; have hR1 := hR1.mono hI24; have h5 := h5.mono hI24; have h8 := h8.mono hI24; have hG1 := hG1.mono hI24; have hK1 := hK1.mono hI24; have hC2 := hC2.mono hI24; have hP2 := hP2.mono hI24; have hP0 := hP0.mono hI24; have hPs := hPs.mono hI24; have hT1 := hT1.mono hI24
 have hT2 := hT2.mono hI24; have hH3 := hH3.mono hI24; have hF1 := hF1.mono hI24; have hT3 := hT3.mono hI24; have hG2 := hG2.mono hI24; have hL1 := hL1.mono hI24; have hL2 := hL2.mono hI24; have hL3 := hL3.mono hI24; have hIc := hIc.trans hI24; have hD := hD.trans hI24
 have hL4 := Sl.lit ([⟨2, 1, some ⟨b_201, 0, none⟩, 2, 2, none, 0, 0⟩] : List SH) rfl encSH_len (show I24 b_203 = some (Obj.cells (([⟨2, 1, some ⟨b_201, 0, none⟩, 2, 2, none, 0, 0⟩] : List SH).flatMap encSH).toArray 58 (0, 0)) from hb24)
 refine XO_nil ?_
 refine zD hD ?_
 refine XD_one 13 rfl (by kernel_rfl) ?_
 refine XO_want (dj := 199) rfl rfl rfl ?_
 refine XO_callV0 (cap := []) (vs := [_, _]) rfl rfl fun_14 (w_samS hF1.choose_spec (by decide) (by intro s hs; simp only [List.mem_singleton] at hs; subst hs; exact ⟨by decide, by decide⟩) (show SlSH I24 _ 1 1 [⟨2, 1, some ⟨b_201, 0, none⟩, 2, 2, none, 0, 0⟩] [⟨2, 1, [0, 2], []⟩] from ⟨hL4, RelS.nil.snoc ⟨rfl, rfl, hL3, Sl.nil⟩⟩)) rfl rfl ?_
 refine XO_nil ?_
 refine zD hD ?_
 refine zT 14 rfl (ev_pickb rfl rfl rfl) hD ?_
 refine zT 15 rfl (ev_move rfl) hD ?_
 refine XD_takeW 16 rfl rfl rfl (dj := 206) rfl (ev_move rfl) rfl (by kernel_rfl) (by kernel_rfl) (by kernel_rfl) noP_ok hD (by repeat (first | exact .refl | exact subL_nil | refine .keep ?_ | refine .drop ?_ | refine subL_add ?_)) ?_
 refine XD_takeW 17 rfl rfl rfl (dj := 206) rfl (ev_move rfl) rfl (by kernel_rfl) (by kernel_rfl) (by kernel_rfl) noP_ok hD (by repeat (first | exact .refl | exact subL_nil | refine .keep ?_ | refine .drop ?_ | refine subL_add ?_)) ?_
 refine XD_takeW 19 rfl rfl rfl (dj := 206) rfl (ev_move rfl) rfl (by kernel_rfl) (by kernel_rfl) (by kernel_rfl) noP_ok hD (by repeat (first | exact .refl | exact subL_nil | refine .keep ?_ | refine .drop ?_ | refine subL_add ?_)) ?_
 refine XD_takeW 21 rfl rfl rfl (dj := 206) rfl (ev_move rfl) rfl (by kernel_rfl) (by kernel_rfl) (by kernel_rfl) noP_ok hD (by repeat (first | exact .refl | exact subL_nil | refine .keep ?_ | refine .drop ?_ | refine subL_add ?_)) ?_
 refine XD_one 18 rfl (by kernel_rfl) ?_
 refine XO_want (dj := 206) rfl rfl rfl ?_
 refine XO_callV0 (cap := []) (vs := [_, _, _]) rfl rfl fun_38 (w_leafS _ _ _ _) rfl rfl ?_
 refine XO_nil ?_
 refine zD hD ?_
 refine XD_one 20 rfl (by kernel_rfl) ?_
 refine XO_want (dj := 206) rfl rfl rfl ?_
 refine XO_callV0 (cap := []) (vs := [_, _, _]) rfl rfl fun_38 (w_leafS _ _ _ _) rfl rfl ?_
 refine XO_nil ?_
 refine zD hD ?_
 refine XD_one 22 rfl (by kernel_rfl) ?_
 refine XO_want (dj := 206) rfl rfl rfl ?_
 refine XO_callV0 (cap := []) (vs := [_, _, _]) rfl rfl fun_38 (w_leafS _ _ _ _) rfl rfl ?_
 refine XO_nil ?_
 refine zD hD ?_
 refine XD_one 23 rfl (by kernel_rfl) ?_
 refine XO_want (dj := 206) rfl rfl rfl ?_
 refine XO_buildSlice (ps := [(0, _), (1, _), (2, _)]) (m := [encPH ⟨1, 1, 0, none, 0, 0⟩, encPH ⟨2, 1, 0, none, 0, 0⟩, encPH ⟨3, 1, 7, none, 0, 0⟩]) elt_35 rfl (.cons rfl (.cons rfl (.cons rfl (.nil)))) rfl (by simp [encPH_len]) (by decide) (by decide) rfl rfl (fun b_214 => ?_)
 refine XO_freeze (by repeat (first | exact Take.here | apply Take.there)) (fun I25 hI25 hb25 => ?_)
 have hC1 := hC1.mono hI25; have hP1 := hP1.mono hI25; have hR1 := hR1.mono hI25; have h5 := h5.mono hI25; have h8 := h8.mono hI25; have hG1 := hG1.mono hI25; have hK1 := hK1.mono hI25; have hC2 := hC2.mono hI25; have hP2 := hP2.mono hI25; have hP0 := hP0.mono hI25; have hPs := hPs.mono hI25; have hT1 := hT1.mono hI25
 have hT2 := hT2.mono hI25; have hH3 := hH3.mono hI25; have hF1 := hF1.mono hI25; have hT3 := hT3.mono hI25; have hG2 := hG2.mono hI25; have hL1 := hL1.mono hI25; have hL2 := hL2.mono hI25; have hL3 := hL3.mono hI25; have hL4 := hL4.mono hI25; have hIc := hIc.trans hI25; have hD := hD.trans hI25
 have hL5 := Sl.lit [(⟨1, 1, 0, none, 0, 0⟩ : PH), (⟨2, 1, 0, none, 0, 0⟩ : PH), (⟨3, 1, 7, none, 0, 0⟩ : PH)] rfl encPH_len (show I25 b_214 = some (Obj.cells ([(⟨1, 1, 0, none, 0, 0⟩ : PH), (⟨2, 1, 0, none, 0, 0⟩ : PH), (⟨3, 1, 7, none, 0, 0⟩ : PH)].flatMap encPH).toArray 45 (0, 0)) from hb25)
 refine XO_nil ?_
 refine zD hD ?_
 refine XD_one 24 rfl (by kernel_rfl) ?_
 refine XO_want (dj := 206) rfl rfl rfl ?_
 refine XO_callV0 (cap := []) (vs := [_, _]) rfl rfl fun_22 (w_samPs hK1 (prsAt_lf [⟨1, 1, 0⟩, ⟨2, 1, 0⟩, ⟨3, 1, 7⟩]) (by decide) (sml_lf [⟨1, 1, 0⟩, ⟨2, 1, 0⟩, ⟨3, 1, 7⟩]) hL5 (prsAt_lf [⟨1, 1, 0⟩, ⟨2, 1, 0⟩, ⟨3, 1, 7⟩])) rfl rfl ?_
 refine XO_nil ?_
 refine zD hD ?_
 refine zT 25 rfl (ev_pickb rfl rfl rfl) hD ?_
 refine zT 26 rfl (ev_move rfl) hD ?_
 refine XD_takeW 27 rfl rfl rfl (dj := 217) rfl (ev_loadA rfl agt_45 (fun hg => by first | exact Cells.immC (vs := encPH rh1) h5z | exact Cells.here (vs := encCH ⟨ca, 3, cc, 1, 1, 9, 2, sa, 2, sc⟩) | exact Cells.here (vs := encCH ⟨ca, 3, cc, 1, 1, 9, 1, sa, 2, sc⟩) | exact (Cells.here (vs := encCH ⟨ca, 3, cc, 1, 1, 9, 2, sa, 2, sc⟩)).there | exact Cells.immC (vs := encPH rh1) h5 | (repeat (first | exact Cells.here | exact Cells.s0 (vs := [_, _, _, _]) rfl | apply Cells.there | apply Cells.app))) rfl) rfl (by kernel_rfl) (by kernel_rfl) (by kernel_rfl) noP_ok hD (by repeat (first | exact .refl | exact subL_nil | refine .keep ?_ | refine .drop ?_ | refine subL_add ?_)) ?_
 refine XD_takeW 29 rfl rfl rfl (dj := 217) rfl (ev_move rfl) rfl (by kernel_rfl) (by kernel_rfl) (by kernel_rfl) noP_ok hD (by repeat (first | exact .refl | exact subL_nil | refine .keep ?_ | refine .drop ?_ | refine subL_add ?_)) ?_
 refine XD_two 28 30 rfl rfl (by kernel_rfl) ?_ ?_
 ·
  refine XO_want (dj := 217) rfl rfl rfl ?_
  refine XO_buildSlice (ps := [(0, _)]) (m := [encPH rh1]) elt_35 rfl (.cons rfl (.nil)) rfl (by simp [encPH_len]) (by decide) (by decide) rfl rfl (fun b_219 => ?_)
  refine XO_freeze (by repeat (first | exact Take.here | apply Take.there)) (fun I26 hI26 hb26 => ?_)
  have hC1 := hC1.mono hI26; have hP1 := hP1.mono hI26; have hR1 := hR1.mono hI26; have h5 := h5.mono hI26; have h8 := h8.mono hI26; have hG1 := hG1.mono hI26; have hK1 := hK1.mono hI26; have hC2 := hC2.mono hI26; have hP2 := hP2.mono hI26; have hP0 := hP0.mono hI26; have hPs := hPs.mono hI26; have hT1 := hT1.mono hI26
  have hT2 := hT2.mono hI26; have hH3 := hH3.mono hI26; have hF1 := hF1.mono hI26; have hT3 := hT3.mono hI26; have hG2 := hG2.mono hI26; have hL1 := hL1.mono hI26; have hL2 := hL2.mono hI26; have hL3 := hL3.mono hI26; have hL4 := hL4.mono hI26; have hL5 := hL5.mono hI26; have hIc := hIc.trans hI26; have hD := hD.trans hI26
  have hL6 := Sl.lit ([rh1] : List PH) rfl encPH_len (show I26 b_219 = some (Obj.cells (([rh1] : List PH).flatMap encPH).toArray 45 (0, 0)) from hb26)
  refine XO_nil ?_
  refine zD hD ?_
  refine XD_one 30 rfl (by kernel_rfl) ?_
  refine XO_want (dj := 217) rfl rfl rfl ?_
  refine XO_callV0 (cap := []) (vs := [_, _, _]) rfl rfl fun_38 (w_leafS _ _ _ _) rfl rfl ?_
  refine XO_nil ?_
  refine zD hD ?_
  refine XD_one 31 rfl (by kernel_rfl) ?_
  refine XO_want (dj := 217) rfl rfl rfl ?_
  refine XO_buildSlice (ps := [(0, _)]) (m := [encPH ⟨1, 0, 0, none, 0, 0⟩]) elt_35 rfl (.cons rfl (.nil)) rfl (by simp [encPH_len]) (by decide) (by decide) rfl rfl (fun b_222 => ?_)
  refine XO_freeze (by repeat (first | exact Take.here | apply Take.there)) (fun I27 hI27 hb27 => ?_)
  have hC1 := hC1.mono hI27; have hP1 := hP1.mono hI27; have hR1 := hR1.mono hI27; have h5 := h5.mono hI27; have h8 := h8.mono hI27; have hG1 := hG1.mono hI27; have hK1 := hK1.mono hI27; have hC2 := hC2.mono hI27; have hP2 := hP2.mono hI27; have hP0 := hP0.mono hI27; have hPs := hPs.mono hI27; have hT1 := hT1.mono hI27
  have hT2 := hT2.mono hI27; have hH3 := hH3.mono hI27; have hF1 := hF1.mono hI27; have hT3 := hT3.mono hI27; have hG2 := hG2.mono hI27; have hL1 := hL1.mono hI27; have hL2 := hL2.mono hI27; have hL3 := hL3.mono hI27; have hL4 := hL4.mono hI27; have hL5 := hL5.mono hI27; have hL6 := hL6.mono hI27; have hIc := hIc.trans hI27
  have hD := hD.trans hI27
  have hL7 := Sl.lit [(⟨1, 0, 0, none, 0, 0⟩ : PH)] rfl encPH_len (show I27 b_222 = some (Obj.cells ([(⟨1, 0, 0, none, 0, 0⟩ : PH)].flatMap encPH).toArray 45 (0, 0)) from hb27)
  refine XO_nil ?_
  refine zD hD ?_
  refine XD_takeW 32 rfl rfl rfl (dj := 217) rfl (ev_buildL (ps := [(3, _)]) [_, _, _, _] plt_45 rfl rfl) rfl (by kernel_rfl) (by kernel_rfl) (by kernel_rfl) noP_ok hD (by repeat (first | exact .refl | exact subL_nil | refine .keep ?_ | refine .drop ?_ | refine subL_add ?_)) ?_
  refine XD_one 33 rfl (by kernel_rfl) ?_
  refine XO_want (dj := 217) rfl rfl rfl ?_
  refine XO_buildSlice (ps := [(0, _)]) (m := [encPH ⟨0, 0, 0, some ⟨b_222, 0, none⟩, 1, 1⟩]) elt_35 rfl (.cons rfl (.nil)) rfl (by simp [encPH_len]) (by decide) (by decide) rfl rfl (fun b_224 => ?_)
  refine XO_freeze (by repeat (first | exact Take.here | apply Take.there)) (fun I28 hI28 hb28 => ?_)
  have hC1 := hC1.mono hI28; have hP1 := hP1.mono hI28; have hR1 := hR1.mono hI28; have h5 := h5.mono hI28; have h8 := h8.mono hI28; have hG1 := hG1.mono hI28; have hK1 := hK1.mono hI28; have hC2 := hC2.mono hI28; have hP2 := hP2.mono hI28; have hP0 := hP0.mono hI28; have hPs := hPs.mono hI28; have hT1 := hT1.mono hI28
  have hT2 := hT2.mono hI28; have hH3 := hH3.mono hI28; have hF1 := hF1.mono hI28; have hT3 := hT3.mono hI28; have hG2 := hG2.mono hI28; have hL1 := hL1.mono hI28; have hL2 := hL2.mono hI28; have hL3 := hL3.mono hI28; have hL4 := hL4.mono hI28; have hL5 := hL5.mono hI28; have hL6 := hL6.mono hI28; have hL7 := hL7.mono hI28
  have hIc := hIc.trans hI28; have hD := hD.trans hI28
  have hL8 := Sl.lit ([⟨0, 0, 0, some ⟨b_222, 0, none⟩, 1, 1⟩] : List PH) rfl encPH_len (show I28 b_224 = some (Obj.cells (([⟨0, 0, 0, some ⟨b_222, 0, none⟩, 1, 1⟩] : List PH).flatMap encPH).toArray 45 (0, 0)) from hb28)
  refine XO_nil ?_
  refine zD hD ?_
  refine XD_takeW 34 rfl rfl rfl (dj := 217) rfl (ev_buildL (ps := [(3, _)]) [_, _, _, _] plt_45 rfl rfl) rfl (by kernel_rfl) (by kernel_rfl) (by kernel_rfl) noP_ok hD (by repeat (first | exact .refl | exact subL_nil | refine .keep ?_ | refine .drop ?_ | refine subL_add ?_)) ?_
  refine XD_one 35 rfl (by kernel_rfl) ?_
  refine XO_want (dj := 217) rfl rfl rfl ?_
  refine XO_buildSlice (ps := [(0, _)]) (m := [encPH ⟨0, 0, 0, some ⟨b_224, 0, none⟩, 1, 1⟩]) elt_35 rfl (.cons rfl (.nil)) rfl (by simp [encPH_len]) (by decide) (by decide) rfl rfl (fun b_226 => ?_)
  refine XO_freeze (by repeat (first | exact Take.here | apply Take.there)) (fun I29 hI29 hb29 => ?_)
  have hC1 := hC1.mono hI29; have hP1 := hP1.mono hI29; have hR1 := hR1.mono hI29; have h5 := h5.mono hI29; have h8 := h8.mono hI29; have hG1 := hG1.mono hI29; have hK1 := hK1.mono hI29; have hC2 := hC2.mono hI29; have hP2 := hP2.mono hI29; have hP0 := hP0.mono hI29; have hPs := hPs.mono hI29; have hT1 := hT1.mono hI29
  have hT2 := hT2.mono hI29; have hH3 := hH3.mono hI29; have hF1 := hF1.mono hI29; have hT3 := hT3.mono hI29; have hG2 := hG2.mono hI29; have hL1 := hL1.mono hI29; have hL2 := hL2.mono hI29; have hL3 := hL3.mono hI29; have hL4 := hL4.mono hI29; have hL5 := hL5.mono hI29; have hL6 := hL6.mono hI29; have hL7 := hL7.mono hI29
  have hL8 := hL8.mono hI29; have hIc := hIc.trans hI29; have hD := hD.trans hI29
  have hL9 := Sl.lit ([⟨0, 0, 0, some ⟨b_224, 0, none⟩, 1, 1⟩] : List PH) rfl encPH_len (show I29 b_226 = some (Obj.cells (([⟨0, 0, 0, some ⟨b_224, 0, none⟩, 1, 1⟩] : List PH).flatMap encPH).toArray 45 (0, 0)) from hb29)
  refine XO_nil ?_
  refine zD hD ?_
  refine XD_one 36 rfl (by kernel_rfl) ?_
  refine XO_want (dj := 217) rfl rfl rfl ?_
  refine XO_callV0 (cap := []) (vs := [_, _]) rfl rfl fun_22 (w_samPs hL6 (xs := [prfP]) ⟨hR1, trivial⟩ (by simp) (by intro q hq; simp only [List.mem_singleton] at hq; subst hq; exact f_sm) hL9 (ys := [prfP]) ⟨PrAt.node hL8 ⟨PrAt.node hL7 ⟨PrAt.node Sl.nil PrsAt.nil, trivial⟩, trivial⟩, trivial⟩) rfl rfl ?_
  refine XO_nil ?_
  refine zD hD ?_
  refine zT 37 rfl (ev_pickb rfl rfl rfl) hD ?_
  refine zT 38 rfl (ev_assign rfl) hD ?_
  refine XD_done (by kernel_rfl) ?_
  refine at_noP ?_
  refine at_then ?_
  refine X_ret ?_
  exact at_ret1 rfl rfl (fun w hw => ⟨by rw [f_sp]; rfl, (hw.mono hIc).drop⟩)
 refine XO_want (dj := 217) rfl rfl rfl ?_
 refine XO_callV0 (cap := []) (vs := [_, _, _]) rfl rfl fun_38 (w_leafS _ _ _ _) rfl rfl ?_
 refine XO_nil ?_
 refine zD hD ?_
 refine XD_two 28 31 rfl rfl (by kernel_rfl) ?_ ?_
 ·
  refine XO_want (dj := 217) rfl rfl rfl ?_
  refine XO_buildSlice (ps := [(0, _)]) (m := [encPH rh1]) elt_35 rfl (.cons rfl (.nil)) rfl (by simp [encPH_len]) (by decide) (by decide) rfl rfl (fun b_219 => ?_)
  refine XO_freeze (by repeat (first | exact Take.here | apply Take.there)) (fun I30 hI30 hb30 => ?_)
  have hC1 := hC1.mono hI30; have hP1 := hP1.mono hI30; have hR1 := hR1.mono hI30; have h5 := h5.mono hI30; have h8 := h8.mono hI30; have hG1 := hG1.mono hI30; have hK1 := hK1.mono hI30; have hC2 := hC2.mono hI30; have hP2 := hP2.mono hI30; have hP0 := hP0.mono hI30; have hPs := hPs.mono hI30; have hT1 := hT1.mono hI30
  have hT2 := hT2.mono hI30; have hH3 := hH3.mono hI30; have hF1 := hF1.mono hI30; have hT3 := hT3.mono hI30; have hG2 := hG2.mono hI30; have hL1 := hL1.mono hI30; have hL2 := hL2.mono hI30; have hL3 := hL3.mono hI30; have hL4 := hL4.mono hI30; have hL5 := hL5.mono hI30; have hIc := hIc.trans hI30; have hD := hD.trans hI30
  have hL6 := Sl.lit ([rh1] : List PH) rfl encPH_len (show I30 b_219 = some (Obj.cells (([rh1] : List PH).flatMap encPH).toArray 45 (0, 0)) from hb30)
  refine XO_nil ?_
  refine zD hD ?_
  refine XD_one 31 rfl (by kernel_rfl) ?_
  refine XO_want (dj := 217) rfl rfl rfl ?_
  refine XO_buildSlice (ps := [(0, _)]) (m := [encPH ⟨1, 0, 0, none, 0, 0⟩]) elt_35 rfl (.cons rfl (.nil)) rfl (by simp [encPH_len]) (by decide) (by decide) rfl rfl (fun b_222 => ?_)
  refine XO_freeze (by repeat (first | exact Take.here | apply Take.there)) (fun I31 hI31 hb31 => ?_)
  have hC1 := hC1.mono hI31; have hP1 := hP1.mono hI31; have hR1 := hR1.mono hI31; have h5 := h5.mono hI31; have h8 := h8.mono hI31; have hG1 := hG1.mono hI31; have hK1 := hK1.mono hI31; have hC2 := hC2.mono hI31; have hP2 := hP2.mono hI31; have hP0 := hP0.mono hI31; have hPs := hPs.mono hI31; have hT1 := hT1.mono hI31
  have hT2 := hT2.mono hI31; have hH3 := hH3.mono hI31; have hF1 := hF1.mono hI31; have hT3 := hT3.mono hI31; have hG2 := hG2.mono hI31; have hL1 := hL1.mono hI31; have hL2 := hL2.mono hI31; have hL3 := hL3.mono hI31; have hL4 := hL4.mono hI31; have hL5 := hL5.mono hI31; have hL6 := hL6.mono hI31; have hIc := hIc.trans hI31
  have hD := hD.trans hI31
  have hL7 := Sl.lit [(⟨1, 0, 0, none, 0, 0⟩ : PH)] rfl encPH_len (show I31 b_222 = some (Obj.cells ([(⟨1, 0, 0, none, 0, 0⟩ : PH)].flatMap encPH).toArray 45 (0, 0)) from hb31)
  refine XO_nil ?_
  refine zD hD ?_
  refine XD_takeW 32 rfl rfl rfl (dj := 217) rfl (ev_buildL (ps := [(3, _)]) [_, _, _, _] plt_45 rfl rfl) rfl (by kernel_rfl) (by kernel_rfl) (by kernel_rfl) noP_ok hD (by repeat (first | exact .refl | exact subL_nil | refine .keep ?_ | refine .drop ?_ | refine subL_add ?_)) ?_
  refine XD_one 33 rfl (by kernel_rfl) ?_
  refine XO_want (dj := 217) rfl rfl rfl ?_
  refine XO_buildSlice (ps := [(0, _)]) (m := [encPH ⟨0, 0, 0, some ⟨b_222, 0, none⟩, 1, 1⟩]) elt_35 rfl (.cons rfl (.nil)) rfl (by simp [encPH_len]) (by decide) (by decide) rfl rfl (fun b_224 => ?_)
  refine XO_freeze (by repeat (first | exact Take.here | apply Take.there)) (fun I32 hI32 hb32 => ?_)
  have hC1 := hC1.mono hI32; have hP1 := hP1.mono hI32; have hR1 := hR1.mono hI32; have h5 := h5.mono hI32; have h8 := h8.mono hI32; have hG1 := hG1.mono hI32; have hK1 := hK1.mono hI32; have hC2 := hC2.mono hI32; have hP2 := hP2.mono hI32; have hP0 := hP0.mono hI32; have hPs := hPs.mono hI32; have hT1 := hT1.mono hI32
  have hT2 := hT2.mono hI32; have hH3 := hH3.mono hI32; have hF1 := hF1.mono hI32; have hT3 := hT3.mono hI32; have hG2 := hG2.mono hI32; have hL1 := hL1.mono hI32; have hL2 := hL2.mono hI32; have hL3 := hL3.mono hI32; have hL4 := hL4.mono hI32; have hL5 := hL5.mono hI32; have hL6 := hL6.mono hI32; have hL7 := hL7.mono hI32
  have hIc := hIc.trans hI32; have hD := hD.trans hI32
  have hL8 := Sl.lit ([⟨0, 0, 0, some ⟨b_222, 0, none⟩, 1, 1⟩] : List PH) rfl encPH_len (show I32 b_224 = some (Obj.cells (([⟨0, 0, 0, some ⟨b_222, 0, none⟩, 1, 1⟩] : List PH).flatMap encPH).toArray 45 (0, 0)) from hb32)
  refine XO_nil ?_
  refine zD hD ?_
  refine XD_takeW 34 rfl rfl rfl (dj := 217) rfl (ev_buildL (ps := [(3, _)]) [_, _, _, _] plt_45 rfl rfl) rfl (by kernel_rfl) (by kernel_rfl) (by kernel_rfl) noP_ok hD (by repeat (first | exact .refl | exact subL_nil | refine .keep ?_ | refine .drop ?_ | refine subL_add ?_)) ?_
  refine XD_one 35 rfl (by kernel_rfl) ?_
  refine XO_want (dj := 217) rfl rfl rfl ?_
  refine XO_buildSlice (ps := [(0, _)]) (m := [encPH ⟨0, 0, 0, some ⟨b_224, 0, none⟩, 1, 1⟩]) elt_35 rfl (.cons rfl (.nil)) rfl (by simp [encPH_len]) (by decide) (by decide) rfl rfl (fun b_226 => ?_)
  refine XO_freeze (by repeat (first | exact Take.here | apply Take.there)) (fun I33 hI33 hb33 => ?_)
  have hC1 := hC1.mono hI33; have hP1 := hP1.mono hI33; have hR1 := hR1.mono hI33; have h5 := h5.mono hI33; have h8 := h8.mono hI33; have hG1 := hG1.mono hI33; have hK1 := hK1.mono hI33; have hC2 := hC2.mono hI33; have hP2 := hP2.mono hI33; have hP0 := hP0.mono hI33; have hPs := hPs.mono hI33; have hT1 := hT1.mono hI33
  have hT2 := hT2.mono hI33; have hH3 := hH3.mono hI33; have hF1 := hF1.mono hI33; have hT3 := hT3.mono hI33; have hG2 := hG2.mono hI33; have hL1 := hL1.mono hI33; have hL2 := hL2.mono hI33; have hL3 := hL3.mono hI33; have hL4 := hL4.mono hI33; have hL5 := hL5.mono hI33; have hL6 := hL6.mono hI33; have hL7 := hL7.mono hI33
  have hL8 := hL8.mono hI33; have hIc := hIc.trans hI33; have hD := hD.trans hI33
  have hL9 := Sl.lit ([⟨0, 0, 0, some ⟨b_224, 0, none⟩, 1, 1⟩] : List PH) rfl encPH_len (show I33 b_226 = some (Obj.cells (([⟨0, 0, 0, some ⟨b_224, 0, none⟩, 1, 1⟩] : List PH).flatMap encPH).toArray 45 (0, 0)) from hb33)
  refine XO_nil ?_
  refine zD hD ?_
  refine XD_one 36 rfl (by kernel_rfl) ?_
  refine XO_want (dj := 217) rfl rfl rfl ?_
  refine XO_callV0 (cap := []) (vs := [_, _]) rfl rfl fun_22 (w_samPs hL6 (xs := [prfP]) ⟨hR1, trivial⟩ (by simp) (by intro q hq; simp only [List.mem_singleton] at hq; subst hq; exact f_sm) hL9 (ys := [prfP]) ⟨PrAt.node hL8 ⟨PrAt.node hL7 ⟨PrAt.node Sl.nil PrsAt.nil, trivial⟩, trivial⟩, trivial⟩) rfl rfl ?_
  refine XO_nil ?_
  refine zD hD ?_
  refine zT 37 rfl (ev_pickb rfl rfl rfl) hD ?_
  refine zT 38 rfl (ev_assign rfl) hD ?_
  refine XD_done (by kernel_rfl) ?_
  refine at_noP ?_
  refine at_then ?_
  refine X_ret ?_
  exact at_ret1 rfl rfl (fun w hw => ⟨by rw [f_sp]; rfl, (hw.mono hIc).drop⟩)
 refine XO_want (dj := 217) rfl rfl rfl ?_
 refine XO_buildSlice (ps := [(0, _)]) (m := [encPH ⟨1, 0, 0, none, 0, 0⟩]) elt_35 rfl (.cons rfl (.nil)) rfl (by simp [encPH_len]) (by decide) (by decide) rfl rfl (fun b_222 => ?_)
 refine XO_freeze (by repeat (first | exact Take.here | apply Take.there)) (fun I34 hI34 hb34 => ?_)
 have hC1 := hC1.mono hI34; have hP1 := hP1.mono hI34; have hR1 := hR1.mono hI34; have h5 := h5.mono hI34; have h8 := h8.mono hI34; have hG1 := hG1.mono hI34; have hK1 := hK1.mono hI34; have hC2 := hC2.mono hI34; have hP2 := hP2.mono hI34; have hP0 := hP0.mono hI34; have hPs := hPs.mono hI34; have hT1 := hT1.mono hI34
 have hT2 := hT2.mono hI34; have hH3 := hH3.mono hI34; have hF1 := hF1.mono hI34; have hT3 := hT3.mono hI34; have hG2 := hG2.mono hI34; have hL1 := hL1.mono hI34; have hL2 := hL2.mono hI34; have hL3 := hL3.mono hI34; have hL4 := hL4.mono hI34; have hL5 := hL5.mono hI34; have hIc := hIc.trans hI34; have hD := hD.trans hI34
 have hL7 := Sl.lit [(⟨1, 0, 0, none, 0, 0⟩ : PH)] rfl encPH_len (show I34 b_222 = some (Obj.cells ([(⟨1, 0, 0, none, 0, 0⟩ : PH)].flatMap encPH).toArray 45 (0, 0)) from hb34)
 refine XO_nil ?_
 refine zD hD ?_
 refine XD_takeW 32 rfl rfl rfl (dj := 217) rfl (ev_buildL (ps := [(3, _)]) [_, _, _, _] plt_45 rfl rfl) rfl (by kernel_rfl) (by kernel_rfl) (by kernel_rfl) noP_ok hD (by repeat (first | exact .refl | exact subL_nil | refine .keep ?_ | refine .drop ?_ | refine subL_add ?_)) ?_
 refine XD_two 28 33 rfl rfl (by kernel_rfl) ?_ ?_
 ·
  refine XO_want (dj := 217) rfl rfl rfl ?_
  refine XO_buildSlice (ps := [(0, _)]) (m := [encPH rh1]) elt_35 rfl (.cons rfl (.nil)) rfl (by simp [encPH_len]) (by decide) (by decide) rfl rfl (fun b_219 => ?_)
  refine XO_freeze (by repeat (first | exact Take.here | apply Take.there)) (fun I35 hI35 hb35 => ?_)
  have hC1 := hC1.mono hI35; have hP1 := hP1.mono hI35; have hR1 := hR1.mono hI35; have h5 := h5.mono hI35; have h8 := h8.mono hI35; have hG1 := hG1.mono hI35; have hK1 := hK1.mono hI35; have hC2 := hC2.mono hI35; have hP2 := hP2.mono hI35; have hP0 := hP0.mono hI35; have hPs := hPs.mono hI35; have hT1 := hT1.mono hI35
  have hT2 := hT2.mono hI35; have hH3 := hH3.mono hI35; have hF1 := hF1.mono hI35; have hT3 := hT3.mono hI35; have hG2 := hG2.mono hI35; have hL1 := hL1.mono hI35; have hL2 := hL2.mono hI35; have hL3 := hL3.mono hI35; have hL4 := hL4.mono hI35; have hL5 := hL5.mono hI35; have hL7 := hL7.mono hI35; have hIc := hIc.trans hI35
  have hD := hD.trans hI35
  have hL6 := Sl.lit ([rh1] : List PH) rfl encPH_len (show I35 b_219 = some (Obj.cells (([rh1] : List PH).flatMap encPH).toArray 45 (0, 0)) from hb35)
  refine XO_nil ?_
  refine zD hD ?_
  refine XD_one 33 rfl (by kernel_rfl) ?_
  refine XO_want (dj := 217) rfl rfl rfl ?_
  refine XO_buildSlice (ps := [(0, _)]) (m := [encPH ⟨0, 0, 0, some ⟨b_222, 0, none⟩, 1, 1⟩]) elt_35 rfl (.cons rfl (.nil)) rfl (by simp [encPH_len]) (by decide) (by decide) rfl rfl (fun b_224 => ?_)
  refine XO_freeze (by repeat (first | exact Take.here | apply Take.there)) (fun I36 hI36 hb36 => ?_)
  have hC1 := hC1.mono hI36; have hP1 := hP1.mono hI36; have hR1 := hR1.mono hI36; have h5 := h5.mono hI36; have h8 := h8.mono hI36; have hG1 := hG1.mono hI36; have hK1 := hK1.mono hI36; have hC2 := hC2.mono hI36; have hP2 := hP2.mono hI36; have hP0 := hP0.mono hI36; have hPs := hPs.mono hI36; have hT1 := hT1.mono hI36
  have hT2 := hT2.mono hI36; have hH3 := hH3.mono hI36; have hF1 := hF1.mono hI36; have hT3 := hT3.mono hI36; have hG2 := hG2.mono hI36; have hL1 := hL1.mono hI36; have hL2 := hL2.mono hI36; have hL3 := hL3.mono hI36; have hL4 := hL4.mono hI36; have hL5 := hL5.mono hI36; have hL7 := hL7.mono hI36; have hL6 := hL6.mono hI36
  have hIc := hIc.trans hI36; have hD := hD.trans hI36
  have hL8 := Sl.lit ([⟨0, 0, 0, some ⟨b_222, 0, none⟩, 1, 1⟩] : List PH) rfl encPH_len (show I36 b_224 = some (Obj.cells (([⟨0, 0, 0, some ⟨b_222, 0, none⟩, 1, 1⟩] : List PH).flatMap encPH).toArray 45 (0, 0)) from hb36)
  refine XO_nil ?_
  refine zD hD ?_
  refine XD_takeW 34 rfl rfl rfl (dj := 217) rfl (ev_buildL (ps := [(3, _)]) [_, _, _, _] plt_45 rfl rfl) rfl (by kernel_rfl) (by kernel_rfl) (by kernel_rfl) noP_ok hD (by repeat (first | exact .refl | exact subL_nil | refine .keep ?_ | refine .drop ?_ | refine subL_add ?_)) ?_
  refine XD_one 35 rfl (by kernel_rfl) ?_
  refine XO_want (dj := 217) rfl rfl rfl ?_
  refine XO_buildSlice (ps := [(0, _)]) (m := [encPH ⟨0, 0, 0, some ⟨b_224, 0, none⟩, 1, 1⟩]) elt_35 rfl (.cons rfl (.nil)) rfl (by simp [encPH_len]) (by decide) (by decide) rfl rfl (fun b_226 => ?_)
  refine XO_freeze (by repeat (first | exact Take.here | apply Take.there)) (fun I37 hI37 hb37 => ?_)
  have hC1 := hC1.mono hI37; have hP1 := hP1.mono hI37; have hR1 := hR1.mono hI37; have h5 := h5.mono hI37; have h8 := h8.mono hI37; have hG1 := hG1.mono hI37; have hK1 := hK1.mono hI37; have hC2 := hC2.mono hI37; have hP2 := hP2.mono hI37; have hP0 := hP0.mono hI37; have hPs := hPs.mono hI37; have hT1 := hT1.mono hI37
  have hT2 := hT2.mono hI37; have hH3 := hH3.mono hI37; have hF1 := hF1.mono hI37; have hT3 := hT3.mono hI37; have hG2 := hG2.mono hI37; have hL1 := hL1.mono hI37; have hL2 := hL2.mono hI37; have hL3 := hL3.mono hI37; have hL4 := hL4.mono hI37; have hL5 := hL5.mono hI37; have hL7 := hL7.mono hI37; have hL6 := hL6.mono hI37
  have hL8 := hL8.mono hI37; have hIc := hIc.trans hI37; have hD := hD.trans hI37
  have hL9 := Sl.lit ([⟨0, 0, 0, some ⟨b_224, 0, none⟩, 1, 1⟩] : List PH) rfl encPH_len (show I37 b_226 = some (Obj.cells (([⟨0, 0, 0, some ⟨b_224, 0, none⟩, 1, 1⟩] : List PH).flatMap encPH).toArray 45 (0, 0)) from hb37)
  refine XO_nil ?_
  refine zD hD ?_
  refine XD_one 36 rfl (by kernel_rfl) ?_
  refine XO_want (dj := 217) rfl rfl rfl ?_
  refine XO_callV0 (cap := []) (vs := [_, _]) rfl rfl fun_22 (w_samPs hL6 (xs := [prfP]) ⟨hR1, trivial⟩ (by simp) (by intro q hq; simp only [List.mem_singleton] at hq; subst hq; exact f_sm) hL9 (ys := [prfP]) ⟨PrAt.node hL8 ⟨PrAt.node hL7 ⟨PrAt.node Sl.nil PrsAt.nil, trivial⟩, trivial⟩, trivial⟩) rfl rfl ?_
  refine XO_nil ?_
  refine zD hD ?_
  refine zT 37 rfl (ev_pickb rfl rfl rfl) hD ?_
  refine zT 38 rfl (ev_assign rfl) hD ?_
  refine XD_done (by kernel_rfl) ?_
  refine at_noP ?_
  refine at_then ?_
  refine X_ret ?_
  exact at_ret1 rfl rfl (fun w hw => ⟨by rw [f_sp]; rfl, (hw.mono hIc).drop⟩)
 refine XO_want (dj := 217) rfl rfl rfl ?_
 refine XO_buildSlice (ps := [(0, _)]) (m := [encPH ⟨0, 0, 0, some ⟨b_222, 0, none⟩, 1, 1⟩]) elt_35 rfl (.cons rfl (.nil)) rfl (by simp [encPH_len]) (by decide) (by decide) rfl rfl (fun b_224 => ?_)
 refine XO_freeze (by repeat (first | exact Take.here | apply Take.there)) (fun I38 hI38 hb38 => ?_)
 have hC1 := hC1.mono hI38; have hP1 := hP1.mono hI38; have hR1 := hR1.mono hI38; have h5 := h5.mono hI38; have h8 := h8.mono hI38; have hG1 := hG1.mono hI38; have hK1 := hK1.mono hI38; have hC2 := hC2.mono hI38; have hP2 := hP2.mono hI38; have hP0 := hP0.mono hI38; have hPs := hPs.mono hI38; have hT1 := hT1.mono hI38
 have hT2 := hT2.mono hI38; have hH3 := hH3.mono hI38; have hF1 := hF1.mono hI38; have hT3 := hT3.mono hI38; have hG2 := hG2.mono hI38; have hL1 := hL1.mono hI38; have hL2 := hL2.mono hI38; have hL3 := hL3.mono hI38; have hL4 := hL4.mono hI38; have hL5 := hL5.mono hI38; have hL7 := hL7.mono hI38; have hIc := hIc.trans hI38
 have hD := hD.trans hI38
 have hL8 := Sl.lit ([⟨0, 0, 0, some ⟨b_222, 0, none⟩, 1, 1⟩] : List PH) rfl encPH_len (show I38 b_224 = some (Obj.cells (([⟨0, 0, 0, some ⟨b_222, 0, none⟩, 1, 1⟩] : List PH).flatMap encPH).toArray 45 (0, 0)) from hb38)
 refine XO_nil ?_
 refine zD hD ?_
 refine XD_takeW 34 rfl rfl rfl (dj := 217) rfl (ev_buildL (ps := [(3, _)]) [_, _, _, _] plt_45 rfl rfl) rfl (by kernel_rfl) (by kernel_rfl) (by kernel_rfl) noP_ok hD (by repeat (first | exact .refl | exact subL_nil | refine .keep ?_ | refine .drop ?_ | refine subL_add ?_)) ?_
 refine XD_two 28 35 rfl rfl (by kernel_rfl) ?_ ?_
 ·
  refine XO_want (dj := 217) rfl rfl rfl ?_
  refine XO_buildSlice (ps := [(0, _)]) (m := [encPH rh1]) elt_35 rfl (.cons rfl (.nil)) rfl (by simp [encPH_len]) (by decide) (by decide) rfl rfl (fun b_219 => ?_)
  refine XO_freeze (by repeat (first | exact Take.here | apply Take.there)) (fun I39 hI39 hb39 => ?_)
  have hC1 := hC1.mono hI39; have hP1 := hP1.mono hI39; have hR1 := hR1.mono hI39; have h5 := h5.mono hI39; have h8 := h8.mono hI39; have hG1 := hG1.mono hI39; have hK1 := hK1.mono hI39; have hC2 := hC2.mono hI39; have hP2 := hP2.mono hI39; have hP0 := hP0.mono hI39; have hPs := hPs.mono hI39; have hT1 := hT1.mono hI39
  have hT2 := hT2.mono hI39; have hH3 := hH3.mono hI39; have hF1 := hF1.mono hI39; have hT3 := hT3.mono hI39; have hG2 := hG2.mono hI39; have hL1 := hL1.mono hI39; have hL2 := hL2.mono hI39; have hL3 := hL3.mono hI39; have hL4 := hL4.mono hI39; have hL5 := hL5.mono hI39; have hL7 := hL7.mono hI39; have hL8 := hL8.mono hI39
  have hIc := hIc.trans hI39; have hD := hD.trans hI39
  have hL6 := Sl.lit ([rh1] : List PH) rfl encPH_len (show I39 b_219 = some (Obj.cells (([rh1] : List PH).flatMap encPH).toArray 45 (0, 0)) from hb39)
  refine XO_nil ?_
  refine zD hD ?_
  refine XD_one 35 rfl (by kernel_rfl) ?_
  refine XO_want (dj := 217) rfl rfl rfl ?_
  refine XO_buildSlice (ps := [(0, _)]) (m := [encPH ⟨0, 0, 0, some ⟨b_224, 0, none⟩, 1, 1⟩]) elt_35 rfl (.cons rfl (.nil)) rfl (by simp [encPH_len]) (by decide) (by decide) rfl rfl (fun b_226 => ?_)
  refine XO_freeze (by repeat (first | exact Take.here | apply Take.there)) (fun I40 hI40 hb40 => ?_)
  have hC1 := hC1.mono hI40; have hP1 := hP1.mono hI40; have hR1 := hR1.mono hI40; have h5 := h5.mono hI40; have h8 := h8.mono hI40; have hG1 := hG1.mono hI40; have hK1 := hK1.mono hI40; have hC2 := hC2.mono hI40; have hP2 := hP2.mono hI40; have hP0 := hP0.mono hI40; have hPs := hPs.mono hI40; have hT1 := hT1.mono hI40
  have hT2 := hT2.mono hI40; have hH3 := hH3.mono hI40; have hF1 := hF1.mono hI40; have hT3 := hT3.mono hI40; have hG2 := hG2.mono hI40; have hL1 := hL1.mono hI40; have hL2 := hL2.mono hI40; have hL3 := hL3.mono hI40; have hL4 := hL4.mono hI40; have hL5 := hL5.mono hI40; have hL7 := hL7.mono hI40; have hL8 := hL8.mono hI40
  have hL6 := hL6.mono hI40; have hIc := hIc.trans hI40; have hD := hD.trans hI40
  have hL9 := Sl.lit ([⟨0, 0, 0, some ⟨b_224, 0, none⟩, 1, 1⟩] : List PH) rfl encPH_len (show I40 b_226 = some (Obj.cells (([⟨0, 0, 0, some ⟨b_224, 0, none⟩, 1, 1⟩] : List PH).flatMap encPH).toArray 45 (0, 0)) from hb40)
  refine XO_nil ?_
  refine zD hD ?_
  refine XD_one 36 rfl (by kernel_rfl) ?_
  refine XO_want (dj := 217) rfl rfl rfl ?_
  refine XO_callV0 (cap := []) (vs := [_, _]) rfl rfl fun_22 (w_samPs hL6 (xs := [prfP]) ⟨hR1, trivial⟩ (by simp) (by intro q hq; simp only [List.mem_singleton] at hq; subst hq; exact f_sm) hL9 (ys := [prfP]) ⟨PrAt.node hL8 ⟨PrAt.node hL7 ⟨PrAt.node Sl.nil PrsAt.nil, trivial⟩, trivial⟩, trivial⟩) rfl rfl ?_
  refine XO_nil ?_
  refine zD hD ?_
  refine zT 37 rfl (ev_pickb rfl rfl rfl) hD ?_
  refine zT 38 rfl (ev_assign rfl) hD ?_
  refine XD_done (by kernel_rfl) ?_
  refine at_noP ?_
  refine at_then ?_
  refine X_ret ?_
  exact at_ret1 rfl rfl (fun w hw => ⟨by rw [f_sp]; rfl, (hw.mono hIc).drop⟩)
 refine XO_want (dj := 217) rfl rfl rfl ?_
 refine XO_buildSlice (ps := [(0, _)]) (m := [encPH ⟨0, 0, 0, some ⟨b_224, 0, none⟩, 1, 1⟩]) elt_35 rfl (.cons rfl (.nil)) rfl (by simp [encPH_len]) (by decide) (by decide) rfl rfl (fun b_226 => ?_)
 refine XO_freeze (by repeat (first | exact Take.here | apply Take.there)) (fun I41 hI41 hb41 => ?_)
 have hC1 := hC1.mono hI41; have hP1 := hP1.mono hI41; have hR1 := hR1.mono hI41; have h5 := h5.mono hI41; have h8 := h8.mono hI41; have hG1 := hG1.mono hI41; have hK1 := hK1.mono hI41; have hC2 := hC2.mono hI41; have hP2 := hP2.mono hI41; have hP0 := hP0.mono hI41; have hPs := hPs.mono hI41; have hT1 := hT1.mono hI41
 have hT2 := hT2.mono hI41; have hH3 := hH3.mono hI41; have hF1 := hF1.mono hI41; have hT3 := hT3.mono hI41; have hG2 := hG2.mono hI41; have hL1 := hL1.mono hI41; have hL2 := hL2.mono hI41; have hL3 := hL3.mono hI41; have hL4 := hL4.mono hI41; have hL5 := hL5.mono hI41; have hL7 := hL7.mono hI41; have hL8 := hL8.mono hI41
 have hIc := hIc.trans hI41; have hD := hD.trans hI41
 have hL9 := Sl.lit ([⟨0, 0, 0, some ⟨b_224, 0, none⟩, 1, 1⟩] : List PH) rfl encPH_len (show I41 b_226 = some (Obj.cells (([⟨0, 0, 0, some ⟨b_224, 0, none⟩, 1, 1⟩] : List PH).flatMap encPH).toArray 45 (0, 0)) from hb41)
 refine XO_nil ?_
 refine zD hD ?_
 refine XD_one 28 rfl (by kernel_rfl) ?_
 refine XO_want (dj := 217) rfl rfl rfl ?_
 refine XO_buildSlice (ps := [(0, _)]) (m := [encPH rh1]) elt_35 rfl (.cons rfl (.nil)) rfl (by simp [encPH_len]) (by decide) (by decide) rfl rfl (fun b_219 => ?_)
 refine XO_freeze (by repeat (first | exact Take.here | apply Take.there)) (fun I42 hI42 hb42 => ?_)
 have hC1 := hC1.mono hI42; have hP1 := hP1.mono hI42; have hR1 := hR1.mono hI42; have h5 := h5.mono hI42; have h8 := h8.mono hI42; have hG1 := hG1.mono hI42; have hK1 := hK1.mono hI42; have hC2 := hC2.mono hI42; have hP2 := hP2.mono hI42; have hP0 := hP0.mono hI42; have hPs := hPs.mono hI42; have hT1 := hT1.mono hI42
 have hT2 := hT2.mono hI42; have hH3 := hH3.mono hI42; have hF1 := hF1.mono hI42; have hT3 := hT3.mono hI42; have hG2 := hG2.mono hI42; have hL1 := hL1.mono hI42; have hL2 := hL2.mono hI42; have hL3 := hL3.mono hI42; have hL4 := hL4.mono hI42; have hL5 := hL5.mono hI42; have hL7 := hL7.mono hI42; have hL8 := hL8.mono hI42
 have hL9 := hL9.mono hI42; have hIc := hIc.trans hI42; have hD := hD.trans hI42
 have hL6 := Sl.lit ([rh1] : List PH) rfl encPH_len (show I42 b_219 = some (Obj.cells (([rh1] : List PH).flatMap encPH).toArray 45 (0, 0)) from hb42)
 refine XO_nil ?_
 refine zD hD ?_
 refine XD_one 36 rfl (by kernel_rfl) ?_
 refine XO_want (dj := 217) rfl rfl rfl ?_
 refine XO_callV0 (cap := []) (vs := [_, _]) rfl rfl fun_22 (w_samPs hL6 (xs := [prfP]) ⟨hR1, trivial⟩ (by simp) (by intro q hq; simp only [List.mem_singleton] at hq; subst hq; exact f_sm) hL9 (ys := [prfP]) ⟨PrAt.node hL8 ⟨PrAt.node hL7 ⟨PrAt.node Sl.nil PrsAt.nil, trivial⟩, trivial⟩, trivial⟩) rfl rfl ?_
 refine XO_nil ?_
 refine zD hD ?_
 refine zT 37 rfl (ev_pickb rfl rfl rfl) hD ?_
 refine zT 38 rfl (ev_assign rfl) hD ?_
 refine XD_done (by kernel_rfl) ?_
 refine at_noP ?_
 refine at_then ?_
 refine X_ret ?_
 exact at_ret1 rfl rfl (fun w hw => ⟨by rw [f_sp]; rfl, (hw.mono hIc).drop⟩)
end Go.Proofs.YtehkiccapbkhnaaGreat
end
section
namespace Go.Proofs.YtehkiccapbkhnaaGreat
open Go Go.Kn Go.Proofs
theorem fun_15 : Fun Tryz.prog 15 := .of Tryz.func15 (by kernel_rfl) (by kernel_rfl)
theorem fun_21 : Fun Tryz.prog 21 := .of Tryz.func21 (by kernel_rfl) (by kernel_rfl)
end Go.Proofs.YtehkiccapbkhnaaGreat
end
section
namespace Go.Proofs.YtehkiccapbkhnaaGreat
open Go Go.Kn Go.Proofs
theorem fun_10 : Fun Tryz.prog 10 := .of Tryz.func10 (by kernel_rfl) (by kernel_rfl)
end Go.Proofs.YtehkiccapbkhnaaGreat
end
section
namespace Go.Proofs.YtehkiccapbkhnaaGreat
open Go Go.Kn Go.Proofs
theorem fun_24 : Fun Tryz.prog 24 := .of Tryz.func24 (by kernel_rfl) (by kernel_rfl)
end Go.Proofs.YtehkiccapbkhnaaGreat
end
section
namespace Go.Proofs.YtehkiccapbkhnaaGreat
open Go Go.Kn Go.Proofs
def pplB (c : Cr) (w : Nat) : Bool := c.ss.any fun s => s.who.contains (w : Int)
def pplF (c : Cr) (n : Nat) : List Int := ((List.range n).filter (pplB c)).map fun (w : Nat) => (w : Int)
def cntL (n : Nat) : List Int := (List.range n).map fun (w : Nat) => (w : Int)
def numsF (c : Cr) (r : Int) : List Int := if r = 1 then cntL c.ss.length else if r = 2 then [0] else pplF c 64
theorem pplF_yes {c : Cr} {n : Nat} (h : pplB c n = true) : pplF c (n + 1) = pplF c n ++ [(n : Int)] := by
  unfold pplF; rw [List.range_succ, List.filter_append, List.map_append]; simp [h]
theorem pplF_no {c : Cr} {n : Nat} (h : pplB c n = false) : pplF c (n + 1) = pplF c n := by
  unfold pplF; rw [List.range_succ, List.filter_append, List.map_append]; simp [h]
theorem pplF_len (c : Cr) (n : Nat) : (pplF c n).length ≤ n := by
  unfold pplF; rw [List.length_map]; have := List.length_filter_le (pplB c) (List.range n); rw [List.length_range] at this; exact this
theorem cntL_succ (n : Nat) : cntL (n + 1) = cntL n ++ [(n : Int)] := by unfold cntL; rw [List.range_succ, List.map_append]; rfl
theorem cntL_len (n : Nat) : (cntL n).length = n := by unfold cntL; simp
theorem nums_1 (c : Cr) : numsF c 1 = cntL c.ss.length := rfl
theorem nums_2 (c : Cr) : numsF c 2 = [0] := rfl
theorem nums_3 {c : Cr} {r : Int} (h1 : r ≠ 1) (h2 : r ≠ 2) : numsF c r = pplF c 64 := by unfold numsF; rw [if_neg h1, if_neg h2]
def rowK (c : Cr) (pl : List Int) (r d : Int) (l : List Int) : List Br := (l.filter fun w => brk c pl ⟨r, d, w⟩).map fun w => ⟨r, d, w⟩
def dayK (c : Cr) (pl : List Int) (r : Int) (n : Nat) : List Br := (List.range n).flatMap fun (d : Nat) => if pl.contains (d : Int) = true then rowK c pl r d (numsF c r) else []
def allK (c : Cr) (pl : List Int) (m : Nat) : List Br := (List.range m).flatMap fun (r : Nat) => dayK c pl r c.days.length
theorem rowK_yes {c : Cr} {pl l : List Int} {r d w : Int} {k : Nat} (h : l[k]? = some w) (hb : brk c pl ⟨r, d, w⟩ = true) : rowK c pl r d (l.take (k + 1)) = rowK c pl r d (l.take k) ++ [⟨r, d, w⟩] := by
  unfold rowK; rw [List.take_add_one, h, List.filter_append, List.map_append]; simp [hb]
theorem rowK_no {c : Cr} {pl l : List Int} {r d w : Int} {k : Nat} (h : l[k]? = some w) (hb : brk c pl ⟨r, d, w⟩ = false) : rowK c pl r d (l.take (k + 1)) = rowK c pl r d (l.take k) := by
  unfold rowK; rw [List.take_add_one, h, List.filter_append, List.map_append]; simp [hb]
theorem rowK_0 {c : Cr} {pl l : List Int} {r d : Int} : rowK c pl r d (l.take 0) = [] := rfl
theorem dayK_yes {c : Cr} {pl : List Int} {r : Int} {d : Nat} (h : pl.contains (d : Int) = true) : dayK c pl r (d + 1) = dayK c pl r d ++ rowK c pl r d (numsF c r) := by
  unfold dayK; rw [List.range_succ, List.flatMap_append, List.flatMap_cons, List.flatMap_nil, List.append_nil, if_pos h]
theorem dayK_no {c : Cr} {pl : List Int} {r : Int} {d : Nat} (h : pl.contains (d : Int) = false) : dayK c pl r (d + 1) = dayK c pl r d := by
  unfold dayK; rw [List.range_succ, List.flatMap_append, List.flatMap_cons, List.flatMap_nil, List.append_nil, if_neg (by rw [h]; decide), List.append_nil]
theorem dayK_0 {c : Cr} {pl : List Int} {r : Int} : dayK c pl r 0 = [] := rfl
theorem allK_succ (c : Cr) (pl : List Int) (m : Nat) : allK c pl (m + 1) = allK c pl m ++ dayK c pl m c.days.length := by
  unfold allK; rw [List.range_succ, List.flatMap_append, List.flatMap_cons, List.flatMap_nil, List.append_nil]
theorem mem_rowK {c : Cr} {pl l : List Int} {r d : Int} {b : Br} : b ∈ rowK c pl r d l ↔ b.r = r ∧ b.d = d ∧ b.w ∈ l ∧ brk c pl b = true := by
  unfold rowK
  simp only [List.mem_map, List.mem_filter]
  constructor
  · rintro ⟨w, ⟨h1, h2⟩, rfl⟩; exact ⟨rfl, rfl, h1, h2⟩
  · rintro ⟨h1, h2, h3, h4⟩
    obtain ⟨r', d', w'⟩ := b
    simp only at h1 h2 h3
    subst h1 h2
    exact ⟨w', ⟨h3, h4⟩, rfl⟩
theorem mem_dayK {c : Cr} {pl : List Int} {r : Int} {n : Nat} {b : Br} : b ∈ dayK c pl r n ↔ b.r = r ∧ (0 ≤ b.d ∧ b.d < n) ∧ b.d ∈ pl ∧ b.w ∈ numsF c r ∧ brk c pl b = true := by
  unfold dayK
  simp only [List.mem_flatMap, List.mem_range]
  constructor
  · rintro ⟨d, hd, h⟩
    split at h
    · rename_i hp
      obtain ⟨h1, h2, h3, h4⟩ := mem_rowK.1 h
      exact ⟨h1, by omega, by rw [h2]; simpa using hp, h3, h4⟩
    · cases h
  · rintro ⟨h1, h2, h3, h4, h5⟩
    refine ⟨b.d.toNat, by omega, ?_⟩
    have e : ((b.d.toNat : Nat) : Int) = b.d := by omega
    rw [e, if_pos (by simpa using h3)]
    exact mem_rowK.2 ⟨h1, rfl, h4, h5⟩
theorem mem_allK {c : Cr} {pl : List Int} {m : Nat} {b : Br} : b ∈ allK c pl m ↔ (0 ≤ b.r ∧ b.r < m) ∧ (0 ≤ b.d ∧ b.d < c.days.length) ∧ b.d ∈ pl ∧ b.w ∈ numsF c b.r ∧ brk c pl b = true := by
  unfold allK
  simp only [List.mem_flatMap, List.mem_range]
  constructor
  · rintro ⟨r, hr, h⟩
    obtain ⟨h1, h2, h3, h4, h5⟩ := mem_dayK.1 h
    exact ⟨by omega, h2, h3, by rw [h1]; exact h4, h5⟩
  · rintro ⟨h1, h2, h3, h4, h5⟩
    have e : ((b.r.toNat : Nat) : Int) = b.r := by omega
    exact ⟨b.r.toNat, by omega, mem_dayK.2 ⟨e.symm, h2, h3, by rw [e]; exact h4, h5⟩⟩
theorem nums_lt (c : Cr) (r : Int) : (numsF c r).Pairwise (· < ·) := by
  have h : ∀ (l : List Nat), l.Pairwise (· < ·) → (l.map fun (w : Nat) => (w : Int)).Pairwise (· < ·) := fun l hl => List.pairwise_map.2 (hl.imp fun {a b} h => by omega)
  unfold numsF
  split
  · exact h _ List.pairwise_lt_range
  · split
    · simp
    · exact h _ (List.pairwise_lt_range.filter _)
theorem rowK_lt (c : Cr) (pl : List Int) (r d : Int) {l : List Int} (h : l.Pairwise (· < ·)) : (rowK c pl r d l).Pairwise ltB := by
  unfold rowK
  exact List.pairwise_map.2 ((h.filter _).imp fun {a b} h => .inr ⟨rfl, .inr ⟨rfl, h⟩⟩)
theorem dayK_lt (c : Cr) (pl : List Int) (r : Int) (n : Nat) : (dayK c pl r n).Pairwise ltB := by
  unfold dayK
  refine List.pairwise_flatMap.2 ⟨fun d _ => ?_, List.pairwise_lt_range.imp fun {a b} h => ?_⟩
  · split
    · exact rowK_lt c pl r d (nums_lt c r)
    · exact .nil
  · intro x hx y hy
    split at hx
    · split at hy
      · have h1 := mem_rowK.1 hx
        have h2 := mem_rowK.1 hy
        exact .inr ⟨by rw [h1.1, h2.1], .inl (by rw [h1.2.1, h2.2.1]; omega)⟩
      · cases hy
    · cases hx
theorem allK_lt (c : Cr) (pl : List Int) (m : Nat) : (allK c pl m).Pairwise ltB := by
  unfold allK
  refine List.pairwise_flatMap.2 ⟨fun d _ => dayK_lt .., List.pairwise_lt_range.imp fun {a b} h => ?_⟩
  intro x hx y hy
  have h1 := mem_dayK.1 hx
  have h2 := mem_dayK.1 hy
  exact .inl (by rw [h1.1, h2.1]; omega)
theorem mem_cntL {n : Nat} {w : Int} : w ∈ cntL n ↔ 0 ≤ w ∧ w < n := by
  unfold cntL
  simp only [List.mem_map, List.mem_range]
  constructor
  · rintro ⟨k, h, rfl⟩; omega
  · rintro ⟨h1, h2⟩; exact ⟨w.toNat, by omega, by omega⟩
theorem mem_pplF {c : Cr} {n : Nat} {w : Int} : w ∈ pplF c n ↔ (0 ≤ w ∧ w < n) ∧ ∃ s ∈ c.ss, w ∈ s.who := by
  unfold pplF pplB
  simp only [List.mem_map, List.mem_filter, List.mem_range, List.any_eq_true, List.contains_iff_mem]
  constructor
  · rintro ⟨k, ⟨h, s, hs, hw⟩, rfl⟩; exact ⟨by omega, s, hs, hw⟩
  · rintro ⟨h1, s, hs, hw⟩
    have e : ((w.toNat : Nat) : Int) = w := by omega
    exact ⟨w.toNat, ⟨by omega, s, hs, by rw [e]; exact hw⟩, e⟩
theorem mem_onD {c : Cr} {pl : List Int} {d : Int} {s : Ses} (h : s ∈ onD c pl d) : s ∈ c.ss := by
  unfold onD at h
  obtain ⟨q, hq, rfl⟩ := List.mem_map.1 h
  obtain ⟨i, _, h2⟩ := mem_zip (List.mem_filter.1 hq).1
  exact List.mem_of_getElem? h2
theorem cnt_who {c : Cr} {pl : List Int} {d p : Int} (h : cntF c pl d p > 0) : ∃ s ∈ c.ss, p ∈ s.who := by
  unfold cntF at h
  obtain ⟨s, hs⟩ := List.length_pos_iff_exists_mem.1 (show 0 < ((onD c pl d).filter fun s => s.who.contains p).length by omega)
  have := List.mem_filter.1 hs
  exact ⟨s, mem_onD this.1, by simpa using this.2⟩
theorem eff_who {c : Cr} {pl : List Int} {d p : Int} (h : effF c pl d p > 0) : ∃ s ∈ c.ss, p ∈ s.who := by
  unfold effF at h
  cases e : (onD c pl d).filter fun s => s.who.contains p with
  | nil => rw [e] at h; simp at h
  | cons s l =>
    have := List.mem_filter.1 (show s ∈ (onD c pl d).filter fun s => s.who.contains p by rw [e]; simp)
    exact ⟨s, mem_onD this.1, by simpa using this.2⟩
/-- Whatever is broken, its number is one that is gone through. -/
theorem brk_num {c : Cr} (hc : rightF c = true) {pl : List Int} {b : Br} (hw : 0 ≤ b.w ∧ b.w < 64) (h : brk c pl b = true) : (1 ≤ b.r ∧ b.r ≤ 5) ∧ b.w ∈ numsF c b.r := by
  have hh := head_ok hc
  have hda := hh.da
  have hlo := hh.lo
  unfold brk at h
  split at h
  · rename_i e
    refine ⟨by omega, ?_⟩
    rw [e, nums_1]
    unfold needF at h
    obtain ⟨q, hq, hp⟩ := List.any_eq_true.1 h
    simp only [Bool.and_eq_true, beq_iff_eq, decide_eq_true_eq, List.contains_iff_mem] at hp
    obtain ⟨i, _, h2⟩ := mem_zip hq
    have h3 := (right_ses hc h2).needs b.w hp.1.2
    have h4 := (List.getElem?_eq_some_iff.1 h2).1
    exact mem_cntL.2 (by omega)
  split at h
  · rename_i e
    simp only [Bool.and_eq_true, beq_iff_eq] at h
    exact ⟨by omega, by rw [e, nums_2, h.1]; simp⟩
  split at h
  · rename_i e1 e2 e
    simp only [decide_eq_true_eq] at h
    exact ⟨by omega, by rw [nums_3 e1 e2]; exact mem_pplF.2 ⟨by omega, cnt_who (pl := pl) (d := b.d) (by omega)⟩⟩
  split at h
  · rename_i e1 e2 _ e
    simp only [decide_eq_true_eq] at h
    exact ⟨by omega, by rw [nums_3 e1 e2]; exact mem_pplF.2 ⟨by omega, eff_who (pl := pl) (d := b.d) (by omega)⟩⟩
  split at h
  · rename_i e1 e2 _ _ e
    rw [run_rows hc, Bool.and_eq_true] at h
    unfold busyF at h
    obtain ⟨q, hq, hp⟩ := List.any_eq_true.1 h.1
    simp only [Bool.and_eq_true, beq_iff_eq, List.contains_iff_mem] at hp
    obtain ⟨i, _, h2⟩ := mem_zip hq
    exact ⟨by omega, by rw [nums_3 e1 e2]; exact mem_pplF.2 ⟨by omega, q.2, List.mem_of_getElem? h2, hp.2⟩⟩
  · cases h
theorem nums_in {c : Cr} (h8 : c.ss.length ≤ 8) {r w : Int} (h : w ∈ numsF c r) : 0 ≤ w ∧ w < 64 := by
  unfold numsF at h
  split at h
  · have := mem_cntL.1 h; omega
  · split at h
    · rw [List.mem_singleton] at h; omega
    · exact (mem_pplF.1 h).1
theorem allK_eq {c : Cr} (hc : rightF c = true) (h8 : c.ss.length ≤ 8) {pl : List Int} (hin : InR c pl) : allK c pl 6 = brkL c pl := by
  refine lex_one (allK_lt ..) (brkL_lt ..) fun b => ?_
  rw [mem_allK, mem_brkL]
  constructor
  · rintro ⟨h1, h2, h3, h4, h5⟩
    have hw := nums_in h8 h4
    exact ⟨⟨(brk_num hc hw h5).1, h2, hw⟩, h5⟩
  · rintro ⟨⟨h1, h2, h3⟩, h5⟩
    exact ⟨⟨by omega, by show b.r < 6; omega⟩, h2, brk_used hc hin h2 h5, (brk_num hc h3 h5).2, h5⟩
/-- A breach as a proof's rule: the list has it exactly if it is in range and broken. -/
theorem contains_brk {c : Cr} (hc : rightF c = true) {pl : List Int} (r d w : Int) : (brkL c pl).contains ⟨r, d, w⟩ = ((((decide (d ≥ 0) && decide (d < (c.days.length : Int))) && decide (w ≥ 0)) && decide (w < 64)) && brk c pl ⟨r, d, w⟩) := by
  rw [Bool.eq_iff_iff, List.contains_iff_mem, mem_brkL]
  simp only [Bool.and_eq_true, decide_eq_true_eq]
  constructor
  · rintro ⟨⟨_, h2, h3⟩, h4⟩; exact ⟨⟨⟨⟨h2.1, h2.2⟩, h3.1⟩, h3.2⟩, h4⟩
  · rintro ⟨⟨⟨⟨h1, h2⟩, h3⟩, h4⟩, h5⟩
    exact ⟨⟨(brk_num hc (b := ⟨r, d, w⟩) ⟨h3, h4⟩ h5).1, ⟨h1, h2⟩, ⟨h3, h4⟩⟩, h5⟩
end Go.Proofs.YtehkiccapbkhnaaGreat
end
section
namespace Go.Proofs.YtehkiccapbkhnaaGreat
open Go Go.Kn Go.Proofs
theorem zip_snoc {α β : Type} : ∀ {a : List α} {b : List β} {k : Nat} {x : α} {y : β}, a[k]? = some x → b[k]? = some y → (a.take (k + 1)).zip b = (a.take k).zip b ++ [(x, y)]
  | a :: as', b :: bs, 0, x, y, h, g => by simp at h g; subst h g; simp
  | a :: as', b :: bs, k + 1, x, y, h, g => by
    simp only [List.getElem?_cons_succ] at h g
    simp only [List.take_succ_cons, List.zip_cons_cons, zip_snoc h g, List.cons_append]
  | [], _, _, _, _, h, _ => by simp at h
  | _ :: _, [], _, _, _, _, g => by simp at g
theorem on_snoc {c : Cr} {pl : List Int} {k : Nat} {e : Int} {s : Ses} (h : pl[k]? = some e) (hs : c.ss[k]? = some s) (d : Int) : onD c (pl.take (k + 1)) d = onD c (pl.take k) d ++ if (e == d) = true then [s] else [] := by
  unfold onD; rw [zip_snoc h hs, List.filter_append, List.map_append]
  by_cases he : (e == d) = true
  · rw [if_pos he]; simp [he]
  · rw [if_neg he]; simp [he]
theorem cnt_yes {c : Cr} {pl : List Int} {k : Nat} {e d p : Int} {s : Ses} (h : pl[k]? = some e) (hs : c.ss[k]? = some s) (hb : (e == d && s.who.contains p) = true) :
    cntF c (pl.take (k + 1)) d p = cntF c (pl.take k) d p + 1 ∧ effF c (pl.take (k + 1)) d p = effF c (pl.take k) d p + s.ef := by
  rw [Bool.and_eq_true] at hb
  unfold cntF effF
  rw [on_snoc h hs, if_pos hb.1, List.filter_append, List.length_append, List.map_append, List.sum_append]
  have e1 : [s].filter (fun s => s.who.contains p) = [s] := by simp only [List.filter_cons, hb.2, if_true, List.filter_nil]
  rw [e1]; simp
theorem cnt_no {c : Cr} {pl : List Int} {k : Nat} {e d p : Int} {s : Ses} (h : pl[k]? = some e) (hs : c.ss[k]? = some s) (hb : (e == d && s.who.contains p) = false) :
    cntF c (pl.take (k + 1)) d p = cntF c (pl.take k) d p ∧ effF c (pl.take (k + 1)) d p = effF c (pl.take k) d p := by
  unfold cntF effF
  rw [on_snoc h hs]
  rcases (Bool.and_eq_false_iff.1 hb) with hb | hb
  · rw [if_neg (by rw [hb]; decide), List.append_nil]; exact ⟨rfl, rfl⟩
  · have e1 : (if (e == d) = true then [s] else []).filter (fun s => s.who.contains p) = [] := by
      split
      · simp only [List.filter_cons, hb, List.filter_nil]; rfl
      · rfl
    rw [List.filter_append, e1, List.append_nil]; exact ⟨rfl, rfl⟩
theorem cnt_0 {c : Cr} {pl : List Int} {d p : Int} : cntF c (pl.take 0) d p = 0 ∧ effF c (pl.take 0) d p = 0 := by
  unfold cntF effF onD; simp
theorem sum_bd16 : ∀ {l : List Int}, (∀ x ∈ l, 0 ≤ x ∧ x ≤ 16) → 0 ≤ l.sum ∧ l.sum ≤ 16 * l.length
  | [], _ => by simp
  | x :: l, h => by
    have h1 := h x (by simp)
    have h2 := sum_bd16 (l := l) fun y hy => h y (by simp [hy])
    rw [List.sum_cons, List.length_cons]; omega
theorem on_len (c : Cr) (pl : List Int) (d : Int) : (onD c pl d).length ≤ c.ss.length := by
  unfold onD
  rw [List.length_map]
  have h1 := List.length_filter_le (fun q : Int × Ses => q.1 == d) (pl.zip c.ss)
  have h2 : (pl.zip c.ss).length ≤ c.ss.length := by rw [List.length_zip]; omega
  omega
theorem on_bd {c : Cr} (hc : rightF c = true) (h8 : c.ss.length ≤ 8) (pl : List Int) (d p : Int) : (0 ≤ cntF c pl d p ∧ cntF c pl d p ≤ 8) ∧ (0 ≤ effF c pl d p ∧ effF c pl d p ≤ 128) := by
  have h0 := on_len c pl d
  have h1 := List.length_filter_le (fun s : Ses => s.who.contains p) (onD c pl d)
  unfold cntF effF
  refine ⟨by omega, ?_⟩
  have h2 := sum_bd16 (l := ((onD c pl d).filter fun s => s.who.contains p).map (·.ef)) fun x hx => by
    obtain ⟨s, hs, rfl⟩ := List.mem_map.1 hx
    obtain ⟨i, hi⟩ := List.getElem?_of_mem (mem_onD (List.mem_filter.1 hs).1)
    have := (right_ses hc hi).ef; omega
  rw [List.length_map] at h2
  omega
theorem zip_all {α β : Type} {a : List α} {b : List β} {n : Nat} {k : Nat} (h : a.length = n) (hk : n ≤ k) : (a.zip b).take k = a.zip b := List.take_of_length_le (by rw [List.length_zip]; omega)
theorem zip_get {α β : Type} {a : List α} {b : List β} {k : Nat} {x : α} {y : β} (h : a[k]? = some x) (g : b[k]? = some y) : (a.zip b)[k]? = some (x, y) := List.getElem?_zip_eq_some.2 ⟨h, g⟩
theorem bk_1 {c : Cr} {pl : List Int} {r d w : Int} (h : r = 1) : brk c pl ⟨r, d, w⟩ = needF c pl d w := by unfold brk; rw [if_pos h]
theorem bk_2 {c : Cr} {pl : List Int} {r d w : Int} (h : r = 2) : brk c pl ⟨r, d, w⟩ = (w == 0 && decide (manyF pl d > c.st)) := by unfold brk; rw [if_neg (by dsimp only; omega), if_pos h]
theorem bk_3 {c : Cr} {pl : List Int} {r d w : Int} (h : r = 3) : brk c pl ⟨r, d, w⟩ = decide (cntF c pl d w > c.da) := by unfold brk; rw [if_neg (by dsimp only; omega), if_neg (by dsimp only; omega), if_pos h]
theorem bk_4 {c : Cr} {pl : List Int} {r d w : Int} (h : r = 4) : brk c pl ⟨r, d, w⟩ = decide (effF c pl d w > c.lo) := by unfold brk; rw [if_neg (by dsimp only; omega), if_neg (by dsimp only; omega), if_neg (by dsimp only; omega), if_pos h]
theorem bk_5 {c : Cr} {pl : List Int} {r d w : Int} (h : r = 5) : brk c pl ⟨r, d, w⟩ = runF c pl d w := by unfold brk; rw [if_neg (by dsimp only; omega), if_neg (by dsimp only; omega), if_neg (by dsimp only; omega), if_neg (by dsimp only; omega), if_pos h]
theorem bk_0 {c : Cr} {pl : List Int} {r d w : Int} (h1 : r ≠ 1) (h2 : r ≠ 2) (h3 : r ≠ 3) (h4 : r ≠ 4) (h5 : r ≠ 5) : brk c pl ⟨r, d, w⟩ = false := by unfold brk; rw [if_neg h1, if_neg h2, if_neg h3, if_neg h4, if_neg h5]
theorem run_no {c : Cr} {pl : List Int} {d p : Int} {k : Nat} (hk : (k : Int) ≤ c.ru) (h : busyF c pl (dayF c d - (k : Int)) p = false) : runF c pl d p = false := by
  unfold runF
  rw [List.all_eq_false]
  exact ⟨k, List.mem_range.2 (by omega), by rw [h]; decide⟩
theorem run_yes {c : Cr} {pl : List Int} {d p : Int} {k : Nat} (h0 : 1 ≤ c.ru) (hk : ¬ (k : Int) ≤ c.ru) (h : ∀ j : Nat, j < k → busyF c pl (dayF c d - (j : Int)) p = true) : runF c pl d p = true := by
  unfold runF
  rw [List.all_eq_true]
  exact fun j hj => h j (by have := List.mem_range.1 hj; omega)
theorem busy_more {c : Cr} {pl : List Int} {d p : Int} {k : Nat} (h : ∀ j : Nat, j < k → busyF c pl (dayF c d - (j : Int)) p = true) (hb : busyF c pl (dayF c d - (k : Int)) p = true) : ∀ j : Nat, j < k + 1 → busyF c pl (dayF c d - (j : Int)) p = true := fun j hj => by
  rcases Nat.eq_or_lt_of_le (Nat.le_of_lt_succ hj) with rfl | g
  · exact hb
  · exact h j g
theorem ppl_any {c : Cr} {k w : Nat} {s : Ses} (h : c.ss[k]? = some s) (hb : s.who.contains (w : Int) = true) : pplB c w = true := any_yes h hb
theorem lf_snoc (bs : List Br) (b : Br) : (bs ++ [b]).map lfH = bs.map lfH ++ [lfH b] := by simp
theorem nums_len {c : Cr} (h8 : c.ss.length ≤ 8) (r : Int) : (numsF c r).length ≤ 64 := by
  unfold numsF
  split
  · rw [cntL_len]; omega
  · split
    · simp
    · exact pplF_len c 64
/-- The first breach, or none. -/
def firO (c : Cr) (pl : List Int) : Bool := match brkL c pl with | [] => false | _ => true
def firH (c : Cr) (pl : List Int) : PH := match brkL c pl with | [] => ⟨0, 0, 0, none, 0, 0⟩ | b :: _ => lfH b
theorem fir_nil {c : Cr} {pl : List Int} (h : brkL c pl = []) : firO c pl = false ∧ firH c pl = ⟨0, 0, 0, none, 0, 0⟩ := by unfold firO firH; rw [h]; exact ⟨rfl, rfl⟩
theorem fir_cons {c : Cr} {pl : List Int} {b : Br} {l : List Br} (h : brkL c pl = b :: l) : firO c pl = true ∧ firH c pl = lfH b := by unfold firO firH; rw [h]; exact ⟨rfl, rfl⟩
theorem fir_yes {c : Cr} {pl : List Int} (h : firO c pl = true) : ∃ b l, brkL c pl = b :: l := by
  cases e : brkL c pl with
  | nil => rw [(fir_nil e).1] at h; cases h
  | cons b l => exact ⟨b, l, rfl⟩
theorem fir_no {c : Cr} {pl : List Int} (h : firO c pl = false) : brkL c pl = [] := by
  cases e : brkL c pl with
  | nil => rfl
  | cons b l => rw [(fir_cons e).1] at h; cases h
theorem day_b {q m d i : Nat} (h : q ≤ 1024 * m + 64 * d + i) (hi : i ≤ 64) : q ≤ 1024 * m + 64 * (d + 1) := by omega
theorem allK_1 (c : Cr) (pl : List Int) : allK c pl 1 = [] := by
  rw [List.eq_nil_iff_forall_not_mem]
  intro b hb
  obtain ⟨h1, _, _, _, h5⟩ := mem_allK.1 hb
  obtain ⟨r, d, w⟩ := b
  dsimp only at h1
  rw [bk_0 (by omega) (by omega) (by omega) (by omega) (by omega)] at h5
  cases h5
end Go.Proofs.YtehkiccapbkhnaaGreat
end
section
namespace Go.Proofs.YtehkiccapbkhnaaGreat
open Go Go.Kn Go.Proofs
theorem fun_131 : Fun Tryz.prog 131 := .of Tryz.func131 (by kernel_rfl) (by kernel_rfl)
theorem fun_147 : Fun Tryz.prog 147 := .of Tryz.func147 (by kernel_rfl) (by kernel_rfl)
theorem fun_51 : Fun Tryz.prog 51 := .of Tryz.func51 (by kernel_rfl) (by kernel_rfl)
theorem w_rPpl {I : HMap} {x : CH} {cr : Cr} (hC : CrAt I x cr) (hr : rightF cr = true) (h16 : cr.days.length ≤ 16) (h8 : cr.ss.length ≤ 8) (hwh : ∀ s ∈ cr.ss, s.who.length ≤ 6) (hnd : ∀ s ∈ cr.ss, s.needs.length ≤ 100000) : RetM Tryz.prog 131 [encCHA x] I [] (SlRes 1 encI (pplF cr 64)) := by
 intro g H w hw
 refine enter Tryz.func131 rfl Tryz.ntmps131 rfl hw ?_
 have hIc := HLe.refl I
 obtain ⟨hD, e1, e2, e3, e4, hss⟩ := id hC
 obtain ⟨hs, hH⟩ := hss
 have hSs := hH.1
 have hlD := hD.len
 have hlS := hH.len
 refine zR ?_
 refine XO_box rfl rfl rfl (fun b_1 => ?_)
 refine zA ?_
 refine zN ?_
 refine X_seq ?_
 refine X_freeze .here (fun I1 hI1 hb1 => ?_)
 have hC := hC.mono hI1; have hH := hH.mono hI1; have hIc := hIc.trans hI1
 have h1 := ImmC.of hb1
 refine X_region ?_
 refine XO_buildSlice (ps := []) (m := []) elt_23 rfl (.nil) rfl (by simp) (by decide) (by decide) rfl rfl (fun b_6 => ?_)
 refine zA ?_
 refine zN ?_
 refine X_seq ?_
 refine zR ?_
 refine zA ?_
 refine zN ?_
 refine X_block ?_
 refine X_loopT [(1, _)] (.cons rfl .nil) (fun T L0 mz E I' loc' => ∃ (w : Nat) (v : Value) (q : Nat) (L : Go.Kn.Loc), mz = 64 - w ∧ E = (3, v) :: (4, .int .i64 w) :: T ∧ I1 = I' ∧ L = loc' ∧ w ≤ 64 ∧ OwnS 3 1 v q ((pplF cr w).flatMap encI) L ∧ q ≤ w) _ _ _ _ ⟨0, _, 0, _, rfl, rfl, rfl, rfl, Nat.zero_le _, OwnS.new, Nat.le_refl _⟩ (.cons rfl (.cons rfl (.cons rfl .nil))) (HLe.refl _) rfl ?_
 rintro mz E I' loc' ⟨w, v, q, L, rfl, rfl, rfl, rfl, hw, hO, hq⟩
 refine X_seq ?_
 refine zR ?_
 refine zM ?_
 refine zC ?_
 refine zN ?_
 refine X_cond rfl (fun hc8 => ?_) (fun hc8 => ?_)
 ·
  have hlt_w : w < 64 := by have h := hc8; simp at h; omega
  refine X_skip ?_
  refine at_then ?_
  refine X_seq ?_
  refine X_block ?_
  refine zR ?_
  refine zA ?_
  refine zN ?_
  refine X_block ?_
  refine X_loopT [(1, _), (4, _)] (.cons rfl (.cons rfl .nil)) (fun T L0 mz E I' loc' => ∃ (k : Nat), mz = x.n2 - k ∧ E = (3, v) :: (5, .int .i64 k) :: T ∧ I1 = I' ∧ L = loc' ∧ k ≤ x.n2 ∧ (cr.ss.take k).any (fun s => s.who.contains (w : Int)) = false) _ _ _ _ ⟨0, rfl, rfl, rfl, rfl, Nat.zero_le _, rfl⟩ (.cons rfl (.cons rfl (.cons rfl (.cons rfl .nil)))) (HLe.refl _) rfl ?_
  rintro mz E I' loc' ⟨k, rfl, rfl, rfl, rfl, hk, hno⟩
  refine X_seq ?_
  refine zR ?_
  refine zM ?_
  refine XO_v0 (ev_fieldAddr rfl fld_33_5) rfl rfl rfl ?_
  refine XO_v0 (ev_load rfl sct_27 (fun hg => by first | exact Cell.imm h1 rfl | exact Sl.get hH.1 hy (j := 2) rfl | (repeat (first | exact Cell.here rfl | apply Cell.there | apply Cell.app)))) rfl rfl rfl ?_
  refine XO_v0 (ev_lenS rfl slt_27) rfl rfl rfl ?_
  refine zC ?_
  refine zN ?_
  refine X_cond rfl (fun hc15 => ?_) (fun hc15 => ?_)
  ·
   have hlt_k : k < x.n2 := by have h := hc15; simp at h; omega
   obtain ⟨y, s, hy, hs9, q1, q2, hW, hN⟩ := hH.at hlt_k
   have hWl := hW.len
   have hw6 := hwh s (List.mem_of_getElem? hs9)
   refine X_skip ?_
   refine at_then ?_
   refine X_seq ?_
   refine X_block ?_
   refine zR ?_
   refine XO_v0 (ev_fieldAddr rfl fld_33_5) rfl rfl rfl ?_
   refine XO_v0 (ev_load rfl sct_27 (fun hg => by first | exact Cell.imm h1 rfl | exact Sl.get hH.1 hy (j := 2) rfl | (repeat (first | exact Cell.here rfl | apply Cell.there | apply Cell.app)))) rfl rfl rfl ?_
   refine zM ?_
   refine XO_v0 (ev_indexSl rfl rfl slt_27 hH.1 (fun hg => by first | omega | (simp [conj] at hg; omega))) rfl rfl rfl ?_
   refine XO_v0 (ev_fieldAddr rfl fld_58_2) rfl rfl rfl ?_
   refine XO_v0 (ev_load rfl sct_23 (fun hg => by first | exact Cell.imm h1 rfl | exact Sl.get hH.1 hy (j := 2) rfl | (repeat (first | exact Cell.here rfl | apply Cell.there | apply Cell.app)))) rfl rfl rfl ?_
   refine zM ?_
   refine XO_callV0 (cap := []) (vs := [_, _]) rfl rfl fun_51 (w_rHas hW (by omega) (w : Int)) rfl rfl ?_
   refine zN ?_
   refine X_cond rfl (fun hc25 => ?_) (fun hc25 => ?_)
   ·
    have hyes := ppl_any hs9 hc25
    refine zR ?_
    refine zM ?_
    refine zM ?_
    refine XO_buildSlice (ps := [(0, _)]) (m := [encI (w : Int)]) elt_23 rfl (.cons rfl (.nil)) rfl (by simp [encI_len]) (by decide) (by decide) rfl rfl (fun b_28 => ?_)
    refine XO_append (v := _) (ys := [(w : Int)].flatMap encI) (L := L) rfl rfl elt_23 hO (by repeat (first | exact .cons .here .nil | exact split_all | exact split_app | apply split_cons | apply split_skip)) ⟨rfl, fun _ => rfl, Cells.here⟩ (one_I [(w : Int)]) (by omega) rfl rfl ?_
    intro v9 L9 hO9 _; rw [← List.flatMap_append] at hO9
    refine zA ?_
    refine zN ?_
    refine X_exit ?_
    refine at_block_miss rfl ?_
    refine at_then_e ?_
    refine at_then_e ?_
    refine at_block_hit ?_
    refine at_block_n ?_
    refine at_then ?_
    refine X_region ?_
    refine zM ?_
    refine zB ?_
    refine zA ?_
    refine XO_nil ?_
    first
    | exact at_met2 _ _ ⟨64 - (w + 1), by omega, w + 1, _, _, _, rfl, rfl, rfl, rfl, by omega, by rw [pplF_yes hyes]; exact hO9, by omega⟩ (.cons rfl (.cons rfl (.cons rfl .nil))) (by repeat (first | exact .refl | exact subL_left | refine subL_app ?_ | refine .drop ?_ | refine subL_add ?_))
   refine X_skip ?_
   refine at_block_n ?_
   refine at_then ?_
   refine X_region ?_
   refine zM ?_
   refine zB ?_
   refine zA ?_
   refine XO_nil ?_
   exact at_met2 _ _ ⟨x.n2 - (k + 1), by omega, k + 1, rfl, rfl, rfl, rfl, by omega, any_no hs9 hno hc25⟩ (.cons rfl (.cons rfl (.cons rfl (.cons rfl .nil)))) (by repeat (first | exact .refl | exact subL_left | refine subL_app ?_ | refine .drop ?_ | refine subL_add ?_))
  have hge_k : x.n2 ≤ k := by have h := hc15; simp at h; omega
  rw [take_all hlS hge_k] at hno
  refine X_exit ?_
  refine at_then_e ?_
  refine at_then_e ?_
  refine at_block_hit ?_
  refine at_block_n ?_
  refine at_then ?_
  refine X_region ?_
  refine zM ?_
  refine zB ?_
  refine zA ?_
  refine XO_nil ?_
  first
  | exact at_met2 _ _ ⟨64 - (w + 1), by omega, w + 1, _, _, _, rfl, rfl, rfl, rfl, by omega, by rw [pplF_no hno]; exact hO, by omega⟩ (.cons rfl (.cons rfl (.cons rfl .nil))) (by repeat (first | exact .refl | exact subL_left | refine subL_app ?_ | refine .drop ?_ | refine subL_add ?_))
 have hge_w : 64 ≤ w := by have h := hc8; simp at h; omega
 have hw64 : w = 64 := by omega
 subst hw64
 refine X_exit ?_
 refine at_then_e ?_
 refine at_then_e ?_
 refine at_block_hit ?_
 refine at_then ?_
 refine zR ?_
 refine zM ?_
 refine zA ?_
 refine zN ?_
 refine X_ret ?_
 exact at_ret1 rfl rfl (fun w hw => by obtain ⟨I9, h91, h92, h93⟩ := OwnS.res hO encI_len (by decide) hw; exact ⟨_, I9, [], rfl, hIc.trans h91, h92, h93⟩)
theorem w_rNum {I : HMap} {x : CH} {cr : Cr} (hC : CrAt I x cr) (hr : rightF cr = true) (h16 : cr.days.length ≤ 16) (h8 : cr.ss.length ≤ 8) (hwh : ∀ s ∈ cr.ss, s.who.length ≤ 6) (hnd : ∀ s ∈ cr.ss, s.needs.length ≤ 100000) (r : Int) : RetM Tryz.prog 93 [encCHA x, .int .i64 r] I [] (SlRes 1 encI (numsF cr r)) := by
 intro g H w hw
 refine enter Tryz.func93 rfl Tryz.ntmps93 rfl hw ?_
 have hIc := HLe.refl I
 obtain ⟨hD, e1, e2, e3, e4, hss⟩ := id hC
 obtain ⟨hs, hH⟩ := hss
 have hSs := hH.1
 have hlD := hD.len
 have hlS := hH.len
 refine zR ?_
 refine XO_box rfl rfl rfl (fun b_2 => ?_)
 refine zA ?_
 refine zN ?_
 refine X_seq ?_
 refine X_seq ?_
 refine X_freeze .here (fun I1 hI1 hb1 => ?_)
 have hC := hC.mono hI1; have hIc := hIc.trans hI1
 have hb2 := ImmC.of hb1
 refine X_region ?_
 refine zM ?_
 refine zN ?_
 refine X_block ?_
 refine zR ?_
 refine zC ?_
 refine zA ?_
 refine zN ?_
 refine X_cond rfl (fun hc8 => ?_) (fun hc8 => ?_)
 ·
  have h1 : r = 1 := by simpa using hc8
  refine zR ?_
  refine XO_buildSlice (ps := []) (m := []) elt_23 rfl (.nil) rfl (by simp) (by decide) (by decide) rfl rfl (fun b_10 => ?_)
  refine zA ?_
  refine zN ?_
  refine X_seq ?_
  refine zR ?_
  refine zA ?_
  refine zN ?_
  refine X_block ?_
  refine X_loopT [(2, _)] (.cons rfl .nil) (fun T L0 mz E I' loc' => ∃ (k : Nat) (v : Value) (L : Go.Kn.Loc), mz = x.n2 - k ∧ E = (5, v) :: (6, .int .i64 k) :: T ∧ I1 = I' ∧ L = loc' ∧ k ≤ x.n2 ∧ OwnS 3 1 v k ((cntL k).flatMap encI) L) _ _ _ _ ⟨0, _, _, rfl, rfl, rfl, rfl, Nat.zero_le _, OwnS.new⟩ (.cons rfl (.cons rfl (.cons rfl .nil))) (HLe.refl _) rfl ?_
  rintro mz E I' loc' ⟨k, v, L, rfl, rfl, rfl, rfl, hk, hO⟩
  refine X_seq ?_
  refine zR ?_
  refine zM ?_
  refine XO_v0 (ev_fieldAddr rfl fld_33_5) rfl rfl rfl ?_
  refine XO_v0 (ev_load rfl sct_27 (fun hg => by first | exact Cell.imm hb2 rfl | (repeat (first | exact Cell.here rfl | apply Cell.there | apply Cell.app)))) rfl rfl rfl ?_
  refine XO_v0 (ev_lenS rfl slt_27) rfl rfl rfl ?_
  refine zC ?_
  refine zN ?_
  refine X_cond rfl (fun hc15 => ?_) (fun hc15 => ?_)
  ·
   have hlt_k : k < x.n2 := by have h := hc15; simp at h; omega
   refine X_skip ?_
   refine at_then ?_
   refine X_seq ?_
   refine X_block ?_
   refine X_region ?_
   refine zM ?_
   refine zM ?_
   refine XO_buildSlice (ps := [(0, _)]) (m := [encI (k : Int)]) elt_23 rfl (.cons rfl (.nil)) rfl (by simp [encI_len]) (by decide) (by decide) rfl rfl (fun b_20 => ?_)
   refine XO_append (v := _) (ys := [(k : Int)].flatMap encI) (L := L) rfl rfl elt_23 hO (by repeat (first | exact .cons .here .nil | exact split_all | exact split_app | apply split_cons | apply split_skip)) ⟨rfl, fun _ => rfl, Cells.here⟩ (one_I [(k : Int)]) (by omega) rfl rfl ?_
   intro v9 L9 hO9 _; rw [← List.flatMap_append] at hO9
   refine zA ?_
   refine XO_nil ?_
   refine at_block_n ?_
   refine at_then ?_
   refine X_region ?_
   refine zM ?_
   refine zB ?_
   refine zA ?_
   refine XO_nil ?_
   exact at_met2 _ _ ⟨x.n2 - (k + 1), by omega, k + 1, _, _, rfl, rfl, rfl, rfl, by omega, by rw [cntL_succ]; exact hO9⟩ (.cons rfl (.cons rfl (.cons rfl .nil))) (by repeat (first | exact .refl | exact subL_left | refine subL_app ?_ | refine .drop ?_ | refine subL_add ?_))
  have hge_k : x.n2 ≤ k := by have h := hc15; simp at h; omega
  have hkn : k = cr.ss.length := by omega
  subst hkn
  refine X_exit ?_
  refine at_then_e ?_
  refine at_then_e ?_
  refine at_block_hit ?_
  refine at_then ?_
  refine zR ?_
  refine zM ?_
  refine zA ?_
  refine zN ?_
  refine X_ret ?_
  refine at_block_r ?_
  refine at_then_r ?_
  first
  | exact at_ret1 rfl rfl (fun w hw => by obtain ⟨I9, h91, h92, h93⟩ := OwnS.res hO encI_len (by decide) hw; rw [h1]; exact ⟨_, I9, [], rfl, hIc.trans h91, h92, h93⟩)
 have h1 : r ≠ 1 := by simpa using hc8
 refine zR ?_
 refine zC ?_
 refine zA ?_
 refine zN ?_
 refine X_cond rfl (fun hc23 => ?_) (fun hc23 => ?_)
 ·
  have h2 : r = 2 := by simpa using hc23
  refine zR ?_
  refine XO_buildSlice (ps := [(0, _)]) (m := [encI 0]) elt_23 rfl (.cons rfl (.nil)) rfl (by simp [encI_len]) (by decide) (by decide) rfl rfl (fun b_25 => ?_)
  refine XO_freeze (by repeat (first | exact Take.here | apply Take.there)) (fun I3 hI3 hb3 => ?_)
  have hC := hC.mono hI3; have hb2 := hb2.mono hI3; have hIc := hIc.trans hI3
  have hG0 := Sl.lit [(0 : Int)] rfl encI_len (show I3 b_25 = some (Obj.cells ([(0 : Int)].flatMap encI).toArray 3 (0, 0)) from hb3)
  refine zA ?_
  refine zN ?_
  refine X_ret ?_
  refine at_block_r ?_
  refine at_then_r ?_
  first
  | (have hg9 := hG0; exact at_ret1 rfl rfl (fun w hw => ⟨_, I3, [], rfl, hIc, hw.drop, rfl, _, _, by rw [h2]; rfl, by rw [h2]; exact hg9⟩))
 have h2 : r ≠ 2 := by simpa using hc23
 refine X_skip ?_
 refine at_block_n ?_
 refine at_then ?_
 refine zR ?_
 refine XO_v0 (ev_loadA rfl agt_33 (fun hg => by first | exact Cells.immC hb2 | (repeat (first | exact Cells.here | exact Cells.s0 (vs := [_, _, _, _, _, _]) rfl | apply Cells.there | apply Cells.app))) rfl) rfl rfl rfl ?_
 refine XO_callM (cap := []) (vs := [_]) rfl rfl fun_131 .nil (w_rPpl hC hr h16 h8 hwh hnd) rfl rfl ?_
 rintro vv4 I4 L4 hI4 ⟨rfl, pa, pc, rfl, hP9⟩
 have hC := hC.mono hI4; have hb2 := hb2.mono hI4; have hIc := hIc.trans hI4
 rw [List.nil_append]
 refine zA ?_
 refine zN ?_
 refine X_ret ?_
 first
 | exact at_ret1 rfl rfl (fun w hw => ⟨_, I4, [], rfl, hIc, hw.drop, rfl, pa, pc, by rw [nums_3 h1 h2], by rw [nums_3 h1 h2]; exact hP9⟩)
theorem w_rUsd {I : HMap} {av : Option Addr} {n c : Nat} {xs : List Int} (hS : Sl I 1 encI av n c xs) (hn : n ≤ 100000) (v : Int) : RetV Tryz.prog 94 [.slice av n c, .int .i64 v] I (.bool (xs.contains v)) := by
 intro g H w hw
 refine enter Tryz.func94 rfl Tryz.ntmps94 rfl hw ?_
 refine zR ?_
 refine zA ?_
 refine zN (zR ?_)
 refine zM ?_
 refine zM ?_
 refine XO_callV0 (cap := []) (vs := [_, _]) rfl rfl fun_51 (w_rHas hS hn v) rfl rfl ?_
 refine zA ?_
 refine zN ?_
 refine X_ret ?_
 exact at_ret1 rfl rfl (fun w hw => ⟨by rfl, hw.drop⟩)
theorem w_rOn {I : HMap} {x : CH} {cr : Cr} (hC : CrAt I x cr) (hr : rightF cr = true) (h16 : cr.days.length ≤ 16) (h8 : cr.ss.length ≤ 8) (hwh : ∀ s ∈ cr.ss, s.who.length ≤ 6) (hnd : ∀ s ∈ cr.ss, s.needs.length ≤ 100000) {av : Option Addr} {n c : Nat} {pl : List Int} (hS : Sl I 1 encI av n c pl) (hl : pl.length ≤ cr.ss.length) (hin : InR cr pl) (d p : Int) : RetV Tryz.prog 132 [encCHA x, .slice av n c, .int .i64 d, .int .i64 p] I (.tuple #[.int .i64 (cntF cr pl d p), .int .i64 (effF cr pl d p)]) := by
 intro g H w hw
 refine enter Tryz.func132 rfl Tryz.ntmps132 rfl hw ?_
 have hIc := HLe.refl I
 obtain ⟨hD, e1, e2, e3, e4, hss⟩ := id hC
 obtain ⟨hs, hH⟩ := hss
 have hSs := hH.1
 have hlD := hD.len
 have hlS := hH.len
 have hlP := hS.len
 refine zR ?_
 refine XO_box rfl rfl rfl (fun b_4 => ?_)
 refine zA ?_
 refine zA ?_
 refine zN ?_
 refine X_seq ?_
 refine X_freeze .here (fun I1 hI1 hb1 => ?_)
 have hC := hC.mono hI1; have hS := hS.mono hI1; have hH := hH.mono hI1; have hD := hD.mono hI1; have hIc := hIc.trans hI1
 have h4 := ImmC.of hb1
 refine X_region ?_
 refine zA ?_
 refine zN (zR ?_)
 refine zA ?_
 refine zN ?_
 refine X_seq ?_
 refine zR ?_
 refine zA ?_
 refine zN ?_
 refine X_block ?_
 refine X_loopT [(1, _), (2, _), (3, _), (4, _)] (.cons rfl (.cons rfl (.cons rfl (.cons rfl .nil)))) (fun T L0 mz E I' loc' => ∃ (k : Nat) (q : Int) (z : Int), mz = n - k ∧ E = (10, .int .i64 q) :: (11, .int .i64 z) :: (12, .int .i64 k) :: T ∧ I1 = I' ∧ L0 = loc' ∧ k ≤ n ∧ q = cntF cr (pl.take k) d p ∧ z = effF cr (pl.take k) d p) _ _ _ _ ⟨0, 0, 0, rfl, rfl, rfl, rfl, Nat.zero_le _, cnt_0.1.symm, cnt_0.2.symm⟩ (.cons rfl (.cons rfl (.cons rfl (.cons rfl (.cons rfl (.cons rfl (.cons rfl .nil))))))) (HLe.refl _) rfl ?_
 rintro mz E I' loc' ⟨k, q, z, rfl, rfl, rfl, rfl, hk, hq, hz⟩
 refine X_seq ?_
 refine zR ?_
 refine zM ?_
 refine zM ?_
 refine XO_v0 (ev_lenS rfl slt_23) rfl rfl rfl ?_
 refine zC ?_
 refine zN ?_
 refine X_cond rfl (fun hc16 => ?_) (fun hc16 => ?_)
 ·
  have hlt_k : k < n := by have h := hc16; simp at h; omega
  obtain ⟨e0, hx⟩ := hS.at hlt_k
  obtain ⟨y, s, hy, hs9, q1, q2, hW, hN⟩ := hH.at (show k < x.n2 by omega)
  have hWl := hW.len
  have hNl := hN.len
  have hw6 := hwh s (List.mem_of_getElem? hs9)
  have hn9 := hnd s (List.mem_of_getElem? hs9)
  have hbd := on_bd hr h8 (pl.take k) d p
  have hso := (right_ses hr hs9).ef
  refine X_skip ?_
  refine at_then ?_
  refine X_seq ?_
  refine X_block ?_
  refine zR ?_
  refine zM ?_
  refine zM ?_
  refine XO_v0 (ev_indexSl rfl rfl slt_23 hS (fun hg => by first | omega | (simp [conj] at hg; omega))) rfl rfl rfl ?_
  refine XO_v0 (ev_load rfl sct_3 (fun hg => by first | exact Cell.imm h4 rfl | exact Sl.get0 hS hx rfl | exact Sl.get hH.1 hy (j := 2) rfl | exact Sl.get hH.1 hy (j := 1) rfl | (repeat (first | exact Cell.here rfl | apply Cell.there | apply Cell.app)))) rfl rfl rfl ?_
  refine zM ?_
  refine zC ?_
  refine zM ?_
  refine XO_pushT 6 rfl rfl rfl ?_
  refine XO_v1 (ev_fieldAddr rfl fld_33_5) (.some rfl rfl rfl rfl gbt) rfl rfl rfl ?_
  refine XO_v1 (ev_load rfl sct_27 (fun hg => by first | exact Cell.imm h4 rfl | exact Sl.get0 hS hx rfl | exact Sl.get hH.1 hy (j := 2) rfl | exact Sl.get hH.1 hy (j := 1) rfl | (repeat (first | exact Cell.here rfl | apply Cell.there | apply Cell.app)))) (.some rfl rfl rfl rfl gbt) rfl rfl rfl ?_
  refine XO_v1 (ev_move rfl) (.some rfl rfl rfl rfl gbt) rfl rfl rfl ?_
  refine XO_v1 (ev_indexSl rfl rfl slt_27 hH.1 (fun hg => by first | omega | (simp [conj] at hg; omega))) (.some rfl rfl rfl rfl gbt) rfl rfl rfl ?_
  refine XO_v1 (ev_fieldAddr rfl fld_58_2) (.some rfl rfl rfl rfl gbt) rfl rfl rfl ?_
  refine XO_v1 (ev_load rfl sct_23 (fun hg => by first | exact Cell.imm h4 rfl | exact Sl.get0 hS hx rfl | exact Sl.get hH.1 hy (j := 2) rfl | exact Sl.get hH.1 hy (j := 1) rfl | (repeat (first | exact Cell.here rfl | apply Cell.there | apply Cell.app)))) (.some rfl rfl rfl rfl gbt) rfl rfl rfl ?_
  refine XO_v1 (ev_move rfl) (.some rfl rfl rfl rfl gbt) rfl rfl rfl ?_
  refine XO_callV1 (cap := []) (vs := [_, _]) rfl rfl fun_51 (fun hg => w_rHas hW (by omega) p) (.some rfl rfl rfl rfl gbt) rfl rfl ?_
  refine XO_and0 rfl rfl rfl rfl rfl ?_
  refine zN ?_
  refine X_cond rfl (fun hc34 => ?_) (fun hc34 => ?_)
  ·
   have hb : (e0 == d && s.who.contains p) = true := hc34
   refine zR ?_
   refine zM ?_
   refine zB ?_
   refine zA ?_
   refine zN ?_
   refine X_region ?_
   refine zM ?_
   refine XO_v0 (ev_fieldAddr rfl fld_33_5) rfl rfl rfl ?_
   refine XO_v0 (ev_load rfl sct_27 (fun hg => by first | exact Cell.imm h4 rfl | exact Sl.get0 hS hx rfl | exact Sl.get hH.1 hy (j := 2) rfl | exact Sl.get hH.1 hy (j := 1) rfl | (repeat (first | exact Cell.here rfl | apply Cell.there | apply Cell.app)))) rfl rfl rfl ?_
   refine zM ?_
   refine XO_v0 (ev_indexSl rfl rfl slt_27 hH.1 (fun hg => by first | omega | (simp [conj] at hg; omega))) rfl rfl rfl ?_
   refine XO_v0 (ev_fieldAddr rfl fld_58_1) rfl rfl rfl ?_
   refine XO_v0 (ev_load rfl sct_3 (fun hg => by first | exact Cell.imm h4 rfl | exact Sl.get0 hS hx rfl | exact Sl.get hH.1 hy (j := 2) rfl | exact Sl.get hH.1 hy (j := 1) rfl | (repeat (first | exact Cell.here rfl | apply Cell.there | apply Cell.app)))) rfl rfl rfl ?_
   refine zB ?_
   refine zA ?_
   refine XO_nil ?_
   refine at_block_n ?_
   refine at_then ?_
   refine X_region ?_
   refine zM ?_
   refine zB ?_
   refine zA ?_
   refine XO_nil ?_
   exact at_met2 _ _ ⟨n - (k + 1), by omega, k + 1, _, _, rfl, rfl, rfl, rfl, by omega, by rw [hq, (cnt_yes hx hs9 hb).1], by rw [hz, q2, (cnt_yes hx hs9 hb).2]⟩ (.cons rfl (.cons rfl (.cons rfl (.cons rfl (.cons rfl (.cons rfl (.cons rfl .nil))))))) (by repeat (first | exact .refl | exact subL_left | refine subL_app ?_ | refine .drop ?_ | refine subL_add ?_))
  have hb : (e0 == d && s.who.contains p) = false := hc34
  refine X_skip ?_
  refine at_block_n ?_
  refine at_then ?_
  refine X_region ?_
  refine zM ?_
  refine zB ?_
  refine zA ?_
  refine XO_nil ?_
  exact at_met2 _ _ ⟨n - (k + 1), by omega, k + 1, _, _, rfl, rfl, rfl, rfl, by omega, by rw [hq, (cnt_no hx hs9 hb).1], by rw [hz, (cnt_no hx hs9 hb).2]⟩ (.cons rfl (.cons rfl (.cons rfl (.cons rfl (.cons rfl (.cons rfl (.cons rfl .nil))))))) (by repeat (first | exact .refl | exact subL_left | refine subL_app ?_ | refine .drop ?_ | refine subL_add ?_))
 have hge_k : n ≤ k := by have h := hc16; simp at h; omega
 rw [take_all hlP hge_k] at hq hz
 refine X_exit ?_
 refine at_then_e ?_
 refine at_then_e ?_
 refine at_block_hit ?_
 refine at_then ?_
 refine zR ?_
 refine zM ?_
 refine zM ?_
 refine zA ?_
 refine zA ?_
 refine zN ?_
 refine X_ret ?_
 exact at_ret2 rfl rfl rfl (fun w hw => ⟨by rw [hq, hz], (hw.mono hIc).drop⟩)
theorem w_rBsy {I : HMap} {x : CH} {cr : Cr} (hC : CrAt I x cr) (hr : rightF cr = true) (h16 : cr.days.length ≤ 16) (h8 : cr.ss.length ≤ 8) (hwh : ∀ s ∈ cr.ss, s.who.length ≤ 6) (hnd : ∀ s ∈ cr.ss, s.needs.length ≤ 100000) {av : Option Addr} {n c : Nat} {pl : List Int} (hS : Sl I 1 encI av n c pl) (hl : pl.length ≤ cr.ss.length) (hin : InR cr pl) (d p : Int) : RetV Tryz.prog 147 [encCHA x, .slice av n c, .int .i64 d, .int .i64 p] I (.bool (busyF cr pl d p)) := by
 intro g H w hw
 refine enter Tryz.func147 rfl Tryz.ntmps147 rfl hw ?_
 have hIc := HLe.refl I
 obtain ⟨hD, e1, e2, e3, e4, hss⟩ := id hC
 obtain ⟨hs, hH⟩ := hss
 have hSs := hH.1
 have hlD := hD.len
 have hlS := hH.len
 have hlP := hS.len
 refine zR ?_
 refine XO_box rfl rfl rfl (fun b_4 => ?_)
 refine zA ?_
 refine zN ?_
 refine X_seq ?_
 refine X_seq ?_
 refine X_freeze .here (fun I1 hI1 hb1 => ?_)
 have hC := hC.mono hI1; have hS := hS.mono hI1; have hH := hH.mono hI1; have hD := hD.mono hI1; have hIc := hIc.trans hI1
 have h4 := ImmC.of hb1
 refine X_region ?_
 refine zA ?_
 refine zN ?_
 refine X_block ?_
 refine X_loopT [(1, _), (2, _), (3, _), (4, _)] (.cons rfl (.cons rfl (.cons rfl (.cons rfl .nil)))) (fun T L0 mz E I' loc' => ∃ (k : Nat), mz = n - k ∧ E = (9, .int .i64 k) :: T ∧ I1 = I' ∧ L0 = loc' ∧ k ≤ n ∧ ((pl.zip cr.ss).take k).any (fun q => dayF cr q.1 == d && q.2.who.contains p) = false) _ _ _ _ ⟨0, rfl, rfl, rfl, rfl, Nat.zero_le _, rfl⟩ (.cons rfl (.cons rfl (.cons rfl (.cons rfl (.cons rfl .nil))))) (HLe.refl _) rfl ?_
 rintro mz E I' loc' ⟨k, rfl, rfl, rfl, rfl, hk, hno⟩
 refine X_seq ?_
 refine zR ?_
 refine zM ?_
 refine zM ?_
 refine XO_v0 (ev_lenS rfl slt_23) rfl rfl rfl ?_
 refine zC ?_
 refine zN ?_
 refine X_cond rfl (fun hc13 => ?_) (fun hc13 => ?_)
 ·
  have hlt_k : k < n := by have h := hc13; simp at h; omega
  obtain ⟨e0, hx⟩ := hS.at hlt_k
  obtain ⟨y, s, hy, hs9, q1, q2, hW, hN⟩ := hH.at (show k < x.n2 by omega)
  have hWl := hW.len
  have hNl := hN.len
  have hw6 := hwh s (List.mem_of_getElem? hs9)
  have hn9 := hnd s (List.mem_of_getElem? hs9)
  have hed := hin e0 (List.mem_of_getElem? hx)
  refine X_skip ?_
  refine at_then ?_
  refine X_seq ?_
  refine X_block ?_
  refine X_seq ?_
  refine X_draw mixed (by kernel_rfl) ?_
  refine XQ_v0 (ev_fieldAddr rfl fld_33_0) rfl rfl rfl ?_
  refine XQ_v0 (ev_load rfl sct_23 (fun hg => by first | exact Cell.imm h4 rfl | exact Sl.get0 hS hx rfl | exact Sl.getD0 hD (d := 0) (k := e0.toNat) (by omega) rfl | exact Sl.get hH.1 hy (j := 2) rfl | (repeat (first | exact Cell.here rfl | apply Cell.there | apply Cell.app)))) rfl rfl rfl ?_
  refine XQ_v0 (ev_move rfl) rfl rfl rfl ?_
  refine XQ_v0 (ev_move rfl) rfl rfl rfl ?_
  refine XQ_v0 (ev_indexSl rfl rfl slt_23 hS (fun hg => by first | omega | (simp [conj] at hg; omega))) rfl rfl rfl ?_
  refine XQ_v0 (ev_load rfl sct_3 (fun hg => by first | exact Cell.imm h4 rfl | exact Sl.get0 hS hx rfl | exact Sl.getD0 hD (d := 0) (k := e0.toNat) (by omega) rfl | exact Sl.get hH.1 hy (j := 2) rfl | (repeat (first | exact Cell.here rfl | apply Cell.there | apply Cell.app)))) rfl rfl rfl ?_
  refine XQ_v0 (ev_indexSl rfl rfl slt_23 hD (fun hg => by first | omega | (simp [conj] at hg; omega))) rfl rfl rfl ?_
  refine XQ_v0 (ev_load rfl sct_3 (fun hg => by first | exact Cell.imm h4 rfl | exact Sl.get0 hS hx rfl | exact Sl.getD0 hD (d := 0) (k := e0.toNat) (by omega) rfl | exact Sl.get hH.1 hy (j := 2) rfl | (repeat (first | exact Cell.here rfl | apply Cell.there | apply Cell.app)))) rfl rfl rfl ?_
  refine XQ_v0 (ev_move rfl) rfl rfl rfl ?_
  refine XQ_v0 (ev_cmp rfl rfl rfl) rfl rfl rfl ?_
  refine XQ_v0 (ev_move rfl) rfl rfl rfl ?_
  refine XQ_pushT 10 rfl rfl rfl ?_
  refine XQ_v1 (ev_fieldAddr rfl fld_33_5) (.some rfl rfl rfl rfl gbt) rfl rfl rfl ?_
  refine XQ_v1 (ev_load rfl sct_27 (fun hg => by first | exact Cell.imm h4 rfl | exact Sl.get0 hS hx rfl | exact Sl.getD0 hD (d := 0) (k := e0.toNat) (by omega) rfl | exact Sl.get hH.1 hy (j := 2) rfl | (repeat (first | exact Cell.here rfl | apply Cell.there | apply Cell.app)))) (.some rfl rfl rfl rfl gbt) rfl rfl rfl ?_
  refine XQ_v1 (ev_move rfl) (.some rfl rfl rfl rfl gbt) rfl rfl rfl ?_
  refine XQ_v1 (ev_indexSl rfl rfl slt_27 hH.1 (fun hg => by first | omega | (simp [conj] at hg; omega))) (.some rfl rfl rfl rfl gbt) rfl rfl rfl ?_
  refine XQ_v1 (ev_fieldAddr rfl fld_58_2) (.some rfl rfl rfl rfl gbt) rfl rfl rfl ?_
  refine XQ_v1 (ev_load rfl sct_23 (fun hg => by first | exact Cell.imm h4 rfl | exact Sl.get0 hS hx rfl | exact Sl.getD0 hD (d := 0) (k := e0.toNat) (by omega) rfl | exact Sl.get hH.1 hy (j := 2) rfl | (repeat (first | exact Cell.here rfl | apply Cell.there | apply Cell.app)))) (.some rfl rfl rfl rfl gbt) rfl rfl rfl ?_
  refine XQ_v1 (ev_move rfl) (.some rfl rfl rfl rfl gbt) rfl rfl rfl ?_
  refine XQ_callV1 (cap := []) (vs := [_, _]) rfl rfl fun_51 (fun hg => w_rHas hW (by omega) p) (.some rfl rfl rfl rfl gbt) rfl rfl ?_
  refine XQ_and0 rfl rfl rfl rfl rfl ?_
  refine XQ_nil ?_
  refine at_then ?_
  refine X_cond rfl (fun hc35 => ?_) (fun hc35 => ?_)
  ·
   refine zR ?_
   refine zA ?_
   refine zN ?_
   refine X_ret ?_
   refine at_block_r ?_
   refine at_then_r ?_
   refine at_then_r ?_
   refine at_block_r ?_
   refine at_then_r ?_
   first
   | exact at_ret1 rfl rfl (fun w hw => ⟨by unfold busyF; rw [any_yes (zip_get hx hs9) hc35], (hw.mono hIc).drop⟩)
  refine X_skip ?_
  refine at_block_n ?_
  refine at_then ?_
  refine X_region ?_
  refine zM ?_
  refine zB ?_
  refine zA ?_
  refine XO_nil ?_
  exact at_met2 _ _ ⟨n - (k + 1), by omega, k + 1, rfl, rfl, rfl, rfl, by omega, any_no (zip_get hx hs9) hno hc35⟩ (.cons rfl (.cons rfl (.cons rfl (.cons rfl (.cons rfl .nil))))) (by repeat (first | exact .refl | exact subL_left | refine subL_app ?_ | refine .drop ?_ | refine subL_add ?_))
 have hge_k : n ≤ k := by have h := hc13; simp at h; omega
 rw [zip_all hlP hge_k] at hno
 refine X_exit ?_
 refine at_then_e ?_
 refine at_then_e ?_
 refine at_block_hit ?_
 refine at_then ?_
 refine zR ?_
 refine zA ?_
 refine zN ?_
 refine X_ret ?_
 first
 | exact at_ret1 rfl rfl (fun w hw => ⟨by unfold busyF; rw [hno], (hw.mono hIc).drop⟩)
theorem w_rRun {I : HMap} {x : CH} {cr : Cr} (hC : CrAt I x cr) (hr : rightF cr = true) (h16 : cr.days.length ≤ 16) (h8 : cr.ss.length ≤ 8) (hwh : ∀ s ∈ cr.ss, s.who.length ≤ 6) (hnd : ∀ s ∈ cr.ss, s.needs.length ≤ 100000) {av : Option Addr} {n c : Nat} {pl : List Int} (hS : Sl I 1 encI av n c pl) (hl : pl.length ≤ cr.ss.length) (hin : InR cr pl) (d p : Int) (hd : 0 ≤ d ∧ d < cr.days.length) : RetV Tryz.prog 133 [encCHA x, .slice av n c, .int .i64 d, .int .i64 p] I (.bool (runF cr pl d p)) := by
 intro g H w hw
 refine enter Tryz.func133 rfl Tryz.ntmps133 rfl hw ?_
 have hIc := HLe.refl I
 obtain ⟨hD, e1, e2, e3, e4, hss⟩ := id hC
 obtain ⟨hs, hH⟩ := hss
 have hSs := hH.1
 have hlD := hD.len
 have hlS := hH.len
 have hlP := hS.len
 have hh9 := head_ok hr
 have hru := hh9.ru
 have hdy := hh9.day (cr.days.getD d.toNat 0) (by rw [List.getD_eq_getElem?_getD, List.getElem?_eq_getElem (show d.toNat < cr.days.length by omega)]; exact List.getElem_mem _)
 refine zR ?_
 refine XO_box rfl rfl rfl (fun b_4 => ?_)
 refine zA ?_
 refine zN ?_
 refine X_seq ?_
 refine X_seq ?_
 refine X_freeze .here (fun I1 hI1 hb1 => ?_)
 have hC := hC.mono hI1; have hS := hS.mono hI1; have hH := hH.mono hI1; have hD := hD.mono hI1; have hIc := hIc.trans hI1
 have h4 := ImmC.of hb1
 refine X_region ?_
 refine zA ?_
 refine zN ?_
 refine X_block ?_
 refine X_loopT [(1, _), (2, _), (3, _), (4, _)] (.cons rfl (.cons rfl (.cons rfl (.cons rfl .nil)))) (fun T L0 mz E I' loc' => ∃ (k : Nat), mz = 17 - k ∧ E = (9, .int .i64 k) :: T ∧ I1 = I' ∧ L0 = loc' ∧ k ≤ 17 ∧ ∀ j : Nat, j < k → busyF cr pl (dayF cr d - (j : Int)) p = true) _ _ _ _ ⟨0, rfl, rfl, rfl, rfl, Nat.zero_le _, fun j hj => absurd hj (Nat.not_lt_zero j)⟩ (.cons rfl (.cons rfl (.cons rfl (.cons rfl (.cons rfl .nil))))) (HLe.refl _) rfl ?_
 rintro mz E I' loc' ⟨k, rfl, rfl, rfl, rfl, hk, hall⟩
 refine X_seq ?_
 refine zR ?_
 refine zM ?_
 refine XO_v0 (ev_fieldAddr rfl fld_33_4) rfl rfl rfl ?_
 refine XO_v0 (ev_load rfl sct_3 (fun hg => by first | exact Cell.imm h4 rfl | exact Sl.getD0 hD (d := 0) (k := d.toNat) (by omega) rfl | (repeat (first | exact Cell.here rfl | apply Cell.there | apply Cell.app)))) rfl rfl rfl ?_
 refine zC ?_
 refine zN ?_
 refine X_cond rfl (fun hc14 => ?_) (fun hc14 => ?_)
 ·
  have hlt_k : (k : Int) ≤ cr.ru := by have h := hc14; simp at h; omega
  refine X_skip ?_
  refine at_then ?_
  refine X_seq ?_
  refine X_block ?_
  refine X_seq ?_
  refine X_draw mixed (by kernel_rfl) ?_
  refine XQ_v0 (ev_loadA rfl agt_33 (fun hg => by first | exact Cells.immC h4 | (repeat (first | exact Cells.here | exact Cells.s0 (vs := [_, _, _, _, _, _]) rfl | apply Cells.there | apply Cells.app))) rfl) rfl rfl rfl ?_
  refine XQ_v0 (ev_move rfl) rfl rfl rfl ?_
  refine XQ_v0 (ev_fieldAddr rfl fld_33_0) rfl rfl rfl ?_
  refine XQ_v0 (ev_load rfl sct_23 (fun hg => by first | exact Cell.imm h4 rfl | exact Sl.getD0 hD (d := 0) (k := d.toNat) (by omega) rfl | (repeat (first | exact Cell.here rfl | apply Cell.there | apply Cell.app)))) rfl rfl rfl ?_
  refine XQ_v0 (ev_move rfl) rfl rfl rfl ?_
  refine XQ_v0 (ev_indexSl rfl rfl slt_23 hD (fun hg => by first | omega | (simp [conj] at hg; omega))) rfl rfl rfl ?_
  refine XQ_v0 (ev_load rfl sct_3 (fun hg => by first | exact Cell.imm h4 rfl | exact Sl.getD0 hD (d := 0) (k := d.toNat) (by omega) rfl | (repeat (first | exact Cell.here rfl | apply Cell.there | apply Cell.app)))) rfl rfl rfl ?_
  refine XQ_v0 (ev_move rfl) rfl rfl rfl ?_
  refine XQ_v0 (ev_arB rfl rfl rfl (fun hg => by first | omega | (simp [conj] at hg; omega))) rfl rfl rfl ?_
  refine XQ_v0 (ev_move rfl) rfl rfl rfl ?_
  refine XQ_callV0 (cap := []) (vs := [_, _, _, _]) rfl rfl fun_147 (w_rBsy hC hr h16 h8 hwh hnd hS hl hin _ p) rfl rfl ?_
  refine XQ_v0 (ev_assign rfl) rfl rfl rfl ?_
  refine XQ_nil ?_
  refine at_then ?_
  refine zR ?_
  refine zM ?_
  refine XO_v0 (ev_not rfl) rfl rfl rfl ?_
  refine zN ?_
  refine X_cond rfl (fun hc29 => ?_) (fun hc29 => ?_)
  ·
   have hb : busyF cr pl (dayF cr d - (k : Int)) p = false := by simpa [dayF] using hc29
   refine zR ?_
   refine zA ?_
   refine zN ?_
   refine X_ret ?_
   refine at_block_r ?_
   refine at_then_r ?_
   refine at_then_r ?_
   refine at_block_r ?_
   refine at_then_r ?_
   exact at_ret1 rfl rfl (fun w hw => ⟨by rw [run_no hlt_k hb], (hw.mono hIc).drop⟩)
  have hb : busyF cr pl (dayF cr d - (k : Int)) p = true := by simpa [dayF] using hc29
  refine X_skip ?_
  refine at_block_n ?_
  refine at_then ?_
  refine X_region ?_
  refine zM ?_
  refine zB ?_
  refine zA ?_
  refine XO_nil ?_
  exact at_met2 _ _ ⟨17 - (k + 1), by omega, k + 1, rfl, rfl, rfl, rfl, by omega, busy_more hall hb⟩ (.cons rfl (.cons rfl (.cons rfl (.cons rfl (.cons rfl .nil))))) (by repeat (first | exact .refl | exact subL_left | refine subL_app ?_ | refine .drop ?_ | refine subL_add ?_))
 have hge_k : ¬ (k : Int) ≤ cr.ru := by have h := hc14; simp at h; omega
 refine X_exit ?_
 refine at_then_e ?_
 refine at_then_e ?_
 refine at_block_hit ?_
 refine at_then ?_
 refine zR ?_
 refine zA ?_
 refine zN ?_
 refine X_ret ?_
 exact at_ret1 rfl rfl (fun w hw => ⟨by rw [run_yes hru.1 hge_k hall], (hw.mono hIc).drop⟩)
end Go.Proofs.YtehkiccapbkhnaaGreat
end
section
namespace Go.Proofs.YtehkiccapbkhnaaGreat
open Go Go.Kn Go.Proofs
theorem fun_132 : Fun Tryz.prog 132 := .of Tryz.func132 (by kernel_rfl) (by kernel_rfl)
theorem fun_133 : Fun Tryz.prog 133 := .of Tryz.func133 (by kernel_rfl) (by kernel_rfl)
theorem fun_57 : Fun Tryz.prog 57 := .of Tryz.func57 (by kernel_rfl) (by kernel_rfl)
theorem fun_93 : Fun Tryz.prog 93 := .of Tryz.func93 (by kernel_rfl) (by kernel_rfl)
theorem fun_94 : Fun Tryz.prog 94 := .of Tryz.func94 (by kernel_rfl) (by kernel_rfl)
theorem fun_95 : Fun Tryz.prog 95 := .of Tryz.func95 (by kernel_rfl) (by kernel_rfl)
theorem w_rBrk {I : HMap} {x : CH} {cr : Cr} (hC : CrAt I x cr) (hr : rightF cr = true) (h16 : cr.days.length ≤ 16) (h8 : cr.ss.length ≤ 8) (hwh : ∀ s ∈ cr.ss, s.who.length ≤ 6) (hnd : ∀ s ∈ cr.ss, s.needs.length ≤ 100000) {av : Option Addr} {n c : Nat} {pl : List Int} (hS : Sl I 1 encI av n c pl) (hl : pl.length ≤ cr.ss.length) (hin : InR cr pl) (r d nm : Int) (hd : 0 ≤ d ∧ d < cr.days.length) : RetV Tryz.prog 95 [encCHA x, .slice av n c, .int .i64 r, .int .i64 d, .int .i64 nm] I (.bool (brk cr pl ⟨r, d, nm⟩)) := by
 intro g H w hw
 refine enter Tryz.func95 rfl Tryz.ntmps95 rfl hw ?_
 have hIc := HLe.refl I
 obtain ⟨hD, e1, e2, e3, e4, hss⟩ := id hC
 obtain ⟨hs, hH⟩ := hss
 have hSs := hH.1
 have hlD := hD.len
 have hlS := hH.len
 have hlP := hS.len
 refine zR ?_
 refine XO_box rfl rfl rfl (fun b_5 => ?_)
 refine zA ?_
 refine zN ?_
 refine X_seq ?_
 refine X_freeze .here (fun I1 hI1 hb1 => ?_)
 have hC := hC.mono hI1; have hS := hS.mono hI1; have hH := hH.mono hI1; have hD := hD.mono hI1; have hIc := hIc.trans hI1
 have hb5 := ImmC.of hb1
 refine X_region ?_
 refine XO_v0 (ev_loadA rfl agt_33 (fun hg => by first | exact Cells.immC hb5 | (repeat (first | exact Cells.here | exact Cells.s0 (vs := [_, _, _, _, _, _]) rfl | apply Cells.there | apply Cells.app))) rfl) rfl rfl rfl ?_
 refine zM ?_
 refine zM ?_
 refine zM ?_
 refine XO_callV0 (cap := []) (vs := [_, _, _, _]) rfl rfl fun_132 (w_rOn hC hr h16 h8 hwh hnd hS hl hin d nm) rfl rfl ?_
 refine zM ?_
 refine XO_v0 (ev_extract rfl rfl) rfl rfl rfl ?_
 refine XO_v0 (ev_extract rfl rfl) rfl rfl rfl ?_
 refine zA ?_
 refine zA ?_
 refine zN ?_
 refine X_seq ?_
 refine zR ?_
 refine zM ?_
 refine zN ?_
 refine X_block ?_
 refine zR ?_
 refine zC ?_
 refine zA ?_
 refine zN ?_
 refine X_cond rfl (fun hc25 => ?_) (fun hc25 => ?_)
 ·
  have h1 : r = 1 := by simpa using hc25
  refine X_seq ?_
  refine zR ?_
  refine zA ?_
  refine zN ?_
  refine X_block ?_
  refine X_loopT [(1, _), (3, _), (4, _), (5, _)] (.cons rfl (.cons rfl (.cons rfl (.cons rfl .nil)))) (fun T L0 mz E I' loc' => ∃ (k : Nat), mz = n - k ∧ E = (13, .int .i64 k) :: T ∧ I1 = I' ∧ L0 = loc' ∧ k ≤ n ∧ ((pl.zip cr.ss).take k).any (fun q => q.1 == d && q.2.needs.contains nm && decide (pl.getD nm.toNat 0 ≥ d)) = false) _ _ _ _ ⟨0, rfl, rfl, rfl, rfl, Nat.zero_le _, rfl⟩ (.cons rfl (.cons rfl (.cons rfl (.cons rfl (.cons rfl .nil))))) (HLe.refl _) rfl ?_
  rintro mz E I' loc' ⟨k, rfl, rfl, rfl, rfl, hk, hno⟩
  refine X_seq ?_
  refine zR ?_
  refine zM ?_
  refine zM ?_
  refine XO_v0 (ev_lenS rfl slt_23) rfl rfl rfl ?_
  refine zC ?_
  refine zN ?_
  refine X_cond rfl (fun hc30 => ?_) (fun hc30 => ?_)
  ·
   have hlt_k : k < n := by have h := hc30; simp at h; omega
   obtain ⟨e0, hx⟩ := hS.at hlt_k
   obtain ⟨y, s, hy, hs9, q1, q2, hW, hN⟩ := hH.at (show k < x.n2 by omega)
   have hWl := hW.len
   have hNl := hN.len
   have hw6 := hwh s (List.mem_of_getElem? hs9)
   have hn9 := hnd s (List.mem_of_getElem? hs9)
   have hso := right_ses hr hs9
   refine X_skip ?_
   refine at_then ?_
   refine X_seq ?_
   refine X_block ?_
   refine zR ?_
   refine zM ?_
   refine zM ?_
   refine XO_v0 (ev_indexSl rfl rfl slt_23 hS (fun hg => by first | omega | (simp [conj] at hg; omega) | (simp [conj] at hg; have h9 := hso.needs nm hg.2; omega))) rfl rfl rfl ?_
   refine XO_v0 (ev_load rfl sct_3 (fun hg => by first | exact Cell.imm hb5 rfl | exact Sl.get0 hS hx rfl | exact Sl.get hH.1 hy (j := 3) rfl | exact Sl.getD0 hS (d := 0) (k := nm.toNat) (by first | omega | (simp [conj] at hg; omega) | (simp [conj] at hg; have h9 := hso.needs nm hg.2; omega)) rfl | (repeat (first | exact Cell.here rfl | apply Cell.there | apply Cell.app)))) rfl rfl rfl ?_
   refine zM ?_
   refine zC ?_
   refine zM ?_
   refine XO_pushT 6 rfl rfl rfl ?_
   refine XO_v1 (ev_fieldAddr rfl fld_33_5) (.some rfl rfl rfl rfl gbt) rfl rfl rfl ?_
   refine XO_v1 (ev_load rfl sct_27 (fun hg => by first | exact Cell.imm hb5 rfl | exact Sl.get0 hS hx rfl | exact Sl.get hH.1 hy (j := 3) rfl | exact Sl.getD0 hS (d := 0) (k := nm.toNat) (by first | omega | (simp [conj] at hg; omega) | (simp [conj] at hg; have h9 := hso.needs nm hg.2; omega)) rfl | (repeat (first | exact Cell.here rfl | apply Cell.there | apply Cell.app)))) (.some rfl rfl rfl rfl gbt) rfl rfl rfl ?_
   refine XO_v1 (ev_move rfl) (.some rfl rfl rfl rfl gbt) rfl rfl rfl ?_
   refine XO_v1 (ev_indexSl rfl rfl slt_27 hH.1 (fun hg => by first | omega | (simp [conj] at hg; omega) | (simp [conj] at hg; have h9 := hso.needs nm hg.2; omega))) (.some rfl rfl rfl rfl gbt) rfl rfl rfl ?_
   refine XO_v1 (ev_fieldAddr rfl fld_58_3) (.some rfl rfl rfl rfl gbt) rfl rfl rfl ?_
   refine XO_v1 (ev_load rfl sct_23 (fun hg => by first | exact Cell.imm hb5 rfl | exact Sl.get0 hS hx rfl | exact Sl.get hH.1 hy (j := 3) rfl | exact Sl.getD0 hS (d := 0) (k := nm.toNat) (by first | omega | (simp [conj] at hg; omega) | (simp [conj] at hg; have h9 := hso.needs nm hg.2; omega)) rfl | (repeat (first | exact Cell.here rfl | apply Cell.there | apply Cell.app)))) (.some rfl rfl rfl rfl gbt) rfl rfl rfl ?_
   refine XO_v1 (ev_move rfl) (.some rfl rfl rfl rfl gbt) rfl rfl rfl ?_
   refine XO_callV1 (cap := []) (vs := [_, _]) rfl rfl fun_51 (fun hg => w_rHas hN (by omega) nm) (.some rfl rfl rfl rfl gbt) rfl rfl ?_
   refine XO_and0 rfl rfl rfl rfl rfl ?_
   refine zM ?_
   refine XO_pushT 16 rfl rfl rfl ?_
   refine XO_v1 (ev_move rfl) (.some rfl rfl rfl rfl gbt) rfl rfl rfl ?_
   refine XO_v1 (ev_move rfl) (.some rfl rfl rfl rfl gbt) rfl rfl rfl ?_
   refine XO_v1 (ev_indexSl rfl rfl slt_23 hS (fun hg => by first | omega | (simp [conj] at hg; omega) | (simp [conj] at hg; have h9 := hso.needs nm hg.2; omega))) (.some rfl rfl rfl rfl gbt) rfl rfl rfl ?_
   refine XO_v1 (ev_load rfl sct_3 (fun hg => by first | exact Cell.imm hb5 rfl | exact Sl.get0 hS hx rfl | exact Sl.get hH.1 hy (j := 3) rfl | exact Sl.getD0 hS (d := 0) (k := nm.toNat) (by first | omega | (simp [conj] at hg; omega) | (simp [conj] at hg; have h9 := hso.needs nm hg.2; omega)) rfl | (repeat (first | exact Cell.here rfl | apply Cell.there | apply Cell.app)))) (.some rfl rfl rfl rfl gbt) rfl rfl rfl ?_
   refine XO_v1 (ev_move rfl) (.some rfl rfl rfl rfl gbt) rfl rfl rfl ?_
   refine XO_v1 (ev_cmp rfl rfl rfl) (.some rfl rfl rfl rfl gbt) rfl rfl rfl ?_
   refine XO_and0 rfl rfl rfl rfl rfl ?_
   refine zN ?_
   refine X_cond rfl (fun hc56 => ?_) (fun hc56 => ?_)
   ·
    refine zR ?_
    refine zA ?_
    refine zN ?_
    refine X_ret ?_
    refine at_block_r ?_
    refine at_then_r ?_
    refine at_then_r ?_
    refine at_block_r ?_
    refine at_then_r ?_
    refine at_block_r ?_
    refine at_then_r ?_
    first
    | exact at_ret1 rfl rfl (fun w hw => ⟨by rw [bk_1 h1]; unfold needF; rw [any_yes (zip_get hx hs9) hc56], (hw.mono hIc).drop⟩)
   refine X_skip ?_
   refine at_block_n ?_
   refine at_then ?_
   refine X_region ?_
   refine zM ?_
   refine zB ?_
   refine zA ?_
   refine XO_nil ?_
   exact at_met2 _ _ ⟨n - (k + 1), by omega, k + 1, rfl, rfl, rfl, rfl, by omega, any_no (zip_get hx hs9) hno hc56⟩ (.cons rfl (.cons rfl (.cons rfl (.cons rfl (.cons rfl .nil))))) (by repeat (first | exact .refl | exact subL_left | refine subL_app ?_ | refine .drop ?_ | refine subL_add ?_))
  have hge_k : n ≤ k := by have h := hc30; simp at h; omega
  rw [zip_all hlP hge_k] at hno
  refine X_exit ?_
  refine at_then_e ?_
  refine at_then_e ?_
  refine at_block_hit ?_
  refine at_then ?_
  refine zR ?_
  refine zA ?_
  refine zN ?_
  refine X_ret ?_
  refine at_block_r ?_
  refine at_then_r ?_
  first
  | exact at_ret1 rfl rfl (fun w hw => ⟨by rw [bk_1 h1]; unfold needF; rw [hno], (hw.mono hIc).drop⟩)
 have h1 : r ≠ 1 := by simpa using hc25
 refine zR ?_
 refine zC ?_
 refine zA ?_
 refine zN ?_
 refine X_cond rfl (fun hc57 => ?_) (fun hc57 => ?_)
 ·
  have h2 : r = 2 := by simpa using hc57
  refine zR ?_
  refine zA ?_
  refine zN ?_
  refine X_seq ?_
  refine zR ?_
  refine zA ?_
  refine zN ?_
  refine X_block ?_
  refine X_loopT [(1, _), (3, _), (4, _), (5, _)] (.cons rfl (.cons rfl (.cons rfl (.cons rfl .nil)))) (fun T L0 mz E I' loc' => ∃ (k : Nat) (q : Int), mz = n - k ∧ E = (14, .int .i64 q) :: (15, .int .i64 k) :: T ∧ I1 = I' ∧ L0 = loc' ∧ k ≤ n ∧ q = manyF (pl.take k) d ∧ 0 ≤ q ∧ q ≤ k) _ _ _ _ ⟨0, 0, rfl, rfl, rfl, rfl, Nat.zero_le _, by simp [manyF], by decide, by decide⟩ (.cons rfl (.cons rfl (.cons rfl (.cons rfl (.cons rfl (.cons rfl .nil)))))) (HLe.refl _) rfl ?_
  rintro mz E I' loc' ⟨k, q, rfl, rfl, rfl, rfl, hk, hq, hq0, hqk⟩
  refine X_seq ?_
  refine zR ?_
  refine zM ?_
  refine zM ?_
  refine XO_v0 (ev_lenS rfl slt_23) rfl rfl rfl ?_
  refine zC ?_
  refine zN ?_
  refine X_cond rfl (fun hc62 => ?_) (fun hc62 => ?_)
  ·
   have hlt_k : k < n := by have h := hc62; simp at h; omega
   obtain ⟨e0, hx⟩ := hS.at hlt_k
   refine X_skip ?_
   refine at_then ?_
   refine X_seq ?_
   refine X_block ?_
   refine zR ?_
   refine zM ?_
   refine zM ?_
   refine XO_v0 (ev_indexSl rfl rfl slt_23 hS (fun hg => by first | omega | (simp [conj] at hg; omega) | (simp [conj] at hg; have h9 := hso.needs nm hg.2; omega))) rfl rfl rfl ?_
   refine XO_v0 (ev_load rfl sct_3 (fun hg => by first | exact Cell.imm hb5 rfl | exact Sl.get0 hS hx rfl | exact Sl.get hH.1 hy (j := 3) rfl | exact Sl.getD0 hS (d := 0) (k := nm.toNat) (by first | omega | (simp [conj] at hg; omega) | (simp [conj] at hg; have h9 := hso.needs nm hg.2; omega)) rfl | (repeat (first | exact Cell.here rfl | apply Cell.there | apply Cell.app)))) rfl rfl rfl ?_
   refine zM ?_
   refine zC ?_
   refine zN ?_
   refine X_cond rfl (fun hc70 => ?_) (fun hc70 => ?_)
   ·
    have he9 : e0 = d := by simpa using hc70
    refine X_region ?_
    refine zM ?_
    refine zB ?_
    refine zA ?_
    refine XO_nil ?_
    refine at_block_n ?_
    refine at_then ?_
    refine X_region ?_
    refine zM ?_
    refine zB ?_
    refine zA ?_
    refine XO_nil ?_
    exact at_met2 _ _ ⟨n - (k + 1), by omega, k + 1, _, rfl, rfl, rfl, rfl, by omega, by rw [many_snoc hx _, if_pos he9, hq], by omega, by omega⟩ (.cons rfl (.cons rfl (.cons rfl (.cons rfl (.cons rfl (.cons rfl .nil)))))) (by repeat (first | exact .refl | exact subL_left | refine subL_app ?_ | refine .drop ?_ | refine subL_add ?_))
   have he9 : ¬ e0 = d := by simpa using hc70
   refine X_skip ?_
   refine at_block_n ?_
   refine at_then ?_
   refine X_region ?_
   refine zM ?_
   refine zB ?_
   refine zA ?_
   refine XO_nil ?_
   exact at_met2 _ _ ⟨n - (k + 1), by omega, k + 1, _, rfl, rfl, rfl, rfl, by omega, by rw [many_snoc hx _, if_neg he9, hq, Int.add_zero], by omega, by omega⟩ (.cons rfl (.cons rfl (.cons rfl (.cons rfl (.cons rfl (.cons rfl .nil)))))) (by repeat (first | exact .refl | exact subL_left | refine subL_app ?_ | refine .drop ?_ | refine subL_add ?_))
  have hge_k : n ≤ k := by have h := hc62; simp at h; omega
  rw [take_all hlP hge_k] at hq
  refine X_exit ?_
  refine at_then_e ?_
  refine at_then_e ?_
  refine at_block_hit ?_
  refine at_then ?_
  refine zR ?_
  refine zM ?_
  refine zC ?_
  refine zM ?_
  refine XO_pushT 2 rfl rfl rfl ?_
  refine XO_v1 (ev_move rfl) (.some rfl rfl rfl rfl gbt) rfl rfl rfl ?_
  refine XO_v1 (ev_fieldAddr rfl fld_33_1) (.some rfl rfl rfl rfl gbt) rfl rfl rfl ?_
  refine XO_v1 (ev_load rfl sct_3 (fun hg => by first | exact Cell.imm hb5 rfl | exact Sl.get0 hS hx rfl | exact Sl.get hH.1 hy (j := 3) rfl | exact Sl.getD0 hS (d := 0) (k := nm.toNat) (by first | omega | (simp [conj] at hg; omega) | (simp [conj] at hg; have h9 := hso.needs nm hg.2; omega)) rfl | (repeat (first | exact Cell.here rfl | apply Cell.there | apply Cell.app)))) (.some rfl rfl rfl rfl gbt) rfl rfl rfl ?_
  refine XO_v1 (ev_cmp rfl rfl rfl) (.some rfl rfl rfl rfl gbt) rfl rfl rfl ?_
  refine XO_and0 rfl rfl rfl rfl rfl ?_
  refine zA ?_
  refine zN ?_
  refine X_ret ?_
  refine at_block_r ?_
  refine at_then_r ?_
  exact at_ret1 rfl rfl (fun w hw => ⟨by rw [bk_2 h2, ← hq, ← e1], (hw.mono hIc).drop⟩)
 have h2 : r ≠ 2 := by simpa using hc57
 refine zR ?_
 refine zC ?_
 refine zA ?_
 refine zN ?_
 refine X_cond rfl (fun hc81 => ?_) (fun hc81 => ?_)
 ·
  have h3 : r = 3 := by simpa using hc81
  refine zR ?_
  refine zM ?_
  refine XO_v0 (ev_fieldAddr rfl fld_33_2) rfl rfl rfl ?_
  refine XO_v0 (ev_load rfl sct_3 (fun hg => by first | exact Cell.imm hb5 rfl | exact Sl.get0 hS hx rfl | exact Sl.get hH.1 hy (j := 3) rfl | exact Sl.getD0 hS (d := 0) (k := nm.toNat) (by first | omega | (simp [conj] at hg; omega) | (simp [conj] at hg; have h9 := hso.needs nm hg.2; omega)) rfl | (repeat (first | exact Cell.here rfl | apply Cell.there | apply Cell.app)))) rfl rfl rfl ?_
  refine zC ?_
  refine zA ?_
  refine zN ?_
  refine X_ret ?_
  refine at_block_r ?_
  refine at_then_r ?_
  exact at_ret1 rfl rfl (fun w hw => ⟨by rw [bk_3 h3, ← e2], (hw.mono hIc).drop⟩)
 have h3 : r ≠ 3 := by simpa using hc81
 refine zR ?_
 refine zC ?_
 refine zA ?_
 refine zN ?_
 refine X_cond rfl (fun hc87 => ?_) (fun hc87 => ?_)
 ·
  have h4 : r = 4 := by simpa using hc87
  refine zR ?_
  refine zM ?_
  refine XO_v0 (ev_fieldAddr rfl fld_33_3) rfl rfl rfl ?_
  refine XO_v0 (ev_load rfl sct_3 (fun hg => by first | exact Cell.imm hb5 rfl | exact Sl.get0 hS hx rfl | exact Sl.get hH.1 hy (j := 3) rfl | exact Sl.getD0 hS (d := 0) (k := nm.toNat) (by first | omega | (simp [conj] at hg; omega) | (simp [conj] at hg; have h9 := hso.needs nm hg.2; omega)) rfl | (repeat (first | exact Cell.here rfl | apply Cell.there | apply Cell.app)))) rfl rfl rfl ?_
  refine zC ?_
  refine zA ?_
  refine zN ?_
  refine X_ret ?_
  refine at_block_r ?_
  refine at_then_r ?_
  exact at_ret1 rfl rfl (fun w hw => ⟨by rw [bk_4 h4, ← e3], (hw.mono hIc).drop⟩)
 have h4 : r ≠ 4 := by simpa using hc87
 refine zR ?_
 refine zC ?_
 refine zA ?_
 refine zN ?_
 refine X_cond rfl (fun hc93 => ?_) (fun hc93 => ?_)
 ·
  have h5 : r = 5 := by simpa using hc93
  refine zR ?_
  refine XO_v0 (ev_loadA rfl agt_33 (fun hg => by first | exact Cells.immC hb5 | (repeat (first | exact Cells.here | exact Cells.s0 (vs := [_, _, _, _, _, _]) rfl | apply Cells.there | apply Cells.app))) rfl) rfl rfl rfl ?_
  refine zM ?_
  refine zM ?_
  refine zM ?_
  refine XO_callV0 (cap := []) (vs := [_, _, _, _]) rfl rfl fun_133 (w_rRun hC hr h16 h8 hwh hnd hS hl hin d nm hd) rfl rfl ?_
  refine zA ?_
  refine zN ?_
  refine X_ret ?_
  refine at_block_r ?_
  refine at_then_r ?_
  exact at_ret1 rfl rfl (fun w hw => ⟨by rw [bk_5 h5], (hw.mono hIc).drop⟩)
 have h5 : r ≠ 5 := by simpa using hc93
 refine X_skip ?_
 refine at_block_n ?_
 refine at_then ?_
 refine zR ?_
 refine zA ?_
 refine zN ?_
 refine X_ret ?_
 exact at_ret1 rfl rfl (fun w hw => ⟨by rw [bk_0 h1 h2 h3 h4 h5], (hw.mono hIc).drop⟩)
theorem w_rAll {I : HMap} {x : CH} {cr : Cr} (hC : CrAt I x cr) (hr : rightF cr = true) (h16 : cr.days.length ≤ 16) (h8 : cr.ss.length ≤ 8) (hwh : ∀ s ∈ cr.ss, s.who.length ≤ 6) (hnd : ∀ s ∈ cr.ss, s.needs.length ≤ 100000) {av : Option Addr} {n c : Nat} {pl : List Int} (hS : Sl I 1 encI av n c pl) (hl : pl.length ≤ cr.ss.length) (hin : InR cr pl) : RetM Tryz.prog 57 [encCHA x, .slice av n c] I [] (SlRes 4 encPH ((brkL cr pl).map lfH)) := by
 intro g H w hw
 refine enter Tryz.func57 rfl Tryz.ntmps57 rfl hw ?_
 have hIc := HLe.refl I
 obtain ⟨hD, e1, e2, e3, e4, hss⟩ := id hC
 obtain ⟨hs, hH⟩ := hss
 have hSs := hH.1
 have hlD := hD.len
 have hlS := hH.len
 have hlP := hS.len
 refine zR ?_
 refine XO_box rfl rfl rfl (fun b_2 => ?_)
 refine zA ?_
 refine zN ?_
 refine X_seq ?_
 refine X_freeze .here (fun I1 hI1 hb1 => ?_)
 have hC := hC.mono hI1; have hS := hS.mono hI1; have hH := hH.mono hI1; have hD := hD.mono hI1; have hIc := hIc.trans hI1
 have hb2 := ImmC.of hb1
 refine X_region ?_
 refine XO_buildSlice (ps := []) (m := []) elt_35 rfl (.nil) rfl (by simp) (by decide) (by decide) rfl rfl (fun b_10 => ?_)
 refine zA ?_
 refine zN ?_
 refine X_seq ?_
 refine zR ?_
 refine zA ?_
 refine zN ?_
 refine X_block ?_
 refine X_loopT [(1, _), (2, _)] (.cons rfl (.cons rfl .nil)) (fun T L0 mz E I' loc' => ∃ (m : Nat) (v : Value) (q : Nat) (L : Go.Kn.Loc), mz = 6 - m ∧ E = (5, v) :: (6, .int .i64 m) :: T ∧ HLe I1 I' ∧ L = loc' ∧ m ≤ 6 ∧ 1 ≤ m ∧ OwnS 45 4 v q (((allK cr pl m).map lfH).flatMap encPH) L ∧ q ≤ 1024 * m) _ _ _ _ ⟨1, _, 0, _, rfl, rfl, HLe.refl _, rfl, by decide, Nat.le_refl _, by rw [allK_1]; exact OwnS.new, by decide⟩ (.cons rfl (.cons rfl (.cons rfl (.cons rfl .nil)))) (HLe.refl _) rfl ?_
 rintro mz E J2 loc' ⟨m, v, q, L, rfl, rfl, hJ, rfl, hm, hm1, hO, hq⟩
 have hC := hC.mono hJ; have hS := hS.mono hJ; have hH := hH.mono hJ; have hD := hD.mono hJ; have hb2 := hb2.mono hJ; have hIc := hIc.trans hJ
 have hB0 := hJ
 refine X_seq ?_
 refine zR ?_
 refine zM ?_
 refine zC ?_
 refine zN ?_
 refine X_cond rfl (fun hc12 => ?_) (fun hc12 => ?_)
 ·
  have hlt_m : m < 6 := by have h := hc12; simp at h; omega
  have hnl := nums_len h8 (m : Int)
  refine X_skip ?_
  refine at_then ?_
  refine X_seq ?_
  refine X_block ?_
  refine zR ?_
  refine XO_v0 (ev_loadA rfl agt_33 (fun hg => by first | exact Cells.immC hb2 | (repeat (first | exact Cells.here | exact Cells.s0 (vs := [_, _, _, _, _, _]) rfl | apply Cells.there | apply Cells.app))) rfl) rfl rfl rfl ?_
  refine zM ?_
  refine XO_callM (cap := []) (vs := [_, _]) rfl rfl fun_93 .nil (w_rNum hC hr h16 h8 hwh hnd (m : Int)) rfl rfl ?_
  rintro vv3 I3 L3 hI3 ⟨rfl, na, nc, rfl, hL9⟩
  have hC := hC.mono hI3; have hS := hS.mono hI3; have hH := hH.mono hI3; have hD := hD.mono hI3; have hb2 := hb2.mono hI3; have hIc := hIc.trans hI3; have hB0 := hB0.trans hI3
  rw [List.nil_append]
  refine zA ?_
  refine zN (zR ?_)
  refine zA ?_
  refine zN ?_
  refine X_block ?_
  refine X_loopT [(1, _), (2, _), (6, _), (7, _)] (.cons rfl (.cons rfl (.cons rfl (.cons rfl .nil)))) (fun T L0 mz E I' loc' => ∃ (d : Nat) (v : Value) (q : Nat) (L : Go.Kn.Loc), mz = x.n - d ∧ E = (5, v) :: (8, .int .i64 d) :: T ∧ I3 = I' ∧ L = loc' ∧ d ≤ x.n ∧ OwnS 45 4 v q (((allK cr pl m ++ dayK cr pl m d).map lfH).flatMap encPH) L ∧ q ≤ 1024 * m + 64 * d) _ _ _ _ ⟨0, v, q, L, rfl, rfl, rfl, rfl, Nat.zero_le _, by rw [dayK_0, List.append_nil]; exact hO, Nat.le_trans hq (Nat.le_add_right _ _)⟩ (.cons rfl (.cons rfl (.cons rfl (.cons rfl (.cons rfl (.cons rfl .nil)))))) (HLe.refl _) rfl ?_
  rintro mz E I' loc' ⟨d, v, q, L, rfl, rfl, rfl, rfl, hd, hO, hq⟩
  refine X_seq ?_
  refine zR ?_
  refine zM ?_
  refine XO_v0 (ev_fieldAddr rfl fld_33_0) rfl rfl rfl ?_
  refine XO_v0 (ev_load rfl sct_23 (fun hg => by first | exact Cell.imm hb2 rfl | exact Sl.get0 hL9 hw0 rfl | (repeat (first | exact Cell.here rfl | apply Cell.there | apply Cell.app)))) rfl rfl rfl ?_
  refine XO_v0 (ev_lenS rfl slt_23) rfl rfl rfl ?_
  refine zC ?_
  refine zN ?_
  refine X_cond rfl (fun hc22 => ?_) (fun hc22 => ?_)
  ·
   have hlt_d : d < x.n := by have h := hc22; simp at h; omega
   refine X_skip ?_
   refine at_then ?_
   refine X_seq ?_
   refine X_block ?_
   refine X_seq ?_
   refine zR ?_
   refine zM ?_
   refine zM ?_
   refine XO_callV0 (cap := []) (vs := [_, _]) rfl rfl fun_94 (w_rUsd hS (by omega) (d : Int)) rfl rfl ?_
   refine XO_v0 (ev_not rfl) rfl rfl rfl ?_
   refine zN ?_
   refine X_cond rfl (fun hc28 => ?_) (fun hc28 => ?_)
   ·
    have hu : pl.contains (d : Int) = false := by simpa using hc28
    refine X_exit ?_
    refine at_then_e ?_
    refine at_block_hit ?_
    refine at_then ?_
    refine X_region ?_
    refine zM ?_
    refine zB ?_
    refine zA ?_
    refine XO_nil ?_
    first
    | exact at_met2 _ _ ⟨x.n - (d + 1), by omega, d + 1, v, q, L, rfl, rfl, rfl, rfl, by omega, by rw [dayK_no hu]; exact hO, by omega⟩ (.cons rfl (.cons rfl (.cons rfl (.cons rfl (.cons rfl (.cons rfl .nil)))))) (by repeat (first | exact .refl | exact subL_left | refine subL_app ?_ | refine .drop ?_ | refine subL_add ?_))
   have hu : pl.contains (d : Int) = true := by simpa using hc28
   refine X_skip ?_
   refine at_then ?_
   refine zR ?_
   refine zA ?_
   refine zN ?_
   refine X_block ?_
   refine X_loopT [(1, _), (2, _), (6, _), (7, _), (8, _)] (.cons rfl (.cons rfl (.cons rfl (.cons rfl (.cons rfl .nil))))) (fun T L0 mz E I' loc' => ∃ (i : Nat) (v : Value) (q : Nat) (L : Go.Kn.Loc), mz = (numsF cr (m : Int)).length - i ∧ E = (5, v) :: (9, .int .i64 i) :: T ∧ I3 = I' ∧ L = loc' ∧ i ≤ (numsF cr (m : Int)).length ∧ OwnS 45 4 v q (((allK cr pl m ++ dayK cr pl m d ++ rowK cr pl m d ((numsF cr (m : Int)).take i)).map lfH).flatMap encPH) L ∧ q ≤ 1024 * m + 64 * d + i) _ _ _ _ ⟨0, v, q, L, rfl, rfl, rfl, rfl, Nat.zero_le _, by rw [rowK_0, List.append_nil]; exact hO, Nat.le_trans hq (Nat.le_add_right _ _)⟩ (.cons rfl (.cons rfl (.cons rfl (.cons rfl (.cons rfl (.cons rfl (.cons rfl .nil))))))) (HLe.refl _) rfl ?_
   rintro mz E I' loc' ⟨i, v, q, L, rfl, rfl, rfl, rfl, hi, hO, hq⟩
   refine X_seq ?_
   refine zR ?_
   refine zM ?_
   refine zM ?_
   refine XO_v0 (ev_lenS rfl slt_23) rfl rfl rfl ?_
   refine zC ?_
   refine zN ?_
   refine X_cond rfl (fun hc32 => ?_) (fun hc32 => ?_)
   ·
    have hlt_i : i < (numsF cr (m : Int)).length := by have h := hc32; simp at h; omega
    obtain ⟨w0, hw0⟩ := hL9.at hlt_i
    refine X_skip ?_
    refine at_then ?_
    refine X_seq ?_
    refine X_block ?_
    refine X_seq ?_
    refine X_draw mixed (by kernel_rfl) ?_
    refine XQ_v0 (ev_loadA rfl agt_33 (fun hg => by first | exact Cells.immC hb2 | (repeat (first | exact Cells.here | exact Cells.s0 (vs := [_, _, _, _, _, _]) rfl | apply Cells.there | apply Cells.app))) rfl) rfl rfl rfl ?_
    refine XQ_v0 (ev_move rfl) rfl rfl rfl ?_
    refine XQ_v0 (ev_move rfl) rfl rfl rfl ?_
    refine XQ_v0 (ev_move rfl) rfl rfl rfl ?_
    refine XQ_v0 (ev_move rfl) rfl rfl rfl ?_
    refine XQ_v0 (ev_move rfl) rfl rfl rfl ?_
    refine XQ_v0 (ev_indexSl rfl rfl slt_23 hL9 (fun hg => by first | omega | (simp [conj] at hg; omega))) rfl rfl rfl ?_
    refine XQ_v0 (ev_load rfl sct_3 (fun hg => by first | exact Cell.imm hb2 rfl | exact Sl.get0 hL9 hw0 rfl | (repeat (first | exact Cell.here rfl | apply Cell.there | apply Cell.app)))) rfl rfl rfl ?_
    refine XQ_callV0 (cap := []) (vs := [_, _, _, _, _]) rfl rfl fun_95 (w_rBrk hC hr h16 h8 hwh hnd hS hl hin (m : Int) (d : Int) w0 ⟨by omega, by omega⟩) rfl rfl ?_
    refine XQ_nil ?_
    refine at_then ?_
    refine X_cond rfl (fun hc43 => ?_) (fun hc43 => ?_)
    ·
     have hb : brk cr pl ⟨(m : Int), (d : Int), w0⟩ = true := hc43
     refine X_region ?_
     refine zM ?_
     refine zM ?_
     refine zM ?_
     refine zM ?_
     refine zM ?_
     refine XO_v0 (ev_indexSl rfl rfl slt_23 hL9 (fun hg => by first | omega | (simp [conj] at hg; omega))) rfl rfl rfl ?_
     refine XO_v0 (ev_load rfl sct_3 (fun hg => by first | exact Cell.imm hb2 rfl | exact Sl.get0 hL9 hw0 rfl | (repeat (first | exact Cell.here rfl | apply Cell.there | apply Cell.app)))) rfl rfl rfl ?_
     refine XO_v0 (ev_buildL (ps := [(0, _), (1, _), (2, _)]) [_, _, _, _] plt_45 rfl rfl) rfl rfl rfl ?_
     refine XO_buildSlice (ps := [(0, _)]) (m := [encPH (lfH ⟨(m : Int), (d : Int), w0⟩)]) elt_35 rfl (.cons rfl (.nil)) rfl (by simp [encPH_len]) (by decide) (by decide) rfl rfl (fun b_52 => ?_)
     refine XO_append (v := _) (ys := [lfH ⟨(m : Int), (d : Int), w0⟩].flatMap encPH) (L := L) rfl rfl elt_35 hO (by repeat (first | exact .cons .here .nil | exact split_all | exact split_app | apply split_cons | apply split_skip)) ⟨rfl, fun _ => rfl, by repeat (first | exact Cells.here | apply Cells.there | apply Cells.app)⟩ (one_PH _) (by omega) rfl rfl ?_
     intro v9 L9 hO9 _; rw [← List.flatMap_append, ← lf_snoc] at hO9
     refine zA ?_
     refine XO_nil ?_
     refine at_block_n ?_
     refine at_then ?_
     refine X_region ?_
     refine zM ?_
     refine zB ?_
     refine zA ?_
     refine XO_nil ?_
     first
     | exact at_met2 _ _ ⟨(numsF cr (m : Int)).length - (i + 1), by omega, i + 1, v9, q + 1, L9, rfl, rfl, rfl, rfl, by omega, by rw [rowK_yes hw0 hb, ← List.append_assoc]; exact hO9, by omega⟩ (.cons rfl (.cons rfl (.cons rfl (.cons rfl (.cons rfl (.cons rfl (.cons rfl .nil))))))) (by repeat (first | exact .refl | exact subL_left | refine subL_app ?_ | refine .drop ?_ | refine subL_add ?_))
    have hb : brk cr pl ⟨(m : Int), (d : Int), w0⟩ = false := hc43
    refine X_skip ?_
    refine at_block_n ?_
    refine at_then ?_
    refine X_region ?_
    refine zM ?_
    refine zB ?_
    refine zA ?_
    refine XO_nil ?_
    first
    | exact at_met2 _ _ ⟨(numsF cr (m : Int)).length - (i + 1), by omega, i + 1, v, q, L, rfl, rfl, rfl, rfl, by omega, by rw [rowK_no hw0 hb, List.append_assoc]; rw [List.append_assoc] at hO; exact hO, by omega⟩ (.cons rfl (.cons rfl (.cons rfl (.cons rfl (.cons rfl (.cons rfl (.cons rfl .nil))))))) (by repeat (first | exact .refl | exact subL_left | refine subL_app ?_ | refine .drop ?_ | refine subL_add ?_))
   have hge_i : (numsF cr (m : Int)).length ≤ i := by have h := hc32; simp at h; omega
   rw [List.take_of_length_le hge_i] at hO
   refine X_exit ?_
   refine at_then_e ?_
   refine at_then_e ?_
   refine at_block_hit ?_
   refine at_block_n ?_
   refine at_then ?_
   refine X_region ?_
   refine zM ?_
   refine zB ?_
   refine zA ?_
   refine XO_nil ?_
   first
   | exact at_met2 _ _ ⟨x.n - (d + 1), by omega, d + 1, v, q, L, rfl, rfl, rfl, rfl, by omega, by rw [dayK_yes hu, ← List.append_assoc]; exact hO, day_b hq (by omega)⟩ (.cons rfl (.cons rfl (.cons rfl (.cons rfl (.cons rfl (.cons rfl .nil)))))) (by repeat (first | exact .refl | exact subL_left | refine subL_app ?_ | refine .drop ?_ | refine subL_add ?_))
  have hge_d : x.n ≤ d := by have h := hc22; simp at h; omega
  have hdn : d = x.n := by omega
  subst hdn
  refine X_exit ?_
  refine at_then_e ?_
  refine at_then_e ?_
  refine at_block_hit ?_
  refine at_block_n ?_
  refine at_then ?_
  refine X_region ?_
  refine zM ?_
  refine zB ?_
  refine zA ?_
  refine XO_nil ?_
  exact at_met2 _ _ ⟨6 - (m + 1), by omega, m + 1, v, q, L, rfl, rfl, hB0, rfl, by omega, by omega, by rw [allK_succ, hlD]; exact hO, by omega⟩ (.cons rfl (.cons rfl (.cons rfl (.cons rfl .nil)))) (by repeat (first | exact .refl | exact subL_left | refine subL_app ?_ | refine .drop ?_ | refine subL_add ?_))
 have hge_m : m = 6 := by have h := hc12; simp at h; omega
 subst hge_m
 rw [allK_eq hr h8 hin] at hO
 refine X_exit ?_
 refine at_then_e ?_
 refine at_then_e ?_
 refine at_block_hit ?_
 refine at_then ?_
 refine zR ?_
 refine zM ?_
 refine zA ?_
 refine zN ?_
 refine X_ret ?_
 exact at_ret1 rfl rfl (fun w hw => by obtain ⟨I9, h91, h92, h93⟩ := OwnS.res hO encPH_len (by decide) hw; exact ⟨_, I9, [], rfl, hIc.trans h91, h92, h93⟩)
theorem w_rFir {I : HMap} {x : CH} {cr : Cr} (hC : CrAt I x cr) (hr : rightF cr = true) (h16 : cr.days.length ≤ 16) (h8 : cr.ss.length ≤ 8) (hwh : ∀ s ∈ cr.ss, s.who.length ≤ 6) (hnd : ∀ s ∈ cr.ss, s.needs.length ≤ 100000) {av : Option Addr} {n c : Nat} {pl : List Int} (hS : Sl I 1 encI av n c pl) (hl : pl.length ≤ cr.ss.length) (hin : InR cr pl) : RetM Tryz.prog 98 [encCHA x, .slice av n c] I [] (fun v I' L' => L' = [] ∧ v = .tuple #[encPHA (firH cr pl), .bool (firO cr pl)]) := by
 intro g H w hw
 refine enter Tryz.func98 rfl Tryz.ntmps98 rfl hw ?_
 have hIc := HLe.refl I
 obtain ⟨hD, e1, e2, e3, e4, hss⟩ := id hC
 obtain ⟨hs, hH⟩ := hss
 have hSs := hH.1
 have hlD := hD.len
 have hlS := hH.len
 have hlP := hS.len
 refine zR ?_
 refine XO_box rfl rfl rfl (fun b_2 => ?_)
 refine XO_alloc zt_45 rfl rfl (fun b_4 => ?_)
 refine zA ?_
 refine zN ?_
 refine X_seq ?_
 refine X_freeze (.there .here) (fun I1 hI1 hb1 => ?_)
 have hC := hC.mono hI1; have hS := hS.mono hI1; have hH := hH.mono hI1; have hD := hD.mono hI1; have hIc := hIc.trans hI1
 have hb2 := ImmC.of hb1
 refine X_region ?_
 refine XO_v0 (ev_loadA rfl agt_33 (fun hg => by first | exact Cells.immC hb2 | exact Sl.getA hB9 hb0 | (repeat (first | exact Cells.here | exact Cells.s0 (vs := [_, _, _, _, _, _]) rfl | apply Cells.there | apply Cells.app))) rfl) rfl rfl rfl ?_
 refine zM ?_
 refine XO_callM (cap := []) (vs := [_, _]) rfl rfl fun_57 .nil (w_rAll hC hr h16 h8 hwh hnd hS hl hin) rfl rfl ?_
 rintro vv2 I2 L2 hI2 ⟨rfl, ba, bc, rfl, hB9⟩
 have hC := hC.mono hI2; have hS := hS.mono hI2; have hH := hH.mono hI2; have hD := hD.mono hI2; have hb2 := hb2.mono hI2; have hIc := hIc.trans hI2
 rw [List.nil_append]
 refine zA ?_
 refine zN ?_
 refine X_seq ?_
 refine zR ?_
 refine zM ?_
 refine XO_v0 (ev_lenS rfl slt_35) rfl rfl rfl ?_
 refine zC ?_
 refine zN ?_
 refine X_cond rfl (fun hc12 => ?_) (fun hc12 => ?_)
 ·
  have hnil : brkL cr pl = [] := by cases e9 : brkL cr pl with | nil => rfl | cons b l => rw [e9] at hc12; simp at hc12; omega
  refine zR ?_
  refine XO_v0 (ev_buildL (ps := []) [_, _, _, _] plt_45 rfl rfl) rfl rfl rfl ?_
  refine XO_storeA rfl rfl szt_45 rfl rfl rfl rfl (by repeat (first | exact Upd.here | apply Upd.there | apply upd_app)) ?_
  refine zA ?_
  refine zN ?_
  refine X_ret ?_
  refine at_then_r ?_
  first
  | (have hg9 := hnil; exact at_ret2A rfl rfl rfl agt_45 (Cells.here (vs := encPH ⟨0, 0, 0, none, 0, 0⟩)) rfl (fun w hw => ⟨_, I2, [], rfl, hIc, hw.drop, rfl, by rw [(fir_nil hnil).1, (fir_nil hnil).2]; rfl⟩))
 obtain ⟨b0, l0, hbl0⟩ : ∃ b l, brkL cr pl = b :: l := by cases e9 : brkL cr pl with | nil => rw [e9] at hc12; simp at hc12 | cons b l => exact ⟨b, l, rfl⟩
 have hb0 : ((brkL cr pl).map lfH)[0]? = some (lfH b0) := by rw [hbl0]; rfl
 have hbn : 0 < ((brkL cr pl).map lfH).length := by rw [hbl0]; simp
 refine X_skip ?_
 refine at_then ?_
 refine zR ?_
 refine zM ?_
 refine XO_v0 (ev_indexSl rfl rfl slt_35 hB9 (fun hg => by first | omega | (simp [conj] at hg; omega))) rfl rfl rfl ?_
 refine XO_v0 (ev_loadA rfl agt_45 (fun hg => by first | exact Cells.immC hb2 | exact Sl.getA hB9 hb0 | (repeat (first | exact Cells.here | exact Cells.s0 (vs := [_, _, _, _]) rfl | apply Cells.there | apply Cells.app))) rfl) rfl rfl rfl ?_
 refine XO_storeA rfl rfl szt_45 rfl rfl rfl rfl (by repeat (first | exact Upd.here | apply Upd.there | apply upd_app)) ?_
 refine zA ?_
 refine zN ?_
 refine X_ret ?_
 first
 | exact at_ret2A rfl rfl rfl agt_45 (Cells.here (vs := encPH (lfH b0))) rfl (fun w hw => ⟨_, I2, [], rfl, hIc, hw.drop, rfl, by rw [(fir_cons hbl0).1, (fir_cons hbl0).2]; rfl⟩)
end Go.Proofs.YtehkiccapbkhnaaGreat
end
section
namespace Go.Proofs.YtehkiccapbkhnaaGreat
open Go Go.Kn Go.Proofs
/-- What refute hands back: the proof, or nothing where there is a plan. -/
def RfKid (c : Cr) (last f : Nat) (pl : List Int) (h : PH) (fd : Bool) (I : HMap) : Prop := (fd = true ∧ (srch c last f pl).2 = none ∧ PrAt I h (srch c last f pl).1) ∨ (fd = false ∧ (∃ x, (srch c last f pl).2 = some x) ∧ h = ⟨0, 0, 0, none, 0, 0⟩)
def RfQ (c : Cr) (last f : Nat) (pl : List Int) : Value → HMap → Go.Kn.Loc → Prop := fun v I' L' => L' = [] ∧ ∃ (h : PH) (fd : Bool), v = .tuple #[encPHA h, .bool fd] ∧ RfKid c last f pl h fd I'
theorem RfKid.yes {c : Cr} {last f : Nat} {pl : List Int} {h : PH} {I : HMap} (H : RfKid c last f pl h true I) : (srch c last f pl).2 = none ∧ PrAt I h (srch c last f pl).1 := by
  rcases H with ⟨_, h2, h3⟩ | ⟨h1, _⟩
  · exact ⟨h2, h3⟩
  · cases h1
theorem RfKid.no {c : Cr} {last f : Nat} {pl : List Int} {h : PH} {I : HMap} (H : RfKid c last f pl h false I) : (∃ x, (srch c last f pl).2 = some x) ∧ h = ⟨0, 0, 0, none, 0, 0⟩ := by
  rcases H with ⟨h1, _⟩ | ⟨_, h2⟩
  · cases h1
  · exact h2
theorem RfQ.no {c : Cr} {last f : Nat} {pl x : List Int} {I : HMap} (h : (srch c last f pl).2 = some x) : RfQ c last f pl (.tuple #[encPHA ⟨0, 0, 0, none, 0, 0⟩, .bool false]) I [] := ⟨rfl, _, _, rfl, .inr ⟨rfl, ⟨x, h⟩, rfl⟩⟩
theorem RfQ.yes {c : Cr} {last f : Nat} {pl : List Int} {I : HMap} {h : PH} (hs : (srch c last f pl).2 = none) (hP : PrAt I h (srch c last f pl).1) : RfQ c last f pl (.tuple #[encPHA h, .bool true]) I [] := ⟨rfl, _, _, rfl, .inl ⟨rfl, hs, hP⟩⟩
/-- A proof's rule in the specification's words. -/
theorem proves_rule {c : Cr} (hc : rightF c = true) {last r d w : Int} {ks : List Pr} {pl : List Int} {kn : Nat} (hk : ks.length = kn) (hr0 : (r != 0) = true) :
    (((((((kn : Int) == 0) && decide (d ≥ 0)) && decide (d < (c.days.length : Int))) && decide (w ≥ 0)) && decide (w < 64)) && brk c pl ⟨r, d, w⟩) = provesF c last (.mk r d w ks) pl := by
  rw [provesF, if_pos hr0, contains_brk hc]
  rw [show ((kn : Int) == 0) = (ks.length == 0) from nat_beq0 hk]
  simp only [Bool.and_assoc]
theorem RefQ.of {c : Cr} {last : Int} {I : HMap} {h : PH} {fd : Bool} (h0 : lastE c last = 0) (H : RfKid c last.toNat c.ss.length [] h fd I) : RefQ c last (.tuple #[encPHA h, .bool fd, .int .i64 0]) I [] := by
  rcases H with ⟨rfl, h2, h3⟩ | ⟨rfl, ⟨x, h2⟩, rfl⟩
  · exact RefQ.good h0 h2 h3
  · exact RefQ.found h0 h2
end Go.Proofs.YtehkiccapbkhnaaGreat
end
section
namespace Go.Proofs.YtehkiccapbkhnaaGreat
open Go Go.Kn Go.Proofs
theorem fun_98 : Fun Tryz.prog 98 := .of Tryz.func98 (by kernel_rfl) (by kernel_rfl)
end Go.Proofs.YtehkiccapbkhnaaGreat
end
