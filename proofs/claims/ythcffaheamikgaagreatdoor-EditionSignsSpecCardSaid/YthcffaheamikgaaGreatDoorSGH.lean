/- editionSignsSpec_holds, part H of the proof: what its theorems say holds without further conditions. -/
import Derived.Test.YthcffaheamikgaaGreatDoorRows
import Derived.Test.YthcffaheamikgaaGreatDoorCards
import Derived.Test.YthcffaheamikgaaGreatDoorTie
import Derived.LaidMore
import Derived.Stop.Joined
import Derived.SevenTiedAt
import Derived.Test.YthcffaheamikgaaGreatDoorSGG
namespace Go.Proofs.YthcffaheamikgaaGreatDoor
section
open Go Go.Kn Go.Proofs
open Go.ChangeShapes Go.WideShapes Go.ChangeAt Go.RowKit
set_option maxRecDepth 100000
theorem ostr_44 : Tryz.prog.underlying 44 = some (.struct (Tryz.prog.fieldsOf 44)) := by kernel_rfl
theorem ound_32 : Tryz.prog.underlying 32 = some (.slice 44) := by kernel_rfl
theorem ostr_48 : Tryz.prog.underlying 48 = some (.struct (Tryz.prog.fieldsOf 48)) := by kernel_rfl
theorem ostr_46 : Tryz.prog.underlying 46 = some (.struct (Tryz.prog.fieldsOf 46)) := by kernel_rfl
theorem ostr_51 : Tryz.prog.underlying 51 = some (.struct (Tryz.prog.fieldsOf 51)) := by kernel_rfl
theorem ound_52 : Tryz.prog.underlying 52 = some (.slice 51) := by kernel_rfl
theorem ostr_54 : Tryz.prog.underlying 54 = some (.struct (Tryz.prog.fieldsOf 54)) := by kernel_rfl
theorem ound_31 : Tryz.prog.underlying 31 = some (.slice 54) := by kernel_rfl
theorem ound_23 : Tryz.prog.underlying 23 = some (.slice 3) := by kernel_rfl
theorem ostr_34 : Tryz.prog.underlying 34 = some (.struct (Tryz.prog.fieldsOf 34)) := by kernel_rfl
theorem el_em {H : Type} {enc : TypeId × Value → H} {W : World} (fuel : Nat) (cs : List Value) (x : DataW H × List MemPlace) (h : DataW.trod enc Tryz.prog W 0 (fun _ => true) true fuel 44 cs = some x) : ∃ y : Em, (fun _ => True) y ∧ encEm y = cs := by
 obtain ⟨hl, n0_, f0⟩ := trod_seg (C := 3) ostr_44 (by kernel_rfl) h
 match cs, hl with
 | [c0, c1, c2], _ =>
  obtain ⟨_, g0_0⟩ := f0 0 3 0 1 (by kernel_rfl) (by kernel_rfl)
  obtain ⟨n0, e0, _, w0⟩ := DataW.trod_int ound_3 (show DataW.trod enc Tryz.prog W 0 (fun _ => true) true n0_ 3 [c0] = some _ from g0_0)
  obtain ⟨_, g0_1⟩ := f0 1 3 1 1 (by kernel_rfl) (by kernel_rfl)
  obtain ⟨n1, e1, _, w1⟩ := DataW.trod_int ound_3 (show DataW.trod enc Tryz.prog W 0 (fun _ => true) true n0_ 3 [c1] = some _ from g0_1)
  obtain ⟨_, g0_2⟩ := f0 2 3 2 1 (by kernel_rfl) (by kernel_rfl)
  obtain ⟨n2, e2, _, w2⟩ := DataW.trod_int ound_3 (show DataW.trod enc Tryz.prog W 0 (fun _ => true) true n0_ 3 [c2] = some _ from g0_2)
  cases e0; cases e1; cases e2
  exact ⟨⟨n0, n1, n2⟩, trivial, rfl⟩
theorem el_rd {H : Type} {enc : TypeId × Value → H} {W : World} (fuel : Nat) (cs : List Value) (x : DataW H × List MemPlace) (h : DataW.trod enc Tryz.prog W 0 (fun _ => true) true fuel 51 cs = some x) : ∃ y : Rd, (fun _ => True) y ∧ encRd y = cs := by
 obtain ⟨hl, n0_, f0⟩ := trod_seg (C := 15) ostr_51 (by kernel_rfl) h
 match cs, hl with
 | [c0, c1, c2, c3, c4, c5, c6, c7, c8, c9, c10, c11, c12, c13, c14], _ =>
  obtain ⟨_, g0_0⟩ := f0 0 4 0 1 (by kernel_rfl) (by kernel_rfl)
  obtain ⟨n0, e0, _⟩ := DataW.trod_bool ound_4 (show DataW.trod enc Tryz.prog W 0 (fun _ => true) true n0_ 4 [c0] = some _ from g0_0)
  obtain ⟨_, g0_1⟩ := f0 1 48 1 14 (by kernel_rfl) (by kernel_rfl)
  obtain ⟨_, n1_, f1⟩ := trod_seg (C := 14) ostr_48 (by kernel_rfl) (show DataW.trod enc Tryz.prog W 0 (fun _ => true) true n0_ 48 [c1, c2, c3, c4, c5, c6, c7, c8, c9, c10, c11, c12, c13, c14] = some _ from g0_1)
  obtain ⟨_, g1_0⟩ := f1 0 3 0 1 (by kernel_rfl) (by kernel_rfl)
  obtain ⟨n1, e1, _, w1⟩ := DataW.trod_int ound_3 (show DataW.trod enc Tryz.prog W 0 (fun _ => true) true n1_ 3 [c1] = some _ from g1_0)
  obtain ⟨_, g1_1⟩ := f1 1 3 1 1 (by kernel_rfl) (by kernel_rfl)
  obtain ⟨n2, e2, _, w2⟩ := DataW.trod_int ound_3 (show DataW.trod enc Tryz.prog W 0 (fun _ => true) true n1_ 3 [c2] = some _ from g1_1)
  obtain ⟨_, g1_2⟩ := f1 2 3 2 1 (by kernel_rfl) (by kernel_rfl)
  obtain ⟨n3, e3, _, w3⟩ := DataW.trod_int ound_3 (show DataW.trod enc Tryz.prog W 0 (fun _ => true) true n1_ 3 [c3] = some _ from g1_2)
  obtain ⟨_, g1_3⟩ := f1 3 3 3 1 (by kernel_rfl) (by kernel_rfl)
  obtain ⟨n4, e4, _, w4⟩ := DataW.trod_int ound_3 (show DataW.trod enc Tryz.prog W 0 (fun _ => true) true n1_ 3 [c4] = some _ from g1_3)
  obtain ⟨_, g1_4⟩ := f1 4 3 4 1 (by kernel_rfl) (by kernel_rfl)
  obtain ⟨n5, e5, _, w5⟩ := DataW.trod_int ound_3 (show DataW.trod enc Tryz.prog W 0 (fun _ => true) true n1_ 3 [c5] = some _ from g1_4)
  obtain ⟨_, g1_5⟩ := f1 5 3 5 1 (by kernel_rfl) (by kernel_rfl)
  obtain ⟨n6, e6, _, w6⟩ := DataW.trod_int ound_3 (show DataW.trod enc Tryz.prog W 0 (fun _ => true) true n1_ 3 [c6] = some _ from g1_5)
  obtain ⟨_, g1_6⟩ := f1 6 3 6 1 (by kernel_rfl) (by kernel_rfl)
  obtain ⟨n7, e7, _, w7⟩ := DataW.trod_int ound_3 (show DataW.trod enc Tryz.prog W 0 (fun _ => true) true n1_ 3 [c7] = some _ from g1_6)
  obtain ⟨_, g1_7⟩ := f1 7 3 7 1 (by kernel_rfl) (by kernel_rfl)
  obtain ⟨n8, e8, _, w8⟩ := DataW.trod_int ound_3 (show DataW.trod enc Tryz.prog W 0 (fun _ => true) true n1_ 3 [c8] = some _ from g1_7)
  obtain ⟨_, g1_8⟩ := f1 8 3 8 1 (by kernel_rfl) (by kernel_rfl)
  obtain ⟨n9, e9, _, w9⟩ := DataW.trod_int ound_3 (show DataW.trod enc Tryz.prog W 0 (fun _ => true) true n1_ 3 [c9] = some _ from g1_8)
  obtain ⟨_, g1_9⟩ := f1 9 3 9 1 (by kernel_rfl) (by kernel_rfl)
  obtain ⟨n10, e10, _, w10⟩ := DataW.trod_int ound_3 (show DataW.trod enc Tryz.prog W 0 (fun _ => true) true n1_ 3 [c10] = some _ from g1_9)
  obtain ⟨_, g1_10⟩ := f1 10 46 10 2 (by kernel_rfl) (by kernel_rfl)
  obtain ⟨_, n2_, f2⟩ := trod_seg (C := 2) ostr_46 (by kernel_rfl) (show DataW.trod enc Tryz.prog W 0 (fun _ => true) true n1_ 46 [c11, c12] = some _ from g1_10)
  obtain ⟨_, g2_0⟩ := f2 0 3 0 1 (by kernel_rfl) (by kernel_rfl)
  obtain ⟨n11, e11, _, w11⟩ := DataW.trod_int ound_3 (show DataW.trod enc Tryz.prog W 0 (fun _ => true) true n2_ 3 [c11] = some _ from g2_0)
  obtain ⟨_, g2_1⟩ := f2 1 3 1 1 (by kernel_rfl) (by kernel_rfl)
  obtain ⟨n12, e12, _, w12⟩ := DataW.trod_int ound_3 (show DataW.trod enc Tryz.prog W 0 (fun _ => true) true n2_ 3 [c12] = some _ from g2_1)
  obtain ⟨_, g1_11⟩ := f1 11 46 12 2 (by kernel_rfl) (by kernel_rfl)
  obtain ⟨_, n3_, f3⟩ := trod_seg (C := 2) ostr_46 (by kernel_rfl) (show DataW.trod enc Tryz.prog W 0 (fun _ => true) true n1_ 46 [c13, c14] = some _ from g1_11)
  obtain ⟨_, g3_0⟩ := f3 0 3 0 1 (by kernel_rfl) (by kernel_rfl)
  obtain ⟨n13, e13, _, w13⟩ := DataW.trod_int ound_3 (show DataW.trod enc Tryz.prog W 0 (fun _ => true) true n3_ 3 [c13] = some _ from g3_0)
  obtain ⟨_, g3_1⟩ := f3 1 3 1 1 (by kernel_rfl) (by kernel_rfl)
  obtain ⟨n14, e14, _, w14⟩ := DataW.trod_int ound_3 (show DataW.trod enc Tryz.prog W 0 (fun _ => true) true n3_ 3 [c14] = some _ from g3_1)
  cases e0; cases e1; cases e2; cases e3; cases e4; cases e5; cases e6; cases e7; cases e8; cases e9; cases e10; cases e11; cases e12; cases e13; cases e14
  exact ⟨⟨n0, ⟨n1, n2, n3, n4, n5, n6, n7, n8, n9, n10, n11, n12, n13, n14⟩⟩, trivial, rfl⟩
theorem el_wt {H : Type} {enc : TypeId × Value → H} {W : World} (fuel : Nat) (cs : List Value) (x : DataW H × List MemPlace) (h : DataW.trod enc Tryz.prog W 0 (fun _ => true) true fuel 54 cs = some x) : ∃ y : Wt, (fun w => ∃ rs, Sl (heapI W) 15 encRd w.a w.n w.c rs) y ∧ encW y = cs := by
 obtain ⟨hl, n0_, f0⟩ := trod_seg (C := 3) ostr_54 (by kernel_rfl) h
 match cs, hl with
 | [c0, c1, c2], _ =>
  obtain ⟨_, g0_0⟩ := f0 0 3 0 1 (by kernel_rfl) (by kernel_rfl)
  obtain ⟨n0, e0, _, w0⟩ := DataW.trod_int ound_3 (show DataW.trod enc Tryz.prog W 0 (fun _ => true) true n0_ 3 [c0] = some _ from g0_0)
  obtain ⟨_, g0_1⟩ := f0 1 3 1 1 (by kernel_rfl) (by kernel_rfl)
  obtain ⟨n1, e1, _, w1⟩ := DataW.trod_int ound_3 (show DataW.trod enc Tryz.prog W 0 (fun _ => true) true n0_ 3 [c1] = some _ from g0_1)
  obtain ⟨_, g0_2⟩ := f0 2 52 2 1 (by kernel_rfl) (by kernel_rfl)
  obtain ⟨a2, m2, q2, n2, e2, s2, o2, _⟩ := open_SlT (t := 52) (e := 51) encRd (fun _ : Rd => True) ound_52 (by kernel_rfl) (by decide) encRd_len (fun fuel cs x h => el_rd fuel cs x h) (show DataW.trod enc Tryz.prog W 0 (fun _ => true) true n0_ 52 [c2] = some _ from g0_2)
  cases e0; cases e1; cases e2
  exact ⟨⟨n0, n1, a2, m2, q2⟩, ⟨n2, s2⟩, rfl⟩
theorem wits {I : HMap} : ∀ (ws : List Wt), (∀ w ∈ ws, ∃ rs, Sl I 15 encRd w.a w.n w.c rs) → ∃ xs : List Wr, ws.length = xs.length ∧ ∀ (k : Nat) (w : Wt) (x : Wr), ws[k]? = some w → xs[k]? = some x → w.no = x.no ∧ w.yr = x.yr ∧ Sl I 15 encRd w.a w.n w.c x.rs
 | [], _ => ⟨[], rfl, fun k w x h => by simp at h⟩
 | y :: ws, H => by
  obtain ⟨xs, hl, hv⟩ := wits ws fun w hw => H w (List.mem_cons_of_mem _ hw)
  obtain ⟨rs, h0⟩ := H y (List.mem_cons_self ..)
  refine ⟨⟨y.no, y.yr, rs⟩ :: xs, by simp [hl], fun k w x a b => ?_⟩
  cases k with
  | zero => cases a; cases b; exact ⟨rfl, rfl, h0⟩
  | succ k => exact hv k w x a b
structure EdS where
 no : Int
 a1 : Option Addr
 n1 : Nat
 c1 : Nat
 a2 : Option Addr
 n2 : Nat
 c2 : Nat
 a3 : Option Addr
 n3 : Nat
 c3 : Nat
def encES (e : EdS) : List Value := encEd e.no e.a1 e.n1 e.c1 e.a2 e.n2 e.c2 e.a3 e.n3 e.c3
def encESA (e : EdS) : Value := .agg (encES e).toArray
theorem el_ed {H : Type} {enc : TypeId × Value → H} {W : World} (fuel : Nat) (cs : List Value) (x : DataW H × List MemPlace) (h : DataW.trod enc Tryz.prog W 0 (fun _ => true) true fuel 34 cs = some x) : ∃ y : EdS, (fun e => (∃ xs, Sl (heapI W) 1 encI e.a1 e.n1 e.c1 xs) ∧ (∃ es, Sl (heapI W) 3 encEm e.a2 e.n2 e.c2 es) ∧ ∃ rd, Sl (heapI W) 1 encI e.a3 e.n3 e.c3 rd) y ∧ encES y = cs := by
 obtain ⟨hl, n0_, f0⟩ := trod_seg (C := 4) ostr_34 (by kernel_rfl) h
 match cs, hl with
 | [c0, c1, c2, c3], _ =>
  obtain ⟨_, g0_0⟩ := f0 0 3 0 1 (by kernel_rfl) (by kernel_rfl)
  obtain ⟨n0, e0, _, w0⟩ := DataW.trod_int ound_3 (show DataW.trod enc Tryz.prog W 0 (fun _ => true) true n0_ 3 [c0] = some _ from g0_0)
  obtain ⟨_, g0_1⟩ := f0 1 23 1 1 (by kernel_rfl) (by kernel_rfl)
  obtain ⟨a1, m1, q1, n1, e1, s1, o1, _⟩ := open_SlT (t := 23) (e := 3) encI (fun n : Int => -9223372036854775808 ≤ n ∧ n ≤ 9223372036854775807) ound_23 (by kernel_rfl) (by decide) encI_len (fun fuel cs x h => el_int ound_3 rfl fuel cs x h) (show DataW.trod enc Tryz.prog W 0 (fun _ => true) true n0_ 23 [c1] = some _ from g0_1)
  obtain ⟨_, g0_2⟩ := f0 2 32 2 1 (by kernel_rfl) (by kernel_rfl)
  obtain ⟨a2, m2, q2, n2, e2, s2, o2, _⟩ := open_SlT (t := 32) (e := 44) encEm (fun _ : Em => True) ound_32 (by kernel_rfl) (by decide) encEm_len (fun fuel cs x h => el_em fuel cs x h) (show DataW.trod enc Tryz.prog W 0 (fun _ => true) true n0_ 32 [c2] = some _ from g0_2)
  obtain ⟨_, g0_3⟩ := f0 3 23 3 1 (by kernel_rfl) (by kernel_rfl)
  obtain ⟨a3, m3, q3, n3, e3, s3, o3, _⟩ := open_SlT (t := 23) (e := 3) encI (fun n : Int => -9223372036854775808 ≤ n ∧ n ≤ 9223372036854775807) ound_23 (by kernel_rfl) (by decide) encI_len (fun fuel cs x h => el_int ound_3 rfl fuel cs x h) (show DataW.trod enc Tryz.prog W 0 (fun _ => true) true n0_ 23 [c3] = some _ from g0_3)
  cases e0; cases e1; cases e2; cases e3
  exact ⟨⟨n0, a1, m1, q1, a2, m2, q2, a3, m3, q3⟩, ⟨⟨n1, s1⟩, ⟨n2, s2⟩, ⟨n3, s3⟩⟩, rfl⟩
theorem open_ed {H : Type} {enc : TypeId × Value → H} {W : World} {base : Nat} {v : Value} {d : DataW H} {p : List MemPlace} (hv : Value.okWide Tryz.prog W .any base 34 v) (h : DataW.Trod enc Tryz.prog W 0 (fun _ => true) true 34 v d p) : ∃ y : EdS, v = encESA y ∧ (fun e => (∃ xs, Sl (heapI W) 1 encI e.a1 e.n1 e.c1 xs) ∧ (∃ es, Sl (heapI W) 3 encEm e.a2 e.n2 e.c2 es) ∧ ∃ rd, Sl (heapI W) 1 encI e.a3 e.n3 e.c3 rd) y := by
 obtain ⟨cs, rfl, _⟩ := okWide_struct ostr_34 hv
 obtain ⟨fuel, hf⟩ := h
 obtain ⟨l⟩ := cs
 obtain ⟨y, hy, e⟩ := el_ed fuel l _ hf
 exact ⟨y, by rw [← e]; rfl, hy⟩
set_option maxRecDepth 100000 in
theorem open_sw {H : Type} {enc : TypeId × Value → H} {W : World} {base : Nat} {v : Value} {d : DataW H} {p : List MemPlace} (hv : Value.okWide Tryz.prog W .any base 31 v) (h : DataW.Trod enc Tryz.prog W 0 (fun _ => true) true 31 v d p) :
  ∃ av n c xs, v = .slice av n c ∧ SlW (heapI W) av n c xs ∧ n ≤ 9223372036854775807 := by
 obtain ⟨av, n, c, ws, e, hS, hok, hm⟩ := open_Sl (e := 54) encW (fun w => ∃ rs, Sl (heapI W) 15 encRd w.a w.n w.c rs) ound_31 (by kernel_rfl) (by decide) encW_len (fun fuel cs x h => el_wt fuel cs x h) hv h
 obtain ⟨xs, hl, hx⟩ := wits ws hok
 exact ⟨av, n, c, xs, e, ⟨ws, hS, hl, hx⟩, Nat.le_trans hS.cap hm⟩
end
section
open Go Go.Kn Go.Proofs
open Go.ChangeShapes Go.WideShapes Go.ChangeAt Go.RowKit
theorem own : ownKnob Tryz.prog.godebug = none := by kernel_rfl
theorem laidOut : laidOutB Tryz.prog = true := by kernel_rfl
set_option maxRecDepth 100000 in
theorem editionSignsSpec_lifted (os : Os) (started : os.Started) (H : Type) (enc : TypeId × Value → H) :
  ReturnsInHanded {} Tryz.checked os 4 .any (fun w args => (Rows.editionSignsSpecSpec.pre enc Tryz.prog Tryz.f4 [] false w args ∧ laidMetH Tryz.prog laid2 w) ∧ sizedMet enc Tryz.prog Tryz.f4 (OpenSpec.ofChange Rows.editionSignsSpecSpec) false w args)
   (Rows.editionSignsSpecSpec.post enc Tryz.prog Tryz.f4 false true false false) := by
 refine returnsInHanded_of_change_and (C := Tryz.checked) (X := fun w _ => laidMetH Tryz.prog laid2 w) (fun _ _ _ hh h => h.of_heap hh) own started (by kernel_rfl) Tryz.func4
  (ChangeSpec.witness_shaped (enc := enc) (C := Tryz.checked) (os := os) (X := fun w _ => laidMetH Tryz.prog laid2 w) false (World.doorLaid Tryz.prog 400 os) #[.slice none 0 0, .slice none 0 0, .agg #[.int .i64 0, .slice none 0 0, .slice none 0 0, .slice none 0 0]] 8 rfl (World.shaped_of_RefB (by kernel_rfl) (by kernel_rfl)) (by kernel_rfl) (by kernel_rfl) (by kernel_rfl) (door_met os _)) ?_
 intro W base args ds gs before hval0 hW _ _ hL _
 have hval : ∀ (j : Nat) t v, Tryz.f4.params[j]? = some t → args[j]? = some v → Value.okWide Tryz.prog W .any base t v := hval0
 have hW' := hW
 obtain ⟨p, q, hA0, hV, rfl, hfz, hnd⟩ := hW
 have hA : DataW.TrodAll enc Tryz.prog W 0 (fun _ => true) true Tryz.f4.params.toList args.toList ds p := hA0
 rw [Tryz.params4] at hA hval
 obtain ⟨v0, vs1, d0, ds1, p0, q1, ea, rfl, rfl, h0, hA⟩ := trodAll_cons hA
 obtain ⟨v1, vs2, d1, ds2, p1, q2, rfl, rfl, rfl, h1, hA⟩ := trodAll_cons hA
 obtain ⟨v2, vs3, d2, ds3, p2, q3, rfl, rfl, rfl, h2, hA⟩ := trodAll_cons hA
 obtain ⟨rfl, rfl, rfl⟩ := trodAll_nil hA
 have ea' : args = #[v0, v1, v2] := by rw [← Array.toArray_toList (xs := args), ea]
 subst ea'
 obtain ⟨rfl, rfl⟩ := trodVars_none hV
 have hDb := deb_of hL
 obtain ⟨wv, nw, cw, ws, rfl, hW0, hbig⟩ := open_sw (hval 0 31 v0 rfl rfl) h0
 obtain ⟨bv, n2, c2, rows, rfl, hV, hbg⟩ := open_nest (hval 1 22 v1 rfl rfl) h1
 obtain ⟨ed, rfl, ⟨xs, hX1⟩, ⟨es, hX2⟩, ⟨rd, hX3⟩⟩ := open_ed (hval 2 34 v2 rfl rfl) h2
 refine (RetV.law (w_signsSpec hW0 hbig hV hX1 hX2 hX3 hDb ed.no)).mono fun e W' ⟨he, hB⟩ => ?_
 subst he
 exact ⟨_, rfl, post_law laidOut (by kernel_rfl) ound_4 rfl rfl (by rw [Tryz.params4]; simp only [List.mem_cons, List.not_mem_nil, or_false, forall_eq_or_imp, forall_eq]; exact ⟨⟨by kernel_rfl, of_decide_eq_true (by kernel_rfl)⟩, ⟨by kernel_rfl, of_decide_eq_true (by kernel_rfl)⟩, ⟨by kernel_rfl, of_decide_eq_true (by kernel_rfl)⟩⟩) hW' hB⟩
theorem editionSignsSpec_row : Rows.EditionSignsSpecSaid :=
 OpenClaim.holds_of_wide 4 Tryz.f4 rfl rfl rfl rfl rfl rfl rfl ⟨rfl, rfl, rfl, rfl, rfl⟩ rfl rfl rfl rfl rfl (by kernel_rfl) Tryz.func4 (by kernel_rfl)
  (of_decide_eq_true (by kernel_rfl)) (by unfold Func.isWrapper; first | (rw [if_pos (by decide +kernel)]; kernel_rfl) | (rw [if_neg (by decide +kernel)]; exact ⟨rfl, rfl⟩))
  (fun os started H enc _ => editionSignsSpec_lifted os started H enc)
theorem editionSignsSpec_holds : Rows.EditionSignsSpecCardSaid :=
 Claim7.holds_tied_plain_at .later [] [.data, .data] true (true, "8f6ee23c1fbf9c3664c8020e2566c908858422a5d72b5389ec7f99027414c650") false
  editionSignsSpec_row (fun _ h => by cases h) (by kernel_rfl) (fun _ h => by cases h) editionSignsSpec_row_tie rfl ⟨rfl, rfl⟩ (by kernel_rfl) rfl
  (fun f fn hf hfn => by
   obtain rfl : f = 4 := Option.some.inj ((show Tryz.prog.funcNamed "kinesphere/kinespherelaw43.EditionSignsSpec" = some 4 by kernel_rfl).symm.trans hf) |>.symm
   obtain rfl : fn = Tryz.f4 := (Option.some.inj (Tryz.func4.symm.trans hfn)).symm
   exact ⟨by kernel_rfl, fun j t ht => by
    rw [Tryz.params4] at ht
    have hm : t ∈ [31, 22, 34] := by simpa using Array.mem_of_getElem? ht
    have hall : ([31, 22, 34].all fun u => !Tryz.prog.wantsStandIn u) = true := by kernel_rfl
    exact (show Tryz.prog.wantsStandIn t = false by simpa using List.all_eq_true.1 hall t hm)⟩)
  (by kernel_rfl)
#print axioms editionSignsSpec_holds
end
end Go.Proofs.YthcffaheamikgaaGreatDoor
