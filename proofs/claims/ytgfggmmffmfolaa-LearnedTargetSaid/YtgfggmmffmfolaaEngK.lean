/- Arrays of two ints compared; loads at an element's start. Generic over the program. -/
import Derived.Test.YtgfggmmffmfolaaEngJ
import Derived.ChangeKeysEq
namespace Go.Kn
open Go
theorem at_noP {C : Cx} {Q : Exit → Act → World → Prop} {E : Env} {I : HMap} {loc : Loc} (h : At C Q .normal E I loc) : At C (noP Q) .normal E I loc := h
section
variable {C : Cx} {S : GS} {E : Env} {I : HMap} {loc : Loc} {dst : Option Nat} {ty : Nat} {pos : String} {af : Array Edge} {gd : Option (Nat × Bool)} {x y : Operand}
theorem Sl.get0 {α : Type} {size : Nat} {enc : α → List Value} {av : Option Addr} {n c : Nat} {xs : List α} (h : Sl I size enc av n c xs) {k : Nat} {x : α} {u : Value} (hx : xs[k]? = some x) (hu : (enc x)[0]? = some u) : Cell I loc (Ab av) (Ao av + k * size) u :=
  Sl.get h (j := 0) hx hu
theorem strEq_self (a : ByteArray) : strEq a a = true := strEq_iff.2 rfl
/-- The type t is an array of two ints. -/
theorem Sl.getD0 {size : Nat} {enc : Int → List Value} {av : Option Addr} {n c : Nat} {xs : List Int} (h : Sl I size enc av n c xs) {k : Nat} {d : Int} {u : Value} (hk : k < n) (hu : (enc (xs.getD k d))[0]? = some u) : Cell I loc (Ab av) (Ao av + k * size) u :=
  h.get0 (x := xs.getD k d) (by have : k < xs.length := by rw [h.len]; exact hk
                                simp [List.getD, this]) hu
def Ar2 (P : Program) (t e : Nat) (k : IntKind) : Prop := P.underlying t = some (.array 2 e) ∧ (P.info? e).isSome = true ∧ P.cellsOf e = 1 ∧ P.underlying e = some (.int k) ∧ P.eqGuardType P.depth t = false
theorem run_ar2 {P : Program} {t e : Nat} {k : IntKind} (hT : Ar2 P t e k) (w : World) (a b a' b' : Int) (d : Nat) :
    (Op.equalIn (d + 2) t (.agg #[.int k a, .int k b]) (.agg #[.int k a', .int k b'])).run P w = .ok (a == a' && b == b') w := by
  obtain ⟨hu, hi, hc, he, _⟩ := hT
  obtain ⟨i, hi⟩ := Option.isSome_iff_exists.1 hi
  have hag : ∀ w : World, (isAgg e).run P w = .ok false w := fun w => run_isAgg_sc ⟨_, he, trivial⟩
  have hp : ∀ (w : World) (xs : Array Value) (q : Nat) (u : Value), xs[q]? = some u → (part e xs q).run P w = .ok u w := fun w xs q u h => by
    simp only [part, Sem.run_bind, hag, Result.andThen, Bool.false_eq_true, if_false, h, Sem.run_pure]
  rw [run_equalIn_array w (d + 1) _ _ hu hi, hc]
  simp only [List.range, List.range.loop, Op.eqItems, Sem.run_bind, Nat.zero_mul, Nat.one_mul]
  rw [hp w _ 0 (.int k a) rfl]; simp only [Result.andThen_ok, Sem.run_bind]
  rw [hp w _ 0 (.int k a') rfl]; simp only [Result.andThen_ok, Sem.run_bind]
  rw [run_equalIn_int w d e k k a a' he]; simp only [Result.andThen_ok, Sem.run_bind]
  cases h1 : (a == a')
  · rfl
  · simp only [Bool.not_true, Bool.false_eq_true, if_false, Sem.run_bind]
    rw [hp w _ 1 (.int k b) rfl]; simp only [Result.andThen_ok, Sem.run_bind]
    rw [hp w _ 1 (.int k b') rfl]; simp only [Result.andThen_ok, Sem.run_bind]
    rw [run_equalIn_int w d e k k b b' he]
    cases h2 : (b == b') <;> rfl
theorem ev_neA2 {t t' e : TypeId} {k : IntKind} {a b a' b' : Int} (hx : evalS S E x = some (.agg #[.int k a, .int k b])) (hy : evalS S E y = some (.agg #[.int k a', .int k b'])) (hT : Ar2 C.P t e k) : EvalOp C S E I loc ⟨dst, .binOp .neq t x y t', ty, pos, af, gd⟩ (.bool (!(a == a' && b == b'))) :=
  .of (by intro c e; cases e) fun st w ha hg hc _ => by
    simp only [execOp, evalS_sound ha hg hc hx, evalS_sound ha hg hc hy, Sem.run_bind, run_eqGuard_agg w _ _ _ _ _ _ hT.2.2.2.2, Result.andThen, run_neq_struct, run_ar2 hT w a b a' b' 9998, Sem.run_pure]
theorem ev_eqA2 {t t' e : TypeId} {k : IntKind} {a b a' b' : Int} (hx : evalS S E x = some (.agg #[.int k a, .int k b])) (hy : evalS S E y = some (.agg #[.int k a', .int k b'])) (hT : Ar2 C.P t e k) : EvalOp C S E I loc ⟨dst, .binOp .eql t x y t', ty, pos, af, gd⟩ (.bool (a == a' && b == b')) :=
  .of (by intro c e; cases e) fun st w ha hg hc _ => by
    simp only [execOp, evalS_sound ha hg hc hx, evalS_sound ha hg hc hy, Sem.run_bind, run_eqGuard_agg w _ _ _ _ _ _ hT.2.2.2.2, Result.andThen, run_eql_struct, run_ar2 hT w a b a' b' 9998, Sem.run_pure]
end
/-! ### A guard that is known to say yes; a block that is read from now on -/
theorem XO_want {C : Cx} {Q : Exit → Act → World → Prop} {E : Env} {I : HMap} {loc : Loc} {ops : Array Oper} {rest : List Oper} {dst : Option Nat} {op : Op} {ty : Nat} {pos : String} {af : Array Edge} {j dj : Nat} {want : Bool} {oj : Oper}
    (hj : ops[j]? = some oj) (hd : oj.dst = some dj) (hl : look E dj = some (.bool want)) (h : XO C Q ops (⟨dst, op, ty, pos, af, none⟩ :: rest) [] E I loc) : XO C Q ops (⟨dst, op, ty, pos, af, some (j, want)⟩ :: rest) [] E I loc := by
  intro a w ha hg hw
  have h1 := h a w ha hg hw
  have hG : Guarded ops [(true, [])] E ⟨dst, op, ty, pos, af, some (j, want)⟩ := .some rfl hj hd (by simpa [topLook, lookS] using hl) (by simp)
  have hwt := hG.wanted ha (show FitsG [(true, [])] a from ⟨(fun _ _ e => by cases e), trivial⟩)
  simp only [wpListIn] at h1 ⊢
  rw [hwt]
  rw [(Guarded.none rfl : Guarded ops [] E ⟨dst, op, ty, pos, af, none⟩).wanted ha trivial] at h1
  exact h1
theorem XO_freeze {C : Cx} {Q : Exit → Act → World → Prop} {E : Env} {S : GS} {I : HMap} {loc loc' : Loc} {ops : Array Oper} {rest : List Oper} {b : Nat} {o : Obj} (ht : Take loc b o loc') (h : ∀ I', HLe I I' → I' b = some o → XO C Q ops rest S E I' loc') : XO C Q ops rest S E I loc := fun a w ha hg hw =>
  let ⟨h1, h2, h3⟩ := hw.freeze ht; h _ h2 h3 a w ha hg h1
theorem flat_at {α : Type} {enc : α → List Value} {size : Nat} (hs : ∀ x, (enc x).length = size) : ∀ (xs : List α) (k : Nat) (x : α), xs[k]? = some x → ∀ (j : Nat) (u : Value), (enc x)[j]? = some u → (xs.flatMap enc)[k * size + j]? = some u
  | [], k, x, hx, _, _, _ => by simp at hx
  | y :: ys, 0, x, hx, j, u, hu => by
    simp at hx; subst hx
    have hj := (List.getElem?_eq_some_iff.1 hu).1
    rw [List.flatMap_cons, Nat.zero_mul, Nat.zero_add, List.getElem?_append_left hj]; exact hu
  | y :: ys, k + 1, x, hx, j, u, hu => by
    rw [List.flatMap_cons, Nat.add_mul, Nat.one_mul, List.getElem?_append_right (by rw [hs]; omega), hs, show k * size + size + j - size = k * size + j from by omega]
    exact flat_at hs ys k x (by simpa using hx) j u hu
/-- A slice written out, read from now on. -/
theorem Sl.lit {α : Type} {I : HMap} {size : Nat} {enc : α → List Value} {b n : Nat} {t : TypeId} (xs : List α) (hn : xs.length = n) (hs : ∀ x, (enc x).length = size) (hb : I b = some (.cells (xs.flatMap enc).toArray t (0, 0))) : Sl I size enc (some ⟨b, 0, none⟩) n n xs :=
  ⟨hn, Nat.le_refl _, fun _ => rfl, fun k x hx j u hu => Cell.imm hb (by
    rw [lget_eq]
    have := flat_at hs xs k x hx j u hu
    simpa [Ao] using this)⟩
/-! ### A filter that is built up; blocks in the middle -/
theorem fil_yes {α : Type} {e size : Nat} {enc : α → List Value} {xs : List α} {k m : Nat} {x : α} {p : α → Bool} {v : Value} {L : Loc} (hx : xs[k]? = some x) (hp : p x = true) (hO : OwnS e size v m (((xs.take k).filter p).flatMap enc ++ [enc x].flatten) L) : OwnS e size v m (((xs.take (k + 1)).filter p).flatMap enc) L := by
  rw [filter_step hx, if_pos hp, List.flatMap_append]; simpa using hO
theorem fil_no {α : Type} {e size : Nat} {enc : α → List Value} {xs : List α} {k m : Nat} {x : α} {p : α → Bool} {v : Value} {L : Loc} (hx : xs[k]? = some x) (hp : p x = false) (hO : OwnS e size v m (((xs.take k).filter p).flatMap enc) L) : OwnS e size v m (((xs.take (k + 1)).filter p).flatMap enc) L := by
  rw [filter_step hx, if_neg (by rw [hp]; exact Bool.false_ne_true), List.append_nil]; exact hO
theorem fil_end {α : Type} {xs : List α} {k : Nat} {p : α → Bool} (hk : xs.length ≤ k) : (xs.take k).filter p = xs.filter p := by rw [List.take_of_length_le hk]
theorem fil_pre {α : Type} {xs : List α} {k : Nat} {x : α} {p : α → Bool} (hx : xs[k]? = some x) (hp : p x = true) : (xs.take k).filter p ++ [x] <+: xs.filter p := by
  have : (xs.take k).filter p ++ [x] = (xs.take (k + 1)).filter p := by rw [filter_step hx, if_pos hp]
  rw [this]
  exact (List.take_prefix (k + 1) xs).filter p
theorem split_mid {A B : Loc} : ∀ {L : Loc}, Split (A ++ (L ++ B)) L (A ++ B)
  | [] => .nil
  | (_, _) :: _ => .cons take_right split_mid
theorem split_all {L : Loc} : Split L L [] := by
  have := split_app (A := L) (B := [])
  rwa [List.append_nil] at this
theorem subL_nil {L : Loc} : SubL [] L := subL_left (L := [])
theorem subL_app {L A B : Loc} (h : SubL A B) : SubL (L ++ A) (L ++ B) := by
  induction L with
  | nil => exact h
  | cons x l ih => exact .keep ih
theorem SubL.tr {A B D : Loc} (h : SubL A B) (h2 : SubL B D) : SubL A D := by
  induction h2 generalizing A with
  | refl => exact h
  | drop _ ih => exact .drop (ih h)
  | keep h3 ih => cases h with
    | refl => exact .keep h3
    | drop h4 => exact .drop (ih h4)
    | keep h4 => exact .keep (ih h4)
theorem Cell.app {I : HMap} {A B : Loc} {b off : Nat} {v : Value} (h : Cell I B b off v) : Cell I (A ++ B) b off v := by
  induction A with
  | nil => exact h
  | cons x l ih => exact .there ih
theorem Cell.lft {I : HMap} {A B : Loc} {b off : Nat} {v : Value} (h : Cell I A b off v) : Cell I (A ++ B) b off v := by
  obtain ⟨cs, t, fz, hm, hv⟩ := h
  exact ⟨cs, t, fz, hm.imp id (fun h => List.mem_append_left _ h), hv⟩
theorem at_metH2 {C : Cx} {Q : Exit → Act → World → Prop} {E : Env} {I : HMap} {loc : Loc} {M : Env → HMap → HMap → Loc → Prop} {C' : Cx} (hN : C'.N = C.N) (hD : C'.D = C.D) (hg : C'.g = C.g) (E' : Env) (loc' : Loc) (hM : M E' I C.H loc') (hE : Sub E' E) (hs : SubL loc' loc) : At C (Exit.then (MetH C' M) Q) .normal E I loc :=
  fun _ _ ha hw => ⟨E', I, C.H, loc', hM, by rw [hN, hD]; exact ha.sub hE, by rw [hg]; exact hw.subL hs⟩
theorem at_round_ret2 {α : Type} {C : Cx} {E : Env} {I : HMap} {loc loc' : Loc} {Jc : List α → HMap → Loc → Prop} {Jx : Code → List α → HMap → Loc → Prop} {pre : List α} (h : Jx .ret pre I loc') (hs : SubL loc' loc) : At C (RoundQ C.g C.H Jc Jx pre) .ret E I loc := fun _ _ _ hw => ⟨I, loc', h, hw.subL hs⟩
theorem any_pre {α : Type} {pre xs : List α} {p : α → Bool} (h : pre <+: xs) (ha : pre.any p = true) : xs.any p = true := by
  obtain ⟨t, rfl⟩ := h
  rw [List.any_append, ha]; rfl
theorem any_snoc {α : Type} {pre : List α} {x : α} {p : α → Bool} (h : pre.any p = false) : (pre ++ [x]).any p = p x := by
  rw [List.any_append, h]; simp
theorem at_norm {C : Cx} {P : Program} {fn : Func} {R : Ending → World → Prop} {E : Env} {I : HMap} {loc : Loc} (h : At C (bodyPost P fn R) .ret E I loc) : At C (bodyPost P fn R) .normal E I loc := h
theorem OwnS.one {e size n : Nat} {v : Value} {xs : List Value} {L : Loc} (h : OwnS e size v n xs L) : v.oneCell' = true := by
  rcases h.2 with ⟨rfl, _, _⟩ | ⟨b, c, cur, rfl, _⟩ <;> rfl
theorem OwnS.freeze' {α : Type} {e size : Nat} {enc : α → List Value} {v : Value} {n : Nat} {xs : List α} {L : Loc} (hO : OwnS e size v n (xs.flatMap enc) L) (hs : ∀ x, (enc x).length = size) (hsz : 0 < size) {g : World} {I H : HMap} {w : World} (hw : St g I H L w) :
    ∃ I', HLe I I' ∧ St g I' H [] w ∧ ∃ av c, v = .slice av n c ∧ Sl I' size enc av n c xs := by
  obtain ⟨I', av, c, h1, h2, h3, h4⟩ := OwnS.freeze (R := []) hO hs hsz (by rw [List.append_nil]; exact hw)
  exact ⟨I', h1, h2, av, c, h3, h4⟩
theorem OwnS.shape {e size n : Nat} {v : Value} {xs : List Value} {L : Loc} (h : OwnS e size v n xs L) : ∃ av c, v = .slice av n c := by
  rcases h.2 with ⟨rfl, rfl, _⟩ | ⟨b, c, cur, rfl, _⟩
  · exact ⟨_, _, rfl⟩
  · exact ⟨_, _, rfl⟩
theorem at_round2 {α : Type} {C : Cx} {E : Env} {I : HMap} {loc loc' : Loc} {Jc : List α → HMap → Loc → Prop} {Jx : Code → List α → HMap → Loc → Prop} {pre : List α} (h : Jc pre I loc') (hs : SubL loc' loc) : At C (RoundQ C.g C.H Jc Jx pre) .normal E I loc := fun _ _ _ hw => ⟨I, loc', h, hw.subL hs⟩
/-- A range's step and the question whether there was one. -/
theorem XO_next2 {α β : Type} {ek : α → Value} {ev : β → Value} {m : List (α × β)} {C : Cx} {Q : Exit → Act → World → Prop} {E : Env} {I : HMap} {loc : Loc} {ops : Array Oper} {rest : List Oper} {x : Operand} {ty ty2 : TypeId} {pos pos2 : String} {af af2 : Array Edge} {gd gd2 : Option (Nat × Bool)}
    {d d2 r b : Nat} {seen : List Nat} (F : List Nat → Loc) (hF : F seen = loc) (hU : ∀ s', Upd loc b (iterO r m.length seen) (iterO r m.length s') (F s')) (hx : evalS [] E x = some (.pointer (some ⟨b, 0, none⟩))) (hG : gd = none) (hG2 : gd2 = none) (hN : Nat.blt d C.N = true) (hN2 : Nat.blt d2 C.N = true)
    (hm : Mem I loc r (mapO ek ev m)) (hb : (b, iterO r m.length seen) ∈ loc)
    (h : ∀ (t : Bool) (tv : Value) (s' : List Nat), (t = false → s' = seen ∧ ∀ i p, m[i]? = some p → i ∈ seen) → (t = true → ∃ i p, m[i]? = some p ∧ i ∉ seen ∧ s' = seen ++ [i]) → XO C Q ops rest [] ((d2, .bool t) :: (d, tv) :: E) I (F s')) :
    XO C Q ops (⟨some d, .next x false, ty, pos, af, gd⟩ :: ⟨some d2, .extract (.tmp d) 0, ty2, pos2, af2, gd2⟩ :: rest) [] E I loc := by
  have top : ∀ v, evalS [] ((d, v) :: E) (.tmp d) = some v := fun v => by simp [evalS, lookS, look]
  refine XO_next hx hG hN hm hb (fun hall => ?_) (fun i p hp hns => ⟨F (seen ++ [i]), hU _, ?_⟩)
  · rw [← hF]
    exact XO_v0 (ev_extract (top _) rfl) hG2 rfl hN2 (h false _ seen (fun _ => ⟨rfl, hall⟩) (fun e => by cases e))
  · exact XO_v0 (ev_extract (top _) rfl) hG2 rfl hN2 (h true _ _ (fun e => by cases e) (fun _ => ⟨i, p, hp, hns, rfl⟩))
theorem seen_lt {α : Type} {m : List α} {seen : List Nat} (hnd : seen.Nodup) (hlt : ∀ i ∈ seen, i < m.length) : seen.length ≤ m.length := by
  have := List.Nodup.length_le_of_subset hnd (l₂ := List.range m.length) (fun i hi => List.mem_range.2 (hlt i hi))
  simpa using this
theorem seen_perm {α : Type} {m : List α} {seen : List Nat} (hnd : seen.Nodup) (hlt : ∀ i ∈ seen, i < m.length) (hall : ∀ i (p : α), m[i]? = some p → i ∈ seen) : seen.Perm (List.range m.length) :=
  (List.perm_ext_iff_of_nodup hnd List.nodup_range).2 fun i => ⟨fun h => List.mem_range.2 (hlt i h), fun h => by
    have hi := List.mem_range.1 h
    exact hall i m[i] (List.getElem?_eq_getElem hi)⟩
theorem range_all {α : Type} : ∀ (m : List α), (List.range m.length).filterMap (fun i => m[i]?) = m
  | [] => rfl
  | x :: m => by
    rw [List.length_cons, List.range_succ_eq_map, List.filterMap_cons]
    simp only [List.getElem?_cons_zero, List.filterMap_map, Function.comp_def, List.getElem?_cons_succ]
    rw [range_all m]
/-- '[2]int{a, b}'. -/
theorem ev_build2 {C : Cx} {S : GS} {E : Env} {I : HMap} {loc : Loc} {dst : Option Nat} {ty : Nat} {pos : String} {af : Array Edge} {gd : Option (Nat × Bool)} {t e : Nat} {z1 z2 : Value} {x y : Operand} {a b : Int}
    (hA : Ar2 C.P t e .i64) (hz : ZeroT C.P t (.agg #[z1, z2])) (hx : evalS S E x = some (.int .i64 a)) (hy : evalS S E y = some (.int .i64 b)) :
    EvalOp C S E I loc ⟨dst, .build t #[(0, x), (1, y)], ty, pos, af, gd⟩ (.agg #[.int .i64 a, .int .i64 b]) :=
  .of (by intro c e; cases e) fun st w ha hg hc hw => by
    obtain ⟨hu, hi, hcl, he, _⟩ := hA
    obtain ⟨i, hi⟩ := Option.isSome_iff_exists.1 hi
    have hsz : ∀ w : World, (sizeOf e).run C.P w = .ok 1 w := fun w => by have h1 := Go.run_sizeOf (w := w) hi; rw [hcl] at h1; exact h1
    simp only [execOp, Instr.build, Sem.run_bind, run_zeroValue hz, Result.andThen, run_underlying hu, hsz, List.map_toArray, List.map_cons, List.map_nil, evalS_sound ha hg hc hx, evalS_sound ha hg hc hy]
    rfl
/-! ### Keys that are structs of two ints -/
def encK2 (p : Int × Int) : Value := .agg #[.int .i64 p.1, .int .i64 p.2]
theorem flat_two {P : Program} {l : List Field} (h : flatKs P l 0 = some [.int, .int]) : ∃ f1 f2, l = [f1, f2] ∧ f1.name ≠ "_" ∧ f1.offset = 0 ∧ (∃ k, P.underlying f1.type = some (.int k)) ∧ f2.name ≠ "_" ∧ f2.offset = 1 ∧ ∃ k, P.underlying f2.type = some (.int k) := by
  have kind : ∀ t, kindOf P t = some .int → ∃ k, P.underlying t = some (.int k) := fun t h => by
    unfold kindOf at h
    split at h <;> first | (rename_i k hk; exact ⟨k, hk⟩) | cases h
  have step : ∀ (l : List Field) (k : Nat) (ks : List EqK), flatKs P l k = some (.int :: ks) → ∃ f r, l = f :: r ∧ f.name ≠ "_" ∧ f.offset = k ∧ (∃ q, P.underlying f.type = some (.int q)) ∧ flatKs P r (k + 1) = some ks := by
    intro l k ks h
    cases l with
    | nil => simp [flatKs] at h
    | cons f r =>
      simp only [flatKs] at h
      split at h
      · rename_i hn
        split at h
        · rename_i q l h1 h2
          simp only [Option.some.injEq, List.cons.injEq] at h
          obtain ⟨rfl, rfl⟩ := h
          exact ⟨f, r, rfl, hn.1, hn.2, kind _ h1, h2⟩
        · cases h
      · cases h
  obtain ⟨f1, r1, rfl, a1, a2, a3, h1⟩ := step _ _ _ h
  obtain ⟨f2, r2, rfl, b1, b2, b3, h2⟩ := step _ _ _ h1
  cases r2 with
  | nil => exact ⟨f1, f2, rfl, a1, a2, a3, b1, b2, b3⟩
  | cons f r => simp only [flatKs] at h2; split at h2 <;> (try split at h2) <;> cases h2
theorem key_two {P : Program} {t : Nat} (hT : EqT P t [.int, .int]) : KeyOK (α := Int × Int) P t encK2 := by
  refine .of_asking hT.1 (fun b a w => ?_) (fun a => by simp [encK2, Instr.sameBits]) (fun a b => rfl) (fun a b w => ?_)
  · obtain ⟨f1, f2, hl, a1, a2, ⟨k1, a3⟩, b1, b2, ⟨k2, b3⟩⟩ := flat_two hT.2.2.2
    have hfs : P.fieldsOf t = #[f1, f2] := by rw [← Array.toArray_toList (xs := P.fieldsOf t), hl]
    have pt : ∀ (f : Field) (q : Nat) (k : IntKind) (cs : Array Value) (v : Value) (w : World), P.underlying f.type = some (.int k) → cs[q]? = some v → (part f.type cs q).run P w = .ok v w := fun f q k cs v w h hv => by
      simp only [part, Sem.run_bind, run_isAgg_sc ⟨_, h, trivial⟩, Result.andThen, Bool.false_eq_true, if_false, hv, Sem.run_pure]
    have ck : ∀ (f : Field) (k : IntKind) (x : Int) (w : World) (q : Nat), P.underlying f.type = some (.int k) → (Instr.checkKey b (q + 1) f.type (.int .i64 x)).run P w = .ok () w := fun f k x w q h => by
      simp only [Instr.checkKey, Sem.run_bind, run_underlying h, Result.andThen]; rfl
    have key : ∀ q, (Instr.checkKey b (q + 2) t (encK2 a)).run P w = .ok () w := fun q => by
      unfold Instr.checkKey
      simp only [encK2, Sem.run_bind, run_underlying hT.1, Result.andThen, hfs]
      simp [a1, b1, a2, b2, Sem.run_bind, pt f1 0 k1 #[.int .i64 a.1, .int .i64 a.2] _ w a3 rfl, pt f2 1 k2 #[.int .i64 a.1, .int .i64 a.2] _ w b3 rfl, ck f1 k1 _ _ _ a3, ck f2 k2 _ _ _ b3, Result.andThen]
    exact key 9998
  · have := run_eqFields (P := P) (w := w) 9998 _ _ 0 [] [.int .i64 a.1, .int .i64 a.2] [] [.int .i64 b.1, .int .i64 b.2] _ hT.2.2.2 rfl rfl rfl
    simp only [List.nil_append] at this
    have e : (Op.equal t (encK2 a) (encK2 b)).run P w = .ok (a.1 == b.1 && (a.2 == b.2 && true)) w := by
      simp only [Op.equal, Op.maxDepth, encK2, run_equalIn_struct w 9999 t _ _ hT.1 hT.2.1, this]
    rw [e]
    congr 1
    obtain ⟨a1, a2⟩ := a; obtain ⟨b1, b2⟩ := b
    by_cases h1 : a1 = b1 <;> by_cases h2 : a2 = b2 <;> simp [h1, h2]
end Go.Kn
