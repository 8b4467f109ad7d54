/- topRooms_holds, part B of the proof: what its theorems say holds without further conditions. -/
import Derived.Laws.MakeOwn
import Derived.Sort.Row
import Derived.Sort.Grow
import Derived.Test.YtoicbikdenlioaaGreatProg
import Derived.KernelRfl
import Derived.Lib.Hide
import Derived.Test.YtoicbikdenlioaaGreatTRA
section
namespace Go.Kn
open Go
section
variable {C : Cx} {Q : Exit → Act → World → Prop} {E E' : Env} {I I' : HMap} {loc loc' L R : Loc} {ops : Array Oper} {rest : List Oper} {S : GS}
variable {dst : Option Tmp} {d : Nat} {ty : TypeId} {pos : String} {af : Array Edge} {gd : Option (Nat × Bool)} {x y z : Operand} {a b : Int}
theorem ev_neg {t : TypeId} (hx : evalS S E x = some (.int .i64 a)) : EvalOp C S E I loc ⟨dst, .unOp .neg t x, ty, pos, af, gd⟩ (.int .i64 (IntKind.i64.wrap (0 - a))) :=
  .of (by intro c e; cases e) fun ac w ha hg hc _ => by
    simp only [execOp, evalS_sound ha hg hc hx]; rfl
def minI (a b : Int) : Int := if b < a then b else a
def maxI (a b : Int) : Int := if b > a then b else a
theorem ev_min {k : IntKind} {ats : Array TypeId} (hx : evalS S E x = some (.int k a)) (hy : evalS S E y = some (.int k b)) : EvalOp C S E I loc ⟨dst, .call ⟨.builtin .min, #[x, y], ats⟩, ty, pos, af, gd⟩ (.int k (minI a b)) :=
  .of (by intro c e; cases e) fun ac w ha hg hc hw => by
    simp only [execOp, resolve, List.map_toArray, List.map_cons, List.map_nil, evalS_sound ha hg hc hx, evalS_sound ha hg hc hy, Sem.run_bind, Sem.run_pure, Result.andThen, invoke, builtin]; rfl
theorem ev_max {k : IntKind} {ats : Array TypeId} (hx : evalS S E x = some (.int k a)) (hy : evalS S E y = some (.int k b)) : EvalOp C S E I loc ⟨dst, .call ⟨.builtin .max, #[x, y], ats⟩, ty, pos, af, gd⟩ (.int k (maxI a b)) :=
  .of (by intro c e; cases e) fun ac w ha hg hc hw => by
    simp only [execOp, resolve, List.map_toArray, List.map_cons, List.map_nil, evalS_sound ha hg hc hx, evalS_sound ha hg hc hy, Sem.run_bind, Sem.run_pure, Result.andThen, invoke, builtin]; rfl
/-- A place of an array that is a value: of one cell; of several. -/
theorem ev_index {t e n size : Nat} {k : IntKind} {cs : List Value} {i : Int} {v : Value} (hx : evalS S E x = some (.agg cs.toArray)) (hy : evalS S E y = some (.int k i)) (hT : ArT C.P t n e size) (hS : ScT C.P e) (hb : conj S = true → 0 ≤ i ∧ i < (n : Int)) (hv : conj S = true → cs[i.toNat * size]? = some v) :
    EvalOp C S E I loc ⟨dst, .index t x y, ty, pos, af, gd⟩ v :=
  .of (by intro c e; cases e) fun ac w ha hg hc _ => by
    obtain ⟨h1, j, h2, h3⟩ := hT
    have h4 : cs.toArray[i.toNat * size]? = some v := by simpa using hv hc
    simp only [execOp, evalS_sound ha hg hc hx, evalS_sound ha hg hc hy, Instr.index, asIntOf, Sem.run_bind, Sem.run_pure, run_underlying h1, Result.andThen, if_pos (hb hc), run_sizeOf h2, h3, part, run_isAgg_sc hS, Bool.false_eq_true, if_false, h4]
theorem ev_indexAg {t e n size : Nat} {k : IntKind} {cs : List Value} {i : Int} (hx : evalS S E x = some (.agg cs.toArray)) (hy : evalS S E y = some (.int k i)) (hT : ArT C.P t n e size) (hA : AgT C.P e size) (hb : conj S = true → 0 ≤ i ∧ i < (n : Int)) :
    EvalOp C S E I loc ⟨dst, .index t x y, ty, pos, af, gd⟩ (.agg ((cs.drop (i.toNat * size)).take size).toArray) :=
  .of (by intro c e; cases e) fun ac w ha hg hc _ => by
    obtain ⟨h1, j, h2, h3⟩ := hT
    have h5 : cs.toArray.extract (i.toNat * size) (i.toNat * size + size) = ((cs.drop (i.toNat * size)).take size).toArray := by simp
    simp only [execOp, evalS_sound ha hg hc hx, evalS_sound ha hg hc hy, Instr.index, asIntOf, Sem.run_bind, Sem.run_pure, run_underlying h1, Result.andThen, if_pos (hb hc), run_sizeOf h2, h3, part, run_isAgg_ag hA, if_true, h5]
end
section
variable {P : Program} {fn : Func} {R : Ending → World → Prop} {N : Nat} {g : World} {I H : HMap} {loc : Loc} {E : Env} {r : Option Nat}
/-- One result that lies in a block of several cells. -/
theorem at_retA {t tt n b : Nat} {vs : List Value} (hr : fn.results = #[.cell t tt]) (hv : look E t = some (.pointer (some ⟨b, 0, none⟩))) (hA : AgT P tt n) (hc : Cells I loc b 0 vs) (hn : vs.length = n) (h : ∀ w, St g I H loc w → R (.returned (.agg vs.toArray)) w) :
    At ⟨P, r, N, [], g, H⟩ (bodyPost P fn R) .ret E I loc := fun a w ha hw =>
  ⟨ha.defers, .agg vs.toArray, by
    have e1 := ha.env _ _ hv
    rw [Array.getD_eq_getD_getElem?] at e1
    have h1 : (loadCells ⟨b, 0, none⟩ n).run P w = .ok vs.toArray w := by
      rw [← hn]
      exact run_loadCells_list w _ _ fun j v hj => by rw [add_plain]; exact (hc j v hj).get hw
    have hA' := hA
    obtain ⟨_, i, h2, h3⟩ := hA'
    have l1 : (loadVar tt ⟨b, 0, none⟩).run P w = .ok (.agg vs.toArray) w := by
      simp only [loadVar, Sem.run_bind, Sem.run_pure, run_isAgg_ag hA, Result.andThen, if_true, run_sizeOf h2, h3, h1]
    simp only [results, hr]
    simp [List.mapM_cons, e1, asAddr, l1], h w hw⟩
end
end Go.Kn
end
section
namespace Go.Kn
open Go
theorem eqFields_step {P : Program} {w : World} {dd : Nat} {f : Field} {fs : List Field} {cx cy : Array Value} {u v : Value} {c r : Bool} (hn : f.name ≠ "_") (h1 : (part f.type cx f.offset).run P w = .ok u w) (h2 : (part f.type cy f.offset).run P w = .ok v w)
    (hc : (Op.equalIn dd f.type u v).run P w = .ok c w) (hr : (Op.eqFields dd cx cy fs).run P w = .ok r w) : (Op.eqFields dd cx cy (f :: fs)).run P w = .ok (c && r) w := by
  simp only [Op.eqFields, if_pos hn, Sem.run_bind, h1, h2, hc, Result.andThen, Sem.run_ite]
  cases c with
  | false => simp
  | true => simpa using hr
def flat2 (P : Program) : List Field → Nat → Option (List EqK)
  | [], _ => some []
  | f :: fs, k => if f.name ≠ "_" ∧ f.offset = k then
      match kindOf P f.type with
      | some q => (flat2 P fs (k + 1)).map (q :: ·)
      | none => match P.underlying f.type with
        | some (.struct gs) => if P.stoodInHeld f.type = false then
            match flatKs P gs.toList 0, P.info? f.type with
            | some l, some i => if i.size = l.length then (flat2 P fs (k + l.length)).map (l ++ ·) else none
            | _, _ => none
          else none
        | _ => none
    else none
def EqT2 (P : Program) (t : Nat) (ks : List EqK) : Prop := P.underlying t = some (.struct (P.fieldsOf t)) ∧ P.stoodInHeld t = false ∧ P.eqGuardType P.depth t = false ∧ flat2 P (P.fieldsOf t).toList 0 = some ks
theorem eqKs_app : ∀ {k1 k2 : List EqK} {xs ys : List Value} {b : Bool}, eqKs (k1 ++ k2) xs ys = some b → ∃ u1 u2 v1 v2 b1 b2, xs = u1 ++ u2 ∧ ys = v1 ++ v2 ∧ u1.length = k1.length ∧ v1.length = k1.length ∧ eqKs k1 u1 v1 = some b1 ∧ eqKs k2 u2 v2 = some b2 ∧ b = (b1 && b2)
  | [], k2, xs, ys, b, h => ⟨[], xs, [], ys, true, b, rfl, rfl, rfl, rfl, rfl, h, by simp⟩
  | .int :: k1, k2, xs, ys, b, h => by
    match xs, ys, h with
    | .int k a :: xs, .int k' c :: ys, h =>
      simp only [List.cons_append, eqKs] at h
      split at h
      · rename_i hk
        cases hr : eqKs (k1 ++ k2) xs ys with
        | none => rw [hr] at h; cases h
        | some r =>
          rw [hr] at h
          obtain ⟨u1, u2, v1, v2, b1, b2, rfl, rfl, h1, h2, h3, h4, rfl⟩ := eqKs_app hr
          refine ⟨.int k a :: u1, u2, .int k' c :: v1, v2, (a == c && b1), b2, rfl, rfl, by simp [h1], by simp [h2], ?_, h4, ?_⟩
          · simp only [eqKs, if_pos hk, h3]
          · simp only [Option.some.injEq] at h; rw [← h, Bool.and_assoc]
      · cases h
  | .str :: k1, k2, xs, ys, b, h => by
    match xs, ys, h with
    | .string a :: xs, .string c :: ys, h =>
      simp only [List.cons_append, eqKs] at h
      cases hr : eqKs (k1 ++ k2) xs ys with
      | none => rw [hr] at h; cases h
      | some r =>
        rw [hr] at h
        obtain ⟨u1, u2, v1, v2, b1, b2, rfl, rfl, h1, h2, h3, h4, rfl⟩ := eqKs_app hr
        refine ⟨.string a :: u1, u2, .string c :: v1, v2, (strEq a c && b1), b2, rfl, rfl, by simp [h1], by simp [h2], ?_, h4, ?_⟩
        · simp only [eqKs, h3]
        · simp only [Option.some.injEq] at h; rw [← h, Bool.and_assoc]
  | .bool :: k1, k2, xs, ys, b, h => by
    match xs, ys, h with
    | .bool a :: xs, .bool c :: ys, h =>
      simp only [List.cons_append, eqKs] at h
      cases hr : eqKs (k1 ++ k2) xs ys with
      | none => rw [hr] at h; cases h
      | some r =>
        rw [hr] at h
        obtain ⟨u1, u2, v1, v2, b1, b2, rfl, rfl, h1, h2, h3, h4, rfl⟩ := eqKs_app hr
        refine ⟨.bool a :: u1, u2, .bool c :: v1, v2, (a == c && b1), b2, rfl, rfl, by simp [h1], by simp [h2], ?_, h4, ?_⟩
        · simp only [eqKs, h3]
        · simp only [Option.some.injEq] at h; rw [← h, Bool.and_assoc]
theorem run_part_sc {P : Program} {w : World} {t : TypeId} {cs : Array Value} {off : Nat} {v : Value} (h : ScT P t) (hv : cs[off]? = some v) : (part t cs off).run P w = .ok v w := by
  simp only [part, Sem.run_bind, run_isAgg_sc h, Result.andThen, Bool.false_eq_true, if_false, hv, Sem.run_pure]
theorem run_part_ag {P : Program} {w : World} {t : TypeId} {cs : Array Value} {off n : Nat} (h : AgT P t n) : (part t cs off).run P w = .ok (.agg (cs.extract off (off + n))) w := by
  obtain ⟨i, hi, hs⟩ := h.2
  simp only [part, Sem.run_bind, run_isAgg_ag h, Result.andThen, if_true, run_sizeOf hi, hs, Sem.run_pure]
theorem extract_mid (a b c : List Value) (n m : Nat) (hn : a.length = n) (hm : b.length = m) : (a ++ (b ++ c)).toArray.extract n (n + m) = b.toArray := by
  subst hn; subst hm
  apply Array.ext'
  simp
theorem one_field {P : Program} {w : World} {dd : Nat} {t : TypeId} {q : EqK} (hk : kindOf P t = some q) {ks : List EqK} {xs ys : List Value} {b : Bool} (he : eqKs (q :: ks) xs ys = some b) :
    ∃ u v us vs c r, xs = u :: us ∧ ys = v :: vs ∧ ScT P t ∧ (Op.equalIn (dd + 1) t u v).run P w = .ok c w ∧ eqKs ks us vs = some r ∧ b = (c && r) := by
  unfold kindOf at hk
  cases hu : P.underlying t with
  | none => rw [hu] at hk; cases hk
  | some td =>
    rw [hu] at hk
    cases td <;> simp only [Option.some.injEq, reduceCtorEq] at hk
    case int kk =>
      subst hk
      match xs, ys, he with
      | .int k a :: xs, .int k' c :: ys, he =>
        simp only [eqKs] at he
        split at he
        · rename_i hkk
          subst hkk
          cases hr : eqKs ks xs ys with
          | none => rw [hr] at he; cases he
          | some r =>
            rw [hr] at he
            simp only [Option.some.injEq] at he
            exact ⟨_, _, xs, ys, (a == c), r, rfl, rfl, ⟨_, hu, trivial⟩, run_equalIn_int w dd t k kk a c hu, hr, he.symm⟩
        · cases he
    case string =>
      subst hk
      match xs, ys, he with
      | .string a :: xs, .string c :: ys, he =>
        simp only [eqKs] at he
        cases hr : eqKs ks xs ys with
        | none => rw [hr] at he; cases he
        | some r =>
          rw [hr] at he
          simp only [Option.some.injEq] at he
          exact ⟨_, _, xs, ys, _, r, rfl, rfl, ⟨_, hu, trivial⟩, run_equalIn_string w dd t a c hu, hr, he.symm⟩
    case bool =>
      subst hk
      match xs, ys, he with
      | .bool a :: xs, .bool c :: ys, he =>
        simp only [eqKs] at he
        cases hr : eqKs ks xs ys with
        | none => rw [hr] at he; cases he
        | some r =>
          rw [hr] at he
          simp only [Option.some.injEq] at he
          exact ⟨_, _, xs, ys, (a == c), r, rfl, rfl, ⟨_, hu, trivial⟩, run_equalIn_bool' w dd t a c hu, hr, he.symm⟩
theorem run_eqFields2 {P : Program} {w : World} (dd : Nat) : ∀ (fs : List Field) (ks : List EqK) (k : Nat) (pre xs pre' ys : List Value) (b : Bool), flat2 P fs k = some ks → pre.length = k → pre'.length = k → eqKs ks xs ys = some b →
    (Op.eqFields (dd + 2) (pre ++ xs).toArray (pre' ++ ys).toArray fs).run P w = .ok b w
  | [], ks, k, pre, xs, pre', ys, b, hf, _, _, he => by
    simp only [flat2, Option.some.injEq] at hf
    subst hf
    cases xs <;> cases ys <;> simp only [eqKs] at he <;> first | (cases he; rfl) | cases he
  | f :: fs, ks, k, pre, xs, pre', ys, b, hf, hp, hp', he => by
    simp only [flat2] at hf
    split at hf
    · rename_i hn
      cases hk : kindOf P f.type with
      | some q =>
        rw [hk] at hf
        simp only [Option.map_eq_some_iff] at hf
        obtain ⟨l, hl, rfl⟩ := hf
        obtain ⟨u, v, us, vs, c, r, rfl, rfl, hs, hc, hr, rfl⟩ := one_field (w := w) (dd := dd + 1) hk he
        refine eqFields_step hn.1 (run_part_sc hs (by rw [hn.2, ← hp]; simp)) (run_part_sc hs (by rw [hn.2, ← hp']; simp)) hc ?_
        have := run_eqFields2 (P := P) (w := w) dd fs l (k + 1) (pre ++ [u]) us (pre' ++ [v]) vs r hl (by simp [hp]) (by simp [hp']) hr
        simpa using this
      | none =>
        rw [hk] at hf
        simp only at hf
        cases hu : P.underlying f.type with
        | none => rw [hu] at hf; cases hf
        | some td =>
          rw [hu] at hf
          cases td <;> simp only [reduceCtorEq] at hf
          rename_i gs
          split at hf
          · rename_i hst
            cases hfl : flatKs P gs.toList 0 with
            | none => rw [hfl] at hf; simp at hf
            | some l2 =>
              cases hin : P.info? f.type with
              | none => rw [hfl, hin] at hf; simp at hf
              | some i =>
                rw [hfl, hin] at hf
                simp only at hf
                split at hf
                · rename_i hsz
                  simp only [Option.map_eq_some_iff] at hf
                  obtain ⟨l, hl, rfl⟩ := hf
                  obtain ⟨u1, u2, v1, v2, b1, b2, rfl, rfl, hu1, hv1, h1, h2, rfl⟩ := eqKs_app he
                  have hag : AgT P f.type l2.length := ⟨⟨_, hu, trivial⟩, i, hin, hsz⟩
                  have hfo : P.fieldsOf f.type = gs := by unfold Program.fieldsOf; rw [hu]
                  refine eqFields_step (u := .agg u1.toArray) (v := .agg v1.toArray) hn.1 ?_ ?_ ?_ ?_
                  · rw [run_part_ag hag, hn.2, extract_mid pre u1 u2 k l2.length hp hu1]
                  · rw [run_part_ag hag, hn.2, extract_mid pre' v1 v2 k l2.length hp' hv1]
                  · rw [run_equalIn_struct w (dd + 1) f.type _ _ (by rw [hfo]; exact hu) hst, hfo]
                    have := run_eqFields (P := P) (w := w) dd gs.toList l2 0 [] u1 [] v1 b1 hfl rfl rfl h1
                    simpa using this
                  · have := run_eqFields2 (P := P) (w := w) dd fs l (k + l2.length) (pre ++ u1) u2 (pre' ++ v1) v2 b2 hl (by simp [hp, hu1]) (by simp [hp', hv1]) h2
                    simpa [List.append_assoc] using this
                · cases hf
          · cases hf
    · cases hf
variable {C : Cx} {Q : Exit → Act → World → Prop} {E E' : Env} {I I' : HMap} {loc loc' L R : Loc} {ops : Array Oper} {rest : List Oper} {S : GS}
variable {dst : Option Tmp} {d : Nat} {ty : TypeId} {pos : String} {af : Array Edge} {gd : Option (Nat × Bool)} {x y z : Operand}
theorem ev_eqS2 {t t' : TypeId} {ks : List EqK} {us vs : List Value} {b : Bool} (hx : evalS S E x = some (.agg us.toArray)) (hy : evalS S E y = some (.agg vs.toArray)) (hT : EqT2 C.P t ks) (h : eqKs ks us vs = some b) : EvalOp C S E I loc ⟨dst, .binOp .eql t x y t', ty, pos, af, gd⟩ (.bool b) :=
  .of (by intro c e; cases e) fun a w ha hg hc _ => by
    have := run_eqFields2 (P := C.P) (w := w) 9997 _ _ 0 [] us [] vs b hT.2.2.2 rfl rfl h
    simp only [List.nil_append] at this
    simp only [execOp, evalS_sound ha hg hc hx, evalS_sound ha hg hc hy, Sem.run_bind, run_eqGuard_agg w _ _ _ _ _ _ hT.2.2.1, Result.andThen, run_eql_struct, run_equalIn_struct w 9999 t _ _ hT.1 hT.2.1, this, Sem.run_pure]
theorem ev_neS2 {t t' : TypeId} {ks : List EqK} {us vs : List Value} {b : Bool} (hx : evalS S E x = some (.agg us.toArray)) (hy : evalS S E y = some (.agg vs.toArray)) (hT : EqT2 C.P t ks) (h : eqKs ks us vs = some b) : EvalOp C S E I loc ⟨dst, .binOp .neq t x y t', ty, pos, af, gd⟩ (.bool (!b)) :=
  .of (by intro c e; cases e) fun a w ha hg hc _ => by
    have := run_eqFields2 (P := C.P) (w := w) 9997 _ _ 0 [] us [] vs b hT.2.2.2 rfl rfl h
    simp only [List.nil_append] at this
    simp only [execOp, evalS_sound ha hg hc hx, evalS_sound ha hg hc hy, Sem.run_bind, run_eqGuard_agg w _ _ _ _ _ _ hT.2.2.1, Result.andThen, run_neq_struct, run_equalIn_struct w 9999 t _ _ hT.1 hT.2.1, this, Sem.run_pure]
end Go.Kn
end
section
namespace Go.Kn
open Go
/-- The marks that ranges over functions have left, the last one first; their blocks. -/
def mk (ms : List Nat) : List Deferred := ms.map fun b => { target := .collected b, args := #[] }
def MB : List Nat → Loc
  | [] => []
  | b :: ms => MB ms ++ [(b, .deferred (some []))]
/-- A state whose marks may be more. -/
def MetM (C : Cx) (M : List Nat → Env → HMap → Loc → Prop) : Act → World → Prop := fun a w => ∃ ms E I loc, M ms E I loc ∧ Fits C.N (mk ms) E a ∧ St C.g I C.H loc w
section
variable {P : Program} {r : Option Nat} {N : Nat} {g : World} {H : HMap} {Q : Exit → Act → World → Prop} {E E' : Env} {I I' : HMap} {loc loc' L R : Loc} {ms : List Nat}
theorem X_cutM {x y : Code} (T : Env) (_hT : Sub T E) (M : Env → Loc → List Nat → Env → HMap → Loc → Prop) (h1 : X ⟨P, r, N, mk ms, g, H⟩ (Exit.then (MetM ⟨P, r, N, [], g, H⟩ (M T loc)) Q) x E I loc)
    (h2 : ∀ ms E I loc', M T loc ms E I loc' → X ⟨P, r, N, mk ms, g, H⟩ Q y E I loc') : X ⟨P, r, N, mk ms, g, H⟩ Q (.seq x y) E I loc := fun a w ha hw =>
  wpIn_seq (wpIn_mono (h1 a w ha hw) fun e a' w' hq => by
    cases e with
    | normal => obtain ⟨ms', E', I', loc', hM, hf, hs⟩ := hq; exact h2 ms' E' I' loc' hM _ _ hf hs
    | _ => exact hq)
theorem at_metM {M : List Nat → Env → HMap → Loc → Prop} {C' : Cx} (hN : C'.N = N) (hg : C'.g = g) (hH : C'.H = H) (E' : Env) (loc' : Loc) (hM : M ms E' I loc') (hE : Sub E' E) (hs : SubL loc' loc) : At ⟨P, r, N, mk ms, g, H⟩ (Exit.then (MetM C' M) Q) .normal E I loc :=
  fun _ _ ha hw => ⟨ms, E', I, loc', hM, by rw [hN]; exact ha.sub hE, by rw [hg, hH]; exact hw.dropTo hs⟩
theorem at_metMP {M : List Nat → Env → HMap → Loc → Prop} {C' : Cx} (hN : C'.N = N) (hg : C'.g = g) (hH : C'.H = H) (E' : Env) (loc' l : Loc) (hM : M ms E' I loc') (hE : Sub E' E) (hp : loc'.Perm l) (hs : SubL l loc) : At ⟨P, r, N, mk ms, g, H⟩ (Exit.then (MetM C' M) Q) .normal E I loc :=
  fun _ _ ha hw => ⟨ms, E', I, loc', hM, by rw [hN]; exact ha.sub hE, by
    rw [hg, hH]
    have h1 := hw.dropTo hs
    exact h1.perm (fun p => hp.mem_iff) ((hp.map (·.1)).nodup_iff.2 h1.nodup)⟩
/-- A loop whose rounds may leave marks. -/
theorem X_loopM {c : Code} (T : Env) (_hT : Sub T E) (J : Env → Loc → Nat → List Nat → Env → HMap → Loc → Prop) (m0 : Nat) (E0 : Env) (I0 : HMap) (loc0 : Loc) (h0 : J T loc m0 ms E0 I0 loc0) (hE : Sub E0 E) (hI : HLe I0 I) (hl : loc0 = loc)
    (round : ∀ m ms E I loc', J T loc m ms E I loc' → X ⟨P, r, N, mk ms, g, H⟩ (Exit.then (MetM ⟨P, r, N, [], g, H⟩ fun ms E I loc' => ∃ m', m' < m ∧ J T loc m' ms E I loc') Q) c E I loc') : X ⟨P, r, N, mk ms, g, H⟩ Q (.loop c) E I loc := by
  classical
  intro a w ha hw
  let R : Nat → Act → World → Prop := fun m a w => ∃ ms E I loc', J T loc m ms E I loc' ∧ Fits N (mk ms) E a ∧ St g I H loc' w
  have least : ∀ a w, (∃ m, R m a w) → ∃ m, R m a w ∧ ∀ m', R m' a w → m ≤ m' := fun a w ⟨m, h⟩ => by
    induction m using Nat.strongRecOn with
    | _ m ih =>
      by_cases h' : ∃ m', m' < m ∧ R m' a w
      · obtain ⟨m', hlt, hm⟩ := h'; exact ih m' hlt hm
      · exact ⟨m, h, fun m' hm => Nat.le_of_not_lt fun hlt => h' ⟨m', hlt, hm⟩⟩
  let μ : Act → World → Nat := fun a w => if h : ∃ m, R m a w then Classical.choose (least a w h) else 0
  have hμ : ∀ a w, (∃ m, R m a w) → R (μ a w) a w := fun a w h => by simp only [μ, dif_pos h]; exact (Classical.choose_spec (least a w h)).1
  have hle : ∀ m a w, R m a w → μ a w ≤ m := fun m a w h => by
    have h' : ∃ m, R m a w := ⟨m, h⟩
    simp only [μ, dif_pos h']; exact (Classical.choose_spec (least a w h')).2 m h
  refine wpIn_loop (fun a w => ∃ m, R m a w) μ ⟨m0, ms, E0, I0, loc0, h0, ha.sub hE, hl ▸ hw.mono hI⟩ fun a w h => ?_
  obtain ⟨ms1, E1, I1, loc1, hJ, hf, hs⟩ := hμ a w h
  refine wpIn_mono (round _ _ _ _ _ hJ a w hf hs) fun e a' w' hq => ?_
  cases e with
  | normal =>
    obtain ⟨ms2, E2, I2, loc2, ⟨m', hlt, hJ'⟩, hf', hs'⟩ := hq
    exact ⟨⟨m', ms2, E2, I2, loc2, hJ', hf', hs'⟩, Nat.lt_of_le_of_lt (hle m' a' w' ⟨ms2, E2, I2, loc2, hJ', hf', hs'⟩) hlt⟩
  | _ => exact hq
/-- 'for x := range f { .. }' where marks lie already. -/
theorem X_rangeFuncM {α : Type} {gop : Operand} {p : Nat} {assign body : Code} {f : FuncId} {cap : List Value} {K : Loc} {enc : α → Value} {xs : List α}
    (Jc : List α → HMap → Loc → Prop) (Jx : Code → List α → HMap → Loc → Prop) (Ja : List α → α → Env → HMap → Loc → Prop)
    (hg : evalS [] E gop = some (.func (.func f) #[] cap.toArray)) (hF : Fun P f) (hseq : SeqL P f cap I K enc xs) (hp : Nat.blt p N = true) (h0 : Jc [] I L)
    (hass : ∀ l pre x I' loc' H1, pre ++ [x] <+: xs → HLe I I' → Jc pre I' loc' → X ⟨P, some l, N, [], g, H1⟩ (Exit.then (Met ⟨P, some l, N, [], g, H1⟩ fun E2 I2 loc2 => HLe I' I2 ∧ Ja pre x E2 I2 loc2) (fun _ _ _ => False)) assign ((p, enc x) :: E) I' loc')
    (hbody : ∀ l pre x E2 I2 loc2 H2, pre ++ [x] <+: xs → HLe I I2 → Ja pre x E2 I2 loc2 → X ⟨P, some l, N, [], g, H2⟩ (RoundQ g H2 (fun q I3 loc3 => HLe I2 I3 ∧ Jc q I3 loc3) (fun c q I3 loc3 => HLe I2 I3 ∧ Jx c q I3 loc3) (pre ++ [x])) body E2 I2 loc2)
    (hdone : ∀ bd I' loc', HLe I I' → Jc xs I' loc' → At ⟨P, none, N, mk (bd :: ms), g, H⟩ Q .normal E I' (loc' ++ MB (bd :: ms)))
    (hstop : ∀ c bd pre I' loc', HLe I I' → pre <+: xs → Jx c pre I' loc' → X ⟨P, none, N, mk (bd :: ms), g, H⟩ Q c E I' (loc' ++ MB (bd :: ms))) :
    X ⟨P, none, N, mk ms, g, H⟩ Q (.rangeFunc gop #[p] assign body) E I (K ++ (L ++ MB ms)) := by
  intro a w ha hw
  have back : ∀ {I' : HMap} {loc' : Loc} {bd : Nat} {w' : World}, St g I' (addL H (MB ms)) (loc' ++ [(bd, .deferred (some []))]) w' → St g I' H (loc' ++ MB (bd :: ms)) w' := fun {I' loc' bd w'} h => by
    have h1 := St.unhide ((hw.rest split_app).rest split_app) h
    refine h1.perm (fun p => ?_) ?_
    · simp only [MB, List.mem_append]
      constructor
      · rintro (h | h | h)
        · exact .inl (.inl h)
        · exact .inr h
        · exact .inl (.inr h)
      · rintro ((h | h) | h)
        · exact .inl h
        · exact .inr (.inr h)
        · exact .inr (.inl h)
    · have hn := h1.nodup
      have hpm : (loc' ++ MB (bd :: ms)).Perm (loc' ++ [(bd, .deferred (some []))] ++ MB ms) := by
        rw [List.append_assoc]
        exact (List.Perm.refl loc').append List.perm_append_comm
      exact (hpm.map (·.1)).nodup_iff.2 hn
  refine X_rangeFuncD (K := K) (P := P) (N := N) (D := mk ms) (g := g) (H := addL H (MB ms)) (Q := Q) Jc Jx Ja hg hF hseq hp h0 hass hbody ?_ ?_ a w ha (show St g I (addL H (MB ms)) (K ++ L) w from (show St g I H ((K ++ L) ++ MB ms) w by rw [List.append_assoc]; exact hw).hideR)
  · intro bd I' loc' hI hJ a' w' ha' hw'
    exact hdone bd I' loc' hI hJ a' w' ha' (back hw')
  · intro c bd pre I' loc' hI hpre hJ a' w' ha' hw'
    exact hstop c bd pre I' loc' hI hpre hJ a' w' ha' (back hw')
/-- The end, with as many marks as there are. -/
theorem leaves_marks {fn : Func} {R : Ending → World → Prop} {tmps : Array Value} {v : Value} : ∀ (ms : List Nat) {L : Loc} {w : World}, St g I H (L ++ MB ms) w → (∀ w, St g I H L w → (results fn tmps).run P w = .ok v w ∧ R (.returned v) w) →
    LeavesInM Fence.wide 0 P fn tmps R (mk ms) .returning w
  | [], L, w, hw, h => by
    have hw : St g I H L w := by simpa [MB] using hw
    exact ⟨v, h w hw⟩
  | b :: ms, L, w, hw, h => by
    have hu : Upd (L ++ MB (b :: ms)) b (.deferred (some [])) (.deferred none) (L ++ (MB ms ++ [(b, .deferred none)])) := upd_app (upd_app .here)
    have hb := hw.own _ _ hu.mem
    have hs := hw.putObj hu
    refine ⟨by simp, .inl ⟨b, _, rfl, run_takeDeferred hb, ?_⟩⟩
    exact leaves_marks ms (L := L) (hs.subL (subL_app subL_left)) h
theorem at_retMs {fn : Func} {R : Ending → World → Prop} {v : Value} (hv : ∀ a, Fits N (mk ms) E a → ∀ w, St g I H L w → (results fn a.tmps).run P w = .ok v w) (h : ∀ w, St g I H L w → R (.returned v) w) :
    At ⟨P, r, N, mk ms, g, H⟩ (bodyPostM Fence.wide 0 P fn R) .ret E I (L ++ MB ms) := fun a w ha hw => by
  show LeavesInM _ _ _ _ _ _ _ _ _
  rw [ha.defers]
  exact leaves_marks ms hw fun w' hw' => ⟨hv a ha w' hw', h w' hw'⟩
/-- A function's entry, marks to come. -/
theorem enterMs {f : FuncId} {fn : Func} {c : Code} {args : List Value} {R : Ending → World → Prop} {w : World} (hf : P.funcs[f]? = some fn) (hb : fn.body = some c) {N : Nat} (hN : fn.ntmps = N)
    (hlen : Nat.ble args.length N = true) (hw : St g I H loc w) (h : X ⟨P, none, N, mk [], g, H⟩ (bodyPostM Fence.wide 0 P fn R) c (env0 0 args) I (loc ++ MB [])) : Calls P f args.toArray w R :=
  enterM hf hb hN hlen hw (by simpa [MB, mk] using h)
end
end Go.Kn
end
section
namespace Go.Kn
open Go
section
variable {g : World} {I I' H : HMap} {loc loc' L R : Loc} {w w' : World}
/-- Own blocks are looked at as read only. -/
theorem St.lend (h : St g I H L w) : ∃ I', HLe I I' ∧ (∀ b o, (b, o) ∈ L → I' b = some o) ∧ St g I' H [] w := by
  obtain ⟨I', h1, h2, h3⟩ := h.freezeAll
  exact ⟨I', h1, h3, h2⟩
theorem St.unlend (h : St g I H L w) (h' : St g I' H [] w') (hI : HLe I I') (hL : ∀ b o, (b, o) ∈ L → I' b = some o) : St g I H L w' where
  os := h'.os
  tape := h'.tape
  out := h'.out
  size := h'.size
  imm := fun b o hb => h'.imm b o (hI b o hb)
  frm := h'.frm
  own := fun b o hb => h'.imm b o (hL b o hb)
  sepIH := h.sepIH
  sepIL := h.sepIL
  nodup := h.nodup
theorem RetK.ofV {P : Program} {f : FuncId} {args : List Value} {v : Value} (h : ∀ I', HLe I I' → (∀ b o, (b, o) ∈ L → I' b = some o) → RetV P f args I' v) : RetK P f args I L v := by
  intro g H w hw
  obtain ⟨I', h1, h2, h3⟩ := hw.lend
  refine (h I' h1 h2 g H w h3).mono ?_
  rintro e w' ⟨rfl, hs⟩
  exact ⟨rfl, hw.unlend hs h1 h2⟩
end
variable {C : Cx} {Q : Exit → Act → World → Prop} {E E' : Env} {I I' : HMap} {loc loc' L R : Loc} {ops : Array Oper} {rest : List Oper} {S : GS}
variable {dst : Option Tmp} {d : Nat} {ty : TypeId} {pos : String} {af : Array Edge} {gd : Option (Nat × Bool)} {x y z : Operand}
section maps
variable {α β : Type} [DecidableEq α] {ek : α → Value} {ev : β → Value} {m : List (α × β)} {a : α}
/-- Where an entry lies, or will lie. -/
def mpos (m : List (α × β)) (a : α) : Nat := ((midx m a 0).map (·.1)).getD m.length
omit [DecidableEq α] in
theorem entry_key : ∀ (m : List (α × β)) (k i : Nat) (q : α × β), m[i]? = some q → ((entriesO ek ev k m)[i]?).map (fun e => (e.key, e.born)) = some (ek q.1, k + i) := by
  intro m
  induction m with
  | nil => intro k i q h; simp at h
  | cons p m ih =>
    intro k i q h
    cases i with
    | zero => simp at h; subst h; simp [entriesO]
    | succ i => simp only [entriesO, List.getElem?_cons_succ]; rw [ih _ _ _ (by simpa using h)]; simp; omega
theorem modify_key {kv vv : Value} : ∀ (l : List MapEntry) (i : Nat), (l[i]?).map (·.val) = some vv ∨ l[i]? = none → l.modify i (fun e => { e with key := kv }) = l.modify i fun e => { e with key := kv, val := vv } := by
  intro l
  induction l with
  | nil => intro i _; simp
  | cons e l ih =>
    intro i hv
    cases i with
    | zero => simp at hv; simp [hv]
    | succ i => simp only [List.modify_succ_cons]; rw [ih i (by simpa using hv)]
omit [DecidableEq α] in
theorem entry_val : ∀ (m : List (α × β)) (k i : Nat) (q : α × β), m[i]? = some q → ((entriesO ek ev k m)[i]?).map (·.val) = some (ev q.2) := by
  intro m
  induction m with
  | nil => intro k i q h; simp at h
  | cons p m ih =>
    intro k i q h
    cases i with
    | zero => simp at h; subst h; simp [entriesO]
    | succ i => simp only [entriesO, List.getElem?_cons_succ]; exact ih _ _ _ (by simpa using h)
theorem midx_ge : ∀ (m : List (α × β)) (k j : Nat) (c : β), midx m a k = some (j, c) → k ≤ j := by
  intro m
  induction m with
  | nil => intro k j c h; cases h
  | cons p m ih =>
    intro k j c h
    unfold midx at h
    split at h
    · simp at h; omega
    · have := ih _ _ _ h; omega
theorem midx_val : ∀ (m : List (α × β)) (k i : Nat) (c : β) (q : α × β), midx m a k = some (k + i, c) → m[i]? = some q → q.2 = c := by
  intro m
  induction m with
  | nil => intro k i c q h; cases h
  | cons p m ih =>
    intro k i c q h h'
    unfold midx at h
    split at h
    · simp only [Option.some.injEq, Prod.mk.injEq] at h
      have : i = 0 := by omega
      subst this
      simp at h'; subst h'; exact h.2
    · cases i with
      | zero =>
        exfalso
        have := midx_ge m _ _ _ h; omega
      | succ i =>
        refine ih (k + 1) i c q ?_ (by simpa using h')
        rw [h]; simp; omega
theorem mset_same : ∀ (m : List (α × β)) (a : α) (b : β), mget m a = some b → mset m a b = m
  | [], _, _, h => by cases h
  | p :: m, a, b, h => by
    unfold mget at h
    unfold mset
    split
    · rename_i e
      rw [if_pos e] at h
      cases h; subst e; rfl
    · rename_i e
      rw [if_neg e] at h
      rw [mset_same m a b h]
theorem XO_mapEntry {t k e r : Nat} {zv : Value} (zb : β) (hz : ev zb = zv) (hT : MpT C.P t k e zv) (hK : KeyOK C.P k ek) (hx : evalS [] E x = some (.map (some r))) (hy : evalS [] E y = some (ek a)) (hG : gd = none) (hN : Nat.blt d C.N = true)
    (hu : Upd loc r (mapO ek ev m) (mapO ek ev (mset m a ((mget m a).getD zb))) loc') (h : XO C Q ops rest [] ((d, .tuple #[ev ((mget m a).getD zb), .int .i64 (mpos m a : Nat)]) :: E) I loc') : XO C Q ops (⟨some d, .mapEntry t x y, ty, pos, af, gd⟩ :: rest) [] E I loc :=
  XO_world hG (by intro c e; cases e) fun a' w ha hw => by
    have hm := hw.own _ _ hu.mem
    have hf := hK.find ev m a w
    have hs := hw.putObj hu
    have hr : (Instr.mapEntry t (.map (some r)) (ek a)).run C.P w = .ok (.tuple #[ev ((mget m a).getD zb), .int .i64 (mpos m a : Nat)]) (w.putObj r (mapO ek ev (mset m a ((mget m a).getD zb)))) := by
      simp only [Instr.mapEntry, Sem.run_bind, run_underlying hT.1, Result.andThen, run_getObj_map hm, hK.chk]
      rw [hf]
      cases hi : midx m a 0 with
      | none =>
        have hg0 : mget m a = none := by rw [← mget_midx m a 0, hi]; rfl
        have h1 := mset_new m a zb 0 hi
        simp only [Option.map_none, Sem.run_bind, run_zeroValue hT.2, Result.andThen, hg0, Option.getD_none]
        rw [run_setObj_map _ hm, h1]
        simp only [Result.andThen, Sem.run_pure, mpos, hi, goInt]
        rw [← hz]
        congr 2
        simp [mapO, entriesO_app]
      | some p =>
        obtain ⟨i, c⟩ := p
        have hg0 : mget m a = some c := by rw [← mget_midx m a 0, hi]; rfl
        obtain ⟨⟨q, h1, h2⟩, h3, h4⟩ := entriesO_set (ek := ek) (ev := ev) m a c 0 i c (by rw [hi]; simp)
        have hkb := entry_key (ek := ek) (ev := ev) m 0 i q h1
        have hkey : (((entriesO ek ev 0 m).toArray[i]?).map (·.key)).getD (ek a) = ek a := by
          simp only [List.getElem?_toArray]
          cases he : (entriesO ek ev 0 m)[i]? with
          | none => rfl
          | some e => rw [he] at hkb; simp at hkb; simp [hkb.1, h2]
        have hborn : (((entriesO ek ev 0 m).toArray[i]?).map (·.born)).getD 0 = i := by
          simp only [List.getElem?_toArray]
          cases he : (entriesO ek ev 0 m)[i]? with
          | none => rw [he] at hkb; simp at hkb
          | some e => rw [he] at hkb; simp at hkb; simp [hkb.2]
        simp only [Option.map_some, Sem.run_bind, hkey, Instr.keyThatStays, hK.bits, if_true, Sem.run_pure, Result.andThen, hg0, Option.getD_some, mset_same m a c hg0]
        rw [run_setObj_map _ hm]
        have hbornI : ((((entriesO ek ev 0 m).toArray[i]?).map (fun e => (e.born : Int))).getD 0) = (i : Int) := by
          simp only [List.getElem?_toArray] at hborn ⊢
          cases he : (entriesO ek ev 0 m)[i]? with
          | none => rw [he] at hkb; simp at hkb
          | some e => rw [he] at hkb; simp at hkb; simp [hkb.2]
        rw [mset_same m a c hg0] at h4
        have hobj : ((entriesO ek ev 0 m).toArray.modify i fun e => { e with key := ek a }) = (entriesO ek ev 0 m).toArray := by
          apply Array.ext'
          rw [Array.toList_modify]
          conv => rhs; rw [h4]
          refine modify_key _ i ?_
          left
          rw [entry_val m 0 i q h1, midx_val m 0 i c q (by rw [hi]; simp) h1]
        rw [hobj]
        simp only [Result.andThen, Sem.run_pure, mpos, hi, Option.map_some, Option.getD_some, goInt]
        first
          | (rw [hbornI]; rfl)
    simp only [execOp, evalS_sound (S := []) ha trivial rfl hx, evalS_sound (S := []) ha trivial rfl hy, Sem.run_bind, hr, Result.andThen, Sem.run_pure, Oper.uponIn_value]
    exact h _ _ (ha.put hN _) trivial hs
omit [DecidableEq α] in
theorem find_born : ∀ (m : List (α × β)) (k i : Nat), i < m.length → (entriesO ek ev k m).findIdx? (fun e => (e.born : Int) == ((k + i : Nat) : Int)) = some i := by
  intro m
  induction m with
  | nil => intro k i h; simp at h
  | cons p m ih =>
    intro k i h
    simp only [entriesO, List.findIdx?_cons]
    cases i with
    | zero => simp
    | succ i =>
      have hne : (((k : Nat) : Int) == ((k + (i + 1) : Nat) : Int)) = false := by
        rw [beq_eq_false_iff_ne]; omega
      rw [hne]
      have := ih (k + 1) i (by simpa using h)
      rw [show k + (i + 1) = k + 1 + i by omega, this]; rfl
theorem modify_val {kv vv : Value} : ∀ (l : List MapEntry) (i : Nat), (l[i]?).map (·.key) = some kv → l.modify i (fun e => { e with val := vv }) = l.modify i fun e => { e with key := kv, val := vv } := by
  intro l
  induction l with
  | nil => intro i _; simp
  | cons e l ih =>
    intro i hv
    cases i with
    | zero => simp at hv; simp [hv]
    | succ i => simp only [List.modify_succ_cons]; rw [ih i (by simpa using hv)]
theorem XO_entryStore {t r : Nat} (b c : β) (hm0 : mget m a = some c) (hx : evalS [] E x = some (.map (some r))) (hy : evalS [] E y = some (.int .i64 (mpos m a : Nat))) (hz : evalS [] E z = some (ev b)) (hG : gd = none)
    (hu : Upd loc r (mapO ek ev m) (mapO ek ev (mset m a b)) loc') (h : XO C Q ops rest [] E I loc') : XO C Q ops (⟨none, .entryStore t x y z, ty, pos, af, gd⟩ :: rest) [] E I loc :=
  XO_world hG (by intro c e; cases e) fun a' w ha hw => by
    have hm := hw.own _ _ hu.mem
    have hs := hw.putObj hu
    have hr : (Instr.entryStore t (.map (some r)) (.int .i64 (mpos m a : Nat)) (ev b)).run C.P w = .ok () (w.putObj r (mapO ek ev (mset m a b))) := by
      cases hi : midx m a 0 with
      | none => rw [← mget_midx m a 0, hi] at hm0; cases hm0
      | some p =>
        obtain ⟨i, c'⟩ := p
        obtain ⟨⟨q, h1, h2⟩, h3, h4⟩ := entriesO_set (ek := ek) (ev := ev) m a b 0 i c' (by rw [hi]; simp)
        have hil : i < m.length := (List.getElem?_eq_some_iff.1 h1).1
        have hp : mpos m a = i := by unfold mpos; rw [hi]; rfl
        have hfi := find_born (ek := ek) (ev := ev) m 0 i hil
        rw [Nat.zero_add] at hfi
        have hfa : (entriesO ek ev 0 m).toArray.findIdx? (fun e => (e.born : Int) == ((i : Nat) : Int)) = some i := by
          rw [List.findIdx?_toArray]; exact hfi
        have hkb := entry_key (ek := ek) (ev := ev) m 0 i q h1
        have hobj : ((entriesO ek ev 0 m).toArray.modify i fun e => { e with val := ev b }) = (entriesO ek ev 0 (mset m a b)).toArray := by
          apply Array.ext'
          rw [Array.toList_modify]
          rw [h4]
          refine modify_val _ i ?_
          cases he : (entriesO ek ev 0 m)[i]? with
          | none => rw [he] at hkb; simp at hkb
          | some e => rw [he] at hkb; simp at hkb; simp [hkb.1, h2]
        simp only [Instr.entryStore, Sem.run_bind, run_getObj_map hm, Result.andThen, asInt, asIntOf, hp, Sem.run_pure]
        rw [hfa]
        simp only []
        rw [run_setObj_map _ hm, hobj]
        unfold mapO
        rw [h3]
    simp only [execOp, evalS_sound (S := []) ha trivial rfl hx, evalS_sound (S := []) ha trivial rfl hy, evalS_sound (S := []) ha trivial rfl hz, Sem.run_bind, hr, Result.andThen, Sem.run_pure, Oper.uponIn_skip]
    exact h _ _ ha trivial hs
end maps
def fillS (size : Nat) : List Value → List (Nat × Value) → Option (List Value)
  | cells, [] => some cells
  | cells, (i, v) :: rest => bif Nat.beq (cellsL v).length size && Nat.ble (i * size + (cellsL v).length) cells.length then fillS size (spliceL cells (i * size) (cellsL v)) rest else none
theorem fillS_eq (size : Nat) : ∀ (ps : List (Nat × Value)) (cells out : List Value), fillS size cells ps = some out → Instr.fill (fun i => some (i * size, size)) cells.toArray ps = some out.toArray
  | [], cells, out, h => by
    simp only [fillS, Option.some.injEq] at h
    subst h; rfl
  | (i, v) :: ps, cells, out, h => by
    simp only [fillS] at h
    cases hb : (Nat.beq (cellsL v).length size && Nat.ble (i * size + (cellsL v).length) cells.length) with
    | false => rw [hb] at h; cases h
    | true =>
      rw [hb] at h
      simp only [Bool.and_eq_true] at hb
      have h1 := Nat.eq_of_beq_eq_true hb.1
      have h2 := Nat.le_of_ble_eq_true hb.2
      have e : cells = cells.take (i * size) ++ (cells.drop (i * size)).take size ++ cells.drop (i * size + size) := by
        rw [List.append_assoc]
        have : (cells.drop (i * size)).take size ++ cells.drop (i * size + size) = cells.drop (i * size) := by rw [← List.drop_drop]; exact List.take_append_drop _ _
        rw [this, List.take_append_drop]
      have hl1 : (cells.take (i * size)).length = i * size := by rw [List.length_take]; omega
      have hl2 : ((cells.drop (i * size)).take size).length = size := by rw [List.length_take, List.length_drop]; omega
      have hsp : spliceL cells (i * size) (cellsL v) = cells.take (i * size) ++ cellsL v ++ cells.drop (i * size + size) := by
        have := spliceL_app (cells.take (i * size)) ((cells.drop (i * size)).take size) (cellsL v) (cells.drop (i * size + size)) (by rw [hl2]; exact h1.symm)
        rw [← e, hl1] at this
        exact this
      have hfo := fill_one (place := fun i => some (i * size, size)) (i := i) (off := i * size) (size := size) (v := v) (vs := cellsL v) (pre := cells.take (i * size)) (old := (cells.drop (i * size)).take size) (tail := cells.drop (i * size + size)) (l := ps) rfl (cellsL_eq v) h1 hl1 hl2
      rw [← e] at hfo
      rw [hfo, ← hsp]
      exact fillS_eq size ps _ out h
theorem ev_buildArr {t n e size : Nat} {zl : List Value} {parts : Array (Nat × Operand)} {ps : List (Nat × Value)} (cells : List Value) (hA : ArT C.P t n e size) (hz : ZeroT C.P t (.agg zl.toArray)) (hp : parts.toList.map (fun p => (evalS S E p.2).map fun v => (p.1, v)) = ps.map some) (hf : fillS size zl ps = some cells) :
    EvalOp C S E I loc ⟨dst, .build t parts, ty, pos, af, gd⟩ (.agg cells.toArray) :=
  .of (by intro c e; cases e) fun a w ha hg hc hw => by
    obtain ⟨hu, i, hi, hs⟩ := hA
    have key : ∀ (l : List (Nat × Operand)) (ps : List (Nat × Value)), l.map (fun p => (evalS S E p.2).map fun v => (p.1, v)) = ps.map some → l.map (fun p => (p.1, a.eval p.2)) = ps := by
      intro l
      induction l with
      | nil => intro ps h; cases ps <;> simp_all
      | cons p l ih =>
        intro ps h
        cases ps with
        | nil => simp at h
        | cons q ps =>
          simp only [List.map_cons, List.cons.injEq] at h ⊢
          refine ⟨?_, ih _ h.2⟩
          cases e1 : evalS S E p.2 with
          | none => rw [e1] at h; simp at h
          | some v =>
            rw [e1] at h
            rw [evalS_sound ha hg hc e1]
            simpa using h.1
    have hps : (parts.map fun (i, x) => (i, a.eval x)).toList = ps := by
      rw [← key _ _ hp]; simp
    have hfe := fillS_eq size ps zl cells hf
    have hzc : (Value.agg zl.toArray).cells = zl.toArray := rfl
    simp only [execOp, Instr.build, Sem.run_bind, run_zeroValue hz, Result.andThen, run_underlying hu, run_sizeOf hi, hs, hps, hzc, hfe, Sem.run_pure]
theorem run_equalIn_mapNil {P : Program} {w : World} {t k e d : Nat} {m : Option Nat} (hT : P.underlying t = some (.map k e)) : (Op.equalIn (d + 1) t (.map m) (.map none)).run P w = .ok m.isNone w := by
  simp only [Op.equalIn, Sem.run_bind, run_underlying hT, Result.andThen]
  cases m <;> rfl
/-- 'm == nil' of a map. -/
theorem ev_mapNil {t t' k e : Nat} {m : Option Nat} (hx : evalS S E x = some (.map m)) (hy : evalS S E y = some (.map none)) (hT : C.P.underlying t = some (.map k e)) : EvalOp C S E I loc ⟨dst, .binOp .eql t x y t', ty, pos, af, gd⟩ (.bool m.isNone) :=
  .of (by intro c e; cases e) fun a w ha hg hc _ => by
    have e1 : (eqGuard .eql t x y (.map m) (.map none)).run C.P w = .ok () w := by unfold eqGuard; rfl
    have e2 : (Op.equalIn 10000 t (.map m) (.map none)).run C.P w = .ok m.isNone w := run_equalIn_mapNil (d := 9999) hT
    simp only [execOp, evalS_sound ha hg hc hx, evalS_sound ha hg hc hy, Sem.run_bind, e1, Sem.run_pure, Result.andThen, binOp, Op.equal, Op.maxDepth, e2]
end Go.Kn
end
section
namespace Go.Kn
open Go Go.Sort
section
variable {g : World} {I I' H : HMap} {loc loc' L R : Loc} {w w' : World}
theorem St.grown (h : St g I H loc w) (os : Array Obj) : St g I H loc (grow w os) := by
  have key : ∀ (b : Nat) (o : Obj), w.heap[b]? = some o → (grow w os).heap[b]? = some o := fun b o e => by
    have hb : b < w.heap.size := (Array.getElem?_eq_some_iff.1 e).1
    simp only [grow]
    rw [Array.getElem?_append_left hb]; exact e
  exact ⟨h.os, h.tape, h.out, ⟨Nat.le_trans h.size.1 (by simp [grow]), h.size.2⟩, fun b o e => key b o (h.imm b o e), fun b o e => key b o (h.frm b o e), fun b o e => key b o (h.own b o e), h.sepIH, h.sepIL, h.nodup⟩
theorem St.aheadN (h : St g I H loc w) (n : Nat) : St g I H loc (Go.Sort.ahead w n) := ⟨h.os, h.tape, h.out, ⟨h.size.1, Nat.le_trans h.size.2 (by simp [Go.Sort.ahead])⟩, h.imm, h.frm, h.own, h.sepIH, h.sepIL, h.nodup⟩
theorem St.rowPut {α : Type} [Inhabited α] {enc : α → Value} {b : Nat} {cs : Array Value} {e : TypeId} {fz : Nat × Nat} (h : St g I H loc w) (d : Array α) (hu : Upd loc b (.cells cs e fz) (.cells (putCells enc 0 d cs) e fz) loc') : St g I H loc' (putRow enc w b 0 d) := by
  have hb := h.own _ _ hu.mem
  refine h.turn hu rfl rfl rfl (by simp) ?_ ?_
  · simp only [putRow, mapBlock, Array.getElem?_modify, if_pos rfl, hb, Option.map_some]; rfl
  · intro c hc
    simp only [putRow, mapBlock, Array.getElem?_modify, if_neg (Ne.symm hc)]
theorem take_put {α : Type} [Inhabited α] {enc : α → Value} {cs : Array Value} {n : Nat} (xs : List α) (hl : xs.length = n) (hc : n ≤ cs.size) : (putCells enc 0 xs.toArray cs).toList.take n = xs.map enc := by
  apply List.ext_getElem?
  intro i
  by_cases hi : i < n
  · rw [List.getElem?_take_of_lt hi, List.getElem?_map]
    have h1 : i < cs.size := by omega
    have h2 : i < xs.length := by omega
    have h3 : (putCells enc 0 xs.toArray cs)[i]? = some (enc xs[i]) := by
      simp only [putCells, Array.getElem?_mapIdx, Array.getElem?_eq_getElem h1, Option.map_some]
      have : (0 ≤ i ∧ i < 0 + xs.toArray.size) := by simp; omega
      rw [if_pos this]
      congr 2
      simp [h2]
    rw [Array.getElem?_toList, h3, List.getElem?_eq_getElem h2]; rfl
  · rw [List.getElem?_eq_none (by rw [List.length_take]; omega), List.getElem?_eq_none (by rw [List.length_map]; omega)]
theorem holds_own {α : Type} [Inhabited α] {enc : α → Value} {b : Nat} {cs : Array Value} {e : TypeId} (h : St g I H loc w) (hm : (b, Obj.cells cs e (0, 0)) ∈ loc) (xs : List α) (hl : cs.toList.take xs.length = xs.map enc) : Holds enc w b 0 xs.toArray := by
  have hb := h.own _ _ hm
  intro j hj
  have hj' : j < xs.length := by simpa using hj
  refine ⟨?_, ?_⟩
  · simp only [World.cell?, hb, Option.isSome_none, Bool.false_eq_true, if_false]
    have : (cs.toList.take xs.length)[j]? = some (enc xs[j]) := by rw [hl, List.getElem?_map, List.getElem?_eq_getElem hj']; rfl
    rw [List.getElem?_take_of_lt hj', Array.getElem?_toList] at this
    rw [show 0 + j = j from by omega, this]
    congr 2
    simp [hj']
  · simp only [World.frozen?, hb]; simp
/-- slices.Sort at one's own slice of ints, out of its contract. -/
theorem retSort {P : Program} {f : FuncId} {e : TypeId}
    (hs : ∀ (blk off cap : Nat) (zs : List Int) (w : World), Holds (Value.int .i64) w blk off zs.toArray → blk < w.heap.size → zs.length < 4611686018427387904 → Calls P f #[.slice (some ⟨blk, off, none⟩) zs.length cap] w fun e w' => e = .returned (.tuple #[]) ∧ ∃ n os, w' = grow (putRow (Value.int .i64) (Go.Sort.ahead w n) blk off (zs.mergeSort fun x y => decide (x ≤ y)).toArray) os)
    (h0 : ∀ (p : Option Addr) (cap : Nat) (w : World), Calls P f #[.slice p 0 cap] w fun e w' => e = .returned (.tuple #[]) ∧ w' = w)
    (zs : List Int) {v : Value} {n : Nat} {L : Loc} (hO : OwnS e 1 v n (zs.map (Value.int .i64)) L) (hn : n ≤ 1000000) (I : HMap) :
    RetM P f [v] I L (fun u I' L' => u = .tuple #[] ∧ I' = I ∧ OwnS e 1 v n ((zs.mergeSort fun x y => decide (x ≤ y)).map (Value.int .i64)) L') := by
  intro g H w hw
  have hl : zs.length = n := by have := hO.1; simpa using this
  subst hl
  rcases hO.2 with ⟨rfl, h00, rfl⟩ | ⟨b, c, cur, rfl, rfl, hc, hc2, hsz, htk⟩
  · have : zs = [] := List.length_eq_zero_iff.1 h00
    subst this
    refine (h0 none 0 w).mono ?_
    rintro e w' ⟨rfl, rfl⟩
    refine ⟨_, I, [], rfl, HLe.refl _, hw, rfl, rfl, by simp [List.mergeSort], .inl ⟨rfl, rfl, rfl⟩⟩
  · rw [Nat.mul_one] at hsz htk
    have hb := hw.own b _ (List.mem_singleton.2 rfl)
    refine (hs b 0 c zs w (holds_own hw (List.mem_singleton.2 rfl) zs htk) (Array.getElem?_eq_some_iff.1 hb).1 (by omega)).mono ?_
    rintro e w' ⟨rfl, k, os, rfl⟩
    refine ⟨_, I, _, rfl, HLe.refl _, (((hw.aheadN k).rowPut _ .here).grown os), rfl, rfl, by simp [List.length_mergeSort], .inr ⟨b, c, _, rfl, rfl, hc, hc2, by simp [putCells, hsz], ?_⟩⟩
    rw [Nat.mul_one]
    exact take_put _ (by simp [List.length_mergeSort]) (by omega)
theorem retCompact {P : Program} {f : FuncId} {e : TypeId} (co : List Int → List Int) (hco : ∀ zs, (co zs).length ≤ zs.length) (hcn : co [] = [])
    (hs : ∀ (blk off cap : Nat) (zs : List Int) (w : World), Holds (Value.int .i64) w blk off zs.toArray → zs.length ≤ 9223372036854775807 → zs.length ≤ cap → Calls P f #[.slice (some ⟨blk, off, none⟩) zs.length cap] w fun e w' => e = .returned (.slice (some ⟨blk, off, none⟩) (co zs).length cap) ∧ ∃ q, w' = putRow (Value.int .i64) (Go.Sort.ahead w q) blk off (co zs ++ List.replicate (zs.length - (co zs).length) 0).toArray)
    (h0 : ∀ (p : Option Addr) (cap : Nat) (w : World), Calls P f #[.slice p 0 cap] w fun e w' => e = .returned (.slice p 0 cap) ∧ w' = w)
    (zs : List Int) {v : Value} {n : Nat} {L : Loc} (hO : OwnS e 1 v n (zs.map (Value.int .i64)) L) (hn : n ≤ 1000000) (I : HMap) :
    RetM P f [v] I L (fun u I' L' => I' = I ∧ OwnS e 1 u (co zs).length ((co zs).map (Value.int .i64)) L') := by
  intro g H w hw
  have hl : zs.length = n := by have := hO.1; simpa using this
  subst hl
  have hle := hco zs
  rcases hO.2 with ⟨rfl, h00, rfl⟩ | ⟨b, c, cur, rfl, rfl, hc, hc2, hsz, htk⟩
  · have : zs = [] := List.length_eq_zero_iff.1 h00
    subst this
    refine (h0 none 0 w).mono ?_
    rintro e w' ⟨rfl, rfl⟩
    refine ⟨_, I, [], rfl, HLe.refl _, hw, rfl, by simp [hcn], .inl ⟨rfl, by simp [hcn], rfl⟩⟩
  · rw [Nat.mul_one] at hsz htk
    refine (hs b 0 c zs w (holds_own hw (List.mem_singleton.2 rfl) zs htk) (by omega) hc).mono ?_
    rintro e w' ⟨rfl, k, rfl⟩
    refine ⟨_, I, _, rfl, HLe.refl _, (hw.aheadN k).rowPut _ .here, rfl, by simp, .inr ⟨b, c, _, rfl, rfl, by omega, hc2, by simp [putCells, hsz], ?_⟩⟩
    rw [Nat.mul_one]
    have h1 := take_put (enc := Value.int .i64) (cs := cur) (n := zs.length) (co zs ++ List.replicate (zs.length - (co zs).length) 0) (by simp; omega) (by omega)
    have h2 := congrArg (List.take (co zs).length) h1
    rw [List.take_take, Nat.min_eq_left hle] at h2
    rw [h2]; simp
end
end Go.Kn
end
section
namespace Go.Kn
open Go
section
variable {g : World} {I I' H : HMap} {loc loc' L R : Loc} {w w' : World}
/-- What was made by append, where its block can be read. -/
theorem OwnS.sl {α : Type} {e size : Nat} {enc : α → List Value} {v : Value} {n : Nat} {xs : List α} (hO : OwnS e size v n (xs.flatMap enc) L) (hs : ∀ x, (enc x).length = size) (hsz : 0 < size) (hI : ∀ b o, (b, o) ∈ L → I b = some o) : ∃ av c, v = .slice av n c ∧ Sl I size enc av n c xs := by
  have hn : xs.length = n := by
    have := hO.1
    rw [flat_len hs] at this
    exact Nat.eq_of_mul_eq_mul_right hsz this
  rcases hO.2 with ⟨rfl, rfl, rfl⟩ | ⟨b, c, cur, rfl, rfl, hc, _, hcs, htake⟩
  · have : xs = [] := List.length_eq_zero_iff.1 hn
    subst this
    exact ⟨none, 0, rfl, .nil⟩
  · have h3 := hI b _ (List.mem_cons_self ..)
    refine ⟨_, _, rfl, hn, hc, fun _ => rfl, fun k x hx j u hu => .imm h3 ?_⟩
    rw [lget_eq]
    simp only [Ao, Nat.zero_add]
    have hq := flat_at hs xs k x hx j u hu
    rw [← htake, List.getElem?_take] at hq
    split at hq
    · simpa using hq
    · cases hq
/-- Slices of one's own, one after the other. -/
def OwnAll (e size : Nat) : List (Value × Nat × List Value) → Loc → Prop
  | [], L => L = []
  | t :: ts, L => ∃ L1 L2, L = L1 ++ L2 ∧ OwnS e size t.1 t.2.1 t.2.2 L1 ∧ OwnAll e size ts L2
def nilT : Value × Nat × List Value := (.slice none 0 0, 0, [])
theorem OwnAll.nil {e size : Nat} : OwnAll e size [] [] := rfl
/-- One of them, and what it is to turn it. -/
theorem OwnAll.at {α : Type} [DecidableEq α] {e size : Nat} (a : α) : ∀ {m : List (α × (Value × Nat × List Value))} {L : Loc}, OwnAll e size (m.map (·.2)) L →
    ∃ A Lt B, L = A ++ (Lt ++ B) ∧ OwnS e size ((mget m a).getD nilT).1 ((mget m a).getD nilT).2.1 ((mget m a).getD nilT).2.2 Lt ∧ ∀ t' Lt', OwnS e size t'.1 t'.2.1 t'.2.2 Lt' → OwnAll e size ((mset m a t').map (·.2)) (A ++ (Lt' ++ B))
  | [], L, h => by
    have h : L = [] := h
    subst h
    exact ⟨[], [], [], rfl, .nil, fun t' Lt' h' => ⟨Lt', [], by simp, h', rfl⟩⟩
  | p :: m, L, ⟨L1, L2, e1, h1, h2⟩ => by
    by_cases hp : p.1 = a
    · refine ⟨[], L1, L2, by rw [e1]; rfl, by simp only [mget, if_pos hp]; exact h1, fun t' Lt' h' => ?_⟩
      simp only [mset, if_pos hp, List.map_cons]
      exact ⟨Lt', L2, rfl, h', h2⟩
    · obtain ⟨A, Lt, B, e2, h3, h4⟩ := OwnAll.at a h2
      refine ⟨L1 ++ A, Lt, B, by rw [e1, e2, List.append_assoc], by simp only [mget, if_neg hp]; exact h3, fun t' Lt' h' => ?_⟩
      simp only [mset, if_neg hp, List.map_cons]
      exact ⟨L1, A ++ (Lt' ++ B), by rw [List.append_assoc], h1, h4 t' Lt' h'⟩
end
variable {C : Cx} {Q : Exit → Act → World → Prop} {E : Env} {I : HMap} {loc : Loc}
/-- All own blocks are read from now on. -/
theorem X_freezeAll {c : Code} (h : ∀ I', HLe I I' → (∀ b o, (b, o) ∈ loc → I' b = some o) → X C Q c E I' []) : X C Q c E I loc := fun a w ha hw => by
  obtain ⟨I', h1, h2, h3⟩ := hw.freezeAll
  exact h I' h1 h3 a w ha h2
theorem mget_mset {α β : Type} [DecidableEq α] : ∀ (m : List (α × β)) (a x : α) (b : β), mget (mset m a b) x = if a = x then some b else mget m x
  | [], a, x, b => by simp [mset, mget]
  | p :: m, a, x, b => by
    unfold mset
    by_cases h : p.1 = a
    · rw [if_pos h]
      simp only [mget]
      by_cases h2 : a = x
      · rw [if_pos h2, if_pos h2]
      · rw [if_neg h2, if_neg h2, if_neg (by rw [h]; exact h2)]
    · rw [if_neg h]
      simp only [mget]
      rw [mget_mset m a x b]
      by_cases h2 : p.1 = x
      · rw [if_pos h2, if_pos h2, if_neg (fun e => h (by rw [h2, e]))]
      · rw [if_neg h2, if_neg h2]
theorem mget_mem {α β : Type} [DecidableEq α] : ∀ {m : List (α × β)} {a : α} {b : β}, mget m a = some b → (a, b) ∈ m
  | [], _, _, h => by cases h
  | p :: m, a, b, h => by
    unfold mget at h
    split at h
    · rename_i e
      cases h
      rw [← e]; exact List.mem_cons_self ..
    · exact List.mem_cons_of_mem _ (mget_mem h)
theorem mget_none {α β : Type} [DecidableEq α] : ∀ {m : List (α × β)} {a : α}, mget m a = none ↔ a ∉ m.map (·.1)
  | [], a => by simp [mget]
  | p :: m, a => by
    unfold mget
    by_cases h : p.1 = a
    · simp [h]
    · rw [if_neg h, mget_none, List.map_cons, List.mem_cons, not_or]
      exact ⟨fun h2 => ⟨fun e => h e.symm, h2⟩, fun h2 => h2.2⟩
theorem mset_keys {α β : Type} [DecidableEq α] : ∀ (m : List (α × β)) (a : α) (b : β), (mset m a b).map (·.1) = if a ∈ m.map (·.1) then m.map (·.1) else m.map (·.1) ++ [a]
  | [], a, b => by simp [mset]
  | p :: m, a, b => by
    unfold mset
    by_cases h : p.1 = a
    · simp [h]
    · rw [if_neg h, List.map_cons, mset_keys m a b]
      by_cases h2 : a ∈ m.map (·.1)
      · rw [if_pos h2, if_pos (by simp only [List.map_cons]; exact List.mem_cons_of_mem _ h2)]; rfl
      · rw [if_neg h2, if_neg (by simp only [List.map_cons, List.mem_cons, not_or]; exact ⟨fun e => h e.symm, h2⟩)]; rfl
theorem mset_nodup {α β : Type} [DecidableEq α] {m : List (α × β)} (a : α) (b : β) (h : (m.map (·.1)).Nodup) : ((mset m a b).map (·.1)).Nodup := by
  rw [mset_keys]
  split
  · exact h
  · rename_i h2
    rw [List.nodup_append]
    exact ⟨h, by simp, fun x hx y hy e => by simp at hy; subst hy; subst e; exact h2 hx⟩
theorem mget_at {α β : Type} [DecidableEq α] {m : List (α × β)} (h : (m.map (·.1)).Nodup) {p : α × β} (hp : p ∈ m) : mget m p.1 = some p.2 := by
  induction m with
  | nil => cases hp
  | cons q m ih =>
    rw [List.map_cons, List.nodup_cons] at h
    unfold mget
    rcases List.mem_cons.1 hp with rfl | hp
    · rw [if_pos rfl]
    · rw [if_neg (fun e => h.1 (by rw [e]; exact List.mem_map.2 ⟨p, hp, rfl⟩)), ih h.2 hp]
/-- A set of keys. -/
def setM {α : Type} [DecidableEq α] (s : List (α × Bool)) (a : α) : Bool := (mget s a).getD false
theorem setM_put {α : Type} [DecidableEq α] (s : List (α × Bool)) (a x : α) : setM (mset s a true) x = (decide (a = x) || setM s x) := by
  unfold setM
  rw [mget_mset]
  by_cases h : a = x
  · simp [h]
  · simp [h]
end Go.Kn
end
section
namespace Go.Kn
open Go
section
variable {I : HMap} {b off : Nat} {vs : List Value} {A : Array Value} {t : TypeId} {fz : Nat × Nat} {l : Loc}
variable {p0 p1 p2 p3 p4 p5 p6 p7 p8 p9 : Nat × Obj}
theorem Cells.s0 (h : (A.toList.drop off).take vs.length = vs) : Cells I ((b, .cells A t fz) :: l) b off vs := fun j v hv => by
  refine Cell.here ?_
  rw [lget_eq]
  rw [← h] at hv
  rw [List.getElem?_take] at hv
  split at hv
  · rw [List.getElem?_drop] at hv; exact hv
  · cases hv
theorem Cells.s1 (h : (A.toList.drop off).take vs.length = vs) : Cells I (p0 :: (b, .cells A t fz) :: l) b off vs := (Cells.s0 h).there
theorem Cells.s2 (h : (A.toList.drop off).take vs.length = vs) : Cells I (p0 :: p1 :: (b, .cells A t fz) :: l) b off vs := (Cells.s1 h).there
end
/-- A store of several cells into a block. -/
theorem run_storeCells_seg {P : Program} {g : World} {I H : HMap} {post : List Value} {off : Nat} : ∀ (vs : List Value) (pre : List Value) (w : World) (loc loc' : Loc) (b : Nat) (t : TypeId) (old : List Value) (k : Nat), pre.length = off + k → old.length = vs.length → (∀ v ∈ vs, v.oneCell' = true) → St g I H loc w →
    Upd loc b (.cells (pre ++ (old ++ post)).toArray t (0, 0)) (.cells (pre ++ (vs ++ post)).toArray t (0, 0)) loc' → ∃ w', (storeCells ⟨b, off, none⟩ vs k).run P w = .ok () w' ∧ St g I H loc' w'
  | [], pre, w, loc, loc', b, t, old, k, _, hl, _, hw, hu => by
    have : old = [] := List.length_eq_zero_iff.1 hl
    subst this
    refine ⟨w, rfl, ?_⟩
    have hb := hw.own _ _ hu.mem
    exact hw.turn hu rfl rfl rfl rfl hb (fun _ _ => rfl)
  | v :: vs, pre, w, loc, loc', b, t, old, k, hp, hl, h1, hw, hu => by
    cases old with
    | nil => simp at hl
    | cons u old =>
      have hb := hw.own _ _ hu.mem
      have hc : w.cell? ⟨b, off + k, none⟩ = some u := by simp [World.cell?, hb, ← hp]
      have hfz := frozen_free (off := off + k) hw hu.mem
      obtain ⟨l1, u1, u2⟩ := hu.middle (.cells ((pre ++ [v]) ++ (old ++ post)).toArray t (0, 0))
      have hset : ((pre ++ (u :: old ++ post)).toArray.setIfInBounds (off + k) v) = ((pre ++ [v]) ++ (old ++ post)).toArray := by rw [← hp]; simp
      rw [← hset] at u1
      have hw1 := hw.setCell u1
      rw [hset] at u1
      obtain ⟨w', hr, hs⟩ := run_storeCells_seg (P := P) (post := post) (off := off) vs (pre ++ [v]) _ l1 loc' b t old (k + 1) (by simp; omega) (by simpa using hl) (fun x hx => h1 x (List.mem_cons_of_mem _ hx)) hw1 (by simpa using u2)
      refine ⟨w', ?_, hs⟩
      simp only [storeCells, Sem.run_bind, add_plain, run_store _ _ _ _ _ (h1 v (List.mem_cons_self ..)), hc, hfz, Bool.false_eq_true, if_false, Result.andThen, hr]
variable {C : Cx} {Q : Exit → Act → World → Prop} {E E' : Env} {I I' : HMap} {loc loc' L R : Loc} {ops : Array Oper} {rest : List Oper} {S : GS}
variable {dst : Option Tmp} {d : Nat} {ty : TypeId} {pos : String} {af : Array Edge} {gd : Option (Nat × Bool)} {x y z : Operand}
theorem splice_eq {A : List Value} {off n : Nat} {vs : List Value} (h : off + n ≤ A.length) (hn : vs.length = n) : spliceL A off vs = A.take off ++ (vs ++ A.drop (off + n)) := by
  have e : A = A.take off ++ (A.drop off).take n ++ A.drop (off + n) := by
    rw [List.append_assoc]
    have : (A.drop off).take n ++ A.drop (off + n) = A.drop off := by rw [← List.drop_drop]; exact List.take_append_drop _ _
    rw [this, List.take_append_drop]
  have hl1 : (A.take off).length = off := by rw [List.length_take]; omega
  have := spliceL_app (A.take off) ((A.drop off).take n) vs (A.drop (off + n)) (by rw [List.length_take, List.length_drop]; omega)
  rw [← e, hl1, List.append_assoc] at this
  exact this
theorem XO_storeP {t t' b off n : Nat} {vs : List Value} {A : List Value} (hx : evalS [] E x = some (.pointer (some ⟨b, off, none⟩))) (hy : evalS [] E y = some (.agg vs.toArray)) (hT : SzT C.P t n) (hn : vs.length = n) (ho : Nat.ble (off + n) A.length = true) (h1 : allOne vs = true) (hG : gd = none)
    (hu : Upd loc b (.cells A.toArray t' (0, 0)) (.cells (spliceL A off vs).toArray t' (0, 0)) loc') (h : XO C Q ops rest [] E I loc') :
    XO C Q ops (⟨none, .store t x y, ty, pos, af, gd⟩ :: rest) [] E I loc :=
  XO_world hG (by intro c e; cases e) fun a w ha hw => by
    obtain ⟨i, hi, hs⟩ := hT
    have hle := Nat.le_of_ble_eq_true ho
    have e : A = A.take off ++ ((A.drop off).take n ++ A.drop (off + n)) := by
      have : (A.drop off).take n ++ A.drop (off + n) = A.drop off := by rw [← List.drop_drop]; exact List.take_append_drop _ _
      rw [this, List.take_append_drop]
    rw [splice_eq hle hn] at hu
    have hu2 : Upd loc b (.cells (A.take off ++ ((A.drop off).take n ++ A.drop (off + n))).toArray t' (0, 0)) (.cells (A.take off ++ (vs ++ A.drop (off + n))).toArray t' (0, 0)) loc' := by rw [← e]; exact hu
    obtain ⟨w', hr, hs'⟩ := run_storeCells_seg (P := C.P) (off := off) vs (A.take off) w loc loc' b t' ((A.drop off).take n) 0 (by rw [List.length_take]; omega) (by rw [List.length_take, List.length_drop]; omega) (allOne_iff h1) hw hu2
    simp only [execOp, evalS_sound (S := []) ha trivial rfl hx, evalS_sound (S := []) ha trivial rfl hy, Instr.storeAt, Instr.sureAddr, Sem.run_bind, Sem.run_pure, Result.andThen, storeVar, run_sizeOf hi, hs, Value.cells, List.size_toArray, hn, ne_eq, not_true_eq_false, if_false]
    simp only [hr, Oper.uponIn_skip]
    exact h _ _ ha trivial hs'
theorem ev_nilCheck {a : Addr} (hx : evalS S E x = some (.pointer (some a))) : EvalOp C S E I loc ⟨dst, .nilCheck x, ty, pos, af, gd⟩ (.pointer (some a)) :=
  .of (by intro c e; cases e) fun ac w ha hg hc _ => by
    simp only [execOp, evalS_sound ha hg hc hx]; rfl
theorem ev_negU {t : TypeId} {k : IntKind} {a : Int} (hx : evalS S E x = some (.int k a)) : EvalOp C S E I loc ⟨dst, .unOp .neg t x, ty, pos, af, gd⟩ (.int k (k.wrap (0 - a))) :=
  .of (by intro c e; cases e) fun ac w ha hg hc _ => by
    simp only [execOp, evalS_sound ha hg hc hx]; rfl
section
variable {P : Program} {fn : Func} {N : Nat} {g : World} {I H : HMap} {loc : Loc} {E : Env}
theorem res1c {D : List Deferred} {t tt b : Nat} {v : Value} (hr : fn.results = #[.cell t tt]) (hv : look E t = some (.pointer (some ⟨b, 0, none⟩))) (hT : ScT P tt) (hc : Cell I loc b 0 v) (a : Act) (ha : Fits N D E a) (w : World) (hw : St g I H loc w) : (results fn a.tmps).run P w = .ok v w := by
  have e1 := ha.env _ _ hv
  rw [Array.getD_eq_getD_getElem?] at e1
  have l1 : (loadVar tt ⟨b, 0, none⟩).run P w = .ok v w := by
    simp only [loadVar, Sem.run_bind, run_isAgg_sc hT, Result.andThen, Bool.false_eq_true, if_false, run_load, hc.get hw]
  simp only [results, hr]
  simp [List.mapM_cons, e1, asAddr, l1]
end
end Go.Kn
namespace Go.Kn
open Go
section
variable {C : Cx} {E : Env} {I : HMap} {loc : Loc} {S : GS} {dst : Option Tmp} {ty : TypeId} {pos : String} {af : Array Edge} {gd : Option (Nat × Bool)} {x y : Operand}
variable {α β : Type} [DecidableEq α] {ek : α → Value} {ev : β → Value} {m : List (α × β)} {a : α}
/-- A look-up that finds. -/
theorem ev_lookupG {t k e r : Nat} {zv : Value} {b : β} (hget : mget m a = some b) (hT : MpT C.P t k e zv) (hK : KeyOK C.P k ek) (hx : evalS S E x = some (.map (some r))) (hy : evalS S E y = some (ek a)) (hm : conj S = true → Mem I loc r (mapO ek ev m)) :
    EvalOp C S E I loc ⟨dst, .lookup t x y false, ty, pos, af, gd⟩ (ev b) := by
  have := ev_lookup (C := C) (S := S) (dst := dst) (ty := ty) (pos := pos) (af := af) (gd := gd) hT hK hx hy hm
  rw [hget] at this
  exact this
end
end Go.Kn
end
section
namespace Go.Kn
open Go
section
variable {C : Cx} {E : Env} {I : HMap} {loc : Loc} {S : GS} {dst : Option Tmp} {ty : TypeId} {pos : String} {af : Array Edge} {gd : Option (Nat × Bool)} {x y : Operand}
variable {α : Type} [DecidableEq α] {ek : α → Value} {a : α}
def fstT (t : Value × Nat × List Value) : Value := t.1
theorem ev_lookupT {m : List (α × (Value × Nat × List Value))} {t k e r : Nat} (hT : MpT C.P t k e (.slice none 0 0)) (hK : KeyOK C.P k ek) (hx : evalS S E x = some (.map (some r))) (hy : evalS S E y = some (ek a)) (hm : conj S = true → Mem I loc r (mapO ek fstT m)) :
    EvalOp C S E I loc ⟨dst, .lookup t x y false, ty, pos, af, gd⟩ (((mget m a).getD nilT).1) := by
  have := ev_lookup (C := C) (S := S) (dst := dst) (ty := ty) (pos := pos) (af := af) (gd := gd) hT hK hx hy hm
  cases h : mget m a with
  | none => rw [h] at this; exact this
  | some b => rw [h] at this; exact this
theorem ev_lookupTE {m : List (α × (Value × Nat × List Value))} {v : Value} (hv : ((mget m a).getD nilT).1 = v) {t k e r : Nat} (hT : MpT C.P t k e (.slice none 0 0)) (hK : KeyOK C.P k ek) (hx : evalS S E x = some (.map (some r))) (hy : evalS S E y = some (ek a)) (hm : conj S = true → Mem I loc r (mapO ek fstT m)) :
    EvalOp C S E I loc ⟨dst, .lookup t x y false, ty, pos, af, gd⟩ v := by
  rw [← hv]; exact ev_lookupT hT hK hx hy hm
/-- A look-up of a number, with whether it is there. -/
theorem ev_lookupOkI {m : List (α × Int)} {t k e r : Nat} {ik : IntKind} (hT : MpT C.P t k e (.int ik 0)) (hK : KeyOK C.P k ek) (hx : evalS S E x = some (.map (some r))) (hy : evalS S E y = some (ek a)) (hm : conj S = true → Mem I loc r (mapO ek (Value.int ik) m)) :
    EvalOp C S E I loc ⟨dst, .lookup t x y true, ty, pos, af, gd⟩ (.tuple #[.int ik ((mget m a).getD 0), .bool (mget m a).isSome]) := by
  have := ev_lookupOk (C := C) (S := S) (dst := dst) (ty := ty) (pos := pos) (af := af) (gd := gd) hT hK hx hy hm
  cases h : mget m a with
  | none => rw [h] at this; exact this
  | some b => rw [h] at this; exact this
end
end Go.Kn
namespace Go.Kn
open Go
section
variable {C : Cx} {E : Env} {I : HMap} {loc : Loc} {S : GS} {dst : Option Tmp} {ty : TypeId} {pos : String} {af : Array Edge} {gd : Option (Nat × Bool)} {x y : Operand}
variable {α : Type} [DecidableEq α] {ek : α → Value} {a : α}
def mapV (b : Nat) : Value := .map (some b)
/-- A look-up of a map: the nil map where there is none. -/
theorem ev_lookupM {m : List (α × Nat)} {t k e r : Nat} (hT : MpT C.P t k e (.map none)) (hK : KeyOK C.P k ek) (hx : evalS S E x = some (.map (some r))) (hy : evalS S E y = some (ek a)) (hm : conj S = true → Mem I loc r (mapO ek mapV m)) :
    EvalOp C S E I loc ⟨dst, .lookup t x y false, ty, pos, af, gd⟩ (.map (mget m a)) := by
  have := ev_lookup (C := C) (S := S) (dst := dst) (ty := ty) (pos := pos) (af := af) (gd := gd) hT hK hx hy hm
  cases h : mget m a with
  | none => rw [h] at this; exact this
  | some b => rw [h] at this; exact this
end
end Go.Kn
end
section
namespace Go.Kn
open Go
theorem key_arr2 {P : Program} {t e : Nat} (hT : Ar2 P t e .i64) : KeyOK (α := Int × Int) P t encK2 := by
  obtain ⟨hu, hi, hc, he, hg⟩ := hT
  obtain ⟨i, hi2⟩ := Option.isSome_iff_exists.1 hi
  have hsz : i.size = 1 := by have := hc; unfold Program.cellsOf at this; rw [hi2] at this; exact this
  refine .of_asking hu (fun b a w => ?_) (fun a => by simp [encK2, Instr.sameBits]) (fun a b => rfl) (fun a b w => ?_)
  · have hp : ∀ (xs : Array Value) (q : Nat) (u : Value), xs[q]? = some u → (part e xs q).run P w = .ok u w := fun xs q u h => by
      simp only [part, Sem.run_bind, run_isAgg_sc (P := P) ⟨_, he, trivial⟩, Result.andThen, Bool.false_eq_true, if_false, h, Sem.run_pure]
    have ck : ∀ (x : Int) (q : Nat), (Instr.checkKey b (q + 1) e (.int .i64 x)).run P w = .ok () w := fun x q => by
      simp only [Instr.checkKey, Sem.run_bind, run_underlying he, Result.andThen]; rfl
    have key : ∀ q, (Instr.checkKey b (q + 2) t (encK2 a)).run P w = .ok () w := fun q => by
      unfold Instr.checkKey
      simp only [encK2, Sem.run_bind, run_underlying hu, Result.andThen_ok]
      simp only [Std.Legacy.Range.forIn_eq_forIn_range', Std.Legacy.Range.size, Nat.sub_zero, Nat.add_one_sub_one, Nat.div_one]
      simp only [List.range', List.forIn_cons, List.forIn_nil, Sem.run_bind, run_sizeOf hi2, hsz, Result.andThen_ok, Nat.zero_mul, Nat.zero_add, Nat.one_mul, Nat.mul_one,
        hp #[.int .i64 a.1, .int .i64 a.2] 0 (.int .i64 a.1) rfl, hp #[.int .i64 a.1, .int .i64 a.2] 1 (.int .i64 a.2) rfl, ck, Sem.run_pure]
    exact key 9998
  · have e := run_ar2 (P := P) (t := t) ⟨hu, hi, hc, he, hg⟩ w a.1 a.2 b.1 b.2 9998
    have e2 : (Op.equal t (encK2 a) (encK2 b)).run P w = .ok (a.1 == b.1 && a.2 == b.2) w := by
      simp only [Op.equal, Op.maxDepth, encK2]; exact e
    rw [e2]
    congr 1
    obtain ⟨a1, a2⟩ := a; obtain ⟨b1, b2⟩ := b
    by_cases h1 : a1 = b1 <;> by_cases h2 : a2 = b2 <;> simp [h1, h2]
theorem ck_sc {P : Program} {b : Bool} {n : Nat} {t : TypeId} {q : EqK} {v : Value} {w : World} (hk : kindOf P t = some q) : (Instr.checkKey b (n + 1) t v).run P w = .ok () w := by
  unfold kindOf at hk
  cases hu : P.underlying t with
  | none => rw [hu] at hk; cases hk
  | some td =>
    rw [hu] at hk
    cases td <;> simp only [Option.some.injEq, reduceCtorEq] at hk
    all_goals (simp only [Instr.checkKey, Sem.run_bind, run_underlying hu, Result.andThen]; rfl)
theorem kind_sc {P : Program} {t : TypeId} {q : EqK} (hk : kindOf P t = some q) : ScT P t := by
  unfold kindOf at hk
  cases hu : P.underlying t with
  | none => rw [hu] at hk; cases hk
  | some td =>
    rw [hu] at hk
    cases td <;> simp only [Option.some.injEq, reduceCtorEq] at hk
    all_goals exact ⟨_, hu, trivial⟩
theorem ck_struct {P : Program} {b : Bool} {n : Nat} {t : TypeId} {fs : Array Field} {cs : Array Value} {w : World} (hu : P.underlying t = some (.struct fs))
    (h : ∀ f ∈ fs.toList, f.name ≠ "_" ∧ ∃ a, (part f.type cs f.offset).run P w = .ok a w ∧ (Instr.checkKey b n f.type a).run P w = .ok () w) : (Instr.checkKey b (n + 1) t (.agg cs)).run P w = .ok () w := by
  rw [Instr.checkKey]
  simp only [Sem.run_bind, run_underlying hu, Result.andThen_ok]
  rw [← Array.forIn_toList]
  generalize fs.toList = L at h
  induction L with
  | nil => simp
  | cons f L ih =>
    obtain ⟨hn, a, p1, p2⟩ := h f (by simp)
    simp only [List.forIn_cons, Sem.run_bind, hn, ne_eq, not_false_eq_true, if_true, Result.andThen_ok, p1, p2, Sem.run_pure]
    exact ih (fun y hy => h y (by simp [hy]))
theorem fields_ok1 {P : Program} {b : Bool} {n : Nat} {w : World} : ∀ (fs : List Field) (ks : List EqK) (k : Nat) (pre xs : List Value), flatKs P fs k = some ks → pre.length = k → xs.length = ks.length →
    ∀ f ∈ fs, f.name ≠ "_" ∧ ∃ a, (part f.type (pre ++ xs).toArray f.offset).run P w = .ok a w ∧ (Instr.checkKey b (n + 1) f.type a).run P w = .ok () w
  | [], _, _, _, _, _, _, _, f, hf => by cases hf
  | g :: fs, ks, k, pre, xs, hf, hp, hx, f, hfm => by
    simp only [flatKs] at hf
    split at hf
    · rename_i hn
      cases hk : kindOf P g.type with
      | none => rw [hk] at hf; simp at hf
      | some q =>
        cases hl : flatKs P fs (k + 1) with
        | none => rw [hk, hl] at hf; simp at hf
        | some l =>
          rw [hk, hl] at hf
          simp only [Option.some.injEq] at hf
          subst hf
          cases xs with
          | nil => simp at hx
          | cons u us =>
            rcases List.mem_cons.1 hfm with rfl | hfm
            · exact ⟨hn.1, u, run_part_sc (kind_sc hk) (by rw [hn.2, ← hp]; simp), ck_sc hk⟩
            · have := fields_ok1 (P := P) (b := b) (n := n) (w := w) fs l (k + 1) (pre ++ [u]) us hl (by simp [hp]) (by simpa using hx) f hfm
              simpa using this
    · cases hf
theorem fields_ok2 {P : Program} {b : Bool} {n : Nat} {w : World} : ∀ (fs : List Field) (ks : List EqK) (k : Nat) (pre xs : List Value), flat2 P fs k = some ks → pre.length = k → xs.length = ks.length →
    ∀ f ∈ fs, f.name ≠ "_" ∧ ∃ a, (part f.type (pre ++ xs).toArray f.offset).run P w = .ok a w ∧ (Instr.checkKey b (n + 2) f.type a).run P w = .ok () w
  | [], _, _, _, _, _, _, _, f, hf => by cases hf
  | g :: fs, ks, k, pre, xs, hf, hp, hx, f, hfm => by
    simp only [flat2] at hf
    split at hf
    · rename_i hn
      cases hk : kindOf P g.type with
      | some q =>
        rw [hk] at hf
        simp only [Option.map_eq_some_iff] at hf
        obtain ⟨l, hl, rfl⟩ := hf
        cases xs with
        | nil => simp at hx
        | cons u us =>
          rcases List.mem_cons.1 hfm with rfl | hfm
          · exact ⟨hn.1, u, run_part_sc (kind_sc hk) (by rw [hn.2, ← hp]; simp), ck_sc hk⟩
          · have := fields_ok2 (P := P) (b := b) (n := n) (w := w) fs l (k + 1) (pre ++ [u]) us hl (by simp [hp]) (by simpa using hx) f hfm
            simpa using this
      | none =>
        rw [hk] at hf
        simp only at hf
        cases hu : P.underlying g.type with
        | none => rw [hu] at hf; cases hf
        | some td =>
          rw [hu] at hf
          cases td <;> simp only [reduceCtorEq] at hf
          rename_i gs
          split at hf
          · cases hfl : flatKs P gs.toList 0 with
            | none => rw [hfl] at hf; simp at hf
            | some l2 =>
              cases hin : P.info? g.type with
              | none => rw [hfl, hin] at hf; simp at hf
              | some i =>
                rw [hfl, hin] at hf
                simp only at hf
                split at hf
                · rename_i hsz
                  simp only [Option.map_eq_some_iff] at hf
                  obtain ⟨l, hl, rfl⟩ := hf
                  have hx2 : xs.length = l2.length + l.length := by simpa using hx
                  have hsp : xs = xs.take l2.length ++ xs.drop l2.length := (List.take_append_drop ..).symm
                  have ht : (xs.take l2.length).length = l2.length := by rw [List.length_take]; omega
                  have hag : AgT P g.type l2.length := ⟨⟨_, hu, trivial⟩, i, hin, hsz⟩
                  rcases List.mem_cons.1 hfm with rfl | hfm
                  · refine ⟨hn.1, .agg (xs.take l2.length).toArray, ?_, ?_⟩
                    · rw [run_part_ag hag, hn.2]
                      conv => lhs; rw [hsp]
                      rw [extract_mid pre _ _ k l2.length hp ht]
                    · have := fields_ok1 (P := P) (b := b) (n := n) (w := w) gs.toList l2 0 [] (xs.take l2.length) hfl rfl ht
                      exact ck_struct hu (by simpa using this)
                  · have := fields_ok2 (P := P) (b := b) (n := n) (w := w) fs l (k + l2.length) (pre ++ xs.take l2.length) (xs.drop l2.length) hl (by simp [hp, ht]) (by rw [List.length_drop]; omega) f hfm
                    rw [List.append_assoc, ← hsp] at this
                    exact this
                · cases hf
          · cases hf
    · cases hf
theorem key_flat2 {α : Type} [DecidableEq α] {P : Program} {t : Nat} {ks : List EqK} {enc : α → List Value} (hT : EqT2 P t ks) (hl : ∀ a, (enc a).length = ks.length) (heq : ∀ a b, eqKs ks (enc a) (enc b) = some (decide (a = b)))
    (hb : ∀ a, Instr.sameBits 10000 (.agg (enc a).toArray) (.agg (enc a).toArray) = true) : KeyOK P t (fun a => .agg (enc a).toArray) := by
  refine .of_asking hT.1 (fun b a w => ?_) hb (fun a b => rfl) (fun a b w => ?_)
  · have := fields_ok2 (P := P) (b := b) (n := 9997) (w := w) (P.fieldsOf t).toList ks 0 [] (enc a) hT.2.2.2 rfl (hl a)
    exact ck_struct (n := 9999) hT.1 (by simpa using this)
  · have := run_eqFields2 (P := P) (w := w) 9997 _ _ 0 [] (enc a) [] (enc b) _ hT.2.2.2 rfl rfl (heq a b)
    simp only [List.nil_append] at this
    simp only [Op.equal, Op.maxDepth, run_equalIn_struct w 9999 t _ _ hT.1 hT.2.1, this]
theorem mpos_mset {α β : Type} [DecidableEq α] (m : List (α × β)) (a : α) (b : β) : mpos (mset m a b) a = mpos m a := by
  have key : ∀ (m : List (α × β)) (k : Nat), ((midx (mset m a b) a k).map (·.1)).getD (k + (mset m a b).length) = ((midx m a k).map (·.1)).getD (k + m.length) := by
    intro m
    induction m with
    | nil => intro k; simp [mset, midx]
    | cons p m ih =>
      intro k
      unfold mset
      by_cases h : p.1 = a
      · rw [if_pos h]; simp [midx, h]
      · rw [if_neg h]
        simp only [midx, if_neg h, List.length_cons]
        have := ih (k + 1)
        rw [show k + ((mset m a b).length + 1) = k + 1 + (mset m a b).length by omega, show k + (m.length + 1) = k + 1 + m.length by omega]
        exact this
  have := key m 0
  simpa [mpos] using this
theorem OwnS.val {e size n : Nat} {v : Value} {xs : List Value} {L : Loc} (h : OwnS e size v n xs L) : ∃ a m c, v = .slice a m c := by
  rcases h.2 with ⟨h1, _⟩ | ⟨b, c, cur, h1, _⟩
  · exact ⟨_, _, _, h1⟩
  · exact ⟨_, _, _, h1⟩
theorem mset_mset {α β : Type} [DecidableEq α] : ∀ (m : List (α × β)) (a : α) (b c : β), mset (mset m a b) a c = mset m a c
  | [], a, b, c => by simp [mset]
  | p :: m, a, b, c => by
    by_cases h : p.1 = a
    · simp [mset, h]
    · simp only [mset, if_neg h, mset_mset m a b c]
section
variable {P : Program} {fn : Func} {R : Ending → World → Prop} {N : Nat} {g : World} {I H : HMap} {loc : Loc} {E : Env} {r : Option Nat}
/-- Two results, the first of which lies in a block of several cells. -/
theorem at_ret2A {t u tt n b : Nat} {vs : List Value} {v' : Value} (hr : fn.results = #[.cell t tt, .tmp u]) (hv : look E t = some (.pointer (some ⟨b, 0, none⟩))) (hv' : look E u = some v') (hA : AgT P tt n) (hc : Cells I loc b 0 vs) (hn : vs.length = n)
    (h : ∀ w, St g I H loc w → R (.returned (.tuple #[.agg vs.toArray, v'])) w) : At ⟨P, r, N, [], g, H⟩ (bodyPost P fn R) .ret E I loc := fun a w ha hw =>
  ⟨ha.defers, .tuple #[.agg vs.toArray, v'], by
    have e1 := ha.env _ _ hv
    have e2 := ha.env _ _ hv'
    rw [Array.getD_eq_getD_getElem?] at e1 e2
    have h1 : (loadCells ⟨b, 0, none⟩ n).run P w = .ok vs.toArray w := by
      rw [← hn]
      exact run_loadCells_list w _ _ fun j v hj => by rw [add_plain]; exact (hc j v hj).get hw
    have hA' := hA
    obtain ⟨_, i, h2, h3⟩ := hA'
    have l1 : (loadVar tt ⟨b, 0, none⟩).run P w = .ok (.agg vs.toArray) w := by
      simp only [loadVar, Sem.run_bind, Sem.run_pure, run_isAgg_ag hA, Result.andThen, if_true, run_sizeOf h2, h3, h1]
    simp only [results, hr]
    simp [List.mapM_cons, e1, e2, asAddr, l1], h w hw⟩
end
end Go.Kn
namespace Go.Kn
open Go
section
variable {C : Cx} {Q : Exit → Act → World → Prop} {E G : Env} {I I' : HMap} {loc loc' L R : Loc} {ops : Array Oper} {rest : List Oper} {S : GS} {b : Bool}
variable {d : Nat} {ty : TypeId} {pos : String} {af : Array Edge} {gd : Option (Nat × Bool)}
/-- A call that makes memory, under a guard; what it gives has a form that some value has anyway. -/
theorem XO_callM1 {f : FuncId} {cap : List Value} {l : List Operand} {vs : List Value} {tys : Array TypeId} {cal : Operand} {K : Value → HMap → Loc → Prop}
    (he : evalS ((b, G) :: S) E cal = some (.func (.func f) #[] cap.toArray)) (hl : l.map (evalS ((b, G) :: S) E) = vs.map some) (hF : Fun C.P f) (hc : conj ((b, G) :: S) = true → RetM C.P f (vs ++ cap) I [] K) (hno : ∃ v, K v I [])
    (hG : Guarded ops ((b, G) :: S) E ⟨some d, .call ⟨.value cal, l.toArray, tys⟩, ty, pos, af, gd⟩) (hN : Nat.blt d C.N = true) (hf : freshS ((b, G) :: S) E d = true)
    (h : ∀ v I' L', HLe I I' → K v I' L' → XO C Q ops rest ((b, (d, v) :: G) :: S) E I' (L' ++ loc)) :
    XO C Q ops (⟨some d, .call ⟨.value cal, l.toArray, tys⟩, ty, pos, af, gd⟩ :: rest) ((b, G) :: S) E I loc :=
  XO_callG he hl hF hG rfl hN hf .nil hc (fun _ => hno) h
end
end Go.Kn
end
section
namespace Go.Kn
open Go
section
variable {C : Cx} {Q : Exit → Act → World → Prop} {E G : Env} {I : HMap} {loc loc' : Loc} {ops : Array Oper} {rest : List Oper} {S : GS} {b : Bool}
variable {dst : Option Tmp} {d : Nat} {ty : TypeId} {pos : String} {af : Array Edge} {gd : Option (Nat × Bool)} {x y : Operand} {o oj : Oper} {v : Value}
theorem gV0 (hG : o.guard = none) (hd : o.dst = some d) (hv : EvalOp C [] E I loc o v) (hN : Nat.blt d C.N = true) (h : XO C Q ops rest [] ((d, v) :: E) I loc) : XO C Q ops (o :: rest) [] E I loc := XO_v0 hv hG hd hN h
theorem gV1 (hG : Guarded ops ((b, G) :: S) E o) (hd : o.dst = some d) (hv : EvalOp C ((b, G) :: S) E I loc o v) (hN : Nat.blt d C.N = true) (hf : freshS ((b, G) :: S) E d = true) (h : XO C Q ops rest ((b, (d, v) :: G) :: S) E I loc) : XO C Q ops (o :: rest) ((b, G) :: S) E I loc := XO_v1 hv hG hd hN hf h
theorem gPT {j dj : Nat} {b0 : Bool} (hg : o.guard = some (j, true)) (hj : ops[j]? = some oj) (hd : oj.dst = some dj) (hl : topLook S E dj = some (.bool b0)) (h : XO C Q ops (o :: rest) ((b0, []) :: S) E I loc) : XO C Q ops (o :: rest) S E I loc := XO_pushT j hj hd hl h
theorem gPF {j dj : Nat} {b0 : Bool} (hg : o.guard = some (j, false)) (hj : ops[j]? = some oj) (hd : oj.dst = some dj) (hl : topLook S E dj = some (.bool b0)) (h : XO C Q ops (o :: rest) ((!b0, []) :: S) E I loc) : XO C Q ops (o :: rest) S E I loc := XO_pushF j hj hd hl h
theorem gS {t t' b off : Nat} {c : Array Value} (hx : evalS [] E x = some (.pointer (some ⟨b, off, none⟩))) (hy : evalS [] E y = some v) (hT : SzT C.P t 1) (h1 : v.oneCell' = true) (hG : gd = none)
    (hu : Upd loc b (.cells c t' (0, 0)) (.cells (c.setIfInBounds off v) t' (0, 0)) loc') (hlt : Nat.blt off c.size = true) (h : XO C Q ops rest [] E I loc') : XO C Q ops (⟨none, .store t x y, ty, pos, af, gd⟩ :: rest) [] E I loc := XO_store hx hy hT h1 hG hu hlt h
theorem gBM {id j : Nat} (h : At C Q (.exit j) E I loc) (hne : Nat.beq j id = false) : At C (Exit.inBlock id Q) (.exit j) E I loc := at_block_miss hne h
end
end Go.Kn
end
section
namespace Go.Proofs.YtoicbikdenlioaaGreat
open Go Go.Kn Go.Proofs
theorem ar2_121 : Ar2 Tryz.prog 121 3 .i64 := ⟨by kernel_rfl, by kernel_rfl, by kernel_rfl, by kernel_rfl, by kernel_rfl⟩
theorem art_121 : ArT Tryz.prog 121 2 3 1 := .of (by kernel_rfl)
theorem art_134 : ArT Tryz.prog 134 9 103 1 := .of (by kernel_rfl)
theorem elt_22 : ElT Tryz.prog 22 26 14 112 := .of (by kernel_rfl)
theorem elt_33 : ElT Tryz.prog 33 44 19 168 := .of (by kernel_rfl)
theorem elt_38 : ElT Tryz.prog 38 3 1 8 := .of (by kernel_rfl)
theorem elt_47 : ElT Tryz.prog 47 95 3 40 := .of (by kernel_rfl)
theorem elt_90 : ElT Tryz.prog 90 38 1 24 := .of (by kernel_rfl)
theorem eqt2_26 : EqT2 Tryz.prog 26 [.int, .int, .int, .int, .int, .int, .int, .int, .int, .int, .int, .int, .int, .int] := ⟨by kernel_rfl, by kernel_rfl, by kernel_rfl, by kernel_rfl⟩
theorem fun_107 : Fun Tryz.prog 107 := .of Tryz.func107 (by kernel_rfl) (by kernel_rfl)
theorem fun_108 : Fun Tryz.prog 108 := .of Tryz.func108 (by kernel_rfl) (by kernel_rfl)
theorem fun_109 : Fun Tryz.prog 109 := .of Tryz.func109 (by kernel_rfl) (by kernel_rfl)
theorem fun_112 : Fun Tryz.prog 112 := .of Tryz.func112 (by kernel_rfl) (by kernel_rfl)
theorem fun_114 : Fun Tryz.prog 114 := .of Tryz.func114 (by kernel_rfl) (by kernel_rfl)
theorem fun_115 : Fun Tryz.prog 115 := .of Tryz.func115 (by kernel_rfl) (by kernel_rfl)
theorem fun_116 : Fun Tryz.prog 116 := .of Tryz.func116 (by kernel_rfl) (by kernel_rfl)
theorem fun_117 : Fun Tryz.prog 117 := .of Tryz.func117 (by kernel_rfl) (by kernel_rfl)
theorem fun_118 : Fun Tryz.prog 118 := .of Tryz.func118 (by kernel_rfl) (by kernel_rfl)
theorem fun_139 : Fun Tryz.prog 139 := .of Tryz.func139 (by kernel_rfl) (by kernel_rfl)
theorem fun_15 : Fun Tryz.prog 15 := .of Tryz.func15 (by kernel_rfl) (by kernel_rfl)
theorem fun_16 : Fun Tryz.prog 16 := .of Tryz.func16 (by kernel_rfl) (by kernel_rfl)
theorem fun_20 : Fun Tryz.prog 20 := .of Tryz.func20 (by kernel_rfl) (by kernel_rfl)
theorem fun_25 : Fun Tryz.prog 25 := .of Tryz.func25 (by kernel_rfl) (by kernel_rfl)
theorem fun_26 : Fun Tryz.prog 26 := .of Tryz.func26 (by kernel_rfl) (by kernel_rfl)
theorem fun_27 : Fun Tryz.prog 27 := .of Tryz.func27 (by kernel_rfl) (by kernel_rfl)
theorem fun_28 : Fun Tryz.prog 28 := .of Tryz.func28 (by kernel_rfl) (by kernel_rfl)
theorem fun_29 : Fun Tryz.prog 29 := .of Tryz.func29 (by kernel_rfl) (by kernel_rfl)
theorem fun_30 : Fun Tryz.prog 30 := .of Tryz.func30 (by kernel_rfl) (by kernel_rfl)
theorem fun_31 : Fun Tryz.prog 31 := .of Tryz.func31 (by kernel_rfl) (by kernel_rfl)
theorem fun_32 : Fun Tryz.prog 32 := .of Tryz.func32 (by kernel_rfl) (by kernel_rfl)
theorem fun_33 : Fun Tryz.prog 33 := .of Tryz.func33 (by kernel_rfl) (by kernel_rfl)
theorem fun_34 : Fun Tryz.prog 34 := .of Tryz.func34 (by kernel_rfl) (by kernel_rfl)
theorem fun_35 : Fun Tryz.prog 35 := .of Tryz.func35 (by kernel_rfl) (by kernel_rfl)
theorem fun_36 : Fun Tryz.prog 36 := .of Tryz.func36 (by kernel_rfl) (by kernel_rfl)
theorem fun_37 : Fun Tryz.prog 37 := .of Tryz.func37 (by kernel_rfl) (by kernel_rfl)
theorem fun_38 : Fun Tryz.prog 38 := .of Tryz.func38 (by kernel_rfl) (by kernel_rfl)
theorem fun_67 : Fun Tryz.prog 67 := .of Tryz.func67 (by kernel_rfl) (by kernel_rfl)
theorem fun_7 : Fun Tryz.prog 7 := .of Tryz.func7 (by kernel_rfl) (by kernel_rfl)
theorem fun_71 : Fun Tryz.prog 71 := .of Tryz.func71 (by kernel_rfl) (by kernel_rfl)
theorem fun_76 : Fun Tryz.prog 76 := .of Tryz.func76 (by kernel_rfl) (by kernel_rfl)
theorem fun_77 : Fun Tryz.prog 77 := .of Tryz.func77 (by kernel_rfl) (by kernel_rfl)
theorem fun_78 : Fun Tryz.prog 78 := .of Tryz.func78 (by kernel_rfl) (by kernel_rfl)
theorem fun_79 : Fun Tryz.prog 79 := .of Tryz.func79 (by kernel_rfl) (by kernel_rfl)
theorem fun_80 : Fun Tryz.prog 80 := .of Tryz.func80 (by kernel_rfl) (by kernel_rfl)
theorem fun_81 : Fun Tryz.prog 81 := .of Tryz.func81 (by kernel_rfl) (by kernel_rfl)
theorem fun_82 : Fun Tryz.prog 82 := .of Tryz.func82 (by kernel_rfl) (by kernel_rfl)
theorem fun_83 : Fun Tryz.prog 83 := .of Tryz.func83 (by kernel_rfl) (by kernel_rfl)
theorem fun_84 : Fun Tryz.prog 84 := .of Tryz.func84 (by kernel_rfl) (by kernel_rfl)
theorem fun_85 : Fun Tryz.prog 85 := .of Tryz.func85 (by kernel_rfl) (by kernel_rfl)
theorem fun_86 : Fun Tryz.prog 86 := .of Tryz.func86 (by kernel_rfl) (by kernel_rfl)
theorem fun_87 : Fun Tryz.prog 87 := .of Tryz.func87 (by kernel_rfl) (by kernel_rfl)
theorem fun_88 : Fun Tryz.prog 88 := .of Tryz.func88 (by kernel_rfl) (by kernel_rfl)
theorem fun_89 : Fun Tryz.prog 89 := .of Tryz.func89 (by kernel_rfl) (by kernel_rfl)
theorem fun_90 : Fun Tryz.prog 90 := .of Tryz.func90 (by kernel_rfl) (by kernel_rfl)
theorem fun_91 : Fun Tryz.prog 91 := .of Tryz.func91 (by kernel_rfl) (by kernel_rfl)
theorem fun_92 : Fun Tryz.prog 92 := .of Tryz.func92 (by kernel_rfl) (by kernel_rfl)
theorem fun_94 : Fun Tryz.prog 94 := .of Tryz.func94 (by kernel_rfl) (by kernel_rfl)
theorem fun_95 : Fun Tryz.prog 95 := .of Tryz.func95 (by kernel_rfl) (by kernel_rfl)
theorem key_121 : KeyOK (α := Int × Int) Tryz.prog 121 encK2 := key_arr2 ar2_121
theorem key_3 : KeyOK (α := Int) Tryz.prog 3 (.int .i64) := key_int (by kernel_rfl)
theorem mixed : Tryz.prog.follows .mixedOrders = true := by kernel_rfl
theorem mpt_77 : MpT Tryz.prog 77 3 4 (.bool false) := ⟨by kernel_rfl, .of (by kernel_rfl)⟩
theorem mpt_80 : MpT Tryz.prog 80 3 77 (.map none) := ⟨by kernel_rfl, .of (by kernel_rfl)⟩
theorem mpt_82 : MpT Tryz.prog 82 3 3 (.int .i64 0) := ⟨by kernel_rfl, .of (by kernel_rfl)⟩
theorem mpt_83 : MpT Tryz.prog 83 3 38 (.slice none 0 0) := ⟨by kernel_rfl, .of (by kernel_rfl)⟩
theorem mpt_84 : MpT Tryz.prog 84 121 33 (.slice none 0 0) := ⟨by kernel_rfl, .of (by kernel_rfl)⟩
theorem mpt_96 : MpT Tryz.prog 96 26 4 (.bool false) := ⟨by kernel_rfl, .of (by kernel_rfl)⟩
theorem plt_24 : PlT Tryz.prog 24 #[(0, 1), (1, 1)] (.agg #[(.int .i64 0), (.int .i64 0)]) := ⟨.of (by kernel_rfl), by kernel_rfl, fun w => by kernel_rfl⟩
theorem plt_26 : PlT Tryz.prog 26 #[(0, 1), (1, 1), (2, 1), (3, 1), (4, 1), (5, 1), (6, 1), (7, 1), (8, 1), (9, 1), (10, 2), (12, 2)] (.agg #[(.int .i64 0), (.int .i64 0), (.int .i64 0), (.int .i64 0), (.int .i64 0), (.int .i64 0), (.int .i64 0), (.int .i64 0), (.int .i64 0), (.int .i64 0), (.int .i64 0), (.int .i64 0), (.int .i64 0), (.int .i64 0)]) := ⟨.of (by kernel_rfl), by kernel_rfl, fun w => by kernel_rfl⟩
theorem plt_86 : PlT Tryz.prog 86 #[(0, 1), (1, 1), (2, 1), (3, 1)] (.agg #[(.map none), (.map none), (.map none), (.slice none 0 0)]) := ⟨.of (by kernel_rfl), by kernel_rfl, fun w => by kernel_rfl⟩
theorem plt_95 : PlT Tryz.prog 95 #[(0, 1), (1, 1), (2, 1)] (.agg #[(.int .i64 0), (.int .i64 0), (.slice none 0 0)]) := ⟨.of (by kernel_rfl), by kernel_rfl, fun w => by kernel_rfl⟩
theorem und_4 : Tryz.prog.underlying 4 = some .bool := by kernel_rfl
theorem und_77 : Tryz.prog.underlying 77 = some (.map 3 4) := by kernel_rfl
theorem zt_108 : ZeroT Tryz.prog 108 (.int .u64 0) := .of (by kernel_rfl)
theorem zt_121 : ZeroT Tryz.prog 121 (.agg #[(.int .i64 0), (.int .i64 0)]) := .of (by kernel_rfl)
theorem zt_134 : ZeroT Tryz.prog 134 (.agg #[(.pointer none), (.pointer none), (.pointer none), (.pointer none), (.pointer none), (.pointer none), (.pointer none), (.pointer none), (.pointer none)]) := .of (by kernel_rfl)
theorem zt_26 : ZeroT Tryz.prog 26 (.agg #[(.int .i64 0), (.int .i64 0), (.int .i64 0), (.int .i64 0), (.int .i64 0), (.int .i64 0), (.int .i64 0), (.int .i64 0), (.int .i64 0), (.int .i64 0), (.int .i64 0), (.int .i64 0), (.int .i64 0), (.int .i64 0)]) := .of (by kernel_rfl)
theorem zt_3 : ZeroT Tryz.prog 3 (.int .i64 0) := .of (by kernel_rfl)
theorem zt_38 : ZeroT Tryz.prog 38 (.slice none 0 0) := .of (by kernel_rfl)
theorem zt_44 : ZeroT Tryz.prog 44 (.agg #[(.int .i64 0), (.int .i64 0), (.int .i64 0), (.int .i64 0), (.int .i64 0), (.int .i64 0), (.int .i64 0), (.int .i64 0), (.int .i64 0), (.int .i64 0), (.int .i64 0), (.int .i64 0), (.int .i64 0), (.int .i64 0), (.int .i64 0), (.int .i64 0), (.int .i64 0), (.int .i64 0), (.slice none 0 0)]) := .of (by kernel_rfl)
theorem zt_77 : ZeroT Tryz.prog 77 (.map none) := .of (by kernel_rfl)
theorem zt_86 : ZeroT Tryz.prog 86 (.agg #[(.map none), (.map none), (.map none), (.slice none 0 0)]) := .of (by kernel_rfl)
theorem zt_96 : ZeroT Tryz.prog 96 (.map none) := .of (by kernel_rfl)
theorem agt_116 : AgT Tryz.prog 116 2 := .of (by kernel_rfl)
theorem agt_121 : AgT Tryz.prog 121 2 := .of (by kernel_rfl)
theorem agt_134 : AgT Tryz.prog 134 9 := .of (by kernel_rfl)
theorem agt_24 : AgT Tryz.prog 24 2 := .of (by kernel_rfl)
theorem agt_26 : AgT Tryz.prog 26 14 := .of (by kernel_rfl)
theorem agt_28 : AgT Tryz.prog 28 22 := .of (by kernel_rfl)
theorem agt_44 : AgT Tryz.prog 44 19 := .of (by kernel_rfl)
theorem agt_58 : AgT Tryz.prog 58 3 := .of (by kernel_rfl)
theorem agt_59 : AgT Tryz.prog 59 24 := .of (by kernel_rfl)
theorem agt_86 : AgT Tryz.prog 86 4 := .of (by kernel_rfl)
theorem cvt_108_3 : CvT Tryz.prog 108 3 .i64 := ⟨by kernel_rfl, by kernel_rfl⟩
theorem cvt_3_108 : CvT Tryz.prog 3 108 .u64 := ⟨by kernel_rfl, by kernel_rfl⟩
theorem fld_116_0 : FieldAt Tryz.prog 116 0 0 := .of (by kernel_rfl)
theorem fld_116_1 : FieldAt Tryz.prog 116 1 1 := .of (by kernel_rfl)
theorem fld_133_0 : FieldAt Tryz.prog 133 0 0 := .of (by kernel_rfl)
theorem fld_24_0 : FieldAt Tryz.prog 24 0 0 := .of (by kernel_rfl)
theorem fld_24_1 : FieldAt Tryz.prog 24 1 1 := .of (by kernel_rfl)
theorem fld_26_0 : FieldAt Tryz.prog 26 0 0 := .of (by kernel_rfl)
theorem fld_26_1 : FieldAt Tryz.prog 26 1 1 := .of (by kernel_rfl)
theorem fld_26_10 : FieldAt Tryz.prog 26 10 10 := .of (by kernel_rfl)
theorem fld_26_11 : FieldAt Tryz.prog 26 11 12 := .of (by kernel_rfl)
theorem fld_26_2 : FieldAt Tryz.prog 26 2 2 := .of (by kernel_rfl)
theorem fld_26_3 : FieldAt Tryz.prog 26 3 3 := .of (by kernel_rfl)
theorem fld_26_4 : FieldAt Tryz.prog 26 4 4 := .of (by kernel_rfl)
theorem fld_26_5 : FieldAt Tryz.prog 26 5 5 := .of (by kernel_rfl)
theorem fld_26_6 : FieldAt Tryz.prog 26 6 6 := .of (by kernel_rfl)
theorem fld_26_7 : FieldAt Tryz.prog 26 7 7 := .of (by kernel_rfl)
theorem fld_26_8 : FieldAt Tryz.prog 26 8 8 := .of (by kernel_rfl)
theorem fld_26_9 : FieldAt Tryz.prog 26 9 9 := .of (by kernel_rfl)
theorem fld_28_0 : FieldAt Tryz.prog 28 0 0 := .of (by kernel_rfl)
theorem fld_28_1 : FieldAt Tryz.prog 28 1 1 := .of (by kernel_rfl)
theorem fld_28_2 : FieldAt Tryz.prog 28 2 2 := .of (by kernel_rfl)
theorem fld_28_3 : FieldAt Tryz.prog 28 3 3 := .of (by kernel_rfl)
theorem fld_28_4 : FieldAt Tryz.prog 28 4 4 := .of (by kernel_rfl)
theorem fld_28_5 : FieldAt Tryz.prog 28 5 5 := .of (by kernel_rfl)
theorem fld_28_6 : FieldAt Tryz.prog 28 6 6 := .of (by kernel_rfl)
theorem fld_28_7 : FieldAt Tryz.prog 28 7 8 := .of (by kernel_rfl)
theorem fld_44_0 : FieldAt Tryz.prog 44 0 0 := .of (by kernel_rfl)
theorem fld_44_1 : FieldAt Tryz.prog 44 1 1 := .of (by kernel_rfl)
theorem fld_44_2 : FieldAt Tryz.prog 44 2 2 := .of (by kernel_rfl)
theorem fld_44_3 : FieldAt Tryz.prog 44 3 3 := .of (by kernel_rfl)
theorem fld_44_4 : FieldAt Tryz.prog 44 4 4 := .of (by kernel_rfl)
theorem fld_44_5 : FieldAt Tryz.prog 44 5 18 := .of (by kernel_rfl)
theorem fld_58_0 : FieldAt Tryz.prog 58 0 0 := .of (by kernel_rfl)
theorem fld_58_1 : FieldAt Tryz.prog 58 1 1 := .of (by kernel_rfl)
theorem fld_58_2 : FieldAt Tryz.prog 58 2 2 := .of (by kernel_rfl)
theorem fld_86_0 : FieldAt Tryz.prog 86 0 0 := .of (by kernel_rfl)
theorem fld_86_1 : FieldAt Tryz.prog 86 1 1 := .of (by kernel_rfl)
theorem fld_86_2 : FieldAt Tryz.prog 86 2 2 := .of (by kernel_rfl)
theorem fld_86_3 : FieldAt Tryz.prog 86 3 3 := .of (by kernel_rfl)
theorem sct_103 : ScT Tryz.prog 103 := .of (by kernel_rfl)
theorem sct_104 : ScT Tryz.prog 104 := .of (by kernel_rfl)
theorem sct_108 : ScT Tryz.prog 108 := .of (by kernel_rfl)
theorem sct_114 : ScT Tryz.prog 114 := .of (by kernel_rfl)
theorem sct_131 : ScT Tryz.prog 131 := .of (by kernel_rfl)
theorem sct_22 : ScT Tryz.prog 22 := .of (by kernel_rfl)
theorem sct_3 : ScT Tryz.prog 3 := .of (by kernel_rfl)
theorem sct_30 : ScT Tryz.prog 30 := .of (by kernel_rfl)
theorem sct_33 : ScT Tryz.prog 33 := .of (by kernel_rfl)
theorem sct_38 : ScT Tryz.prog 38 := .of (by kernel_rfl)
theorem sct_54 : ScT Tryz.prog 54 := .of (by kernel_rfl)
theorem sct_55 : ScT Tryz.prog 55 := .of (by kernel_rfl)
theorem sct_56 : ScT Tryz.prog 56 := .of (by kernel_rfl)
theorem sct_77 : ScT Tryz.prog 77 := .of (by kernel_rfl)
theorem sct_80 : ScT Tryz.prog 80 := .of (by kernel_rfl)
theorem sct_83 : ScT Tryz.prog 83 := .of (by kernel_rfl)
theorem sct_84 : ScT Tryz.prog 84 := .of (by kernel_rfl)
theorem sct_96 : ScT Tryz.prog 96 := .of (by kernel_rfl)
theorem slt_110 : SlT Tryz.prog 110 30 1 := .of (by kernel_rfl)
theorem slt_112 : SlT Tryz.prog 112 116 2 := .of (by kernel_rfl)
theorem slt_22 : SlT Tryz.prog 22 26 14 := .of (by kernel_rfl)
theorem slt_33 : SlT Tryz.prog 33 44 19 := .of (by kernel_rfl)
theorem slt_38 : SlT Tryz.prog 38 3 1 := .of (by kernel_rfl)
theorem slt_47 : SlT Tryz.prog 47 95 3 := .of (by kernel_rfl)
theorem slt_90 : SlT Tryz.prog 90 38 1 := .of (by kernel_rfl)
theorem szt_108 : SzT Tryz.prog 108 1 := .of (by kernel_rfl)
theorem szt_116 : SzT Tryz.prog 116 2 := .of (by kernel_rfl)
theorem szt_121 : SzT Tryz.prog 121 2 := .of (by kernel_rfl)
theorem szt_134 : SzT Tryz.prog 134 9 := .of (by kernel_rfl)
theorem szt_22 : SzT Tryz.prog 22 1 := .of (by kernel_rfl)
theorem szt_24 : SzT Tryz.prog 24 2 := .of (by kernel_rfl)
theorem szt_26 : SzT Tryz.prog 26 14 := .of (by kernel_rfl)
theorem szt_28 : SzT Tryz.prog 28 22 := .of (by kernel_rfl)
theorem szt_3 : SzT Tryz.prog 3 1 := .of (by kernel_rfl)
theorem szt_33 : SzT Tryz.prog 33 1 := .of (by kernel_rfl)
theorem szt_38 : SzT Tryz.prog 38 1 := .of (by kernel_rfl)
theorem szt_44 : SzT Tryz.prog 44 19 := .of (by kernel_rfl)
theorem szt_55 : SzT Tryz.prog 55 1 := .of (by kernel_rfl)
theorem szt_58 : SzT Tryz.prog 58 3 := .of (by kernel_rfl)
theorem szt_59 : SzT Tryz.prog 59 24 := .of (by kernel_rfl)
theorem szt_77 : SzT Tryz.prog 77 1 := .of (by kernel_rfl)
theorem szt_86 : SzT Tryz.prog 86 4 := .of (by kernel_rfl)
theorem szt_96 : SzT Tryz.prog 96 1 := .of (by kernel_rfl)
theorem zs {A B : Prop} (h : A) (k : A → B := by intro h; (first | with_reducible refine X_seq ?_ | with_reducible refine X_region ?_ | with_reducible refine XO_nil ?_ | ((with_reducible apply gV0); exact rfl; exact rfl; (first | ((with_reducible apply ev_move); exact rfl) | ((with_reducible apply ev_assign); exact rfl) | ((with_reducible apply ev_cmp); (iterate 3 exact rfl)) | ((with_reducible apply ev_load); exact rfl; exact ScT.of (P := Tryz.prog) (by kernel_rfl); intro hg; first | (repeat (first | exact Cell.here rfl | apply Cell.there | apply Cell.app)) | exact Cell.imm (by assumption) rfl | exact Sl.get0 (by assumption) (by assumption) rfl | exact Sl.get (by assumption) (by assumption) rfl) | ((with_reducible apply ev_fieldAddr); exact rfl; first | exact fld_116_0 | exact fld_116_1 | exact fld_133_0 | exact fld_24_0 | exact fld_24_1 | exact fld_26_0 | exact fld_26_1 | exact fld_26_10 | exact fld_26_11 | exact fld_26_2 | exact fld_26_3 | exact fld_26_4 | exact fld_26_5 | exact fld_26_6 | exact fld_26_7 | exact fld_26_8 | exact fld_26_9 | exact fld_28_0 | exact fld_28_1 | exact fld_28_2 | exact fld_28_3 | exact fld_28_4 | exact fld_28_5 | exact fld_28_6 | exact fld_28_7 | exact fld_44_0 | exact fld_44_1 | exact fld_44_2 | exact fld_44_3 | exact fld_44_4 | exact fld_44_5 | exact fld_58_0 | exact fld_58_1 | exact fld_58_2 | exact fld_86_0 | exact fld_86_1 | exact fld_86_2 | exact fld_86_3) | ((with_reducible apply ev_not); exact rfl) | ((with_reducible apply ev_extract); (iterate 2 exact rfl)) | ((with_reducible apply ev_lenS); exact rfl; first | exact slt_110 | exact slt_112 | exact slt_22 | exact slt_33 | exact slt_38 | exact slt_47 | exact slt_90) | ((with_reducible apply ev_arB); (iterate 3 exact rfl); intro hg; first | omega | (simp [conj] at hg; omega)) | ((with_reducible apply ev_indexSl); exact rfl; exact rfl; (first | exact slt_110 | exact slt_112 | exact slt_22 | exact slt_33 | exact slt_38 | exact slt_47 | exact slt_90); assumption; intro hg; first | omega | (simp [conj] at hg; omega)) | ((with_reducible apply ev_loadA); exact rfl; (first | exact agt_116 | exact agt_121 | exact agt_134 | exact agt_24 | exact agt_26 | exact agt_28 | exact agt_44 | exact agt_58 | exact agt_59 | exact agt_86); (intro hg; first | (repeat (first | exact Cells.here | apply Cells.there | apply Cells.app)) | exact Sl.getA (by assumption) (by assumption)); exact rfl) | ((with_reducible apply ev_pickb); (iterate 3 exact rfl)) | ((with_reducible apply ev_max); (iterate 2 exact rfl)) | ((with_reducible apply ev_min); (iterate 2 exact rfl)) | ((with_reducible apply ev_nilCheck); exact rfl) | ((with_reducible apply ev_convI); exact rfl; first | exact cvt_108_3 | exact cvt_3_108) | ((with_reducible apply ev_str); (iterate 3 exact rfl)) | ((with_reducible apply ev_negU); exact rfl)); exact rfl) | with_reducible refine at_then ?_ | with_reducible refine X_skip ?_ | with_reducible refine X_ret ?_ | with_reducible refine at_then_r ?_ | with_reducible refine at_then_e ?_ | with_reducible refine X_block ?_ | with_reducible refine X_exit ?_ | with_reducible refine at_block_n ?_ | with_reducible refine at_block_r ?_ | with_reducible refine at_block_hit ?_ | ((with_reducible apply gBM); rotate_left; exact rfl) | with_reducible refine at_noP ?_ | ((with_reducible apply gS); exact rfl; exact rfl; exact SzT.of (P := Tryz.prog) (by kernel_rfl); exact rfl; exact rfl; (repeat (first | exact Upd.here | apply Upd.there | apply upd_app)); exact rfl) | ((with_reducible apply XO_and0); (iterate 5 exact rfl)) | ((with_reducible apply XO_or0); (iterate 5 exact rfl)) | ((with_reducible apply gV1); (first | exact .some rfl rfl rfl rfl gbt | exact .some rfl rfl rfl rfl gbf); exact rfl; (first | ((with_reducible apply ev_move); exact rfl) | ((with_reducible apply ev_assign); exact rfl) | ((with_reducible apply ev_cmp); (iterate 3 exact rfl)) | ((with_reducible apply ev_load); exact rfl; exact ScT.of (P := Tryz.prog) (by kernel_rfl); intro hg; first | (repeat (first | exact Cell.here rfl | apply Cell.there | apply Cell.app)) | exact Cell.imm (by assumption) rfl | exact Sl.get0 (by assumption) (by assumption) rfl | exact Sl.get (by assumption) (by assumption) rfl) | ((with_reducible apply ev_fieldAddr); exact rfl; first | exact fld_116_0 | exact fld_116_1 | exact fld_133_0 | exact fld_24_0 | exact fld_24_1 | exact fld_26_0 | exact fld_26_1 | exact fld_26_10 | exact fld_26_11 | exact fld_26_2 | exact fld_26_3 | exact fld_26_4 | exact fld_26_5 | exact fld_26_6 | exact fld_26_7 | exact fld_26_8 | exact fld_26_9 | exact fld_28_0 | exact fld_28_1 | exact fld_28_2 | exact fld_28_3 | exact fld_28_4 | exact fld_28_5 | exact fld_28_6 | exact fld_28_7 | exact fld_44_0 | exact fld_44_1 | exact fld_44_2 | exact fld_44_3 | exact fld_44_4 | exact fld_44_5 | exact fld_58_0 | exact fld_58_1 | exact fld_58_2 | exact fld_86_0 | exact fld_86_1 | exact fld_86_2 | exact fld_86_3) | ((with_reducible apply ev_not); exact rfl) | ((with_reducible apply ev_extract); (iterate 2 exact rfl)) | ((with_reducible apply ev_lenS); exact rfl; first | exact slt_110 | exact slt_112 | exact slt_22 | exact slt_33 | exact slt_38 | exact slt_47 | exact slt_90) | ((with_reducible apply ev_arB); (iterate 3 exact rfl); intro hg; first | omega | (simp [conj] at hg; omega)) | ((with_reducible apply ev_indexSl); exact rfl; exact rfl; (first | exact slt_110 | exact slt_112 | exact slt_22 | exact slt_33 | exact slt_38 | exact slt_47 | exact slt_90); assumption; intro hg; first | omega | (simp [conj] at hg; omega)) | ((with_reducible apply ev_loadA); exact rfl; (first | exact agt_116 | exact agt_121 | exact agt_134 | exact agt_24 | exact agt_26 | exact agt_28 | exact agt_44 | exact agt_58 | exact agt_59 | exact agt_86); (intro hg; first | (repeat (first | exact Cells.here | apply Cells.there | apply Cells.app)) | exact Sl.getA (by assumption) (by assumption)); exact rfl) | ((with_reducible apply ev_pickb); (iterate 3 exact rfl)) | ((with_reducible apply ev_max); (iterate 2 exact rfl)) | ((with_reducible apply ev_min); (iterate 2 exact rfl)) | ((with_reducible apply ev_nilCheck); exact rfl) | ((with_reducible apply ev_convI); exact rfl; first | exact cvt_108_3 | exact cvt_3_108) | ((with_reducible apply ev_str); (iterate 3 exact rfl)) | ((with_reducible apply ev_negU); exact rfl)); exact rfl; exact rfl) | ((with_reducible apply gPT); (iterate 4 exact rfl)) | ((with_reducible apply gPF); (iterate 4 exact rfl))); exact h) : B := k h
theorem zG {A B : Prop} (h : A) (k : A → B := by intro h; (repeat refine zs ?_); exact h) : B := k h
end Go.Proofs.YtoicbikdenlioaaGreat
end
section
namespace Go.Proofs.YtoicbikdenlioaaGreat
open Go Go.Kn Go.Proofs
def encI (n : Int) : List Value := [.int .i64 n]
/-- A slice's head. -/
structure Hd where
  a : Option Addr
  n : Nat
  c : Nat
def encH (h : Hd) : List Value := [.slice h.a h.n h.c]
theorem encI_len (x : Int) : (encI x).length = 1 := rfl
theorem encH_len (x : Hd) : (encH x).length = 1 := rfl
theorem one_I (xs : List Int) : allOne (xs.flatMap encI) = true := allOne_flat (fun _ => rfl) xs
theorem lenI (xs : List Int) : (xs.flatMap encI).length = xs.length := by rw [flat_len encI_len, Nat.mul_one]
def capP (b : Nat) : Value := .pointer (some ⟨b, 0, none⟩)
def sameF {α : Type} [DecidableEq α] (xs ys : List α) : Bool := decide (xs = ys)
theorem same_self {α : Type} [DecidableEq α] (xs : List α) : sameF xs xs = true := decide_eq_true rfl
theorem _root_.Go.Kn.Sl.at {α : Type} {I : HMap} {size : Nat} {enc : α → List Value} {av : Option Addr} {n c : Nat} {xs : List α} (h : Sl I size enc av n c xs) {k : Nat} (hk : k < n) : ∃ x, xs[k]? = some x :=
  ⟨_, List.getElem?_eq_getElem (by rw [h.len]; exact hk)⟩
def within (n lo hi : Int) : Bool := decide (n ≥ lo) && decide (n ≤ hi)
theorem range_step {p : Nat → Bool} {k : Nat} (h : (List.range k).all p = true) (hp : p k = true) : (List.range (k + 1)).all p = true := by
  rw [List.range_succ, List.all_append, h]; simpa using hp
theorem range_bad {p : Nat → Bool} {n k : Nat} (hk : k < n) (hp : p k = false) : (List.range n).all p = false := by
  cases h : (List.range n).all p with
  | false => rfl
  | true =>
    rw [List.all_eq_true] at h
    rw [h k (List.mem_range.2 hk)] at hp; cases hp
theorem getD_of {α : Type} {xs : List α} {k : Nat} {x d : α} (h : xs[k]? = some x) : xs.getD k d = x := by simp [List.getD, h]
theorem some_getD {α : Type} {xs : List α} {n k : Nat} {d : α} (hl : xs.length = n) (h : k < n) : xs[k]? = some (xs.getD k d) := by
  have : k < xs.length := by omega
  unfold List.getD
  rw [List.getElem?_eq_getElem this]; rfl
theorem any_no {α : Type} {xs : List α} {k : Nat} {x : α} {p : α → Bool} (hx : xs[k]? = some x) (h : (xs.take k).any p = false) (hp : p x = false) : (xs.take (k + 1)).any p = false := by rw [any_take hx, h, hp]; rfl
theorem any_yes {α : Type} {xs : List α} {k : Nat} {x : α} {p : α → Bool} (hx : xs[k]? = some x) (hp : p x = true) : xs.any p = true := List.any_eq_true.2 ⟨x, List.mem_of_getElem? hx, hp⟩
theorem all_yes {α : Type} {xs : List α} {k : Nat} {x : α} {p : α → Bool} (hx : xs[k]? = some x) (h : (xs.take k).all p = true) (hp : p x = true) : (xs.take (k + 1)).all p = true := by
  rw [List.take_add_one, hx, List.all_append, h]; simpa using hp
theorem all_no {α : Type} {xs : List α} {k : Nat} {x : α} {p : α → Bool} (hx : xs[k]? = some x) (hp : p x = false) : xs.all p = false := List.all_eq_false.2 ⟨x, List.mem_of_getElem? hx, by rw [hp]; decide⟩
theorem same_len {α : Type} [DecidableEq α] {xs ys : List α} {n m : Nat} (h1 : xs.length = n) (h2 : ys.length = m) (h : n ≠ m) : sameF xs ys = false :=
  decide_eq_false fun e => h (by rw [← h1, ← h2, e])
theorem take_next {α : Type} {xs ys : List α} {k : Nat} {x y : α} (hx : xs[k]? = some x) (hy : ys[k]? = some y) (he : xs.take k = ys.take k) (h : x = y) : xs.take (k + 1) = ys.take (k + 1) := by
  rw [List.take_add_one, List.take_add_one, hx, hy, he, h]
theorem same_ne {α : Type} [DecidableEq α] {xs ys : List α} {k : Nat} {x y : α} (hx : xs[k]? = some x) (hy : ys[k]? = some y) (h : x ≠ y) : sameF xs ys = false :=
  decide_eq_false fun e => h (by rw [e, hy] at hx; exact (Option.some.inj hx).symm)
theorem take_snoc {α : Type} {xs : List α} {k : Nat} {x : α} (h : xs[k]? = some x) : xs.take (k + 1) = xs.take k ++ [x] := by
  rw [List.take_add_one, h]; rfl
theorem drop_cons {α : Type} {xs : List α} {k : Nat} {x : α} (h : xs[k]? = some x) : xs.drop k = x :: xs.drop (k + 1) := by
  obtain ⟨h1, h2⟩ := List.getElem?_eq_some_iff.1 h
  rw [List.drop_eq_getElem_cons h1, h2]
def idxF {α : Type} (p : α → Bool) (xs : List α) : Int := if xs.any p then (xs.findIdx p : Int) else -1
theorem findIdx_at {α : Type} {xs : List α} {k : Nat} {x : α} {p : α → Bool} (h : (xs.take k).any p = false) (hx : xs[k]? = some x) (hp : p x = true) : xs.findIdx p = k := by
  have hk := (List.getElem?_eq_some_iff.1 hx).1
  rw [List.findIdx_eq hk]
  refine ⟨by rw [(List.getElem?_eq_some_iff.1 hx).2]; exact hp, fun j hj => ?_⟩
  have := List.any_eq_false.1 h xs[j] (by rw [List.mem_take_iff_getElem]; exact ⟨j, by omega, rfl⟩)
  simpa using this
theorem idx_hit {α : Type} {xs : List α} {k : Nat} {x : α} {p : α → Bool} (h : (xs.take k).any p = false) (hx : xs[k]? = some x) (hp : p x = true) : idxF p xs = k := by
  unfold idxF
  rw [any_yes hx hp, if_pos rfl, findIdx_at h hx hp]
theorem idx_none {α : Type} {xs : List α} {k n : Nat} {p : α → Bool} (hl : xs.length = n) (hk : n ≤ k) (h : (xs.take k).any p = false) : idxF p xs = -1 := by
  unfold idxF
  rw [take_all hl hk] at h
  rw [h]; rfl
theorem idx_any {α : Type} {xs : List α} {p : α → Bool} : decide (idxF p xs ≥ 0) = xs.any p := by
  unfold idxF
  cases h : xs.any p
  · rfl
  · simp
def resF {α : Type} (e : Int) (xs : List α) : List α := if e ≠ 0 then [] else xs
theorem resF_bad {α : Type} {e : Int} {xs : List α} (h : e ≠ 0) : resF e xs = [] := by unfold resF; rw [if_pos h]
theorem resF_ok {α : Type} {e : Int} {xs : List α} (h : e = 0) : resF e xs = xs := by unfold resF; rw [if_neg (by omega)]
theorem pair_of_next {α : Type} {R : α → α → Prop} (ht : ∀ a b c, R a b → R b c → R a c) {l : List α} (h : ∀ k (hk : k + 1 < l.length), R (l[k]'(by omega)) l[k + 1]) : l.Pairwise R := by
  have key : ∀ (n i : Nat) (hn : i + n < l.length), 0 < n → R (l[i]'(by omega)) l[i + n] := by
    intro n
    induction n with
    | zero => intro i _ h0; omega
    | succ n ih =>
      intro i hn _
      have h2 := h (i + n) (by omega)
      by_cases e : n = 0
      · subst e; exact h2
      · exact ht _ _ _ (ih i (by omega) (by omega)) h2
  rw [List.pairwise_iff_getElem]
  intro i j hi hj hij
  have := key (j - i) i (by omega) (by omega)
  simpa [show i + (j - i) = j by omega] using this
theorem tw_eq {α : Type} {p : α → Bool} : ∀ {xs : List α} {k : Nat}, (xs.take k).all p = true → k ≤ xs.length → (∀ y, xs[k]? = some y → p y = false) → xs.takeWhile p = xs.take k ∧ xs.dropWhile p = xs.drop k
  | [], k, _, hk, _ => by simp
  | x :: xs, 0, _, _, h => by
    have := h x rfl
    simp [List.takeWhile_cons, List.dropWhile_cons, this]
  | x :: xs, k + 1, h, hk, h2 => by
    rw [List.take_succ_cons, List.all_cons, Bool.and_eq_true] at h
    obtain ⟨h3, h4⟩ := tw_eq h.2 (by simpa using hk) (fun y hy => h2 y (by simpa using hy))
    rw [List.takeWhile_cons, List.dropWhile_cons, if_pos h.1, if_pos h.1, h3, h4]
    exact ⟨rfl, rfl⟩
/-- Two strictly increasing lists with the same members are one. -/
theorem sorted_ext : ∀ {xs ys : List Int}, xs.Pairwise (· < ·) → ys.Pairwise (· < ·) → (∀ a, a ∈ xs ↔ a ∈ ys) → xs = ys
  | [], [], _, _, _ => rfl
  | [], y :: ys, _, _, h => by have := (h y).2 (List.mem_cons_self ..); cases this
  | x :: xs, [], _, _, h => by have := (h x).1 (List.mem_cons_self ..); cases this
  | x :: xs, y :: ys, hx, hy, h => by
    rw [List.pairwise_cons] at hx hy
    have e : x = y := by
      rcases List.mem_cons.1 ((h x).1 (List.mem_cons_self ..)) with e | e
      · exact e
      · rcases List.mem_cons.1 ((h y).2 (List.mem_cons_self ..)) with e2 | e2
        · exact e2.symm
        · have h1 := hx.1 _ e2; have h2 := hy.1 _ e; omega
    subst e
    refine congrArg _ (sorted_ext hx.2 hy.2 fun a => ?_)
    constructor
    · intro ha
      rcases List.mem_cons.1 ((h a).1 (List.mem_cons_of_mem _ ha)) with e | e
      · subst e; have := hx.1 _ ha; omega
      · exact e
    · intro ha
      rcases List.mem_cons.1 ((h a).2 (List.mem_cons_of_mem _ ha)) with e | e
      · subst e; have := hy.1 _ ha; omega
      · exact e
theorem sorted_sub : ∀ {ys xs : List Int}, xs.Pairwise (· < ·) → ys.Pairwise (· < ·) → (∀ a ∈ xs, a ∈ ys) → xs.length ≤ ys.length ∧ (ys.length ≤ xs.length → xs = ys)
  | [], [], _, _, _ => ⟨Nat.le_refl _, fun _ => rfl⟩
  | [], x :: xs, _, _, h => by have := h x (List.mem_cons_self ..); cases this
  | y :: ys, [], _, _, _ => ⟨Nat.zero_le _, fun h => by simp at h⟩
  | y :: ys, x :: xs, hx, hy, h => by
    have hx' := List.pairwise_cons.1 hx
    have hy' := List.pairwise_cons.1 hy
    by_cases e : x = y
    · subst e
      have := sorted_sub hx'.2 hy'.2 fun a ha => (List.mem_cons.1 (h a (List.mem_cons_of_mem _ ha))).elim (fun e => by subst e; have := hx'.1 _ ha; omega) id
      exact ⟨by simpa using this.1, fun hl => by rw [this.2 (by simpa using hl)]⟩
    · have hxy : y < x := by
        rcases List.mem_cons.1 (h x (List.mem_cons_self ..)) with e2 | e2
        · exact absurd e2 e
        · exact hy'.1 _ e2
      have := (sorted_sub hx hy'.2 fun a ha => (List.mem_cons.1 (h a ha)).elim (fun e2 => by
        subst e2
        rcases List.mem_cons.1 ha with e3 | e3
        · omega
        · have := hx'.1 _ e3; omega) id).1
      simp only [List.length_cons] at this ⊢
      exact ⟨by omega, fun hl => by omega⟩
end Go.Proofs.YtoicbikdenlioaaGreat
end
section
namespace Go.Proofs.YtoicbikdenlioaaGreat
open Go Go.Kn Go.Proofs
structure Sg where
  id : Int
  role : Int
  bar : Int
  mark : Int
  kind : Int
  side : Int
  dir : Int
  level : Int
  size : Int
  wth : Int
  fn : Int
  fd : Int
  tn : Int
  td : Int
def encG (x : Sg) : List Value := [.int .i64 x.id, .int .i64 x.role, .int .i64 x.bar, .int .i64 x.mark, .int .i64 x.kind, .int .i64 x.side, .int .i64 x.dir, .int .i64 x.level, .int .i64 x.size, .int .i64 x.wth, .int .i64 x.fn, .int .i64 x.fd, .int .i64 x.tn, .int .i64 x.td]
def encGA (x : Sg) : Value := .agg (encG x).toArray
def zeroG : Sg := ⟨0, 0, 0, 0, 0, 0, 0, 0, 0, 0, 0, 0, 0, 0⟩
theorem encG_len (x : Sg) : (encG x).length = 14 := rfl
theorem one_G (xs : List Sg) : allOne (xs.flatMap encG) = true := allOne_flat (fun _ => rfl) xs
def sgEq (x y : Sg) : Bool := x.id == y.id && (x.role == y.role && (x.bar == y.bar && (x.mark == y.mark && (x.kind == y.kind && (x.side == y.side && (x.dir == y.dir && (x.level == y.level && (x.size == y.size && (x.wth == y.wth && (x.fn == y.fn && (x.fd == y.fd && (x.tn == y.tn && (x.td == y.td && true)))))))))))))
theorem sgEq_iff {x y : Sg} : sgEq x y = true ↔ x = y := by
  obtain ⟨a1, a2, a3, a4, a5, a6, a7, a8, a9, a10, a11, a12, a13, a14⟩ := x
  obtain ⟨b1, b2, b3, b4, b5, b6, b7, b8, b9, b10, b11, b12, b13, b14⟩ := y
  simp [sgEq]
instance : DecidableEq Sg := fun a b => decidable_of_iff (sgEq a b = true) sgEq_iff
theorem sgEq_self (x : Sg) : sgEq x x = true := sgEq_iff.2 rfl
theorem sgEq_no {x y : Sg} (h : sgEq x y = false) : x ≠ y := fun e => by subst e; rw [sgEq_self] at h; cases h
/-- A patch, with the head of its needs. -/
structure Pt where
  id : Int
  kind : Int
  sign : Int
  field : Int
  nw : Sg
  a : Option Addr
  n : Nat
  c : Nat
  needs : List Int
def encP (p : Pt) : List Value := [.int .i64 p.id, .int .i64 p.kind, .int .i64 p.sign, .int .i64 p.field, .int .i64 p.nw.id, .int .i64 p.nw.role, .int .i64 p.nw.bar, .int .i64 p.nw.mark, .int .i64 p.nw.kind, .int .i64 p.nw.side, .int .i64 p.nw.dir, .int .i64 p.nw.level, .int .i64 p.nw.size, .int .i64 p.nw.wth, .int .i64 p.nw.fn, .int .i64 p.nw.fd, .int .i64 p.nw.tn, .int .i64 p.nw.td, .slice p.a p.n p.c]
def encPA (p : Pt) : Value := .agg (encP p).toArray
theorem encP_len (x : Pt) : (encP x).length = 19 := rfl
theorem one_P (xs : List Pt) : allOne (xs.flatMap encP) = true := allOne_flat (fun _ => rfl) xs
def zeroP : Pt := ⟨0, 0, 0, 0, zeroG, none, 0, 0, []⟩
/-- A patch's needs lie where its head says. -/
def Nd (I : HMap) (p : Pt) : Prop := Sl I 1 encI p.a p.n p.c p.needs
theorem Nd.mono {I I' : HMap} {p : Pt} (h : Nd I p) (hI : HLe I I') : Nd I' p := Sl.mono h hI
def SlP (I : HMap) (av : Option Addr) (n c : Nat) (ps : List Pt) : Prop := Sl I 19 encP av n c ps ∧ ∀ p ∈ ps, Nd I p
theorem SlP.mono {I I' : HMap} {av : Option Addr} {n c : Nat} {ps : List Pt} (h : SlP I av n c ps) (hI : HLe I I') : SlP I' av n c ps := ⟨h.1.mono hI, fun p hp => (h.2 p hp).mono hI⟩
theorem SlP.nil {I : HMap} {av : Option Addr} {c : Nat} : SlP I av 0 c [] := ⟨.nil, fun p hp => by cases hp⟩
theorem SlP.len {I : HMap} {av : Option Addr} {n c : Nat} {ps : List Pt} (h : SlP I av n c ps) : ps.length = n := h.1.len
theorem SlP.at {I : HMap} {av : Option Addr} {n c : Nat} {ps : List Pt} (h : SlP I av n c ps) {k : Nat} (hk : k < n) : ∃ p, ps[k]? = some p ∧ Nd I p := by
  obtain ⟨p, hp⟩ := h.1.at hk
  exact ⟨p, hp, h.2 p (List.mem_of_getElem? hp)⟩
/-- A conflict, with the head of its patches. -/
structure Cf where
  sign : Int
  field : Int
  a : Option Addr
  n : Nat
  c : Nat
  ids : List Int
def encC (x : Cf) : List Value := [.int .i64 x.sign, .int .i64 x.field, .slice x.a x.n x.c]
theorem encC_len (x : Cf) : (encC x).length = 3 := rfl
theorem one_C (xs : List Cf) : allOne (xs.flatMap encC) = true := allOne_flat (fun _ => rfl) xs
def Cf.key (x : Cf) : Int × Int × List Int := (x.sign, x.field, x.ids)
def SlC (I : HMap) (av : Option Addr) (n c : Nat) (cs : List Cf) : Prop := Sl I 3 encC av n c cs ∧ ∀ x ∈ cs, Sl I 1 encI x.a x.n x.c x.ids
def magI (n : Int) : Int := if n < 0 then 0 - n else n
def gcdI (a b : Int) : Int := (Int.gcd a b : Int)
/-- Is n / d a ratio? -/
def ratF (n d : Int) : Bool := !(((((decide (d < 1) || decide (d > 1073741824)) || decide (n < -1073741824)) || decide (n > 1073741824)) || (gcdI n d != 1)))
/-- May a sign last from one ratio to another one? -/
def spanF (fn fd tn td : Int) : Bool := (ratF fn fd && ratF tn td) && (decide (fn * td < tn * fd) && (decide (fn ≥ 0) && decide (tn ≤ td)))
/-! ### Signs -/
def frmL (k : Sg) : Bool := within k.id 0 1048576 && within k.role 0 63 && within k.bar 0 4095 && within k.kind 1 9 && within k.mark 1 3 && within k.side 0 2 && within k.dir 0 8 && within k.level 0 3 && within k.size 0 255 && within k.wth 0 64
def frm (k : Sg) : Bool := frmL k && spanF k.fn k.fd k.tn k.td
def skP (xs : List Sg) (i : Nat) : Bool := !(!frm (xs.getD i zeroG) || (decide ((i : Int) > 0) && decide ((xs.getD ((i : Int) - 1).toNat zeroG).id ≥ (xs.getD i zeroG).id)))
def skB (xs : List Sg) : Bool := (List.range xs.length).all (skP xs)
def chkG (xs : List Sg) : Int := if xs.length > 4096 then 2 else if skB xs then 0 else 360
/-! ### Patches -/
def setG (x : Sg) (f : Int) (y : Sg) : Sg :=
  if f = 1 then { x with role := y.role } else if f = 2 then { x with bar := y.bar } else if f = 3 then { x with mark := y.mark } else if f = 4 then { x with side := y.side } else if f = 5 then { x with dir := y.dir }
  else if f = 6 then { x with level := y.level } else if f = 7 then { x with size := y.size } else if f = 8 then { x with wth := y.wth } else if f = 9 then { x with fn := y.fn, fd := y.fd, tn := y.tn, td := y.td } else x
def plainG : Sg := ⟨0, 0, 0, 3, 9, 0, 0, 0, 0, 0, 0, 1, 1, 2⟩
/-- Needs that increase, below an ID. -/
def ndP (id : Int) (v : List Int) (i : Nat) : Bool := !((decide (v.getD i 0 < 1) || decide (v.getD i 0 ≥ id)) || (decide ((i : Int) > 0) && decide (v.getD i 0 ≤ v.getD ((i : Int) - 1).toNat 0)))
def ndB (id : Int) (v : List Int) : Bool := (List.range v.length).all (ndP id v)
def idB (p : Pt) : Bool := (decide (p.id ≥ 1) && decide (p.id ≤ 1048576)) && (decide (p.sign ≥ 0) && decide (p.sign ≤ 1048576))
def kndB (p : Pt) : Bool :=
  if p.kind = 1 then within p.field 1 9 && (sgEq (setG p.nw p.field zeroG) zeroG && frm (setG plainG p.field p.nw))
  else if p.kind = 2 then p.field == 0 && (p.nw.id == p.sign && frm p.nw)
  else if p.kind = 3 then p.field == 0 && sgEq p.nw zeroG else false
def pchk (p : Pt) : Int := if p.needs.length > 32 then 2 else if ndB p.id p.needs && (idB p && kndB p) then 0 else 370
end Go.Proofs.YtoicbikdenlioaaGreat
end
section
namespace Go.Proofs.YtoicbikdenlioaaGreat
open Go Go.Kn Go.Proofs
def orF : List Int → Int
  | [] => 0
  | x :: xs => if x ≠ 0 then x else orF xs
theorem orF_zero : ∀ {xs : List Int}, orF xs = 0 ↔ ∀ x ∈ xs, x = 0
  | [] => by simp [orF]
  | x :: xs => by
    unfold orF
    by_cases h : x = 0
    · rw [if_neg (by simpa using h), orF_zero]; simp [h]
    · rw [if_pos h]; simp [h]
theorem orF_take {xs : List Int} {k : Nat} {x : Int} (hx : xs[k]? = some x) (h : orF (xs.take k) = 0) (hne : x ≠ 0) : orF xs = x := by
  induction xs generalizing k with
  | nil => simp at hx
  | cons y ys ih =>
    cases k with
    | zero =>
      simp at hx; subst hx
      unfold orF; rw [if_pos hne]
    | succ k =>
      rw [List.take_succ_cons] at h
      unfold orF at h ⊢
      by_cases hy : y = 0
      · rw [if_neg (by simpa using hy)] at h ⊢
        exact ih (by simpa using hx) h
      · rw [if_pos hy] at h; exact absurd h hy
/-- The patch p comes to those whose standing is known. -/
def onS (f : Int → Int → Bool) (p : Pt) : Int → Int → Bool := fun a b => if a = p.id then p.needs.any (fun n => n == b || f n b) else f a b
/-- Does the patch with the ID a stand on the one with the ID b? -/
def onF (ps : List Pt) : Int → Int → Bool := ps.foldl onS (fun _ _ => false)
def hasI (ps : List Pt) (n : Int) : Bool := ps.any (fun q => q.id == n)
/-- IDs increase, and what is needed comes before. -/
def lsP (ps : List Pt) (i : Nat) : Bool := !((decide ((i : Int) > 0) && decide ((ps.getD i zeroP).id ≤ (ps.getD ((i : Int) - 1).toNat zeroP).id)) || (ps.getD i zeroP).needs.any (fun n => !hasI ps n))
def lsB (ps : List Pt) : Bool := (List.range ps.length).all (lsP ps)
/-- May p be in one store with q? -/
def togB (p q : Pt) (on : Bool) : Bool := if p.sign ≠ q.sign then true else if q.kind = 2 then p.kind != 2 && on else if q.kind = 3 then !on else true
def togA (ps : List Pt) : Bool := ps.all fun p => ps.all fun q => p.id == q.id || togB p q (onF ps p.id q.id)
def chkR (ps : List Pt) : Int := if ps.length > 512 then 2 else if orF (ps.map pchk) ≠ 0 then orF (ps.map pchk) else if lsB ps && togA ps then 0 else 380
/-- A listing in order: the working form. -/
structure Lst (ps : List Pt) : Prop where
  pos : ∀ p ∈ ps, 1 ≤ p.id
  inc : ps.Pairwise (fun p q => p.id < q.id)
  has : ∀ p ∈ ps, ∀ n ∈ p.needs, n < p.id ∧ ∃ q ∈ ps, q.id = n
theorem hasI_iff {ps : List Pt} {n : Int} : hasI ps n = true ↔ ∃ q ∈ ps, q.id = n := by
  unfold hasI
  rw [List.any_eq_true]
  simp
theorem Lst.uniq {ps : List Pt} (h : Lst ps) {p q : Pt} (hp : p ∈ ps) (hq : q ∈ ps) (e : p.id = q.id) : p = q := by
  obtain ⟨i, hi⟩ := List.getElem?_of_mem hp
  obtain ⟨j, hj⟩ := List.getElem?_of_mem hq
  obtain ⟨hi1, hi2⟩ := List.getElem?_eq_some_iff.1 hi
  obtain ⟨hj1, hj2⟩ := List.getElem?_eq_some_iff.1 hj
  by_cases hij : i = j
  · subst hij; rw [hi] at hj; exact Option.some.inj hj
  · rcases Nat.lt_or_gt_of_ne hij with hlt | hlt
    · have := List.pairwise_iff_getElem.1 h.inc i j hi1 hj1 hlt; rw [hi2, hj2] at this; omega
    · have := List.pairwise_iff_getElem.1 h.inc j i hj1 hi1 hlt; rw [hi2, hj2] at this; omega
theorem onS_other {f : Int → Int → Bool} {p : Pt} {a b : Int} (h : a ≠ p.id) : onS f p a b = f a b := by unfold onS; rw [if_neg h]
theorem fold_other : ∀ (ps : List Pt) {f : Int → Int → Bool} {a b : Int}, (∀ p ∈ ps, p.id ≠ a) → ps.foldl onS f a b = f a b
  | [], _, _, _, _ => rfl
  | p :: ps, f, a, b, h => by
    rw [List.foldl_cons, fold_other ps (fun q hq => h q (List.mem_cons_of_mem _ hq)), onS_other (fun e => h p (List.mem_cons_self ..) e.symm)]
theorem onF_none {ps : List Pt} {a b : Int} (h : ∀ p ∈ ps, p.id ≠ a) : onF ps a b = false := fold_other ps h
theorem onF_split {ps qs : List Pt} {p : Pt} {b : Int} (h : ∀ q ∈ qs, q.id ≠ p.id) : onF (ps ++ p :: qs) p.id b = p.needs.any (fun n => n == b || onF ps n b) := by
  unfold onF
  rw [List.foldl_append, List.foldl_cons, fold_other qs h]
  unfold onS; rw [if_pos rfl]
theorem onF_left {ps qs : List Pt} {a b : Int} (h : ∀ q ∈ qs, q.id ≠ a) : onF (ps ++ qs) a b = onF ps a b := by
  unfold onF
  rw [List.foldl_append, fold_other qs h]
theorem Lst.tail_ne {ps qs : List Pt} {p : Pt} (h : Lst (ps ++ p :: qs)) : (∀ q ∈ qs, p.id < q.id) ∧ (∀ q ∈ ps, q.id < p.id) := by
  have h1 := h.inc
  rw [List.pairwise_append] at h1
  exact ⟨(List.pairwise_cons.1 h1.2.1).1, fun q hq => h1.2.2 q hq p (List.mem_cons_self ..)⟩
theorem any_same {α : Type} {xs : List α} {f g : α → Bool} (h : ∀ x ∈ xs, f x = g x) : xs.any f = xs.any g := by
  induction xs with
  | nil => rfl
  | cons x xs ih => rw [List.any_cons, List.any_cons, h x (List.mem_cons_self ..), ih fun y hy => h y (List.mem_cons_of_mem _ hy)]
/-- What it says of a patch of the list. -/
theorem Lst.on {ps : List Pt} (h : Lst ps) {p : Pt} (hp : p ∈ ps) (b : Int) : onF ps p.id b = p.needs.any (fun n => n == b || onF ps n b) := by
  obtain ⟨l, r, rfl⟩ := List.append_of_mem hp
  obtain ⟨h1, h2⟩ := h.tail_ne
  rw [onF_split (fun q hq e => by have := h1 q hq; omega)]
  refine any_same fun n hn => ?_
  have hlt := (h.has p hp n hn).1
  rw [onF_left (ps := l) (qs := p :: r)]
  intro q hq e
  rcases List.mem_cons.1 hq with rfl | hq
  · omega
  · have := h1 q hq; omega
theorem Lst.on_iff {ps : List Pt} (h : Lst ps) {p : Pt} (hp : p ∈ ps) {b : Int} : onF ps p.id b = true ↔ ∃ n ∈ p.needs, n = b ∨ onF ps n b = true := by
  rw [h.on hp, List.any_eq_true]
  simp
theorem onF_mem {ps : List Pt} {a b : Int} (h : onF ps a b = true) : ∃ p ∈ ps, p.id = a := by
  by_cases hx : ∃ p ∈ ps, p.id = a
  · exact hx
  · rw [onF_none (fun p hp e => hx ⟨p, hp, e⟩)] at h; cases h
theorem Lst.ind {ps : List Pt} (h : Lst ps) {M : Pt → Prop} (hs : ∀ p ∈ ps, (∀ q ∈ ps, q.id < p.id → M q) → M p) : ∀ p ∈ ps, M p := by
  have key : ∀ (m : Nat) (q : Pt), q ∈ ps → q.id.toNat ≤ m → M q := by
    intro m
    induction m with
    | zero =>
      intro q hq hm
      have := h.pos q hq; omega
    | succ m ih =>
      intro q hq hm
      exact hs q hq fun r hr hlt => ih r hr (by have := h.pos r hr; omega)
  exact fun p hp => key _ p hp (Nat.le_refl _)
/-- Whoever is stood on is in the list, and came before. -/
theorem Lst.on_lt {ps : List Pt} (h : Lst ps) {a b : Int} (hon : onF ps a b = true) : b < a ∧ ∃ q ∈ ps, q.id = b := by
  obtain ⟨p, hp, rfl⟩ := onF_mem hon
  revert hon
  refine h.ind (M := fun p => onF ps p.id b = true → b < p.id ∧ ∃ q ∈ ps, q.id = b) (fun p hp ih hon => ?_) p hp
  obtain ⟨n, hn, e⟩ := (h.on_iff hp).1 hon
  obtain ⟨h1, q, hq, rfl⟩ := h.has p hp n hn
  rcases e with rfl | e
  · exact ⟨h1, q, hq, rfl⟩
  · have := ih q hq h1 e
    exact ⟨by omega, this.2⟩
theorem Lst.on_irr {ps : List Pt} (h : Lst ps) {a : Int} : onF ps a a = false := by
  cases hon : onF ps a a with
  | false => rfl
  | true => have := (h.on_lt hon).1; omega
theorem Lst.on_trans {ps : List Pt} (h : Lst ps) {a b c : Int} (h1 : onF ps a b = true) (h2 : onF ps b c = true) : onF ps a c = true := by
  obtain ⟨p, hp, rfl⟩ := onF_mem h1
  revert h1
  refine h.ind (M := fun p => onF ps p.id b = true → onF ps p.id c = true) (fun p hp ih hon => ?_) p hp
  obtain ⟨n, hn, e⟩ := (h.on_iff hp).1 hon
  obtain ⟨hlt, q, hq, rfl⟩ := h.has p hp n hn
  rcases e with rfl | e
  · exact (h.on_iff hp).2 ⟨_, hn, .inr h2⟩
  · exact (h.on_iff hp).2 ⟨_, hn, .inr (ih q hq hlt e)⟩
theorem Lst.on_need {ps : List Pt} (h : Lst ps) {p : Pt} (hp : p ∈ ps) {n : Int} (hn : n ∈ p.needs) : onF ps p.id n = true := (h.on_iff hp).2 ⟨n, hn, .inl rfl⟩
/-- A part of the list that has what it needs. -/
theorem Lst.part {ps : List Pt} (h : Lst ps) {f : Pt → Bool} (hc : ∀ p ∈ ps, f p = true → ∀ q ∈ ps, q.id ∈ p.needs → f q = true) : Lst (ps.filter f) :=
  ⟨fun p hp => h.pos p (List.mem_filter.1 hp).1, h.inc.filter f, fun p hp n hn => by
    obtain ⟨hp1, hp2⟩ := List.mem_filter.1 hp
    obtain ⟨h1, q, hq, rfl⟩ := h.has p hp1 n hn
    exact ⟨h1, q, List.mem_filter.2 ⟨hq, hc p hp1 hp2 q hq hn⟩, rfl⟩⟩
theorem Lst.on_part {ps : List Pt} (h : Lst ps) {f : Pt → Bool} (hc : ∀ p ∈ ps, f p = true → ∀ q ∈ ps, q.id ∈ p.needs → f q = true) {b : Int} {p : Pt} (hp : p ∈ ps) (hf : f p = true) : onF (ps.filter f) p.id b = onF ps p.id b := by
  have hL := h.part hc
  revert hf
  refine h.ind (M := fun p => f p = true → onF (ps.filter f) p.id b = onF ps p.id b) (fun p hp ih hf => ?_) p hp
  rw [hL.on (List.mem_filter.2 ⟨hp, hf⟩), h.on hp]
  refine any_same fun n hn => ?_
  obtain ⟨h1, q, hq, rfl⟩ := h.has p hp n hn
  rw [ih q hq h1 (hc p hp hf q hq hn)]
/-! ### Closures -/
def incB (v : List Int) : Bool := (List.range v.length).all fun i => !(decide ((i : Int) > 0) && decide (v.getD i 0 ≤ v.getD ((i : Int) - 1).toNat 0))
theorem incB_iff {v : List Int} : incB v = true ↔ v.Pairwise (· < ·) := by
  unfold incB
  constructor
  · intro h
    refine pair_of_next (R := fun a b : Int => a < b) (fun a b c h1 h2 => Int.lt_trans h1 h2) fun k hk => ?_
    rw [List.all_eq_true] at h
    have h1 := h (k + 1) (List.mem_range.2 hk)
    rw [show (((k + 1 : Nat) : Int) - 1).toNat = k by omega, getD_of (List.getElem?_eq_getElem hk), getD_of (List.getElem?_eq_getElem (show k < v.length by omega))] at h1
    simp at h1; omega
  · intro h
    rw [List.all_eq_true]
    intro k hk
    rw [List.mem_range] at hk
    cases k with
    | zero => rfl
    | succ k =>
      rw [show (((k + 1 : Nat) : Int) - 1).toNat = k by omega, getD_of (List.getElem?_eq_getElem hk), getD_of (List.getElem?_eq_getElem (show k < v.length by omega))]
      have := List.pairwise_iff_getElem.1 h k (k + 1) (by omega) hk (by omega)
      simp; omega
def chB (ps : List Pt) (ids : List Int) : Bool := incB ids && ids.all (hasI ps)
/-- The IDs with all on which their patches stand. -/
def cloF (ps : List Pt) (ids : List Int) : List Int := (ps.filter fun p => ids.any fun n => n == p.id || onF ps n p.id).map (·.id)
def verB (ps : List Pt) (v : List Int) : Bool := chB ps v && sameF (cloF ps v) v
def mrgF (ps : List Pt) (a b : List Int) : List Int := (ps.filter fun p => a.any (· == p.id) || b.any (· == p.id)).map (·.id)
def mrgE (ps : List Pt) (a b : List Int) : Int := if chkR ps ≠ 0 then chkR ps else if decide (a.length > 512) || decide (b.length > 512) then 2 else if verB ps a && verB ps b then 0 else 380
end Go.Proofs.YtoicbikdenlioaaGreat
end
section
namespace Go.Proofs.YtoicbikdenlioaaGreat
open Go Go.Kn Go.Proofs
theorem ids_sorted {ps : List Pt} (h : Lst ps) (f : Pt → Bool) : ((ps.filter f).map (·.id)).Pairwise (· < ·) := by
  rw [List.pairwise_map]
  exact h.inc.filter f
theorem mem_ids {ps : List Pt} {f : Pt → Bool} {x : Int} : x ∈ (ps.filter f).map (·.id) ↔ ∃ p ∈ ps, f p = true ∧ p.id = x := by
  rw [List.mem_map]
  constructor
  · rintro ⟨p, hp, e⟩
    exact ⟨p, (List.mem_filter.1 hp).1, (List.mem_filter.1 hp).2, e⟩
  · rintro ⟨p, hp, hf, e⟩
    exact ⟨p, List.mem_filter.2 ⟨hp, hf⟩, e⟩
/-- A version: increasing IDs of the list, with all that their patches need. -/
structure Ver (ps : List Pt) (v : List Int) : Prop where
  inc : v.Pairwise (· < ·)
  sub : ∀ x ∈ v, ∃ p ∈ ps, p.id = x
  need : ∀ p ∈ ps, p.id ∈ v → ∀ n ∈ p.needs, n ∈ v
theorem Ver.on {ps : List Pt} {v : List Int} (h : Lst ps) (hv : Ver ps v) {a b : Int} (ha : a ∈ v) (hon : onF ps a b = true) : b ∈ v := by
  obtain ⟨p, hp, rfl⟩ := onF_mem hon
  revert hon ha
  refine h.ind (M := fun p => p.id ∈ v → onF ps p.id b = true → b ∈ v) (fun p hp ih ha hon => ?_) p hp
  obtain ⟨n, hn, e⟩ := (h.on_iff hp).1 hon
  have hnv := hv.need p hp ha n hn
  rcases e with rfl | e
  · exact hnv
  · obtain ⟨hlt, q, hq, rfl⟩ := h.has p hp n hn
    exact ih q hq hlt hnv e
theorem mem_clo {ps : List Pt} {ids : List Int} {x : Int} : x ∈ cloF ps ids ↔ (∃ p ∈ ps, p.id = x) ∧ ∃ n ∈ ids, n = x ∨ onF ps n x = true := by
  unfold cloF
  rw [mem_ids]
  constructor
  · rintro ⟨p, hp, hf, rfl⟩
    rw [List.any_eq_true] at hf
    obtain ⟨n, hn, e⟩ := hf
    exact ⟨⟨p, hp, rfl⟩, n, hn, by simpa using e⟩
  · rintro ⟨⟨p, hp, rfl⟩, n, hn, e⟩
    exact ⟨p, hp, List.any_eq_true.2 ⟨n, hn, by simpa using e⟩, rfl⟩
theorem clo_sorted {ps : List Pt} (h : Lst ps) (ids : List Int) : (cloF ps ids).Pairwise (· < ·) := ids_sorted h _
theorem chB_iff {ps : List Pt} {ids : List Int} : chB ps ids = true ↔ ids.Pairwise (· < ·) ∧ ∀ x ∈ ids, ∃ p ∈ ps, p.id = x := by
  unfold chB
  rw [Bool.and_eq_true, incB_iff, List.all_eq_true]
  exact ⟨fun h => ⟨h.1, fun x hx => hasI_iff.1 (h.2 x hx)⟩, fun h => ⟨h.1, fun x hx => hasI_iff.2 (h.2 x hx)⟩⟩
theorem clo_ver {ps : List Pt} (h : Lst ps) (ids : List Int) : Ver ps (cloF ps ids) where
  inc := clo_sorted h ids
  sub := fun x hx => (mem_clo.1 hx).1
  need := fun p hp hpv m hm => by
    obtain ⟨_, n, hn, e⟩ := mem_clo.1 hpv
    obtain ⟨_, q, hq, rfl⟩ := h.has p hp m hm
    refine mem_clo.2 ⟨⟨q, hq, rfl⟩, n, hn, .inr ?_⟩
    rcases e with rfl | e
    · exact h.on_need hp hm
    · exact h.on_trans e (h.on_need hp hm)
theorem clo_of_ver {ps : List Pt} (h : Lst ps) {v : List Int} (hv : Ver ps v) : cloF ps v = v :=
  sorted_ext (clo_sorted h v) hv.inc fun a => by
    rw [mem_clo]
    constructor
    · rintro ⟨_, n, hn, rfl | e⟩
      · exact hn
      · exact hv.on h hn e
    · intro ha
      exact ⟨hv.sub a ha, a, ha, .inl rfl⟩
theorem verB_iff {ps : List Pt} (h : Lst ps) {v : List Int} : verB ps v = true ↔ Ver ps v := by
  unfold verB
  rw [Bool.and_eq_true, chB_iff]
  constructor
  · rintro ⟨⟨h1, h2⟩, h3⟩
    have e : cloF ps v = v := of_decide_eq_true h3
    have := clo_ver h v
    rwa [e] at this
  · intro hv
    exact ⟨⟨hv.inc, hv.sub⟩, decide_eq_true (clo_of_ver h hv)⟩
/-- A closure has as many members as the list exactly if the list is a version. -/
theorem clo_len {ps : List Pt} (h : Lst ps) {v : List Int} (hc : chB ps v = true) : decide ((cloF ps v).length ≠ v.length) = !verB ps v := by
  have hsub : ∀ x ∈ v, x ∈ cloF ps v := fun x hx => mem_clo.2 ⟨(chB_iff.1 hc).2 x hx, x, hx, .inl rfl⟩
  have hnd := (chB_iff.1 hc).1
  unfold verB
  rw [hc, Bool.true_and]
  by_cases e : cloF ps v = v
  · rw [show sameF (cloF ps v) v = true from decide_eq_true e, e]; simp
  · rw [show sameF (cloF ps v) v = false from decide_eq_false e]
    refine decide_eq_true fun hl => e ?_
    exact ((sorted_sub hnd (clo_sorted h v) hsub).2 (by omega)).symm
theorem mem_mrg {ps : List Pt} {a b : List Int} {x : Int} : x ∈ mrgF ps a b ↔ (∃ p ∈ ps, p.id = x) ∧ (x ∈ a ∨ x ∈ b) := by
  unfold mrgF
  rw [mem_ids]
  constructor
  · rintro ⟨p, hp, hf, rfl⟩
    exact ⟨⟨p, hp, rfl⟩, by simpa using hf⟩
  · rintro ⟨⟨p, hp, rfl⟩, e⟩
    exact ⟨p, hp, by simpa using e, rfl⟩
theorem mrg_ver {ps : List Pt} (h : Lst ps) {a b : List Int} (ha : Ver ps a) (hb : Ver ps b) : Ver ps (mrgF ps a b) where
  inc := ids_sorted h _
  sub := fun x hx => (mem_mrg.1 hx).1
  need := fun p hp hpv m hm => by
    obtain ⟨_, q, hq, rfl⟩ := h.has p hp m hm
    refine mem_mrg.2 ⟨⟨q, hq, rfl⟩, ?_⟩
    rcases (mem_mrg.1 hpv).2 with e | e
    · exact .inl (ha.need p hp e _ hm)
    · exact .inr (hb.need p hp e _ hm)
theorem mem_mrg' {ps : List Pt} {a b : List Int} (ha : Ver ps a) (hb : Ver ps b) {x : Int} : x ∈ mrgF ps a b ↔ x ∈ a ∨ x ∈ b := by
  rw [mem_mrg]
  exact ⟨fun h => h.2, fun h => ⟨h.elim (ha.sub x) (hb.sub x), h⟩⟩
/-- The working form of a right store. -/
theorem ls_lst {ps : List Pt} (h0 : orF (ps.map pchk) = 0) (h : lsB ps = true) : Lst ps := by
  have hk : ∀ p ∈ ps, ndB p.id p.needs = true ∧ idB p = true ∧ kndB p = true := fun p hp => by
    have h1 := orF_zero.1 h0 (pchk p) (List.mem_map.2 ⟨p, hp, rfl⟩)
    unfold pchk at h1
    split at h1
    · cases h1
    · split at h1
      · rename_i h2
        simpa [Bool.and_eq_true] using h2
      · cases h1
  unfold lsB at h
  rw [List.all_eq_true] at h
  refine ⟨fun p hp => ?_, ?_, fun p hp n hn => ?_⟩
  · have := (hk p hp).2.1
    unfold idB at this
    simp at this
    omega
  · refine pair_of_next (R := fun p q : Pt => p.id < q.id) (fun a b c h1 h2 => Int.lt_trans h1 h2) fun k hk => ?_
    have h1 := h (k + 1) (List.mem_range.2 hk)
    unfold lsP at h1
    rw [show (((k + 1 : Nat) : Int) - 1).toNat = k by omega, getD_of (List.getElem?_eq_getElem hk), getD_of (List.getElem?_eq_getElem (show k < ps.length by omega))] at h1
    simp at h1
    have := h1.1
    omega
  · obtain ⟨k, hk1, rfl⟩ := List.mem_iff_getElem.1 hp
    have h1 := h k (List.mem_range.2 hk1)
    unfold lsP at h1
    rw [getD_of (List.getElem?_eq_getElem hk1)] at h1
    simp at h1
    refine ⟨?_, hasI_iff.1 (h1.2 n hn)⟩
    obtain ⟨j, hj, rfl⟩ := List.mem_iff_getElem.1 hn
    have h2 := (hk _ hp).1
    unfold ndB at h2
    rw [List.all_eq_true] at h2
    have h3 := h2 j (List.mem_range.2 hj)
    unfold ndP at h3
    rw [getD_of (List.getElem?_eq_getElem hj)] at h3
    simp at h3
    omega
theorem chkR_ok {ps : List Pt} (h : chkR ps = 0) : ps.length ≤ 512 ∧ orF (ps.map pchk) = 0 ∧ lsB ps = true ∧ togA ps = true := by
  unfold chkR at h
  split at h
  · cases h
  · split at h
    · contradiction
    · split at h
      · rename_i h1 h2 h3
        rw [Bool.and_eq_true] at h3
        exact ⟨by omega, by omega, h3⟩
      · cases h
theorem chkR_lst {ps : List Pt} (h : chkR ps = 0) : Lst ps := ls_lst (chkR_ok h).2.1 (chkR_ok h).2.2.1
end Go.Proofs.YtoicbikdenlioaaGreat
end
section
namespace Go.Proofs.YtoicbikdenlioaaGreat
open Go Go.Kn Go.Proofs
/-! ### Lists by keys -/
def Srt (xs : List Sg) : Prop := xs.Pairwise fun a b => a.id < b.id
def lookG (xs : List Sg) (s : Int) : Option Sg := xs.find? fun x => x.id == s
theorem look_nil {s : Int} : lookG [] s = none := rfl
theorem look_cons {x : Sg} {xs : List Sg} {s : Int} : lookG (x :: xs) s = if x.id = s then some x else lookG xs s := by
  unfold lookG
  rw [List.find?_cons]
  by_cases h : x.id = s
  · rw [if_pos h, show (x.id == s) = true by simpa using h]
  · rw [if_neg h, show (x.id == s) = false by simpa using h]
theorem look_id {xs : List Sg} {s : Int} {x : Sg} (h : lookG xs s = some x) : x.id = s := by
  have := List.find?_some h
  simpa using this
theorem look_mem {xs : List Sg} {s : Int} {x : Sg} (h : lookG xs s = some x) : x ∈ xs := List.mem_of_find?_eq_some h
theorem look_none {xs : List Sg} {s : Int} : lookG xs s = none ↔ ∀ x ∈ xs, x.id ≠ s := by
  unfold lookG
  rw [List.find?_eq_none]
  simp
theorem look_of {xs : List Sg} (h : Srt xs) {x : Sg} (hx : x ∈ xs) : lookG xs x.id = some x := by
  induction xs with
  | nil => cases hx
  | cons y ys ih =>
    rw [look_cons]
    have h' := List.pairwise_cons.1 h
    rcases List.mem_cons.1 hx with rfl | hx
    · rw [if_pos rfl]
    · rw [if_neg (by have := h'.1 x hx; omega)]
      exact ih h'.2 hx
theorem srt_ext {xs ys : List Sg} (hx : Srt xs) (hy : Srt ys) (h : ∀ s, lookG xs s = lookG ys s) : xs = ys := by
  have hm : ∀ {xs ys : List Sg}, Srt xs → (∀ s, lookG xs s = lookG ys s) → ∀ a ∈ xs, a ∈ ys := fun {xs ys} h1 h2 a ha => look_mem (by rw [← h2]; exact look_of h1 ha)
  have h1 := hm hx h
  have h2 := hm hy (fun s => (h s).symm)
  clear hm h
  induction xs generalizing ys with
  | nil =>
    cases ys with
    | nil => rfl
    | cons y ys => have := h2 y (List.mem_cons_self ..); cases this
  | cons x xs ih =>
    cases ys with
    | nil => have := h1 x (List.mem_cons_self ..); cases this
    | cons y ys =>
      have hx' := List.pairwise_cons.1 hx
      have hy' := List.pairwise_cons.1 hy
      have e : x = y := by
        rcases List.mem_cons.1 (h1 x (List.mem_cons_self ..)) with e | e
        · exact e
        · rcases List.mem_cons.1 (h2 y (List.mem_cons_self ..)) with e2 | e2
          · exact e2.symm
          · have h3 := hx'.1 _ e2; have h4 := hy'.1 _ e; omega
      subst e
      refine congrArg _ (ih hx'.2 hy'.2 (fun a ha => ?_) (fun a ha => ?_))
      · rcases List.mem_cons.1 (h1 a (List.mem_cons_of_mem _ ha)) with e | e
        · subst e; have := hx'.1 _ ha; omega
        · exact e
      · rcases List.mem_cons.1 (h2 a (List.mem_cons_of_mem _ ha)) with e | e
        · subst e; have := hy'.1 _ ha; omega
        · exact e
theorem skB_srt {xs : List Sg} (h : skB xs = true) : Srt xs := by
  unfold skB at h
  rw [List.all_eq_true] at h
  refine pair_of_next (R := fun p q : Sg => p.id < q.id) (fun a b c h1 h2 => Int.lt_trans h1 h2) fun k hk => ?_
  have h1 := h (k + 1) (List.mem_range.2 hk)
  unfold skP at h1
  rw [show (((k + 1 : Nat) : Int) - 1).toNat = k by omega, getD_of (List.getElem?_eq_getElem hk), getD_of (List.getElem?_eq_getElem (show k < xs.length by omega))] at h1
  simp at h1
  have := h1.2
  omega
theorem skB_frm {xs : List Sg} (h : skB xs = true) {x : Sg} (hx : x ∈ xs) : frm x = true := by
  unfold skB at h
  rw [List.all_eq_true] at h
  obtain ⟨k, hk, rfl⟩ := List.mem_iff_getElem.1 hx
  have h1 := h k (List.mem_range.2 hk)
  unfold skP at h1
  rw [getD_of (List.getElem?_eq_getElem hk)] at h1
  simp at h1
  exact h1.1
theorem chkG_ok {xs : List Sg} (h : chkG xs = 0) : xs.length ≤ 4096 ∧ skB xs = true := by
  unfold chkG at h
  split at h
  · cases h
  · split at h
    · rename_i h1 h2; exact ⟨by omega, h2⟩
    · cases h
/-- A sign at its place; it is not there yet. -/
def putF (xs : List Sg) (k : Sg) : List Sg := xs.takeWhile (fun x => decide (x.id < k.id)) ++ k :: xs.dropWhile (fun x => decide (x.id < k.id))
theorem look_app {xs ys : List Sg} {s : Int} : lookG (xs ++ ys) s = (lookG xs s).or (lookG ys s) := by unfold lookG; rw [List.find?_append]
theorem put_look {xs : List Sg} {k : Sg} {s : Int} (hn : lookG xs k.id = none) : lookG (putF xs k) s = if k.id = s then some k else lookG xs s := by
  unfold putF
  rw [look_app, look_cons]
  by_cases h : k.id = s
  · subst h
    have h1 : lookG (xs.takeWhile fun x => decide (x.id < k.id)) k.id = none := look_none.2 fun x hx => look_none.1 hn x ((List.takeWhile_sublist _).mem hx)
    rw [h1, if_pos rfl, if_pos rfl]; rfl
  · rw [if_neg h, if_neg h, ← look_app, List.takeWhile_append_dropWhile]
theorem dropWhile_ge {xs : List Sg} (h : Srt xs) {k : Int} : ∀ x ∈ xs.dropWhile (fun x => decide (x.id < k)), k ≤ x.id := by
  induction xs with
  | nil => intro x hx; cases hx
  | cons y ys ih =>
    have h' := List.pairwise_cons.1 h
    intro x hx
    rw [List.dropWhile_cons] at hx
    split at hx
    · exact ih h'.2 x hx
    · rename_i hy
      have hy : k ≤ y.id := by simpa using hy
      rcases List.mem_cons.1 hx with rfl | hx
      · exact hy
      · have := h'.1 x hx; omega
theorem takeWhile_lt {xs : List Sg} {k : Int} : ∀ x ∈ xs.takeWhile (fun x => decide (x.id < k)), x.id < k := fun x hx => by
  have := List.all_eq_true.1 (List.all_takeWhile (l := xs) (p := fun x : Sg => decide (x.id < k))) x hx
  simpa using this
theorem put_srt {xs : List Sg} (h : Srt xs) {k : Sg} (hn : lookG xs k.id = none) : Srt (putF xs k) := by
  have h0 : Srt (xs.takeWhile (fun x => decide (x.id < k.id)) ++ xs.dropWhile (fun x => decide (x.id < k.id))) := by rw [List.takeWhile_append_dropWhile]; exact h
  unfold Srt at h0
  rw [List.pairwise_append] at h0
  unfold Srt putF
  rw [List.pairwise_append, List.pairwise_cons]
  refine ⟨h0.1, ⟨fun x hx => ?_, h0.2.1⟩, fun x hx y hy => ?_⟩
  · have h1 := dropWhile_ge h x hx
    have h2 := look_none.1 hn x ((List.dropWhile_sublist _).mem hx)
    omega
  · rcases List.mem_cons.1 hy with rfl | hy
    · exact takeWhile_lt x hx
    · exact h0.2.2 x hx y hy
/-! ### One field of a sign -/
def fldG (x : Sg) (f : Int) : Int × Int × Int × Int :=
  if f = 1 then (x.role, 0, 0, 0) else if f = 2 then (x.bar, 0, 0, 0) else if f = 3 then (x.mark, 0, 0, 0) else if f = 4 then (x.side, 0, 0, 0) else if f = 5 then (x.dir, 0, 0, 0)
  else if f = 6 then (x.level, 0, 0, 0) else if f = 7 then (x.size, 0, 0, 0) else if f = 8 then (x.wth, 0, 0, 0) else if f = 9 then (x.fn, x.fd, x.tn, x.td) else (0, 0, 0, 0)
def isF (f : Int) : Prop := 1 ≤ f ∧ f ≤ 9
theorem isF_cases {f : Int} (h : isF f) : f = 1 ∨ f = 2 ∨ f = 3 ∨ f = 4 ∨ f = 5 ∨ f = 6 ∨ f = 7 ∨ f = 8 ∨ f = 9 := by unfold isF at h; omega
theorem set_id {x y : Sg} {f : Int} : (setG x f y).id = x.id := by unfold setG; repeat' split
                                                                   all_goals rfl
theorem set_kind {x y : Sg} {f : Int} : (setG x f y).kind = x.kind := by unfold setG; repeat' split
                                                                         all_goals rfl
theorem set_fld1 {x y : Sg} {g : Int} : fldG (setG x 1 y) g = if g = 1 then fldG y g else fldG x g := by
  rw [show setG x 1 y = { x with role := y.role } from rfl]
  by_cases hg : g = 1
  · subst hg; rfl
  · rw [if_neg hg]
    unfold fldG
    simp only [if_neg hg]
theorem set_fld2 {x y : Sg} {g : Int} : fldG (setG x 2 y) g = if g = 2 then fldG y g else fldG x g := by
  rw [show setG x 2 y = { x with bar := y.bar } from rfl]
  by_cases hg : g = 2
  · subst hg; rfl
  · rw [if_neg hg]
    unfold fldG
    simp only [if_neg hg]
theorem set_fld3 {x y : Sg} {g : Int} : fldG (setG x 3 y) g = if g = 3 then fldG y g else fldG x g := by
  rw [show setG x 3 y = { x with mark := y.mark } from rfl]
  by_cases hg : g = 3
  · subst hg; rfl
  · rw [if_neg hg]
    unfold fldG
    simp only [if_neg hg]
theorem set_fld4 {x y : Sg} {g : Int} : fldG (setG x 4 y) g = if g = 4 then fldG y g else fldG x g := by
  rw [show setG x 4 y = { x with side := y.side } from rfl]
  by_cases hg : g = 4
  · subst hg; rfl
  · rw [if_neg hg]
    unfold fldG
    simp only [if_neg hg]
theorem set_fld5 {x y : Sg} {g : Int} : fldG (setG x 5 y) g = if g = 5 then fldG y g else fldG x g := by
  rw [show setG x 5 y = { x with dir := y.dir } from rfl]
  by_cases hg : g = 5
  · subst hg; rfl
  · rw [if_neg hg]
    unfold fldG
    simp only [if_neg hg]
theorem set_fld6 {x y : Sg} {g : Int} : fldG (setG x 6 y) g = if g = 6 then fldG y g else fldG x g := by
  rw [show setG x 6 y = { x with level := y.level } from rfl]
  by_cases hg : g = 6
  · subst hg; rfl
  · rw [if_neg hg]
    unfold fldG
    simp only [if_neg hg]
theorem set_fld7 {x y : Sg} {g : Int} : fldG (setG x 7 y) g = if g = 7 then fldG y g else fldG x g := by
  rw [show setG x 7 y = { x with size := y.size } from rfl]
  by_cases hg : g = 7
  · subst hg; rfl
  · rw [if_neg hg]
    unfold fldG
    simp only [if_neg hg]
theorem set_fld8 {x y : Sg} {g : Int} : fldG (setG x 8 y) g = if g = 8 then fldG y g else fldG x g := by
  rw [show setG x 8 y = { x with wth := y.wth } from rfl]
  by_cases hg : g = 8
  · subst hg; rfl
  · rw [if_neg hg]
    unfold fldG
    simp only [if_neg hg]
theorem set_fld9 {x y : Sg} {g : Int} : fldG (setG x 9 y) g = if g = 9 then fldG y g else fldG x g := by
  rw [show setG x 9 y = { x with fn := y.fn, fd := y.fd, tn := y.tn, td := y.td } from rfl]
  by_cases hg : g = 9
  · subst hg; rfl
  · rw [if_neg hg]
    unfold fldG
    simp only [if_neg hg]
theorem set_fld {x y : Sg} {f g : Int} (hf : isF f) : fldG (setG x f y) g = if g = f then fldG y g else fldG x g := by
  rcases isF_cases hf with rfl | rfl | rfl | rfl | rfl | rfl | rfl | rfl | rfl
  · exact set_fld1
  · exact set_fld2
  · exact set_fld3
  · exact set_fld4
  · exact set_fld5
  · exact set_fld6
  · exact set_fld7
  · exact set_fld8
  · exact set_fld9
theorem sg_ext {x y : Sg} (h1 : x.id = y.id) (h2 : x.kind = y.kind) (h : ∀ f, isF f → fldG x f = fldG y f) : x = y := by
  have e1 : x.role = y.role := congrArg (fun p => p.1) (show ((x.role, 0, 0, 0) : Int × Int × Int × Int) = (y.role, 0, 0, 0) from h 1 ⟨by decide, by decide⟩)
  have e2 : x.bar = y.bar := congrArg (fun p => p.1) (show ((x.bar, 0, 0, 0) : Int × Int × Int × Int) = (y.bar, 0, 0, 0) from h 2 ⟨by decide, by decide⟩)
  have e3 : x.mark = y.mark := congrArg (fun p => p.1) (show ((x.mark, 0, 0, 0) : Int × Int × Int × Int) = (y.mark, 0, 0, 0) from h 3 ⟨by decide, by decide⟩)
  have e4 : x.side = y.side := congrArg (fun p => p.1) (show ((x.side, 0, 0, 0) : Int × Int × Int × Int) = (y.side, 0, 0, 0) from h 4 ⟨by decide, by decide⟩)
  have e5 : x.dir = y.dir := congrArg (fun p => p.1) (show ((x.dir, 0, 0, 0) : Int × Int × Int × Int) = (y.dir, 0, 0, 0) from h 5 ⟨by decide, by decide⟩)
  have e6 : x.level = y.level := congrArg (fun p => p.1) (show ((x.level, 0, 0, 0) : Int × Int × Int × Int) = (y.level, 0, 0, 0) from h 6 ⟨by decide, by decide⟩)
  have e7 : x.size = y.size := congrArg (fun p => p.1) (show ((x.size, 0, 0, 0) : Int × Int × Int × Int) = (y.size, 0, 0, 0) from h 7 ⟨by decide, by decide⟩)
  have e8 : x.wth = y.wth := congrArg (fun p => p.1) (show ((x.wth, 0, 0, 0) : Int × Int × Int × Int) = (y.wth, 0, 0, 0) from h 8 ⟨by decide, by decide⟩)
  have e9 : (x.fn, x.fd, x.tn, x.td) = (y.fn, y.fd, y.tn, y.td) := h 9 ⟨by decide, by decide⟩
  obtain ⟨a1, a2, a3, a4, a5, a6, a7, a8, a9, a10, a11, a12, a13, a14⟩ := x
  obtain ⟨b1, b2, b3, b4, b5, b6, b7, b8, b9, b10, b11, b12, b13, b14⟩ := y
  cases h1; cases h2; cases e1; cases e2; cases e3; cases e4; cases e5; cases e6; cases e7; cases e8; cases e9
  rfl
end Go.Proofs.YtoicbikdenlioaaGreat
end
section
namespace Go.Proofs.YtoicbikdenlioaaGreat
open Go Go.Kn Go.Proofs
/-- The RemovePs about a sign. -/
def rmF (l : List Pt) (s : Int) : List Int := (l.filter fun p => p.kind == 3 && p.sign == s).map (·.id)
/-- The SetPs about a sign and a field. -/
def stF (l : List Pt) (s f : Int) : List Pt := l.filter fun p => p.kind == 1 && (p.sign == s && p.field == f)
/-- A SetP on which some RemoveP about its sign does not stand. -/
def unB (on : Int → Int → Bool) (l : List Pt) (p : Pt) : Bool := p.kind == 1 && (rmF l p.sign).any fun i => !on i p.id
def unF (on : Int → Int → Bool) (l : List Pt) (s : Int) : List Pt := l.filter fun p => p.sign == s && unB on l p
def exB (on : Int → Int → Bool) (l : List Pt) (s : Int) : Bool := (rmF l s).isEmpty || !(unF on l s).isEmpty
/-- The latest SetPs about a sign and a field. -/
def latF (on : Int → Int → Bool) (l : List Pt) (s f : Int) : List Pt := (stF l s f).filter fun p => !(stF l s f).any fun q => on q.id p.id
def setO (x : Sg) (f : Int) : List Pt → Sg
  | [] => x
  | p :: _ => setG x f p.nw
/-- A sign with the values of its latest patches, up to a field. -/
def curK (on : Int → Int → Bool) (l : List Pt) (x : Sg) (k : Nat) : Sg := (List.range k).foldl (fun y (j : Nat) => setO y ((j : Int) + 1) (latF on l x.id ((j : Int) + 1))) x
def curF (on : Int → Int → Bool) (l : List Pt) (x : Sg) : Sg := curK on l x 9
/-- The signs of a base, and those that are inserted. -/
def allG (base : List Sg) (l : List Pt) : List Sg := l.foldl (fun s p => if p.kind = 2 then putF s p.nw else s) base
def sgnL (on : Int → Int → Bool) (base : List Sg) (l : List Pt) : List Sg := ((allG base l).filter fun x => exB on l x.id).map (curF on l)
def verL (ps : List Pt) (v : List Int) : List Pt := ps.filter fun p => v.any (· == p.id)
def hasS (xs : List Sg) (s : Int) : Bool := xs.any fun x => x.id == s
def insB (l : List Pt) (s : Int) : Bool := l.any fun q => q.kind == 2 && q.sign == s
def fitP (base : List Sg) (l : List Pt) (p : Pt) : Bool := !((p.kind == 2 && hasS base p.sign) || (p.kind != 2 && !hasS base p.sign) && !insB l p.sign)
def fitB (base : List Sg) (l : List Pt) : Bool := l.all (fitP base l)
/-- The error of a version that has to fit a base. -/
def patE (ps : List Pt) (base : List Sg) (v : List Int) : Int := if chkR ps ≠ 0 then chkR ps else if chkG base ≠ 0 then chkG base else if v.length > 512 then 2 else if verB ps v && fitB base (verL ps v) then 0 else 380
def sgnE (ps : List Pt) (base : List Sg) (v : List Int) : Int := if patE ps base v ≠ 0 then patE ps base v else if (sgnL (onF ps) base (verL ps v)).length > 4096 then 2 else 0
def sgnF (ps : List Pt) (base : List Sg) (v : List Int) : List Sg := resF (sgnE ps base v) (sgnL (onF ps) base (verL ps v))
/-! ### Conflicts -/
def difB : List Pt → Bool
  | [] => false
  | p :: ps => ps.any fun q => !sgEq q.nw p.nw
abbrev Ck := Int × Int × List Int
def cf0 (on : Int → Int → Bool) (l : List Pt) (s : Int) : List Ck := if (unF on l s).isEmpty then [] else [(s, 0, (l.filter fun p => p.sign == s && (unB on l p || p.kind == 3)).map (·.id))]
def cfK (on : Int → Int → Bool) (l : List Pt) (s f : Int) : List Ck := if exB on l s && difB (latF on l s f) then [(s, f, (latF on l s f).map (·.id))] else []
def cfS (on : Int → Int → Bool) (l : List Pt) (s : Int) : List Ck := cf0 on l s ++ (List.range 9).flatMap fun (k : Nat) => cfK on l s ((k : Int) + 1)
def cfL (on : Int → Int → Bool) (base : List Sg) (l : List Pt) : List Ck := (allG base l).flatMap fun x => cfS on l x.id
def cflF (ps : List Pt) (base : List Sg) (v : List Int) : List Ck := resF (sgnE ps base v) (cfL (onF ps) base (verL ps v))
/-! ### A store that is right -/
structure PtOK (p : Pt) : Prop where
  pos : 1 ≤ p.id ∧ p.id ≤ 1048576
  sg : 0 ≤ p.sign ∧ p.sign ≤ 1048576
  kind : p.kind = 1 ∨ p.kind = 2 ∨ p.kind = 3
  set : p.kind = 1 → isF p.field ∧ setG p.nw p.field zeroG = zeroG ∧ frm (setG plainG p.field p.nw) = true
  ins : p.kind = 2 → p.nw.id = p.sign ∧ frm p.nw = true
theorem pchk_ok {p : Pt} (h : pchk p = 0) : PtOK p := by
  unfold pchk at h
  split at h
  · cases h
  · split at h
    · rename_i h1 h2
      rw [Bool.and_eq_true, Bool.and_eq_true] at h2
      obtain ⟨h3, h4, h5⟩ := h2
      unfold idB at h4
      unfold kndB at h5
      simp only [Bool.and_eq_true, decide_eq_true_eq] at h4
      refine ⟨by omega, by omega, ?_, fun hk => ?_, fun hk => ?_⟩
      · split at h5
        · omega
        · split at h5
          · omega
          · split at h5
            · omega
            · cases h5
      · rw [if_pos hk] at h5
        simp only [Bool.and_eq_true, within, decide_eq_true_eq] at h5
        exact ⟨⟨h5.1.1, h5.1.2⟩, sgEq_iff.1 h5.2.1, h5.2.2⟩
      · rw [if_neg (by omega), if_pos hk] at h5
        simp only [Bool.and_eq_true, beq_iff_eq] at h5
        exact h5.2
    · cases h
structure Sto (ps : List Pt) : Prop where
  lst : Lst ps
  ok : ∀ p ∈ ps, PtOK p
  tog : ∀ p ∈ ps, ∀ q ∈ ps, p.id ≠ q.id → togB p q (onF ps p.id q.id) = true
theorem togA_at {ps : List Pt} (h : togA ps = true) {p q : Pt} (hp : p ∈ ps) (hq : q ∈ ps) (hne : p.id ≠ q.id) : togB p q (onF ps p.id q.id) = true := by
  unfold togA at h
  rw [List.all_eq_true] at h
  have h1 := h p hp
  rw [List.all_eq_true] at h1
  have h2 := h1 q hq
  rw [show (p.id == q.id) = false by simpa using hne, Bool.false_or] at h2
  exact h2
theorem chkR_sto {ps : List Pt} (h : chkR ps = 0) : Sto ps :=
  ⟨chkR_lst h, fun p hp => pchk_ok (orF_zero.1 (chkR_ok h).2.1 _ (List.mem_map.2 ⟨p, hp, rfl⟩)), fun p hp q hq hne => togA_at (chkR_ok h).2.2.2 hp hq hne⟩
theorem Sto.ins {ps : List Pt} (h : Sto ps) {p q : Pt} (hp : p ∈ ps) (hq : q ∈ ps) (hs : p.sign = q.sign) (hk : q.kind = 2) : p = q ∨ (p.kind ≠ 2 ∧ onF ps p.id q.id = true) := by
  by_cases e : p.id = q.id
  · exact .inl (h.lst.uniq hp hq e)
  · have := h.tog p hp q hq e
    unfold togB at this
    rw [if_neg (by simpa using hs), if_pos hk] at this
    simp at this
    exact .inr this
theorem mem_verL {ps : List Pt} {v : List Int} {p : Pt} : p ∈ verL ps v ↔ p ∈ ps ∧ p.id ∈ v := by
  unfold verL
  rw [List.mem_filter]
  simp
theorem Ver.closed {ps : List Pt} {v : List Int} (hv : Ver ps v) : ∀ p ∈ ps, (v.any (· == p.id)) = true → ∀ q ∈ ps, q.id ∈ p.needs → (v.any (· == q.id)) = true := fun p hp h q _ hq => by
  have : p.id ∈ v := by simpa using h
  have := hv.need p hp this _ hq
  simpa using this
theorem verL_lst {ps : List Pt} {v : List Int} (h : Lst ps) (hv : Ver ps v) : Lst (verL ps v) := h.part hv.closed
theorem verL_on {ps : List Pt} {v : List Int} (h : Lst ps) (hv : Ver ps v) {p : Pt} (hp : p ∈ verL ps v) (b : Int) : onF (verL ps v) p.id b = onF ps p.id b :=
  h.on_part hv.closed (mem_verL.1 hp).1 (List.mem_filter.1 hp).2
theorem verL_sto {ps : List Pt} {v : List Int} (h : Sto ps) (hv : Ver ps v) : Sto (verL ps v) :=
  ⟨verL_lst h.lst hv, fun p hp => h.ok p (mem_verL.1 hp).1, fun p hp q hq hne => by rw [verL_on h.lst hv hp]; exact h.tog p (mem_verL.1 hp).1 q (mem_verL.1 hq).1 hne⟩
/-! ### Standing matters within the version alone -/
def OnEq (l : List Pt) (on on' : Int → Int → Bool) : Prop := ∀ p ∈ l, ∀ b, on p.id b = on' p.id b
theorem mem_rmF {l : List Pt} {s i : Int} : i ∈ rmF l s ↔ ∃ p ∈ l, p.kind = 3 ∧ p.sign = s ∧ p.id = i := by
  unfold rmF
  rw [mem_ids]
  simp [and_assoc]
theorem mem_stF {l : List Pt} {s f : Int} {p : Pt} : p ∈ stF l s f ↔ p ∈ l ∧ p.kind = 1 ∧ p.sign = s ∧ p.field = f := by
  unfold stF
  rw [List.mem_filter]
  simp
section
variable {l : List Pt} {on on' : Int → Int → Bool}
theorem unB_eq (h : OnEq l on on') (p : Pt) : unB on l p = unB on' l p := by
  unfold unB
  congr 1
  refine any_same fun i hi => ?_
  obtain ⟨q, hq, _, _, rfl⟩ := mem_rmF.1 hi
  rw [h q hq]
theorem unF_eq (h : OnEq l on on') (s : Int) : unF on l s = unF on' l s := by
  unfold unF
  exact congrArg (fun f => l.filter f) (funext fun p => by rw [unB_eq h])
theorem exB_eq (h : OnEq l on on') (s : Int) : exB on l s = exB on' l s := by
  unfold exB
  rw [unF_eq h]
theorem latF_eq (h : OnEq l on on') (s f : Int) : latF on l s f = latF on' l s f := by
  unfold latF
  refine congrArg (fun g => (stF l s f).filter g) (funext fun p => ?_)
  refine congrArg _ (any_same fun q hq => ?_)
  rw [h q (mem_stF.1 hq).1]
theorem curK_eq (h : OnEq l on on') (x : Sg) (k : Nat) : curK on l x k = curK on' l x k := by
  unfold curK
  have : (fun (y : Sg) (j : Nat) => setO y ((j : Int) + 1) (latF on l x.id ((j : Int) + 1))) = fun (y : Sg) (j : Nat) => setO y ((j : Int) + 1) (latF on' l x.id ((j : Int) + 1)) := funext fun y => funext fun j => by rw [latF_eq h]
  rw [this]
theorem sgnL_eq (h : OnEq l on on') (base : List Sg) : sgnL on base l = sgnL on' base l := by
  unfold sgnL
  rw [show (fun x : Sg => exB on l x.id) = fun x => exB on' l x.id from funext fun x => exB_eq h x.id, show curF on l = curF on' l from funext fun x => curK_eq h x 9]
end
theorem verL_onEq {ps : List Pt} {v : List Int} (h : Lst ps) (hv : Ver ps v) : OnEq (verL ps v) (onF (verL ps v)) (onF ps) := fun _ hp b => verL_on h hv hp b
end Go.Proofs.YtoicbikdenlioaaGreat
end
section
namespace Go.Proofs.YtoicbikdenlioaaGreat
open Go Go.Kn Go.Proofs
theorem lst_ls {ps : List Pt} (h : Lst ps) : lsB ps = true := by
  unfold lsB
  rw [List.all_eq_true]
  intro k hk
  rw [List.mem_range] at hk
  have hn : ∀ n ∈ (ps[k]).needs, hasI ps n = true := fun n hn => hasI_iff.2 (h.has _ (List.getElem_mem hk) n hn).2
  unfold lsP
  rw [getD_of (List.getElem?_eq_getElem hk)]
  rw [show (ps[k]).needs.any (fun n => !hasI ps n) = false from List.any_eq_false.2 fun n hn' => by rw [hn n hn']; decide, Bool.or_false]
  cases k with
  | zero => rfl
  | succ k =>
    rw [show (((k + 1 : Nat) : Int) - 1).toNat = k by omega, getD_of (List.getElem?_eq_getElem (show k < ps.length by omega))]
    have := List.pairwise_iff_getElem.1 h.inc k (k + 1) (by omega) hk (by omega)
    simp; omega
theorem sto_tog {ps : List Pt} (h : Sto ps) : togA ps = true := by
  unfold togA
  rw [List.all_eq_true]
  intro p hp
  rw [List.all_eq_true]
  intro q hq
  by_cases e : p.id = q.id
  · rw [show (p.id == q.id) = true by simpa using e]; rfl
  · rw [h.tog p hp q hq e, Bool.or_true]
theorem chkR_of {ps : List Pt} (hn : ps.length ≤ 512) (hp : orF (ps.map pchk) = 0) (h : Sto ps) : chkR ps = 0 := by
  unfold chkR
  rw [if_neg (by omega), if_neg (by omega), lst_ls h.lst, sto_tog h]; rfl
section
variable {ps : List Pt} {base : List Sg} {v : List Int}
end
/-! ### All signs of a base and of what is inserted -/
theorem hasS_look {xs : List Sg} {s : Int} : hasS xs s = (lookG xs s).isSome := by
  unfold hasS lookG
  rw [Bool.eq_iff_iff, List.find?_isSome, List.any_eq_true]
/-- What the InsertP about a sign inserts. -/
def insO (l : List Pt) (s : Int) : Option Sg := (l.find? fun q => q.kind == 2 && q.sign == s).map (·.nw)
theorem insB_O {l : List Pt} {s : Int} : insB l s = (insO l s).isSome := by
  unfold insB insO
  rw [Option.isSome_map, Bool.eq_iff_iff, List.find?_isSome, List.any_eq_true]
theorem insO_some {l : List Pt} {s : Int} {x : Sg} (h : insO l s = some x) : ∃ q ∈ l, q.kind = 2 ∧ q.sign = s ∧ q.nw = x := by
  unfold insO at h
  rw [Option.map_eq_some_iff] at h
  obtain ⟨q, hq, rfl⟩ := h
  have := List.find?_some hq
  simp at this
  exact ⟨q, List.mem_of_find?_eq_some hq, this.1, this.2, rfl⟩
theorem insO_of {l : List Pt} (h : Sto l) {q : Pt} (hq : q ∈ l) (hk : q.kind = 2) : insO l q.sign = some q.nw := by
  cases hf : insO l q.sign with
  | none =>
    unfold insO at hf
    rw [Option.map_eq_none_iff, List.find?_eq_none] at hf
    have := hf q hq
    simp [hk] at this
  | some x =>
    obtain ⟨r, hr, h1, h2, rfl⟩ := insO_some hf
    rcases h.ins hr hq h2 hk with e | ⟨e, _⟩
    · rw [e]
    · exact absurd h1 e
/-- Patches that fit a base: each one is about a sign of it, or about an inserted one; none inserts one of it. -/
theorem fit_ins {base : List Sg} {l : List Pt} (h : fitB base l = true) {q : Pt} (hq : q ∈ l) (hk : q.kind = 2) : lookG base q.sign = none := by
  unfold fitB at h
  rw [List.all_eq_true] at h
  have := h q hq
  unfold fitP at this
  rw [hasS_look] at this
  simp [hk] at this
  exact this
theorem fit_has {base : List Sg} {l : List Pt} (h : fitB base l = true) {q : Pt} (hq : q ∈ l) : (lookG base q.sign).isSome = true ∨ (insO l q.sign).isSome = true := by
  unfold fitB at h
  rw [List.all_eq_true] at h
  have := h q hq
  unfold fitP at this
  rw [hasS_look, insB_O] at this
  by_cases hk : q.kind = 2
  · right
    rw [← insB_O]
    unfold insB
    exact List.any_eq_true.2 ⟨q, hq, by simp [hk]⟩
  · simp [hk] at this
    cases h1 : lookG base q.sign with
    | some x => exact .inl rfl
    | none => rw [h1] at this; exact .inr (this.resolve_left (by simp))
theorem all_step {base : List Sg} {l : List Pt} {q : Pt} : allG base (l ++ [q]) = if q.kind = 2 then putF (allG base l) q.nw else allG base l := by
  unfold allG
  rw [List.foldl_append]; rfl
/-- Signs by prefixes of the patches. -/
theorem all_pre {base : List Sg} (hb : Srt base) : ∀ (l2 l1 : List Pt), Sto (l1 ++ l2) → fitB base (l1 ++ l2) = true → Srt (allG base l1) → (∀ s, lookG (allG base l1) s = (lookG base s).or (insO l1 s)) →
    Srt (allG base (l1 ++ l2)) ∧ ∀ s, lookG (allG base (l1 ++ l2)) s = (lookG base s).or (insO (l1 ++ l2) s)
  | [], l1, _, _, h1, h2 => by rw [List.append_nil]; exact ⟨h1, h2⟩
  | q :: l2, l1, hs, hf, h1, h2 => by
    have e : l1 ++ q :: l2 = (l1 ++ [q]) ++ l2 := by simp
    rw [e] at hs hf ⊢
    have hq : q ∈ l1 ++ [q] ++ l2 := by simp
    have hins : ∀ s, insO (l1 ++ [q]) s = (insO l1 s).or (if q.kind = 2 ∧ q.sign = s then some q.nw else none) := by
      intro s
      unfold insO
      rw [List.find?_append]
      by_cases hk : q.kind = 2 ∧ q.sign = s
      · rw [if_pos hk, List.find?_cons, show (q.kind == 2 && q.sign == s) = true by simpa using hk]
        cases l1.find? fun q => q.kind == 2 && q.sign == s <;> rfl
      · rw [if_neg hk, List.find?_cons, show (q.kind == 2 && q.sign == s) = false by simpa using hk]
        cases l1.find? fun q => q.kind == 2 && q.sign == s <;> rfl
    refine all_pre hb l2 (l1 ++ [q]) hs hf ?_ ?_
    · rw [all_step]
      by_cases hk : q.kind = 2
      · rw [if_pos hk]
        have hid := ((hs.ok q hq).ins hk).1
        refine put_srt h1 ?_
        rw [h2, hid, fit_ins hf hq hk]
        cases hi : insO l1 q.sign with
        | none => rfl
        | some x =>
          exfalso
          obtain ⟨r, hr, hr1, hr2, _⟩ := insO_some hi
          rcases hs.ins (p := r) (q := q) (by simp [hr]) hq hr2 hk with e2 | ⟨e2, _⟩
          · subst e2
            have := hs.lst.inc
            rw [List.append_assoc, List.pairwise_append] at this
            have := this.2.2 r hr r (by simp)
            omega
          · exact e2 hr1
      · rw [if_neg hk]; exact h1
    · intro s
      rw [all_step, hins]
      by_cases hk : q.kind = 2
      · have hid := ((hs.ok q hq).ins hk).1
        have hnone : lookG (allG base l1) q.nw.id = none := by
          rw [h2, hid, fit_ins hf hq hk]
          cases hi : insO l1 q.sign with
          | none => rfl
          | some x =>
            exfalso
            obtain ⟨r, hr, hr1, hr2, _⟩ := insO_some hi
            rcases hs.ins (p := r) (q := q) (by simp [hr]) hq hr2 hk with e2 | ⟨e2, _⟩
            · subst e2
              have := hs.lst.inc
              rw [List.append_assoc, List.pairwise_append] at this
              have := this.2.2 r hr r (by simp)
              omega
            · exact e2 hr1
        rw [if_pos hk, put_look hnone, hid, h2]
        have hn2 := hnone
        rw [h2, hid] at hn2
        by_cases hs2 : q.sign = s
        · subst hs2
          rw [if_pos rfl, if_pos ⟨hk, rfl⟩]
          cases h3 : lookG base q.sign with
          | some x => rw [h3] at hn2; cases hn2
          | none =>
            rw [h3] at hn2
            cases h4 : insO l1 q.sign with
            | some x => rw [h4] at hn2; cases hn2
            | none => rfl
        · rw [if_neg hs2, if_neg (fun h => hs2 h.2), Option.or_none]
      · rw [if_neg hk, if_neg (fun h => hk h.1), Option.or_none, h2]
theorem all_look {base : List Sg} {l : List Pt} (hb : Srt base) (hs : Sto l) (hf : fitB base l = true) : Srt (allG base l) ∧ ∀ s, lookG (allG base l) s = (lookG base s).or (insO l s) := by
  have := all_pre hb l [] hs hf hb (fun s => by simp [insO, allG])
  simpa using this
end Go.Proofs.YtoicbikdenlioaaGreat
end
section
namespace Go.Proofs.YtoicbikdenlioaaGreat
open Go Go.Kn Go.Proofs
theorem setO_id {x : Sg} {f : Int} {ps : List Pt} : (setO x f ps).id = x.id := by
  cases ps with
  | nil => rfl
  | cons p ps => exact set_id
theorem setO_kind {x : Sg} {f : Int} {ps : List Pt} : (setO x f ps).kind = x.kind := by
  cases ps with
  | nil => rfl
  | cons p ps => exact set_kind
theorem curK_step {on : Int → Int → Bool} {l : List Pt} {x : Sg} {k : Nat} : curK on l x (k + 1) = setO (curK on l x k) ((k : Int) + 1) (latF on l x.id ((k : Int) + 1)) := by
  unfold curK
  rw [List.range_succ, List.foldl_append]; rfl
theorem curK_id {on : Int → Int → Bool} {l : List Pt} {x : Sg} : ∀ k : Nat, (curK on l x k).id = x.id ∧ (curK on l x k).kind = x.kind
  | 0 => ⟨rfl, rfl⟩
  | k + 1 => by
    rw [curK_step, setO_id, setO_kind]
    exact curK_id k
def valO (x : Sg) (f : Int) : List Pt → Int × Int × Int × Int
  | [] => fldG x f
  | p :: _ => fldG p.nw f
theorem curK_fld {on : Int → Int → Bool} {l : List Pt} {x : Sg} {f : Int} (hf : isF f) : ∀ k : Nat, k ≤ 9 → fldG (curK on l x k) f = if f ≤ k then valO x f (latF on l x.id f) else fldG x f
  | 0, _ => by rw [if_neg (by unfold isF at hf; omega)]; rfl
  | k + 1, hk => by
    rw [curK_step]
    have ih := curK_fld (on := on) (l := l) (x := x) hf k (by omega)
    by_cases e : f = (k : Int) + 1
    · subst e
      rw [if_pos (by omega)]
      rw [if_neg (by omega)] at ih
      cases hl : latF on l x.id ((k : Int) + 1) with
      | nil => exact ih
      | cons p ps => show fldG (setG _ _ _) _ = _; rw [set_fld hf, if_pos rfl]; rfl
    · have : fldG (setO (curK on l x k) ((k : Int) + 1) (latF on l x.id ((k : Int) + 1))) f = fldG (curK on l x k) f := by
        cases latF on l x.id ((k : Int) + 1) with
        | nil => rfl
        | cons p ps => show fldG (setG _ _ _) _ = _; rw [set_fld (by unfold isF; omega), if_neg e]
      rw [this, ih]
      by_cases h2 : f ≤ (k : Int)
      · rw [if_pos h2, if_pos (by omega)]
      · rw [if_neg h2, if_neg (by omega)]
theorem cur_fld {on : Int → Int → Bool} {l : List Pt} {x : Sg} {f : Int} (hf : isF f) : fldG (curF on l x) f = valO x f (latF on l x.id f) := by
  unfold curF
  rw [curK_fld hf 9 (Nat.le_refl _), if_pos (by unfold isF at hf; omega)]
theorem cur_id {on : Int → Int → Bool} {l : List Pt} {x : Sg} : (curF on l x).id = x.id := (curK_id 9).1
theorem cur_kind {on : Int → Int → Bool} {l : List Pt} {x : Sg} : (curF on l x).kind = x.kind := (curK_id 9).2
theorem look_filter {xs : List Sg} {p : Int → Bool} {s : Int} : lookG (xs.filter fun x => p x.id) s = if p s then lookG xs s else none := by
  induction xs with
  | nil => cases p s <;> rfl
  | cons x xs ih =>
    rw [List.filter_cons, look_cons]
    by_cases e : x.id = s
    · subst e
      rw [if_pos rfl]
      cases hp : p x.id with
      | true => simp [look_cons]
      | false => rw [hp] at ih; simpa using ih
    · rw [if_neg e]
      cases hp : p x.id with
      | true => simp [look_cons, e, ih]
      | false => simpa using ih
theorem look_map {xs : List Sg} {f : Sg → Sg} (hf : ∀ x, (f x).id = x.id) {s : Int} : lookG (xs.map f) s = (lookG xs s).map f := by
  induction xs with
  | nil => rfl
  | cons x xs ih =>
    rw [List.map_cons, look_cons, look_cons, hf]
    by_cases e : x.id = s
    · rw [if_pos e, if_pos e]; rfl
    · rw [if_neg e, if_neg e, ih]
theorem srt_filter {xs : List Sg} (h : Srt xs) (p : Sg → Bool) : Srt (xs.filter p) := List.Pairwise.filter p h
theorem srt_map {xs : List Sg} (h : Srt xs) {f : Sg → Sg} (hf : ∀ x, (f x).id = x.id) : Srt (xs.map f) := by
  unfold Srt
  rw [List.pairwise_map]
  simp only [hf]
  exact h
theorem sgn_srt {on : Int → Int → Bool} {base : List Sg} {l : List Pt} (h : Srt (allG base l)) : Srt (sgnL on base l) := srt_map (srt_filter h _) fun _ => cur_id
theorem sgn_look {on : Int → Int → Bool} {base : List Sg} {l : List Pt} {s : Int} : lookG (sgnL on base l) s = if exB on l s then (lookG (allG base l) s).map (curF on l) else none := by
  unfold sgnL
  rw [look_map (fun _ => cur_id), look_filter (p := exB on l)]
  cases exB on l s <;> rfl
/-! ### What is about one sign -/
section
variable {l l' : List Pt} {s : Int} {on : Int → Int → Bool}
end
theorem put_len {xs : List Sg} {k : Sg} : (putF xs k).length = xs.length + 1 := by
  have := congrArg List.length (List.takeWhile_append_dropWhile (p := fun x : Sg => decide (x.id < k.id)) (l := xs))
  rw [List.length_append] at this
  unfold putF
  rw [List.length_append, List.length_cons]
  omega
end Go.Proofs.YtoicbikdenlioaaGreat
end
section
namespace Go.Proofs.YtoicbikdenlioaaGreat
open Go Go.Kn Go.Proofs
def apE (xs : List Sg) (p : Pt) : Int :=
  if (p.kind == 1 && !hasS xs p.sign) || (p.kind == 2 && hasS xs p.sign) then 370 else if p.kind == 2 && decide (xs.length ≥ 4096) then 2 else 0
def apG (xs : List Sg) (p : Pt) : List Sg :=
  if p.kind = 2 then putF xs p.nw else if p.kind = 3 then xs.filter (fun x => x.id != p.sign) else xs.map fun x => if x.id = p.sign then setG x p.field p.nw else x
def runR (xs : List Sg) : List Pt → Int × List Sg
  | [] => (0, xs)
  | p :: l => if pchk p ≠ 0 then (pchk p, []) else if apE xs p ≠ 0 then (apE xs p, []) else runR (apG xs p) l
def runA (xs : List Sg) (l : List Pt) : Int × List Sg := if chkG xs ≠ 0 then (chkG xs, []) else if l.length > 512 then (2, []) else runR xs l
/-- An order that keeps the needs. -/
structure Topo (l t : List Pt) : Prop where
  perm : t.Perm l
  need : ∀ t1 p t2, t = t1 ++ p :: t2 → ∀ n ∈ p.needs, ∃ q ∈ t1, q.id = n
theorem Topo.mem {l t : List Pt} (h : Topo l t) {p : Pt} : p ∈ t ↔ p ∈ l := h.perm.mem_iff
theorem Topo.on {l t : List Pt} (hl : Lst l) (h : Topo l t) {b : Int} {t1 t2 : List Pt} {p : Pt} (e : t = t1 ++ p :: t2) (hon : onF l p.id b = true) : ∃ q ∈ t1, q.id = b := by
  have hp : p ∈ l := h.mem.1 (by rw [e]; simp)
  revert t1 t2
  revert hon
  refine hl.ind (M := fun p => onF l p.id b = true → ∀ {t1 t2 : List Pt}, t = t1 ++ p :: t2 → ∃ q ∈ t1, q.id = b) (fun p hp ih hon t1 t2 e => ?_) p hp
  obtain ⟨n, hn, e2⟩ := (hl.on_iff hp).1 hon
  obtain ⟨q, hq, rfl⟩ := h.need t1 p t2 e n hn
  rcases e2 with e2 | e2
  · exact ⟨q, hq, e2⟩
  · obtain ⟨u1, u2, rfl⟩ := List.append_of_mem hq
    have hql : q ∈ l := h.mem.1 (by rw [e]; simp)
    have hlt := (hl.has p hp _ hn).1
    obtain ⟨r, hr, hrb⟩ := ih q hql hlt e2 (t1 := u1) (t2 := u2 ++ p :: t2) (by rw [e]; simp)
    exact ⟨r, by simp [hr], hrb⟩
theorem Topo.nodup {l t : List Pt} (hl : Lst l) (h : Topo l t) : t.Nodup := by
  rw [h.perm.nodup_iff]
  exact hl.inc.imp fun {a b} h e => by subst e; omega
/-- The state of one sign behind some patches. -/
def remB (t : List Pt) (s : Int) : Bool := t.any fun p => p.kind == 3 && p.sign == s
def valS (x : Sg) (t : List Pt) (s : Int) : Sg := t.foldl (fun y p => if p.kind = 1 ∧ p.sign = s then setG y p.field p.nw else y) x
def stS (base : List Sg) (t : List Pt) (s : Int) : Option Sg := if remB t s then none else ((lookG base s).or (insO t s)).map fun x => valS x t s
theorem valS_snoc {x : Sg} {t : List Pt} {p : Pt} {s : Int} : valS x (t ++ [p]) s = if p.kind = 1 ∧ p.sign = s then setG (valS x t s) p.field p.nw else valS x t s := by
  unfold valS; rw [List.foldl_append]; rfl
theorem remB_snoc {t : List Pt} {p : Pt} {s : Int} : remB (t ++ [p]) s = (remB t s || (p.kind == 3 && p.sign == s)) := by unfold remB; simp
theorem insO_snoc {t : List Pt} {q : Pt} {s : Int} : insO (t ++ [q]) s = (insO t s).or (if q.kind = 2 ∧ q.sign = s then some q.nw else none) := by
  unfold insO
  rw [List.find?_append]
  by_cases hk : q.kind = 2 ∧ q.sign = s
  · rw [if_pos hk, List.find?_cons, show (q.kind == 2 && q.sign == s) = true by simpa using hk]
    cases t.find? fun q => q.kind == 2 && q.sign == s <;> rfl
  · rw [if_neg hk, List.find?_cons, show (q.kind == 2 && q.sign == s) = false by simpa using hk]
    cases t.find? fun q => q.kind == 2 && q.sign == s <;> rfl
theorem valS_none {x : Sg} {s : Int} : ∀ {t : List Pt}, (∀ p ∈ t, p.sign ≠ s) → valS x t s = x
  | [], _ => rfl
  | p :: t, h => by
    unfold valS
    rw [List.foldl_cons, if_neg (fun e => h p (List.mem_cons_self ..) e.2)]
    exact valS_none fun q hq => h q (List.mem_cons_of_mem _ hq)
theorem insO_none {s : Int} {t : List Pt} (h : ∀ p ∈ t, p.sign ≠ s) : insO t s = none := by
  unfold insO
  rw [Option.map_eq_none_iff, List.find?_eq_none]
  intro p hp
  have := h p hp
  simp [this]
theorem remB_none {s : Int} {t : List Pt} (h : ∀ p ∈ t, p.sign ≠ s) : remB t s = false := by
  unfold remB
  rw [List.any_eq_false]
  intro p hp
  have := h p hp
  simp [this]
theorem ap_srt {xs : List Sg} {p : Pt} (h : Srt xs) (h2 : p.kind = 2 → lookG xs p.nw.id = none) : Srt (apG xs p) := by
  unfold apG
  split
  · rename_i hk; exact put_srt h (h2 hk)
  · split
    · exact srt_filter h _
    · refine srt_map h fun x => ?_
      split
      · exact set_id
      · rfl
theorem ap_len {xs : List Sg} {p : Pt} : (apG xs p).length ≤ xs.length + 1 := by
  unfold apG
  split
  · rw [put_len]; omega
  · split
    · exact Nat.le_trans (List.length_filter_le ..) (by omega)
    · rw [List.length_map]; omega
theorem ap_look {xs : List Sg} {p : Pt} (h2 : p.kind = 2 → p.nw.id = p.sign ∧ lookG xs p.sign = none) (hk : p.kind = 1 ∨ p.kind = 2 ∨ p.kind = 3) {s : Int} :
    lookG (apG xs p) s = if p.sign = s then (if p.kind = 2 then some p.nw else if p.kind = 3 then none else (lookG xs s).map fun x => setG x p.field p.nw) else lookG xs s := by
  unfold apG
  rcases hk with hk | hk | hk
  · simp only [hk, Int.reduceEq, reduceIte]
    rw [look_map (fun x => by split <;> first | exact set_id | rfl)]
    by_cases e : p.sign = s
    · rw [if_pos e]
      cases hl : lookG xs s with
      | none => rfl
      | some x => rw [Option.map_some, Option.map_some, if_pos (by rw [look_id hl, e])]
    · rw [if_neg e]
      cases hl : lookG xs s with
      | none => rfl
      | some x => rw [Option.map_some, if_neg (by rw [look_id hl]; exact fun h => e h.symm)]
  · simp only [hk, Int.reduceEq, reduceIte]
    rw [put_look (by rw [(h2 hk).1]; exact (h2 hk).2), (h2 hk).1]
  · simp only [hk, Int.reduceEq, reduceIte]
    rw [look_filter (p := fun i => i != p.sign)]
    by_cases e : p.sign = s
    · rw [if_pos e, if_neg (by simp [e])]
    · rw [if_neg e, if_pos (by simpa using fun h => e h.symm)]
/-- No conflict, said of the patches. -/
structure Calm (on : Int → Int → Bool) (l : List Pt) : Prop where
  seen : ∀ p ∈ l, p.kind = 1 → ∀ r ∈ l, r.kind = 3 → r.sign = p.sign → on r.id p.id = true
  one : ∀ s f, remB l s = false → isF f → ∀ p ∈ latF on l s f, ∀ q ∈ latF on l s f, p.nw = q.nw
theorem remB_rm {l : List Pt} {s : Int} : remB l s = !(rmF l s).isEmpty := by
  unfold remB rmF
  rw [List.isEmpty_map]
  rw [Bool.eq_iff_iff, List.any_eq_true]
  simp [List.isEmpty_iff, List.filter_eq_nil_iff]
theorem calm_of {base : List Sg} {l : List Pt} (hb : Srt base) (hs : Sto l) (hf : fitB base l = true) (h : cfL (onF l) base l = []) : Calm (onF l) l := by
  have hin : ∀ s, (lookG (allG base l) s).isSome = true → cfS (onF l) l s = [] := fun s h1 => by
    obtain ⟨x, hx⟩ := Option.isSome_iff_exists.1 h1
    unfold cfL at h
    rw [List.flatMap_eq_nil_iff] at h
    have := h x (look_mem hx)
    rwa [look_id hx] at this
  have hall : ∀ p ∈ l, cfS (onF l) l p.sign = [] := fun p hp => hin _ (by
    rw [(all_look hb hs hf).2]
    rcases fit_has hf hp with h1 | h1
    · obtain ⟨x, hx⟩ := Option.isSome_iff_exists.1 h1; rw [hx]; rfl
    · obtain ⟨x, hx⟩ := Option.isSome_iff_exists.1 h1
      rw [hx]
      cases lookG base p.sign <;> rfl)
  have hun : ∀ p ∈ l, (unF (onF l) l p.sign).isEmpty = true := fun p hp => by
    have h1 := hall p hp
    unfold cfS at h1
    rw [List.append_eq_nil_iff] at h1
    have h2 := h1.1
    unfold cf0 at h2
    split at h2
    · assumption
    · cases h2
  refine ⟨fun p hp hk r hr hrk hrs => ?_, fun s f hrem hff p hp q hq => ?_⟩
  · have h1 := hun p hp
    rw [List.isEmpty_iff] at h1
    unfold unF at h1
    rw [List.filter_eq_nil_iff] at h1
    have h2 := h1 p hp
    unfold unB at h2
    simp [hk] at h2
    exact h2 r.id (mem_rmF.2 ⟨r, hr, hrk, hrs, rfl⟩)
  · have hpl := mem_stF.1 (List.mem_filter.1 hp).1
    have h1 := hall p hpl.1
    rw [hpl.2.2.1] at h1
    unfold cfS at h1
    rw [List.append_eq_nil_iff, List.flatMap_eq_nil_iff] at h1
    have h2 := h1.2 (f - 1).toNat (List.mem_range.2 (by unfold isF at hff; omega))
    rw [show (((f - 1).toNat : Nat) : Int) + 1 = f by unfold isF at hff; omega] at h2
    unfold cfK at h2
    have hex : exB (onF l) l s = true := by
      unfold exB
      rw [remB_rm] at hrem
      simp at hrem
      simp [hrem]
    rw [hex, Bool.true_and] at h2
    have hd : difB (latF (onF l) l s f) = false := by
      cases hd : difB (latF (onF l) l s f) with
      | false => rfl
      | true => rw [hd] at h2; cases h2
    revert hp hq hd
    cases latF (onF l) l s f with
    | nil => intro hp; cases hp
    | cons z zs =>
      intro hp hq hd
      unfold difB at hd
      rw [List.any_eq_false] at hd
      have key : ∀ p ∈ z :: zs, p.nw = z.nw := fun p hp => by
        rcases List.mem_cons.1 hp with rfl | hp
        · rfl
        · have e1 := hd p hp
          simp only [Bool.not_eq_true, Bool.not_eq_false'] at e1
          exact sgEq_iff.1 e1
      rw [key p hp, key q hq]
/-- One step: no error, and what it makes of each sign. -/
theorem run_step {base xs : List Sg} {l t t1 t2 : List Pt} {p : Pt} (hs : Sto l) (hf : fitB base l = true) (hc : Calm (onF l) l) (ht : Topo l t) (e : t = t1 ++ p :: t2) (hlen : xs.length < 4096) (hx : ∀ s, lookG xs s = stS base t1 s) :
    apE xs p = 0 ∧ (p.kind = 2 → p.nw.id = p.sign ∧ lookG xs p.sign = none) ∧ ∀ s, lookG (apG xs p) s = stS base (t1 ++ [p]) s := by
  have hp : p ∈ l := ht.mem.1 (by rw [e]; simp)
  have hnd := ht.nodup hs.lst
  have hmem1 : ∀ q ∈ t1, q ∈ l := fun q hq => ht.mem.1 (by rw [e]; simp [hq])
  have hnp : p ∉ t1 := fun hq => by
    rw [e, List.nodup_append] at hnd
    exact hnd.2.2 p hq p (by simp) rfl
  have bef : ∀ q ∈ t1, onF l q.id p.id = true → False := fun q hq hon => by
    obtain ⟨u1, u2, rfl⟩ := List.append_of_mem hq
    obtain ⟨r, hr, hrp⟩ := ht.on hs.lst (t1 := u1) (t2 := u2 ++ p :: t2) (p := q) (by rw [e]; simp) hon
    have : r = p := hs.lst.uniq (hmem1 r (by simp [hr])) hp hrp
    subst this
    exact hnp (by simp [hr])
  have hins : p.kind = 2 → ∀ q ∈ t1, q.sign ≠ p.sign := fun hk q hq hqs => by
    rcases hs.ins (hmem1 q hq) hp hqs hk with e2 | ⟨_, e2⟩
    · subst e2; exact hnp hq
    · exact bef q hq e2
  have h2 : p.kind = 2 → p.nw.id = p.sign ∧ lookG xs p.sign = none := fun hk => by
    refine ⟨((hs.ok p hp).ins hk).1, ?_⟩
    rw [hx]
    unfold stS
    rw [insO_none (hins hk), fit_ins hf hp hk]
    split <;> rfl
  have h1 : p.kind = 1 → ∃ x, lookG xs p.sign = some x := fun hk => by
    rw [hx]
    unfold stS
    have hrem : remB t1 p.sign = false := by
      cases hr : remB t1 p.sign with
      | false => rfl
      | true =>
        unfold remB at hr
        rw [List.any_eq_true] at hr
        obtain ⟨r, hr, hr2⟩ := hr
        simp at hr2
        exact (bef r hr (hc.seen p hp hk r (hmem1 r hr) hr2.1 hr2.2)).elim
    rw [hrem]
    rcases fit_has hf hp with h1 | h1
    · obtain ⟨x, hx⟩ := Option.isSome_iff_exists.1 h1; rw [hx]; exact ⟨_, rfl⟩
    · obtain ⟨x, hx⟩ := Option.isSome_iff_exists.1 h1
      obtain ⟨q, hq, hqk, hqs, _⟩ := insO_some hx
      rcases hs.ins hp hq hqs.symm hqk with e2 | ⟨_, e2⟩
      · subst e2; omega
      · obtain ⟨r, hr, hrq⟩ := ht.on hs.lst e e2
        have : r = q := hs.lst.uniq (hmem1 r hr) hq hrq
        subst this
        have hio : (insO t1 p.sign).isSome = true := by
          rw [← insB_O]
          exact List.any_eq_true.2 ⟨r, hr, by simp [hqk, hqs]⟩
        obtain ⟨y, hy⟩ := Option.isSome_iff_exists.1 hio
        rw [hy]
        cases lookG base p.sign <;> exact ⟨_, rfl⟩
  refine ⟨?_, h2, fun s => ?_⟩
  · unfold apE
    rw [hasS_look]
    rcases (hs.ok p hp).kind with hk | hk | hk
    · obtain ⟨x, hx1⟩ := h1 hk
      simp [hk, hx1]
    · simp [hk, (h2 hk).2]; omega
    · simp [hk]
  · rw [ap_look h2 (hs.ok p hp).kind, hx]
    unfold stS
    rw [remB_snoc, insO_snoc]
    by_cases hps : p.sign = s
    · subst hps
      rw [if_pos rfl]
      rcases (hs.ok p hp).kind with hk | hk | hk
      · have e1 : ¬ (p.kind = 2 ∧ p.sign = p.sign) := fun h => by omega
        have e2 : ¬ p.kind = 2 := by omega
        have e3 : ¬ p.kind = 3 := by omega
        have e4 : (p.kind == 3 && p.sign == p.sign) = false := by simp [hk]
        rw [if_neg e2, if_neg e3, if_neg e1, Option.or_none, e4, Bool.or_false]
        cases remB t1 p.sign with
        | true => rfl
        | false =>
          simp only [Bool.false_eq_true, if_false, Option.map_map]
          congr 1
          funext x
          simp [valS_snoc, hk]
      · have e1 : p.kind = 2 ∧ p.sign = p.sign := ⟨hk, rfl⟩
        have e4 : (p.kind == 3 && p.sign == p.sign) = false := by simp [hk]
        rw [if_pos hk, if_pos e1, e4, Bool.or_false, remB_none (hins hk), insO_none (hins hk), fit_ins hf hp hk]
        simp [valS_snoc, hk, valS_none (hins hk)]
      · have e2 : ¬ p.kind = 2 := by omega
        rw [if_neg e2, if_pos hk]
        simp [hk]
    · rw [if_neg hps]
      have e1 : (p.kind == 3 && p.sign == s) = false := by simp [hps]
      have e2 : ¬ (p.kind = 2 ∧ p.sign = s) := fun h => hps h.2
      rw [e1, Bool.or_false, if_neg e2, Option.or_none]
      simp [valS_snoc, hps]
theorem run_all {base : List Sg} {l t : List Pt} (hs : Sto l) (hp : ∀ p ∈ l, pchk p = 0) (hf : fitB base l = true) (hc : Calm (onF l) l) (ht : Topo l t) :
    ∀ (t2 t1 : List Pt) (xs : List Sg), t = t1 ++ t2 → xs.length + t2.length ≤ 4096 → Srt xs → (∀ s, lookG xs s = stS base t1 s) → ∃ ys, runR xs t2 = (0, ys) ∧ Srt ys ∧ ∀ s, lookG ys s = stS base t s
  | [], t1, xs, e, _, h1, h2 => ⟨xs, rfl, h1, by rw [e, List.append_nil]; exact h2⟩
  | p :: t2, t1, xs, e, hl, h1, h2 => by
    obtain ⟨h3, h4, h5⟩ := run_step hs hf hc ht e (by simp at hl; omega) h2
    have hpl : p ∈ l := ht.mem.1 (by rw [e]; simp)
    unfold runR
    rw [if_neg (by rw [hp p hpl]; decide), if_neg (by rw [h3]; decide)]
    have hal := ap_len (xs := xs) (p := p)
    exact run_all hs hp hf hc ht t2 (t1 ++ [p]) (apG xs p) (by rw [e]; simp) (by simp at hl; omega) (ap_srt h1 (fun hk => by rw [(h4 hk).1]; exact (h4 hk).2)) h5
/-- The last SetP about a sign and a field, as its value. -/
theorem val_fld {x : Sg} {s f : Int} (hf : isF f) : ∀ (t : List Pt), (∀ p ∈ t, p.kind = 1 → isF p.field) →
    (fldG (valS x t s) f = fldG x f ∧ ∀ p ∈ t, ¬ (p.kind = 1 ∧ p.sign = s ∧ p.field = f)) ∨ ∃ t1 z t2, t = t1 ++ z :: t2 ∧ (z.kind = 1 ∧ z.sign = s ∧ z.field = f) ∧ fldG (valS x t s) f = fldG z.nw f ∧ ∀ p ∈ t2, ¬ (p.kind = 1 ∧ p.sign = s ∧ p.field = f) := by
  intro t
  have key : ∀ (n : Nat) (t : List Pt), t.length = n → (∀ p ∈ t, p.kind = 1 → isF p.field) →
    (fldG (valS x t s) f = fldG x f ∧ ∀ p ∈ t, ¬ (p.kind = 1 ∧ p.sign = s ∧ p.field = f)) ∨ ∃ t1 z t2, t = t1 ++ z :: t2 ∧ (z.kind = 1 ∧ z.sign = s ∧ z.field = f) ∧ fldG (valS x t s) f = fldG z.nw f ∧ ∀ p ∈ t2, ¬ (p.kind = 1 ∧ p.sign = s ∧ p.field = f) := by
    intro n
    induction n with
    | zero =>
      intro t ht _
      have : t = [] := List.eq_nil_of_length_eq_zero ht
      subst this
      exact .inl ⟨rfl, fun p hp => by cases hp⟩
    | succ n ih =>
      intro t ht hk
      obtain ⟨u, p, rfl⟩ : ∃ u p, t = u ++ [p] := ⟨t.dropLast, t.getLast (by intro e; subst e; simp at ht), (List.dropLast_concat_getLast _).symm⟩
      have hk' : ∀ q ∈ u, q.kind = 1 → isF q.field := fun q hq => hk q (by simp [hq])
      rw [valS_snoc]
      by_cases h1 : p.kind = 1 ∧ p.sign = s ∧ p.field = f
      · right
        refine ⟨u, p, [], by simp, h1, ?_, fun q hq => by cases hq⟩
        rw [if_pos ⟨h1.1, h1.2.1⟩, set_fld (hk p (by simp) h1.1), if_pos h1.2.2.symm]
      · have hsame : fldG (if p.kind = 1 ∧ p.sign = s then setG (valS x u s) p.field p.nw else valS x u s) f = fldG (valS x u s) f := by
          split
          · rename_i h2
            rw [set_fld (hk p (by simp) h2.1), if_neg (fun e => h1 ⟨h2.1, h2.2, e.symm⟩)]
          · rfl
        rw [hsame]
        rcases ih u (by simp at ht; omega) hk' with ⟨h2, h3⟩ | ⟨t1, z, t2, rfl, hz, h2, h3⟩
        · exact .inl ⟨h2, fun q hq => by
            rcases List.mem_append.1 hq with hq | hq
            · exact h3 q hq
            · simp at hq; subst hq; exact h1⟩
        · exact .inr ⟨t1, z, t2 ++ [p], by simp, hz, h2, fun q hq => by
            rcases List.mem_append.1 hq with hq | hq
            · exact h3 q hq
            · simp at hq; subst hq; exact h1⟩
  exact key _ t rfl
theorem valS_idk {x : Sg} {t : List Pt} {s : Int} : (valS x t s).id = x.id ∧ (valS x t s).kind = x.kind := by
  induction t generalizing x with
  | nil => exact ⟨rfl, rfl⟩
  | cons p t ih =>
    have := ih (x := if p.kind = 1 ∧ p.sign = s then setG x p.field p.nw else x)
    refine ⟨this.1.trans ?_, this.2.trans ?_⟩
    · split
      · exact set_id
      · rfl
    · split
      · exact set_kind
      · rfl
theorem insO_perm {l t : List Pt} (hs : Sto l) (ht : t.Perm l) (s : Int) : insO t s = insO l s := by
  cases h : insO l s with
  | some x =>
    obtain ⟨q, hq, hk, rfl, rfl⟩ := insO_some h
    have hio : (insO t q.sign).isSome = true := by
      rw [← insB_O]
      exact List.any_eq_true.2 ⟨q, ht.mem_iff.2 hq, by simp [hk]⟩
    obtain ⟨y, hy⟩ := Option.isSome_iff_exists.1 hio
    obtain ⟨r, hr, hrk, hrs, rfl⟩ := insO_some hy
    rcases hs.ins (ht.mem_iff.1 hr) hq hrs hk with e | ⟨e, _⟩
    · rw [hy, e]
    · exact absurd hrk e
  | none =>
    cases h2 : insO t s with
    | none => rfl
    | some x =>
      obtain ⟨q, hq, hk, rfl, rfl⟩ := insO_some h2
      rw [insO_of hs (ht.mem_iff.1 hq) hk] at h; cases h
/-- The main law: without conflicts, in every order that keeps the needs. -/
theorem run_law {base : List Sg} {l t : List Pt} (hb : Srt base) (hs : Sto l) (hp : ∀ p ∈ l, pchk p = 0) (hf : fitB base l = true) (hc : cfL (onF l) base l = []) (ht : Topo l t) (hl : base.length + l.length ≤ 4096) :
    runR base t = (0, sgnL (onF l) base l) := by
  have hcm := calm_of hb hs hf hc
  obtain ⟨ys, h1, h2, h3⟩ := run_all hs hp hf hcm ht t [] base rfl (by rw [ht.perm.length_eq]; omega) hb (fun s => by
    unfold stS insO remB valS; simp)
  rw [h1]
  refine congrArg _ (srt_ext h2 (sgn_srt (all_look hb hs hf).1) fun s => ?_)
  rw [h3, sgn_look, (all_look hb hs hf).2]
  have hrem : remB t s = remB l s := by
    unfold remB
    rw [Bool.eq_iff_iff, List.any_eq_true, List.any_eq_true]
    simp only [ht.mem]
  unfold stS
  rw [hrem, insO_perm hs ht.perm]
  have hun : (unF (onF l) l s).isEmpty = true := by
    rw [List.isEmpty_iff]
    unfold unF
    rw [List.filter_eq_nil_iff]
    intro p hpl
    unfold unB
    simp only [Bool.and_eq_true, beq_iff_eq, List.any_eq_true, Bool.not_eq_true', not_and, not_exists]
    intro hps hk i hi
    obtain ⟨r, hr, hrk, hrs, rfl⟩ := mem_rmF.1 hi
    rw [hcm.seen p hpl hk r hr hrk hrs]; simp
  have hex : exB (onF l) l s = !remB l s := by
    unfold exB
    rw [hun, remB_rm]; simp
  rw [hex]
  cases hr : remB l s with
  | true => rfl
  | false =>
    simp only [Bool.false_eq_true, if_false, Bool.not_false, if_true]
    cases hx : (lookG base s).or (insO l s) with
    | none => rfl
    | some x =>
      have hxs : x.id = s := by
        cases h4 : lookG base s with
        | some y => rw [h4] at hx; simp at hx; subst hx; exact look_id h4
        | none =>
          rw [h4] at hx
          simp at hx
          obtain ⟨q, hq, hk, hsg, rfl⟩ := insO_some hx
          rw [((hs.ok q hq).ins hk).1, hsg]
      rw [Option.map_some, Option.map_some]
      refine congrArg _ (sg_ext (by rw [valS_idk.1, cur_id]) (by rw [valS_idk.2, cur_kind]) fun f hff => ?_)
      rw [cur_fld hff, hxs]
      rcases val_fld (x := x) (s := s) hff t (fun p hp hk => ((hs.ok p (ht.mem.1 hp)).set hk).1) with ⟨h4, h5⟩ | ⟨t1, z, t2, e, hz, h4, h5⟩
      · rw [h4]
        have : latF (onF l) l s f = [] := by
          unfold latF
          have : stF l s f = [] := by
            unfold stF
            rw [List.filter_eq_nil_iff]
            intro p hpl
            have := h5 p (ht.mem.2 hpl)
            simpa using this
          rw [this]; rfl
        rw [this]; rfl
      · rw [h4]
        have hzl : z ∈ l := ht.mem.1 (by rw [e]; simp)
        have hzlat : z ∈ latF (onF l) l s f := by
          unfold latF
          rw [List.mem_filter]
          refine ⟨mem_stF.2 ⟨hzl, hz⟩, ?_⟩
          rw [Bool.not_eq_true', List.any_eq_false]
          intro q hq
          obtain ⟨hql, hqk, hqs, hqf⟩ := mem_stF.1 hq
          intro hon
          have hqt : q ∈ t := ht.mem.2 hql
          rw [e] at hqt
          rcases List.mem_append.1 hqt with hqt | hqt
          · obtain ⟨u1, u2, rfl⟩ := List.append_of_mem hqt
            obtain ⟨r, hr1, hr2⟩ := ht.on hs.lst (t1 := u1) (t2 := u2 ++ z :: t2) (p := q) (by rw [e]; simp) hon
            have hrl : r ∈ l := ht.mem.1 (by rw [e]; simp [hr1])
            have := hs.lst.uniq hrl hzl hr2
            subst this
            have hnd := ht.nodup hs.lst
            rw [e, List.nodup_append] at hnd
            exact hnd.2.2 r (by simp [hr1]) r (by simp) rfl
          · rcases List.mem_cons.1 hqt with rfl | hqt
            · rw [hs.lst.on_irr] at hon; cases hon
            · exact h5 q hqt ⟨hqk, hqs, hqf⟩
        have hone := hcm.one s f hr hff
        revert hzlat hone
        cases latF (onF l) l s f with
        | nil => intro h; cases h
        | cons y ys =>
          intro hzl hone
          show _ = fldG y.nw f
          rw [hone z hzl y (List.mem_cons_self ..)]
end Go.Proofs.YtoicbikdenlioaaGreat
end
section
namespace Go.Proofs.YtoicbikdenlioaaGreat
open Go Go.Kn Go.Proofs
theorem span_p1 : spanF 0 1 1 2 = true := by decide
end Go.Proofs.YtoicbikdenlioaaGreat
end
section
namespace Go.Proofs.YtoicbikdenlioaaGreat
open Go Go.Kn Go.Proofs
def cmpF (x y : Int) : Int := if x < y then -1 else if x > y then 1 else 0
def encR2 (n d : Int) : List Value := [.int .i64 n, .int .i64 d]
def encRA (n d : Int) : Value := .agg (encR2 n d).toArray
theorem u64_id {n : Int} (h : 0 ≤ n ∧ n ≤ 9223372036854775807) : IntKind.u64.wrap n = n := by
  unfold IntKind.wrap IntKind.signed IntKind.bits
  simp
  omega
theorem mag_pos {n : Int} (hn : -1073741824 ≤ n ∧ n ≤ 1073741824) (h : ¬ n < 0) : IntKind.u64.wrap n = magI n := by
  rw [u64_id (by omega)]
  unfold magI; rw [if_neg h]
theorem mag_neg {n : Int} (hn : -1073741824 ≤ n ∧ n ≤ 1073741824) (h : n < 0) : IntKind.u64.wrap (0 - IntKind.u64.wrap n) = magI n := by
  unfold magI; rw [if_pos h]
  unfold IntKind.wrap IntKind.signed IntKind.bits
  simp
  omega
/-- The cells of the iterator of Euclid's algorithm. -/
def remL (t b1 b2 : Nat) (a b : Int) : Go.Kn.Loc := [(b2, .cells #[.int .u64 b] t (0, 0)), (b1, .cells #[.int .u64 a] t (0, 0))]
/-- The numbers of Euclid's algorithm. -/
def remN (a b : Nat) : List Nat := if a = 0 then [] else if b = 0 then [a, 0] else if a % b = 0 then [a, b] else a :: remN b (a % b)
termination_by b
decreasing_by exact Nat.mod_lt _ (by omega)
theorem remN_zero (b : Nat) : remN 0 b = [] := by rw [remN]; rfl
theorem remN_end {a b : Nat} (ha : a ≠ 0) (hb : b ≠ 0) (h : a % b = 0) : remN a b = [a, b] := by rw [remN, if_neg ha, if_neg hb, if_pos h]
theorem remN_step {a b : Nat} (ha : a ≠ 0) (hb : b ≠ 0) (h : a % b ≠ 0) : remN a b = a :: remN b (a % b) := by rw [remN, if_neg ha, if_neg hb, if_neg h]
theorem remN_gcd : ∀ (m : Nat) {a b d : Nat}, b ≤ m → b ≠ 0 → (a = 0 → d = b) → (remN a b).getLastD d = Nat.gcd a b := by
  intro m
  induction m with
  | zero => intro a b d h1 h2; omega
  | succ m ih =>
    intro a b d h1 h2 hd
    by_cases ha : a = 0
    · subst ha; rw [remN_zero, Nat.gcd_zero_left, hd rfl]; rfl
    · by_cases h : a % b = 0
      · rw [remN_end ha h2 h]
        show b = _
        rw [Nat.gcd_comm, Nat.gcd_rec, h, Nat.gcd_zero_left]
      · rw [remN_step ha h2 h, List.getLastD_cons, ih (by have := Nat.mod_lt a (show 0 < b by omega); omega) h (fun e => absurd e h2)]
        rw [Nat.gcd_comm b, ← Nat.gcd_rec, Nat.gcd_comm]
theorem tmod_nat (a b : Nat) : ((a : Int)).tmod (b : Int) = ((a % b : Nat) : Int) := by
  rw [Int.tmod_eq_emod_of_nonneg (by omega)]; rfl
theorem mul_b {a b : Int} (ha : -1073741824 ≤ a ∧ a ≤ 1073741824) (hb : -1073741824 ≤ b ∧ b ≤ 1073741824) : -9223372036854775808 ≤ a * b ∧ a * b ≤ 9223372036854775807 := by
  have h1 : (a * b).natAbs ≤ 1073741824 * 1073741824 := by
    rw [Int.natAbs_mul]
    exact Nat.mul_le_mul (by omega) (by omega)
  omega
def ratE (n d : Int) : Int := if ratF n d then 0 else 120
theorem ratF_in {n d : Int} (h : ratF n d = true) : (1 ≤ d ∧ d ≤ 1073741824) ∧ -1073741824 ≤ n ∧ n ≤ 1073741824 := by
  unfold ratF at h
  simp at h
  omega
theorem mag_gcd (n d : Int) : Nat.gcd (magI n).toNat d.toNat = Int.gcd n d.toNat := by
  unfold Int.gcd magI
  congr 1
  split <;> omega
theorem maxI_one {b : Nat} (h : 0 < b) : maxI (b : Int) 1 = (b : Int) := by
  unfold maxI
  split <;> omega
theorem rem_pre {a0 b0 a b : Nat} {pre : List Nat} (h : remN a0 b0 = pre ++ remN a b) (ha : a ≠ 0) : pre ++ [a] <+: remN a0 b0 := by
  rw [h, remN, if_neg ha]
  have key : ∀ l : List Nat, pre ++ [a] <+: pre ++ a :: l := fun l => ⟨l, by simp⟩
  split
  · exact key _
  · split <;> exact key _
theorem last_snoc {l : List Nat} {x d : Nat} : (l ++ [x]).getLastD d = x := by simp [List.getLastD_eq_getLast?]
theorem rat_bad {n d : Int} (h : ((((decide (d < 1) || decide (d > 1073741824)) || decide (n < -1073741824)) || decide (n > 1073741824)) || (gcdI n d != 1)) = true) : ratF n d = false := by unfold ratF; rw [h]; rfl
theorem rat_good {n d : Int} (h : ((((decide (d < 1) || decide (d > 1073741824)) || decide (n < -1073741824)) || decide (n > 1073741824)) || (gcdI n d != 1)) = false) : ratF n d = true := by unfold ratF; rw [h]; rfl
/-! ### Fields as cells -/
def foF (f : Int) : Nat := if f = 1 then 1 else if f = 2 then 2 else if f = 3 then 3 else if f = 4 then 5 else if f = 5 then 6 else if f = 6 then 7 else if f = 7 then 8 else 9
def getF (x : Sg) (f : Int) : Int := if f = 1 then x.role else if f = 2 then x.bar else if f = 3 then x.mark else if f = 4 then x.side else if f = 5 then x.dir else if f = 6 then x.level else if f = 7 then x.size else x.wth
def numL (b : Nat) : List Value := [.pointer none, .pointer (some ⟨b, 0 + 1, none⟩), .pointer (some ⟨b, 0 + 2, none⟩), .pointer (some ⟨b, 0 + 3, none⟩), .pointer (some ⟨b, 0 + 5, none⟩), .pointer (some ⟨b, 0 + 6, none⟩), .pointer (some ⟨b, 0 + 7, none⟩), .pointer (some ⟨b, 0 + 8, none⟩), .pointer (some ⟨b, 0 + 9, none⟩)]
theorem isN_cases {f : Int} (h : 1 ≤ f ∧ f ≤ 8) : f = 1 ∨ f = 2 ∨ f = 3 ∨ f = 4 ∨ f = 5 ∨ f = 6 ∨ f = 7 ∨ f = 8 := by omega
theorem num_at {f : Int} (h : 1 ≤ f ∧ f ≤ 8) (b : Nat) : (numL b)[f.toNat * 1]? = some (.pointer (some ⟨b, foF f, none⟩)) := by
  rcases isN_cases h with rfl | rfl | rfl | rfl | rfl | rfl | rfl | rfl <;> rfl
theorem cell_fo {f : Int} (h : 1 ≤ f ∧ f ≤ 8) (x : Sg) : lget (encG x) (foF f) = some (.int .i64 (getF x f)) := by
  rcases isN_cases h with rfl | rfl | rfl | rfl | rfl | rfl | rfl | rfl <;> rfl
theorem fo_lt {f : Int} : Nat.blt (foF f) 14 = true := by
  unfold foF
  repeat' split
  all_goals rfl
theorem set_fo {f : Int} (h : 1 ≤ f ∧ f ≤ 8) (x y : Sg) : (encG x).toArray.setIfInBounds (foF f) (.int .i64 (getF y f)) = (encG (setG x f y)).toArray := by
  rcases isN_cases h with rfl | rfl | rfl | rfl | rfl | rfl | rfl | rfl <;> rfl
def lastI (v : List Int) (k : Nat) (l : Int) : Prop := (k = 0 → l = 0) ∧ ∀ y, v[k - 1]? = some y → k ≠ 0 → l = y
theorem lastI_step {v : List Int} {k : Nat} {x : Int} (hx : v[k]? = some x) : lastI v (k + 1) x := ⟨fun h => by omega, fun y hy _ => by simp at hy; rw [hx] at hy; cases hy; rfl⟩
theorem nd_at {id : Int} {v : List Int} {k : Nat} {l x : Int} (hall : (List.range k).all (ndP id v) = true) (hl : lastI v k l) (hx : v[k]? = some x) : ndP id v k = !(decide (x ≤ l) || decide (x ≥ id)) := by
  unfold ndP
  rw [getD_of hx]
  cases k with
  | zero =>
    rw [hl.1 rfl]
    rw [Bool.eq_iff_iff]; simp; omega
  | succ k =>
    have hk := (List.getElem?_eq_some_iff.1 hx).1
    have hy : v[k]? = some (v[k]'(by omega)) := List.getElem?_eq_getElem _
    have e := hl.2 _ (by rw [Nat.add_sub_cancel]; exact hy) (by omega)
    rw [show (((k + 1 : Nat) : Int) - 1).toNat = k by omega, getD_of hy, ← e]
    have h1 : 1 ≤ l := by
      rw [List.all_eq_true] at hall
      have := hall k (List.mem_range.2 (by omega))
      unfold ndP at this
      rw [getD_of hy] at this
      simp at this
      omega
    rw [Bool.eq_iff_iff]; simp; omega
theorem pchk_1 {p : Pt} (h : p.needs.length > 32) : pchk p = 2 := by unfold pchk; rw [if_pos h]
theorem pchk_2 {p : Pt} (h : ¬ p.needs.length > 32) (h2 : ndB p.id p.needs = false) : pchk p = 370 := by unfold pchk; rw [if_neg h, h2]; rfl
theorem pchk_3 {p : Pt} (h : ¬ p.needs.length > 32) (h2 : ndB p.id p.needs = true) (h3 : (idB p && kndB p) = false) : pchk p = 370 := by unfold pchk; rw [if_neg h, h2, h3]; rfl
theorem pchk_4 {p : Pt} (h : ¬ p.needs.length > 32) (h2 : ndB p.id p.needs = true) (h3 : (idB p && kndB p) = true) : pchk p = 0 := by unfold pchk; rw [if_neg h, h2, h3]; rfl
theorem knd_1 {p : Pt} (h : p.kind = 1) (h2 : within p.field 1 9 = true) : kndB p = (sgEq (setG p.nw p.field zeroG) zeroG && frm (setG plainG p.field p.nw)) := by unfold kndB; rw [if_pos h, h2, Bool.true_and]
theorem knd_1n {p : Pt} (h : p.kind = 1) (h2 : within p.field 1 9 = false) : (idB p && kndB p) = false := by unfold kndB; rw [if_pos h, h2, Bool.false_and, Bool.and_false]
theorem knd_2 {p : Pt} (h : p.kind = 2) : kndB p = (p.field == 0 && (p.nw.id == p.sign && frm p.nw)) := by unfold kndB; rw [if_neg (by omega), if_pos h]
theorem knd_3 {p : Pt} (h : p.kind = 3) : kndB p = (p.field == 0 && sgEq p.nw zeroG) := by unfold kndB; rw [if_neg (by omega), if_neg (by omega), if_pos h]
theorem knd_4 {p : Pt} (h1 : p.kind ≠ 1) (h2 : p.kind ≠ 2) (h3 : p.kind ≠ 3) : (idB p && kndB p) = false := by unfold kndB; rw [if_neg h1, if_neg h2, if_neg h3, Bool.and_false]
theorem span_eq {fn fd tn td : Int} : (ratE fn fd != 0 || ratE tn td != 0) = !(ratF fn fd && ratF tn td) := by
  unfold ratE
  cases ratF fn fd <;> cases ratF tn td <;> rfl
def cmpE (an ad bn bd : Int) : Int := if ratF an ad && ratF bn bd then 0 else 120
def cmpV (an ad bn bd : Int) : Int := if ratF an ad && ratF bn bd then cmpF (an * bd) (bn * ad) else 0
theorem fine_eq {fn fd tn td : Int} : (((cmpE fn fd tn td == 0) && decide (cmpV fn fd tn td < 0)) && decide (fn ≥ 0) && decide (tn ≤ td)) = spanF fn fd tn td := by
  unfold cmpE cmpV spanF cmpF
  cases h : (ratF fn fd && ratF tn td) with
  | false => rfl
  | true =>
    simp only [if_true, Bool.true_and]
    by_cases h2 : fn * td < tn * fd
    · simp [h2, Bool.and_assoc]
    · by_cases h3 : fn * td > tn * fd <;> simp [h2, h3]
theorem skP_at {xs : List Sg} {k : Nat} {x : Sg} (hx : xs[k]? = some x) : skP xs k = !(!frm x || (decide ((k : Int) > 0) && decide ((xs.getD ((k : Int) - 1).toNat zeroG).id ≥ x.id))) := by unfold skP; rw [getD_of hx]
end Go.Proofs.YtoicbikdenlioaaGreat
end
section
namespace Go.Kn
open Go
structure Kp (p : Prop) : Prop where
  out : p
theorem cutD {p q : Prop} (h1 : Kp p → q) (h2 : p) : q := h1 ⟨h2⟩
theorem at_sub {C : Cx} {Q : Exit → Act → World → Prop} {e : Exit} {E E' : Env} {I : HMap} {loc : Loc} (h : Kp (At C Q e E' I loc)) (hE : Sub E' E := by repeat (first | exact Sub.nil | refine Sub.cons rfl ?_)) : At C Q e E I loc :=
  fun a w ha hw => h.out a w (ha.sub hE) hw
end Go.Kn
end
section
namespace Go.Proofs.YtoicbikdenlioaaGreat
open Go Go.Kn Go.Proofs
theorem w_nan (I : HMap) (x : Int) : RetV Tryz.prog 71 [.int .i64 x] I (.bool false) := by
 intro g H w hw
 refine enter Tryz.func71 rfl Tryz.ntmps71 rfl hw ?_
 refine zR ?_
 refine zA ?_
 refine zN (zR ?_)
 refine zM ?_
 refine zM ?_
 refine zC ?_
 refine zA ?_
 refine zN ?_
 refine X_ret ?_
 exact at_ret1 rfl rfl (fun w hw => ⟨by simp, hw.drop⟩)
theorem w_cmp (I : HMap) (x y : Int) : RetV Tryz.prog 20 [.int .i64 x, .int .i64 y] I (.int .i64 (cmpF x y)) := by
 intro g H w hw
 refine enter Tryz.func20 rfl Tryz.ntmps20 rfl hw ?_
 refine zR ?_
 refine zA ?_
 refine zN (zR ?_)
 refine zM ?_
 refine XO_callV0 (cap := []) (vs := [_]) rfl rfl fun_71 (w_nan I _) rfl rfl ?_
 refine zA ?_
 refine zN (zR ?_)
 refine zM ?_
 refine XO_callV0 (cap := []) (vs := [_]) rfl rfl fun_71 (w_nan I _) rfl rfl ?_
 refine zA ?_
 refine zN ?_
 refine X_seq ?_
 refine zR ?_
 refine zM ?_
 refine zN ?_
 refine zI ?_ ?_ <;> intro hc11
 ·
  cases hc11
 refine X_skip ?_
 refine at_then ?_
 refine X_seq ?_
 refine zR ?_
 refine zM ?_
 refine zN ?_
 refine zI ?_ ?_ <;> intro hc13
 ·
  cases hc13
 refine X_skip ?_
 refine at_then ?_
 refine X_seq ?_
 refine zR ?_
 refine zM ?_
 refine zM ?_
 refine zC ?_
 refine zN ?_
 refine zI ?_ ?_ <;> intro hc16
 ·
  refine zR ?_
  refine zA ?_
  refine zN ?_
  refine X_ret ?_
  refine at_then_r ?_
  exact at_ret1 rfl rfl (fun w hw => ⟨by unfold cmpF; first | (rw [if_pos (by simpa using hc16)]) | (rw [if_neg (by simpa using hc16), if_pos (by simpa using hc19)]) | (rw [if_neg (by simpa using hc16), if_neg (by simpa using hc19)]), hw.drop⟩)
 refine X_skip ?_
 refine at_then ?_
 refine X_seq ?_
 refine zR ?_
 refine zM ?_
 refine zM ?_
 refine zC ?_
 refine zN ?_
 refine zI ?_ ?_ <;> intro hc19
 ·
  refine zR ?_
  refine zA ?_
  refine zN ?_
  refine X_ret ?_
  refine at_then_r ?_
  exact at_ret1 rfl rfl (fun w hw => ⟨by unfold cmpF; first | (rw [if_pos (by simpa using hc16)]) | (rw [if_neg (by simpa using hc16), if_pos (by simpa using hc19)]) | (rw [if_neg (by simpa using hc16), if_neg (by simpa using hc19)]), hw.drop⟩)
 refine X_skip ?_
 refine at_then ?_
 refine zR ?_
 refine zA ?_
 refine zN ?_
 refine X_ret ?_
 exact at_ret1 rfl rfl (fun w hw => ⟨by unfold cmpF; first | (rw [if_pos (by simpa using hc16)]) | (rw [if_neg (by simpa using hc16), if_pos (by simpa using hc19)]) | (rw [if_neg (by simpa using hc16), if_neg (by simpa using hc19)]), hw.drop⟩)
theorem w_mag (I : HMap) (n : Int) (hn : -1073741824 ≤ n ∧ n ≤ 1073741824) : RetV Tryz.prog 95 [.int .i64 n] I (.int .u64 (magI n)) := by
 intro g H w hw
 refine enter Tryz.func95 rfl Tryz.ntmps95 rfl hw ?_
 refine zR ?_
 refine zA ?_
 refine zN ?_
 refine X_seq ?_
 refine zR ?_
 refine zM ?_
 refine zC ?_
 refine zN ?_
 refine zI ?_ ?_ <;> intro hc4
 ·
  refine zR ?_
  refine zM ?_
  refine zV (ev_convI rfl cvt_3_108) ?_
  refine zV (ev_negU rfl) ?_
  refine zA ?_
  refine zN ?_
  refine X_ret ?_
  refine at_then_r ?_
  exact at_ret1 rfl rfl (fun w hw => ⟨by rw [mag_neg hn (by simpa using hc4)], hw.drop⟩)
 refine X_skip ?_
 refine at_then ?_
 refine zR ?_
 refine zM ?_
 refine zV (ev_convI rfl cvt_3_108) ?_
 refine zA ?_
 refine zN ?_
 refine X_ret ?_
 exact at_ret1 rfl rfl (fun w hw => ⟨by rw [mag_pos hn (by simpa using hc4)], hw.drop⟩)
theorem w_rem (I : HMap) (a b : Int) : RetM Tryz.prog 118 [.int .u64 a, .int .u64 b] I [] (fun v I' L => I' = I ∧ ∃ b1 b2, v = .func (.func 139) #[] [capP b1, capP b2].toArray ∧ L = remL 108 b1 b2 a b) := by
 intro g H w hw
 refine enter Tryz.func118 rfl Tryz.ntmps118 rfl hw ?_
 refine zR ?_
 refine XO_box rfl rfl rfl (fun b_2 => ?_)
 refine XO_box rfl rfl rfl (fun b_3 => ?_)
 refine zA ?_
 refine zN (zR ?_)
 refine zV (ev_makeFunc (us := []) (vs := [_, _]) rfl rfl) ?_
 refine zA ?_
 refine zN ?_
 refine X_ret ?_
 exact at_ret1 rfl rfl (fun w hw => ⟨_, I, _, rfl, HLe.refl _, hw, rfl, _, _, rfl, rfl⟩)
theorem w_euclid (I : HMap) (a0 b0 : Nat) (b1 b2 : Nat) (hb0 : 0 < b0) (ha1 : a0 ≤ 9223372036854775807) (hb1 : b0 ≤ 9223372036854775807) : SeqL Tryz.prog 139 [capP b1, capP b2] I (remL 108 b1 b2 (a0) (b0)) (fun n : Nat => .int .u64 n) (remN a0 b0) := by
 intro g l J Jx hY I0 H w h0 hJ hw
 refine enter Tryz.func139 rfl Tryz.ntmps139 rfl hw ?_
 refine X_block ?_
 refine X_loopH (fun m E I' H' loc' => ∃ (a b : Nat) (pre : List Nat), m = b ∧ E = [(0, .func (.yield l) #[] #[]), (1, capP b1), (2, capP b2)] ∧ loc' = remL 108 b1 b2 (a) (b) ∧ HLe I0 I' ∧ J pre I' H' ∧ remN a0 b0 = pre ++ remN a b ∧ 0 < b ∧ a ≤ 9223372036854775807 ∧ b ≤ 9223372036854775807) _ _ _ ⟨a0, b0, [], rfl, rfl, rfl, HLe.refl _, hJ, rfl, hb0, ha1, hb1⟩ (.cons rfl (.cons rfl (.cons rfl .nil))) rfl ?_
 rintro m E I' H' loc' ⟨a, b, pre, hmb, rfl, rfl, hI1, hJk, hrem, hbp, hal, hbl⟩
 subst m
 have hI0 := h0.trans hI1
 refine X_seq ?_
 refine zR ?_
 refine zL sct_108 ?_
 refine zC ?_
 refine zM ?_
 refine XO_pushT 2 rfl rfl rfl ?_
 refine zK (ev_move rfl) ?_
 refine zK (ev_load rfl sct_108 (fun hg => by repeat (first | exact Cell.here rfl | apply Cell.there | apply Cell.app))) ?_
 refine XO_yield1 (vs := [_]) (Post := fun t I2 H2 => if t then J (pre ++ [a]) I2 H2 else Jx (pre ++ [a]) I2 H2) rfl rfl (.some rfl rfl rfl rfl gbt) rfl rfl (fun hcj => hY pre a _ _ (rem_pre hrem (by simpa [conj] using hcj)) hI0 hJk) ?_
 rintro t I2 H2 hI2 hyes hno
 refine XO_and0 rfl rfl rfl rfl rfl ?_
 refine zN ?_
 refine zI ?_ ?_ <;> intro hc10
 ·
  have ha0 : a ≠ 0 := by simp at hc10; exact hc10.1
  have ht : t = true := by simp at hc10; exact hc10.2
  subst ht
  have hJ1 : J (pre ++ [a]) I2 H2 := hyes (by simp [conj]; exact ha0)
  refine X_skip ?_
  refine at_then ?_
  refine X_block ?_
  refine X_seq ?_
  apply cutD
  ·
   intro key
   have hD := HLe.refl I2
   refine X_noP ?_
   refine X_drawS I2 [] mixed ?_
   refine XD_three 0 1 2 rfl rfl rfl (by kernel_rfl) ?_ ?_ ?_
   ·
    refine zL sct_108 ?_
    refine XO_nil ?_
    refine zD hD ?_
    refine XD_two 1 2 rfl rfl (by kernel_rfl) ?_ ?_
    ·
     refine zL sct_108 ?_
     refine XO_nil ?_
     refine zD hD ?_
     refine XD_two 2 5 rfl rfl (by kernel_rfl) ?_ ?_
     ·
      refine zL sct_108 ?_
      refine XO_nil ?_
      refine zD hD ?_
      refine XD_two 3 5 rfl rfl (by kernel_rfl) ?_ ?_
      ·
       refine zV (ev_max rfl rfl) ?_
       refine XO_nil ?_
       refine zD hD ?_
       refine XD_two 4 5 rfl rfl (by kernel_rfl) ?_ ?_
       ·
        refine zV (ev_rem rfl rfl (fun hg => by rw [maxI_one hbp]; omega)) ?_
        refine XO_nil ?_
        refine zD hD ?_
        refine XD_one 5 rfl (by kernel_rfl) ?_
        refine zS szt_108 ?_
        refine XO_nil ?_
        refine zD hD ?_
        refine XD_one 6 rfl (by kernel_rfl) ?_
        refine zS szt_108 ?_
        refine XO_nil ?_
        refine zD hD ?_
        refine XD_done (by kernel_rfl) ?_
        refine at_noP ?_
        first | exact key.out | exact at_sub key
       refine zS szt_108 ?_
       refine XO_nil ?_
       refine zD hD ?_
       refine XD_one 4 rfl (by kernel_rfl) ?_
       refine zV (ev_rem rfl rfl (fun hg => by rw [maxI_one hbp]; omega)) ?_
       refine XO_nil ?_
       refine zD hD ?_
       refine XD_one 6 rfl (by kernel_rfl) ?_
       refine zS szt_108 ?_
       refine XO_nil ?_
       refine zD hD ?_
       refine XD_done (by kernel_rfl) ?_
       refine at_noP ?_
       first | exact key.out | exact at_sub key
      refine zS szt_108 ?_
      refine XO_nil ?_
      refine zD hD ?_
      refine XD_one 3 rfl (by kernel_rfl) ?_
      refine zV (ev_max rfl rfl) ?_
      refine XO_nil ?_
      refine zD hD ?_
      refine XD_one 4 rfl (by kernel_rfl) ?_
      refine zV (ev_rem rfl rfl (fun hg => by rw [maxI_one hbp]; omega)) ?_
      refine XO_nil ?_
      refine zD hD ?_
      refine XD_one 6 rfl (by kernel_rfl) ?_
      refine zS szt_108 ?_
      refine XO_nil ?_
      refine zD hD ?_
      refine XD_done (by kernel_rfl) ?_
      refine at_noP ?_
      first | exact key.out | exact at_sub key
     refine zS szt_108 ?_
     refine XO_nil ?_
     refine zD hD ?_
     refine XD_one 2 rfl (by kernel_rfl) ?_
     refine zL sct_108 ?_
     refine XO_nil ?_
     refine zD hD ?_
     refine XD_one 3 rfl (by kernel_rfl) ?_
     refine zV (ev_max rfl rfl) ?_
     refine XO_nil ?_
     refine zD hD ?_
     refine XD_one 4 rfl (by kernel_rfl) ?_
     refine zV (ev_rem rfl rfl (fun hg => by rw [maxI_one hbp]; omega)) ?_
     refine XO_nil ?_
     refine zD hD ?_
     refine XD_one 6 rfl (by kernel_rfl) ?_
     refine zS szt_108 ?_
     refine XO_nil ?_
     refine zD hD ?_
     refine XD_done (by kernel_rfl) ?_
     refine at_noP ?_
     first | exact key.out | exact at_sub key
    refine zL sct_108 ?_
    refine XO_nil ?_
    refine zD hD ?_
    refine XD_two 1 3 rfl rfl (by kernel_rfl) ?_ ?_
    ·
     refine zL sct_108 ?_
     refine XO_nil ?_
     refine zD hD ?_
     refine XD_two 3 5 rfl rfl (by kernel_rfl) ?_ ?_
     ·
      refine zV (ev_max rfl rfl) ?_
      refine XO_nil ?_
      refine zD hD ?_
      refine XD_two 4 5 rfl rfl (by kernel_rfl) ?_ ?_
      ·
       refine zV (ev_rem rfl rfl (fun hg => by rw [maxI_one hbp]; omega)) ?_
       refine XO_nil ?_
       refine zD hD ?_
       refine XD_one 5 rfl (by kernel_rfl) ?_
       refine zS szt_108 ?_
       refine XO_nil ?_
       refine zD hD ?_
       refine XD_one 6 rfl (by kernel_rfl) ?_
       refine zS szt_108 ?_
       refine XO_nil ?_
       refine zD hD ?_
       refine XD_done (by kernel_rfl) ?_
       refine at_noP ?_
       first | exact key.out | exact at_sub key
      refine zS szt_108 ?_
      refine XO_nil ?_
      refine zD hD ?_
      refine XD_one 4 rfl (by kernel_rfl) ?_
      refine zV (ev_rem rfl rfl (fun hg => by rw [maxI_one hbp]; omega)) ?_
      refine XO_nil ?_
      refine zD hD ?_
      refine XD_one 6 rfl (by kernel_rfl) ?_
      refine zS szt_108 ?_
      refine XO_nil ?_
      refine zD hD ?_
      refine XD_done (by kernel_rfl) ?_
      refine at_noP ?_
      first | exact key.out | exact at_sub key
     refine zS szt_108 ?_
     refine XO_nil ?_
     refine zD hD ?_
     refine XD_one 3 rfl (by kernel_rfl) ?_
     refine zV (ev_max rfl rfl) ?_
     refine XO_nil ?_
     refine zD hD ?_
     refine XD_one 4 rfl (by kernel_rfl) ?_
     refine zV (ev_rem rfl rfl (fun hg => by rw [maxI_one hbp]; omega)) ?_
     refine XO_nil ?_
     refine zD hD ?_
     refine XD_one 6 rfl (by kernel_rfl) ?_
     refine zS szt_108 ?_
     refine XO_nil ?_
     refine zD hD ?_
     refine XD_done (by kernel_rfl) ?_
     refine at_noP ?_
     first | exact key.out | exact at_sub key
    refine zV (ev_max rfl rfl) ?_
    refine XO_nil ?_
    refine zD hD ?_
    refine XD_one 1 rfl (by kernel_rfl) ?_
    refine zL sct_108 ?_
    refine XO_nil ?_
    refine zD hD ?_
    refine XD_two 4 5 rfl rfl (by kernel_rfl) ?_ ?_
    ·
     refine zV (ev_rem rfl rfl (fun hg => by rw [maxI_one hbp]; omega)) ?_
     refine XO_nil ?_
     refine zD hD ?_
     refine XD_one 5 rfl (by kernel_rfl) ?_
     refine zS szt_108 ?_
     refine XO_nil ?_
     refine zD hD ?_
     refine XD_one 6 rfl (by kernel_rfl) ?_
     refine zS szt_108 ?_
     refine XO_nil ?_
     refine zD hD ?_
     refine XD_done (by kernel_rfl) ?_
     refine at_noP ?_
     first | exact key.out | exact at_sub key
    refine zS szt_108 ?_
    refine XO_nil ?_
    refine zD hD ?_
    refine XD_one 4 rfl (by kernel_rfl) ?_
    refine zV (ev_rem rfl rfl (fun hg => by rw [maxI_one hbp]; omega)) ?_
    refine XO_nil ?_
    refine zD hD ?_
    refine XD_one 6 rfl (by kernel_rfl) ?_
    refine zS szt_108 ?_
    refine XO_nil ?_
    refine zD hD ?_
    refine XD_done (by kernel_rfl) ?_
    refine at_noP ?_
    first | exact key.out | exact at_sub key
   ·
    refine zL sct_108 ?_
    refine XO_nil ?_
    refine zD hD ?_
    refine XD_two 0 2 rfl rfl (by kernel_rfl) ?_ ?_
    ·
     refine zL sct_108 ?_
     refine XO_nil ?_
     refine zD hD ?_
     refine XD_two 2 5 rfl rfl (by kernel_rfl) ?_ ?_
     ·
      refine zL sct_108 ?_
      refine XO_nil ?_
      refine zD hD ?_
      refine XD_two 3 5 rfl rfl (by kernel_rfl) ?_ ?_
      ·
       refine zV (ev_max rfl rfl) ?_
       refine XO_nil ?_
       refine zD hD ?_
       refine XD_two 4 5 rfl rfl (by kernel_rfl) ?_ ?_
       ·
        refine zV (ev_rem rfl rfl (fun hg => by rw [maxI_one hbp]; omega)) ?_
        refine XO_nil ?_
        refine zD hD ?_
        refine XD_one 5 rfl (by kernel_rfl) ?_
        refine zS szt_108 ?_
        refine XO_nil ?_
        refine zD hD ?_
        refine XD_one 6 rfl (by kernel_rfl) ?_
        refine zS szt_108 ?_
        refine XO_nil ?_
        refine zD hD ?_
        refine XD_done (by kernel_rfl) ?_
        refine at_noP ?_
        first | exact key.out | exact at_sub key
       refine zS szt_108 ?_
       refine XO_nil ?_
       refine zD hD ?_
       refine XD_one 4 rfl (by kernel_rfl) ?_
       refine zV (ev_rem rfl rfl (fun hg => by rw [maxI_one hbp]; omega)) ?_
       refine XO_nil ?_
       refine zD hD ?_
       refine XD_one 6 rfl (by kernel_rfl) ?_
       refine zS szt_108 ?_
       refine XO_nil ?_
       refine zD hD ?_
       refine XD_done (by kernel_rfl) ?_
       refine at_noP ?_
       first | exact key.out | exact at_sub key
      refine zS szt_108 ?_
      refine XO_nil ?_
      refine zD hD ?_
      refine XD_one 3 rfl (by kernel_rfl) ?_
      refine zV (ev_max rfl rfl) ?_
      refine XO_nil ?_
      refine zD hD ?_
      refine XD_one 4 rfl (by kernel_rfl) ?_
      refine zV (ev_rem rfl rfl (fun hg => by rw [maxI_one hbp]; omega)) ?_
      refine XO_nil ?_
      refine zD hD ?_
      refine XD_one 6 rfl (by kernel_rfl) ?_
      refine zS szt_108 ?_
      refine XO_nil ?_
      refine zD hD ?_
      refine XD_done (by kernel_rfl) ?_
      refine at_noP ?_
      first | exact key.out | exact at_sub key
     refine zS szt_108 ?_
     refine XO_nil ?_
     refine zD hD ?_
     refine XD_one 2 rfl (by kernel_rfl) ?_
     refine zL sct_108 ?_
     refine XO_nil ?_
     refine zD hD ?_
     refine XD_one 3 rfl (by kernel_rfl) ?_
     refine zV (ev_max rfl rfl) ?_
     refine XO_nil ?_
     refine zD hD ?_
     refine XD_one 4 rfl (by kernel_rfl) ?_
     refine zV (ev_rem rfl rfl (fun hg => by rw [maxI_one hbp]; omega)) ?_
     refine XO_nil ?_
     refine zD hD ?_
     refine XD_one 6 rfl (by kernel_rfl) ?_
     refine zS szt_108 ?_
     refine XO_nil ?_
     refine zD hD ?_
     refine XD_done (by kernel_rfl) ?_
     refine at_noP ?_
     first | exact key.out | exact at_sub key
    refine zL sct_108 ?_
    refine XO_nil ?_
    refine zD hD ?_
    refine XD_two 0 3 rfl rfl (by kernel_rfl) ?_ ?_
    ·
     refine zL sct_108 ?_
     refine XO_nil ?_
     refine zD hD ?_
     refine XD_two 3 5 rfl rfl (by kernel_rfl) ?_ ?_
     ·
      refine zV (ev_max rfl rfl) ?_
      refine XO_nil ?_
      refine zD hD ?_
      refine XD_two 4 5 rfl rfl (by kernel_rfl) ?_ ?_
      ·
       refine zV (ev_rem rfl rfl (fun hg => by rw [maxI_one hbp]; omega)) ?_
       refine XO_nil ?_
       refine zD hD ?_
       refine XD_one 5 rfl (by kernel_rfl) ?_
       refine zS szt_108 ?_
       refine XO_nil ?_
       refine zD hD ?_
       refine XD_one 6 rfl (by kernel_rfl) ?_
       refine zS szt_108 ?_
       refine XO_nil ?_
       refine zD hD ?_
       refine XD_done (by kernel_rfl) ?_
       refine at_noP ?_
       first | exact key.out | exact at_sub key
      refine zS szt_108 ?_
      refine XO_nil ?_
      refine zD hD ?_
      refine XD_one 4 rfl (by kernel_rfl) ?_
      refine zV (ev_rem rfl rfl (fun hg => by rw [maxI_one hbp]; omega)) ?_
      refine XO_nil ?_
      refine zD hD ?_
      refine XD_one 6 rfl (by kernel_rfl) ?_
      refine zS szt_108 ?_
      refine XO_nil ?_
      refine zD hD ?_
      refine XD_done (by kernel_rfl) ?_
      refine at_noP ?_
      first | exact key.out | exact at_sub key
     refine zS szt_108 ?_
     refine XO_nil ?_
     refine zD hD ?_
     refine XD_one 3 rfl (by kernel_rfl) ?_
     refine zV (ev_max rfl rfl) ?_
     refine XO_nil ?_
     refine zD hD ?_
     refine XD_one 4 rfl (by kernel_rfl) ?_
     refine zV (ev_rem rfl rfl (fun hg => by rw [maxI_one hbp]; omega)) ?_
     refine XO_nil ?_
     refine zD hD ?_
     refine XD_one 6 rfl (by kernel_rfl) ?_
     refine zS szt_108 ?_
     refine XO_nil ?_
     refine zD hD ?_
     refine XD_done (by kernel_rfl) ?_
     refine at_noP ?_
     first | exact key.out | exact at_sub key
    refine zV (ev_max rfl rfl) ?_
    refine XO_nil ?_
    refine zD hD ?_
    refine XD_two 0 4 rfl rfl (by kernel_rfl) ?_ ?_
    ·
     refine zL sct_108 ?_
     refine XO_nil ?_
     refine zD hD ?_
     refine XD_two 4 5 rfl rfl (by kernel_rfl) ?_ ?_
     ·
      refine zV (ev_rem rfl rfl (fun hg => by rw [maxI_one hbp]; omega)) ?_
      refine XO_nil ?_
      refine zD hD ?_
      refine XD_one 5 rfl (by kernel_rfl) ?_
      refine zS szt_108 ?_
      refine XO_nil ?_
      refine zD hD ?_
      refine XD_one 6 rfl (by kernel_rfl) ?_
      refine zS szt_108 ?_
      refine XO_nil ?_
      refine zD hD ?_
      refine XD_done (by kernel_rfl) ?_
      refine at_noP ?_
      first | exact key.out | exact at_sub key
     refine zS szt_108 ?_
     refine XO_nil ?_
     refine zD hD ?_
     refine XD_one 4 rfl (by kernel_rfl) ?_
     refine zV (ev_rem rfl rfl (fun hg => by rw [maxI_one hbp]; omega)) ?_
     refine XO_nil ?_
     refine zD hD ?_
     refine XD_one 6 rfl (by kernel_rfl) ?_
     refine zS szt_108 ?_
     refine XO_nil ?_
     refine zD hD ?_
     refine XD_done (by kernel_rfl) ?_
     refine at_noP ?_
     first | exact key.out | exact at_sub key
    refine zV (ev_rem rfl rfl (fun hg => by rw [maxI_one hbp]; omega)) ?_
    refine XO_nil ?_
    refine zD hD ?_
    refine XD_one 0 rfl (by kernel_rfl) ?_
    refine zL sct_108 ?_
    refine XO_nil ?_
    refine zD hD ?_
    refine XD_one 5 rfl (by kernel_rfl) ?_
    refine zS szt_108 ?_
    refine XO_nil ?_
    refine zD hD ?_
    refine XD_one 6 rfl (by kernel_rfl) ?_
    refine zS szt_108 ?_
    refine XO_nil ?_
    refine zD hD ?_
    refine XD_done (by kernel_rfl) ?_
    refine at_noP ?_
    first | exact key.out | exact at_sub key
   refine zL sct_108 ?_
   refine XO_nil ?_
   refine zD hD ?_
   refine XD_three 0 1 3 rfl rfl rfl (by kernel_rfl) ?_ ?_ ?_
   ·
    refine zL sct_108 ?_
    refine XO_nil ?_
    refine zD hD ?_
    refine XD_two 1 3 rfl rfl (by kernel_rfl) ?_ ?_
    ·
     refine zL sct_108 ?_
     refine XO_nil ?_
     refine zD hD ?_
     refine XD_two 3 5 rfl rfl (by kernel_rfl) ?_ ?_
     ·
      refine zV (ev_max rfl rfl) ?_
      refine XO_nil ?_
      refine zD hD ?_
      refine XD_two 4 5 rfl rfl (by kernel_rfl) ?_ ?_
      ·
       refine zV (ev_rem rfl rfl (fun hg => by rw [maxI_one hbp]; omega)) ?_
       refine XO_nil ?_
       refine zD hD ?_
       refine XD_one 5 rfl (by kernel_rfl) ?_
       refine zS szt_108 ?_
       refine XO_nil ?_
       refine zD hD ?_
       refine XD_one 6 rfl (by kernel_rfl) ?_
       refine zS szt_108 ?_
       refine XO_nil ?_
       refine zD hD ?_
       refine XD_done (by kernel_rfl) ?_
       refine at_noP ?_
       first | exact key.out | exact at_sub key
      refine zS szt_108 ?_
      refine XO_nil ?_
      refine zD hD ?_
      refine XD_one 4 rfl (by kernel_rfl) ?_
      refine zV (ev_rem rfl rfl (fun hg => by rw [maxI_one hbp]; omega)) ?_
      refine XO_nil ?_
      refine zD hD ?_
      refine XD_one 6 rfl (by kernel_rfl) ?_
      refine zS szt_108 ?_
      refine XO_nil ?_
      refine zD hD ?_
      refine XD_done (by kernel_rfl) ?_
      refine at_noP ?_
      first | exact key.out | exact at_sub key
     refine zS szt_108 ?_
     refine XO_nil ?_
     refine zD hD ?_
     refine XD_one 3 rfl (by kernel_rfl) ?_
     refine zV (ev_max rfl rfl) ?_
     refine XO_nil ?_
     refine zD hD ?_
     refine XD_one 4 rfl (by kernel_rfl) ?_
     refine zV (ev_rem rfl rfl (fun hg => by rw [maxI_one hbp]; omega)) ?_
     refine XO_nil ?_
     refine zD hD ?_
     refine XD_one 6 rfl (by kernel_rfl) ?_
     refine zS szt_108 ?_
     refine XO_nil ?_
     refine zD hD ?_
     refine XD_done (by kernel_rfl) ?_
     refine at_noP ?_
     first | exact key.out | exact at_sub key
    refine zV (ev_max rfl rfl) ?_
    refine XO_nil ?_
    refine zD hD ?_
    refine XD_one 1 rfl (by kernel_rfl) ?_
    refine zL sct_108 ?_
    refine XO_nil ?_
    refine zD hD ?_
    refine XD_two 4 5 rfl rfl (by kernel_rfl) ?_ ?_
    ·
     refine zV (ev_rem rfl rfl (fun hg => by rw [maxI_one hbp]; omega)) ?_
     refine XO_nil ?_
     refine zD hD ?_
     refine XD_one 5 rfl (by kernel_rfl) ?_
     refine zS szt_108 ?_
     refine XO_nil ?_
     refine zD hD ?_
     refine XD_one 6 rfl (by kernel_rfl) ?_
     refine zS szt_108 ?_
     refine XO_nil ?_
     refine zD hD ?_
     refine XD_done (by kernel_rfl) ?_
     refine at_noP ?_
     first | exact key.out | exact at_sub key
    refine zS szt_108 ?_
    refine XO_nil ?_
    refine zD hD ?_
    refine XD_one 4 rfl (by kernel_rfl) ?_
    refine zV (ev_rem rfl rfl (fun hg => by rw [maxI_one hbp]; omega)) ?_
    refine XO_nil ?_
    refine zD hD ?_
    refine XD_one 6 rfl (by kernel_rfl) ?_
    refine zS szt_108 ?_
    refine XO_nil ?_
    refine zD hD ?_
    refine XD_done (by kernel_rfl) ?_
    refine at_noP ?_
    first | exact key.out | exact at_sub key
   ·
    refine zL sct_108 ?_
    refine XO_nil ?_
    refine zD hD ?_
    refine XD_two 0 3 rfl rfl (by kernel_rfl) ?_ ?_
    ·
     refine zL sct_108 ?_
     refine XO_nil ?_
     refine zD hD ?_
     refine XD_two 3 5 rfl rfl (by kernel_rfl) ?_ ?_
     ·
      refine zV (ev_max rfl rfl) ?_
      refine XO_nil ?_
      refine zD hD ?_
      refine XD_two 4 5 rfl rfl (by kernel_rfl) ?_ ?_
      ·
       refine zV (ev_rem rfl rfl (fun hg => by rw [maxI_one hbp]; omega)) ?_
       refine XO_nil ?_
       refine zD hD ?_
       refine XD_one 5 rfl (by kernel_rfl) ?_
       refine zS szt_108 ?_
       refine XO_nil ?_
       refine zD hD ?_
       refine XD_one 6 rfl (by kernel_rfl) ?_
       refine zS szt_108 ?_
       refine XO_nil ?_
       refine zD hD ?_
       refine XD_done (by kernel_rfl) ?_
       refine at_noP ?_
       first | exact key.out | exact at_sub key
      refine zS szt_108 ?_
      refine XO_nil ?_
      refine zD hD ?_
      refine XD_one 4 rfl (by kernel_rfl) ?_
      refine zV (ev_rem rfl rfl (fun hg => by rw [maxI_one hbp]; omega)) ?_
      refine XO_nil ?_
      refine zD hD ?_
      refine XD_one 6 rfl (by kernel_rfl) ?_
      refine zS szt_108 ?_
      refine XO_nil ?_
      refine zD hD ?_
      refine XD_done (by kernel_rfl) ?_
      refine at_noP ?_
      first | exact key.out | exact at_sub key
     refine zS szt_108 ?_
     refine XO_nil ?_
     refine zD hD ?_
     refine XD_one 3 rfl (by kernel_rfl) ?_
     refine zV (ev_max rfl rfl) ?_
     refine XO_nil ?_
     refine zD hD ?_
     refine XD_one 4 rfl (by kernel_rfl) ?_
     refine zV (ev_rem rfl rfl (fun hg => by rw [maxI_one hbp]; omega)) ?_
     refine XO_nil ?_
     refine zD hD ?_
     refine XD_one 6 rfl (by kernel_rfl) ?_
     refine zS szt_108 ?_
     refine XO_nil ?_
     refine zD hD ?_
     refine XD_done (by kernel_rfl) ?_
     refine at_noP ?_
     first | exact key.out | exact at_sub key
    refine zV (ev_max rfl rfl) ?_
    refine XO_nil ?_
    refine zD hD ?_
    refine XD_two 0 4 rfl rfl (by kernel_rfl) ?_ ?_
    ·
     refine zL sct_108 ?_
     refine XO_nil ?_
     refine zD hD ?_
     refine XD_two 4 5 rfl rfl (by kernel_rfl) ?_ ?_
     ·
      refine zV (ev_rem rfl rfl (fun hg => by rw [maxI_one hbp]; omega)) ?_
      refine XO_nil ?_
      refine zD hD ?_
      refine XD_one 5 rfl (by kernel_rfl) ?_
      refine zS szt_108 ?_
      refine XO_nil ?_
      refine zD hD ?_
      refine XD_one 6 rfl (by kernel_rfl) ?_
      refine zS szt_108 ?_
      refine XO_nil ?_
      refine zD hD ?_
      refine XD_done (by kernel_rfl) ?_
      refine at_noP ?_
      first | exact key.out | exact at_sub key
     refine zS szt_108 ?_
     refine XO_nil ?_
     refine zD hD ?_
     refine XD_one 4 rfl (by kernel_rfl) ?_
     refine zV (ev_rem rfl rfl (fun hg => by rw [maxI_one hbp]; omega)) ?_
     refine XO_nil ?_
     refine zD hD ?_
     refine XD_one 6 rfl (by kernel_rfl) ?_
     refine zS szt_108 ?_
     refine XO_nil ?_
     refine zD hD ?_
     refine XD_done (by kernel_rfl) ?_
     refine at_noP ?_
     first | exact key.out | exact at_sub key
    refine zV (ev_rem rfl rfl (fun hg => by rw [maxI_one hbp]; omega)) ?_
    refine XO_nil ?_
    refine zD hD ?_
    refine XD_one 0 rfl (by kernel_rfl) ?_
    refine zL sct_108 ?_
    refine XO_nil ?_
    refine zD hD ?_
    refine XD_one 5 rfl (by kernel_rfl) ?_
    refine zS szt_108 ?_
    refine XO_nil ?_
    refine zD hD ?_
    refine XD_one 6 rfl (by kernel_rfl) ?_
    refine zS szt_108 ?_
    refine XO_nil ?_
    refine zD hD ?_
    refine XD_done (by kernel_rfl) ?_
    refine at_noP ?_
    first | exact key.out | exact at_sub key
   refine zV (ev_max rfl rfl) ?_
   refine XO_nil ?_
   refine zD hD ?_
   refine XD_two 0 1 rfl rfl (by kernel_rfl) ?_ ?_
   ·
    refine zL sct_108 ?_
    refine XO_nil ?_
    refine zD hD ?_
    refine XD_one 1 rfl (by kernel_rfl) ?_
    refine zL sct_108 ?_
    refine XO_nil ?_
    refine zD hD ?_
    refine XD_two 4 5 rfl rfl (by kernel_rfl) ?_ ?_
    ·
     refine zV (ev_rem rfl rfl (fun hg => by rw [maxI_one hbp]; omega)) ?_
     refine XO_nil ?_
     refine zD hD ?_
     refine XD_one 5 rfl (by kernel_rfl) ?_
     refine zS szt_108 ?_
     refine XO_nil ?_
     refine zD hD ?_
     refine XD_one 6 rfl (by kernel_rfl) ?_
     refine zS szt_108 ?_
     refine XO_nil ?_
     refine zD hD ?_
     refine XD_done (by kernel_rfl) ?_
     refine at_noP ?_
     first | exact key.out | exact at_sub key
    refine zS szt_108 ?_
    refine XO_nil ?_
    refine zD hD ?_
    refine XD_one 4 rfl (by kernel_rfl) ?_
    refine zV (ev_rem rfl rfl (fun hg => by rw [maxI_one hbp]; omega)) ?_
    refine XO_nil ?_
    refine zD hD ?_
    refine XD_one 6 rfl (by kernel_rfl) ?_
    refine zS szt_108 ?_
    refine XO_nil ?_
    refine zD hD ?_
    refine XD_done (by kernel_rfl) ?_
    refine at_noP ?_
    first | exact key.out | exact at_sub key
   refine zL sct_108 ?_
   refine XO_nil ?_
   refine zD hD ?_
   refine XD_two 0 4 rfl rfl (by kernel_rfl) ?_ ?_
   ·
    refine zL sct_108 ?_
    refine XO_nil ?_
    refine zD hD ?_
    refine XD_two 4 5 rfl rfl (by kernel_rfl) ?_ ?_
    ·
     refine zV (ev_rem rfl rfl (fun hg => by rw [maxI_one hbp]; omega)) ?_
     refine XO_nil ?_
     refine zD hD ?_
     refine XD_one 5 rfl (by kernel_rfl) ?_
     refine zS szt_108 ?_
     refine XO_nil ?_
     refine zD hD ?_
     refine XD_one 6 rfl (by kernel_rfl) ?_
     refine zS szt_108 ?_
     refine XO_nil ?_
     refine zD hD ?_
     refine XD_done (by kernel_rfl) ?_
     refine at_noP ?_
     first | exact key.out | exact at_sub key
    refine zS szt_108 ?_
    refine XO_nil ?_
    refine zD hD ?_
    refine XD_one 4 rfl (by kernel_rfl) ?_
    refine zV (ev_rem rfl rfl (fun hg => by rw [maxI_one hbp]; omega)) ?_
    refine XO_nil ?_
    refine zD hD ?_
    refine XD_one 6 rfl (by kernel_rfl) ?_
    refine zS szt_108 ?_
    refine XO_nil ?_
    refine zD hD ?_
    refine XD_done (by kernel_rfl) ?_
    refine at_noP ?_
    first | exact key.out | exact at_sub key
   refine zV (ev_rem rfl rfl (fun hg => by rw [maxI_one hbp]; omega)) ?_
   refine XO_nil ?_
   refine zD hD ?_
   refine XD_one 0 rfl (by kernel_rfl) ?_
   refine zL sct_108 ?_
   refine XO_nil ?_
   refine zD hD ?_
   refine XD_one 5 rfl (by kernel_rfl) ?_
   refine zS szt_108 ?_
   refine XO_nil ?_
   refine zD hD ?_
   refine XD_one 6 rfl (by kernel_rfl) ?_
   refine zS szt_108 ?_
   refine XO_nil ?_
   refine zD hD ?_
   refine XD_done (by kernel_rfl) ?_
   refine at_noP ?_
   first | exact key.out | exact at_sub key
  rw [show ((a : Int)).tmod (maxI (b : Int) 1) = ((a % b : Nat) : Int) by rw [maxI_one hbp, tmod_nat]]
  refine at_then ?_
  refine zR ?_
  refine zL sct_108 ?_
  refine zC ?_
  refine zN ?_
  refine zI ?_ ?_ <;> intro hc17
  ·
   have hab : a % b = 0 := by have h := hc17; simp only [beq_iff_eq] at h; omega
   have hpre2 : (pre ++ [a]) ++ [b] <+: remN a0 b0 := by rw [hrem, remN_end ha0 (by omega) hab, List.append_assoc]; exact List.prefix_rfl
   refine zR ?_
   refine zM ?_
   refine zL sct_108 ?_
   refine XO_yield0 (vs := [_]) (Post := fun t I3 H3 => if t then J ((pre ++ [a]) ++ [b]) I3 H3 else Jx ((pre ++ [a]) ++ [b]) I3 H3) rfl rfl rfl rfl (hY (pre ++ [a]) b _ _ hpre2 (hI0.trans hI2) hJ1) ?_
   rintro t3 I3 H3 hI3 hP3
   refine zN ?_
   refine X_ret ?_
   refine at_block_r ?_
   refine at_then_r ?_
   refine at_block_r ?_
   first
   | (refine at_ret0 rfl (fun w hw => ⟨_, I3, H3, rfl, hI1.trans (hI2.trans hI3), hw.drop, ?_⟩); cases t3 with | true => exact .inl (by rw [hrem, remN_end ha0 (by omega) hab]; simpa using hP3) | false => exact .inr ⟨_, hpre2, hP3⟩)
  have hab : a % b ≠ 0 := by have h := hc17; simp only [beq_eq_false_iff_ne, ne_eq] at h; omega
  refine X_skip ?_
  refine at_block_n ?_
  exact at_metH2 rfl rfl rfl _ (remL 108 b1 b2 (b) (((a % b : Nat) : Int))) ⟨a % b, Nat.mod_lt _ hbp, b, a % b, pre ++ [a], rfl, rfl, rfl, hI1.trans hI2, hJ1, by rw [hrem, remN_step ha0 (by omega) hab, List.append_assoc]; rfl, by omega, by omega, by have := Nat.mod_lt a hbp; omega⟩ (.cons rfl (.cons rfl (.cons rfl .nil))) .refl
 refine X_exit ?_
 refine at_then_e ?_
 refine at_then_e ?_
 refine at_block_hit ?_
 first
 | (refine at_norm (at_ret0 rfl (fun w hw => ⟨_, I2, H2, rfl, hI1.trans hI2, hw.drop, ?_⟩)); by_cases ha0 : a = 0; (obtain ⟨e1, e2⟩ := hno (by simp [conj, ha0]); subst e1; subst e2; subst ha0; exact .inl (by rw [hrem, remN_zero, List.append_nil]; exact hJk)); (have ht : t = false := (by simp [ha0] at hc10; exact hc10); subst ht; exact .inr ⟨_, rem_pre hrem ha0, hyes (by simp [conj]; exact ha0)⟩))
end Go.Proofs.YtoicbikdenlioaaGreat
end
section
namespace Go.Proofs.YtoicbikdenlioaaGreat
open Go Go.Kn Go.Proofs
theorem w_div (I : HMap) (a b : Nat) (hb : 0 < b) (ha : a ≤ 9223372036854775807) (hb2 : b ≤ 9223372036854775807) : RetV Tryz.prog 94 [.int .u64 a, .int .u64 b] I (.int .u64 (Nat.gcd a b : Nat)) := by
 intro g H w hw
 refine enterMs Tryz.func94 rfl Tryz.ntmps94 rfl hw ?_
 have hIc := HLe.refl I
 refine zR ?_
 refine XO_alloc zt_108 rfl rfl (fun b_4 => ?_)
 refine zN ?_
 refine X_seq ?_
 refine zR ?_
 refine zM ?_
 refine zC ?_
 refine zN ?_
 refine zI ?_ ?_ <;> intro hc7
 ·
  simp at hc7; omega
 refine X_skip ?_
 refine at_then ?_
 refine zR ?_
 refine zM ?_
 refine zS szt_108 ?_
 refine zN ?_
 refine X_seq ?_
 refine zR ?_
 refine zM ?_
 refine zM ?_
 refine XO_callM (cap := []) (vs := [_, _]) rfl rfl fun_118 .nil (w_rem I _ _) rfl rfl ?_
 rintro vv1 I1 L1 hI1 ⟨rfl, b1, b2, rfl, rfl⟩
 have hIc := hIc.trans hI1
 refine zN ?_
 refine X_block ?_
 refine X_rangeFuncM (ms := []) (K := remL 108 b1 b2 (a) (b)) (L := [(b_4, .cells #[.int .u64 b] 108 (0, 0))]) (enc := fun n : Nat => .int .u64 n) (xs := remN a b) (fun pre I' loc' => loc' = [(b_4, .cells #[.int .u64 ((pre.getLastD b : Nat) : Int)] 108 (0, 0))]) (fun _ _ _ _ => False) (fun pre x E2 I2 loc2 => E2 = [(4, capP b_4), (5, .int .u64 x)] ∧ loc2 = [(b_4, .cells #[.int .u64 ((pre.getLastD b : Nat) : Int)] 108 (0, 0))]) rfl fun_139 (w_euclid _ a b b1 b2 hb ha hb2) rfl rfl ?_ ?_ ?_ ?_
 ·
  rintro l pre x I1 loc1 H1 hpre hI1 rfl
  refine X_region ?_
  refine zA ?_
  refine XO_nil ?_
  exact at_met' _ ⟨HLe.refl _, rfl, rfl⟩ (.cons rfl (.cons rfl .nil))
 ·
  rintro l pre x E2 I2 loc2 H2 hpre hI2 ⟨rfl, rfl⟩
  refine X_block ?_
  refine X_region ?_
  refine zM ?_
  refine zS szt_108 ?_
  refine XO_nil ?_
  refine at_block_n ?_
  exact at_round2 ⟨HLe.refl _, by rw [last_snoc]; rfl⟩ .refl
 ·
  rintro bd I1 loc1 hI1 rfl
  have hIc := hIc.trans hI1
  refine at_block_n ?_
  refine at_then ?_
  refine zR ?_
  refine zL sct_108 ?_
  refine zS szt_108 ?_
  refine zN ?_
  refine X_ret ?_
  exact at_retMs (L := [(b_4, _)]) (fun a ha w hw => res1c rfl rfl sct_108 (Cell.h0 rfl) a ha w hw) (fun w hw => ⟨by rw [remN_gcd b (Nat.le_refl _) (by omega) (fun _ => rfl)], (hw.mono hIc).drop⟩)
 rintro c bd pre I1 loc1 hI1 hpre hF; exact hF.elim
theorem w_divI (I : HMap) (n d : Int) (hn : -1073741824 ≤ n ∧ n ≤ 1073741824) (hd : 1 ≤ d ∧ d ≤ 1073741824) : RetV Tryz.prog 94 [.int .u64 (magI n), .int .u64 (IntKind.u64.wrap d)] I (.int .u64 (gcdI n d)) := by
 have h0 : 0 ≤ magI n ∧ magI n ≤ 1073741824 := by unfold magI; split <;> omega
 have h := w_div I (magI n).toNat d.toNat (by omega) (by omega) (by omega)
 rw [u64_id (by omega)]
 rw [Int.toNat_of_nonneg h0.1, Int.toNat_of_nonneg (by omega), mag_gcd, Int.toNat_of_nonneg (by omega)] at h
 exact h
theorem w_ratchk (I : HMap) (n d : Int) : RetV Tryz.prog 67 [encRA (n) (d)] I (.int .i64 (ratE n d)) := by
 intro g H w hw
 refine enter Tryz.func67 rfl Tryz.ntmps67 rfl hw ?_
 refine zR ?_
 refine XO_box rfl rfl rfl (fun b_1 => ?_)
 refine zA ?_
 refine zN ?_
 refine X_seq ?_
 refine X_seq ?_
 refine X_draw mixed (by kernel_rfl) ?_
 refine XQ_v0 (ev_fieldAddr rfl fld_24_1) rfl rfl rfl ?_
 refine XQ_v0 (ev_load rfl sct_3 (fun hg => by repeat (first | exact Cell.here rfl | apply Cell.there | apply Cell.app))) rfl rfl rfl ?_
 refine XQ_v0 (ev_cmp rfl rfl rfl) rfl rfl rfl ?_
 refine XQ_v0 (ev_move rfl) rfl rfl rfl ?_
 refine XQ_pushF 3 rfl rfl rfl ?_
 refine XQ_v1 (ev_fieldAddr rfl fld_24_1) (.some rfl rfl rfl rfl gbf) rfl rfl rfl ?_
 refine XQ_v1 (ev_load rfl sct_3 (fun hg => by repeat (first | exact Cell.here rfl | apply Cell.there | apply Cell.app))) (.some rfl rfl rfl rfl gbf) rfl rfl rfl ?_
 refine XQ_v1 (ev_cmp rfl rfl rfl) (.some rfl rfl rfl rfl gbf) rfl rfl rfl ?_
 refine XQ_or0 rfl rfl rfl rfl rfl ?_
 refine XQ_v0 (ev_move rfl) rfl rfl rfl ?_
 refine XQ_pushF 8 rfl rfl rfl ?_
 refine XQ_v1 (ev_fieldAddr rfl fld_24_0) (.some rfl rfl rfl rfl gbf) rfl rfl rfl ?_
 refine XQ_v1 (ev_load rfl sct_3 (fun hg => by repeat (first | exact Cell.here rfl | apply Cell.there | apply Cell.app))) (.some rfl rfl rfl rfl gbf) rfl rfl rfl ?_
 refine XQ_v1 (ev_cmp rfl rfl rfl) (.some rfl rfl rfl rfl gbf) rfl rfl rfl ?_
 refine XQ_or0 rfl rfl rfl rfl rfl ?_
 refine XQ_v0 (ev_move rfl) rfl rfl rfl ?_
 refine XQ_pushF 13 rfl rfl rfl ?_
 refine XQ_v1 (ev_fieldAddr rfl fld_24_0) (.some rfl rfl rfl rfl gbf) rfl rfl rfl ?_
 refine XQ_v1 (ev_load rfl sct_3 (fun hg => by repeat (first | exact Cell.here rfl | apply Cell.there | apply Cell.app))) (.some rfl rfl rfl rfl gbf) rfl rfl rfl ?_
 refine XQ_v1 (ev_cmp rfl rfl rfl) (.some rfl rfl rfl rfl gbf) rfl rfl rfl ?_
 refine XQ_or0 rfl rfl rfl rfl rfl ?_
 refine XQ_v0 (ev_move rfl) rfl rfl rfl ?_
 refine XQ_pushF 18 rfl rfl rfl ?_
 refine XQ_v1 (ev_fieldAddr rfl fld_24_0) (.some rfl rfl rfl rfl gbf) rfl rfl rfl ?_
 refine XQ_v1 (ev_load rfl sct_3 (fun hg => by repeat (first | exact Cell.here rfl | apply Cell.there | apply Cell.app))) (.some rfl rfl rfl rfl gbf) rfl rfl rfl ?_
 refine XQ_callV1 (cap := []) (vs := [_]) rfl rfl fun_95 (fun hg => w_mag I n (by simp [conj] at hg; omega)) (.some rfl rfl rfl rfl gbf) rfl rfl ?_
 refine XQ_v1 (ev_fieldAddr rfl fld_24_1) (.some rfl rfl rfl rfl gbf) rfl rfl rfl ?_
 refine XQ_v1 (ev_load rfl sct_3 (fun hg => by repeat (first | exact Cell.here rfl | apply Cell.there | apply Cell.app))) (.some rfl rfl rfl rfl gbf) rfl rfl rfl ?_
 refine XQ_v1 (ev_convI rfl cvt_3_108) (.some rfl rfl rfl rfl gbf) rfl rfl rfl ?_
 refine XQ_callV1 (cap := []) (vs := [_, _]) rfl rfl fun_94 (fun hg => w_divI I n d (by simp [conj] at hg; omega) (by simp [conj] at hg; omega)) (.some rfl rfl rfl rfl gbf) rfl rfl ?_
 refine XQ_v1 (ev_cmp rfl rfl rfl) (.some rfl rfl rfl rfl gbf) rfl rfl rfl ?_
 refine XQ_or0 rfl rfl rfl rfl rfl ?_
 refine XQ_nil ?_
 refine at_then ?_
 refine zI ?_ ?_ <;> intro hc30
 ·
  refine zR ?_
  refine zA ?_
  refine zN ?_
  refine X_ret ?_
  refine at_then_r ?_
  first
  | exact at_ret1 rfl rfl (fun w hw => ⟨by unfold ratE; rw [rat_bad hc30]; rfl, hw.drop⟩)
 refine X_skip ?_
 refine at_then ?_
 refine zR ?_
 refine zA ?_
 refine zN ?_
 refine X_ret ?_
 first
 | exact at_ret1 rfl rfl (fun w hw => ⟨by unfold ratE; rw [rat_good hc30]; rfl, hw.drop⟩)
end Go.Proofs.YtoicbikdenlioaaGreat
end
