/- rehearseTogether_holds, part B of the proof: what its theorems say holds without further conditions. -/
import Derived.Laws.MakeOwn
import Derived.Sort.Row
import Derived.Sort.Grow
import Derived.Test.YtehkiccapbkhnaaGreatProg
import Derived.KernelRfl
import Derived.Lib.Hide
import Derived.Test.YtehkiccapbkhnaaGreatRTA
section
namespace Go.Kn
open Go
theorem eqFields_step {P : Program} {w : World} {dd : Nat} {f : Field} {fs : List Field} {cx cy : Array Value} {u v : Value} {c r : Bool} (hn : f.name ≠ "_") (h1 : (part f.type cx f.offset).run P w = .ok u w) (h2 : (part f.type cy f.offset).run P w = .ok v w)
    (hc : (Op.equalIn dd f.type u v).run P w = .ok c w) (hr : (Op.eqFields dd cx cy fs).run P w = .ok r w) : (Op.eqFields dd cx cy (f :: fs)).run P w = .ok (c && r) w := by
  simp only [Op.eqFields, if_pos hn, Sem.run_bind, h1, h2, hc, Result.andThen, Sem.run_ite]
  cases c with
  | false => simp
  | true => simpa using hr
def flat2 (P : Program) : List Field → Nat → Option (List EqK)
  | [], _ => some []
  | f :: fs, k => if f.name ≠ "_" ∧ f.offset = k then
      match kindOf P f.type with
      | some q => (flat2 P fs (k + 1)).map (q :: ·)
      | none => match P.underlying f.type with
        | some (.struct gs) => if P.stoodInHeld f.type = false then
            match flatKs P gs.toList 0, P.info? f.type with
            | some l, some i => if i.size = l.length then (flat2 P fs (k + l.length)).map (l ++ ·) else none
            | _, _ => none
          else none
        | _ => none
    else none
def EqT2 (P : Program) (t : Nat) (ks : List EqK) : Prop := P.underlying t = some (.struct (P.fieldsOf t)) ∧ P.stoodInHeld t = false ∧ P.eqGuardType P.depth t = false ∧ flat2 P (P.fieldsOf t).toList 0 = some ks
theorem eqKs_app : ∀ {k1 k2 : List EqK} {xs ys : List Value} {b : Bool}, eqKs (k1 ++ k2) xs ys = some b → ∃ u1 u2 v1 v2 b1 b2, xs = u1 ++ u2 ∧ ys = v1 ++ v2 ∧ u1.length = k1.length ∧ v1.length = k1.length ∧ eqKs k1 u1 v1 = some b1 ∧ eqKs k2 u2 v2 = some b2 ∧ b = (b1 && b2)
  | [], k2, xs, ys, b, h => ⟨[], xs, [], ys, true, b, rfl, rfl, rfl, rfl, rfl, h, by simp⟩
  | .int :: k1, k2, xs, ys, b, h => by
    match xs, ys, h with
    | .int k a :: xs, .int k' c :: ys, h =>
      simp only [List.cons_append, eqKs] at h
      split at h
      · rename_i hk
        cases hr : eqKs (k1 ++ k2) xs ys with
        | none => rw [hr] at h; cases h
        | some r =>
          rw [hr] at h
          obtain ⟨u1, u2, v1, v2, b1, b2, rfl, rfl, h1, h2, h3, h4, rfl⟩ := eqKs_app hr
          refine ⟨.int k a :: u1, u2, .int k' c :: v1, v2, (a == c && b1), b2, rfl, rfl, by simp [h1], by simp [h2], ?_, h4, ?_⟩
          · simp only [eqKs, if_pos hk, h3]
          · simp only [Option.some.injEq] at h; rw [← h, Bool.and_assoc]
      · cases h
  | .str :: k1, k2, xs, ys, b, h => by
    match xs, ys, h with
    | .string a :: xs, .string c :: ys, h =>
      simp only [List.cons_append, eqKs] at h
      cases hr : eqKs (k1 ++ k2) xs ys with
      | none => rw [hr] at h; cases h
      | some r =>
        rw [hr] at h
        obtain ⟨u1, u2, v1, v2, b1, b2, rfl, rfl, h1, h2, h3, h4, rfl⟩ := eqKs_app hr
        refine ⟨.string a :: u1, u2, .string c :: v1, v2, (strEq a c && b1), b2, rfl, rfl, by simp [h1], by simp [h2], ?_, h4, ?_⟩
        · simp only [eqKs, h3]
        · simp only [Option.some.injEq] at h; rw [← h, Bool.and_assoc]
  | .bool :: k1, k2, xs, ys, b, h => by
    match xs, ys, h with
    | .bool a :: xs, .bool c :: ys, h =>
      simp only [List.cons_append, eqKs] at h
      cases hr : eqKs (k1 ++ k2) xs ys with
      | none => rw [hr] at h; cases h
      | some r =>
        rw [hr] at h
        obtain ⟨u1, u2, v1, v2, b1, b2, rfl, rfl, h1, h2, h3, h4, rfl⟩ := eqKs_app hr
        refine ⟨.bool a :: u1, u2, .bool c :: v1, v2, (a == c && b1), b2, rfl, rfl, by simp [h1], by simp [h2], ?_, h4, ?_⟩
        · simp only [eqKs, h3]
        · simp only [Option.some.injEq] at h; rw [← h, Bool.and_assoc]
theorem run_part_sc {P : Program} {w : World} {t : TypeId} {cs : Array Value} {off : Nat} {v : Value} (h : ScT P t) (hv : cs[off]? = some v) : (part t cs off).run P w = .ok v w := by
  simp only [part, Sem.run_bind, run_isAgg_sc h, Result.andThen, Bool.false_eq_true, if_false, hv, Sem.run_pure]
theorem run_part_ag {P : Program} {w : World} {t : TypeId} {cs : Array Value} {off n : Nat} (h : AgT P t n) : (part t cs off).run P w = .ok (.agg (cs.extract off (off + n))) w := by
  obtain ⟨i, hi, hs⟩ := h.2
  simp only [part, Sem.run_bind, run_isAgg_ag h, Result.andThen, if_true, run_sizeOf hi, hs, Sem.run_pure]
theorem extract_mid (a b c : List Value) (n m : Nat) (hn : a.length = n) (hm : b.length = m) : (a ++ (b ++ c)).toArray.extract n (n + m) = b.toArray := by
  subst hn; subst hm
  apply Array.ext'
  simp
theorem one_field {P : Program} {w : World} {dd : Nat} {t : TypeId} {q : EqK} (hk : kindOf P t = some q) {ks : List EqK} {xs ys : List Value} {b : Bool} (he : eqKs (q :: ks) xs ys = some b) :
    ∃ u v us vs c r, xs = u :: us ∧ ys = v :: vs ∧ ScT P t ∧ (Op.equalIn (dd + 1) t u v).run P w = .ok c w ∧ eqKs ks us vs = some r ∧ b = (c && r) := by
  unfold kindOf at hk
  cases hu : P.underlying t with
  | none => rw [hu] at hk; cases hk
  | some td =>
    rw [hu] at hk
    cases td <;> simp only [Option.some.injEq, reduceCtorEq] at hk
    case int kk =>
      subst hk
      match xs, ys, he with
      | .int k a :: xs, .int k' c :: ys, he =>
        simp only [eqKs] at he
        split at he
        · rename_i hkk
          subst hkk
          cases hr : eqKs ks xs ys with
          | none => rw [hr] at he; cases he
          | some r =>
            rw [hr] at he
            simp only [Option.some.injEq] at he
            exact ⟨_, _, xs, ys, (a == c), r, rfl, rfl, ⟨_, hu, trivial⟩, run_equalIn_int w dd t k kk a c hu, hr, he.symm⟩
        · cases he
    case string =>
      subst hk
      match xs, ys, he with
      | .string a :: xs, .string c :: ys, he =>
        simp only [eqKs] at he
        cases hr : eqKs ks xs ys with
        | none => rw [hr] at he; cases he
        | some r =>
          rw [hr] at he
          simp only [Option.some.injEq] at he
          exact ⟨_, _, xs, ys, _, r, rfl, rfl, ⟨_, hu, trivial⟩, run_equalIn_string w dd t a c hu, hr, he.symm⟩
    case bool =>
      subst hk
      match xs, ys, he with
      | .bool a :: xs, .bool c :: ys, he =>
        simp only [eqKs] at he
        cases hr : eqKs ks xs ys with
        | none => rw [hr] at he; cases he
        | some r =>
          rw [hr] at he
          simp only [Option.some.injEq] at he
          exact ⟨_, _, xs, ys, (a == c), r, rfl, rfl, ⟨_, hu, trivial⟩, run_equalIn_bool' w dd t a c hu, hr, he.symm⟩
theorem run_eqFields2 {P : Program} {w : World} (dd : Nat) : ∀ (fs : List Field) (ks : List EqK) (k : Nat) (pre xs pre' ys : List Value) (b : Bool), flat2 P fs k = some ks → pre.length = k → pre'.length = k → eqKs ks xs ys = some b →
    (Op.eqFields (dd + 2) (pre ++ xs).toArray (pre' ++ ys).toArray fs).run P w = .ok b w
  | [], ks, k, pre, xs, pre', ys, b, hf, _, _, he => by
    simp only [flat2, Option.some.injEq] at hf
    subst hf
    cases xs <;> cases ys <;> simp only [eqKs] at he <;> first | (cases he; rfl) | cases he
  | f :: fs, ks, k, pre, xs, pre', ys, b, hf, hp, hp', he => by
    simp only [flat2] at hf
    split at hf
    · rename_i hn
      cases hk : kindOf P f.type with
      | some q =>
        rw [hk] at hf
        simp only [Option.map_eq_some_iff] at hf
        obtain ⟨l, hl, rfl⟩ := hf
        obtain ⟨u, v, us, vs, c, r, rfl, rfl, hs, hc, hr, rfl⟩ := one_field (w := w) (dd := dd + 1) hk he
        refine eqFields_step hn.1 (run_part_sc hs (by rw [hn.2, ← hp]; simp)) (run_part_sc hs (by rw [hn.2, ← hp']; simp)) hc ?_
        have := run_eqFields2 (P := P) (w := w) dd fs l (k + 1) (pre ++ [u]) us (pre' ++ [v]) vs r hl (by simp [hp]) (by simp [hp']) hr
        simpa using this
      | none =>
        rw [hk] at hf
        simp only at hf
        cases hu : P.underlying f.type with
        | none => rw [hu] at hf; cases hf
        | some td =>
          rw [hu] at hf
          cases td <;> simp only [reduceCtorEq] at hf
          rename_i gs
          split at hf
          · rename_i hst
            cases hfl : flatKs P gs.toList 0 with
            | none => rw [hfl] at hf; simp at hf
            | some l2 =>
              cases hin : P.info? f.type with
              | none => rw [hfl, hin] at hf; simp at hf
              | some i =>
                rw [hfl, hin] at hf
                simp only at hf
                split at hf
                · rename_i hsz
                  simp only [Option.map_eq_some_iff] at hf
                  obtain ⟨l, hl, rfl⟩ := hf
                  obtain ⟨u1, u2, v1, v2, b1, b2, rfl, rfl, hu1, hv1, h1, h2, rfl⟩ := eqKs_app he
                  have hag : AgT P f.type l2.length := ⟨⟨_, hu, trivial⟩, i, hin, hsz⟩
                  have hfo : P.fieldsOf f.type = gs := by unfold Program.fieldsOf; rw [hu]
                  refine eqFields_step (u := .agg u1.toArray) (v := .agg v1.toArray) hn.1 ?_ ?_ ?_ ?_
                  · rw [run_part_ag hag, hn.2, extract_mid pre u1 u2 k l2.length hp hu1]
                  · rw [run_part_ag hag, hn.2, extract_mid pre' v1 v2 k l2.length hp' hv1]
                  · rw [run_equalIn_struct w (dd + 1) f.type _ _ (by rw [hfo]; exact hu) hst, hfo]
                    have := run_eqFields (P := P) (w := w) dd gs.toList l2 0 [] u1 [] v1 b1 hfl rfl rfl h1
                    simpa using this
                  · have := run_eqFields2 (P := P) (w := w) dd fs l (k + l2.length) (pre ++ u1) u2 (pre' ++ v1) v2 b2 hl (by simp [hp, hu1]) (by simp [hp', hv1]) h2
                    simpa [List.append_assoc] using this
                · cases hf
          · cases hf
    · cases hf
variable {C : Cx} {Q : Exit → Act → World → Prop} {E E' : Env} {I I' : HMap} {loc loc' L R : Loc} {ops : Array Oper} {rest : List Oper} {S : GS}
variable {dst : Option Tmp} {d : Nat} {ty : TypeId} {pos : String} {af : Array Edge} {gd : Option (Nat × Bool)} {x y z : Operand}
theorem ev_eqS2 {t t' : TypeId} {ks : List EqK} {us vs : List Value} {b : Bool} (hx : evalS S E x = some (.agg us.toArray)) (hy : evalS S E y = some (.agg vs.toArray)) (hT : EqT2 C.P t ks) (h : eqKs ks us vs = some b) : EvalOp C S E I loc ⟨dst, .binOp .eql t x y t', ty, pos, af, gd⟩ (.bool b) :=
  .of (by intro c e; cases e) fun a w ha hg hc _ => by
    have := run_eqFields2 (P := C.P) (w := w) 9997 _ _ 0 [] us [] vs b hT.2.2.2 rfl rfl h
    simp only [List.nil_append] at this
    simp only [execOp, evalS_sound ha hg hc hx, evalS_sound ha hg hc hy, Sem.run_bind, run_eqGuard_agg w _ _ _ _ _ _ hT.2.2.1, Result.andThen, run_eql_struct, run_equalIn_struct w 9999 t _ _ hT.1 hT.2.1, this, Sem.run_pure]
end Go.Kn
end
section
namespace Go.Kn
open Go
/-- The marks that ranges over functions have left, the last one first; their blocks. -/
def mk (ms : List Nat) : List Deferred := ms.map fun b => { target := .collected b, args := #[] }
def MB : List Nat → Loc
  | [] => []
  | b :: ms => MB ms ++ [(b, .deferred (some []))]
/-- A state whose marks may be more. -/
def MetM (C : Cx) (M : List Nat → Env → HMap → Loc → Prop) : Act → World → Prop := fun a w => ∃ ms E I loc, M ms E I loc ∧ Fits C.N (mk ms) E a ∧ St C.g I C.H loc w
section
variable {P : Program} {r : Option Nat} {N : Nat} {g : World} {H : HMap} {Q : Exit → Act → World → Prop} {E E' : Env} {I I' : HMap} {loc loc' L R : Loc} {ms : List Nat}
theorem X_cutM {x y : Code} (T : Env) (_hT : Sub T E) (M : Env → Loc → List Nat → Env → HMap → Loc → Prop) (h1 : X ⟨P, r, N, mk ms, g, H⟩ (Exit.then (MetM ⟨P, r, N, [], g, H⟩ (M T loc)) Q) x E I loc)
    (h2 : ∀ ms E I loc', M T loc ms E I loc' → X ⟨P, r, N, mk ms, g, H⟩ Q y E I loc') : X ⟨P, r, N, mk ms, g, H⟩ Q (.seq x y) E I loc := fun a w ha hw =>
  wpIn_seq (wpIn_mono (h1 a w ha hw) fun e a' w' hq => by
    cases e with
    | normal => obtain ⟨ms', E', I', loc', hM, hf, hs⟩ := hq; exact h2 ms' E' I' loc' hM _ _ hf hs
    | _ => exact hq)
theorem at_metM {M : List Nat → Env → HMap → Loc → Prop} {C' : Cx} (hN : C'.N = N) (hg : C'.g = g) (hH : C'.H = H) (E' : Env) (loc' : Loc) (hM : M ms E' I loc') (hE : Sub E' E) (hs : SubL loc' loc) : At ⟨P, r, N, mk ms, g, H⟩ (Exit.then (MetM C' M) Q) .normal E I loc :=
  fun _ _ ha hw => ⟨ms, E', I, loc', hM, by rw [hN]; exact ha.sub hE, by rw [hg, hH]; exact hw.dropTo hs⟩
/-- A loop whose rounds may leave marks. -/
theorem X_loopM {c : Code} (T : Env) (_hT : Sub T E) (J : Env → Loc → Nat → List Nat → Env → HMap → Loc → Prop) (m0 : Nat) (E0 : Env) (I0 : HMap) (loc0 : Loc) (h0 : J T loc m0 ms E0 I0 loc0) (hE : Sub E0 E) (hI : HLe I0 I) (hl : loc0 = loc)
    (round : ∀ m ms E I loc', J T loc m ms E I loc' → X ⟨P, r, N, mk ms, g, H⟩ (Exit.then (MetM ⟨P, r, N, [], g, H⟩ fun ms E I loc' => ∃ m', m' < m ∧ J T loc m' ms E I loc') Q) c E I loc') : X ⟨P, r, N, mk ms, g, H⟩ Q (.loop c) E I loc := by
  classical
  intro a w ha hw
  let R : Nat → Act → World → Prop := fun m a w => ∃ ms E I loc', J T loc m ms E I loc' ∧ Fits N (mk ms) E a ∧ St g I H loc' w
  have least : ∀ a w, (∃ m, R m a w) → ∃ m, R m a w ∧ ∀ m', R m' a w → m ≤ m' := fun a w ⟨m, h⟩ => by
    induction m using Nat.strongRecOn with
    | _ m ih =>
      by_cases h' : ∃ m', m' < m ∧ R m' a w
      · obtain ⟨m', hlt, hm⟩ := h'; exact ih m' hlt hm
      · exact ⟨m, h, fun m' hm => Nat.le_of_not_lt fun hlt => h' ⟨m', hlt, hm⟩⟩
  let μ : Act → World → Nat := fun a w => if h : ∃ m, R m a w then Classical.choose (least a w h) else 0
  have hμ : ∀ a w, (∃ m, R m a w) → R (μ a w) a w := fun a w h => by simp only [μ, dif_pos h]; exact (Classical.choose_spec (least a w h)).1
  have hle : ∀ m a w, R m a w → μ a w ≤ m := fun m a w h => by
    have h' : ∃ m, R m a w := ⟨m, h⟩
    simp only [μ, dif_pos h']; exact (Classical.choose_spec (least a w h')).2 m h
  refine wpIn_loop (fun a w => ∃ m, R m a w) μ ⟨m0, ms, E0, I0, loc0, h0, ha.sub hE, hl ▸ hw.mono hI⟩ fun a w h => ?_
  obtain ⟨ms1, E1, I1, loc1, hJ, hf, hs⟩ := hμ a w h
  refine wpIn_mono (round _ _ _ _ _ hJ a w hf hs) fun e a' w' hq => ?_
  cases e with
  | normal =>
    obtain ⟨ms2, E2, I2, loc2, ⟨m', hlt, hJ'⟩, hf', hs'⟩ := hq
    exact ⟨⟨m', ms2, E2, I2, loc2, hJ', hf', hs'⟩, Nat.lt_of_le_of_lt (hle m' a' w' ⟨ms2, E2, I2, loc2, hJ', hf', hs'⟩) hlt⟩
  | _ => exact hq
/-- 'for x := range f { .. }' where marks lie already. -/
theorem X_rangeFuncM {α : Type} {gop : Operand} {p : Nat} {assign body : Code} {f : FuncId} {cap : List Value} {K : Loc} {enc : α → Value} {xs : List α}
    (Jc : List α → HMap → Loc → Prop) (Jx : Code → List α → HMap → Loc → Prop) (Ja : List α → α → Env → HMap → Loc → Prop)
    (hg : evalS [] E gop = some (.func (.func f) #[] cap.toArray)) (hF : Fun P f) (hseq : SeqL P f cap I K enc xs) (hp : Nat.blt p N = true) (h0 : Jc [] I L)
    (hass : ∀ l pre x I' loc' H1, pre ++ [x] <+: xs → HLe I I' → Jc pre I' loc' → X ⟨P, some l, N, [], g, H1⟩ (Exit.then (Met ⟨P, some l, N, [], g, H1⟩ fun E2 I2 loc2 => HLe I' I2 ∧ Ja pre x E2 I2 loc2) (fun _ _ _ => False)) assign ((p, enc x) :: E) I' loc')
    (hbody : ∀ l pre x E2 I2 loc2 H2, pre ++ [x] <+: xs → HLe I I2 → Ja pre x E2 I2 loc2 → X ⟨P, some l, N, [], g, H2⟩ (RoundQ g H2 (fun q I3 loc3 => HLe I2 I3 ∧ Jc q I3 loc3) (fun c q I3 loc3 => HLe I2 I3 ∧ Jx c q I3 loc3) (pre ++ [x])) body E2 I2 loc2)
    (hdone : ∀ bd I' loc', HLe I I' → Jc xs I' loc' → At ⟨P, none, N, mk (bd :: ms), g, H⟩ Q .normal E I' (loc' ++ MB (bd :: ms)))
    (hstop : ∀ c bd pre I' loc', HLe I I' → pre <+: xs → Jx c pre I' loc' → X ⟨P, none, N, mk (bd :: ms), g, H⟩ Q c E I' (loc' ++ MB (bd :: ms))) :
    X ⟨P, none, N, mk ms, g, H⟩ Q (.rangeFunc gop #[p] assign body) E I (K ++ (L ++ MB ms)) := by
  intro a w ha hw
  have back : ∀ {I' : HMap} {loc' : Loc} {bd : Nat} {w' : World}, St g I' (addL H (MB ms)) (loc' ++ [(bd, .deferred (some []))]) w' → St g I' H (loc' ++ MB (bd :: ms)) w' := fun {I' loc' bd w'} h => by
    have h1 := St.unhide ((hw.rest split_app).rest split_app) h
    refine h1.perm (fun p => ?_) ?_
    · simp only [MB, List.mem_append]
      constructor
      · rintro (h | h | h)
        · exact .inl (.inl h)
        · exact .inr h
        · exact .inl (.inr h)
      · rintro ((h | h) | h)
        · exact .inl h
        · exact .inr (.inr h)
        · exact .inr (.inl h)
    · have hn := h1.nodup
      have hpm : (loc' ++ MB (bd :: ms)).Perm (loc' ++ [(bd, .deferred (some []))] ++ MB ms) := by
        rw [List.append_assoc]
        exact (List.Perm.refl loc').append List.perm_append_comm
      exact (hpm.map (·.1)).nodup_iff.2 hn
  refine X_rangeFuncD (K := K) (P := P) (N := N) (D := mk ms) (g := g) (H := addL H (MB ms)) (Q := Q) Jc Jx Ja hg hF hseq hp h0 hass hbody ?_ ?_ a w ha (show St g I (addL H (MB ms)) (K ++ L) w from (show St g I H ((K ++ L) ++ MB ms) w by rw [List.append_assoc]; exact hw).hideR)
  · intro bd I' loc' hI hJ a' w' ha' hw'
    exact hdone bd I' loc' hI hJ a' w' ha' (back hw')
  · intro c bd pre I' loc' hI hpre hJ a' w' ha' hw'
    exact hstop c bd pre I' loc' hI hpre hJ a' w' ha' (back hw')
/-- The end, with as many marks as there are. -/
theorem leaves_marks {fn : Func} {R : Ending → World → Prop} {tmps : Array Value} {v : Value} : ∀ (ms : List Nat) {L : Loc} {w : World}, St g I H (L ++ MB ms) w → (∀ w, St g I H L w → (results fn tmps).run P w = .ok v w ∧ R (.returned v) w) →
    LeavesInM Fence.wide 0 P fn tmps R (mk ms) .returning w
  | [], L, w, hw, h => by
    have hw : St g I H L w := by simpa [MB] using hw
    exact ⟨v, h w hw⟩
  | b :: ms, L, w, hw, h => by
    have hu : Upd (L ++ MB (b :: ms)) b (.deferred (some [])) (.deferred none) (L ++ (MB ms ++ [(b, .deferred none)])) := upd_app (upd_app .here)
    have hb := hw.own _ _ hu.mem
    have hs := hw.putObj hu
    refine ⟨by simp, .inl ⟨b, _, rfl, run_takeDeferred hb, ?_⟩⟩
    exact leaves_marks ms (L := L) (hs.subL (subL_app subL_left)) h
theorem at_retMs {fn : Func} {R : Ending → World → Prop} {v : Value} (hv : ∀ a, Fits N (mk ms) E a → ∀ w, St g I H L w → (results fn a.tmps).run P w = .ok v w) (h : ∀ w, St g I H L w → R (.returned v) w) :
    At ⟨P, r, N, mk ms, g, H⟩ (bodyPostM Fence.wide 0 P fn R) .ret E I (L ++ MB ms) := fun a w ha hw => by
  show LeavesInM _ _ _ _ _ _ _ _ _
  rw [ha.defers]
  exact leaves_marks ms hw fun w' hw' => ⟨hv a ha w' hw', h w' hw'⟩
/-- A function's entry, marks to come. -/
theorem enterMs {f : FuncId} {fn : Func} {c : Code} {args : List Value} {R : Ending → World → Prop} {w : World} (hf : P.funcs[f]? = some fn) (hb : fn.body = some c) {N : Nat} (hN : fn.ntmps = N)
    (hlen : Nat.ble args.length N = true) (hw : St g I H loc w) (h : X ⟨P, none, N, mk [], g, H⟩ (bodyPostM Fence.wide 0 P fn R) c (env0 0 args) I (loc ++ MB [])) : Calls P f args.toArray w R :=
  enterM hf hb hN hlen hw (by simpa [MB, mk] using h)
end
end Go.Kn
end
section
namespace Go.Kn
open Go
section
variable {g : World} {I I' H : HMap} {loc loc' L R : Loc} {w w' : World}
/-- Own blocks are looked at as read only. -/
theorem St.lend (h : St g I H L w) : ∃ I', HLe I I' ∧ (∀ b o, (b, o) ∈ L → I' b = some o) ∧ St g I' H [] w := by
  obtain ⟨I', h1, h2, h3⟩ := h.freezeAll
  exact ⟨I', h1, h3, h2⟩
theorem St.unlend (h : St g I H L w) (h' : St g I' H [] w') (hI : HLe I I') (hL : ∀ b o, (b, o) ∈ L → I' b = some o) : St g I H L w' where
  os := h'.os
  tape := h'.tape
  out := h'.out
  size := h'.size
  imm := fun b o hb => h'.imm b o (hI b o hb)
  frm := h'.frm
  own := fun b o hb => h'.imm b o (hL b o hb)
  sepIH := h.sepIH
  sepIL := h.sepIL
  nodup := h.nodup
theorem RetK.ofV {P : Program} {f : FuncId} {args : List Value} {v : Value} (h : ∀ I', HLe I I' → (∀ b o, (b, o) ∈ L → I' b = some o) → RetV P f args I' v) : RetK P f args I L v := by
  intro g H w hw
  obtain ⟨I', h1, h2, h3⟩ := hw.lend
  refine (h I' h1 h2 g H w h3).mono ?_
  rintro e w' ⟨rfl, hs⟩
  exact ⟨rfl, hw.unlend hs h1 h2⟩
end
variable {C : Cx} {Q : Exit → Act → World → Prop} {E E' : Env} {I I' : HMap} {loc loc' L R : Loc} {ops : Array Oper} {rest : List Oper} {S : GS}
variable {dst : Option Tmp} {d : Nat} {ty : TypeId} {pos : String} {af : Array Edge} {gd : Option (Nat × Bool)} {x y z : Operand}
section maps
variable {α β : Type} [DecidableEq α] {ek : α → Value} {ev : β → Value} {m : List (α × β)} {a : α}
end maps
/-- 'make([]T, n)', T of one cell. -/
theorem made_one {zv : Value} (h1 : zv.cells = #[zv]) (n : Nat) : madeCells zv.cells n = (List.replicate n zv).toArray := by
  rw [h1]
  apply Array.ext'
  have : ∀ x : Nat, [zv][x % 1]?.getD default = zv := fun x => by rw [Nat.mod_one]; rfl
  simp [madeCells, this, List.map_const']
/-- What the tables say of a slice that is made: its elements' type, of one cell, their zero and bytes. -/
def MkT (P : Program) (t e bytes : Nat) (zv : Value) : Prop := P.underlying t = some (.slice e) ∧ (P.info? e).map (fun i => (i.zero, i.size, i.bytes)) = some (some zv, 1, bytes) ∧ zv.cells = #[zv]
theorem XO_makeSlice {t e bytes : Nat} {zv : Value} {n : Int} (hT : MkT C.P t e bytes zv) (hx : evalS [] E x = some (.int .i64 n)) (hy : evalS [] E y = some (.int .i64 n)) (hn : 0 ≤ n ∧ n ≤ 1000000) (hb : bytes ≤ 1000)
    (hG : gd = none) (hN : Nat.blt d C.N = true) (h : ∀ b, XO C Q ops rest [] ((d, .slice (some ⟨b, 0, none⟩) n.toNat n.toNat) :: E) I ((b, .cells (List.replicate n.toNat zv).toArray e (0, 0)) :: loc)) :
    XO C Q ops (⟨some d, .makeSlice t x y, ty, pos, af, gd⟩ :: rest) [] E I loc :=
  XO_world hG (by intro c e; cases e) fun a w ha hw => by
    obtain ⟨hu, hi, h1⟩ := hT
    rw [Option.map_eq_some_iff] at hi
    obtain ⟨i, hi, he⟩ := hi
    simp only [Prod.mk.injEq] at he
    obtain ⟨hz, hs, hbt⟩ := he
    have hr := run_makeSlice (P := C.P) (w := w) t e i zv hu hi hz .i64 .i64 n n hn.1 (by omega) (by rw [hs]; omega) (by rw [hbt]; exact Int.le_trans (Int.mul_le_mul (by omega : (bytes : Int) ≤ 1000) hn.2 hn.1 (by omega)) (by decide)) (by omega)
    rw [hs, Nat.mul_one, made_one h1] at hr
    simp only [execOp, evalS_sound (S := []) ha trivial rfl hx, evalS_sound (S := []) ha trivial rfl hy, Sem.run_bind, hr, Result.andThen, Sem.run_pure, Oper.uponIn_value]
    exact h _ _ _ (ha.put hN _) trivial (hw.alloc _)
/-! ### Arrays -/
def fillS (size : Nat) : List Value → List (Nat × Value) → Option (List Value)
  | cells, [] => some cells
  | cells, (i, v) :: rest => bif Nat.beq (cellsL v).length size && Nat.ble (i * size + (cellsL v).length) cells.length then fillS size (spliceL cells (i * size) (cellsL v)) rest else none
theorem fillS_eq (size : Nat) : ∀ (ps : List (Nat × Value)) (cells out : List Value), fillS size cells ps = some out → Instr.fill (fun i => some (i * size, size)) cells.toArray ps = some out.toArray
  | [], cells, out, h => by
    simp only [fillS, Option.some.injEq] at h
    subst h; rfl
  | (i, v) :: ps, cells, out, h => by
    simp only [fillS] at h
    cases hb : (Nat.beq (cellsL v).length size && Nat.ble (i * size + (cellsL v).length) cells.length) with
    | false => rw [hb] at h; cases h
    | true =>
      rw [hb] at h
      simp only [Bool.and_eq_true] at hb
      have h1 := Nat.eq_of_beq_eq_true hb.1
      have h2 := Nat.le_of_ble_eq_true hb.2
      have e : cells = cells.take (i * size) ++ (cells.drop (i * size)).take size ++ cells.drop (i * size + size) := by
        rw [List.append_assoc]
        have : (cells.drop (i * size)).take size ++ cells.drop (i * size + size) = cells.drop (i * size) := by rw [← List.drop_drop]; exact List.take_append_drop _ _
        rw [this, List.take_append_drop]
      have hl1 : (cells.take (i * size)).length = i * size := by rw [List.length_take]; omega
      have hl2 : ((cells.drop (i * size)).take size).length = size := by rw [List.length_take, List.length_drop]; omega
      have hsp : spliceL cells (i * size) (cellsL v) = cells.take (i * size) ++ cellsL v ++ cells.drop (i * size + size) := by
        have := spliceL_app (cells.take (i * size)) ((cells.drop (i * size)).take size) (cellsL v) (cells.drop (i * size + size)) (by rw [hl2]; exact h1.symm)
        rw [← e, hl1] at this
        exact this
      have hfo := fill_one (place := fun i => some (i * size, size)) (i := i) (off := i * size) (size := size) (v := v) (vs := cellsL v) (pre := cells.take (i * size)) (old := (cells.drop (i * size)).take size) (tail := cells.drop (i * size + size)) (l := ps) rfl (cellsL_eq v) h1 hl1 hl2
      rw [← e] at hfo
      rw [hfo, ← hsp]
      exact fillS_eq size ps _ out h
theorem ev_buildArr {t n e size : Nat} {zl : List Value} {parts : Array (Nat × Operand)} {ps : List (Nat × Value)} (cells : List Value) (hA : ArT C.P t n e size) (hz : ZeroT C.P t (.agg zl.toArray)) (hp : parts.toList.map (fun p => (evalS S E p.2).map fun v => (p.1, v)) = ps.map some) (hf : fillS size zl ps = some cells) :
    EvalOp C S E I loc ⟨dst, .build t parts, ty, pos, af, gd⟩ (.agg cells.toArray) :=
  .of (by intro c e; cases e) fun a w ha hg hc hw => by
    obtain ⟨hu, i, hi, hs⟩ := hA
    have key : ∀ (l : List (Nat × Operand)) (ps : List (Nat × Value)), l.map (fun p => (evalS S E p.2).map fun v => (p.1, v)) = ps.map some → l.map (fun p => (p.1, a.eval p.2)) = ps := by
      intro l
      induction l with
      | nil => intro ps h; cases ps <;> simp_all
      | cons p l ih =>
        intro ps h
        cases ps with
        | nil => simp at h
        | cons q ps =>
          simp only [List.map_cons, List.cons.injEq] at h ⊢
          refine ⟨?_, ih _ h.2⟩
          cases e1 : evalS S E p.2 with
          | none => rw [e1] at h; simp at h
          | some v =>
            rw [e1] at h
            rw [evalS_sound ha hg hc e1]
            simpa using h.1
    have hps : (parts.map fun (i, x) => (i, a.eval x)).toList = ps := by
      rw [← key _ _ hp]; simp
    have hfe := fillS_eq size ps zl cells hf
    have hzc : (Value.agg zl.toArray).cells = zl.toArray := rfl
    simp only [execOp, Instr.build, Sem.run_bind, run_zeroValue hz, Result.andThen, run_underlying hu, run_sizeOf hi, hs, hps, hzc, hfe, Sem.run_pure]
theorem run_equalIn_mapNil {P : Program} {w : World} {t k e d : Nat} {m : Option Nat} (hT : P.underlying t = some (.map k e)) : (Op.equalIn (d + 1) t (.map m) (.map none)).run P w = .ok m.isNone w := by
  simp only [Op.equalIn, Sem.run_bind, run_underlying hT, Result.andThen]
  cases m <;> rfl
/-- 'm == nil' of a map. -/
theorem ev_mapNil {t t' k e : Nat} {m : Option Nat} (hx : evalS S E x = some (.map m)) (hy : evalS S E y = some (.map none)) (hT : C.P.underlying t = some (.map k e)) : EvalOp C S E I loc ⟨dst, .binOp .eql t x y t', ty, pos, af, gd⟩ (.bool m.isNone) :=
  .of (by intro c e; cases e) fun a w ha hg hc _ => by
    have e1 : (eqGuard .eql t x y (.map m) (.map none)).run C.P w = .ok () w := by unfold eqGuard; rfl
    have e2 : (Op.equalIn 10000 t (.map m) (.map none)).run C.P w = .ok m.isNone w := run_equalIn_mapNil (d := 9999) hT
    simp only [execOp, evalS_sound ha hg hc hx, evalS_sound ha hg hc hy, Sem.run_bind, e1, Sem.run_pure, Result.andThen, binOp, Op.equal, Op.maxDepth, e2]
end Go.Kn
end
section
namespace Go.Kn
open Go Go.Sort
section
variable {g : World} {I I' H : HMap} {loc loc' L R : Loc} {w w' : World}
theorem St.grown (h : St g I H loc w) (os : Array Obj) : St g I H loc (grow w os) := by
  have key : ∀ (b : Nat) (o : Obj), w.heap[b]? = some o → (grow w os).heap[b]? = some o := fun b o e => by
    have hb : b < w.heap.size := (Array.getElem?_eq_some_iff.1 e).1
    simp only [grow]
    rw [Array.getElem?_append_left hb]; exact e
  exact ⟨h.os, h.tape, h.out, ⟨Nat.le_trans h.size.1 (by simp [grow]), h.size.2⟩, fun b o e => key b o (h.imm b o e), fun b o e => key b o (h.frm b o e), fun b o e => key b o (h.own b o e), h.sepIH, h.sepIL, h.nodup⟩
theorem St.aheadN (h : St g I H loc w) (n : Nat) : St g I H loc (Go.Sort.ahead w n) := ⟨h.os, h.tape, h.out, ⟨h.size.1, Nat.le_trans h.size.2 (by simp [Go.Sort.ahead])⟩, h.imm, h.frm, h.own, h.sepIH, h.sepIL, h.nodup⟩
theorem St.rowPut {α : Type} [Inhabited α] {enc : α → Value} {b : Nat} {cs : Array Value} {e : TypeId} {fz : Nat × Nat} (h : St g I H loc w) (d : Array α) (hu : Upd loc b (.cells cs e fz) (.cells (putCells enc 0 d cs) e fz) loc') : St g I H loc' (putRow enc w b 0 d) := by
  have hb := h.own _ _ hu.mem
  refine h.turn hu rfl rfl rfl (by simp) ?_ ?_
  · simp only [putRow, mapBlock, Array.getElem?_modify, if_pos rfl, hb, Option.map_some]; rfl
  · intro c hc
    simp only [putRow, mapBlock, Array.getElem?_modify, if_neg (Ne.symm hc)]
theorem take_put {α : Type} [Inhabited α] {enc : α → Value} {cs : Array Value} {n : Nat} (xs : List α) (hl : xs.length = n) (hc : n ≤ cs.size) : (putCells enc 0 xs.toArray cs).toList.take n = xs.map enc := by
  apply List.ext_getElem?
  intro i
  by_cases hi : i < n
  · rw [List.getElem?_take_of_lt hi, List.getElem?_map]
    have h1 : i < cs.size := by omega
    have h2 : i < xs.length := by omega
    have h3 : (putCells enc 0 xs.toArray cs)[i]? = some (enc xs[i]) := by
      simp only [putCells, Array.getElem?_mapIdx, Array.getElem?_eq_getElem h1, Option.map_some]
      have : (0 ≤ i ∧ i < 0 + xs.toArray.size) := by simp; omega
      rw [if_pos this]
      congr 2
      simp [h2]
    rw [Array.getElem?_toList, h3, List.getElem?_eq_getElem h2]; rfl
  · rw [List.getElem?_eq_none (by rw [List.length_take]; omega), List.getElem?_eq_none (by rw [List.length_map]; omega)]
theorem holds_own {α : Type} [Inhabited α] {enc : α → Value} {b : Nat} {cs : Array Value} {e : TypeId} (h : St g I H loc w) (hm : (b, Obj.cells cs e (0, 0)) ∈ loc) (xs : List α) (hl : cs.toList.take xs.length = xs.map enc) : Holds enc w b 0 xs.toArray := by
  have hb := h.own _ _ hm
  intro j hj
  have hj' : j < xs.length := by simpa using hj
  refine ⟨?_, ?_⟩
  · simp only [World.cell?, hb, Option.isSome_none, Bool.false_eq_true, if_false]
    have : (cs.toList.take xs.length)[j]? = some (enc xs[j]) := by rw [hl, List.getElem?_map, List.getElem?_eq_getElem hj']; rfl
    rw [List.getElem?_take_of_lt hj', Array.getElem?_toList] at this
    rw [show 0 + j = j from by omega, this]
    congr 2
    simp [hj']
  · simp only [World.frozen?, hb]; simp
/-- slices.Sort at one's own slice of ints, out of its contract. -/
theorem retSort {P : Program} {f : FuncId} {e : TypeId}
    (hs : ∀ (blk off cap : Nat) (zs : List Int) (w : World), Holds (Value.int .i64) w blk off zs.toArray → blk < w.heap.size → zs.length < 4611686018427387904 → Calls P f #[.slice (some ⟨blk, off, none⟩) zs.length cap] w fun e w' => e = .returned (.tuple #[]) ∧ ∃ n os, w' = grow (putRow (Value.int .i64) (Go.Sort.ahead w n) blk off (zs.mergeSort fun x y => decide (x ≤ y)).toArray) os)
    (h0 : ∀ (p : Option Addr) (cap : Nat) (w : World), Calls P f #[.slice p 0 cap] w fun e w' => e = .returned (.tuple #[]) ∧ w' = w)
    (zs : List Int) {v : Value} {n : Nat} {L : Loc} (hO : OwnS e 1 v n (zs.map (Value.int .i64)) L) (hn : n ≤ 1000000) (I : HMap) :
    RetM P f [v] I L (fun u I' L' => u = .tuple #[] ∧ I' = I ∧ OwnS e 1 v n ((zs.mergeSort fun x y => decide (x ≤ y)).map (Value.int .i64)) L') := by
  intro g H w hw
  have hl : zs.length = n := by have := hO.1; simpa using this
  subst hl
  rcases hO.2 with ⟨rfl, h00, rfl⟩ | ⟨b, c, cur, rfl, rfl, hc, hc2, hsz, htk⟩
  · have : zs = [] := List.length_eq_zero_iff.1 h00
    subst this
    refine (h0 none 0 w).mono ?_
    rintro e w' ⟨rfl, rfl⟩
    refine ⟨_, I, [], rfl, HLe.refl _, hw, rfl, rfl, by simp [List.mergeSort], .inl ⟨rfl, rfl, rfl⟩⟩
  · rw [Nat.mul_one] at hsz htk
    have hb := hw.own b _ (List.mem_singleton.2 rfl)
    refine (hs b 0 c zs w (holds_own hw (List.mem_singleton.2 rfl) zs htk) (Array.getElem?_eq_some_iff.1 hb).1 (by omega)).mono ?_
    rintro e w' ⟨rfl, k, os, rfl⟩
    refine ⟨_, I, _, rfl, HLe.refl _, (((hw.aheadN k).rowPut _ .here).grown os), rfl, rfl, by simp [List.length_mergeSort], .inr ⟨b, c, _, rfl, rfl, hc, hc2, by simp [putCells, hsz], ?_⟩⟩
    rw [Nat.mul_one]
    exact take_put _ (by simp [List.length_mergeSort]) (by omega)
theorem retCompact {P : Program} {f : FuncId} {e : TypeId} (co : List Int → List Int) (hco : ∀ zs, (co zs).length ≤ zs.length) (hcn : co [] = [])
    (hs : ∀ (blk off cap : Nat) (zs : List Int) (w : World), Holds (Value.int .i64) w blk off zs.toArray → zs.length ≤ 9223372036854775807 → zs.length ≤ cap → Calls P f #[.slice (some ⟨blk, off, none⟩) zs.length cap] w fun e w' => e = .returned (.slice (some ⟨blk, off, none⟩) (co zs).length cap) ∧ ∃ q, w' = putRow (Value.int .i64) (Go.Sort.ahead w q) blk off (co zs ++ List.replicate (zs.length - (co zs).length) 0).toArray)
    (h0 : ∀ (p : Option Addr) (cap : Nat) (w : World), Calls P f #[.slice p 0 cap] w fun e w' => e = .returned (.slice p 0 cap) ∧ w' = w)
    (zs : List Int) {v : Value} {n : Nat} {L : Loc} (hO : OwnS e 1 v n (zs.map (Value.int .i64)) L) (hn : n ≤ 1000000) (I : HMap) :
    RetM P f [v] I L (fun u I' L' => I' = I ∧ OwnS e 1 u (co zs).length ((co zs).map (Value.int .i64)) L') := by
  intro g H w hw
  have hl : zs.length = n := by have := hO.1; simpa using this
  subst hl
  have hle := hco zs
  rcases hO.2 with ⟨rfl, h00, rfl⟩ | ⟨b, c, cur, rfl, rfl, hc, hc2, hsz, htk⟩
  · have : zs = [] := List.length_eq_zero_iff.1 h00
    subst this
    refine (h0 none 0 w).mono ?_
    rintro e w' ⟨rfl, rfl⟩
    refine ⟨_, I, [], rfl, HLe.refl _, hw, rfl, by simp [hcn], .inl ⟨rfl, by simp [hcn], rfl⟩⟩
  · rw [Nat.mul_one] at hsz htk
    refine (hs b 0 c zs w (holds_own hw (List.mem_singleton.2 rfl) zs htk) (by omega) hc).mono ?_
    rintro e w' ⟨rfl, k, rfl⟩
    refine ⟨_, I, _, rfl, HLe.refl _, (hw.aheadN k).rowPut _ .here, rfl, by simp, .inr ⟨b, c, _, rfl, rfl, by omega, hc2, by simp [putCells, hsz], ?_⟩⟩
    rw [Nat.mul_one]
    have h1 := take_put (enc := Value.int .i64) (cs := cur) (n := zs.length) (co zs ++ List.replicate (zs.length - (co zs).length) 0) (by simp; omega) (by omega)
    have h2 := congrArg (List.take (co zs).length) h1
    rw [List.take_take, Nat.min_eq_left hle] at h2
    rw [h2]; simp
end
end Go.Kn
end
section
namespace Go.Kn
open Go
section
variable {g : World} {I I' H : HMap} {loc loc' L R : Loc} {w w' : World}
/-- What was made by append, where its block can be read. -/
theorem OwnS.sl {α : Type} {e size : Nat} {enc : α → List Value} {v : Value} {n : Nat} {xs : List α} (hO : OwnS e size v n (xs.flatMap enc) L) (hs : ∀ x, (enc x).length = size) (hsz : 0 < size) (hI : ∀ b o, (b, o) ∈ L → I b = some o) : ∃ av c, v = .slice av n c ∧ Sl I size enc av n c xs := by
  have hn : xs.length = n := by
    have := hO.1
    rw [flat_len hs] at this
    exact Nat.eq_of_mul_eq_mul_right hsz this
  rcases hO.2 with ⟨rfl, rfl, rfl⟩ | ⟨b, c, cur, rfl, rfl, hc, _, hcs, htake⟩
  · have : xs = [] := List.length_eq_zero_iff.1 hn
    subst this
    exact ⟨none, 0, rfl, .nil⟩
  · have h3 := hI b _ (List.mem_cons_self ..)
    refine ⟨_, _, rfl, hn, hc, fun _ => rfl, fun k x hx j u hu => .imm h3 ?_⟩
    rw [lget_eq]
    simp only [Ao, Nat.zero_add]
    have hq := flat_at hs xs k x hx j u hu
    rw [← htake, List.getElem?_take] at hq
    split at hq
    · simpa using hq
    · cases hq
/-- Slices of one's own, one after the other. -/
def OwnAll (e size : Nat) : List (Value × Nat × List Value) → Loc → Prop
  | [], L => L = []
  | t :: ts, L => ∃ L1 L2, L = L1 ++ L2 ∧ OwnS e size t.1 t.2.1 t.2.2 L1 ∧ OwnAll e size ts L2
def nilT : Value × Nat × List Value := (.slice none 0 0, 0, [])
theorem OwnAll.nil {e size : Nat} : OwnAll e size [] [] := rfl
/-- One of them, and what it is to turn it. -/
theorem OwnAll.at {α : Type} [DecidableEq α] {e size : Nat} (a : α) : ∀ {m : List (α × (Value × Nat × List Value))} {L : Loc}, OwnAll e size (m.map (·.2)) L →
    ∃ A Lt B, L = A ++ (Lt ++ B) ∧ OwnS e size ((mget m a).getD nilT).1 ((mget m a).getD nilT).2.1 ((mget m a).getD nilT).2.2 Lt ∧ ∀ t' Lt', OwnS e size t'.1 t'.2.1 t'.2.2 Lt' → OwnAll e size ((mset m a t').map (·.2)) (A ++ (Lt' ++ B))
  | [], L, h => by
    have h : L = [] := h
    subst h
    exact ⟨[], [], [], rfl, .nil, fun t' Lt' h' => ⟨Lt', [], by simp, h', rfl⟩⟩
  | p :: m, L, ⟨L1, L2, e1, h1, h2⟩ => by
    by_cases hp : p.1 = a
    · refine ⟨[], L1, L2, by rw [e1]; rfl, by simp only [mget, if_pos hp]; exact h1, fun t' Lt' h' => ?_⟩
      simp only [mset, if_pos hp, List.map_cons]
      exact ⟨Lt', L2, rfl, h', h2⟩
    · obtain ⟨A, Lt, B, e2, h3, h4⟩ := OwnAll.at a h2
      refine ⟨L1 ++ A, Lt, B, by rw [e1, e2, List.append_assoc], by simp only [mget, if_neg hp]; exact h3, fun t' Lt' h' => ?_⟩
      simp only [mset, if_neg hp, List.map_cons]
      exact ⟨L1, A ++ (Lt' ++ B), by rw [List.append_assoc], h1, h4 t' Lt' h'⟩
end
variable {C : Cx} {Q : Exit → Act → World → Prop} {E : Env} {I : HMap} {loc : Loc}
/-- All own blocks are read from now on. -/
theorem X_freezeAll {c : Code} (h : ∀ I', HLe I I' → (∀ b o, (b, o) ∈ loc → I' b = some o) → X C Q c E I' []) : X C Q c E I loc := fun a w ha hw => by
  obtain ⟨I', h1, h2, h3⟩ := hw.freezeAll
  exact h I' h1 h3 a w ha h2
theorem mget_mset {α β : Type} [DecidableEq α] : ∀ (m : List (α × β)) (a x : α) (b : β), mget (mset m a b) x = if a = x then some b else mget m x
  | [], a, x, b => by simp [mset, mget]
  | p :: m, a, x, b => by
    unfold mset
    by_cases h : p.1 = a
    · rw [if_pos h]
      simp only [mget]
      by_cases h2 : a = x
      · rw [if_pos h2, if_pos h2]
      · rw [if_neg h2, if_neg h2, if_neg (by rw [h]; exact h2)]
    · rw [if_neg h]
      simp only [mget]
      rw [mget_mset m a x b]
      by_cases h2 : p.1 = x
      · rw [if_pos h2, if_pos h2, if_neg (fun e => h (by rw [h2, e]))]
      · rw [if_neg h2, if_neg h2]
theorem mget_mem {α β : Type} [DecidableEq α] : ∀ {m : List (α × β)} {a : α} {b : β}, mget m a = some b → (a, b) ∈ m
  | [], _, _, h => by cases h
  | p :: m, a, b, h => by
    unfold mget at h
    split at h
    · rename_i e
      cases h
      rw [← e]; exact List.mem_cons_self ..
    · exact List.mem_cons_of_mem _ (mget_mem h)
theorem mget_none {α β : Type} [DecidableEq α] : ∀ {m : List (α × β)} {a : α}, mget m a = none ↔ a ∉ m.map (·.1)
  | [], a => by simp [mget]
  | p :: m, a => by
    unfold mget
    by_cases h : p.1 = a
    · simp [h]
    · rw [if_neg h, mget_none, List.map_cons, List.mem_cons, not_or]
      exact ⟨fun h2 => ⟨fun e => h e.symm, h2⟩, fun h2 => h2.2⟩
theorem mset_keys {α β : Type} [DecidableEq α] : ∀ (m : List (α × β)) (a : α) (b : β), (mset m a b).map (·.1) = if a ∈ m.map (·.1) then m.map (·.1) else m.map (·.1) ++ [a]
  | [], a, b => by simp [mset]
  | p :: m, a, b => by
    unfold mset
    by_cases h : p.1 = a
    · simp [h]
    · rw [if_neg h, List.map_cons, mset_keys m a b]
      by_cases h2 : a ∈ m.map (·.1)
      · rw [if_pos h2, if_pos (by simp only [List.map_cons]; exact List.mem_cons_of_mem _ h2)]; rfl
      · rw [if_neg h2, if_neg (by simp only [List.map_cons, List.mem_cons, not_or]; exact ⟨fun e => h e.symm, h2⟩)]; rfl
theorem mset_nodup {α β : Type} [DecidableEq α] {m : List (α × β)} (a : α) (b : β) (h : (m.map (·.1)).Nodup) : ((mset m a b).map (·.1)).Nodup := by
  rw [mset_keys]
  split
  · exact h
  · rename_i h2
    rw [List.nodup_append]
    exact ⟨h, by simp, fun x hx y hy e => by simp at hy; subst hy; subst e; exact h2 hx⟩
theorem mget_at {α β : Type} [DecidableEq α] {m : List (α × β)} (h : (m.map (·.1)).Nodup) {p : α × β} (hp : p ∈ m) : mget m p.1 = some p.2 := by
  induction m with
  | nil => cases hp
  | cons q m ih =>
    rw [List.map_cons, List.nodup_cons] at h
    unfold mget
    rcases List.mem_cons.1 hp with rfl | hp
    · rw [if_pos rfl]
    · rw [if_neg (fun e => h.1 (by rw [e]; exact List.mem_map.2 ⟨p, hp, rfl⟩)), ih h.2 hp]
/-- A set of keys. -/
def setM {α : Type} [DecidableEq α] (s : List (α × Bool)) (a : α) : Bool := (mget s a).getD false
theorem setM_put {α : Type} [DecidableEq α] (s : List (α × Bool)) (a x : α) : setM (mset s a true) x = (decide (a = x) || setM s x) := by
  unfold setM
  rw [mget_mset]
  by_cases h : a = x
  · simp [h]
  · simp [h]
end Go.Kn
end
section
namespace Go.Kn
open Go
section
variable {I : HMap} {b off : Nat} {vs : List Value} {A : Array Value} {t : TypeId} {fz : Nat × Nat} {l : Loc}
variable {p0 p1 p2 p3 p4 p5 p6 p7 p8 p9 : Nat × Obj}
theorem Cells.s0 (h : (A.toList.drop off).take vs.length = vs) : Cells I ((b, .cells A t fz) :: l) b off vs := fun j v hv => by
  refine Cell.here ?_
  rw [lget_eq]
  rw [← h] at hv
  rw [List.getElem?_take] at hv
  split at hv
  · rw [List.getElem?_drop] at hv; exact hv
  · cases hv
theorem Cells.s1 (h : (A.toList.drop off).take vs.length = vs) : Cells I (p0 :: (b, .cells A t fz) :: l) b off vs := (Cells.s0 h).there
end
/-- A store of several cells into a block. -/
theorem run_storeCells_seg {P : Program} {g : World} {I H : HMap} {post : List Value} {off : Nat} : ∀ (vs : List Value) (pre : List Value) (w : World) (loc loc' : Loc) (b : Nat) (t : TypeId) (old : List Value) (k : Nat), pre.length = off + k → old.length = vs.length → (∀ v ∈ vs, v.oneCell' = true) → St g I H loc w →
    Upd loc b (.cells (pre ++ (old ++ post)).toArray t (0, 0)) (.cells (pre ++ (vs ++ post)).toArray t (0, 0)) loc' → ∃ w', (storeCells ⟨b, off, none⟩ vs k).run P w = .ok () w' ∧ St g I H loc' w'
  | [], pre, w, loc, loc', b, t, old, k, _, hl, _, hw, hu => by
    have : old = [] := List.length_eq_zero_iff.1 hl
    subst this
    refine ⟨w, rfl, ?_⟩
    have hb := hw.own _ _ hu.mem
    exact hw.turn hu rfl rfl rfl rfl hb (fun _ _ => rfl)
  | v :: vs, pre, w, loc, loc', b, t, old, k, hp, hl, h1, hw, hu => by
    cases old with
    | nil => simp at hl
    | cons u old =>
      have hb := hw.own _ _ hu.mem
      have hc : w.cell? ⟨b, off + k, none⟩ = some u := by simp [World.cell?, hb, ← hp]
      have hfz := frozen_free (off := off + k) hw hu.mem
      obtain ⟨l1, u1, u2⟩ := hu.middle (.cells ((pre ++ [v]) ++ (old ++ post)).toArray t (0, 0))
      have hset : ((pre ++ (u :: old ++ post)).toArray.setIfInBounds (off + k) v) = ((pre ++ [v]) ++ (old ++ post)).toArray := by rw [← hp]; simp
      rw [← hset] at u1
      have hw1 := hw.setCell u1
      rw [hset] at u1
      obtain ⟨w', hr, hs⟩ := run_storeCells_seg (P := P) (post := post) (off := off) vs (pre ++ [v]) _ l1 loc' b t old (k + 1) (by simp; omega) (by simpa using hl) (fun x hx => h1 x (List.mem_cons_of_mem _ hx)) hw1 (by simpa using u2)
      refine ⟨w', ?_, hs⟩
      simp only [storeCells, Sem.run_bind, add_plain, run_store _ _ _ _ _ (h1 v (List.mem_cons_self ..)), hc, hfz, Bool.false_eq_true, if_false, Result.andThen, hr]
variable {C : Cx} {Q : Exit → Act → World → Prop} {E E' : Env} {I I' : HMap} {loc loc' L R : Loc} {ops : Array Oper} {rest : List Oper} {S : GS}
variable {dst : Option Tmp} {d : Nat} {ty : TypeId} {pos : String} {af : Array Edge} {gd : Option (Nat × Bool)} {x y z : Operand}
theorem splice_eq {A : List Value} {off n : Nat} {vs : List Value} (h : off + n ≤ A.length) (hn : vs.length = n) : spliceL A off vs = A.take off ++ (vs ++ A.drop (off + n)) := by
  have e : A = A.take off ++ (A.drop off).take n ++ A.drop (off + n) := by
    rw [List.append_assoc]
    have : (A.drop off).take n ++ A.drop (off + n) = A.drop off := by rw [← List.drop_drop]; exact List.take_append_drop _ _
    rw [this, List.take_append_drop]
  have hl1 : (A.take off).length = off := by rw [List.length_take]; omega
  have := spliceL_app (A.take off) ((A.drop off).take n) vs (A.drop (off + n)) (by rw [List.length_take, List.length_drop]; omega)
  rw [← e, hl1, List.append_assoc] at this
  exact this
theorem XO_storeP {t t' b off n : Nat} {vs : List Value} {A : List Value} (hx : evalS [] E x = some (.pointer (some ⟨b, off, none⟩))) (hy : evalS [] E y = some (.agg vs.toArray)) (hT : SzT C.P t n) (hn : vs.length = n) (ho : Nat.ble (off + n) A.length = true) (h1 : allOne vs = true) (hG : gd = none)
    (hu : Upd loc b (.cells A.toArray t' (0, 0)) (.cells (spliceL A off vs).toArray t' (0, 0)) loc') (h : XO C Q ops rest [] E I loc') :
    XO C Q ops (⟨none, .store t x y, ty, pos, af, gd⟩ :: rest) [] E I loc :=
  XO_world hG (by intro c e; cases e) fun a w ha hw => by
    obtain ⟨i, hi, hs⟩ := hT
    have hle := Nat.le_of_ble_eq_true ho
    have e : A = A.take off ++ ((A.drop off).take n ++ A.drop (off + n)) := by
      have : (A.drop off).take n ++ A.drop (off + n) = A.drop off := by rw [← List.drop_drop]; exact List.take_append_drop _ _
      rw [this, List.take_append_drop]
    rw [splice_eq hle hn] at hu
    have hu2 : Upd loc b (.cells (A.take off ++ ((A.drop off).take n ++ A.drop (off + n))).toArray t' (0, 0)) (.cells (A.take off ++ (vs ++ A.drop (off + n))).toArray t' (0, 0)) loc' := by rw [← e]; exact hu
    obtain ⟨w', hr, hs'⟩ := run_storeCells_seg (P := C.P) (off := off) vs (A.take off) w loc loc' b t' ((A.drop off).take n) 0 (by rw [List.length_take]; omega) (by rw [List.length_take, List.length_drop]; omega) (allOne_iff h1) hw hu2
    simp only [execOp, evalS_sound (S := []) ha trivial rfl hx, evalS_sound (S := []) ha trivial rfl hy, Instr.storeAt, Instr.sureAddr, Sem.run_bind, Sem.run_pure, Result.andThen, storeVar, run_sizeOf hi, hs, Value.cells, List.size_toArray, hn, ne_eq, not_true_eq_false, if_false]
    simp only [hr, Oper.uponIn_skip]
    exact h _ _ ha trivial hs'
theorem ev_nilCheck {a : Addr} (hx : evalS S E x = some (.pointer (some a))) : EvalOp C S E I loc ⟨dst, .nilCheck x, ty, pos, af, gd⟩ (.pointer (some a)) :=
  .of (by intro c e; cases e) fun ac w ha hg hc _ => by
    simp only [execOp, evalS_sound ha hg hc hx]; rfl
theorem ev_negU {t : TypeId} {k : IntKind} {a : Int} (hx : evalS S E x = some (.int k a)) : EvalOp C S E I loc ⟨dst, .unOp .neg t x, ty, pos, af, gd⟩ (.int k (k.wrap (0 - a))) :=
  .of (by intro c e; cases e) fun ac w ha hg hc _ => by
    simp only [execOp, evalS_sound ha hg hc hx]; rfl
section
variable {P : Program} {fn : Func} {N : Nat} {g : World} {I H : HMap} {loc : Loc} {E : Env}
theorem res1c {D : List Deferred} {t tt b : Nat} {v : Value} (hr : fn.results = #[.cell t tt]) (hv : look E t = some (.pointer (some ⟨b, 0, none⟩))) (hT : ScT P tt) (hc : Cell I loc b 0 v) (a : Act) (ha : Fits N D E a) (w : World) (hw : St g I H loc w) : (results fn a.tmps).run P w = .ok v w := by
  have e1 := ha.env _ _ hv
  rw [Array.getD_eq_getD_getElem?] at e1
  have l1 : (loadVar tt ⟨b, 0, none⟩).run P w = .ok v w := by
    simp only [loadVar, Sem.run_bind, run_isAgg_sc hT, Result.andThen, Bool.false_eq_true, if_false, run_load, hc.get hw]
  simp only [results, hr]
  simp [List.mapM_cons, e1, asAddr, l1]
end
end Go.Kn
namespace Go.Kn
open Go
section
variable {C : Cx} {E : Env} {I : HMap} {loc : Loc} {S : GS} {dst : Option Tmp} {ty : TypeId} {pos : String} {af : Array Edge} {gd : Option (Nat × Bool)} {x y : Operand}
variable {α β : Type} [DecidableEq α] {ek : α → Value} {ev : β → Value} {m : List (α × β)} {a : α}
/-- A look-up that finds. -/
theorem ev_lookupG {t k e r : Nat} {zv : Value} {b : β} (hget : mget m a = some b) (hT : MpT C.P t k e zv) (hK : KeyOK C.P k ek) (hx : evalS S E x = some (.map (some r))) (hy : evalS S E y = some (ek a)) (hm : conj S = true → Mem I loc r (mapO ek ev m)) :
    EvalOp C S E I loc ⟨dst, .lookup t x y false, ty, pos, af, gd⟩ (ev b) := by
  have := ev_lookup (C := C) (S := S) (dst := dst) (ty := ty) (pos := pos) (af := af) (gd := gd) hT hK hx hy hm
  rw [hget] at this
  exact this
end
end Go.Kn
end
section
namespace Go.Kn
open Go
section
variable {C : Cx} {E : Env} {I : HMap} {loc : Loc} {S : GS} {dst : Option Tmp} {ty : TypeId} {pos : String} {af : Array Edge} {gd : Option (Nat × Bool)} {x y : Operand}
variable {α : Type} [DecidableEq α] {ek : α → Value} {a : α}
def fstT (t : Value × Nat × List Value) : Value := t.1
theorem ev_lookupT {m : List (α × (Value × Nat × List Value))} {t k e r : Nat} (hT : MpT C.P t k e (.slice none 0 0)) (hK : KeyOK C.P k ek) (hx : evalS S E x = some (.map (some r))) (hy : evalS S E y = some (ek a)) (hm : conj S = true → Mem I loc r (mapO ek fstT m)) :
    EvalOp C S E I loc ⟨dst, .lookup t x y false, ty, pos, af, gd⟩ (((mget m a).getD nilT).1) := by
  have := ev_lookup (C := C) (S := S) (dst := dst) (ty := ty) (pos := pos) (af := af) (gd := gd) hT hK hx hy hm
  cases h : mget m a with
  | none => rw [h] at this; exact this
  | some b => rw [h] at this; exact this
theorem ev_lookupTE {m : List (α × (Value × Nat × List Value))} {v : Value} (hv : ((mget m a).getD nilT).1 = v) {t k e r : Nat} (hT : MpT C.P t k e (.slice none 0 0)) (hK : KeyOK C.P k ek) (hx : evalS S E x = some (.map (some r))) (hy : evalS S E y = some (ek a)) (hm : conj S = true → Mem I loc r (mapO ek fstT m)) :
    EvalOp C S E I loc ⟨dst, .lookup t x y false, ty, pos, af, gd⟩ v := by
  rw [← hv]; exact ev_lookupT hT hK hx hy hm
/-- A look-up of a number, with whether it is there. -/
theorem ev_lookupOkI {m : List (α × Int)} {t k e r : Nat} {ik : IntKind} (hT : MpT C.P t k e (.int ik 0)) (hK : KeyOK C.P k ek) (hx : evalS S E x = some (.map (some r))) (hy : evalS S E y = some (ek a)) (hm : conj S = true → Mem I loc r (mapO ek (Value.int ik) m)) :
    EvalOp C S E I loc ⟨dst, .lookup t x y true, ty, pos, af, gd⟩ (.tuple #[.int ik ((mget m a).getD 0), .bool (mget m a).isSome]) := by
  have := ev_lookupOk (C := C) (S := S) (dst := dst) (ty := ty) (pos := pos) (af := af) (gd := gd) hT hK hx hy hm
  cases h : mget m a with
  | none => rw [h] at this; exact this
  | some b => rw [h] at this; exact this
end
end Go.Kn
namespace Go.Kn
open Go
section
variable {C : Cx} {E : Env} {I : HMap} {loc : Loc} {S : GS} {dst : Option Tmp} {ty : TypeId} {pos : String} {af : Array Edge} {gd : Option (Nat × Bool)} {x y : Operand}
variable {α : Type} [DecidableEq α] {ek : α → Value} {a : α}
def mapV (b : Nat) : Value := .map (some b)
/-- A look-up of a map: the nil map where there is none. -/
theorem ev_lookupM {m : List (α × Nat)} {t k e r : Nat} (hT : MpT C.P t k e (.map none)) (hK : KeyOK C.P k ek) (hx : evalS S E x = some (.map (some r))) (hy : evalS S E y = some (ek a)) (hm : conj S = true → Mem I loc r (mapO ek mapV m)) :
    EvalOp C S E I loc ⟨dst, .lookup t x y false, ty, pos, af, gd⟩ (.map (mget m a)) := by
  have := ev_lookup (C := C) (S := S) (dst := dst) (ty := ty) (pos := pos) (af := af) (gd := gd) hT hK hx hy hm
  cases h : mget m a with
  | none => rw [h] at this; exact this
  | some b => rw [h] at this; exact this
end
end Go.Kn
end
section
namespace Go.Kn
open Go
theorem ck_sc {P : Program} {b : Bool} {n : Nat} {t : TypeId} {q : EqK} {v : Value} {w : World} (hk : kindOf P t = some q) : (Instr.checkKey b (n + 1) t v).run P w = .ok () w := by
  unfold kindOf at hk
  cases hu : P.underlying t with
  | none => rw [hu] at hk; cases hk
  | some td =>
    rw [hu] at hk
    cases td <;> simp only [Option.some.injEq, reduceCtorEq] at hk
    all_goals (simp only [Instr.checkKey, Sem.run_bind, run_underlying hu, Result.andThen]; rfl)
theorem kind_sc {P : Program} {t : TypeId} {q : EqK} (hk : kindOf P t = some q) : ScT P t := by
  unfold kindOf at hk
  cases hu : P.underlying t with
  | none => rw [hu] at hk; cases hk
  | some td =>
    rw [hu] at hk
    cases td <;> simp only [Option.some.injEq, reduceCtorEq] at hk
    all_goals exact ⟨_, hu, trivial⟩
theorem ck_struct {P : Program} {b : Bool} {n : Nat} {t : TypeId} {fs : Array Field} {cs : Array Value} {w : World} (hu : P.underlying t = some (.struct fs))
    (h : ∀ f ∈ fs.toList, f.name ≠ "_" ∧ ∃ a, (part f.type cs f.offset).run P w = .ok a w ∧ (Instr.checkKey b n f.type a).run P w = .ok () w) : (Instr.checkKey b (n + 1) t (.agg cs)).run P w = .ok () w := by
  rw [Instr.checkKey]
  simp only [Sem.run_bind, run_underlying hu, Result.andThen_ok]
  rw [← Array.forIn_toList]
  generalize fs.toList = L at h
  induction L with
  | nil => simp
  | cons f L ih =>
    obtain ⟨hn, a, p1, p2⟩ := h f (by simp)
    simp only [List.forIn_cons, Sem.run_bind, hn, ne_eq, not_false_eq_true, if_true, Result.andThen_ok, p1, p2, Sem.run_pure]
    exact ih (fun y hy => h y (by simp [hy]))
theorem fields_ok1 {P : Program} {b : Bool} {n : Nat} {w : World} : ∀ (fs : List Field) (ks : List EqK) (k : Nat) (pre xs : List Value), flatKs P fs k = some ks → pre.length = k → xs.length = ks.length →
    ∀ f ∈ fs, f.name ≠ "_" ∧ ∃ a, (part f.type (pre ++ xs).toArray f.offset).run P w = .ok a w ∧ (Instr.checkKey b (n + 1) f.type a).run P w = .ok () w
  | [], _, _, _, _, _, _, _, f, hf => by cases hf
  | g :: fs, ks, k, pre, xs, hf, hp, hx, f, hfm => by
    simp only [flatKs] at hf
    split at hf
    · rename_i hn
      cases hk : kindOf P g.type with
      | none => rw [hk] at hf; simp at hf
      | some q =>
        cases hl : flatKs P fs (k + 1) with
        | none => rw [hk, hl] at hf; simp at hf
        | some l =>
          rw [hk, hl] at hf
          simp only [Option.some.injEq] at hf
          subst hf
          cases xs with
          | nil => simp at hx
          | cons u us =>
            rcases List.mem_cons.1 hfm with rfl | hfm
            · exact ⟨hn.1, u, run_part_sc (kind_sc hk) (by rw [hn.2, ← hp]; simp), ck_sc hk⟩
            · have := fields_ok1 (P := P) (b := b) (n := n) (w := w) fs l (k + 1) (pre ++ [u]) us hl (by simp [hp]) (by simpa using hx) f hfm
              simpa using this
    · cases hf
theorem fields_ok2 {P : Program} {b : Bool} {n : Nat} {w : World} : ∀ (fs : List Field) (ks : List EqK) (k : Nat) (pre xs : List Value), flat2 P fs k = some ks → pre.length = k → xs.length = ks.length →
    ∀ f ∈ fs, f.name ≠ "_" ∧ ∃ a, (part f.type (pre ++ xs).toArray f.offset).run P w = .ok a w ∧ (Instr.checkKey b (n + 2) f.type a).run P w = .ok () w
  | [], _, _, _, _, _, _, _, f, hf => by cases hf
  | g :: fs, ks, k, pre, xs, hf, hp, hx, f, hfm => by
    simp only [flat2] at hf
    split at hf
    · rename_i hn
      cases hk : kindOf P g.type with
      | some q =>
        rw [hk] at hf
        simp only [Option.map_eq_some_iff] at hf
        obtain ⟨l, hl, rfl⟩ := hf
        cases xs with
        | nil => simp at hx
        | cons u us =>
          rcases List.mem_cons.1 hfm with rfl | hfm
          · exact ⟨hn.1, u, run_part_sc (kind_sc hk) (by rw [hn.2, ← hp]; simp), ck_sc hk⟩
          · have := fields_ok2 (P := P) (b := b) (n := n) (w := w) fs l (k + 1) (pre ++ [u]) us hl (by simp [hp]) (by simpa using hx) f hfm
            simpa using this
      | none =>
        rw [hk] at hf
        simp only at hf
        cases hu : P.underlying g.type with
        | none => rw [hu] at hf; cases hf
        | some td =>
          rw [hu] at hf
          cases td <;> simp only [reduceCtorEq] at hf
          rename_i gs
          split at hf
          · cases hfl : flatKs P gs.toList 0 with
            | none => rw [hfl] at hf; simp at hf
            | some l2 =>
              cases hin : P.info? g.type with
              | none => rw [hfl, hin] at hf; simp at hf
              | some i =>
                rw [hfl, hin] at hf
                simp only at hf
                split at hf
                · rename_i hsz
                  simp only [Option.map_eq_some_iff] at hf
                  obtain ⟨l, hl, rfl⟩ := hf
                  have hx2 : xs.length = l2.length + l.length := by simpa using hx
                  have hsp : xs = xs.take l2.length ++ xs.drop l2.length := (List.take_append_drop ..).symm
                  have ht : (xs.take l2.length).length = l2.length := by rw [List.length_take]; omega
                  have hag : AgT P g.type l2.length := ⟨⟨_, hu, trivial⟩, i, hin, hsz⟩
                  rcases List.mem_cons.1 hfm with rfl | hfm
                  · refine ⟨hn.1, .agg (xs.take l2.length).toArray, ?_, ?_⟩
                    · rw [run_part_ag hag, hn.2]
                      conv => lhs; rw [hsp]
                      rw [extract_mid pre _ _ k l2.length hp ht]
                    · have := fields_ok1 (P := P) (b := b) (n := n) (w := w) gs.toList l2 0 [] (xs.take l2.length) hfl rfl ht
                      exact ck_struct hu (by simpa using this)
                  · have := fields_ok2 (P := P) (b := b) (n := n) (w := w) fs l (k + l2.length) (pre ++ xs.take l2.length) (xs.drop l2.length) hl (by simp [hp, ht]) (by rw [List.length_drop]; omega) f hfm
                    rw [List.append_assoc, ← hsp] at this
                    exact this
                · cases hf
          · cases hf
    · cases hf
theorem key_flat2 {α : Type} [DecidableEq α] {P : Program} {t : Nat} {ks : List EqK} {enc : α → List Value} (hT : EqT2 P t ks) (hl : ∀ a, (enc a).length = ks.length) (heq : ∀ a b, eqKs ks (enc a) (enc b) = some (decide (a = b)))
    (hb : ∀ a, Instr.sameBits 10000 (.agg (enc a).toArray) (.agg (enc a).toArray) = true) : KeyOK P t (fun a => .agg (enc a).toArray) := by
  refine .of_asking hT.1 (fun b a w => ?_) hb (fun a b => rfl) (fun a b w => ?_)
  · have := fields_ok2 (P := P) (b := b) (n := 9997) (w := w) (P.fieldsOf t).toList ks 0 [] (enc a) hT.2.2.2 rfl (hl a)
    exact ck_struct (n := 9999) hT.1 (by simpa using this)
  · have := run_eqFields2 (P := P) (w := w) 9997 _ _ 0 [] (enc a) [] (enc b) _ hT.2.2.2 rfl rfl (heq a b)
    simp only [List.nil_append] at this
    simp only [Op.equal, Op.maxDepth, run_equalIn_struct w 9999 t _ _ hT.1 hT.2.1, this]
theorem OwnS.val {e size n : Nat} {v : Value} {xs : List Value} {L : Loc} (h : OwnS e size v n xs L) : ∃ a m c, v = .slice a m c := by
  rcases h.2 with ⟨h1, _⟩ | ⟨b, c, cur, h1, _⟩
  · exact ⟨_, _, _, h1⟩
  · exact ⟨_, _, _, h1⟩
section
variable {P : Program} {fn : Func} {R : Ending → World → Prop} {N : Nat} {g : World} {I H : HMap} {loc : Loc} {E : Env} {r : Option Nat}
/-- Two results, the first of which lies in a block of several cells. -/
theorem at_ret2A {t u tt n b : Nat} {vs : List Value} {v' : Value} (hr : fn.results = #[.cell t tt, .tmp u]) (hv : look E t = some (.pointer (some ⟨b, 0, none⟩))) (hv' : look E u = some v') (hA : AgT P tt n) (hc : Cells I loc b 0 vs) (hn : vs.length = n)
    (h : ∀ w, St g I H loc w → R (.returned (.tuple #[.agg vs.toArray, v'])) w) : At ⟨P, r, N, [], g, H⟩ (bodyPost P fn R) .ret E I loc := fun a w ha hw =>
  ⟨ha.defers, .tuple #[.agg vs.toArray, v'], by
    have e1 := ha.env _ _ hv
    have e2 := ha.env _ _ hv'
    rw [Array.getD_eq_getD_getElem?] at e1 e2
    have h1 : (loadCells ⟨b, 0, none⟩ n).run P w = .ok vs.toArray w := by
      rw [← hn]
      exact run_loadCells_list w _ _ fun j v hj => by rw [add_plain]; exact (hc j v hj).get hw
    have hA' := hA
    obtain ⟨_, i, h2, h3⟩ := hA'
    have l1 : (loadVar tt ⟨b, 0, none⟩).run P w = .ok (.agg vs.toArray) w := by
      simp only [loadVar, Sem.run_bind, Sem.run_pure, run_isAgg_ag hA, Result.andThen, if_true, run_sizeOf h2, h3, h1]
    simp only [results, hr]
    simp [List.mapM_cons, e1, e2, asAddr, l1], h w hw⟩
end
end Go.Kn
namespace Go.Kn
open Go
section
variable {C : Cx} {Q : Exit → Act → World → Prop} {E G : Env} {I I' : HMap} {loc loc' L R : Loc} {ops : Array Oper} {rest : List Oper} {S : GS} {b : Bool}
variable {d : Nat} {ty : TypeId} {pos : String} {af : Array Edge} {gd : Option (Nat × Bool)}
end
end Go.Kn
end
section
namespace Go.Proofs.YtehkiccapbkhnaaGreat
open Go Go.Kn Go.Proofs
theorem agt_179 : AgT Tryz.prog 179 9 := .of (by kernel_rfl)
theorem agt_61 : AgT Tryz.prog 61 2 := .of (by kernel_rfl)
theorem agt_63 : AgT Tryz.prog 63 14 := .of (by kernel_rfl)
theorem agt_65 : AgT Tryz.prog 65 19 := .of (by kernel_rfl)
theorem art_179 : ArT Tryz.prog 179 9 178 1 := .of (by kernel_rfl)
theorem cvt_116_3 : CvT Tryz.prog 116 3 .i64 := ⟨by kernel_rfl, by kernel_rfl⟩
theorem cvt_3_116 : CvT Tryz.prog 3 116 .u64 := ⟨by kernel_rfl, by kernel_rfl⟩
theorem elt_183 : ElT Tryz.prog 183 63 14 112 := .of (by kernel_rfl)
theorem elt_23 : ElT Tryz.prog 23 3 1 8 := .of (by kernel_rfl)
theorem eqt2_63 : EqT2 Tryz.prog 63 [.int, .int, .int, .int, .int, .int, .int, .int, .int, .int, .int, .int, .int, .int] := ⟨by kernel_rfl, by kernel_rfl, by kernel_rfl, by kernel_rfl⟩
theorem fld_61_0 : FieldAt Tryz.prog 61 0 0 := .of (by kernel_rfl)
theorem fld_61_1 : FieldAt Tryz.prog 61 1 1 := .of (by kernel_rfl)
theorem fld_63_0 : FieldAt Tryz.prog 63 0 0 := .of (by kernel_rfl)
theorem fld_63_1 : FieldAt Tryz.prog 63 1 1 := .of (by kernel_rfl)
theorem fld_63_10 : FieldAt Tryz.prog 63 10 10 := .of (by kernel_rfl)
theorem fld_63_11 : FieldAt Tryz.prog 63 11 12 := .of (by kernel_rfl)
theorem fld_63_2 : FieldAt Tryz.prog 63 2 2 := .of (by kernel_rfl)
theorem fld_63_3 : FieldAt Tryz.prog 63 3 3 := .of (by kernel_rfl)
theorem fld_63_4 : FieldAt Tryz.prog 63 4 4 := .of (by kernel_rfl)
theorem fld_63_5 : FieldAt Tryz.prog 63 5 5 := .of (by kernel_rfl)
theorem fld_63_6 : FieldAt Tryz.prog 63 6 6 := .of (by kernel_rfl)
theorem fld_63_7 : FieldAt Tryz.prog 63 7 7 := .of (by kernel_rfl)
theorem fld_63_8 : FieldAt Tryz.prog 63 8 8 := .of (by kernel_rfl)
theorem fld_63_9 : FieldAt Tryz.prog 63 9 9 := .of (by kernel_rfl)
theorem fld_65_0 : FieldAt Tryz.prog 65 0 0 := .of (by kernel_rfl)
theorem fld_65_1 : FieldAt Tryz.prog 65 1 1 := .of (by kernel_rfl)
theorem fld_65_2 : FieldAt Tryz.prog 65 2 2 := .of (by kernel_rfl)
theorem fld_65_3 : FieldAt Tryz.prog 65 3 3 := .of (by kernel_rfl)
theorem fld_65_4 : FieldAt Tryz.prog 65 4 4 := .of (by kernel_rfl)
theorem fld_65_5 : FieldAt Tryz.prog 65 5 18 := .of (by kernel_rfl)
theorem fun_105 : Fun Tryz.prog 105 := .of Tryz.func105 (by kernel_rfl) (by kernel_rfl)
theorem fun_106 : Fun Tryz.prog 106 := .of Tryz.func106 (by kernel_rfl) (by kernel_rfl)
theorem fun_107 : Fun Tryz.prog 107 := .of Tryz.func107 (by kernel_rfl) (by kernel_rfl)
theorem fun_108 : Fun Tryz.prog 108 := .of Tryz.func108 (by kernel_rfl) (by kernel_rfl)
theorem fun_109 : Fun Tryz.prog 109 := .of Tryz.func109 (by kernel_rfl) (by kernel_rfl)
theorem fun_130 : Fun Tryz.prog 130 := .of Tryz.func130 (by kernel_rfl) (by kernel_rfl)
theorem fun_134 : Fun Tryz.prog 134 := .of Tryz.func134 (by kernel_rfl) (by kernel_rfl)
theorem fun_135 : Fun Tryz.prog 135 := .of Tryz.func135 (by kernel_rfl) (by kernel_rfl)
theorem fun_136 : Fun Tryz.prog 136 := .of Tryz.func136 (by kernel_rfl) (by kernel_rfl)
theorem fun_148 : Fun Tryz.prog 148 := .of Tryz.func148 (by kernel_rfl) (by kernel_rfl)
theorem fun_159 : Fun Tryz.prog 159 := .of Tryz.func159 (by kernel_rfl) (by kernel_rfl)
theorem fun_160 : Fun Tryz.prog 160 := .of Tryz.func160 (by kernel_rfl) (by kernel_rfl)
theorem fun_165 : Fun Tryz.prog 165 := .of Tryz.func165 (by kernel_rfl) (by kernel_rfl)
theorem fun_168 : Fun Tryz.prog 168 := .of Tryz.func168 (by kernel_rfl) (by kernel_rfl)
theorem fun_171 : Fun Tryz.prog 171 := .of Tryz.func171 (by kernel_rfl) (by kernel_rfl)
theorem fun_172 : Fun Tryz.prog 172 := .of Tryz.func172 (by kernel_rfl) (by kernel_rfl)
theorem fun_175 : Fun Tryz.prog 175 := .of Tryz.func175 (by kernel_rfl) (by kernel_rfl)
theorem fun_177 : Fun Tryz.prog 177 := .of Tryz.func177 (by kernel_rfl) (by kernel_rfl)
theorem fun_39 : Fun Tryz.prog 39 := .of Tryz.func39 (by kernel_rfl) (by kernel_rfl)
theorem fun_47 : Fun Tryz.prog 47 := .of Tryz.func47 (by kernel_rfl) (by kernel_rfl)
theorem fun_53 : Fun Tryz.prog 53 := .of Tryz.func53 (by kernel_rfl) (by kernel_rfl)
theorem fun_71 : Fun Tryz.prog 71 := .of Tryz.func71 (by kernel_rfl) (by kernel_rfl)
theorem fun_72 : Fun Tryz.prog 72 := .of Tryz.func72 (by kernel_rfl) (by kernel_rfl)
theorem fun_73 : Fun Tryz.prog 73 := .of Tryz.func73 (by kernel_rfl) (by kernel_rfl)
theorem fun_74 : Fun Tryz.prog 74 := .of Tryz.func74 (by kernel_rfl) (by kernel_rfl)
theorem fun_76 : Fun Tryz.prog 76 := .of Tryz.func76 (by kernel_rfl) (by kernel_rfl)
theorem fun_77 : Fun Tryz.prog 77 := .of Tryz.func77 (by kernel_rfl) (by kernel_rfl)
theorem fun_88 : Fun Tryz.prog 88 := .of Tryz.func88 (by kernel_rfl) (by kernel_rfl)
theorem fun_97 : Fun Tryz.prog 97 := .of Tryz.func97 (by kernel_rfl) (by kernel_rfl)
theorem key_3 : KeyOK (α := Int) Tryz.prog 3 (.int .i64) := key_int (by kernel_rfl)
theorem mixed : Tryz.prog.follows .mixedOrders = true := by kernel_rfl
theorem mpt_111 : MpT Tryz.prog 111 3 4 (.bool false) := ⟨by kernel_rfl, .of (by kernel_rfl)⟩
theorem mpt_112 : MpT Tryz.prog 112 3 111 (.map none) := ⟨by kernel_rfl, .of (by kernel_rfl)⟩
theorem mpt_79 : MpT Tryz.prog 79 3 3 (.int .i64 0) := ⟨by kernel_rfl, .of (by kernel_rfl)⟩
theorem mpt_80 : MpT Tryz.prog 80 3 23 (.slice none 0 0) := ⟨by kernel_rfl, .of (by kernel_rfl)⟩
theorem plt_61 : PlT Tryz.prog 61 #[(0, 1), (1, 1)] (.agg #[(.int .i64 0), (.int .i64 0)]) := ⟨.of (by kernel_rfl), by kernel_rfl, fun w => by kernel_rfl⟩
theorem plt_63 : PlT Tryz.prog 63 #[(0, 1), (1, 1), (2, 1), (3, 1), (4, 1), (5, 1), (6, 1), (7, 1), (8, 1), (9, 1), (10, 2), (12, 2)] (.agg #[(.int .i64 0), (.int .i64 0), (.int .i64 0), (.int .i64 0), (.int .i64 0), (.int .i64 0), (.int .i64 0), (.int .i64 0), (.int .i64 0), (.int .i64 0), (.int .i64 0), (.int .i64 0), (.int .i64 0), (.int .i64 0)]) := ⟨.of (by kernel_rfl), by kernel_rfl, fun w => by kernel_rfl⟩
theorem sct_111 : ScT Tryz.prog 111 := .of (by kernel_rfl)
theorem sct_116 : ScT Tryz.prog 116 := .of (by kernel_rfl)
theorem sct_178 : ScT Tryz.prog 178 := .of (by kernel_rfl)
theorem sct_23 : ScT Tryz.prog 23 := .of (by kernel_rfl)
theorem sct_3 : ScT Tryz.prog 3 := .of (by kernel_rfl)
theorem slt_183 : SlT Tryz.prog 183 63 14 := .of (by kernel_rfl)
theorem slt_22 : SlT Tryz.prog 22 65 19 := .of (by kernel_rfl)
theorem slt_23 : SlT Tryz.prog 23 3 1 := .of (by kernel_rfl)
theorem szt_111 : SzT Tryz.prog 111 1 := .of (by kernel_rfl)
theorem szt_116 : SzT Tryz.prog 116 1 := .of (by kernel_rfl)
theorem szt_179 : SzT Tryz.prog 179 9 := .of (by kernel_rfl)
theorem szt_3 : SzT Tryz.prog 3 1 := .of (by kernel_rfl)
theorem szt_61 : SzT Tryz.prog 61 2 := .of (by kernel_rfl)
theorem szt_63 : SzT Tryz.prog 63 14 := .of (by kernel_rfl)
theorem szt_65 : SzT Tryz.prog 65 19 := .of (by kernel_rfl)
theorem und_111 : Tryz.prog.underlying 111 = some (.map 3 4) := by kernel_rfl
theorem zt_111 : ZeroT Tryz.prog 111 (.map none) := .of (by kernel_rfl)
theorem zt_116 : ZeroT Tryz.prog 116 (.int .u64 0) := .of (by kernel_rfl)
theorem zt_179 : ZeroT Tryz.prog 179 (.agg #[(.pointer none), (.pointer none), (.pointer none), (.pointer none), (.pointer none), (.pointer none), (.pointer none), (.pointer none), (.pointer none)]) := .of (by kernel_rfl)
theorem zt_63 : ZeroT Tryz.prog 63 (.agg #[(.int .i64 0), (.int .i64 0), (.int .i64 0), (.int .i64 0), (.int .i64 0), (.int .i64 0), (.int .i64 0), (.int .i64 0), (.int .i64 0), (.int .i64 0), (.int .i64 0), (.int .i64 0), (.int .i64 0), (.int .i64 0)]) := .of (by kernel_rfl)
theorem zt_65 : ZeroT Tryz.prog 65 (.agg #[(.int .i64 0), (.int .i64 0), (.int .i64 0), (.int .i64 0), (.int .i64 0), (.int .i64 0), (.int .i64 0), (.int .i64 0), (.int .i64 0), (.int .i64 0), (.int .i64 0), (.int .i64 0), (.int .i64 0), (.int .i64 0), (.int .i64 0), (.int .i64 0), (.int .i64 0), (.int .i64 0), (.slice none 0 0)]) := .of (by kernel_rfl)
end Go.Proofs.YtehkiccapbkhnaaGreat
end
section
namespace Go.Proofs.YtehkiccapbkhnaaGreat
open Go Go.Kn Go.Proofs
def encI (n : Int) : List Value := [.int .i64 n]
/-- A slice's head. -/
structure Hd where
  a : Option Addr
  n : Nat
  c : Nat
def encH (h : Hd) : List Value := [.slice h.a h.n h.c]
theorem encI_len (x : Int) : (encI x).length = 1 := rfl
theorem encH_len (x : Hd) : (encH x).length = 1 := rfl
theorem one_I (xs : List Int) : allOne (xs.flatMap encI) = true := allOne_flat (fun _ => rfl) xs
theorem one_H (xs : List Hd) : allOne (xs.flatMap encH) = true := allOne_flat (fun _ => rfl) xs
theorem lenI (xs : List Int) : (xs.flatMap encI).length = xs.length := by rw [flat_len encI_len, Nat.mul_one]
def capP (b : Nat) : Value := .pointer (some ⟨b, 0, none⟩)
theorem _root_.Go.Kn.Sl.at {α : Type} {I : HMap} {size : Nat} {enc : α → List Value} {av : Option Addr} {n c : Nat} {xs : List α} (h : Sl I size enc av n c xs) {k : Nat} (hk : k < n) : ∃ x, xs[k]? = some x :=
  ⟨_, List.getElem?_eq_getElem (by rw [h.len]; exact hk)⟩
def within (n lo hi : Int) : Bool := decide (n ≥ lo) && decide (n ≤ hi)
theorem range_step {p : Nat → Bool} {k : Nat} (h : (List.range k).all p = true) (hp : p k = true) : (List.range (k + 1)).all p = true := by
  rw [List.range_succ, List.all_append, h]; simpa using hp
theorem range_bad {p : Nat → Bool} {n k : Nat} (hk : k < n) (hp : p k = false) : (List.range n).all p = false := by
  cases h : (List.range n).all p with
  | false => rfl
  | true =>
    rw [List.all_eq_true] at h
    rw [h k (List.mem_range.2 hk)] at hp; cases hp
theorem getD_of {α : Type} {xs : List α} {k : Nat} {x d : α} (h : xs[k]? = some x) : xs.getD k d = x := by simp [List.getD, h]
theorem some_getD {α : Type} {xs : List α} {n k : Nat} {d : α} (hl : xs.length = n) (h : k < n) : xs[k]? = some (xs.getD k d) := by
  have : k < xs.length := by omega
  unfold List.getD
  rw [List.getElem?_eq_getElem this]; rfl
theorem any_no {α : Type} {xs : List α} {k : Nat} {x : α} {p : α → Bool} (hx : xs[k]? = some x) (h : (xs.take k).any p = false) (hp : p x = false) : (xs.take (k + 1)).any p = false := by rw [any_take hx, h, hp]; rfl
theorem any_yes {α : Type} {xs : List α} {k : Nat} {x : α} {p : α → Bool} (hx : xs[k]? = some x) (hp : p x = true) : xs.any p = true := List.any_eq_true.2 ⟨x, List.mem_of_getElem? hx, hp⟩
theorem all_yes {α : Type} {xs : List α} {k : Nat} {x : α} {p : α → Bool} (hx : xs[k]? = some x) (h : (xs.take k).all p = true) (hp : p x = true) : (xs.take (k + 1)).all p = true := by
  rw [List.take_add_one, hx, List.all_append, h]; simpa using hp
theorem all_no {α : Type} {xs : List α} {k : Nat} {x : α} {p : α → Bool} (hx : xs[k]? = some x) (hp : p x = false) : xs.all p = false := List.all_eq_false.2 ⟨x, List.mem_of_getElem? hx, by rw [hp]; decide⟩
theorem take_snoc {α : Type} {xs : List α} {k : Nat} {x : α} (h : xs[k]? = some x) : xs.take (k + 1) = xs.take k ++ [x] := by
  rw [List.take_add_one, h]; rfl
theorem drop_cons {α : Type} {xs : List α} {k : Nat} {x : α} (h : xs[k]? = some x) : xs.drop k = x :: xs.drop (k + 1) := by
  obtain ⟨h1, h2⟩ := List.getElem?_eq_some_iff.1 h
  rw [List.drop_eq_getElem_cons h1, h2]
def idxF {α : Type} (p : α → Bool) (xs : List α) : Int := if xs.any p then (xs.findIdx p : Int) else -1
theorem findIdx_at {α : Type} {xs : List α} {k : Nat} {x : α} {p : α → Bool} (h : (xs.take k).any p = false) (hx : xs[k]? = some x) (hp : p x = true) : xs.findIdx p = k := by
  have hk := (List.getElem?_eq_some_iff.1 hx).1
  rw [List.findIdx_eq hk]
  refine ⟨by rw [(List.getElem?_eq_some_iff.1 hx).2]; exact hp, fun j hj => ?_⟩
  have := List.any_eq_false.1 h xs[j] (by rw [List.mem_take_iff_getElem]; exact ⟨j, by omega, rfl⟩)
  simpa using this
theorem idx_hit {α : Type} {xs : List α} {k : Nat} {x : α} {p : α → Bool} (h : (xs.take k).any p = false) (hx : xs[k]? = some x) (hp : p x = true) : idxF p xs = k := by
  unfold idxF
  rw [any_yes hx hp, if_pos rfl, findIdx_at h hx hp]
theorem idx_none {α : Type} {xs : List α} {k n : Nat} {p : α → Bool} (hl : xs.length = n) (hk : n ≤ k) (h : (xs.take k).any p = false) : idxF p xs = -1 := by
  unfold idxF
  rw [take_all hl hk] at h
  rw [h]; rfl
theorem idx_any {α : Type} {xs : List α} {p : α → Bool} : decide (idxF p xs ≥ 0) = xs.any p := by
  unfold idxF
  cases h : xs.any p
  · rfl
  · simp
def resF {α : Type} (e : Int) (xs : List α) : List α := if e ≠ 0 then [] else xs
theorem resF_bad {α : Type} {e : Int} {xs : List α} (h : e ≠ 0) : resF e xs = [] := by unfold resF; rw [if_pos h]
theorem resF_ok {α : Type} {e : Int} {xs : List α} (h : e = 0) : resF e xs = xs := by unfold resF; rw [if_neg (by omega)]
theorem pair_of_next {α : Type} {R : α → α → Prop} (ht : ∀ a b c, R a b → R b c → R a c) {l : List α} (h : ∀ k (hk : k + 1 < l.length), R (l[k]'(by omega)) l[k + 1]) : l.Pairwise R := by
  have key : ∀ (n i : Nat) (hn : i + n < l.length), 0 < n → R (l[i]'(by omega)) l[i + n] := by
    intro n
    induction n with
    | zero => intro i _ h0; omega
    | succ n ih =>
      intro i hn _
      have h2 := h (i + n) (by omega)
      by_cases e : n = 0
      · subst e; exact h2
      · exact ht _ _ _ (ih i (by omega) (by omega)) h2
  rw [List.pairwise_iff_getElem]
  intro i j hi hj hij
  have := key (j - i) i (by omega) (by omega)
  simpa [show i + (j - i) = j by omega] using this
theorem tw_eq {α : Type} {p : α → Bool} : ∀ {xs : List α} {k : Nat}, (xs.take k).all p = true → k ≤ xs.length → (∀ y, xs[k]? = some y → p y = false) → xs.takeWhile p = xs.take k ∧ xs.dropWhile p = xs.drop k
  | [], k, _, hk, _ => by simp
  | x :: xs, 0, _, _, h => by
    have := h x rfl
    simp [List.takeWhile_cons, List.dropWhile_cons, this]
  | x :: xs, k + 1, h, hk, h2 => by
    rw [List.take_succ_cons, List.all_cons, Bool.and_eq_true] at h
    obtain ⟨h3, h4⟩ := tw_eq h.2 (by simpa using hk) (fun y hy => h2 y (by simpa using hy))
    rw [List.takeWhile_cons, List.dropWhile_cons, if_pos h.1, if_pos h.1, h3, h4]
    exact ⟨rfl, rfl⟩
/-- Two strictly increasing lists with the same members are one. -/
theorem sorted_ext : ∀ {xs ys : List Int}, xs.Pairwise (· < ·) → ys.Pairwise (· < ·) → (∀ a, a ∈ xs ↔ a ∈ ys) → xs = ys
  | [], [], _, _, _ => rfl
  | [], y :: ys, _, _, h => by have := (h y).2 (List.mem_cons_self ..); cases this
  | x :: xs, [], _, _, h => by have := (h x).1 (List.mem_cons_self ..); cases this
  | x :: xs, y :: ys, hx, hy, h => by
    rw [List.pairwise_cons] at hx hy
    have e : x = y := by
      rcases List.mem_cons.1 ((h x).1 (List.mem_cons_self ..)) with e | e
      · exact e
      · rcases List.mem_cons.1 ((h y).2 (List.mem_cons_self ..)) with e2 | e2
        · exact e2.symm
        · have h1 := hx.1 _ e2; have h2 := hy.1 _ e; omega
    subst e
    refine congrArg _ (sorted_ext hx.2 hy.2 fun a => ?_)
    constructor
    · intro ha
      rcases List.mem_cons.1 ((h a).1 (List.mem_cons_of_mem _ ha)) with e | e
      · subst e; have := hx.1 _ ha; omega
      · exact e
    · intro ha
      rcases List.mem_cons.1 ((h a).2 (List.mem_cons_of_mem _ ha)) with e | e
      · subst e; have := hy.1 _ ha; omega
      · exact e
end Go.Proofs.YtehkiccapbkhnaaGreat
end
section
namespace Go.Proofs.YtehkiccapbkhnaaGreat
open Go Go.Kn Go.Proofs
structure Sg where
  id : Int
  role : Int
  bar : Int
  mark : Int
  kind : Int
  side : Int
  dir : Int
  level : Int
  size : Int
  wth : Int
  fn : Int
  fd : Int
  tn : Int
  td : Int
def encG (x : Sg) : List Value := [.int .i64 x.id, .int .i64 x.role, .int .i64 x.bar, .int .i64 x.mark, .int .i64 x.kind, .int .i64 x.side, .int .i64 x.dir, .int .i64 x.level, .int .i64 x.size, .int .i64 x.wth, .int .i64 x.fn, .int .i64 x.fd, .int .i64 x.tn, .int .i64 x.td]
def encGA (x : Sg) : Value := .agg (encG x).toArray
def zeroG : Sg := ⟨0, 0, 0, 0, 0, 0, 0, 0, 0, 0, 0, 0, 0, 0⟩
theorem encG_len (x : Sg) : (encG x).length = 14 := rfl
def sgEq (x y : Sg) : Bool := x.id == y.id && (x.role == y.role && (x.bar == y.bar && (x.mark == y.mark && (x.kind == y.kind && (x.side == y.side && (x.dir == y.dir && (x.level == y.level && (x.size == y.size && (x.wth == y.wth && (x.fn == y.fn && (x.fd == y.fd && (x.tn == y.tn && (x.td == y.td && true)))))))))))))
theorem sgEq_iff {x y : Sg} : sgEq x y = true ↔ x = y := by
  obtain ⟨a1, a2, a3, a4, a5, a6, a7, a8, a9, a10, a11, a12, a13, a14⟩ := x
  obtain ⟨b1, b2, b3, b4, b5, b6, b7, b8, b9, b10, b11, b12, b13, b14⟩ := y
  simp [sgEq]
instance : DecidableEq Sg := fun a b => decidable_of_iff (sgEq a b = true) sgEq_iff
/-- A patch, with the head of its needs. -/
structure Pt where
  id : Int
  kind : Int
  sign : Int
  field : Int
  nw : Sg
  a : Option Addr
  n : Nat
  c : Nat
  needs : List Int
def encP (p : Pt) : List Value := [.int .i64 p.id, .int .i64 p.kind, .int .i64 p.sign, .int .i64 p.field, .int .i64 p.nw.id, .int .i64 p.nw.role, .int .i64 p.nw.bar, .int .i64 p.nw.mark, .int .i64 p.nw.kind, .int .i64 p.nw.side, .int .i64 p.nw.dir, .int .i64 p.nw.level, .int .i64 p.nw.size, .int .i64 p.nw.wth, .int .i64 p.nw.fn, .int .i64 p.nw.fd, .int .i64 p.nw.tn, .int .i64 p.nw.td, .slice p.a p.n p.c]
def encPA (p : Pt) : Value := .agg (encP p).toArray
theorem encP_len (x : Pt) : (encP x).length = 19 := rfl
theorem one_P (xs : List Pt) : allOne (xs.flatMap encP) = true := allOne_flat (fun _ => rfl) xs
def zeroP : Pt := ⟨0, 0, 0, 0, zeroG, none, 0, 0, []⟩
/-- A patch's needs lie where its head says. -/
def Nd (I : HMap) (p : Pt) : Prop := Sl I 1 encI p.a p.n p.c p.needs
theorem Nd.mono {I I' : HMap} {p : Pt} (h : Nd I p) (hI : HLe I I') : Nd I' p := Sl.mono h hI
def SlP (I : HMap) (av : Option Addr) (n c : Nat) (ps : List Pt) : Prop := Sl I 19 encP av n c ps ∧ ∀ p ∈ ps, Nd I p
theorem SlP.mono {I I' : HMap} {av : Option Addr} {n c : Nat} {ps : List Pt} (h : SlP I av n c ps) (hI : HLe I I') : SlP I' av n c ps := ⟨h.1.mono hI, fun p hp => (h.2 p hp).mono hI⟩
theorem SlP.len {I : HMap} {av : Option Addr} {n c : Nat} {ps : List Pt} (h : SlP I av n c ps) : ps.length = n := h.1.len
theorem SlP.at {I : HMap} {av : Option Addr} {n c : Nat} {ps : List Pt} (h : SlP I av n c ps) {k : Nat} (hk : k < n) : ∃ p, ps[k]? = some p ∧ Nd I p := by
  obtain ⟨p, hp⟩ := h.1.at hk
  exact ⟨p, hp, h.2 p (List.mem_of_getElem? hp)⟩
def magI (n : Int) : Int := if n < 0 then 0 - n else n
def gcdI (a b : Int) : Int := (Int.gcd a b : Int)
/-- Is n / d a ratio? -/
def ratF (n d : Int) : Bool := !(((((decide (d < 1) || decide (d > 1073741824)) || decide (n < -1073741824)) || decide (n > 1073741824)) || (gcdI n d != 1)))
/-- May a sign last from one ratio to another one? -/
def spanF (fn fd tn td : Int) : Bool := (ratF fn fd && ratF tn td) && (decide (fn * td < tn * fd) && (decide (fn ≥ 0) && decide (tn ≤ td)))
/-! ### Signs -/
def frmL (k : Sg) : Bool := within k.id 0 1048576 && within k.role 0 63 && within k.bar 0 4095 && within k.kind 1 9 && within k.mark 1 3 && within k.side 0 2 && within k.dir 0 8 && within k.level 0 3 && within k.size 0 255 && within k.wth 0 64
def frm (k : Sg) : Bool := frmL k && spanF k.fn k.fd k.tn k.td
def skP (xs : List Sg) (i : Nat) : Bool := !(!frm (xs.getD i zeroG) || (decide ((i : Int) > 0) && decide ((xs.getD ((i : Int) - 1).toNat zeroG).id ≥ (xs.getD i zeroG).id)))
def skB (xs : List Sg) : Bool := (List.range xs.length).all (skP xs)
def chkG (xs : List Sg) : Int := if xs.length > 4096 then 2 else if skB xs then 0 else 360
/-! ### Patches -/
def setG (x : Sg) (f : Int) (y : Sg) : Sg :=
  if f = 1 then { x with role := y.role } else if f = 2 then { x with bar := y.bar } else if f = 3 then { x with mark := y.mark } else if f = 4 then { x with side := y.side } else if f = 5 then { x with dir := y.dir }
  else if f = 6 then { x with level := y.level } else if f = 7 then { x with size := y.size } else if f = 8 then { x with wth := y.wth } else if f = 9 then { x with fn := y.fn, fd := y.fd, tn := y.tn, td := y.td } else x
def plainG : Sg := ⟨0, 0, 0, 3, 9, 0, 0, 0, 0, 0, 0, 1, 1, 2⟩
/-- Needs that increase, below an ID. -/
def ndP (id : Int) (v : List Int) (i : Nat) : Bool := !((decide (v.getD i 0 < 1) || decide (v.getD i 0 ≥ id)) || (decide ((i : Int) > 0) && decide (v.getD i 0 ≤ v.getD ((i : Int) - 1).toNat 0)))
def ndB (id : Int) (v : List Int) : Bool := (List.range v.length).all (ndP id v)
def idB (p : Pt) : Bool := (decide (p.id ≥ 1) && decide (p.id ≤ 1048576)) && (decide (p.sign ≥ 0) && decide (p.sign ≤ 1048576))
def kndB (p : Pt) : Bool :=
  if p.kind = 1 then within p.field 1 9 && (sgEq (setG p.nw p.field zeroG) zeroG && frm (setG plainG p.field p.nw))
  else if p.kind = 2 then p.field == 0 && (p.nw.id == p.sign && frm p.nw)
  else if p.kind = 3 then p.field == 0 && sgEq p.nw zeroG else false
def pchk (p : Pt) : Int := if p.needs.length > 32 then 2 else if ndB p.id p.needs && (idB p && kndB p) then 0 else 370
end Go.Proofs.YtehkiccapbkhnaaGreat
end
section
namespace Go.Proofs.YtehkiccapbkhnaaGreat
open Go Go.Kn Go.Proofs
def orF : List Int → Int
  | [] => 0
  | x :: xs => if x ≠ 0 then x else orF xs
theorem orF_zero : ∀ {xs : List Int}, orF xs = 0 ↔ ∀ x ∈ xs, x = 0
  | [] => by simp [orF]
  | x :: xs => by
    unfold orF
    by_cases h : x = 0
    · rw [if_neg (by simpa using h), orF_zero]; simp [h]
    · rw [if_pos h]; simp [h]
theorem orF_take {xs : List Int} {k : Nat} {x : Int} (hx : xs[k]? = some x) (h : orF (xs.take k) = 0) (hne : x ≠ 0) : orF xs = x := by
  induction xs generalizing k with
  | nil => simp at hx
  | cons y ys ih =>
    cases k with
    | zero =>
      simp at hx; subst hx
      unfold orF; rw [if_pos hne]
    | succ k =>
      rw [List.take_succ_cons] at h
      unfold orF at h ⊢
      by_cases hy : y = 0
      · rw [if_neg (by simpa using hy)] at h ⊢
        exact ih (by simpa using hx) h
      · rw [if_pos hy] at h; exact absurd h hy
/-- The patch p comes to those whose standing is known. -/
def onS (f : Int → Int → Bool) (p : Pt) : Int → Int → Bool := fun a b => if a = p.id then p.needs.any (fun n => n == b || f n b) else f a b
/-- Does the patch with the ID a stand on the one with the ID b? -/
def onF (ps : List Pt) : Int → Int → Bool := ps.foldl onS (fun _ _ => false)
def hasI (ps : List Pt) (n : Int) : Bool := ps.any (fun q => q.id == n)
/-- IDs increase, and what is needed comes before. -/
def lsP (ps : List Pt) (i : Nat) : Bool := !((decide ((i : Int) > 0) && decide ((ps.getD i zeroP).id ≤ (ps.getD ((i : Int) - 1).toNat zeroP).id)) || (ps.getD i zeroP).needs.any (fun n => !hasI ps n))
def lsB (ps : List Pt) : Bool := (List.range ps.length).all (lsP ps)
/-- May p be in one store with q? -/
def togB (p q : Pt) (on : Bool) : Bool := if p.sign ≠ q.sign then true else if q.kind = 2 then p.kind != 2 && on else if q.kind = 3 then !on else true
def togA (ps : List Pt) : Bool := ps.all fun p => ps.all fun q => p.id == q.id || togB p q (onF ps p.id q.id)
def chkR (ps : List Pt) : Int := if ps.length > 512 then 2 else if orF (ps.map pchk) ≠ 0 then orF (ps.map pchk) else if lsB ps && togA ps then 0 else 380
/-- A listing in order: the working form. -/
structure Lst (ps : List Pt) : Prop where
  pos : ∀ p ∈ ps, 1 ≤ p.id
  inc : ps.Pairwise (fun p q => p.id < q.id)
  has : ∀ p ∈ ps, ∀ n ∈ p.needs, n < p.id ∧ ∃ q ∈ ps, q.id = n
theorem hasI_iff {ps : List Pt} {n : Int} : hasI ps n = true ↔ ∃ q ∈ ps, q.id = n := by
  unfold hasI
  rw [List.any_eq_true]
  simp
theorem onS_other {f : Int → Int → Bool} {p : Pt} {a b : Int} (h : a ≠ p.id) : onS f p a b = f a b := by unfold onS; rw [if_neg h]
theorem fold_other : ∀ (ps : List Pt) {f : Int → Int → Bool} {a b : Int}, (∀ p ∈ ps, p.id ≠ a) → ps.foldl onS f a b = f a b
  | [], _, _, _, _ => rfl
  | p :: ps, f, a, b, h => by
    rw [List.foldl_cons, fold_other ps (fun q hq => h q (List.mem_cons_of_mem _ hq)), onS_other (fun e => h p (List.mem_cons_self ..) e.symm)]
theorem onF_none {ps : List Pt} {a b : Int} (h : ∀ p ∈ ps, p.id ≠ a) : onF ps a b = false := fold_other ps h
theorem onF_split {ps qs : List Pt} {p : Pt} {b : Int} (h : ∀ q ∈ qs, q.id ≠ p.id) : onF (ps ++ p :: qs) p.id b = p.needs.any (fun n => n == b || onF ps n b) := by
  unfold onF
  rw [List.foldl_append, List.foldl_cons, fold_other qs h]
  unfold onS; rw [if_pos rfl]
theorem onF_left {ps qs : List Pt} {a b : Int} (h : ∀ q ∈ qs, q.id ≠ a) : onF (ps ++ qs) a b = onF ps a b := by
  unfold onF
  rw [List.foldl_append, fold_other qs h]
theorem Lst.tail_ne {ps qs : List Pt} {p : Pt} (h : Lst (ps ++ p :: qs)) : (∀ q ∈ qs, p.id < q.id) ∧ (∀ q ∈ ps, q.id < p.id) := by
  have h1 := h.inc
  rw [List.pairwise_append] at h1
  exact ⟨(List.pairwise_cons.1 h1.2.1).1, fun q hq => h1.2.2 q hq p (List.mem_cons_self ..)⟩
theorem any_same {α : Type} {xs : List α} {f g : α → Bool} (h : ∀ x ∈ xs, f x = g x) : xs.any f = xs.any g := by
  induction xs with
  | nil => rfl
  | cons x xs ih => rw [List.any_cons, List.any_cons, h x (List.mem_cons_self ..), ih fun y hy => h y (List.mem_cons_of_mem _ hy)]
/-- What it says of a patch of the list. -/
theorem Lst.on {ps : List Pt} (h : Lst ps) {p : Pt} (hp : p ∈ ps) (b : Int) : onF ps p.id b = p.needs.any (fun n => n == b || onF ps n b) := by
  obtain ⟨l, r, rfl⟩ := List.append_of_mem hp
  obtain ⟨h1, h2⟩ := h.tail_ne
  rw [onF_split (fun q hq e => by have := h1 q hq; omega)]
  refine any_same fun n hn => ?_
  have hlt := (h.has p hp n hn).1
  rw [onF_left (ps := l) (qs := p :: r)]
  intro q hq e
  rcases List.mem_cons.1 hq with rfl | hq
  · omega
  · have := h1 q hq; omega
theorem Lst.on_iff {ps : List Pt} (h : Lst ps) {p : Pt} (hp : p ∈ ps) {b : Int} : onF ps p.id b = true ↔ ∃ n ∈ p.needs, n = b ∨ onF ps n b = true := by
  rw [h.on hp, List.any_eq_true]
  simp
theorem onF_mem {ps : List Pt} {a b : Int} (h : onF ps a b = true) : ∃ p ∈ ps, p.id = a := by
  by_cases hx : ∃ p ∈ ps, p.id = a
  · exact hx
  · rw [onF_none (fun p hp e => hx ⟨p, hp, e⟩)] at h; cases h
theorem Lst.ind {ps : List Pt} (h : Lst ps) {M : Pt → Prop} (hs : ∀ p ∈ ps, (∀ q ∈ ps, q.id < p.id → M q) → M p) : ∀ p ∈ ps, M p := by
  have key : ∀ (m : Nat) (q : Pt), q ∈ ps → q.id.toNat ≤ m → M q := by
    intro m
    induction m with
    | zero =>
      intro q hq hm
      have := h.pos q hq; omega
    | succ m ih =>
      intro q hq hm
      exact hs q hq fun r hr hlt => ih r hr (by have := h.pos r hr; omega)
  exact fun p hp => key _ p hp (Nat.le_refl _)
/-- Whoever is stood on is in the list, and came before. -/
theorem Lst.on_lt {ps : List Pt} (h : Lst ps) {a b : Int} (hon : onF ps a b = true) : b < a ∧ ∃ q ∈ ps, q.id = b := by
  obtain ⟨p, hp, rfl⟩ := onF_mem hon
  revert hon
  refine h.ind (M := fun p => onF ps p.id b = true → b < p.id ∧ ∃ q ∈ ps, q.id = b) (fun p hp ih hon => ?_) p hp
  obtain ⟨n, hn, e⟩ := (h.on_iff hp).1 hon
  obtain ⟨h1, q, hq, rfl⟩ := h.has p hp n hn
  rcases e with rfl | e
  · exact ⟨h1, q, hq, rfl⟩
  · have := ih q hq h1 e
    exact ⟨by omega, this.2⟩
theorem Lst.on_irr {ps : List Pt} (h : Lst ps) {a : Int} : onF ps a a = false := by
  cases hon : onF ps a a with
  | false => rfl
  | true => have := (h.on_lt hon).1; omega
theorem Lst.on_trans {ps : List Pt} (h : Lst ps) {a b c : Int} (h1 : onF ps a b = true) (h2 : onF ps b c = true) : onF ps a c = true := by
  obtain ⟨p, hp, rfl⟩ := onF_mem h1
  revert h1
  refine h.ind (M := fun p => onF ps p.id b = true → onF ps p.id c = true) (fun p hp ih hon => ?_) p hp
  obtain ⟨n, hn, e⟩ := (h.on_iff hp).1 hon
  obtain ⟨hlt, q, hq, rfl⟩ := h.has p hp n hn
  rcases e with rfl | e
  · exact (h.on_iff hp).2 ⟨_, hn, .inr h2⟩
  · exact (h.on_iff hp).2 ⟨_, hn, .inr (ih q hq hlt e)⟩
theorem Lst.on_need {ps : List Pt} (h : Lst ps) {p : Pt} (hp : p ∈ ps) {n : Int} (hn : n ∈ p.needs) : onF ps p.id n = true := (h.on_iff hp).2 ⟨n, hn, .inl rfl⟩
def incB (v : List Int) : Bool := (List.range v.length).all fun i => !(decide ((i : Int) > 0) && decide (v.getD i 0 ≤ v.getD ((i : Int) - 1).toNat 0))
def chB (ps : List Pt) (ids : List Int) : Bool := incB ids && ids.all (hasI ps)
/-- The IDs with all on which their patches stand. -/
def cloF (ps : List Pt) (ids : List Int) : List Int := (ps.filter fun p => ids.any fun n => n == p.id || onF ps n p.id).map (·.id)
def cloE (ps : List Pt) (ids : List Int) : Int := if chkR ps ≠ 0 then chkR ps else if ids.length > 512 then 2 else if chB ps ids then 0 else 380
end Go.Proofs.YtehkiccapbkhnaaGreat
end
section
namespace Go.Proofs.YtehkiccapbkhnaaGreat
open Go Go.Kn Go.Proofs
theorem ids_sorted {ps : List Pt} (h : Lst ps) (f : Pt → Bool) : ((ps.filter f).map (·.id)).Pairwise (· < ·) := by
  rw [List.pairwise_map]
  exact h.inc.filter f
theorem mem_ids {ps : List Pt} {f : Pt → Bool} {x : Int} : x ∈ (ps.filter f).map (·.id) ↔ ∃ p ∈ ps, f p = true ∧ p.id = x := by
  rw [List.mem_map]
  constructor
  · rintro ⟨p, hp, e⟩
    exact ⟨p, (List.mem_filter.1 hp).1, (List.mem_filter.1 hp).2, e⟩
  · rintro ⟨p, hp, hf, e⟩
    exact ⟨p, List.mem_filter.2 ⟨hp, hf⟩, e⟩
/-- A version: increasing IDs of the list, with all that their patches need. -/
structure Ver (ps : List Pt) (v : List Int) : Prop where
  inc : v.Pairwise (· < ·)
  sub : ∀ x ∈ v, ∃ p ∈ ps, p.id = x
  need : ∀ p ∈ ps, p.id ∈ v → ∀ n ∈ p.needs, n ∈ v
theorem mem_clo {ps : List Pt} {ids : List Int} {x : Int} : x ∈ cloF ps ids ↔ (∃ p ∈ ps, p.id = x) ∧ ∃ n ∈ ids, n = x ∨ onF ps n x = true := by
  unfold cloF
  rw [mem_ids]
  constructor
  · rintro ⟨p, hp, hf, rfl⟩
    rw [List.any_eq_true] at hf
    obtain ⟨n, hn, e⟩ := hf
    exact ⟨⟨p, hp, rfl⟩, n, hn, by simpa using e⟩
  · rintro ⟨⟨p, hp, rfl⟩, n, hn, e⟩
    exact ⟨p, hp, List.any_eq_true.2 ⟨n, hn, by simpa using e⟩, rfl⟩
theorem clo_sorted {ps : List Pt} (h : Lst ps) (ids : List Int) : (cloF ps ids).Pairwise (· < ·) := ids_sorted h _
theorem clo_ver {ps : List Pt} (h : Lst ps) (ids : List Int) : Ver ps (cloF ps ids) where
  inc := clo_sorted h ids
  sub := fun x hx => (mem_clo.1 hx).1
  need := fun p hp hpv m hm => by
    obtain ⟨_, n, hn, e⟩ := mem_clo.1 hpv
    obtain ⟨_, q, hq, rfl⟩ := h.has p hp m hm
    refine mem_clo.2 ⟨⟨q, hq, rfl⟩, n, hn, .inr ?_⟩
    rcases e with rfl | e
    · exact h.on_need hp hm
    · exact h.on_trans e (h.on_need hp hm)
/-- The working form of a right store. -/
theorem ls_lst {ps : List Pt} (h0 : orF (ps.map pchk) = 0) (h : lsB ps = true) : Lst ps := by
  have hk : ∀ p ∈ ps, ndB p.id p.needs = true ∧ idB p = true ∧ kndB p = true := fun p hp => by
    have h1 := orF_zero.1 h0 (pchk p) (List.mem_map.2 ⟨p, hp, rfl⟩)
    unfold pchk at h1
    split at h1
    · cases h1
    · split at h1
      · rename_i h2
        simpa [Bool.and_eq_true] using h2
      · cases h1
  unfold lsB at h
  rw [List.all_eq_true] at h
  refine ⟨fun p hp => ?_, ?_, fun p hp n hn => ?_⟩
  · have := (hk p hp).2.1
    unfold idB at this
    simp at this
    omega
  · refine pair_of_next (R := fun p q : Pt => p.id < q.id) (fun a b c h1 h2 => Int.lt_trans h1 h2) fun k hk => ?_
    have h1 := h (k + 1) (List.mem_range.2 hk)
    unfold lsP at h1
    rw [show (((k + 1 : Nat) : Int) - 1).toNat = k by omega, getD_of (List.getElem?_eq_getElem hk), getD_of (List.getElem?_eq_getElem (show k < ps.length by omega))] at h1
    simp at h1
    have := h1.1
    omega
  · obtain ⟨k, hk1, rfl⟩ := List.mem_iff_getElem.1 hp
    have h1 := h k (List.mem_range.2 hk1)
    unfold lsP at h1
    rw [getD_of (List.getElem?_eq_getElem hk1)] at h1
    simp at h1
    refine ⟨?_, hasI_iff.1 (h1.2 n hn)⟩
    obtain ⟨j, hj, rfl⟩ := List.mem_iff_getElem.1 hn
    have h2 := (hk _ hp).1
    unfold ndB at h2
    rw [List.all_eq_true] at h2
    have h3 := h2 j (List.mem_range.2 hj)
    unfold ndP at h3
    rw [getD_of (List.getElem?_eq_getElem hj)] at h3
    simp at h3
    omega
theorem chkR_ok {ps : List Pt} (h : chkR ps = 0) : ps.length ≤ 512 ∧ orF (ps.map pchk) = 0 ∧ lsB ps = true ∧ togA ps = true := by
  unfold chkR at h
  split at h
  · cases h
  · split at h
    · contradiction
    · split at h
      · rename_i h1 h2 h3
        rw [Bool.and_eq_true] at h3
        exact ⟨by omega, by omega, h3⟩
      · cases h
theorem chkR_lst {ps : List Pt} (h : chkR ps = 0) : Lst ps := ls_lst (chkR_ok h).2.1 (chkR_ok h).2.2.1
end Go.Proofs.YtehkiccapbkhnaaGreat
end
section
namespace Go.Proofs.YtehkiccapbkhnaaGreat
open Go Go.Kn Go.Proofs
/-! ### Lists by keys -/
def isF (f : Int) : Prop := 1 ≤ f ∧ f ≤ 9
end Go.Proofs.YtehkiccapbkhnaaGreat
end
section
namespace Go.Proofs.YtehkiccapbkhnaaGreat
open Go Go.Kn Go.Proofs
def cmpF (x y : Int) : Int := if x < y then -1 else if x > y then 1 else 0
def encR2 (n d : Int) : List Value := [.int .i64 n, .int .i64 d]
def encRA (n d : Int) : Value := .agg (encR2 n d).toArray
theorem u64_id {n : Int} (h : 0 ≤ n ∧ n ≤ 9223372036854775807) : IntKind.u64.wrap n = n := by
  unfold IntKind.wrap IntKind.signed IntKind.bits
  simp
  omega
theorem mag_pos {n : Int} (hn : -1073741824 ≤ n ∧ n ≤ 1073741824) (h : ¬ n < 0) : IntKind.u64.wrap n = magI n := by
  rw [u64_id (by omega)]
  unfold magI; rw [if_neg h]
theorem mag_neg {n : Int} (hn : -1073741824 ≤ n ∧ n ≤ 1073741824) (h : n < 0) : IntKind.u64.wrap (0 - IntKind.u64.wrap n) = magI n := by
  unfold magI; rw [if_pos h]
  unfold IntKind.wrap IntKind.signed IntKind.bits
  simp
  omega
/-- The cells of the iterator of Euclid's algorithm. -/
def remL (t b1 b2 : Nat) (a b : Int) : Go.Kn.Loc := [(b2, .cells #[.int .u64 b] t (0, 0)), (b1, .cells #[.int .u64 a] t (0, 0))]
/-- The numbers of Euclid's algorithm. -/
def remN (a b : Nat) : List Nat := if a = 0 then [] else if b = 0 then [a, 0] else if a % b = 0 then [a, b] else a :: remN b (a % b)
termination_by b
decreasing_by exact Nat.mod_lt _ (by omega)
theorem remN_zero (b : Nat) : remN 0 b = [] := by rw [remN]; rfl
theorem remN_end {a b : Nat} (ha : a ≠ 0) (hb : b ≠ 0) (h : a % b = 0) : remN a b = [a, b] := by rw [remN, if_neg ha, if_neg hb, if_pos h]
theorem remN_step {a b : Nat} (ha : a ≠ 0) (hb : b ≠ 0) (h : a % b ≠ 0) : remN a b = a :: remN b (a % b) := by rw [remN, if_neg ha, if_neg hb, if_neg h]
theorem remN_gcd : ∀ (m : Nat) {a b d : Nat}, b ≤ m → b ≠ 0 → (a = 0 → d = b) → (remN a b).getLastD d = Nat.gcd a b := by
  intro m
  induction m with
  | zero => intro a b d h1 h2; omega
  | succ m ih =>
    intro a b d h1 h2 hd
    by_cases ha : a = 0
    · subst ha; rw [remN_zero, Nat.gcd_zero_left, hd rfl]; rfl
    · by_cases h : a % b = 0
      · rw [remN_end ha h2 h]
        show b = _
        rw [Nat.gcd_comm, Nat.gcd_rec, h, Nat.gcd_zero_left]
      · rw [remN_step ha h2 h, List.getLastD_cons, ih (by have := Nat.mod_lt a (show 0 < b by omega); omega) h (fun e => absurd e h2)]
        rw [Nat.gcd_comm b, ← Nat.gcd_rec, Nat.gcd_comm]
theorem tmod_nat (a b : Nat) : ((a : Int)).tmod (b : Int) = ((a % b : Nat) : Int) := by
  rw [Int.tmod_eq_emod_of_nonneg (by omega)]; rfl
theorem mul_b {a b : Int} (ha : -1073741824 ≤ a ∧ a ≤ 1073741824) (hb : -1073741824 ≤ b ∧ b ≤ 1073741824) : -9223372036854775808 ≤ a * b ∧ a * b ≤ 9223372036854775807 := by
  have h1 : (a * b).natAbs ≤ 1073741824 * 1073741824 := by
    rw [Int.natAbs_mul]
    exact Nat.mul_le_mul (by omega) (by omega)
  omega
def ratE (n d : Int) : Int := if ratF n d then 0 else 120
theorem ratF_in {n d : Int} (h : ratF n d = true) : (1 ≤ d ∧ d ≤ 1073741824) ∧ -1073741824 ≤ n ∧ n ≤ 1073741824 := by
  unfold ratF at h
  simp at h
  omega
theorem mag_gcd (n d : Int) : Nat.gcd (magI n).toNat d.toNat = Int.gcd n d.toNat := by
  unfold Int.gcd magI
  congr 1
  split <;> omega
theorem maxI_one {b : Nat} (h : 0 < b) : maxI (b : Int) 1 = (b : Int) := by
  unfold maxI
  split <;> omega
theorem rem_pre {a0 b0 a b : Nat} {pre : List Nat} (h : remN a0 b0 = pre ++ remN a b) (ha : a ≠ 0) : pre ++ [a] <+: remN a0 b0 := by
  rw [h, remN, if_neg ha]
  have key : ∀ l : List Nat, pre ++ [a] <+: pre ++ a :: l := fun l => ⟨l, by simp⟩
  split
  · exact key _
  · split <;> exact key _
theorem last_snoc {l : List Nat} {x d : Nat} : (l ++ [x]).getLastD d = x := by simp [List.getLastD_eq_getLast?]
theorem rat_bad {n d : Int} (h : ((((decide (d < 1) || decide (d > 1073741824)) || decide (n < -1073741824)) || decide (n > 1073741824)) || (gcdI n d != 1)) = true) : ratF n d = false := by unfold ratF; rw [h]; rfl
theorem rat_good {n d : Int} (h : ((((decide (d < 1) || decide (d > 1073741824)) || decide (n < -1073741824)) || decide (n > 1073741824)) || (gcdI n d != 1)) = false) : ratF n d = true := by unfold ratF; rw [h]; rfl
/-! ### Fields as cells -/
def foF (f : Int) : Nat := if f = 1 then 1 else if f = 2 then 2 else if f = 3 then 3 else if f = 4 then 5 else if f = 5 then 6 else if f = 6 then 7 else if f = 7 then 8 else 9
def getF (x : Sg) (f : Int) : Int := if f = 1 then x.role else if f = 2 then x.bar else if f = 3 then x.mark else if f = 4 then x.side else if f = 5 then x.dir else if f = 6 then x.level else if f = 7 then x.size else x.wth
def numL (b : Nat) : List Value := [.pointer none, .pointer (some ⟨b, 0 + 1, none⟩), .pointer (some ⟨b, 0 + 2, none⟩), .pointer (some ⟨b, 0 + 3, none⟩), .pointer (some ⟨b, 0 + 5, none⟩), .pointer (some ⟨b, 0 + 6, none⟩), .pointer (some ⟨b, 0 + 7, none⟩), .pointer (some ⟨b, 0 + 8, none⟩), .pointer (some ⟨b, 0 + 9, none⟩)]
theorem isN_cases {f : Int} (h : 1 ≤ f ∧ f ≤ 8) : f = 1 ∨ f = 2 ∨ f = 3 ∨ f = 4 ∨ f = 5 ∨ f = 6 ∨ f = 7 ∨ f = 8 := by omega
theorem num_at {f : Int} (h : 1 ≤ f ∧ f ≤ 8) (b : Nat) : (numL b)[f.toNat * 1]? = some (.pointer (some ⟨b, foF f, none⟩)) := by
  rcases isN_cases h with rfl | rfl | rfl | rfl | rfl | rfl | rfl | rfl <;> rfl
theorem cell_fo {f : Int} (h : 1 ≤ f ∧ f ≤ 8) (x : Sg) : lget (encG x) (foF f) = some (.int .i64 (getF x f)) := by
  rcases isN_cases h with rfl | rfl | rfl | rfl | rfl | rfl | rfl | rfl <;> rfl
theorem fo_lt {f : Int} : Nat.blt (foF f) 14 = true := by
  unfold foF
  repeat' split
  all_goals rfl
theorem set_fo {f : Int} (h : 1 ≤ f ∧ f ≤ 8) (x y : Sg) : (encG x).toArray.setIfInBounds (foF f) (.int .i64 (getF y f)) = (encG (setG x f y)).toArray := by
  rcases isN_cases h with rfl | rfl | rfl | rfl | rfl | rfl | rfl | rfl <;> rfl
def lastI (v : List Int) (k : Nat) (l : Int) : Prop := (k = 0 → l = 0) ∧ ∀ y, v[k - 1]? = some y → k ≠ 0 → l = y
theorem lastI_step {v : List Int} {k : Nat} {x : Int} (hx : v[k]? = some x) : lastI v (k + 1) x := ⟨fun h => by omega, fun y hy _ => by simp at hy; rw [hx] at hy; cases hy; rfl⟩
theorem nd_at {id : Int} {v : List Int} {k : Nat} {l x : Int} (hall : (List.range k).all (ndP id v) = true) (hl : lastI v k l) (hx : v[k]? = some x) : ndP id v k = !(decide (x ≤ l) || decide (x ≥ id)) := by
  unfold ndP
  rw [getD_of hx]
  cases k with
  | zero =>
    rw [hl.1 rfl]
    rw [Bool.eq_iff_iff]; simp; omega
  | succ k =>
    have hk := (List.getElem?_eq_some_iff.1 hx).1
    have hy : v[k]? = some (v[k]'(by omega)) := List.getElem?_eq_getElem _
    have e := hl.2 _ (by rw [Nat.add_sub_cancel]; exact hy) (by omega)
    rw [show (((k + 1 : Nat) : Int) - 1).toNat = k by omega, getD_of hy, ← e]
    have h1 : 1 ≤ l := by
      rw [List.all_eq_true] at hall
      have := hall k (List.mem_range.2 (by omega))
      unfold ndP at this
      rw [getD_of hy] at this
      simp at this
      omega
    rw [Bool.eq_iff_iff]; simp; omega
theorem pchk_1 {p : Pt} (h : p.needs.length > 32) : pchk p = 2 := by unfold pchk; rw [if_pos h]
theorem pchk_2 {p : Pt} (h : ¬ p.needs.length > 32) (h2 : ndB p.id p.needs = false) : pchk p = 370 := by unfold pchk; rw [if_neg h, h2]; rfl
theorem pchk_3 {p : Pt} (h : ¬ p.needs.length > 32) (h2 : ndB p.id p.needs = true) (h3 : (idB p && kndB p) = false) : pchk p = 370 := by unfold pchk; rw [if_neg h, h2, h3]; rfl
theorem pchk_4 {p : Pt} (h : ¬ p.needs.length > 32) (h2 : ndB p.id p.needs = true) (h3 : (idB p && kndB p) = true) : pchk p = 0 := by unfold pchk; rw [if_neg h, h2, h3]; rfl
theorem knd_1 {p : Pt} (h : p.kind = 1) (h2 : within p.field 1 9 = true) : kndB p = (sgEq (setG p.nw p.field zeroG) zeroG && frm (setG plainG p.field p.nw)) := by unfold kndB; rw [if_pos h, h2, Bool.true_and]
theorem knd_1n {p : Pt} (h : p.kind = 1) (h2 : within p.field 1 9 = false) : (idB p && kndB p) = false := by unfold kndB; rw [if_pos h, h2, Bool.false_and, Bool.and_false]
theorem knd_2 {p : Pt} (h : p.kind = 2) : kndB p = (p.field == 0 && (p.nw.id == p.sign && frm p.nw)) := by unfold kndB; rw [if_neg (by omega), if_pos h]
theorem knd_3 {p : Pt} (h : p.kind = 3) : kndB p = (p.field == 0 && sgEq p.nw zeroG) := by unfold kndB; rw [if_neg (by omega), if_neg (by omega), if_pos h]
theorem knd_4 {p : Pt} (h1 : p.kind ≠ 1) (h2 : p.kind ≠ 2) (h3 : p.kind ≠ 3) : (idB p && kndB p) = false := by unfold kndB; rw [if_neg h1, if_neg h2, if_neg h3, Bool.and_false]
theorem span_eq {fn fd tn td : Int} : (ratE fn fd != 0 || ratE tn td != 0) = !(ratF fn fd && ratF tn td) := by
  unfold ratE
  cases ratF fn fd <;> cases ratF tn td <;> rfl
def cmpE (an ad bn bd : Int) : Int := if ratF an ad && ratF bn bd then 0 else 120
def cmpV (an ad bn bd : Int) : Int := if ratF an ad && ratF bn bd then cmpF (an * bd) (bn * ad) else 0
theorem fine_eq {fn fd tn td : Int} : (((cmpE fn fd tn td == 0) && decide (cmpV fn fd tn td < 0)) && decide (fn ≥ 0) && decide (tn ≤ td)) = spanF fn fd tn td := by
  unfold cmpE cmpV spanF cmpF
  cases h : (ratF fn fd && ratF tn td) with
  | false => rfl
  | true =>
    simp only [if_true, Bool.true_and]
    by_cases h2 : fn * td < tn * fd
    · simp [h2, Bool.and_assoc]
    · by_cases h3 : fn * td > tn * fd <;> simp [h2, h3]
theorem skP_at {xs : List Sg} {k : Nat} {x : Sg} (hx : xs[k]? = some x) : skP xs k = !(!frm x || (decide ((k : Int) > 0) && decide ((xs.getD ((k : Int) - 1).toNat zeroG).id ≥ x.id))) := by unfold skP; rw [getD_of hx]
end Go.Proofs.YtehkiccapbkhnaaGreat
end
section
namespace Go.Proofs.YtehkiccapbkhnaaGreat
open Go Go.Kn Go.Proofs
theorem w_nan (I : HMap) (x : Int) : RetV Tryz.prog 109 [.int .i64 x] I (.bool false) := by
 intro g H w hw
 refine enter Tryz.func109 rfl Tryz.ntmps109 rfl hw ?_
 refine zR ?_
 refine zA ?_
 refine zN (zR ?_)
 refine zM ?_
 refine zM ?_
 refine zC ?_
 refine zA ?_
 refine zN ?_
 refine X_ret ?_
 exact at_ret1 rfl rfl (fun w hw => ⟨by simp, hw.drop⟩)
theorem w_cmp (I : HMap) (x y : Int) : RetV Tryz.prog 130 [.int .i64 x, .int .i64 y] I (.int .i64 (cmpF x y)) := by
 intro g H w hw
 refine enter Tryz.func130 rfl Tryz.ntmps130 rfl hw ?_
 refine zR ?_
 refine zA ?_
 refine zN (zR ?_)
 refine zM ?_
 refine XO_callV0 (cap := []) (vs := [_]) rfl rfl fun_109 (w_nan I _) rfl rfl ?_
 refine zA ?_
 refine zN (zR ?_)
 refine zM ?_
 refine XO_callV0 (cap := []) (vs := [_]) rfl rfl fun_109 (w_nan I _) rfl rfl ?_
 refine zA ?_
 refine zN ?_
 refine X_seq ?_
 refine zR ?_
 refine zM ?_
 refine zN ?_
 refine X_cond rfl (fun hc11 => ?_) (fun hc11 => ?_)
 ·
  cases hc11
 refine X_skip ?_
 refine at_then ?_
 refine X_seq ?_
 refine zR ?_
 refine zM ?_
 refine zN ?_
 refine X_cond rfl (fun hc13 => ?_) (fun hc13 => ?_)
 ·
  cases hc13
 refine X_skip ?_
 refine at_then ?_
 refine X_seq ?_
 refine zR ?_
 refine zM ?_
 refine zM ?_
 refine zC ?_
 refine zN ?_
 refine X_cond rfl (fun hc16 => ?_) (fun hc16 => ?_)
 ·
  refine zR ?_
  refine zA ?_
  refine zN ?_
  refine X_ret ?_
  refine at_then_r ?_
  exact at_ret1 rfl rfl (fun w hw => ⟨by unfold cmpF; first | (rw [if_pos (by simpa using hc16)]) | (rw [if_neg (by simpa using hc16), if_pos (by simpa using hc19)]) | (rw [if_neg (by simpa using hc16), if_neg (by simpa using hc19)]), hw.drop⟩)
 refine X_skip ?_
 refine at_then ?_
 refine X_seq ?_
 refine zR ?_
 refine zM ?_
 refine zM ?_
 refine zC ?_
 refine zN ?_
 refine X_cond rfl (fun hc19 => ?_) (fun hc19 => ?_)
 ·
  refine zR ?_
  refine zA ?_
  refine zN ?_
  refine X_ret ?_
  refine at_then_r ?_
  exact at_ret1 rfl rfl (fun w hw => ⟨by unfold cmpF; first | (rw [if_pos (by simpa using hc16)]) | (rw [if_neg (by simpa using hc16), if_pos (by simpa using hc19)]) | (rw [if_neg (by simpa using hc16), if_neg (by simpa using hc19)]), hw.drop⟩)
 refine X_skip ?_
 refine at_then ?_
 refine zR ?_
 refine zA ?_
 refine zN ?_
 refine X_ret ?_
 exact at_ret1 rfl rfl (fun w hw => ⟨by unfold cmpF; first | (rw [if_pos (by simpa using hc16)]) | (rw [if_neg (by simpa using hc16), if_pos (by simpa using hc19)]) | (rw [if_neg (by simpa using hc16), if_neg (by simpa using hc19)]), hw.drop⟩)
theorem w_mag (I : HMap) (n : Int) (hn : -1073741824 ≤ n ∧ n ≤ 1073741824) : RetV Tryz.prog 172 [.int .i64 n] I (.int .u64 (magI n)) := by
 intro g H w hw
 refine enter Tryz.func172 rfl Tryz.ntmps172 rfl hw ?_
 refine zR ?_
 refine zA ?_
 refine zN ?_
 refine X_seq ?_
 refine zR ?_
 refine zM ?_
 refine zC ?_
 refine zN ?_
 refine X_cond rfl (fun hc4 => ?_) (fun hc4 => ?_)
 ·
  refine zR ?_
  refine zM ?_
  refine XO_v0 (ev_convI rfl cvt_3_116) rfl rfl rfl ?_
  refine XO_v0 (ev_negU rfl) rfl rfl rfl ?_
  refine zA ?_
  refine zN ?_
  refine X_ret ?_
  refine at_then_r ?_
  exact at_ret1 rfl rfl (fun w hw => ⟨by rw [mag_neg hn (by simpa using hc4)], hw.drop⟩)
 refine X_skip ?_
 refine at_then ?_
 refine zR ?_
 refine zM ?_
 refine XO_v0 (ev_convI rfl cvt_3_116) rfl rfl rfl ?_
 refine zA ?_
 refine zN ?_
 refine X_ret ?_
 exact at_ret1 rfl rfl (fun w hw => ⟨by rw [mag_pos hn (by simpa using hc4)], hw.drop⟩)
theorem w_rem (I : HMap) (a b : Int) : RetM Tryz.prog 175 [.int .u64 a, .int .u64 b] I [] (fun v I' L => I' = I ∧ ∃ b1 b2, v = .func (.func 177) #[] [capP b1, capP b2].toArray ∧ L = remL 116 b1 b2 a b) := by
 intro g H w hw
 refine enter Tryz.func175 rfl Tryz.ntmps175 rfl hw ?_
 refine zR ?_
 refine XO_box rfl rfl rfl (fun b_2 => ?_)
 refine XO_box rfl rfl rfl (fun b_3 => ?_)
 refine zA ?_
 refine zN (zR ?_)
 refine XO_v0 (ev_makeFunc (us := []) (vs := [_, _]) rfl rfl) rfl rfl rfl ?_
 refine zA ?_
 refine zN ?_
 refine X_ret ?_
 exact at_ret1 rfl rfl (fun w hw => ⟨_, I, _, rfl, HLe.refl _, hw, rfl, _, _, rfl, rfl⟩)
theorem w_euclid (I : HMap) (a0 b0 : Nat) (b1 b2 : Nat) (hb0 : 0 < b0) (ha1 : a0 ≤ 9223372036854775807) (hb1 : b0 ≤ 9223372036854775807) : SeqL Tryz.prog 177 [capP b1, capP b2] I (remL 116 b1 b2 (a0) (b0)) (fun n : Nat => .int .u64 n) (remN a0 b0) := by
 intro g l J Jx hY I0 H w h0 hJ hw
 refine enter Tryz.func177 rfl Tryz.ntmps177 rfl hw ?_
 refine X_block ?_
 refine X_loopH (fun m E I' H' loc' => ∃ (a b : Nat) (pre : List Nat), m = b ∧ E = [(0, .func (.yield l) #[] #[]), (1, capP b1), (2, capP b2)] ∧ loc' = remL 116 b1 b2 (a) (b) ∧ HLe I0 I' ∧ J pre I' H' ∧ remN a0 b0 = pre ++ remN a b ∧ 0 < b ∧ a ≤ 9223372036854775807 ∧ b ≤ 9223372036854775807) _ _ _ ⟨a0, b0, [], rfl, rfl, rfl, HLe.refl _, hJ, rfl, hb0, ha1, hb1⟩ (.cons rfl (.cons rfl (.cons rfl .nil))) rfl ?_
 rintro m E I' H' loc' ⟨a, b, pre, hmb, rfl, rfl, hI1, hJk, hrem, hbp, hal, hbl⟩
 subst m
 have hI0 := h0.trans hI1
 refine X_seq ?_
 refine zR ?_
 refine zL sct_116 ?_
 refine zC ?_
 refine zM ?_
 refine XO_pushT 2 rfl rfl rfl ?_
 refine XO_v1 (ev_move rfl) (.some rfl rfl rfl rfl gbt) rfl rfl rfl ?_
 refine XO_v1 (ev_load rfl sct_116 (fun hg => by repeat (first | exact Cell.here rfl | apply Cell.there | apply Cell.app))) (.some rfl rfl rfl rfl gbt) rfl rfl rfl ?_
 refine XO_yield1 (vs := [_]) (Post := fun t I2 H2 => if t then J (pre ++ [a]) I2 H2 else Jx (pre ++ [a]) I2 H2) rfl rfl (.some rfl rfl rfl rfl gbt) rfl rfl (fun hcj => hY pre a _ _ (rem_pre hrem (by simpa [conj] using hcj)) hI0 hJk) ?_
 rintro t I2 H2 hI2 hyes hno
 refine XO_and0 rfl rfl rfl rfl rfl ?_
 refine zN ?_
 refine X_cond rfl (fun hc10 => ?_) (fun hc10 => ?_)
 ·
  have ha0 : a ≠ 0 := by simp at hc10; exact hc10.1
  have ht : t = true := by simp at hc10; exact hc10.2
  subst ht
  have hJ1 : J (pre ++ [a]) I2 H2 := hyes (by simp [conj]; exact ha0)
  refine X_skip ?_
  refine at_then ?_
  refine X_block ?_
  refine X_seq ?_
  have hD := HLe.refl I2
  refine X_noP ?_
  refine X_drawS I2 [] mixed ?_
  refine XD_three 0 1 2 rfl rfl rfl (by kernel_rfl) ?_ ?_ ?_
  ·
   refine zL sct_116 ?_
   refine XO_nil ?_
   refine zD hD ?_
   refine XD_two 1 2 rfl rfl (by kernel_rfl) ?_ ?_
   ·
    refine zL sct_116 ?_
    refine XO_nil ?_
    refine zD hD ?_
    refine XD_two 2 5 rfl rfl (by kernel_rfl) ?_ ?_
    ·
     refine zL sct_116 ?_
     refine XO_nil ?_
     refine zD hD ?_
     refine XD_two 3 5 rfl rfl (by kernel_rfl) ?_ ?_
     ·
      refine XO_v0 (ev_max rfl rfl) rfl rfl rfl ?_
      refine XO_nil ?_
      refine zD hD ?_
      refine XD_two 4 5 rfl rfl (by kernel_rfl) ?_ ?_
      ·
       refine XO_v0 (ev_rem rfl rfl (fun hg => by rw [maxI_one hbp]; omega)) rfl rfl rfl ?_
       refine XO_nil ?_
       refine zD hD ?_
       refine XD_one 5 rfl (by kernel_rfl) ?_
       refine zS szt_116 ?_
       refine XO_nil ?_
       refine zD hD ?_
       refine XD_one 6 rfl (by kernel_rfl) ?_
       refine zS szt_116 ?_
       refine XO_nil ?_
       refine zD hD ?_
       refine XD_done (by kernel_rfl) ?_
       refine at_noP ?_
       rw [show ((a : Int)).tmod (maxI (b : Int) 1) = ((a % b : Nat) : Int) by rw [maxI_one hbp, tmod_nat]]
       refine at_then ?_
       refine zR ?_
       refine zL sct_116 ?_
       refine zC ?_
       refine zN ?_
       refine X_cond rfl (fun hc17 => ?_) (fun hc17 => ?_)
       ·
        have hab : a % b = 0 := by have h := hc17; simp only [beq_iff_eq] at h; omega
        have hpre2 : (pre ++ [a]) ++ [b] <+: remN a0 b0 := by rw [hrem, remN_end ha0 (by omega) hab, List.append_assoc]; exact List.prefix_rfl
        refine zR ?_
        refine zM ?_
        refine zL sct_116 ?_
        refine XO_yield0 (vs := [_]) (Post := fun t I3 H3 => if t then J ((pre ++ [a]) ++ [b]) I3 H3 else Jx ((pre ++ [a]) ++ [b]) I3 H3) rfl rfl rfl rfl (hY (pre ++ [a]) b _ _ hpre2 (hI0.trans hI2) hJ1) ?_
        rintro t3 I3 H3 hI3 hP3
        refine zN ?_
        refine X_ret ?_
        refine at_block_r ?_
        refine at_then_r ?_
        refine at_block_r ?_
        first
        | (refine at_ret0 rfl (fun w hw => ⟨_, I3, H3, rfl, hI1.trans (hI2.trans hI3), hw.drop, ?_⟩); cases t3 with | true => exact .inl (by rw [hrem, remN_end ha0 (by omega) hab]; simpa using hP3) | false => exact .inr ⟨_, hpre2, hP3⟩)
       have hab : a % b ≠ 0 := by have h := hc17; simp only [beq_eq_false_iff_ne, ne_eq] at h; omega
       refine X_skip ?_
       refine at_block_n ?_
       exact at_metH2 rfl rfl rfl _ (remL 116 b1 b2 (b) (((a % b : Nat) : Int))) ⟨a % b, Nat.mod_lt _ hbp, b, a % b, pre ++ [a], rfl, rfl, rfl, hI1.trans hI2, hJ1, by rw [hrem, remN_step ha0 (by omega) hab, List.append_assoc]; rfl, by omega, by omega, by have := Nat.mod_lt a hbp; omega⟩ (.cons rfl (.cons rfl (.cons rfl .nil))) .refl
      refine zS szt_116 ?_
      refine XO_nil ?_
      refine zD hD ?_
      refine XD_one 4 rfl (by kernel_rfl) ?_
      refine XO_v0 (ev_rem rfl rfl (fun hg => by rw [maxI_one hbp]; omega)) rfl rfl rfl ?_
      refine XO_nil ?_
      refine zD hD ?_
      refine XD_one 6 rfl (by kernel_rfl) ?_
      refine zS szt_116 ?_
      refine XO_nil ?_
      refine zD hD ?_
      refine XD_done (by kernel_rfl) ?_
      refine at_noP ?_
      rw [show ((a : Int)).tmod (maxI (b : Int) 1) = ((a % b : Nat) : Int) by rw [maxI_one hbp, tmod_nat]]
      refine at_then ?_
      refine zR ?_
      refine zL sct_116 ?_
      refine zC ?_
      refine zN ?_
      refine X_cond rfl (fun hc17 => ?_) (fun hc17 => ?_)
      ·
       have hab : a % b = 0 := by have h := hc17; simp only [beq_iff_eq] at h; omega
       have hpre2 : (pre ++ [a]) ++ [b] <+: remN a0 b0 := by rw [hrem, remN_end ha0 (by omega) hab, List.append_assoc]; exact List.prefix_rfl
       refine zR ?_
       refine zM ?_
       refine zL sct_116 ?_
       refine XO_yield0 (vs := [_]) (Post := fun t I3 H3 => if t then J ((pre ++ [a]) ++ [b]) I3 H3 else Jx ((pre ++ [a]) ++ [b]) I3 H3) rfl rfl rfl rfl (hY (pre ++ [a]) b _ _ hpre2 (hI0.trans hI2) hJ1) ?_
       rintro t3 I3 H3 hI3 hP3
       refine zN ?_
       refine X_ret ?_
       refine at_block_r ?_
       refine at_then_r ?_
       refine at_block_r ?_
       first
       | (refine at_ret0 rfl (fun w hw => ⟨_, I3, H3, rfl, hI1.trans (hI2.trans hI3), hw.drop, ?_⟩); cases t3 with | true => exact .inl (by rw [hrem, remN_end ha0 (by omega) hab]; simpa using hP3) | false => exact .inr ⟨_, hpre2, hP3⟩)
      have hab : a % b ≠ 0 := by have h := hc17; simp only [beq_eq_false_iff_ne, ne_eq] at h; omega
      refine X_skip ?_
      refine at_block_n ?_
      exact at_metH2 rfl rfl rfl _ (remL 116 b1 b2 (b) (((a % b : Nat) : Int))) ⟨a % b, Nat.mod_lt _ hbp, b, a % b, pre ++ [a], rfl, rfl, rfl, hI1.trans hI2, hJ1, by rw [hrem, remN_step ha0 (by omega) hab, List.append_assoc]; rfl, by omega, by omega, by have := Nat.mod_lt a hbp; omega⟩ (.cons rfl (.cons rfl (.cons rfl .nil))) .refl
     refine zS szt_116 ?_
     refine XO_nil ?_
     refine zD hD ?_
     refine XD_one 3 rfl (by kernel_rfl) ?_
     refine XO_v0 (ev_max rfl rfl) rfl rfl rfl ?_
     refine XO_nil ?_
     refine zD hD ?_
     refine XD_one 4 rfl (by kernel_rfl) ?_
     refine XO_v0 (ev_rem rfl rfl (fun hg => by rw [maxI_one hbp]; omega)) rfl rfl rfl ?_
     refine XO_nil ?_
     refine zD hD ?_
     refine XD_one 6 rfl (by kernel_rfl) ?_
     refine zS szt_116 ?_
     refine XO_nil ?_
     refine zD hD ?_
     refine XD_done (by kernel_rfl) ?_
     refine at_noP ?_
     rw [show ((a : Int)).tmod (maxI (b : Int) 1) = ((a % b : Nat) : Int) by rw [maxI_one hbp, tmod_nat]]
     refine at_then ?_
     refine zR ?_
     refine zL sct_116 ?_
     refine zC ?_
     refine zN ?_
     refine X_cond rfl (fun hc17 => ?_) (fun hc17 => ?_)
     ·
      have hab : a % b = 0 := by have h := hc17; simp only [beq_iff_eq] at h; omega
      have hpre2 : (pre ++ [a]) ++ [b] <+: remN a0 b0 := by rw [hrem, remN_end ha0 (by omega) hab, List.append_assoc]; exact List.prefix_rfl
      refine zR ?_
      refine zM ?_
      refine zL sct_116 ?_
      refine XO_yield0 (vs := [_]) (Post := fun t I3 H3 => if t then J ((pre ++ [a]) ++ [b]) I3 H3 else Jx ((pre ++ [a]) ++ [b]) I3 H3) rfl rfl rfl rfl (hY (pre ++ [a]) b _ _ hpre2 (hI0.trans hI2) hJ1) ?_
      rintro t3 I3 H3 hI3 hP3
      refine zN ?_
      refine X_ret ?_
      refine at_block_r ?_
      refine at_then_r ?_
      refine at_block_r ?_
      first
      | (refine at_ret0 rfl (fun w hw => ⟨_, I3, H3, rfl, hI1.trans (hI2.trans hI3), hw.drop, ?_⟩); cases t3 with | true => exact .inl (by rw [hrem, remN_end ha0 (by omega) hab]; simpa using hP3) | false => exact .inr ⟨_, hpre2, hP3⟩)
     have hab : a % b ≠ 0 := by have h := hc17; simp only [beq_eq_false_iff_ne, ne_eq] at h; omega
     refine X_skip ?_
     refine at_block_n ?_
     exact at_metH2 rfl rfl rfl _ (remL 116 b1 b2 (b) (((a % b : Nat) : Int))) ⟨a % b, Nat.mod_lt _ hbp, b, a % b, pre ++ [a], rfl, rfl, rfl, hI1.trans hI2, hJ1, by rw [hrem, remN_step ha0 (by omega) hab, List.append_assoc]; rfl, by omega, by omega, by have := Nat.mod_lt a hbp; omega⟩ (.cons rfl (.cons rfl (.cons rfl .nil))) .refl
    refine zS szt_116 ?_
    refine XO_nil ?_
    refine zD hD ?_
    refine XD_one 2 rfl (by kernel_rfl) ?_
    refine zL sct_116 ?_
    refine XO_nil ?_
    refine zD hD ?_
    refine XD_one 3 rfl (by kernel_rfl) ?_
    refine XO_v0 (ev_max rfl rfl) rfl rfl rfl ?_
    refine XO_nil ?_
    refine zD hD ?_
    refine XD_one 4 rfl (by kernel_rfl) ?_
    refine XO_v0 (ev_rem rfl rfl (fun hg => by rw [maxI_one hbp]; omega)) rfl rfl rfl ?_
    refine XO_nil ?_
    refine zD hD ?_
    refine XD_one 6 rfl (by kernel_rfl) ?_
    refine zS szt_116 ?_
    refine XO_nil ?_
    refine zD hD ?_
    refine XD_done (by kernel_rfl) ?_
    refine at_noP ?_
    rw [show ((a : Int)).tmod (maxI (b : Int) 1) = ((a % b : Nat) : Int) by rw [maxI_one hbp, tmod_nat]]
    refine at_then ?_
    refine zR ?_
    refine zL sct_116 ?_
    refine zC ?_
    refine zN ?_
    refine X_cond rfl (fun hc17 => ?_) (fun hc17 => ?_)
    ·
     have hab : a % b = 0 := by have h := hc17; simp only [beq_iff_eq] at h; omega
     have hpre2 : (pre ++ [a]) ++ [b] <+: remN a0 b0 := by rw [hrem, remN_end ha0 (by omega) hab, List.append_assoc]; exact List.prefix_rfl
     refine zR ?_
     refine zM ?_
     refine zL sct_116 ?_
     refine XO_yield0 (vs := [_]) (Post := fun t I3 H3 => if t then J ((pre ++ [a]) ++ [b]) I3 H3 else Jx ((pre ++ [a]) ++ [b]) I3 H3) rfl rfl rfl rfl (hY (pre ++ [a]) b _ _ hpre2 (hI0.trans hI2) hJ1) ?_
     rintro t3 I3 H3 hI3 hP3
     refine zN ?_
     refine X_ret ?_
     refine at_block_r ?_
     refine at_then_r ?_
     refine at_block_r ?_
     first
     | (refine at_ret0 rfl (fun w hw => ⟨_, I3, H3, rfl, hI1.trans (hI2.trans hI3), hw.drop, ?_⟩); cases t3 with | true => exact .inl (by rw [hrem, remN_end ha0 (by omega) hab]; simpa using hP3) | false => exact .inr ⟨_, hpre2, hP3⟩)
    have hab : a % b ≠ 0 := by have h := hc17; simp only [beq_eq_false_iff_ne, ne_eq] at h; omega
    refine X_skip ?_
    refine at_block_n ?_
    exact at_metH2 rfl rfl rfl _ (remL 116 b1 b2 (b) (((a % b : Nat) : Int))) ⟨a % b, Nat.mod_lt _ hbp, b, a % b, pre ++ [a], rfl, rfl, rfl, hI1.trans hI2, hJ1, by rw [hrem, remN_step ha0 (by omega) hab, List.append_assoc]; rfl, by omega, by omega, by have := Nat.mod_lt a hbp; omega⟩ (.cons rfl (.cons rfl (.cons rfl .nil))) .refl
   refine zL sct_116 ?_
   refine XO_nil ?_
   refine zD hD ?_
   refine XD_two 1 3 rfl rfl (by kernel_rfl) ?_ ?_
   ·
    refine zL sct_116 ?_
    refine XO_nil ?_
    refine zD hD ?_
    refine XD_two 3 5 rfl rfl (by kernel_rfl) ?_ ?_
    ·
     refine XO_v0 (ev_max rfl rfl) rfl rfl rfl ?_
     refine XO_nil ?_
     refine zD hD ?_
     refine XD_two 4 5 rfl rfl (by kernel_rfl) ?_ ?_
     ·
      refine XO_v0 (ev_rem rfl rfl (fun hg => by rw [maxI_one hbp]; omega)) rfl rfl rfl ?_
      refine XO_nil ?_
      refine zD hD ?_
      refine XD_one 5 rfl (by kernel_rfl) ?_
      refine zS szt_116 ?_
      refine XO_nil ?_
      refine zD hD ?_
      refine XD_one 6 rfl (by kernel_rfl) ?_
      refine zS szt_116 ?_
      refine XO_nil ?_
      refine zD hD ?_
      refine XD_done (by kernel_rfl) ?_
      refine at_noP ?_
      rw [show ((a : Int)).tmod (maxI (b : Int) 1) = ((a % b : Nat) : Int) by rw [maxI_one hbp, tmod_nat]]
      refine at_then ?_
      refine zR ?_
      refine zL sct_116 ?_
      refine zC ?_
      refine zN ?_
      refine X_cond rfl (fun hc17 => ?_) (fun hc17 => ?_)
      ·
       have hab : a % b = 0 := by have h := hc17; simp only [beq_iff_eq] at h; omega
       have hpre2 : (pre ++ [a]) ++ [b] <+: remN a0 b0 := by rw [hrem, remN_end ha0 (by omega) hab, List.append_assoc]; exact List.prefix_rfl
       refine zR ?_
       refine zM ?_
       refine zL sct_116 ?_
       refine XO_yield0 (vs := [_]) (Post := fun t I3 H3 => if t then J ((pre ++ [a]) ++ [b]) I3 H3 else Jx ((pre ++ [a]) ++ [b]) I3 H3) rfl rfl rfl rfl (hY (pre ++ [a]) b _ _ hpre2 (hI0.trans hI2) hJ1) ?_
       rintro t3 I3 H3 hI3 hP3
       refine zN ?_
       refine X_ret ?_
       refine at_block_r ?_
       refine at_then_r ?_
       refine at_block_r ?_
       first
       | (refine at_ret0 rfl (fun w hw => ⟨_, I3, H3, rfl, hI1.trans (hI2.trans hI3), hw.drop, ?_⟩); cases t3 with | true => exact .inl (by rw [hrem, remN_end ha0 (by omega) hab]; simpa using hP3) | false => exact .inr ⟨_, hpre2, hP3⟩)
      have hab : a % b ≠ 0 := by have h := hc17; simp only [beq_eq_false_iff_ne, ne_eq] at h; omega
      refine X_skip ?_
      refine at_block_n ?_
      exact at_metH2 rfl rfl rfl _ (remL 116 b1 b2 (b) (((a % b : Nat) : Int))) ⟨a % b, Nat.mod_lt _ hbp, b, a % b, pre ++ [a], rfl, rfl, rfl, hI1.trans hI2, hJ1, by rw [hrem, remN_step ha0 (by omega) hab, List.append_assoc]; rfl, by omega, by omega, by have := Nat.mod_lt a hbp; omega⟩ (.cons rfl (.cons rfl (.cons rfl .nil))) .refl
     refine zS szt_116 ?_
     refine XO_nil ?_
     refine zD hD ?_
     refine XD_one 4 rfl (by kernel_rfl) ?_
     refine XO_v0 (ev_rem rfl rfl (fun hg => by rw [maxI_one hbp]; omega)) rfl rfl rfl ?_
     refine XO_nil ?_
     refine zD hD ?_
     refine XD_one 6 rfl (by kernel_rfl) ?_
     refine zS szt_116 ?_
     refine XO_nil ?_
     refine zD hD ?_
     refine XD_done (by kernel_rfl) ?_
     refine at_noP ?_
     rw [show ((a : Int)).tmod (maxI (b : Int) 1) = ((a % b : Nat) : Int) by rw [maxI_one hbp, tmod_nat]]
     refine at_then ?_
     refine zR ?_
     refine zL sct_116 ?_
     refine zC ?_
     refine zN ?_
     refine X_cond rfl (fun hc17 => ?_) (fun hc17 => ?_)
     ·
      have hab : a % b = 0 := by have h := hc17; simp only [beq_iff_eq] at h; omega
      have hpre2 : (pre ++ [a]) ++ [b] <+: remN a0 b0 := by rw [hrem, remN_end ha0 (by omega) hab, List.append_assoc]; exact List.prefix_rfl
      refine zR ?_
      refine zM ?_
      refine zL sct_116 ?_
      refine XO_yield0 (vs := [_]) (Post := fun t I3 H3 => if t then J ((pre ++ [a]) ++ [b]) I3 H3 else Jx ((pre ++ [a]) ++ [b]) I3 H3) rfl rfl rfl rfl (hY (pre ++ [a]) b _ _ hpre2 (hI0.trans hI2) hJ1) ?_
      rintro t3 I3 H3 hI3 hP3
      refine zN ?_
      refine X_ret ?_
      refine at_block_r ?_
      refine at_then_r ?_
      refine at_block_r ?_
      first
      | (refine at_ret0 rfl (fun w hw => ⟨_, I3, H3, rfl, hI1.trans (hI2.trans hI3), hw.drop, ?_⟩); cases t3 with | true => exact .inl (by rw [hrem, remN_end ha0 (by omega) hab]; simpa using hP3) | false => exact .inr ⟨_, hpre2, hP3⟩)
     have hab : a % b ≠ 0 := by have h := hc17; simp only [beq_eq_false_iff_ne, ne_eq] at h; omega
     refine X_skip ?_
     refine at_block_n ?_
     exact at_metH2 rfl rfl rfl _ (remL 116 b1 b2 (b) (((a % b : Nat) : Int))) ⟨a % b, Nat.mod_lt _ hbp, b, a % b, pre ++ [a], rfl, rfl, rfl, hI1.trans hI2, hJ1, by rw [hrem, remN_step ha0 (by omega) hab, List.append_assoc]; rfl, by omega, by omega, by have := Nat.mod_lt a hbp; omega⟩ (.cons rfl (.cons rfl (.cons rfl .nil))) .refl
    refine zS szt_116 ?_
    refine XO_nil ?_
    refine zD hD ?_
    refine XD_one 3 rfl (by kernel_rfl) ?_
    refine XO_v0 (ev_max rfl rfl) rfl rfl rfl ?_
    refine XO_nil ?_
    refine zD hD ?_
    refine XD_one 4 rfl (by kernel_rfl) ?_
    refine XO_v0 (ev_rem rfl rfl (fun hg => by rw [maxI_one hbp]; omega)) rfl rfl rfl ?_
    refine XO_nil ?_
    refine zD hD ?_
    refine XD_one 6 rfl (by kernel_rfl) ?_
    refine zS szt_116 ?_
    refine XO_nil ?_
    refine zD hD ?_
    refine XD_done (by kernel_rfl) ?_
    refine at_noP ?_
    rw [show ((a : Int)).tmod (maxI (b : Int) 1) = ((a % b : Nat) : Int) by rw [maxI_one hbp, tmod_nat]]
    refine at_then ?_
    refine zR ?_
    refine zL sct_116 ?_
    refine zC ?_
    refine zN ?_
    refine X_cond rfl (fun hc17 => ?_) (fun hc17 => ?_)
    ·
     have hab : a % b = 0 := by have h := hc17; simp only [beq_iff_eq] at h; omega
     have hpre2 : (pre ++ [a]) ++ [b] <+: remN a0 b0 := by rw [hrem, remN_end ha0 (by omega) hab, List.append_assoc]; exact List.prefix_rfl
     refine zR ?_
     refine zM ?_
     refine zL sct_116 ?_
     refine XO_yield0 (vs := [_]) (Post := fun t I3 H3 => if t then J ((pre ++ [a]) ++ [b]) I3 H3 else Jx ((pre ++ [a]) ++ [b]) I3 H3) rfl rfl rfl rfl (hY (pre ++ [a]) b _ _ hpre2 (hI0.trans hI2) hJ1) ?_
     rintro t3 I3 H3 hI3 hP3
     refine zN ?_
     refine X_ret ?_
     refine at_block_r ?_
     refine at_then_r ?_
     refine at_block_r ?_
     first
     | (refine at_ret0 rfl (fun w hw => ⟨_, I3, H3, rfl, hI1.trans (hI2.trans hI3), hw.drop, ?_⟩); cases t3 with | true => exact .inl (by rw [hrem, remN_end ha0 (by omega) hab]; simpa using hP3) | false => exact .inr ⟨_, hpre2, hP3⟩)
    have hab : a % b ≠ 0 := by have h := hc17; simp only [beq_eq_false_iff_ne, ne_eq] at h; omega
    refine X_skip ?_
    refine at_block_n ?_
    exact at_metH2 rfl rfl rfl _ (remL 116 b1 b2 (b) (((a % b : Nat) : Int))) ⟨a % b, Nat.mod_lt _ hbp, b, a % b, pre ++ [a], rfl, rfl, rfl, hI1.trans hI2, hJ1, by rw [hrem, remN_step ha0 (by omega) hab, List.append_assoc]; rfl, by omega, by omega, by have := Nat.mod_lt a hbp; omega⟩ (.cons rfl (.cons rfl (.cons rfl .nil))) .refl
   refine XO_v0 (ev_max rfl rfl) rfl rfl rfl ?_
   refine XO_nil ?_
   refine zD hD ?_
   refine XD_one 1 rfl (by kernel_rfl) ?_
   refine zL sct_116 ?_
   refine XO_nil ?_
   refine zD hD ?_
   refine XD_two 4 5 rfl rfl (by kernel_rfl) ?_ ?_
   ·
    refine XO_v0 (ev_rem rfl rfl (fun hg => by rw [maxI_one hbp]; omega)) rfl rfl rfl ?_
    refine XO_nil ?_
    refine zD hD ?_
    refine XD_one 5 rfl (by kernel_rfl) ?_
    refine zS szt_116 ?_
    refine XO_nil ?_
    refine zD hD ?_
    refine XD_one 6 rfl (by kernel_rfl) ?_
    refine zS szt_116 ?_
    refine XO_nil ?_
    refine zD hD ?_
    refine XD_done (by kernel_rfl) ?_
    refine at_noP ?_
    rw [show ((a : Int)).tmod (maxI (b : Int) 1) = ((a % b : Nat) : Int) by rw [maxI_one hbp, tmod_nat]]
    refine at_then ?_
    refine zR ?_
    refine zL sct_116 ?_
    refine zC ?_
    refine zN ?_
    refine X_cond rfl (fun hc17 => ?_) (fun hc17 => ?_)
    ·
     have hab : a % b = 0 := by have h := hc17; simp only [beq_iff_eq] at h; omega
     have hpre2 : (pre ++ [a]) ++ [b] <+: remN a0 b0 := by rw [hrem, remN_end ha0 (by omega) hab, List.append_assoc]; exact List.prefix_rfl
     refine zR ?_
     refine zM ?_
     refine zL sct_116 ?_
     refine XO_yield0 (vs := [_]) (Post := fun t I3 H3 => if t then J ((pre ++ [a]) ++ [b]) I3 H3 else Jx ((pre ++ [a]) ++ [b]) I3 H3) rfl rfl rfl rfl (hY (pre ++ [a]) b _ _ hpre2 (hI0.trans hI2) hJ1) ?_
     rintro t3 I3 H3 hI3 hP3
     refine zN ?_
     refine X_ret ?_
     refine at_block_r ?_
     refine at_then_r ?_
     refine at_block_r ?_
     first
     | (refine at_ret0 rfl (fun w hw => ⟨_, I3, H3, rfl, hI1.trans (hI2.trans hI3), hw.drop, ?_⟩); cases t3 with | true => exact .inl (by rw [hrem, remN_end ha0 (by omega) hab]; simpa using hP3) | false => exact .inr ⟨_, hpre2, hP3⟩)
    have hab : a % b ≠ 0 := by have h := hc17; simp only [beq_eq_false_iff_ne, ne_eq] at h; omega
    refine X_skip ?_
    refine at_block_n ?_
    exact at_metH2 rfl rfl rfl _ (remL 116 b1 b2 (b) (((a % b : Nat) : Int))) ⟨a % b, Nat.mod_lt _ hbp, b, a % b, pre ++ [a], rfl, rfl, rfl, hI1.trans hI2, hJ1, by rw [hrem, remN_step ha0 (by omega) hab, List.append_assoc]; rfl, by omega, by omega, by have := Nat.mod_lt a hbp; omega⟩ (.cons rfl (.cons rfl (.cons rfl .nil))) .refl
   refine zS szt_116 ?_
   refine XO_nil ?_
   refine zD hD ?_
   refine XD_one 4 rfl (by kernel_rfl) ?_
   refine XO_v0 (ev_rem rfl rfl (fun hg => by rw [maxI_one hbp]; omega)) rfl rfl rfl ?_
   refine XO_nil ?_
   refine zD hD ?_
   refine XD_one 6 rfl (by kernel_rfl) ?_
   refine zS szt_116 ?_
   refine XO_nil ?_
   refine zD hD ?_
   refine XD_done (by kernel_rfl) ?_
   refine at_noP ?_
   rw [show ((a : Int)).tmod (maxI (b : Int) 1) = ((a % b : Nat) : Int) by rw [maxI_one hbp, tmod_nat]]
   refine at_then ?_
   refine zR ?_
   refine zL sct_116 ?_
   refine zC ?_
   refine zN ?_
   refine X_cond rfl (fun hc17 => ?_) (fun hc17 => ?_)
   ·
    have hab : a % b = 0 := by have h := hc17; simp only [beq_iff_eq] at h; omega
    have hpre2 : (pre ++ [a]) ++ [b] <+: remN a0 b0 := by rw [hrem, remN_end ha0 (by omega) hab, List.append_assoc]; exact List.prefix_rfl
    refine zR ?_
    refine zM ?_
    refine zL sct_116 ?_
    refine XO_yield0 (vs := [_]) (Post := fun t I3 H3 => if t then J ((pre ++ [a]) ++ [b]) I3 H3 else Jx ((pre ++ [a]) ++ [b]) I3 H3) rfl rfl rfl rfl (hY (pre ++ [a]) b _ _ hpre2 (hI0.trans hI2) hJ1) ?_
    rintro t3 I3 H3 hI3 hP3
    refine zN ?_
    refine X_ret ?_
    refine at_block_r ?_
    refine at_then_r ?_
    refine at_block_r ?_
    first
    | (refine at_ret0 rfl (fun w hw => ⟨_, I3, H3, rfl, hI1.trans (hI2.trans hI3), hw.drop, ?_⟩); cases t3 with | true => exact .inl (by rw [hrem, remN_end ha0 (by omega) hab]; simpa using hP3) | false => exact .inr ⟨_, hpre2, hP3⟩)
   have hab : a % b ≠ 0 := by have h := hc17; simp only [beq_eq_false_iff_ne, ne_eq] at h; omega
   refine X_skip ?_
   refine at_block_n ?_
   exact at_metH2 rfl rfl rfl _ (remL 116 b1 b2 (b) (((a % b : Nat) : Int))) ⟨a % b, Nat.mod_lt _ hbp, b, a % b, pre ++ [a], rfl, rfl, rfl, hI1.trans hI2, hJ1, by rw [hrem, remN_step ha0 (by omega) hab, List.append_assoc]; rfl, by omega, by omega, by have := Nat.mod_lt a hbp; omega⟩ (.cons rfl (.cons rfl (.cons rfl .nil))) .refl
  ·
   refine zL sct_116 ?_
   refine XO_nil ?_
   refine zD hD ?_
   refine XD_two 0 2 rfl rfl (by kernel_rfl) ?_ ?_
   ·
    refine zL sct_116 ?_
    refine XO_nil ?_
    refine zD hD ?_
    refine XD_two 2 5 rfl rfl (by kernel_rfl) ?_ ?_
    ·
     refine zL sct_116 ?_
     refine XO_nil ?_
     refine zD hD ?_
     refine XD_two 3 5 rfl rfl (by kernel_rfl) ?_ ?_
     ·
      refine XO_v0 (ev_max rfl rfl) rfl rfl rfl ?_
      refine XO_nil ?_
      refine zD hD ?_
      refine XD_two 4 5 rfl rfl (by kernel_rfl) ?_ ?_
      ·
       refine XO_v0 (ev_rem rfl rfl (fun hg => by rw [maxI_one hbp]; omega)) rfl rfl rfl ?_
       refine XO_nil ?_
       refine zD hD ?_
       refine XD_one 5 rfl (by kernel_rfl) ?_
       refine zS szt_116 ?_
       refine XO_nil ?_
       refine zD hD ?_
       refine XD_one 6 rfl (by kernel_rfl) ?_
       refine zS szt_116 ?_
       refine XO_nil ?_
       refine zD hD ?_
       refine XD_done (by kernel_rfl) ?_
       refine at_noP ?_
       rw [show ((a : Int)).tmod (maxI (b : Int) 1) = ((a % b : Nat) : Int) by rw [maxI_one hbp, tmod_nat]]
       refine at_then ?_
       refine zR ?_
       refine zL sct_116 ?_
       refine zC ?_
       refine zN ?_
       refine X_cond rfl (fun hc17 => ?_) (fun hc17 => ?_)
       ·
        have hab : a % b = 0 := by have h := hc17; simp only [beq_iff_eq] at h; omega
        have hpre2 : (pre ++ [a]) ++ [b] <+: remN a0 b0 := by rw [hrem, remN_end ha0 (by omega) hab, List.append_assoc]; exact List.prefix_rfl
        refine zR ?_
        refine zM ?_
        refine zL sct_116 ?_
        refine XO_yield0 (vs := [_]) (Post := fun t I3 H3 => if t then J ((pre ++ [a]) ++ [b]) I3 H3 else Jx ((pre ++ [a]) ++ [b]) I3 H3) rfl rfl rfl rfl (hY (pre ++ [a]) b _ _ hpre2 (hI0.trans hI2) hJ1) ?_
        rintro t3 I3 H3 hI3 hP3
        refine zN ?_
        refine X_ret ?_
        refine at_block_r ?_
        refine at_then_r ?_
        refine at_block_r ?_
        first
        | (refine at_ret0 rfl (fun w hw => ⟨_, I3, H3, rfl, hI1.trans (hI2.trans hI3), hw.drop, ?_⟩); cases t3 with | true => exact .inl (by rw [hrem, remN_end ha0 (by omega) hab]; simpa using hP3) | false => exact .inr ⟨_, hpre2, hP3⟩)
       have hab : a % b ≠ 0 := by have h := hc17; simp only [beq_eq_false_iff_ne, ne_eq] at h; omega
       refine X_skip ?_
       refine at_block_n ?_
       exact at_metH2 rfl rfl rfl _ (remL 116 b1 b2 (b) (((a % b : Nat) : Int))) ⟨a % b, Nat.mod_lt _ hbp, b, a % b, pre ++ [a], rfl, rfl, rfl, hI1.trans hI2, hJ1, by rw [hrem, remN_step ha0 (by omega) hab, List.append_assoc]; rfl, by omega, by omega, by have := Nat.mod_lt a hbp; omega⟩ (.cons rfl (.cons rfl (.cons rfl .nil))) .refl
      refine zS szt_116 ?_
      refine XO_nil ?_
      refine zD hD ?_
      refine XD_one 4 rfl (by kernel_rfl) ?_
      refine XO_v0 (ev_rem rfl rfl (fun hg => by rw [maxI_one hbp]; omega)) rfl rfl rfl ?_
      refine XO_nil ?_
      refine zD hD ?_
      refine XD_one 6 rfl (by kernel_rfl) ?_
      refine zS szt_116 ?_
      refine XO_nil ?_
      refine zD hD ?_
      refine XD_done (by kernel_rfl) ?_
      refine at_noP ?_
      rw [show ((a : Int)).tmod (maxI (b : Int) 1) = ((a % b : Nat) : Int) by rw [maxI_one hbp, tmod_nat]]
      refine at_then ?_
      refine zR ?_
      refine zL sct_116 ?_
      refine zC ?_
      refine zN ?_
      refine X_cond rfl (fun hc17 => ?_) (fun hc17 => ?_)
      ·
       have hab : a % b = 0 := by have h := hc17; simp only [beq_iff_eq] at h; omega
       have hpre2 : (pre ++ [a]) ++ [b] <+: remN a0 b0 := by rw [hrem, remN_end ha0 (by omega) hab, List.append_assoc]; exact List.prefix_rfl
       refine zR ?_
       refine zM ?_
       refine zL sct_116 ?_
       refine XO_yield0 (vs := [_]) (Post := fun t I3 H3 => if t then J ((pre ++ [a]) ++ [b]) I3 H3 else Jx ((pre ++ [a]) ++ [b]) I3 H3) rfl rfl rfl rfl (hY (pre ++ [a]) b _ _ hpre2 (hI0.trans hI2) hJ1) ?_
       rintro t3 I3 H3 hI3 hP3
       refine zN ?_
       refine X_ret ?_
       refine at_block_r ?_
       refine at_then_r ?_
       refine at_block_r ?_
       first
       | (refine at_ret0 rfl (fun w hw => ⟨_, I3, H3, rfl, hI1.trans (hI2.trans hI3), hw.drop, ?_⟩); cases t3 with | true => exact .inl (by rw [hrem, remN_end ha0 (by omega) hab]; simpa using hP3) | false => exact .inr ⟨_, hpre2, hP3⟩)
      have hab : a % b ≠ 0 := by have h := hc17; simp only [beq_eq_false_iff_ne, ne_eq] at h; omega
      refine X_skip ?_
      refine at_block_n ?_
      exact at_metH2 rfl rfl rfl _ (remL 116 b1 b2 (b) (((a % b : Nat) : Int))) ⟨a % b, Nat.mod_lt _ hbp, b, a % b, pre ++ [a], rfl, rfl, rfl, hI1.trans hI2, hJ1, by rw [hrem, remN_step ha0 (by omega) hab, List.append_assoc]; rfl, by omega, by omega, by have := Nat.mod_lt a hbp; omega⟩ (.cons rfl (.cons rfl (.cons rfl .nil))) .refl
     refine zS szt_116 ?_
     refine XO_nil ?_
     refine zD hD ?_
     refine XD_one 3 rfl (by kernel_rfl) ?_
     refine XO_v0 (ev_max rfl rfl) rfl rfl rfl ?_
     refine XO_nil ?_
     refine zD hD ?_
     refine XD_one 4 rfl (by kernel_rfl) ?_
     refine XO_v0 (ev_rem rfl rfl (fun hg => by rw [maxI_one hbp]; omega)) rfl rfl rfl ?_
     refine XO_nil ?_
     refine zD hD ?_
     refine XD_one 6 rfl (by kernel_rfl) ?_
     refine zS szt_116 ?_
     refine XO_nil ?_
     refine zD hD ?_
     refine XD_done (by kernel_rfl) ?_
     refine at_noP ?_
     rw [show ((a : Int)).tmod (maxI (b : Int) 1) = ((a % b : Nat) : Int) by rw [maxI_one hbp, tmod_nat]]
     refine at_then ?_
     refine zR ?_
     refine zL sct_116 ?_
     refine zC ?_
     refine zN ?_
     refine X_cond rfl (fun hc17 => ?_) (fun hc17 => ?_)
     ·
      have hab : a % b = 0 := by have h := hc17; simp only [beq_iff_eq] at h; omega
      have hpre2 : (pre ++ [a]) ++ [b] <+: remN a0 b0 := by rw [hrem, remN_end ha0 (by omega) hab, List.append_assoc]; exact List.prefix_rfl
      refine zR ?_
      refine zM ?_
      refine zL sct_116 ?_
      refine XO_yield0 (vs := [_]) (Post := fun t I3 H3 => if t then J ((pre ++ [a]) ++ [b]) I3 H3 else Jx ((pre ++ [a]) ++ [b]) I3 H3) rfl rfl rfl rfl (hY (pre ++ [a]) b _ _ hpre2 (hI0.trans hI2) hJ1) ?_
      rintro t3 I3 H3 hI3 hP3
      refine zN ?_
      refine X_ret ?_
      refine at_block_r ?_
      refine at_then_r ?_
      refine at_block_r ?_
      first
      | (refine at_ret0 rfl (fun w hw => ⟨_, I3, H3, rfl, hI1.trans (hI2.trans hI3), hw.drop, ?_⟩); cases t3 with | true => exact .inl (by rw [hrem, remN_end ha0 (by omega) hab]; simpa using hP3) | false => exact .inr ⟨_, hpre2, hP3⟩)
     have hab : a % b ≠ 0 := by have h := hc17; simp only [beq_eq_false_iff_ne, ne_eq] at h; omega
     refine X_skip ?_
     refine at_block_n ?_
     exact at_metH2 rfl rfl rfl _ (remL 116 b1 b2 (b) (((a % b : Nat) : Int))) ⟨a % b, Nat.mod_lt _ hbp, b, a % b, pre ++ [a], rfl, rfl, rfl, hI1.trans hI2, hJ1, by rw [hrem, remN_step ha0 (by omega) hab, List.append_assoc]; rfl, by omega, by omega, by have := Nat.mod_lt a hbp; omega⟩ (.cons rfl (.cons rfl (.cons rfl .nil))) .refl
    refine zS szt_116 ?_
    refine XO_nil ?_
    refine zD hD ?_
    refine XD_one 2 rfl (by kernel_rfl) ?_
    refine zL sct_116 ?_
    refine XO_nil ?_
    refine zD hD ?_
    refine XD_one 3 rfl (by kernel_rfl) ?_
    refine XO_v0 (ev_max rfl rfl) rfl rfl rfl ?_
    refine XO_nil ?_
    refine zD hD ?_
    refine XD_one 4 rfl (by kernel_rfl) ?_
    refine XO_v0 (ev_rem rfl rfl (fun hg => by rw [maxI_one hbp]; omega)) rfl rfl rfl ?_
    refine XO_nil ?_
    refine zD hD ?_
    refine XD_one 6 rfl (by kernel_rfl) ?_
    refine zS szt_116 ?_
    refine XO_nil ?_
    refine zD hD ?_
    refine XD_done (by kernel_rfl) ?_
    refine at_noP ?_
    rw [show ((a : Int)).tmod (maxI (b : Int) 1) = ((a % b : Nat) : Int) by rw [maxI_one hbp, tmod_nat]]
    refine at_then ?_
    refine zR ?_
    refine zL sct_116 ?_
    refine zC ?_
    refine zN ?_
    refine X_cond rfl (fun hc17 => ?_) (fun hc17 => ?_)
    ·
     have hab : a % b = 0 := by have h := hc17; simp only [beq_iff_eq] at h; omega
     have hpre2 : (pre ++ [a]) ++ [b] <+: remN a0 b0 := by rw [hrem, remN_end ha0 (by omega) hab, List.append_assoc]; exact List.prefix_rfl
     refine zR ?_
     refine zM ?_
     refine zL sct_116 ?_
     refine XO_yield0 (vs := [_]) (Post := fun t I3 H3 => if t then J ((pre ++ [a]) ++ [b]) I3 H3 else Jx ((pre ++ [a]) ++ [b]) I3 H3) rfl rfl rfl rfl (hY (pre ++ [a]) b _ _ hpre2 (hI0.trans hI2) hJ1) ?_
     rintro t3 I3 H3 hI3 hP3
     refine zN ?_
     refine X_ret ?_
     refine at_block_r ?_
     refine at_then_r ?_
     refine at_block_r ?_
     first
     | (refine at_ret0 rfl (fun w hw => ⟨_, I3, H3, rfl, hI1.trans (hI2.trans hI3), hw.drop, ?_⟩); cases t3 with | true => exact .inl (by rw [hrem, remN_end ha0 (by omega) hab]; simpa using hP3) | false => exact .inr ⟨_, hpre2, hP3⟩)
    have hab : a % b ≠ 0 := by have h := hc17; simp only [beq_eq_false_iff_ne, ne_eq] at h; omega
    refine X_skip ?_
    refine at_block_n ?_
    exact at_metH2 rfl rfl rfl _ (remL 116 b1 b2 (b) (((a % b : Nat) : Int))) ⟨a % b, Nat.mod_lt _ hbp, b, a % b, pre ++ [a], rfl, rfl, rfl, hI1.trans hI2, hJ1, by rw [hrem, remN_step ha0 (by omega) hab, List.append_assoc]; rfl, by omega, by omega, by have := Nat.mod_lt a hbp; omega⟩ (.cons rfl (.cons rfl (.cons rfl .nil))) .refl
   refine zL sct_116 ?_
   refine XO_nil ?_
   refine zD hD ?_
   refine XD_two 0 3 rfl rfl (by kernel_rfl) ?_ ?_
   ·
    refine zL sct_116 ?_
    refine XO_nil ?_
    refine zD hD ?_
    refine XD_two 3 5 rfl rfl (by kernel_rfl) ?_ ?_
    ·
     refine XO_v0 (ev_max rfl rfl) rfl rfl rfl ?_
     refine XO_nil ?_
     refine zD hD ?_
     refine XD_two 4 5 rfl rfl (by kernel_rfl) ?_ ?_
     ·
      refine XO_v0 (ev_rem rfl rfl (fun hg => by rw [maxI_one hbp]; omega)) rfl rfl rfl ?_
      refine XO_nil ?_
      refine zD hD ?_
      refine XD_one 5 rfl (by kernel_rfl) ?_
      refine zS szt_116 ?_
      refine XO_nil ?_
      refine zD hD ?_
      refine XD_one 6 rfl (by kernel_rfl) ?_
      refine zS szt_116 ?_
      refine XO_nil ?_
      refine zD hD ?_
      refine XD_done (by kernel_rfl) ?_
      refine at_noP ?_
      rw [show ((a : Int)).tmod (maxI (b : Int) 1) = ((a % b : Nat) : Int) by rw [maxI_one hbp, tmod_nat]]
      refine at_then ?_
      refine zR ?_
      refine zL sct_116 ?_
      refine zC ?_
      refine zN ?_
      refine X_cond rfl (fun hc17 => ?_) (fun hc17 => ?_)
      ·
       have hab : a % b = 0 := by have h := hc17; simp only [beq_iff_eq] at h; omega
       have hpre2 : (pre ++ [a]) ++ [b] <+: remN a0 b0 := by rw [hrem, remN_end ha0 (by omega) hab, List.append_assoc]; exact List.prefix_rfl
       refine zR ?_
       refine zM ?_
       refine zL sct_116 ?_
       refine XO_yield0 (vs := [_]) (Post := fun t I3 H3 => if t then J ((pre ++ [a]) ++ [b]) I3 H3 else Jx ((pre ++ [a]) ++ [b]) I3 H3) rfl rfl rfl rfl (hY (pre ++ [a]) b _ _ hpre2 (hI0.trans hI2) hJ1) ?_
       rintro t3 I3 H3 hI3 hP3
       refine zN ?_
       refine X_ret ?_
       refine at_block_r ?_
       refine at_then_r ?_
       refine at_block_r ?_
       first
       | (refine at_ret0 rfl (fun w hw => ⟨_, I3, H3, rfl, hI1.trans (hI2.trans hI3), hw.drop, ?_⟩); cases t3 with | true => exact .inl (by rw [hrem, remN_end ha0 (by omega) hab]; simpa using hP3) | false => exact .inr ⟨_, hpre2, hP3⟩)
      have hab : a % b ≠ 0 := by have h := hc17; simp only [beq_eq_false_iff_ne, ne_eq] at h; omega
      refine X_skip ?_
      refine at_block_n ?_
      exact at_metH2 rfl rfl rfl _ (remL 116 b1 b2 (b) (((a % b : Nat) : Int))) ⟨a % b, Nat.mod_lt _ hbp, b, a % b, pre ++ [a], rfl, rfl, rfl, hI1.trans hI2, hJ1, by rw [hrem, remN_step ha0 (by omega) hab, List.append_assoc]; rfl, by omega, by omega, by have := Nat.mod_lt a hbp; omega⟩ (.cons rfl (.cons rfl (.cons rfl .nil))) .refl
     refine zS szt_116 ?_
     refine XO_nil ?_
     refine zD hD ?_
     refine XD_one 4 rfl (by kernel_rfl) ?_
     refine XO_v0 (ev_rem rfl rfl (fun hg => by rw [maxI_one hbp]; omega)) rfl rfl rfl ?_
     refine XO_nil ?_
     refine zD hD ?_
     refine XD_one 6 rfl (by kernel_rfl) ?_
     refine zS szt_116 ?_
     refine XO_nil ?_
     refine zD hD ?_
     refine XD_done (by kernel_rfl) ?_
     refine at_noP ?_
     rw [show ((a : Int)).tmod (maxI (b : Int) 1) = ((a % b : Nat) : Int) by rw [maxI_one hbp, tmod_nat]]
     refine at_then ?_
     refine zR ?_
     refine zL sct_116 ?_
     refine zC ?_
     refine zN ?_
     refine X_cond rfl (fun hc17 => ?_) (fun hc17 => ?_)
     ·
      have hab : a % b = 0 := by have h := hc17; simp only [beq_iff_eq] at h; omega
      have hpre2 : (pre ++ [a]) ++ [b] <+: remN a0 b0 := by rw [hrem, remN_end ha0 (by omega) hab, List.append_assoc]; exact List.prefix_rfl
      refine zR ?_
      refine zM ?_
      refine zL sct_116 ?_
      refine XO_yield0 (vs := [_]) (Post := fun t I3 H3 => if t then J ((pre ++ [a]) ++ [b]) I3 H3 else Jx ((pre ++ [a]) ++ [b]) I3 H3) rfl rfl rfl rfl (hY (pre ++ [a]) b _ _ hpre2 (hI0.trans hI2) hJ1) ?_
      rintro t3 I3 H3 hI3 hP3
      refine zN ?_
      refine X_ret ?_
      refine at_block_r ?_
      refine at_then_r ?_
      refine at_block_r ?_
      first
      | (refine at_ret0 rfl (fun w hw => ⟨_, I3, H3, rfl, hI1.trans (hI2.trans hI3), hw.drop, ?_⟩); cases t3 with | true => exact .inl (by rw [hrem, remN_end ha0 (by omega) hab]; simpa using hP3) | false => exact .inr ⟨_, hpre2, hP3⟩)
     have hab : a % b ≠ 0 := by have h := hc17; simp only [beq_eq_false_iff_ne, ne_eq] at h; omega
     refine X_skip ?_
     refine at_block_n ?_
     exact at_metH2 rfl rfl rfl _ (remL 116 b1 b2 (b) (((a % b : Nat) : Int))) ⟨a % b, Nat.mod_lt _ hbp, b, a % b, pre ++ [a], rfl, rfl, rfl, hI1.trans hI2, hJ1, by rw [hrem, remN_step ha0 (by omega) hab, List.append_assoc]; rfl, by omega, by omega, by have := Nat.mod_lt a hbp; omega⟩ (.cons rfl (.cons rfl (.cons rfl .nil))) .refl
    refine zS szt_116 ?_
    refine XO_nil ?_
    refine zD hD ?_
    refine XD_one 3 rfl (by kernel_rfl) ?_
    refine XO_v0 (ev_max rfl rfl) rfl rfl rfl ?_
    refine XO_nil ?_
    refine zD hD ?_
    refine XD_one 4 rfl (by kernel_rfl) ?_
    refine XO_v0 (ev_rem rfl rfl (fun hg => by rw [maxI_one hbp]; omega)) rfl rfl rfl ?_
    refine XO_nil ?_
    refine zD hD ?_
    refine XD_one 6 rfl (by kernel_rfl) ?_
    refine zS szt_116 ?_
    refine XO_nil ?_
    refine zD hD ?_
    refine XD_done (by kernel_rfl) ?_
    refine at_noP ?_
    rw [show ((a : Int)).tmod (maxI (b : Int) 1) = ((a % b : Nat) : Int) by rw [maxI_one hbp, tmod_nat]]
    refine at_then ?_
    refine zR ?_
    refine zL sct_116 ?_
    refine zC ?_
    refine zN ?_
    refine X_cond rfl (fun hc17 => ?_) (fun hc17 => ?_)
    ·
     have hab : a % b = 0 := by have h := hc17; simp only [beq_iff_eq] at h; omega
     have hpre2 : (pre ++ [a]) ++ [b] <+: remN a0 b0 := by rw [hrem, remN_end ha0 (by omega) hab, List.append_assoc]; exact List.prefix_rfl
     refine zR ?_
     refine zM ?_
     refine zL sct_116 ?_
     refine XO_yield0 (vs := [_]) (Post := fun t I3 H3 => if t then J ((pre ++ [a]) ++ [b]) I3 H3 else Jx ((pre ++ [a]) ++ [b]) I3 H3) rfl rfl rfl rfl (hY (pre ++ [a]) b _ _ hpre2 (hI0.trans hI2) hJ1) ?_
     rintro t3 I3 H3 hI3 hP3
     refine zN ?_
     refine X_ret ?_
     refine at_block_r ?_
     refine at_then_r ?_
     refine at_block_r ?_
     first
     | (refine at_ret0 rfl (fun w hw => ⟨_, I3, H3, rfl, hI1.trans (hI2.trans hI3), hw.drop, ?_⟩); cases t3 with | true => exact .inl (by rw [hrem, remN_end ha0 (by omega) hab]; simpa using hP3) | false => exact .inr ⟨_, hpre2, hP3⟩)
    have hab : a % b ≠ 0 := by have h := hc17; simp only [beq_eq_false_iff_ne, ne_eq] at h; omega
    refine X_skip ?_
    refine at_block_n ?_
    exact at_metH2 rfl rfl rfl _ (remL 116 b1 b2 (b) (((a % b : Nat) : Int))) ⟨a % b, Nat.mod_lt _ hbp, b, a % b, pre ++ [a], rfl, rfl, rfl, hI1.trans hI2, hJ1, by rw [hrem, remN_step ha0 (by omega) hab, List.append_assoc]; rfl, by omega, by omega, by have := Nat.mod_lt a hbp; omega⟩ (.cons rfl (.cons rfl (.cons rfl .nil))) .refl
   refine XO_v0 (ev_max rfl rfl) rfl rfl rfl ?_
   refine XO_nil ?_
   refine zD hD ?_
   refine XD_two 0 4 rfl rfl (by kernel_rfl) ?_ ?_
   ·
    refine zL sct_116 ?_
    refine XO_nil ?_
    refine zD hD ?_
    refine XD_two 4 5 rfl rfl (by kernel_rfl) ?_ ?_
    ·
     refine XO_v0 (ev_rem rfl rfl (fun hg => by rw [maxI_one hbp]; omega)) rfl rfl rfl ?_
     refine XO_nil ?_
     refine zD hD ?_
     refine XD_one 5 rfl (by kernel_rfl) ?_
     refine zS szt_116 ?_
     refine XO_nil ?_
     refine zD hD ?_
     refine XD_one 6 rfl (by kernel_rfl) ?_
     refine zS szt_116 ?_
     refine XO_nil ?_
     refine zD hD ?_
     refine XD_done (by kernel_rfl) ?_
     refine at_noP ?_
     rw [show ((a : Int)).tmod (maxI (b : Int) 1) = ((a % b : Nat) : Int) by rw [maxI_one hbp, tmod_nat]]
     refine at_then ?_
     refine zR ?_
     refine zL sct_116 ?_
     refine zC ?_
     refine zN ?_
     refine X_cond rfl (fun hc17 => ?_) (fun hc17 => ?_)
     ·
      have hab : a % b = 0 := by have h := hc17; simp only [beq_iff_eq] at h; omega
      have hpre2 : (pre ++ [a]) ++ [b] <+: remN a0 b0 := by rw [hrem, remN_end ha0 (by omega) hab, List.append_assoc]; exact List.prefix_rfl
      refine zR ?_
      refine zM ?_
      refine zL sct_116 ?_
      refine XO_yield0 (vs := [_]) (Post := fun t I3 H3 => if t then J ((pre ++ [a]) ++ [b]) I3 H3 else Jx ((pre ++ [a]) ++ [b]) I3 H3) rfl rfl rfl rfl (hY (pre ++ [a]) b _ _ hpre2 (hI0.trans hI2) hJ1) ?_
      rintro t3 I3 H3 hI3 hP3
      refine zN ?_
      refine X_ret ?_
      refine at_block_r ?_
      refine at_then_r ?_
      refine at_block_r ?_
      first
      | (refine at_ret0 rfl (fun w hw => ⟨_, I3, H3, rfl, hI1.trans (hI2.trans hI3), hw.drop, ?_⟩); cases t3 with | true => exact .inl (by rw [hrem, remN_end ha0 (by omega) hab]; simpa using hP3) | false => exact .inr ⟨_, hpre2, hP3⟩)
     have hab : a % b ≠ 0 := by have h := hc17; simp only [beq_eq_false_iff_ne, ne_eq] at h; omega
     refine X_skip ?_
     refine at_block_n ?_
     exact at_metH2 rfl rfl rfl _ (remL 116 b1 b2 (b) (((a % b : Nat) : Int))) ⟨a % b, Nat.mod_lt _ hbp, b, a % b, pre ++ [a], rfl, rfl, rfl, hI1.trans hI2, hJ1, by rw [hrem, remN_step ha0 (by omega) hab, List.append_assoc]; rfl, by omega, by omega, by have := Nat.mod_lt a hbp; omega⟩ (.cons rfl (.cons rfl (.cons rfl .nil))) .refl
    refine zS szt_116 ?_
    refine XO_nil ?_
    refine zD hD ?_
    refine XD_one 4 rfl (by kernel_rfl) ?_
    refine XO_v0 (ev_rem rfl rfl (fun hg => by rw [maxI_one hbp]; omega)) rfl rfl rfl ?_
    refine XO_nil ?_
    refine zD hD ?_
    refine XD_one 6 rfl (by kernel_rfl) ?_
    refine zS szt_116 ?_
    refine XO_nil ?_
    refine zD hD ?_
    refine XD_done (by kernel_rfl) ?_
    refine at_noP ?_
    rw [show ((a : Int)).tmod (maxI (b : Int) 1) = ((a % b : Nat) : Int) by rw [maxI_one hbp, tmod_nat]]
    refine at_then ?_
    refine zR ?_
    refine zL sct_116 ?_
    refine zC ?_
    refine zN ?_
    refine X_cond rfl (fun hc17 => ?_) (fun hc17 => ?_)
    ·
     have hab : a % b = 0 := by have h := hc17; simp only [beq_iff_eq] at h; omega
     have hpre2 : (pre ++ [a]) ++ [b] <+: remN a0 b0 := by rw [hrem, remN_end ha0 (by omega) hab, List.append_assoc]; exact List.prefix_rfl
     refine zR ?_
     refine zM ?_
     refine zL sct_116 ?_
     refine XO_yield0 (vs := [_]) (Post := fun t I3 H3 => if t then J ((pre ++ [a]) ++ [b]) I3 H3 else Jx ((pre ++ [a]) ++ [b]) I3 H3) rfl rfl rfl rfl (hY (pre ++ [a]) b _ _ hpre2 (hI0.trans hI2) hJ1) ?_
     rintro t3 I3 H3 hI3 hP3
     refine zN ?_
     refine X_ret ?_
     refine at_block_r ?_
     refine at_then_r ?_
     refine at_block_r ?_
     first
     | (refine at_ret0 rfl (fun w hw => ⟨_, I3, H3, rfl, hI1.trans (hI2.trans hI3), hw.drop, ?_⟩); cases t3 with | true => exact .inl (by rw [hrem, remN_end ha0 (by omega) hab]; simpa using hP3) | false => exact .inr ⟨_, hpre2, hP3⟩)
    have hab : a % b ≠ 0 := by have h := hc17; simp only [beq_eq_false_iff_ne, ne_eq] at h; omega
    refine X_skip ?_
    refine at_block_n ?_
    exact at_metH2 rfl rfl rfl _ (remL 116 b1 b2 (b) (((a % b : Nat) : Int))) ⟨a % b, Nat.mod_lt _ hbp, b, a % b, pre ++ [a], rfl, rfl, rfl, hI1.trans hI2, hJ1, by rw [hrem, remN_step ha0 (by omega) hab, List.append_assoc]; rfl, by omega, by omega, by have := Nat.mod_lt a hbp; omega⟩ (.cons rfl (.cons rfl (.cons rfl .nil))) .refl
   refine XO_v0 (ev_rem rfl rfl (fun hg => by rw [maxI_one hbp]; omega)) rfl rfl rfl ?_
   refine XO_nil ?_
   refine zD hD ?_
   refine XD_one 0 rfl (by kernel_rfl) ?_
   refine zL sct_116 ?_
   refine XO_nil ?_
   refine zD hD ?_
   refine XD_one 5 rfl (by kernel_rfl) ?_
   refine zS szt_116 ?_
   refine XO_nil ?_
   refine zD hD ?_
   refine XD_one 6 rfl (by kernel_rfl) ?_
   refine zS szt_116 ?_
   refine XO_nil ?_
   refine zD hD ?_
   refine XD_done (by kernel_rfl) ?_
   refine at_noP ?_
   rw [show ((a : Int)).tmod (maxI (b : Int) 1) = ((a % b : Nat) : Int) by rw [maxI_one hbp, tmod_nat]]
   refine at_then ?_
   refine zR ?_
   refine zL sct_116 ?_
   refine zC ?_
   refine zN ?_
   refine X_cond rfl (fun hc17 => ?_) (fun hc17 => ?_)
   ·
    have hab : a % b = 0 := by have h := hc17; simp only [beq_iff_eq] at h; omega
    have hpre2 : (pre ++ [a]) ++ [b] <+: remN a0 b0 := by rw [hrem, remN_end ha0 (by omega) hab, List.append_assoc]; exact List.prefix_rfl
    refine zR ?_
    refine zM ?_
    refine zL sct_116 ?_
    refine XO_yield0 (vs := [_]) (Post := fun t I3 H3 => if t then J ((pre ++ [a]) ++ [b]) I3 H3 else Jx ((pre ++ [a]) ++ [b]) I3 H3) rfl rfl rfl rfl (hY (pre ++ [a]) b _ _ hpre2 (hI0.trans hI2) hJ1) ?_
    rintro t3 I3 H3 hI3 hP3
    refine zN ?_
    refine X_ret ?_
    refine at_block_r ?_
    refine at_then_r ?_
    refine at_block_r ?_
    first
    | (refine at_ret0 rfl (fun w hw => ⟨_, I3, H3, rfl, hI1.trans (hI2.trans hI3), hw.drop, ?_⟩); cases t3 with | true => exact .inl (by rw [hrem, remN_end ha0 (by omega) hab]; simpa using hP3) | false => exact .inr ⟨_, hpre2, hP3⟩)
   have hab : a % b ≠ 0 := by have h := hc17; simp only [beq_eq_false_iff_ne, ne_eq] at h; omega
   refine X_skip ?_
   refine at_block_n ?_
   exact at_metH2 rfl rfl rfl _ (remL 116 b1 b2 (b) (((a % b : Nat) : Int))) ⟨a % b, Nat.mod_lt _ hbp, b, a % b, pre ++ [a], rfl, rfl, rfl, hI1.trans hI2, hJ1, by rw [hrem, remN_step ha0 (by omega) hab, List.append_assoc]; rfl, by omega, by omega, by have := Nat.mod_lt a hbp; omega⟩ (.cons rfl (.cons rfl (.cons rfl .nil))) .refl
  refine zL sct_116 ?_
  refine XO_nil ?_
  refine zD hD ?_
  refine XD_three 0 1 3 rfl rfl rfl (by kernel_rfl) ?_ ?_ ?_
  ·
   refine zL sct_116 ?_
   refine XO_nil ?_
   refine zD hD ?_
   refine XD_two 1 3 rfl rfl (by kernel_rfl) ?_ ?_
   ·
    refine zL sct_116 ?_
    refine XO_nil ?_
    refine zD hD ?_
    refine XD_two 3 5 rfl rfl (by kernel_rfl) ?_ ?_
    ·
     refine XO_v0 (ev_max rfl rfl) rfl rfl rfl ?_
     refine XO_nil ?_
     refine zD hD ?_
     refine XD_two 4 5 rfl rfl (by kernel_rfl) ?_ ?_
     ·
      refine XO_v0 (ev_rem rfl rfl (fun hg => by rw [maxI_one hbp]; omega)) rfl rfl rfl ?_
      refine XO_nil ?_
      refine zD hD ?_
      refine XD_one 5 rfl (by kernel_rfl) ?_
      refine zS szt_116 ?_
      refine XO_nil ?_
      refine zD hD ?_
      refine XD_one 6 rfl (by kernel_rfl) ?_
      refine zS szt_116 ?_
      refine XO_nil ?_
      refine zD hD ?_
      refine XD_done (by kernel_rfl) ?_
      refine at_noP ?_
      rw [show ((a : Int)).tmod (maxI (b : Int) 1) = ((a % b : Nat) : Int) by rw [maxI_one hbp, tmod_nat]]
      refine at_then ?_
      refine zR ?_
      refine zL sct_116 ?_
      refine zC ?_
      refine zN ?_
      refine X_cond rfl (fun hc17 => ?_) (fun hc17 => ?_)
      ·
       have hab : a % b = 0 := by have h := hc17; simp only [beq_iff_eq] at h; omega
       have hpre2 : (pre ++ [a]) ++ [b] <+: remN a0 b0 := by rw [hrem, remN_end ha0 (by omega) hab, List.append_assoc]; exact List.prefix_rfl
       refine zR ?_
       refine zM ?_
       refine zL sct_116 ?_
       refine XO_yield0 (vs := [_]) (Post := fun t I3 H3 => if t then J ((pre ++ [a]) ++ [b]) I3 H3 else Jx ((pre ++ [a]) ++ [b]) I3 H3) rfl rfl rfl rfl (hY (pre ++ [a]) b _ _ hpre2 (hI0.trans hI2) hJ1) ?_
       rintro t3 I3 H3 hI3 hP3
       refine zN ?_
       refine X_ret ?_
       refine at_block_r ?_
       refine at_then_r ?_
       refine at_block_r ?_
       first
       | (refine at_ret0 rfl (fun w hw => ⟨_, I3, H3, rfl, hI1.trans (hI2.trans hI3), hw.drop, ?_⟩); cases t3 with | true => exact .inl (by rw [hrem, remN_end ha0 (by omega) hab]; simpa using hP3) | false => exact .inr ⟨_, hpre2, hP3⟩)
      have hab : a % b ≠ 0 := by have h := hc17; simp only [beq_eq_false_iff_ne, ne_eq] at h; omega
      refine X_skip ?_
      refine at_block_n ?_
      exact at_metH2 rfl rfl rfl _ (remL 116 b1 b2 (b) (((a % b : Nat) : Int))) ⟨a % b, Nat.mod_lt _ hbp, b, a % b, pre ++ [a], rfl, rfl, rfl, hI1.trans hI2, hJ1, by rw [hrem, remN_step ha0 (by omega) hab, List.append_assoc]; rfl, by omega, by omega, by have := Nat.mod_lt a hbp; omega⟩ (.cons rfl (.cons rfl (.cons rfl .nil))) .refl
     refine zS szt_116 ?_
     refine XO_nil ?_
     refine zD hD ?_
     refine XD_one 4 rfl (by kernel_rfl) ?_
     refine XO_v0 (ev_rem rfl rfl (fun hg => by rw [maxI_one hbp]; omega)) rfl rfl rfl ?_
     refine XO_nil ?_
     refine zD hD ?_
     refine XD_one 6 rfl (by kernel_rfl) ?_
     refine zS szt_116 ?_
     refine XO_nil ?_
     refine zD hD ?_
     refine XD_done (by kernel_rfl) ?_
     refine at_noP ?_
     rw [show ((a : Int)).tmod (maxI (b : Int) 1) = ((a % b : Nat) : Int) by rw [maxI_one hbp, tmod_nat]]
     refine at_then ?_
     refine zR ?_
     refine zL sct_116 ?_
     refine zC ?_
     refine zN ?_
     refine X_cond rfl (fun hc17 => ?_) (fun hc17 => ?_)
     ·
      have hab : a % b = 0 := by have h := hc17; simp only [beq_iff_eq] at h; omega
      have hpre2 : (pre ++ [a]) ++ [b] <+: remN a0 b0 := by rw [hrem, remN_end ha0 (by omega) hab, List.append_assoc]; exact List.prefix_rfl
      refine zR ?_
      refine zM ?_
      refine zL sct_116 ?_
      refine XO_yield0 (vs := [_]) (Post := fun t I3 H3 => if t then J ((pre ++ [a]) ++ [b]) I3 H3 else Jx ((pre ++ [a]) ++ [b]) I3 H3) rfl rfl rfl rfl (hY (pre ++ [a]) b _ _ hpre2 (hI0.trans hI2) hJ1) ?_
      rintro t3 I3 H3 hI3 hP3
      refine zN ?_
      refine X_ret ?_
      refine at_block_r ?_
      refine at_then_r ?_
      refine at_block_r ?_
      first
      | (refine at_ret0 rfl (fun w hw => ⟨_, I3, H3, rfl, hI1.trans (hI2.trans hI3), hw.drop, ?_⟩); cases t3 with | true => exact .inl (by rw [hrem, remN_end ha0 (by omega) hab]; simpa using hP3) | false => exact .inr ⟨_, hpre2, hP3⟩)
     have hab : a % b ≠ 0 := by have h := hc17; simp only [beq_eq_false_iff_ne, ne_eq] at h; omega
     refine X_skip ?_
     refine at_block_n ?_
     exact at_metH2 rfl rfl rfl _ (remL 116 b1 b2 (b) (((a % b : Nat) : Int))) ⟨a % b, Nat.mod_lt _ hbp, b, a % b, pre ++ [a], rfl, rfl, rfl, hI1.trans hI2, hJ1, by rw [hrem, remN_step ha0 (by omega) hab, List.append_assoc]; rfl, by omega, by omega, by have := Nat.mod_lt a hbp; omega⟩ (.cons rfl (.cons rfl (.cons rfl .nil))) .refl
    refine zS szt_116 ?_
    refine XO_nil ?_
    refine zD hD ?_
    refine XD_one 3 rfl (by kernel_rfl) ?_
    refine XO_v0 (ev_max rfl rfl) rfl rfl rfl ?_
    refine XO_nil ?_
    refine zD hD ?_
    refine XD_one 4 rfl (by kernel_rfl) ?_
    refine XO_v0 (ev_rem rfl rfl (fun hg => by rw [maxI_one hbp]; omega)) rfl rfl rfl ?_
    refine XO_nil ?_
    refine zD hD ?_
    refine XD_one 6 rfl (by kernel_rfl) ?_
    refine zS szt_116 ?_
    refine XO_nil ?_
    refine zD hD ?_
    refine XD_done (by kernel_rfl) ?_
    refine at_noP ?_
    rw [show ((a : Int)).tmod (maxI (b : Int) 1) = ((a % b : Nat) : Int) by rw [maxI_one hbp, tmod_nat]]
    refine at_then ?_
    refine zR ?_
    refine zL sct_116 ?_
    refine zC ?_
    refine zN ?_
    refine X_cond rfl (fun hc17 => ?_) (fun hc17 => ?_)
    ·
     have hab : a % b = 0 := by have h := hc17; simp only [beq_iff_eq] at h; omega
     have hpre2 : (pre ++ [a]) ++ [b] <+: remN a0 b0 := by rw [hrem, remN_end ha0 (by omega) hab, List.append_assoc]; exact List.prefix_rfl
     refine zR ?_
     refine zM ?_
     refine zL sct_116 ?_
     refine XO_yield0 (vs := [_]) (Post := fun t I3 H3 => if t then J ((pre ++ [a]) ++ [b]) I3 H3 else Jx ((pre ++ [a]) ++ [b]) I3 H3) rfl rfl rfl rfl (hY (pre ++ [a]) b _ _ hpre2 (hI0.trans hI2) hJ1) ?_
     rintro t3 I3 H3 hI3 hP3
     refine zN ?_
     refine X_ret ?_
     refine at_block_r ?_
     refine at_then_r ?_
     refine at_block_r ?_
     first
     | (refine at_ret0 rfl (fun w hw => ⟨_, I3, H3, rfl, hI1.trans (hI2.trans hI3), hw.drop, ?_⟩); cases t3 with | true => exact .inl (by rw [hrem, remN_end ha0 (by omega) hab]; simpa using hP3) | false => exact .inr ⟨_, hpre2, hP3⟩)
    have hab : a % b ≠ 0 := by have h := hc17; simp only [beq_eq_false_iff_ne, ne_eq] at h; omega
    refine X_skip ?_
    refine at_block_n ?_
    exact at_metH2 rfl rfl rfl _ (remL 116 b1 b2 (b) (((a % b : Nat) : Int))) ⟨a % b, Nat.mod_lt _ hbp, b, a % b, pre ++ [a], rfl, rfl, rfl, hI1.trans hI2, hJ1, by rw [hrem, remN_step ha0 (by omega) hab, List.append_assoc]; rfl, by omega, by omega, by have := Nat.mod_lt a hbp; omega⟩ (.cons rfl (.cons rfl (.cons rfl .nil))) .refl
   refine XO_v0 (ev_max rfl rfl) rfl rfl rfl ?_
   refine XO_nil ?_
   refine zD hD ?_
   refine XD_one 1 rfl (by kernel_rfl) ?_
   refine zL sct_116 ?_
   refine XO_nil ?_
   refine zD hD ?_
   refine XD_two 4 5 rfl rfl (by kernel_rfl) ?_ ?_
   ·
    refine XO_v0 (ev_rem rfl rfl (fun hg => by rw [maxI_one hbp]; omega)) rfl rfl rfl ?_
    refine XO_nil ?_
    refine zD hD ?_
    refine XD_one 5 rfl (by kernel_rfl) ?_
    refine zS szt_116 ?_
    refine XO_nil ?_
    refine zD hD ?_
    refine XD_one 6 rfl (by kernel_rfl) ?_
    refine zS szt_116 ?_
    refine XO_nil ?_
    refine zD hD ?_
    refine XD_done (by kernel_rfl) ?_
    refine at_noP ?_
    rw [show ((a : Int)).tmod (maxI (b : Int) 1) = ((a % b : Nat) : Int) by rw [maxI_one hbp, tmod_nat]]
    refine at_then ?_
    refine zR ?_
    refine zL sct_116 ?_
    refine zC ?_
    refine zN ?_
    refine X_cond rfl (fun hc17 => ?_) (fun hc17 => ?_)
    ·
     have hab : a % b = 0 := by have h := hc17; simp only [beq_iff_eq] at h; omega
     have hpre2 : (pre ++ [a]) ++ [b] <+: remN a0 b0 := by rw [hrem, remN_end ha0 (by omega) hab, List.append_assoc]; exact List.prefix_rfl
     refine zR ?_
     refine zM ?_
     refine zL sct_116 ?_
     refine XO_yield0 (vs := [_]) (Post := fun t I3 H3 => if t then J ((pre ++ [a]) ++ [b]) I3 H3 else Jx ((pre ++ [a]) ++ [b]) I3 H3) rfl rfl rfl rfl (hY (pre ++ [a]) b _ _ hpre2 (hI0.trans hI2) hJ1) ?_
     rintro t3 I3 H3 hI3 hP3
     refine zN ?_
     refine X_ret ?_
     refine at_block_r ?_
     refine at_then_r ?_
     refine at_block_r ?_
     first
     | (refine at_ret0 rfl (fun w hw => ⟨_, I3, H3, rfl, hI1.trans (hI2.trans hI3), hw.drop, ?_⟩); cases t3 with | true => exact .inl (by rw [hrem, remN_end ha0 (by omega) hab]; simpa using hP3) | false => exact .inr ⟨_, hpre2, hP3⟩)
    have hab : a % b ≠ 0 := by have h := hc17; simp only [beq_eq_false_iff_ne, ne_eq] at h; omega
    refine X_skip ?_
    refine at_block_n ?_
    exact at_metH2 rfl rfl rfl _ (remL 116 b1 b2 (b) (((a % b : Nat) : Int))) ⟨a % b, Nat.mod_lt _ hbp, b, a % b, pre ++ [a], rfl, rfl, rfl, hI1.trans hI2, hJ1, by rw [hrem, remN_step ha0 (by omega) hab, List.append_assoc]; rfl, by omega, by omega, by have := Nat.mod_lt a hbp; omega⟩ (.cons rfl (.cons rfl (.cons rfl .nil))) .refl
   refine zS szt_116 ?_
   refine XO_nil ?_
   refine zD hD ?_
   refine XD_one 4 rfl (by kernel_rfl) ?_
   refine XO_v0 (ev_rem rfl rfl (fun hg => by rw [maxI_one hbp]; omega)) rfl rfl rfl ?_
   refine XO_nil ?_
   refine zD hD ?_
   refine XD_one 6 rfl (by kernel_rfl) ?_
   refine zS szt_116 ?_
   refine XO_nil ?_
   refine zD hD ?_
   refine XD_done (by kernel_rfl) ?_
   refine at_noP ?_
   rw [show ((a : Int)).tmod (maxI (b : Int) 1) = ((a % b : Nat) : Int) by rw [maxI_one hbp, tmod_nat]]
   refine at_then ?_
   refine zR ?_
   refine zL sct_116 ?_
   refine zC ?_
   refine zN ?_
   refine X_cond rfl (fun hc17 => ?_) (fun hc17 => ?_)
   ·
    have hab : a % b = 0 := by have h := hc17; simp only [beq_iff_eq] at h; omega
    have hpre2 : (pre ++ [a]) ++ [b] <+: remN a0 b0 := by rw [hrem, remN_end ha0 (by omega) hab, List.append_assoc]; exact List.prefix_rfl
    refine zR ?_
    refine zM ?_
    refine zL sct_116 ?_
    refine XO_yield0 (vs := [_]) (Post := fun t I3 H3 => if t then J ((pre ++ [a]) ++ [b]) I3 H3 else Jx ((pre ++ [a]) ++ [b]) I3 H3) rfl rfl rfl rfl (hY (pre ++ [a]) b _ _ hpre2 (hI0.trans hI2) hJ1) ?_
    rintro t3 I3 H3 hI3 hP3
    refine zN ?_
    refine X_ret ?_
    refine at_block_r ?_
    refine at_then_r ?_
    refine at_block_r ?_
    first
    | (refine at_ret0 rfl (fun w hw => ⟨_, I3, H3, rfl, hI1.trans (hI2.trans hI3), hw.drop, ?_⟩); cases t3 with | true => exact .inl (by rw [hrem, remN_end ha0 (by omega) hab]; simpa using hP3) | false => exact .inr ⟨_, hpre2, hP3⟩)
   have hab : a % b ≠ 0 := by have h := hc17; simp only [beq_eq_false_iff_ne, ne_eq] at h; omega
   refine X_skip ?_
   refine at_block_n ?_
   exact at_metH2 rfl rfl rfl _ (remL 116 b1 b2 (b) (((a % b : Nat) : Int))) ⟨a % b, Nat.mod_lt _ hbp, b, a % b, pre ++ [a], rfl, rfl, rfl, hI1.trans hI2, hJ1, by rw [hrem, remN_step ha0 (by omega) hab, List.append_assoc]; rfl, by omega, by omega, by have := Nat.mod_lt a hbp; omega⟩ (.cons rfl (.cons rfl (.cons rfl .nil))) .refl
  ·
   refine zL sct_116 ?_
   refine XO_nil ?_
   refine zD hD ?_
   refine XD_two 0 3 rfl rfl (by kernel_rfl) ?_ ?_
   ·
    refine zL sct_116 ?_
    refine XO_nil ?_
    refine zD hD ?_
    refine XD_two 3 5 rfl rfl (by kernel_rfl) ?_ ?_
    ·
     refine XO_v0 (ev_max rfl rfl) rfl rfl rfl ?_
     refine XO_nil ?_
     refine zD hD ?_
     refine XD_two 4 5 rfl rfl (by kernel_rfl) ?_ ?_
     ·
      refine XO_v0 (ev_rem rfl rfl (fun hg => by rw [maxI_one hbp]; omega)) rfl rfl rfl ?_
      refine XO_nil ?_
      refine zD hD ?_
      refine XD_one 5 rfl (by kernel_rfl) ?_
      refine zS szt_116 ?_
      refine XO_nil ?_
      refine zD hD ?_
      refine XD_one 6 rfl (by kernel_rfl) ?_
      refine zS szt_116 ?_
      refine XO_nil ?_
      refine zD hD ?_
      refine XD_done (by kernel_rfl) ?_
      refine at_noP ?_
      rw [show ((a : Int)).tmod (maxI (b : Int) 1) = ((a % b : Nat) : Int) by rw [maxI_one hbp, tmod_nat]]
      refine at_then ?_
      refine zR ?_
      refine zL sct_116 ?_
      refine zC ?_
      refine zN ?_
      refine X_cond rfl (fun hc17 => ?_) (fun hc17 => ?_)
      ·
       have hab : a % b = 0 := by have h := hc17; simp only [beq_iff_eq] at h; omega
       have hpre2 : (pre ++ [a]) ++ [b] <+: remN a0 b0 := by rw [hrem, remN_end ha0 (by omega) hab, List.append_assoc]; exact List.prefix_rfl
       refine zR ?_
       refine zM ?_
       refine zL sct_116 ?_
       refine XO_yield0 (vs := [_]) (Post := fun t I3 H3 => if t then J ((pre ++ [a]) ++ [b]) I3 H3 else Jx ((pre ++ [a]) ++ [b]) I3 H3) rfl rfl rfl rfl (hY (pre ++ [a]) b _ _ hpre2 (hI0.trans hI2) hJ1) ?_
       rintro t3 I3 H3 hI3 hP3
       refine zN ?_
       refine X_ret ?_
       refine at_block_r ?_
       refine at_then_r ?_
       refine at_block_r ?_
       first
       | (refine at_ret0 rfl (fun w hw => ⟨_, I3, H3, rfl, hI1.trans (hI2.trans hI3), hw.drop, ?_⟩); cases t3 with | true => exact .inl (by rw [hrem, remN_end ha0 (by omega) hab]; simpa using hP3) | false => exact .inr ⟨_, hpre2, hP3⟩)
      have hab : a % b ≠ 0 := by have h := hc17; simp only [beq_eq_false_iff_ne, ne_eq] at h; omega
      refine X_skip ?_
      refine at_block_n ?_
      exact at_metH2 rfl rfl rfl _ (remL 116 b1 b2 (b) (((a % b : Nat) : Int))) ⟨a % b, Nat.mod_lt _ hbp, b, a % b, pre ++ [a], rfl, rfl, rfl, hI1.trans hI2, hJ1, by rw [hrem, remN_step ha0 (by omega) hab, List.append_assoc]; rfl, by omega, by omega, by have := Nat.mod_lt a hbp; omega⟩ (.cons rfl (.cons rfl (.cons rfl .nil))) .refl
     refine zS szt_116 ?_
     refine XO_nil ?_
     refine zD hD ?_
     refine XD_one 4 rfl (by kernel_rfl) ?_
     refine XO_v0 (ev_rem rfl rfl (fun hg => by rw [maxI_one hbp]; omega)) rfl rfl rfl ?_
     refine XO_nil ?_
     refine zD hD ?_
     refine XD_one 6 rfl (by kernel_rfl) ?_
     refine zS szt_116 ?_
     refine XO_nil ?_
     refine zD hD ?_
     refine XD_done (by kernel_rfl) ?_
     refine at_noP ?_
     rw [show ((a : Int)).tmod (maxI (b : Int) 1) = ((a % b : Nat) : Int) by rw [maxI_one hbp, tmod_nat]]
     refine at_then ?_
     refine zR ?_
     refine zL sct_116 ?_
     refine zC ?_
     refine zN ?_
     refine X_cond rfl (fun hc17 => ?_) (fun hc17 => ?_)
     ·
      have hab : a % b = 0 := by have h := hc17; simp only [beq_iff_eq] at h; omega
      have hpre2 : (pre ++ [a]) ++ [b] <+: remN a0 b0 := by rw [hrem, remN_end ha0 (by omega) hab, List.append_assoc]; exact List.prefix_rfl
      refine zR ?_
      refine zM ?_
      refine zL sct_116 ?_
      refine XO_yield0 (vs := [_]) (Post := fun t I3 H3 => if t then J ((pre ++ [a]) ++ [b]) I3 H3 else Jx ((pre ++ [a]) ++ [b]) I3 H3) rfl rfl rfl rfl (hY (pre ++ [a]) b _ _ hpre2 (hI0.trans hI2) hJ1) ?_
      rintro t3 I3 H3 hI3 hP3
      refine zN ?_
      refine X_ret ?_
      refine at_block_r ?_
      refine at_then_r ?_
      refine at_block_r ?_
      first
      | (refine at_ret0 rfl (fun w hw => ⟨_, I3, H3, rfl, hI1.trans (hI2.trans hI3), hw.drop, ?_⟩); cases t3 with | true => exact .inl (by rw [hrem, remN_end ha0 (by omega) hab]; simpa using hP3) | false => exact .inr ⟨_, hpre2, hP3⟩)
     have hab : a % b ≠ 0 := by have h := hc17; simp only [beq_eq_false_iff_ne, ne_eq] at h; omega
     refine X_skip ?_
     refine at_block_n ?_
     exact at_metH2 rfl rfl rfl _ (remL 116 b1 b2 (b) (((a % b : Nat) : Int))) ⟨a % b, Nat.mod_lt _ hbp, b, a % b, pre ++ [a], rfl, rfl, rfl, hI1.trans hI2, hJ1, by rw [hrem, remN_step ha0 (by omega) hab, List.append_assoc]; rfl, by omega, by omega, by have := Nat.mod_lt a hbp; omega⟩ (.cons rfl (.cons rfl (.cons rfl .nil))) .refl
    refine zS szt_116 ?_
    refine XO_nil ?_
    refine zD hD ?_
    refine XD_one 3 rfl (by kernel_rfl) ?_
    refine XO_v0 (ev_max rfl rfl) rfl rfl rfl ?_
    refine XO_nil ?_
    refine zD hD ?_
    refine XD_one 4 rfl (by kernel_rfl) ?_
    refine XO_v0 (ev_rem rfl rfl (fun hg => by rw [maxI_one hbp]; omega)) rfl rfl rfl ?_
    refine XO_nil ?_
    refine zD hD ?_
    refine XD_one 6 rfl (by kernel_rfl) ?_
    refine zS szt_116 ?_
    refine XO_nil ?_
    refine zD hD ?_
    refine XD_done (by kernel_rfl) ?_
    refine at_noP ?_
    rw [show ((a : Int)).tmod (maxI (b : Int) 1) = ((a % b : Nat) : Int) by rw [maxI_one hbp, tmod_nat]]
    refine at_then ?_
    refine zR ?_
    refine zL sct_116 ?_
    refine zC ?_
    refine zN ?_
    refine X_cond rfl (fun hc17 => ?_) (fun hc17 => ?_)
    ·
     have hab : a % b = 0 := by have h := hc17; simp only [beq_iff_eq] at h; omega
     have hpre2 : (pre ++ [a]) ++ [b] <+: remN a0 b0 := by rw [hrem, remN_end ha0 (by omega) hab, List.append_assoc]; exact List.prefix_rfl
     refine zR ?_
     refine zM ?_
     refine zL sct_116 ?_
     refine XO_yield0 (vs := [_]) (Post := fun t I3 H3 => if t then J ((pre ++ [a]) ++ [b]) I3 H3 else Jx ((pre ++ [a]) ++ [b]) I3 H3) rfl rfl rfl rfl (hY (pre ++ [a]) b _ _ hpre2 (hI0.trans hI2) hJ1) ?_
     rintro t3 I3 H3 hI3 hP3
     refine zN ?_
     refine X_ret ?_
     refine at_block_r ?_
     refine at_then_r ?_
     refine at_block_r ?_
     first
     | (refine at_ret0 rfl (fun w hw => ⟨_, I3, H3, rfl, hI1.trans (hI2.trans hI3), hw.drop, ?_⟩); cases t3 with | true => exact .inl (by rw [hrem, remN_end ha0 (by omega) hab]; simpa using hP3) | false => exact .inr ⟨_, hpre2, hP3⟩)
    have hab : a % b ≠ 0 := by have h := hc17; simp only [beq_eq_false_iff_ne, ne_eq] at h; omega
    refine X_skip ?_
    refine at_block_n ?_
    exact at_metH2 rfl rfl rfl _ (remL 116 b1 b2 (b) (((a % b : Nat) : Int))) ⟨a % b, Nat.mod_lt _ hbp, b, a % b, pre ++ [a], rfl, rfl, rfl, hI1.trans hI2, hJ1, by rw [hrem, remN_step ha0 (by omega) hab, List.append_assoc]; rfl, by omega, by omega, by have := Nat.mod_lt a hbp; omega⟩ (.cons rfl (.cons rfl (.cons rfl .nil))) .refl
   refine XO_v0 (ev_max rfl rfl) rfl rfl rfl ?_
   refine XO_nil ?_
   refine zD hD ?_
   refine XD_two 0 4 rfl rfl (by kernel_rfl) ?_ ?_
   ·
    refine zL sct_116 ?_
    refine XO_nil ?_
    refine zD hD ?_
    refine XD_two 4 5 rfl rfl (by kernel_rfl) ?_ ?_
    ·
     refine XO_v0 (ev_rem rfl rfl (fun hg => by rw [maxI_one hbp]; omega)) rfl rfl rfl ?_
     refine XO_nil ?_
     refine zD hD ?_
     refine XD_one 5 rfl (by kernel_rfl) ?_
     refine zS szt_116 ?_
     refine XO_nil ?_
     refine zD hD ?_
     refine XD_one 6 rfl (by kernel_rfl) ?_
     refine zS szt_116 ?_
     refine XO_nil ?_
     refine zD hD ?_
     refine XD_done (by kernel_rfl) ?_
     refine at_noP ?_
     rw [show ((a : Int)).tmod (maxI (b : Int) 1) = ((a % b : Nat) : Int) by rw [maxI_one hbp, tmod_nat]]
     refine at_then ?_
     refine zR ?_
     refine zL sct_116 ?_
     refine zC ?_
     refine zN ?_
     refine X_cond rfl (fun hc17 => ?_) (fun hc17 => ?_)
     ·
      have hab : a % b = 0 := by have h := hc17; simp only [beq_iff_eq] at h; omega
      have hpre2 : (pre ++ [a]) ++ [b] <+: remN a0 b0 := by rw [hrem, remN_end ha0 (by omega) hab, List.append_assoc]; exact List.prefix_rfl
      refine zR ?_
      refine zM ?_
      refine zL sct_116 ?_
      refine XO_yield0 (vs := [_]) (Post := fun t I3 H3 => if t then J ((pre ++ [a]) ++ [b]) I3 H3 else Jx ((pre ++ [a]) ++ [b]) I3 H3) rfl rfl rfl rfl (hY (pre ++ [a]) b _ _ hpre2 (hI0.trans hI2) hJ1) ?_
      rintro t3 I3 H3 hI3 hP3
      refine zN ?_
      refine X_ret ?_
      refine at_block_r ?_
      refine at_then_r ?_
      refine at_block_r ?_
      first
      | (refine at_ret0 rfl (fun w hw => ⟨_, I3, H3, rfl, hI1.trans (hI2.trans hI3), hw.drop, ?_⟩); cases t3 with | true => exact .inl (by rw [hrem, remN_end ha0 (by omega) hab]; simpa using hP3) | false => exact .inr ⟨_, hpre2, hP3⟩)
     have hab : a % b ≠ 0 := by have h := hc17; simp only [beq_eq_false_iff_ne, ne_eq] at h; omega
     refine X_skip ?_
     refine at_block_n ?_
     exact at_metH2 rfl rfl rfl _ (remL 116 b1 b2 (b) (((a % b : Nat) : Int))) ⟨a % b, Nat.mod_lt _ hbp, b, a % b, pre ++ [a], rfl, rfl, rfl, hI1.trans hI2, hJ1, by rw [hrem, remN_step ha0 (by omega) hab, List.append_assoc]; rfl, by omega, by omega, by have := Nat.mod_lt a hbp; omega⟩ (.cons rfl (.cons rfl (.cons rfl .nil))) .refl
    refine zS szt_116 ?_
    refine XO_nil ?_
    refine zD hD ?_
    refine XD_one 4 rfl (by kernel_rfl) ?_
    refine XO_v0 (ev_rem rfl rfl (fun hg => by rw [maxI_one hbp]; omega)) rfl rfl rfl ?_
    refine XO_nil ?_
    refine zD hD ?_
    refine XD_one 6 rfl (by kernel_rfl) ?_
    refine zS szt_116 ?_
    refine XO_nil ?_
    refine zD hD ?_
    refine XD_done (by kernel_rfl) ?_
    refine at_noP ?_
    rw [show ((a : Int)).tmod (maxI (b : Int) 1) = ((a % b : Nat) : Int) by rw [maxI_one hbp, tmod_nat]]
    refine at_then ?_
    refine zR ?_
    refine zL sct_116 ?_
    refine zC ?_
    refine zN ?_
    refine X_cond rfl (fun hc17 => ?_) (fun hc17 => ?_)
    ·
     have hab : a % b = 0 := by have h := hc17; simp only [beq_iff_eq] at h; omega
     have hpre2 : (pre ++ [a]) ++ [b] <+: remN a0 b0 := by rw [hrem, remN_end ha0 (by omega) hab, List.append_assoc]; exact List.prefix_rfl
     refine zR ?_
     refine zM ?_
     refine zL sct_116 ?_
     refine XO_yield0 (vs := [_]) (Post := fun t I3 H3 => if t then J ((pre ++ [a]) ++ [b]) I3 H3 else Jx ((pre ++ [a]) ++ [b]) I3 H3) rfl rfl rfl rfl (hY (pre ++ [a]) b _ _ hpre2 (hI0.trans hI2) hJ1) ?_
     rintro t3 I3 H3 hI3 hP3
     refine zN ?_
     refine X_ret ?_
     refine at_block_r ?_
     refine at_then_r ?_
     refine at_block_r ?_
     first
     | (refine at_ret0 rfl (fun w hw => ⟨_, I3, H3, rfl, hI1.trans (hI2.trans hI3), hw.drop, ?_⟩); cases t3 with | true => exact .inl (by rw [hrem, remN_end ha0 (by omega) hab]; simpa using hP3) | false => exact .inr ⟨_, hpre2, hP3⟩)
    have hab : a % b ≠ 0 := by have h := hc17; simp only [beq_eq_false_iff_ne, ne_eq] at h; omega
    refine X_skip ?_
    refine at_block_n ?_
    exact at_metH2 rfl rfl rfl _ (remL 116 b1 b2 (b) (((a % b : Nat) : Int))) ⟨a % b, Nat.mod_lt _ hbp, b, a % b, pre ++ [a], rfl, rfl, rfl, hI1.trans hI2, hJ1, by rw [hrem, remN_step ha0 (by omega) hab, List.append_assoc]; rfl, by omega, by omega, by have := Nat.mod_lt a hbp; omega⟩ (.cons rfl (.cons rfl (.cons rfl .nil))) .refl
   refine XO_v0 (ev_rem rfl rfl (fun hg => by rw [maxI_one hbp]; omega)) rfl rfl rfl ?_
   refine XO_nil ?_
   refine zD hD ?_
   refine XD_one 0 rfl (by kernel_rfl) ?_
   refine zL sct_116 ?_
   refine XO_nil ?_
   refine zD hD ?_
   refine XD_one 5 rfl (by kernel_rfl) ?_
   refine zS szt_116 ?_
   refine XO_nil ?_
   refine zD hD ?_
   refine XD_one 6 rfl (by kernel_rfl) ?_
   refine zS szt_116 ?_
   refine XO_nil ?_
   refine zD hD ?_
   refine XD_done (by kernel_rfl) ?_
   refine at_noP ?_
   rw [show ((a : Int)).tmod (maxI (b : Int) 1) = ((a % b : Nat) : Int) by rw [maxI_one hbp, tmod_nat]]
   refine at_then ?_
   refine zR ?_
   refine zL sct_116 ?_
   refine zC ?_
   refine zN ?_
   refine X_cond rfl (fun hc17 => ?_) (fun hc17 => ?_)
   ·
    have hab : a % b = 0 := by have h := hc17; simp only [beq_iff_eq] at h; omega
    have hpre2 : (pre ++ [a]) ++ [b] <+: remN a0 b0 := by rw [hrem, remN_end ha0 (by omega) hab, List.append_assoc]; exact List.prefix_rfl
    refine zR ?_
    refine zM ?_
    refine zL sct_116 ?_
    refine XO_yield0 (vs := [_]) (Post := fun t I3 H3 => if t then J ((pre ++ [a]) ++ [b]) I3 H3 else Jx ((pre ++ [a]) ++ [b]) I3 H3) rfl rfl rfl rfl (hY (pre ++ [a]) b _ _ hpre2 (hI0.trans hI2) hJ1) ?_
    rintro t3 I3 H3 hI3 hP3
    refine zN ?_
    refine X_ret ?_
    refine at_block_r ?_
    refine at_then_r ?_
    refine at_block_r ?_
    first
    | (refine at_ret0 rfl (fun w hw => ⟨_, I3, H3, rfl, hI1.trans (hI2.trans hI3), hw.drop, ?_⟩); cases t3 with | true => exact .inl (by rw [hrem, remN_end ha0 (by omega) hab]; simpa using hP3) | false => exact .inr ⟨_, hpre2, hP3⟩)
   have hab : a % b ≠ 0 := by have h := hc17; simp only [beq_eq_false_iff_ne, ne_eq] at h; omega
   refine X_skip ?_
   refine at_block_n ?_
   exact at_metH2 rfl rfl rfl _ (remL 116 b1 b2 (b) (((a % b : Nat) : Int))) ⟨a % b, Nat.mod_lt _ hbp, b, a % b, pre ++ [a], rfl, rfl, rfl, hI1.trans hI2, hJ1, by rw [hrem, remN_step ha0 (by omega) hab, List.append_assoc]; rfl, by omega, by omega, by have := Nat.mod_lt a hbp; omega⟩ (.cons rfl (.cons rfl (.cons rfl .nil))) .refl
  refine XO_v0 (ev_max rfl rfl) rfl rfl rfl ?_
  refine XO_nil ?_
  refine zD hD ?_
  refine XD_two 0 1 rfl rfl (by kernel_rfl) ?_ ?_
  ·
   refine zL sct_116 ?_
   refine XO_nil ?_
   refine zD hD ?_
   refine XD_one 1 rfl (by kernel_rfl) ?_
   refine zL sct_116 ?_
   refine XO_nil ?_
   refine zD hD ?_
   refine XD_two 4 5 rfl rfl (by kernel_rfl) ?_ ?_
   ·
    refine XO_v0 (ev_rem rfl rfl (fun hg => by rw [maxI_one hbp]; omega)) rfl rfl rfl ?_
    refine XO_nil ?_
    refine zD hD ?_
    refine XD_one 5 rfl (by kernel_rfl) ?_
    refine zS szt_116 ?_
    refine XO_nil ?_
    refine zD hD ?_
    refine XD_one 6 rfl (by kernel_rfl) ?_
    refine zS szt_116 ?_
    refine XO_nil ?_
    refine zD hD ?_
    refine XD_done (by kernel_rfl) ?_
    refine at_noP ?_
    rw [show ((a : Int)).tmod (maxI (b : Int) 1) = ((a % b : Nat) : Int) by rw [maxI_one hbp, tmod_nat]]
    refine at_then ?_
    refine zR ?_
    refine zL sct_116 ?_
    refine zC ?_
    refine zN ?_
    refine X_cond rfl (fun hc17 => ?_) (fun hc17 => ?_)
    ·
     have hab : a % b = 0 := by have h := hc17; simp only [beq_iff_eq] at h; omega
     have hpre2 : (pre ++ [a]) ++ [b] <+: remN a0 b0 := by rw [hrem, remN_end ha0 (by omega) hab, List.append_assoc]; exact List.prefix_rfl
     refine zR ?_
     refine zM ?_
     refine zL sct_116 ?_
     refine XO_yield0 (vs := [_]) (Post := fun t I3 H3 => if t then J ((pre ++ [a]) ++ [b]) I3 H3 else Jx ((pre ++ [a]) ++ [b]) I3 H3) rfl rfl rfl rfl (hY (pre ++ [a]) b _ _ hpre2 (hI0.trans hI2) hJ1) ?_
     rintro t3 I3 H3 hI3 hP3
     refine zN ?_
     refine X_ret ?_
     refine at_block_r ?_
     refine at_then_r ?_
     refine at_block_r ?_
     first
     | (refine at_ret0 rfl (fun w hw => ⟨_, I3, H3, rfl, hI1.trans (hI2.trans hI3), hw.drop, ?_⟩); cases t3 with | true => exact .inl (by rw [hrem, remN_end ha0 (by omega) hab]; simpa using hP3) | false => exact .inr ⟨_, hpre2, hP3⟩)
    have hab : a % b ≠ 0 := by have h := hc17; simp only [beq_eq_false_iff_ne, ne_eq] at h; omega
    refine X_skip ?_
    refine at_block_n ?_
    exact at_metH2 rfl rfl rfl _ (remL 116 b1 b2 (b) (((a % b : Nat) : Int))) ⟨a % b, Nat.mod_lt _ hbp, b, a % b, pre ++ [a], rfl, rfl, rfl, hI1.trans hI2, hJ1, by rw [hrem, remN_step ha0 (by omega) hab, List.append_assoc]; rfl, by omega, by omega, by have := Nat.mod_lt a hbp; omega⟩ (.cons rfl (.cons rfl (.cons rfl .nil))) .refl
   refine zS szt_116 ?_
   refine XO_nil ?_
   refine zD hD ?_
   refine XD_one 4 rfl (by kernel_rfl) ?_
   refine XO_v0 (ev_rem rfl rfl (fun hg => by rw [maxI_one hbp]; omega)) rfl rfl rfl ?_
   refine XO_nil ?_
   refine zD hD ?_
   refine XD_one 6 rfl (by kernel_rfl) ?_
   refine zS szt_116 ?_
   refine XO_nil ?_
   refine zD hD ?_
   refine XD_done (by kernel_rfl) ?_
   refine at_noP ?_
   rw [show ((a : Int)).tmod (maxI (b : Int) 1) = ((a % b : Nat) : Int) by rw [maxI_one hbp, tmod_nat]]
   refine at_then ?_
   refine zR ?_
   refine zL sct_116 ?_
   refine zC ?_
   refine zN ?_
   refine X_cond rfl (fun hc17 => ?_) (fun hc17 => ?_)
   ·
    have hab : a % b = 0 := by have h := hc17; simp only [beq_iff_eq] at h; omega
    have hpre2 : (pre ++ [a]) ++ [b] <+: remN a0 b0 := by rw [hrem, remN_end ha0 (by omega) hab, List.append_assoc]; exact List.prefix_rfl
    refine zR ?_
    refine zM ?_
    refine zL sct_116 ?_
    refine XO_yield0 (vs := [_]) (Post := fun t I3 H3 => if t then J ((pre ++ [a]) ++ [b]) I3 H3 else Jx ((pre ++ [a]) ++ [b]) I3 H3) rfl rfl rfl rfl (hY (pre ++ [a]) b _ _ hpre2 (hI0.trans hI2) hJ1) ?_
    rintro t3 I3 H3 hI3 hP3
    refine zN ?_
    refine X_ret ?_
    refine at_block_r ?_
    refine at_then_r ?_
    refine at_block_r ?_
    first
    | (refine at_ret0 rfl (fun w hw => ⟨_, I3, H3, rfl, hI1.trans (hI2.trans hI3), hw.drop, ?_⟩); cases t3 with | true => exact .inl (by rw [hrem, remN_end ha0 (by omega) hab]; simpa using hP3) | false => exact .inr ⟨_, hpre2, hP3⟩)
   have hab : a % b ≠ 0 := by have h := hc17; simp only [beq_eq_false_iff_ne, ne_eq] at h; omega
   refine X_skip ?_
   refine at_block_n ?_
   exact at_metH2 rfl rfl rfl _ (remL 116 b1 b2 (b) (((a % b : Nat) : Int))) ⟨a % b, Nat.mod_lt _ hbp, b, a % b, pre ++ [a], rfl, rfl, rfl, hI1.trans hI2, hJ1, by rw [hrem, remN_step ha0 (by omega) hab, List.append_assoc]; rfl, by omega, by omega, by have := Nat.mod_lt a hbp; omega⟩ (.cons rfl (.cons rfl (.cons rfl .nil))) .refl
  refine zL sct_116 ?_
  refine XO_nil ?_
  refine zD hD ?_
  refine XD_two 0 4 rfl rfl (by kernel_rfl) ?_ ?_
  ·
   refine zL sct_116 ?_
   refine XO_nil ?_
   refine zD hD ?_
   refine XD_two 4 5 rfl rfl (by kernel_rfl) ?_ ?_
   ·
    refine XO_v0 (ev_rem rfl rfl (fun hg => by rw [maxI_one hbp]; omega)) rfl rfl rfl ?_
    refine XO_nil ?_
    refine zD hD ?_
    refine XD_one 5 rfl (by kernel_rfl) ?_
    refine zS szt_116 ?_
    refine XO_nil ?_
    refine zD hD ?_
    refine XD_one 6 rfl (by kernel_rfl) ?_
    refine zS szt_116 ?_
    refine XO_nil ?_
    refine zD hD ?_
    refine XD_done (by kernel_rfl) ?_
    refine at_noP ?_
    rw [show ((a : Int)).tmod (maxI (b : Int) 1) = ((a % b : Nat) : Int) by rw [maxI_one hbp, tmod_nat]]
    refine at_then ?_
    refine zR ?_
    refine zL sct_116 ?_
    refine zC ?_
    refine zN ?_
    refine X_cond rfl (fun hc17 => ?_) (fun hc17 => ?_)
    ·
     have hab : a % b = 0 := by have h := hc17; simp only [beq_iff_eq] at h; omega
     have hpre2 : (pre ++ [a]) ++ [b] <+: remN a0 b0 := by rw [hrem, remN_end ha0 (by omega) hab, List.append_assoc]; exact List.prefix_rfl
     refine zR ?_
     refine zM ?_
     refine zL sct_116 ?_
     refine XO_yield0 (vs := [_]) (Post := fun t I3 H3 => if t then J ((pre ++ [a]) ++ [b]) I3 H3 else Jx ((pre ++ [a]) ++ [b]) I3 H3) rfl rfl rfl rfl (hY (pre ++ [a]) b _ _ hpre2 (hI0.trans hI2) hJ1) ?_
     rintro t3 I3 H3 hI3 hP3
     refine zN ?_
     refine X_ret ?_
     refine at_block_r ?_
     refine at_then_r ?_
     refine at_block_r ?_
     first
     | (refine at_ret0 rfl (fun w hw => ⟨_, I3, H3, rfl, hI1.trans (hI2.trans hI3), hw.drop, ?_⟩); cases t3 with | true => exact .inl (by rw [hrem, remN_end ha0 (by omega) hab]; simpa using hP3) | false => exact .inr ⟨_, hpre2, hP3⟩)
    have hab : a % b ≠ 0 := by have h := hc17; simp only [beq_eq_false_iff_ne, ne_eq] at h; omega
    refine X_skip ?_
    refine at_block_n ?_
    exact at_metH2 rfl rfl rfl _ (remL 116 b1 b2 (b) (((a % b : Nat) : Int))) ⟨a % b, Nat.mod_lt _ hbp, b, a % b, pre ++ [a], rfl, rfl, rfl, hI1.trans hI2, hJ1, by rw [hrem, remN_step ha0 (by omega) hab, List.append_assoc]; rfl, by omega, by omega, by have := Nat.mod_lt a hbp; omega⟩ (.cons rfl (.cons rfl (.cons rfl .nil))) .refl
   refine zS szt_116 ?_
   refine XO_nil ?_
   refine zD hD ?_
   refine XD_one 4 rfl (by kernel_rfl) ?_
   refine XO_v0 (ev_rem rfl rfl (fun hg => by rw [maxI_one hbp]; omega)) rfl rfl rfl ?_
   refine XO_nil ?_
   refine zD hD ?_
   refine XD_one 6 rfl (by kernel_rfl) ?_
   refine zS szt_116 ?_
   refine XO_nil ?_
   refine zD hD ?_
   refine XD_done (by kernel_rfl) ?_
   refine at_noP ?_
   rw [show ((a : Int)).tmod (maxI (b : Int) 1) = ((a % b : Nat) : Int) by rw [maxI_one hbp, tmod_nat]]
   refine at_then ?_
   refine zR ?_
   refine zL sct_116 ?_
   refine zC ?_
   refine zN ?_
   refine X_cond rfl (fun hc17 => ?_) (fun hc17 => ?_)
   ·
    have hab : a % b = 0 := by have h := hc17; simp only [beq_iff_eq] at h; omega
    have hpre2 : (pre ++ [a]) ++ [b] <+: remN a0 b0 := by rw [hrem, remN_end ha0 (by omega) hab, List.append_assoc]; exact List.prefix_rfl
    refine zR ?_
    refine zM ?_
    refine zL sct_116 ?_
    refine XO_yield0 (vs := [_]) (Post := fun t I3 H3 => if t then J ((pre ++ [a]) ++ [b]) I3 H3 else Jx ((pre ++ [a]) ++ [b]) I3 H3) rfl rfl rfl rfl (hY (pre ++ [a]) b _ _ hpre2 (hI0.trans hI2) hJ1) ?_
    rintro t3 I3 H3 hI3 hP3
    refine zN ?_
    refine X_ret ?_
    refine at_block_r ?_
    refine at_then_r ?_
    refine at_block_r ?_
    first
    | (refine at_ret0 rfl (fun w hw => ⟨_, I3, H3, rfl, hI1.trans (hI2.trans hI3), hw.drop, ?_⟩); cases t3 with | true => exact .inl (by rw [hrem, remN_end ha0 (by omega) hab]; simpa using hP3) | false => exact .inr ⟨_, hpre2, hP3⟩)
   have hab : a % b ≠ 0 := by have h := hc17; simp only [beq_eq_false_iff_ne, ne_eq] at h; omega
   refine X_skip ?_
   refine at_block_n ?_
   exact at_metH2 rfl rfl rfl _ (remL 116 b1 b2 (b) (((a % b : Nat) : Int))) ⟨a % b, Nat.mod_lt _ hbp, b, a % b, pre ++ [a], rfl, rfl, rfl, hI1.trans hI2, hJ1, by rw [hrem, remN_step ha0 (by omega) hab, List.append_assoc]; rfl, by omega, by omega, by have := Nat.mod_lt a hbp; omega⟩ (.cons rfl (.cons rfl (.cons rfl .nil))) .refl
  refine XO_v0 (ev_rem rfl rfl (fun hg => by rw [maxI_one hbp]; omega)) rfl rfl rfl ?_
  refine XO_nil ?_
  refine zD hD ?_
  refine XD_one 0 rfl (by kernel_rfl) ?_
  refine zL sct_116 ?_
  refine XO_nil ?_
  refine zD hD ?_
  refine XD_one 5 rfl (by kernel_rfl) ?_
  refine zS szt_116 ?_
  refine XO_nil ?_
  refine zD hD ?_
  refine XD_one 6 rfl (by kernel_rfl) ?_
  refine zS szt_116 ?_
  refine XO_nil ?_
  refine zD hD ?_
  refine XD_done (by kernel_rfl) ?_
  refine at_noP ?_
  rw [show ((a : Int)).tmod (maxI (b : Int) 1) = ((a % b : Nat) : Int) by rw [maxI_one hbp, tmod_nat]]
  refine at_then ?_
  refine zR ?_
  refine zL sct_116 ?_
  refine zC ?_
  refine zN ?_
  refine X_cond rfl (fun hc17 => ?_) (fun hc17 => ?_)
  ·
   have hab : a % b = 0 := by have h := hc17; simp only [beq_iff_eq] at h; omega
   have hpre2 : (pre ++ [a]) ++ [b] <+: remN a0 b0 := by rw [hrem, remN_end ha0 (by omega) hab, List.append_assoc]; exact List.prefix_rfl
   refine zR ?_
   refine zM ?_
   refine zL sct_116 ?_
   refine XO_yield0 (vs := [_]) (Post := fun t I3 H3 => if t then J ((pre ++ [a]) ++ [b]) I3 H3 else Jx ((pre ++ [a]) ++ [b]) I3 H3) rfl rfl rfl rfl (hY (pre ++ [a]) b _ _ hpre2 (hI0.trans hI2) hJ1) ?_
   rintro t3 I3 H3 hI3 hP3
   refine zN ?_
   refine X_ret ?_
   refine at_block_r ?_
   refine at_then_r ?_
   refine at_block_r ?_
   first
   | (refine at_ret0 rfl (fun w hw => ⟨_, I3, H3, rfl, hI1.trans (hI2.trans hI3), hw.drop, ?_⟩); cases t3 with | true => exact .inl (by rw [hrem, remN_end ha0 (by omega) hab]; simpa using hP3) | false => exact .inr ⟨_, hpre2, hP3⟩)
  have hab : a % b ≠ 0 := by have h := hc17; simp only [beq_eq_false_iff_ne, ne_eq] at h; omega
  refine X_skip ?_
  refine at_block_n ?_
  exact at_metH2 rfl rfl rfl _ (remL 116 b1 b2 (b) (((a % b : Nat) : Int))) ⟨a % b, Nat.mod_lt _ hbp, b, a % b, pre ++ [a], rfl, rfl, rfl, hI1.trans hI2, hJ1, by rw [hrem, remN_step ha0 (by omega) hab, List.append_assoc]; rfl, by omega, by omega, by have := Nat.mod_lt a hbp; omega⟩ (.cons rfl (.cons rfl (.cons rfl .nil))) .refl
 refine X_exit ?_
 refine at_then_e ?_
 refine at_then_e ?_
 refine at_block_hit ?_
 first
 | (refine at_norm (at_ret0 rfl (fun w hw => ⟨_, I2, H2, rfl, hI1.trans hI2, hw.drop, ?_⟩)); by_cases ha0 : a = 0; (obtain ⟨e1, e2⟩ := hno (by simp [conj, ha0]); subst e1; subst e2; subst ha0; exact .inl (by rw [hrem, remN_zero, List.append_nil]; exact hJk)); (have ht : t = false := (by simp [ha0] at hc10; exact hc10); subst ht; exact .inr ⟨_, rem_pre hrem ha0, hyes (by simp [conj]; exact ha0)⟩))
end Go.Proofs.YtehkiccapbkhnaaGreat
end
section
namespace Go.Proofs.YtehkiccapbkhnaaGreat
open Go Go.Kn Go.Proofs
theorem w_div (I : HMap) (a b : Nat) (hb : 0 < b) (ha : a ≤ 9223372036854775807) (hb2 : b ≤ 9223372036854775807) : RetV Tryz.prog 171 [.int .u64 a, .int .u64 b] I (.int .u64 (Nat.gcd a b : Nat)) := by
 intro g H w hw
 refine enterMs Tryz.func171 rfl Tryz.ntmps171 rfl hw ?_
 have hIc := HLe.refl I
 refine zR ?_
 refine XO_alloc zt_116 rfl rfl (fun b_4 => ?_)
 refine zN ?_
 refine X_seq ?_
 refine zR ?_
 refine zM ?_
 refine zC ?_
 refine zN ?_
 refine X_cond rfl (fun hc7 => ?_) (fun hc7 => ?_)
 ·
  simp at hc7; omega
 refine X_skip ?_
 refine at_then ?_
 refine zR ?_
 refine zM ?_
 refine zS szt_116 ?_
 refine zN ?_
 refine X_seq ?_
 refine zR ?_
 refine zM ?_
 refine zM ?_
 refine XO_callM (cap := []) (vs := [_, _]) rfl rfl fun_175 .nil (w_rem I _ _) rfl rfl ?_
 rintro vv1 I1 L1 hI1 ⟨rfl, b1, b2, rfl, rfl⟩
 have hIc := hIc.trans hI1
 refine zN ?_
 refine X_block ?_
 refine X_rangeFuncM (ms := []) (K := remL 116 b1 b2 (a) (b)) (L := [(b_4, .cells #[.int .u64 b] 116 (0, 0))]) (enc := fun n : Nat => .int .u64 n) (xs := remN a b) (fun pre I' loc' => loc' = [(b_4, .cells #[.int .u64 ((pre.getLastD b : Nat) : Int)] 116 (0, 0))]) (fun _ _ _ _ => False) (fun pre x E2 I2 loc2 => E2 = [(4, capP b_4), (5, .int .u64 x)] ∧ loc2 = [(b_4, .cells #[.int .u64 ((pre.getLastD b : Nat) : Int)] 116 (0, 0))]) rfl fun_177 (w_euclid _ a b b1 b2 hb ha hb2) rfl rfl ?_ ?_ ?_ ?_
 ·
  rintro l pre x I1 loc1 H1 hpre hI1 rfl
  refine X_region ?_
  refine zA ?_
  refine XO_nil ?_
  exact at_met' _ ⟨HLe.refl _, rfl, rfl⟩ (.cons rfl (.cons rfl .nil))
 ·
  rintro l pre x E2 I2 loc2 H2 hpre hI2 ⟨rfl, rfl⟩
  refine X_block ?_
  refine X_region ?_
  refine zM ?_
  refine zS szt_116 ?_
  refine XO_nil ?_
  refine at_block_n ?_
  exact at_round2 ⟨HLe.refl _, by rw [last_snoc]; rfl⟩ .refl
 ·
  rintro bd I1 loc1 hI1 rfl
  have hIc := hIc.trans hI1
  refine at_block_n ?_
  refine at_then ?_
  refine zR ?_
  refine zL sct_116 ?_
  refine zS szt_116 ?_
  refine zN ?_
  refine X_ret ?_
  exact at_retMs (L := [(b_4, _)]) (fun a ha w hw => res1c rfl rfl sct_116 (Cell.h0 rfl) a ha w hw) (fun w hw => ⟨by rw [remN_gcd b (Nat.le_refl _) (by omega) (fun _ => rfl)], (hw.mono hIc).drop⟩)
 rintro c bd pre I1 loc1 hI1 hpre hF; exact hF.elim
theorem w_divI (I : HMap) (n d : Int) (hn : -1073741824 ≤ n ∧ n ≤ 1073741824) (hd : 1 ≤ d ∧ d ≤ 1073741824) : RetV Tryz.prog 171 [.int .u64 (magI n), .int .u64 (IntKind.u64.wrap d)] I (.int .u64 (gcdI n d)) := by
 have h0 : 0 ≤ magI n ∧ magI n ≤ 1073741824 := by unfold magI; split <;> omega
 have h := w_div I (magI n).toNat d.toNat (by omega) (by omega) (by omega)
 rw [u64_id (by omega)]
 rw [Int.toNat_of_nonneg h0.1, Int.toNat_of_nonneg (by omega), mag_gcd, Int.toNat_of_nonneg (by omega)] at h
 exact h
theorem w_ratchk (I : HMap) (n d : Int) : RetV Tryz.prog 168 [encRA (n) (d)] I (.int .i64 (ratE n d)) := by
 intro g H w hw
 refine enter Tryz.func168 rfl Tryz.ntmps168 rfl hw ?_
 refine zR ?_
 refine XO_box rfl rfl rfl (fun b_1 => ?_)
 refine zA ?_
 refine zN ?_
 refine X_seq ?_
 refine X_seq ?_
 refine X_draw mixed (by kernel_rfl) ?_
 refine XQ_v0 (ev_fieldAddr rfl fld_61_1) rfl rfl rfl ?_
 refine XQ_v0 (ev_load rfl sct_3 (fun hg => by repeat (first | exact Cell.here rfl | apply Cell.there | apply Cell.app))) rfl rfl rfl ?_
 refine XQ_v0 (ev_cmp rfl rfl rfl) rfl rfl rfl ?_
 refine XQ_v0 (ev_move rfl) rfl rfl rfl ?_
 refine XQ_pushF 3 rfl rfl rfl ?_
 refine XQ_v1 (ev_fieldAddr rfl fld_61_1) (.some rfl rfl rfl rfl gbf) rfl rfl rfl ?_
 refine XQ_v1 (ev_load rfl sct_3 (fun hg => by repeat (first | exact Cell.here rfl | apply Cell.there | apply Cell.app))) (.some rfl rfl rfl rfl gbf) rfl rfl rfl ?_
 refine XQ_v1 (ev_cmp rfl rfl rfl) (.some rfl rfl rfl rfl gbf) rfl rfl rfl ?_
 refine XQ_or0 rfl rfl rfl rfl rfl ?_
 refine XQ_v0 (ev_move rfl) rfl rfl rfl ?_
 refine XQ_pushF 8 rfl rfl rfl ?_
 refine XQ_v1 (ev_fieldAddr rfl fld_61_0) (.some rfl rfl rfl rfl gbf) rfl rfl rfl ?_
 refine XQ_v1 (ev_load rfl sct_3 (fun hg => by repeat (first | exact Cell.here rfl | apply Cell.there | apply Cell.app))) (.some rfl rfl rfl rfl gbf) rfl rfl rfl ?_
 refine XQ_v1 (ev_cmp rfl rfl rfl) (.some rfl rfl rfl rfl gbf) rfl rfl rfl ?_
 refine XQ_or0 rfl rfl rfl rfl rfl ?_
 refine XQ_v0 (ev_move rfl) rfl rfl rfl ?_
 refine XQ_pushF 13 rfl rfl rfl ?_
 refine XQ_v1 (ev_fieldAddr rfl fld_61_0) (.some rfl rfl rfl rfl gbf) rfl rfl rfl ?_
 refine XQ_v1 (ev_load rfl sct_3 (fun hg => by repeat (first | exact Cell.here rfl | apply Cell.there | apply Cell.app))) (.some rfl rfl rfl rfl gbf) rfl rfl rfl ?_
 refine XQ_v1 (ev_cmp rfl rfl rfl) (.some rfl rfl rfl rfl gbf) rfl rfl rfl ?_
 refine XQ_or0 rfl rfl rfl rfl rfl ?_
 refine XQ_v0 (ev_move rfl) rfl rfl rfl ?_
 refine XQ_pushF 18 rfl rfl rfl ?_
 refine XQ_v1 (ev_fieldAddr rfl fld_61_0) (.some rfl rfl rfl rfl gbf) rfl rfl rfl ?_
 refine XQ_v1 (ev_load rfl sct_3 (fun hg => by repeat (first | exact Cell.here rfl | apply Cell.there | apply Cell.app))) (.some rfl rfl rfl rfl gbf) rfl rfl rfl ?_
 refine XQ_callV1 (cap := []) (vs := [_]) rfl rfl fun_172 (fun hg => w_mag I n (by simp [conj] at hg; omega)) (.some rfl rfl rfl rfl gbf) rfl rfl ?_
 refine XQ_v1 (ev_fieldAddr rfl fld_61_1) (.some rfl rfl rfl rfl gbf) rfl rfl rfl ?_
 refine XQ_v1 (ev_load rfl sct_3 (fun hg => by repeat (first | exact Cell.here rfl | apply Cell.there | apply Cell.app))) (.some rfl rfl rfl rfl gbf) rfl rfl rfl ?_
 refine XQ_v1 (ev_convI rfl cvt_3_116) (.some rfl rfl rfl rfl gbf) rfl rfl rfl ?_
 refine XQ_callV1 (cap := []) (vs := [_, _]) rfl rfl fun_171 (fun hg => w_divI I n d (by simp [conj] at hg; omega) (by simp [conj] at hg; omega)) (.some rfl rfl rfl rfl gbf) rfl rfl ?_
 refine XQ_v1 (ev_cmp rfl rfl rfl) (.some rfl rfl rfl rfl gbf) rfl rfl rfl ?_
 refine XQ_or0 rfl rfl rfl rfl rfl ?_
 refine XQ_nil ?_
 refine at_then ?_
 refine X_cond rfl (fun hc30 => ?_) (fun hc30 => ?_)
 ·
  refine zR ?_
  refine zA ?_
  refine zN ?_
  refine X_ret ?_
  refine at_then_r ?_
  first
  | exact at_ret1 rfl rfl (fun w hw => ⟨by unfold ratE; rw [rat_bad hc30]; rfl, hw.drop⟩)
 refine X_skip ?_
 refine at_then ?_
 refine zR ?_
 refine zA ?_
 refine zN ?_
 refine X_ret ?_
 first
 | exact at_ret1 rfl rfl (fun w hw => ⟨by unfold ratE; rw [rat_good hc30]; rfl, hw.drop⟩)
end Go.Proofs.YtehkiccapbkhnaaGreat
end
section
namespace Go.Proofs.YtehkiccapbkhnaaGreat
open Go Go.Kn Go.Proofs
theorem w_rcmp (I : HMap) (an ad bn bd : Int) : RetV Tryz.prog 165 [encRA (an) (ad), encRA (bn) (bd)] I (.tuple #[.int .i64 (cmpV an ad bn bd), .int .i64 (cmpE an ad bn bd)]) := by
 intro g H w hw
 refine enter Tryz.func165 rfl Tryz.ntmps165 rfl hw ?_
 refine zR ?_
 refine XO_box rfl rfl rfl (fun b_2 => ?_)
 refine XO_box rfl rfl rfl (fun b_3 => ?_)
 refine zA ?_
 refine zA ?_
 refine zN ?_
 refine X_seq ?_
 refine zR ?_
 refine XO_v0 (ev_loadA rfl agt_61 (fun hg => by first | (repeat (first | exact Cells.here | exact Cells.s0 (vs := [_, _]) rfl | apply Cells.there | apply Cells.app))) rfl) rfl rfl rfl ?_
 refine XO_callV0 (cap := []) (vs := [_]) rfl rfl fun_168 (w_ratchk I _ _) rfl rfl ?_
 refine zC ?_
 refine zM ?_
 refine XO_pushF 3 rfl rfl rfl ?_
 refine XO_v1 (ev_loadA rfl agt_61 (fun hg => by first | (repeat (first | exact Cells.here | exact Cells.s0 (vs := [_, _]) rfl | apply Cells.there | apply Cells.app))) rfl) (.some rfl rfl rfl rfl gbf) rfl rfl rfl ?_
 refine XO_callV1 (cap := []) (vs := [_]) rfl rfl fun_168 (fun hg => w_ratchk I _ _) (.some rfl rfl rfl rfl gbf) rfl rfl ?_
 refine XO_v1 (ev_cmp rfl rfl rfl) (.some rfl rfl rfl rfl gbf) rfl rfl rfl ?_
 refine XO_or0 rfl rfl rfl rfl rfl ?_
 refine zN ?_
 refine X_cond rfl (fun hc13 => ?_) (fun hc13 => ?_)
 ·
  have hb : (ratF an ad && ratF bn bd) = false := by have h := hc13; rw [span_eq, Bool.not_eq_true'] at h; exact h
  refine zR ?_
  refine zA ?_
  refine zA ?_
  refine zN ?_
  refine X_ret ?_
  refine at_then_r ?_
  exact at_ret2 rfl rfl rfl (fun w hw => ⟨by unfold cmpV cmpE; rw [hb]; rfl, hw.drop⟩)
 have hb : (ratF an ad && ratF bn bd) = true := by have h := hc13; rw [span_eq, Bool.not_eq_false'] at h; exact h
 have ⟨ha1, ha2⟩ := ratF_in (Bool.and_eq_true .. ▸ hb).1
 have ⟨hb1, hb2⟩ := ratF_in (Bool.and_eq_true .. ▸ hb).2
 refine X_skip ?_
 refine at_then ?_
 refine zR ?_
 refine XO_v0 (ev_fieldAddr rfl fld_61_0) rfl rfl rfl ?_
 refine zL sct_3 ?_
 refine XO_v0 (ev_fieldAddr rfl fld_61_1) rfl rfl rfl ?_
 refine zL sct_3 ?_
 refine XO_v0 (ev_arB rfl rfl rfl (fun _ => by exact mul_b (by omega) (by omega))) rfl rfl rfl ?_
 refine XO_v0 (ev_fieldAddr rfl fld_61_0) rfl rfl rfl ?_
 refine zL sct_3 ?_
 refine XO_v0 (ev_fieldAddr rfl fld_61_1) rfl rfl rfl ?_
 refine zL sct_3 ?_
 refine XO_v0 (ev_arB rfl rfl rfl (fun _ => by exact mul_b (by omega) (by omega))) rfl rfl rfl ?_
 refine XO_callV0 (cap := []) (vs := [_, _]) rfl rfl fun_130 (w_cmp I _ _) rfl rfl ?_
 refine zA ?_
 refine zA ?_
 refine zN ?_
 refine X_ret ?_
 exact at_ret2 rfl rfl rfl (fun w hw => ⟨by unfold cmpV cmpE; rw [hb]; rfl, hw.drop⟩)
theorem w_fine (I : HMap) (an ad bn bd : Int) : RetV Tryz.prog 160 [encRA (an) (ad), encRA (bn) (bd)] I (.bool (spanF an ad bn bd)) := by
 intro g H w hw
 refine enter Tryz.func160 rfl Tryz.ntmps160 rfl hw ?_
 refine zR ?_
 refine XO_box rfl rfl rfl (fun b_2 => ?_)
 refine XO_box rfl rfl rfl (fun b_3 => ?_)
 refine zA ?_
 refine zN (zR ?_)
 refine XO_v0 (ev_loadA rfl agt_61 (fun hg => by first | (repeat (first | exact Cells.here | exact Cells.s0 (vs := [_, _]) rfl | apply Cells.there | apply Cells.app))) rfl) rfl rfl rfl ?_
 refine XO_v0 (ev_loadA rfl agt_61 (fun hg => by first | (repeat (first | exact Cells.here | exact Cells.s0 (vs := [_, _]) rfl | apply Cells.there | apply Cells.app))) rfl) rfl rfl rfl ?_
 refine XO_callV0 (cap := []) (vs := [_, _]) rfl rfl fun_165 (w_rcmp I _ _ _ _) rfl rfl ?_
 refine zM ?_
 refine XO_v0 (ev_extract rfl rfl) rfl rfl rfl ?_
 refine XO_v0 (ev_extract rfl rfl) rfl rfl rfl ?_
 refine zA ?_
 refine zA ?_
 refine zN (zR ?_)
 refine zM ?_
 refine zC ?_
 refine zM ?_
 refine XO_pushT 2 rfl rfl rfl ?_
 refine XO_v1 (ev_move rfl) (.some rfl rfl rfl rfl gbt) rfl rfl rfl ?_
 refine XO_v1 (ev_cmp rfl rfl rfl) (.some rfl rfl rfl rfl gbt) rfl rfl rfl ?_
 refine XO_and0 rfl rfl rfl rfl rfl ?_
 refine zM ?_
 refine XO_pushT 6 rfl rfl rfl ?_
 refine XO_v1 (ev_fieldAddr rfl fld_61_0) (.some rfl rfl rfl rfl gbt) rfl rfl rfl ?_
 refine XO_v1 (ev_load rfl sct_3 (fun hg => by repeat (first | exact Cell.here rfl | apply Cell.there | apply Cell.app))) (.some rfl rfl rfl rfl gbt) rfl rfl rfl ?_
 refine XO_v1 (ev_cmp rfl rfl rfl) (.some rfl rfl rfl rfl gbt) rfl rfl rfl ?_
 refine XO_and0 rfl rfl rfl rfl rfl ?_
 refine zM ?_
 refine XO_pushT 11 rfl rfl rfl ?_
 refine XO_v1 (ev_fieldAddr rfl fld_61_0) (.some rfl rfl rfl rfl gbt) rfl rfl rfl ?_
 refine XO_v1 (ev_load rfl sct_3 (fun hg => by repeat (first | exact Cell.here rfl | apply Cell.there | apply Cell.app))) (.some rfl rfl rfl rfl gbt) rfl rfl rfl ?_
 refine XO_v1 (ev_fieldAddr rfl fld_61_1) (.some rfl rfl rfl rfl gbt) rfl rfl rfl ?_
 refine XO_v1 (ev_load rfl sct_3 (fun hg => by repeat (first | exact Cell.here rfl | apply Cell.there | apply Cell.app))) (.some rfl rfl rfl rfl gbt) rfl rfl rfl ?_
 refine XO_v1 (ev_cmp rfl rfl rfl) (.some rfl rfl rfl rfl gbt) rfl rfl rfl ?_
 refine XO_and0 rfl rfl rfl rfl rfl ?_
 refine zA ?_
 refine zN ?_
 refine X_ret ?_
 exact at_ret1 rfl rfl (fun w hw => ⟨by rw [← fine_eq], hw.drop⟩)
theorem w_within (I : HMap) (n lo hi : Int) : RetV Tryz.prog 159 [.int .i64 n, .int .i64 lo, .int .i64 hi] I (.bool (within n lo hi)) := by
 intro g H w hw
 refine enter Tryz.func159 rfl Tryz.ntmps159 rfl hw ?_
 refine zR ?_
 refine zA ?_
 refine zN (zR ?_)
 refine zM ?_
 refine zM ?_
 refine zC ?_
 refine zM ?_
 refine XO_pushT 3 rfl rfl rfl ?_
 refine XO_v1 (ev_move rfl) (.some rfl rfl rfl rfl gbt) rfl rfl rfl ?_
 refine XO_v1 (ev_move rfl) (.some rfl rfl rfl rfl gbt) rfl rfl rfl ?_
 refine XO_v1 (ev_cmp rfl rfl rfl) (.some rfl rfl rfl rfl gbt) rfl rfl rfl ?_
 refine XO_and0 rfl rfl rfl rfl rfl ?_
 refine zA ?_
 refine zN ?_
 refine X_ret ?_
 exact at_ret1 rfl rfl (fun w hw => ⟨by first | rfl | simp_all, hw.drop⟩)
theorem w_frm (I : HMap) (x : Sg) : RetV Tryz.prog 148 [encGA x] I (.bool (frm x)) := by
 intro g H w hw
 refine enter Tryz.func148 rfl Tryz.ntmps148 rfl hw ?_
 refine zR ?_
 refine XO_box rfl rfl rfl (fun b_1 => ?_)
 refine zA ?_
 refine zN (zR ?_)
 refine XO_v0 (ev_fieldAddr rfl fld_63_0) rfl rfl rfl ?_
 refine zL sct_3 ?_
 refine XO_callV0 (cap := []) (vs := [_, _, _]) rfl rfl fun_159 (w_within I _ _ _) rfl rfl ?_
 refine zM ?_
 refine XO_pushT 3 rfl rfl rfl ?_
 refine XO_v1 (ev_fieldAddr rfl fld_63_1) (.some rfl rfl rfl rfl gbt) rfl rfl rfl ?_
 refine XO_v1 (ev_load rfl sct_3 (fun hg => by repeat (first | exact Cell.here rfl | apply Cell.there | apply Cell.app))) (.some rfl rfl rfl rfl gbt) rfl rfl rfl ?_
 refine XO_callV1 (cap := []) (vs := [_, _, _]) rfl rfl fun_159 (fun hg => w_within I _ _ _) (.some rfl rfl rfl rfl gbt) rfl rfl ?_
 refine XO_and0 rfl rfl rfl rfl rfl ?_
 refine zM ?_
 refine XO_pushT 8 rfl rfl rfl ?_
 refine XO_v1 (ev_fieldAddr rfl fld_63_2) (.some rfl rfl rfl rfl gbt) rfl rfl rfl ?_
 refine XO_v1 (ev_load rfl sct_3 (fun hg => by repeat (first | exact Cell.here rfl | apply Cell.there | apply Cell.app))) (.some rfl rfl rfl rfl gbt) rfl rfl rfl ?_
 refine XO_callV1 (cap := []) (vs := [_, _, _]) rfl rfl fun_159 (fun hg => w_within I _ _ _) (.some rfl rfl rfl rfl gbt) rfl rfl ?_
 refine XO_and0 rfl rfl rfl rfl rfl ?_
 refine zM ?_
 refine XO_pushT 13 rfl rfl rfl ?_
 refine XO_v1 (ev_fieldAddr rfl fld_63_4) (.some rfl rfl rfl rfl gbt) rfl rfl rfl ?_
 refine XO_v1 (ev_load rfl sct_3 (fun hg => by repeat (first | exact Cell.here rfl | apply Cell.there | apply Cell.app))) (.some rfl rfl rfl rfl gbt) rfl rfl rfl ?_
 refine XO_callV1 (cap := []) (vs := [_, _, _]) rfl rfl fun_159 (fun hg => w_within I _ _ _) (.some rfl rfl rfl rfl gbt) rfl rfl ?_
 refine XO_and0 rfl rfl rfl rfl rfl ?_
 refine zM ?_
 refine XO_pushT 18 rfl rfl rfl ?_
 refine XO_v1 (ev_fieldAddr rfl fld_63_3) (.some rfl rfl rfl rfl gbt) rfl rfl rfl ?_
 refine XO_v1 (ev_load rfl sct_3 (fun hg => by repeat (first | exact Cell.here rfl | apply Cell.there | apply Cell.app))) (.some rfl rfl rfl rfl gbt) rfl rfl rfl ?_
 refine XO_callV1 (cap := []) (vs := [_, _, _]) rfl rfl fun_159 (fun hg => w_within I _ _ _) (.some rfl rfl rfl rfl gbt) rfl rfl ?_
 refine XO_and0 rfl rfl rfl rfl rfl ?_
 refine zM ?_
 refine XO_pushT 23 rfl rfl rfl ?_
 refine XO_v1 (ev_fieldAddr rfl fld_63_5) (.some rfl rfl rfl rfl gbt) rfl rfl rfl ?_
 refine XO_v1 (ev_load rfl sct_3 (fun hg => by repeat (first | exact Cell.here rfl | apply Cell.there | apply Cell.app))) (.some rfl rfl rfl rfl gbt) rfl rfl rfl ?_
 refine XO_callV1 (cap := []) (vs := [_, _, _]) rfl rfl fun_159 (fun hg => w_within I _ _ _) (.some rfl rfl rfl rfl gbt) rfl rfl ?_
 refine XO_and0 rfl rfl rfl rfl rfl ?_
 refine zM ?_
 refine XO_pushT 28 rfl rfl rfl ?_
 refine XO_v1 (ev_fieldAddr rfl fld_63_6) (.some rfl rfl rfl rfl gbt) rfl rfl rfl ?_
 refine XO_v1 (ev_load rfl sct_3 (fun hg => by repeat (first | exact Cell.here rfl | apply Cell.there | apply Cell.app))) (.some rfl rfl rfl rfl gbt) rfl rfl rfl ?_
 refine XO_callV1 (cap := []) (vs := [_, _, _]) rfl rfl fun_159 (fun hg => w_within I _ _ _) (.some rfl rfl rfl rfl gbt) rfl rfl ?_
 refine XO_and0 rfl rfl rfl rfl rfl ?_
 refine zM ?_
 refine XO_pushT 33 rfl rfl rfl ?_
 refine XO_v1 (ev_fieldAddr rfl fld_63_7) (.some rfl rfl rfl rfl gbt) rfl rfl rfl ?_
 refine XO_v1 (ev_load rfl sct_3 (fun hg => by repeat (first | exact Cell.here rfl | apply Cell.there | apply Cell.app))) (.some rfl rfl rfl rfl gbt) rfl rfl rfl ?_
 refine XO_callV1 (cap := []) (vs := [_, _, _]) rfl rfl fun_159 (fun hg => w_within I _ _ _) (.some rfl rfl rfl rfl gbt) rfl rfl ?_
 refine XO_and0 rfl rfl rfl rfl rfl ?_
 refine zM ?_
 refine XO_pushT 38 rfl rfl rfl ?_
 refine XO_v1 (ev_fieldAddr rfl fld_63_8) (.some rfl rfl rfl rfl gbt) rfl rfl rfl ?_
 refine XO_v1 (ev_load rfl sct_3 (fun hg => by repeat (first | exact Cell.here rfl | apply Cell.there | apply Cell.app))) (.some rfl rfl rfl rfl gbt) rfl rfl rfl ?_
 refine XO_callV1 (cap := []) (vs := [_, _, _]) rfl rfl fun_159 (fun hg => w_within I _ _ _) (.some rfl rfl rfl rfl gbt) rfl rfl ?_
 refine XO_and0 rfl rfl rfl rfl rfl ?_
 refine zM ?_
 refine XO_pushT 43 rfl rfl rfl ?_
 refine XO_v1 (ev_fieldAddr rfl fld_63_9) (.some rfl rfl rfl rfl gbt) rfl rfl rfl ?_
 refine XO_v1 (ev_load rfl sct_3 (fun hg => by repeat (first | exact Cell.here rfl | apply Cell.there | apply Cell.app))) (.some rfl rfl rfl rfl gbt) rfl rfl rfl ?_
 refine XO_callV1 (cap := []) (vs := [_, _, _]) rfl rfl fun_159 (fun hg => w_within I _ _ _) (.some rfl rfl rfl rfl gbt) rfl rfl ?_
 refine XO_and0 rfl rfl rfl rfl rfl ?_
 refine zM ?_
 refine XO_pushT 48 rfl rfl rfl ?_
 refine XO_v1 (ev_fieldAddr rfl fld_63_10) (.some rfl rfl rfl rfl gbt) rfl rfl rfl ?_
 refine XO_v1 (ev_loadA rfl agt_61 (fun hg => by first | (repeat (first | exact Cells.here | exact Cells.s0 (vs := [_, _]) rfl | apply Cells.there | apply Cells.app))) rfl) (.some rfl rfl rfl rfl gbt) rfl rfl rfl ?_
 refine XO_v1 (ev_fieldAddr rfl fld_63_11) (.some rfl rfl rfl rfl gbt) rfl rfl rfl ?_
 refine XO_v1 (ev_loadA rfl agt_61 (fun hg => by first | (repeat (first | exact Cells.here | exact Cells.s0 (vs := [_, _]) rfl | apply Cells.there | apply Cells.app))) rfl) (.some rfl rfl rfl rfl gbt) rfl rfl rfl ?_
 refine XO_callV1 (cap := []) (vs := [_, _]) rfl rfl fun_160 (fun hg => w_fine I _ _ _ _) (.some rfl rfl rfl rfl gbt) rfl rfl ?_
 refine XO_and0 rfl rfl rfl rfl rfl ?_
 refine zA ?_
 refine zN ?_
 refine X_ret ?_
 exact at_ret1 rfl rfl (fun w hw => ⟨by rfl, hw.drop⟩)
theorem w_chkG {I : HMap} {av : Option Addr} {n c : Nat} {xs : List Sg} (hS : Sl I 14 encG av n c xs) (hn : n ≤ 100000) : RetV Tryz.prog 136 [.slice av n c] I (.int .i64 (chkG xs)) := by
 intro g H w hw
 refine enter Tryz.func136 rfl Tryz.ntmps136 rfl hw ?_
 refine zR ?_
 refine zA ?_
 refine zN ?_
 refine X_seq ?_
 refine zR ?_
 refine zM ?_
 refine XO_v0 (ev_lenS rfl slt_183) rfl rfl rfl ?_
 refine zC ?_
 refine zN ?_
 refine X_cond rfl (fun hc7 => ?_) (fun hc7 => ?_)
 ·
  have h6 : xs.length > 4096 := by rw [hS.len]; simp at hc7; omega
  refine zR ?_
  refine zA ?_
  refine zN ?_
  refine X_ret ?_
  refine at_then_r ?_
  first
  | exact at_ret1 rfl rfl (fun w hw => ⟨by unfold chkG; rw [if_pos h6], hw.drop⟩)
 have h6 : ¬ xs.length > 4096 := by rw [hS.len]; simp at hc7; omega
 refine X_skip ?_
 refine at_then ?_
 refine X_seq ?_
 refine zR ?_
 refine zM ?_
 refine XO_v0 (ev_lenS rfl slt_183) rfl rfl rfl ?_
 refine zM ?_
 refine zN ?_
 refine X_block ?_
 refine X_loopT [(0, _), (8, _), (9, _)] (.cons rfl (.cons rfl (.cons rfl .nil))) (fun T L0 mz E I' loc' => ∃ (k : Nat), mz = n - k ∧ E = (10, .int .i64 k) :: T ∧ I = I' ∧ L0 = loc' ∧ k ≤ n ∧ (List.range k).all (skP xs) = true) _ _ _ _ ⟨0, rfl, rfl, rfl, rfl, Nat.zero_le _, rfl⟩ (.cons rfl (.cons rfl (.cons rfl (.cons rfl .nil)))) (HLe.refl _) rfl ?_
 rintro mz E I' loc' ⟨k, rfl, rfl, rfl, rfl, hk, hall⟩
 refine zR ?_
 refine zC ?_
 refine zN ?_
 refine X_seq ?_
 refine X_cond rfl (fun hc11 => ?_) (fun hc11 => ?_)
 ·
  have hlt_k : k < n := by have h := hc11; simp at h; omega
  obtain ⟨x, hx⟩ := hS.at hlt_k
  refine X_skip ?_
  refine at_then ?_
  refine X_seq ?_
  refine X_block ?_
  refine zR ?_
  refine zM ?_
  refine XO_v0 (ev_indexSl rfl rfl slt_183 (by assumption) (fun hg => by first | omega | (simp [conj] at hg; omega))) rfl rfl rfl ?_
  refine XO_v0 (ev_loadA rfl agt_63 (fun hg => by first | exact Sl.getA hS hx | (repeat (first | exact Cells.here | exact Cells.s0 (vs := [_, _, _, _, _, _, _, _, _, _, _, _, _, _]) rfl | apply Cells.there | apply Cells.app))) rfl) rfl rfl rfl ?_
  refine XO_alloc zt_63 rfl rfl (fun b_4 => ?_)
  refine zA ?_
  refine XO_storeA rfl rfl szt_63 rfl rfl rfl rfl (by repeat (first | exact Upd.here | apply Upd.there | apply upd_app)) ?_
  refine zN ?_
  refine X_seq ?_
  refine X_draw mixed (by kernel_rfl) ?_
  refine XQ_v0 (ev_loadA rfl agt_63 (fun hg => by first | exact Sl.getA hS hx | (repeat (first | exact Cells.here | exact Cells.s0 (vs := [_, _, _, _, _, _, _, _, _, _, _, _, _, _]) rfl | apply Cells.there | apply Cells.app))) rfl) rfl rfl rfl ?_
  refine XQ_callV0 (cap := []) (vs := [_]) rfl rfl fun_148 (w_frm I _) rfl rfl ?_
  refine XQ_v0 (ev_not rfl) rfl rfl rfl ?_
  refine XQ_v0 (ev_move rfl) rfl rfl rfl ?_
  refine XQ_pushF 3 rfl rfl rfl ?_
  refine XQ_v1 (ev_move rfl) (.some rfl rfl rfl rfl gbf) rfl rfl rfl ?_
  refine XQ_v1 (ev_cmp rfl rfl rfl) (.some rfl rfl rfl rfl gbf) rfl rfl rfl ?_
  refine XQ_v1 (ev_move rfl) (.some rfl rfl rfl rfl gbf) rfl rfl rfl ?_
  refine XQ_pushT 6 rfl rfl rfl ?_
  refine XQ_v1 (ev_move rfl) (.some rfl rfl rfl rfl gbt) rfl rfl rfl ?_
  refine XQ_v1 (ev_move rfl) (.some rfl rfl rfl rfl gbt) rfl rfl rfl ?_
  refine XQ_v1 (ev_arB rfl rfl rfl (fun hg => by first | omega | (simp [conj] at hg; omega))) (.some rfl rfl rfl rfl gbt) rfl rfl rfl ?_
  refine XQ_v1 (ev_indexSl rfl rfl slt_183 (by assumption) (fun hg => by first | omega | (simp [conj] at hg; omega))) (.some rfl rfl rfl rfl gbt) rfl rfl rfl ?_
  refine XQ_v1 (ev_fieldAddr rfl fld_63_0) (.some rfl rfl rfl rfl gbt) rfl rfl rfl ?_
  refine XQ_v1 (ev_load rfl sct_3 (fun hg => by first | exact Sl.get0 (k := ((k : Int) - 1).toNat) hS (some_getD (d := zeroG) hS.len (by simp [conj] at hg; omega)) rfl | (repeat (first | exact Cell.here rfl | apply Cell.there | apply Cell.app)))) (.some rfl rfl rfl rfl gbt) rfl rfl rfl ?_
  refine XQ_v1 (ev_fieldAddr rfl fld_63_0) (.some rfl rfl rfl rfl gbt) rfl rfl rfl ?_
  refine XQ_v1 (ev_load rfl sct_3 (fun hg => by first | exact Sl.get0 (k := ((k : Int) - 1).toNat) hS (some_getD (d := zeroG) hS.len (by simp [conj] at hg; omega)) rfl | (repeat (first | exact Cell.here rfl | apply Cell.there | apply Cell.app)))) (.some rfl rfl rfl rfl gbt) rfl rfl rfl ?_
  refine XQ_v1 (ev_cmp rfl rfl rfl) (.some rfl rfl rfl rfl gbt) rfl rfl rfl ?_
  refine XQ_and1 rfl rfl rfl (.some rfl rfl rfl rfl gbf) rfl rfl ?_
  refine XQ_or0 rfl rfl rfl rfl rfl ?_
  refine XQ_nil ?_
  refine at_then ?_
  refine X_cond rfl (fun hc32 => ?_) (fun hc32 => ?_)
  ·
   refine zR ?_
   refine zA ?_
   refine zN ?_
   refine X_ret ?_
   refine at_block_r ?_
   refine at_then_r ?_
   refine at_then_r ?_
   refine at_block_r ?_
   refine at_then_r ?_
   first
   | exact at_ret1 rfl rfl (fun w hw => ⟨by unfold chkG skB; rw [if_neg h6, range_bad (k := k) (by rw [hS.len]; exact hlt_k) (by rw [skP_at hx, hc32]; rfl)]; rfl, hw.drop⟩)
  refine X_skip ?_
  refine at_block_n ?_
  refine at_then ?_
  refine X_region ?_
  refine zB ?_
  refine zM ?_
  refine XO_nil ?_
  exact at_met2 _ _ ⟨n - (k + 1), by omega, k + 1, rfl, rfl, rfl, rfl, by omega, range_step hall (by rw [skP_at hx, hc32]; rfl)⟩ (.cons rfl (.cons rfl (.cons rfl (.cons rfl .nil)))) (by repeat (first | exact .refl | exact subL_left | refine subL_app ?_ | refine .drop ?_ | refine subL_add ?_))
 have hge_k : n ≤ k := by have h := hc11; simp at h; omega
 refine X_exit ?_
 refine at_then_e ?_
 refine at_then_e ?_
 refine at_block_hit ?_
 refine at_then ?_
 refine zR ?_
 refine zA ?_
 refine zN ?_
 refine X_ret ?_
 first
 | exact at_ret1 rfl rfl (fun w hw => ⟨by unfold chkG skB; rw [if_neg h6, hS.len, show n = k by omega, hall]; rfl, hw.drop⟩)
theorem w_numbers (I : HMap) (b : Nat) : RetV Tryz.prog 135 [capP b] I (.agg (numL b).toArray) := by
 intro g H w hw
 refine enter Tryz.func135 rfl Tryz.ntmps135 rfl hw ?_
 refine zR ?_
 refine XO_alloc zt_179 rfl rfl (fun b_2 => ?_)
 refine zN ?_
 refine X_seq ?_
 have hD := HLe.refl I
 refine X_noP ?_
 refine X_drawS I [] mixed ?_
 refine zT 0 rfl (ev_move rfl) hD ?_
 refine zT 1 rfl (ev_nilCheck rfl) hD ?_
 refine zT 2 rfl (ev_fieldAddr rfl fld_63_1) hD ?_
 refine zT 3 rfl (ev_move rfl) hD ?_
 refine zT 4 rfl (ev_nilCheck rfl) hD ?_
 refine zT 5 rfl (ev_fieldAddr rfl fld_63_2) hD ?_
 refine zT 6 rfl (ev_move rfl) hD ?_
 refine zT 7 rfl (ev_nilCheck rfl) hD ?_
 refine zT 8 rfl (ev_fieldAddr rfl fld_63_3) hD ?_
 refine zT 9 rfl (ev_move rfl) hD ?_
 refine zT 10 rfl (ev_nilCheck rfl) hD ?_
 refine zT 11 rfl (ev_fieldAddr rfl fld_63_5) hD ?_
 refine zT 12 rfl (ev_move rfl) hD ?_
 refine zT 13 rfl (ev_nilCheck rfl) hD ?_
 refine zT 14 rfl (ev_fieldAddr rfl fld_63_6) hD ?_
 refine zT 15 rfl (ev_move rfl) hD ?_
 refine zT 16 rfl (ev_nilCheck rfl) hD ?_
 refine zT 17 rfl (ev_fieldAddr rfl fld_63_7) hD ?_
 refine zT 18 rfl (ev_move rfl) hD ?_
 refine zT 19 rfl (ev_nilCheck rfl) hD ?_
 refine zT 20 rfl (ev_fieldAddr rfl fld_63_8) hD ?_
 refine zT 21 rfl (ev_move rfl) hD ?_
 refine zT 22 rfl (ev_nilCheck rfl) hD ?_
 refine zT 23 rfl (ev_fieldAddr rfl fld_63_9) hD ?_
 refine zT 24 rfl (ev_buildArr (ps := [(1, _), (2, _), (3, _), (4, _), (5, _), (6, _), (7, _), (8, _)]) [_, _, _, _, _, _, _, _, _] art_179 zt_179 rfl rfl) hD ?_
 refine XD_one 25 rfl (by kernel_rfl) ?_
 refine XO_storeA rfl rfl szt_179 rfl rfl rfl rfl (by repeat (first | exact Upd.here | apply Upd.there | apply upd_app)) ?_
 refine XO_nil ?_
 refine zD hD ?_
 refine XD_done (by kernel_rfl) ?_
 refine at_noP ?_
 refine at_then ?_
 refine X_ret ?_
 exact at_retA rfl rfl agt_179 Cells.g0 rfl (fun w hw => ⟨rfl, hw.drop⟩)
theorem w_set (I : HMap) (x : Sg) (f : Int) (y : Sg) (hf : isF f) : RetV Tryz.prog 107 [encGA x, .int .i64 f, encGA y] I (encGA (setG x f y)) := by
 intro g H w hw
 refine enter Tryz.func107 rfl Tryz.ntmps107 rfl hw ?_
 refine zR ?_
 refine XO_box rfl rfl rfl (fun b_3 => ?_)
 refine XO_box rfl rfl rfl (fun b_5 => ?_)
 refine XO_alloc zt_63 rfl rfl (fun b_6 => ?_)
 refine zN ?_
 refine X_seq ?_
 refine zR ?_
 refine zM ?_
 refine zC ?_
 refine zN ?_
 refine X_cond rfl (fun hc8 => ?_) (fun hc8 => ?_)
 ·
  have hf9 : f = 9 := by simpa using hc8
  refine zR ?_
  refine XO_v0 (ev_fieldAddr rfl fld_63_10) rfl rfl rfl ?_
  refine XO_v0 (ev_loadA rfl agt_61 (fun hg => by first | (repeat (first | exact Cells.here | exact Cells.s0 (vs := [_, _]) rfl | apply Cells.there | apply Cells.app))) rfl) rfl rfl rfl ?_
  refine XO_v0 (ev_fieldAddr rfl fld_63_11) rfl rfl rfl ?_
  refine XO_v0 (ev_loadA rfl agt_61 (fun hg => by first | (repeat (first | exact Cells.here | exact Cells.s0 (vs := [_, _]) rfl | apply Cells.there | apply Cells.app))) rfl) rfl rfl rfl ?_
  refine XO_v0 (ev_fieldAddr rfl fld_63_10) rfl rfl rfl ?_
  refine XO_storeP rfl rfl szt_61 rfl rfl rfl rfl (by repeat (first | exact Upd.here | apply Upd.there | apply upd_app)) ?_
  refine XO_v0 (ev_fieldAddr rfl fld_63_11) rfl rfl rfl ?_
  refine XO_storeP rfl rfl szt_61 rfl rfl rfl rfl (by repeat (first | exact Upd.here | apply Upd.there | apply upd_app)) ?_
  refine zN (zR ?_)
  refine XO_v0 (ev_loadA rfl agt_63 (fun hg => by first | (repeat (first | exact Cells.here | exact Cells.s0 (vs := [_, _, _, _, _, _, _, _, _, _, _, _, _, _]) rfl | apply Cells.there | apply Cells.app))) rfl) rfl rfl rfl ?_
  refine XO_storeA rfl rfl szt_63 rfl rfl rfl rfl (by repeat (first | exact Upd.here | apply Upd.there | apply upd_app)) ?_
  refine zN ?_
  refine X_ret ?_
  refine at_then_r ?_
  first
  | exact at_retA rfl rfl agt_63 Cells.g0 rfl (fun w hw => ⟨by rw [hf9]; rfl, hw.drop⟩)
 have hf8 : 1 ≤ f ∧ f ≤ 8 := by have h := hc8; unfold isF at hf; simp at h; omega
 refine X_skip ?_
 refine at_then ?_
 refine X_seq ?_
 have hD := HLe.refl I
 refine X_noP ?_
 refine X_drawS I [(b_5, .cells (encGA y).cells 63 (0, 0))] mixed ?_
 refine zT 1 rfl (ev_move rfl) hD ?_
 refine zT 4 rfl (ev_move rfl) hD ?_
 refine XD_one 0 rfl (by kernel_rfl) ?_
 refine XO_callV0 (cap := []) (vs := [_]) rfl rfl fun_135 (w_numbers I _) rfl rfl ?_
 refine XO_nil ?_
 refine zD hD ?_
 refine XD_two 2 3 rfl rfl (by kernel_rfl) ?_ ?_
 ·
  refine XO_v0 (ev_index rfl rfl art_179 sct_178 (fun hg => by omega) (fun hg => num_at hf8 b_3)) rfl rfl rfl ?_
  refine XO_nil ?_
  refine zD hD ?_
  refine XD_one 3 rfl (by kernel_rfl) ?_
  refine XO_callV0 (cap := []) (vs := [_]) rfl rfl fun_135 (w_numbers I _) rfl rfl ?_
  refine XO_nil ?_
  refine zD hD ?_
  refine XD_one 5 rfl (by kernel_rfl) ?_
  refine XO_v0 (ev_index rfl rfl art_179 sct_178 (fun hg => by omega) (fun hg => num_at hf8 b_5)) rfl rfl rfl ?_
  refine XO_nil ?_
  refine zD hD ?_
  refine zT 6 rfl (ev_nilCheck rfl) hD ?_
  refine zT 7 rfl (ev_load rfl sct_3 (fun hg => by first | exact Cell.h0 (cell_fo hf8 y) | (repeat (first | exact Cell.here rfl | apply Cell.there | apply Cell.app)))) hD ?_
  refine zT 8 rfl (ev_nilCheck rfl) hD ?_
  refine XD_one 9 rfl (by kernel_rfl) ?_
  refine XO_store rfl rfl szt_3 rfl rfl Upd.u2 (by exact fo_lt) ?_
  rw [show (encGA x).cells.setIfInBounds (foF f) (.int .i64 (getF y f)) = (encG (setG x f y)).toArray from set_fo hf8 x y]
  refine XO_nil ?_
  refine zD hD ?_
  refine XD_done (by kernel_rfl) ?_
  refine at_noP ?_
  refine at_then ?_
  refine zR ?_
  refine XO_v0 (ev_loadA rfl agt_63 (fun hg => by first | (repeat (first | exact Cells.here | exact Cells.s0 (vs := [_, _, _, _, _, _, _, _, _, _, _, _, _, _]) rfl | apply Cells.there | apply Cells.app))) rfl) rfl rfl rfl ?_
  refine XO_storeA rfl rfl szt_63 rfl rfl rfl rfl (by repeat (first | exact Upd.here | apply Upd.there | apply upd_app)) ?_
  refine zN ?_
  refine X_ret ?_
  exact at_retA rfl rfl agt_63 Cells.g0 rfl (fun w hw => ⟨rfl, hw.drop⟩)
 refine XO_callV0 (cap := []) (vs := [_]) rfl rfl fun_135 (w_numbers I _) rfl rfl ?_
 refine XO_nil ?_
 refine zD hD ?_
 refine XD_two 2 5 rfl rfl (by kernel_rfl) ?_ ?_
 ·
  refine XO_v0 (ev_index rfl rfl art_179 sct_178 (fun hg => by omega) (fun hg => num_at hf8 b_3)) rfl rfl rfl ?_
  refine XO_nil ?_
  refine zD hD ?_
  refine XD_one 5 rfl (by kernel_rfl) ?_
  refine XO_v0 (ev_index rfl rfl art_179 sct_178 (fun hg => by omega) (fun hg => num_at hf8 b_5)) rfl rfl rfl ?_
  refine XO_nil ?_
  refine zD hD ?_
  refine zT 6 rfl (ev_nilCheck rfl) hD ?_
  refine zT 7 rfl (ev_load rfl sct_3 (fun hg => by first | exact Cell.h0 (cell_fo hf8 y) | (repeat (first | exact Cell.here rfl | apply Cell.there | apply Cell.app)))) hD ?_
  refine zT 8 rfl (ev_nilCheck rfl) hD ?_
  refine XD_one 9 rfl (by kernel_rfl) ?_
  refine XO_store rfl rfl szt_3 rfl rfl Upd.u2 (by exact fo_lt) ?_
  rw [show (encGA x).cells.setIfInBounds (foF f) (.int .i64 (getF y f)) = (encG (setG x f y)).toArray from set_fo hf8 x y]
  refine XO_nil ?_
  refine zD hD ?_
  refine XD_done (by kernel_rfl) ?_
  refine at_noP ?_
  refine at_then ?_
  refine zR ?_
  refine XO_v0 (ev_loadA rfl agt_63 (fun hg => by first | (repeat (first | exact Cells.here | exact Cells.s0 (vs := [_, _, _, _, _, _, _, _, _, _, _, _, _, _]) rfl | apply Cells.there | apply Cells.app))) rfl) rfl rfl rfl ?_
  refine XO_storeA rfl rfl szt_63 rfl rfl rfl rfl (by repeat (first | exact Upd.here | apply Upd.there | apply upd_app)) ?_
  refine zN ?_
  refine X_ret ?_
  exact at_retA rfl rfl agt_63 Cells.g0 rfl (fun w hw => ⟨rfl, hw.drop⟩)
 refine XO_v0 (ev_index rfl rfl art_179 sct_178 (fun hg => by omega) (fun hg => num_at hf8 b_5)) rfl rfl rfl ?_
 refine XO_nil ?_
 refine zD hD ?_
 refine zT 6 rfl (ev_nilCheck rfl) hD ?_
 refine zT 7 rfl (ev_load rfl sct_3 (fun hg => by first | exact Cell.h0 (cell_fo hf8 y) | (repeat (first | exact Cell.here rfl | apply Cell.there | apply Cell.app)))) hD ?_
 refine XD_one 2 rfl (by kernel_rfl) ?_
 refine XO_v0 (ev_index rfl rfl art_179 sct_178 (fun hg => by omega) (fun hg => num_at hf8 b_3)) rfl rfl rfl ?_
 refine XO_nil ?_
 refine zD hD ?_
 refine zT 8 rfl (ev_nilCheck rfl) hD ?_
 refine XD_one 9 rfl (by kernel_rfl) ?_
 refine XO_store rfl rfl szt_3 rfl rfl Upd.u2 (by exact fo_lt) ?_
 rw [show (encGA x).cells.setIfInBounds (foF f) (.int .i64 (getF y f)) = (encG (setG x f y)).toArray from set_fo hf8 x y]
 refine XO_nil ?_
 refine zD hD ?_
 refine XD_done (by kernel_rfl) ?_
 refine at_noP ?_
 refine at_then ?_
 refine zR ?_
 refine XO_v0 (ev_loadA rfl agt_63 (fun hg => by first | (repeat (first | exact Cells.here | exact Cells.s0 (vs := [_, _, _, _, _, _, _, _, _, _, _, _, _, _]) rfl | apply Cells.there | apply Cells.app))) rfl) rfl rfl rfl ?_
 refine XO_storeA rfl rfl szt_63 rfl rfl rfl rfl (by repeat (first | exact Upd.here | apply Upd.there | apply upd_app)) ?_
 refine zN ?_
 refine X_ret ?_
 exact at_retA rfl rfl agt_63 Cells.g0 rfl (fun w hw => ⟨rfl, hw.drop⟩)
end Go.Proofs.YtehkiccapbkhnaaGreat
end
