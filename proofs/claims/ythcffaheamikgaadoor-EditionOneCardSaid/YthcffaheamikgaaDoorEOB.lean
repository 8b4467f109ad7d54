/- editionOne_holds, part B of the proof: what its theorems say holds without further conditions. -/
import Derived.Laws.MakeOwn
import Derived.Sort.Row
import Derived.Sort.Grow
import Derived.Test.YthcffaheamikgaaDoorProg
import Derived.KernelRfl
import Derived.Lib.Hide
import Derived.Test.YthcffaheamikgaaDoorEOA
section
namespace Go.Kn
open Go
/-- The marks that ranges over functions have left, the last one first; their blocks. -/
def mk (ms : List Nat) : List Deferred := ms.map fun b => { target := .collected b, args := #[] }
def MB : List Nat → Loc
  | [] => []
  | b :: ms => MB ms ++ [(b, .deferred (some []))]
/-- A state whose marks may be more. -/
def MetM (C : Cx) (M : List Nat → Env → HMap → Loc → Prop) : Act → World → Prop := fun a w => ∃ ms E I loc, M ms E I loc ∧ Fits C.N (mk ms) E a ∧ St C.g I C.H loc w
section
variable {P : Program} {r : Option Nat} {N : Nat} {g : World} {H : HMap} {Q : Exit → Act → World → Prop} {E E' : Env} {I I' : HMap} {loc loc' L R : Loc} {ms : List Nat}
theorem X_cutM {x y : Code} (T : Env) (_hT : Sub T E) (M : Env → Loc → List Nat → Env → HMap → Loc → Prop) (h1 : X ⟨P, r, N, mk ms, g, H⟩ (Exit.then (MetM ⟨P, r, N, [], g, H⟩ (M T loc)) Q) x E I loc)
    (h2 : ∀ ms E I loc', M T loc ms E I loc' → X ⟨P, r, N, mk ms, g, H⟩ Q y E I loc') : X ⟨P, r, N, mk ms, g, H⟩ Q (.seq x y) E I loc := fun a w ha hw =>
  wpIn_seq (wpIn_mono (h1 a w ha hw) fun e a' w' hq => by
    cases e with
    | normal => obtain ⟨ms', E', I', loc', hM, hf, hs⟩ := hq; exact h2 ms' E' I' loc' hM _ _ hf hs
    | _ => exact hq)
theorem at_metM {M : List Nat → Env → HMap → Loc → Prop} {C' : Cx} (hN : C'.N = N) (hg : C'.g = g) (hH : C'.H = H) (E' : Env) (loc' : Loc) (hM : M ms E' I loc') (hE : Sub E' E) (hs : SubL loc' loc) : At ⟨P, r, N, mk ms, g, H⟩ (Exit.then (MetM C' M) Q) .normal E I loc :=
  fun _ _ ha hw => ⟨ms, E', I, loc', hM, by rw [hN]; exact ha.sub hE, by rw [hg, hH]; exact hw.dropTo hs⟩
/-- A loop whose rounds may leave marks. -/
theorem X_loopM {c : Code} (T : Env) (_hT : Sub T E) (J : Env → Loc → Nat → List Nat → Env → HMap → Loc → Prop) (m0 : Nat) (E0 : Env) (I0 : HMap) (loc0 : Loc) (h0 : J T loc m0 ms E0 I0 loc0) (hE : Sub E0 E) (hI : HLe I0 I) (hl : loc0 = loc)
    (round : ∀ m ms E I loc', J T loc m ms E I loc' → X ⟨P, r, N, mk ms, g, H⟩ (Exit.then (MetM ⟨P, r, N, [], g, H⟩ fun ms E I loc' => ∃ m', m' < m ∧ J T loc m' ms E I loc') Q) c E I loc') : X ⟨P, r, N, mk ms, g, H⟩ Q (.loop c) E I loc := by
  classical
  intro a w ha hw
  let R : Nat → Act → World → Prop := fun m a w => ∃ ms E I loc', J T loc m ms E I loc' ∧ Fits N (mk ms) E a ∧ St g I H loc' w
  have least : ∀ a w, (∃ m, R m a w) → ∃ m, R m a w ∧ ∀ m', R m' a w → m ≤ m' := fun a w ⟨m, h⟩ => by
    induction m using Nat.strongRecOn with
    | _ m ih =>
      by_cases h' : ∃ m', m' < m ∧ R m' a w
      · obtain ⟨m', hlt, hm⟩ := h'; exact ih m' hlt hm
      · exact ⟨m, h, fun m' hm => Nat.le_of_not_lt fun hlt => h' ⟨m', hlt, hm⟩⟩
  let μ : Act → World → Nat := fun a w => if h : ∃ m, R m a w then Classical.choose (least a w h) else 0
  have hμ : ∀ a w, (∃ m, R m a w) → R (μ a w) a w := fun a w h => by simp only [μ, dif_pos h]; exact (Classical.choose_spec (least a w h)).1
  have hle : ∀ m a w, R m a w → μ a w ≤ m := fun m a w h => by
    have h' : ∃ m, R m a w := ⟨m, h⟩
    simp only [μ, dif_pos h']; exact (Classical.choose_spec (least a w h')).2 m h
  refine wpIn_loop (fun a w => ∃ m, R m a w) μ ⟨m0, ms, E0, I0, loc0, h0, ha.sub hE, hl ▸ hw.mono hI⟩ fun a w h => ?_
  obtain ⟨ms1, E1, I1, loc1, hJ, hf, hs⟩ := hμ a w h
  refine wpIn_mono (round _ _ _ _ _ hJ a w hf hs) fun e a' w' hq => ?_
  cases e with
  | normal =>
    obtain ⟨ms2, E2, I2, loc2, ⟨m', hlt, hJ'⟩, hf', hs'⟩ := hq
    exact ⟨⟨m', ms2, E2, I2, loc2, hJ', hf', hs'⟩, Nat.lt_of_le_of_lt (hle m' a' w' ⟨ms2, E2, I2, loc2, hJ', hf', hs'⟩) hlt⟩
  | _ => exact hq
/-- 'for x := range f { .. }' where marks lie already. -/
theorem X_rangeFuncM {α : Type} {gop : Operand} {p : Nat} {assign body : Code} {f : FuncId} {cap : List Value} {K : Loc} {enc : α → Value} {xs : List α}
    (Jc : List α → HMap → Loc → Prop) (Jx : Code → List α → HMap → Loc → Prop) (Ja : List α → α → Env → HMap → Loc → Prop)
    (hg : evalS [] E gop = some (.func (.func f) #[] cap.toArray)) (hF : Fun P f) (hseq : SeqL P f cap I K enc xs) (hp : Nat.blt p N = true) (h0 : Jc [] I L)
    (hass : ∀ l pre x I' loc' H1, pre ++ [x] <+: xs → HLe I I' → Jc pre I' loc' → X ⟨P, some l, N, [], g, H1⟩ (Exit.then (Met ⟨P, some l, N, [], g, H1⟩ fun E2 I2 loc2 => HLe I' I2 ∧ Ja pre x E2 I2 loc2) (fun _ _ _ => False)) assign ((p, enc x) :: E) I' loc')
    (hbody : ∀ l pre x E2 I2 loc2 H2, pre ++ [x] <+: xs → HLe I I2 → Ja pre x E2 I2 loc2 → X ⟨P, some l, N, [], g, H2⟩ (RoundQ g H2 (fun q I3 loc3 => HLe I2 I3 ∧ Jc q I3 loc3) (fun c q I3 loc3 => HLe I2 I3 ∧ Jx c q I3 loc3) (pre ++ [x])) body E2 I2 loc2)
    (hdone : ∀ bd I' loc', HLe I I' → Jc xs I' loc' → At ⟨P, none, N, mk (bd :: ms), g, H⟩ Q .normal E I' (loc' ++ MB (bd :: ms)))
    (hstop : ∀ c bd pre I' loc', HLe I I' → pre <+: xs → Jx c pre I' loc' → X ⟨P, none, N, mk (bd :: ms), g, H⟩ Q c E I' (loc' ++ MB (bd :: ms))) :
    X ⟨P, none, N, mk ms, g, H⟩ Q (.rangeFunc gop #[p] assign body) E I (K ++ (L ++ MB ms)) := by
  intro a w ha hw
  have back : ∀ {I' : HMap} {loc' : Loc} {bd : Nat} {w' : World}, St g I' (addL H (MB ms)) (loc' ++ [(bd, .deferred (some []))]) w' → St g I' H (loc' ++ MB (bd :: ms)) w' := fun {I' loc' bd w'} h => by
    have h1 := St.unhide ((hw.rest split_app).rest split_app) h
    refine h1.perm (fun p => ?_) ?_
    · simp only [MB, List.mem_append]
      constructor
      · rintro (h | h | h)
        · exact .inl (.inl h)
        · exact .inr h
        · exact .inl (.inr h)
      · rintro ((h | h) | h)
        · exact .inl h
        · exact .inr (.inr h)
        · exact .inr (.inl h)
    · have hn := h1.nodup
      have hpm : (loc' ++ MB (bd :: ms)).Perm (loc' ++ [(bd, .deferred (some []))] ++ MB ms) := by
        rw [List.append_assoc]
        exact (List.Perm.refl loc').append List.perm_append_comm
      exact (hpm.map (·.1)).nodup_iff.2 hn
  refine X_rangeFuncD (K := K) (P := P) (N := N) (D := mk ms) (g := g) (H := addL H (MB ms)) (Q := Q) Jc Jx Ja hg hF hseq hp h0 hass hbody ?_ ?_ a w ha (show St g I (addL H (MB ms)) (K ++ L) w from (show St g I H ((K ++ L) ++ MB ms) w by rw [List.append_assoc]; exact hw).hideR)
  · intro bd I' loc' hI hJ a' w' ha' hw'
    exact hdone bd I' loc' hI hJ a' w' ha' (back hw')
  · intro c bd pre I' loc' hI hpre hJ a' w' ha' hw'
    exact hstop c bd pre I' loc' hI hpre hJ a' w' ha' (back hw')
/-- The end, with as many marks as there are. -/
theorem leaves_marks {fn : Func} {R : Ending → World → Prop} {tmps : Array Value} {v : Value} : ∀ (ms : List Nat) {L : Loc} {w : World}, St g I H (L ++ MB ms) w → (∀ w, St g I H L w → (results fn tmps).run P w = .ok v w ∧ R (.returned v) w) →
    LeavesInM Fence.wide 0 P fn tmps R (mk ms) .returning w
  | [], L, w, hw, h => by
    have hw : St g I H L w := by simpa [MB] using hw
    exact ⟨v, h w hw⟩
  | b :: ms, L, w, hw, h => by
    have hu : Upd (L ++ MB (b :: ms)) b (.deferred (some [])) (.deferred none) (L ++ (MB ms ++ [(b, .deferred none)])) := upd_app (upd_app .here)
    have hb := hw.own _ _ hu.mem
    have hs := hw.putObj hu
    refine ⟨by simp, .inl ⟨b, _, rfl, run_takeDeferred hb, ?_⟩⟩
    exact leaves_marks ms (L := L) (hs.subL (subL_app subL_left)) h
theorem at_retMs {fn : Func} {R : Ending → World → Prop} {v : Value} (hv : ∀ a, Fits N (mk ms) E a → ∀ w, St g I H L w → (results fn a.tmps).run P w = .ok v w) (h : ∀ w, St g I H L w → R (.returned v) w) :
    At ⟨P, r, N, mk ms, g, H⟩ (bodyPostM Fence.wide 0 P fn R) .ret E I (L ++ MB ms) := fun a w ha hw => by
  show LeavesInM _ _ _ _ _ _ _ _ _
  rw [ha.defers]
  exact leaves_marks ms hw fun w' hw' => ⟨hv a ha w' hw', h w' hw'⟩
/-- A function's entry, marks to come. -/
theorem enterMs {f : FuncId} {fn : Func} {c : Code} {args : List Value} {R : Ending → World → Prop} {w : World} (hf : P.funcs[f]? = some fn) (hb : fn.body = some c) {N : Nat} (hN : fn.ntmps = N)
    (hlen : Nat.ble args.length N = true) (hw : St g I H loc w) (h : X ⟨P, none, N, mk [], g, H⟩ (bodyPostM Fence.wide 0 P fn R) c (env0 0 args) I (loc ++ MB [])) : Calls P f args.toArray w R :=
  enterM hf hb hN hlen hw (by simpa [MB, mk] using h)
end
end Go.Kn
end
section
namespace Go.Kn
open Go
section
variable {g : World} {I I' H : HMap} {loc loc' L R : Loc} {w w' : World}
end
variable {C : Cx} {Q : Exit → Act → World → Prop} {E E' : Env} {I I' : HMap} {loc loc' L R : Loc} {ops : Array Oper} {rest : List Oper} {S : GS}
variable {dst : Option Tmp} {d : Nat} {ty : TypeId} {pos : String} {af : Array Edge} {gd : Option (Nat × Bool)} {x y z : Operand}
section maps
variable {α β : Type} [DecidableEq α] {ek : α → Value} {ev : β → Value} {m : List (α × β)} {a : α}
theorem mset_same : ∀ (m : List (α × β)) (a : α) (b : β), mget m a = some b → mset m a b = m
  | [], _, _, h => by cases h
  | p :: m, a, b, h => by
    unfold mget at h
    unfold mset
    split
    · rename_i e
      rw [if_pos e] at h
      cases h; subst e; rfl
    · rename_i e
      rw [if_neg e] at h
      rw [mset_same m a b h]
end maps
/-- 'make([]T, n)', T of one cell. -/
theorem made_one {zv : Value} (h1 : zv.cells = #[zv]) (n : Nat) : madeCells zv.cells n = (List.replicate n zv).toArray := by
  rw [h1]
  apply Array.ext'
  have : ∀ x : Nat, [zv][x % 1]?.getD default = zv := fun x => by rw [Nat.mod_one]; rfl
  simp [madeCells, this, List.map_const']
/-- What the tables say of a slice that is made: its elements' type, of one cell, their zero and bytes. -/
def MkT (P : Program) (t e bytes : Nat) (zv : Value) : Prop := P.underlying t = some (.slice e) ∧ (P.info? e).map (fun i => (i.zero, i.size, i.bytes)) = some (some zv, 1, bytes) ∧ zv.cells = #[zv]
theorem XO_makeSlice {t e bytes : Nat} {zv : Value} {n : Int} (hT : MkT C.P t e bytes zv) (hx : evalS [] E x = some (.int .i64 n)) (hy : evalS [] E y = some (.int .i64 n)) (hn : 0 ≤ n ∧ n ≤ 1000000) (hb : bytes ≤ 1000)
    (hG : gd = none) (hN : Nat.blt d C.N = true) (h : ∀ b, XO C Q ops rest [] ((d, .slice (some ⟨b, 0, none⟩) n.toNat n.toNat) :: E) I ((b, .cells (List.replicate n.toNat zv).toArray e (0, 0)) :: loc)) :
    XO C Q ops (⟨some d, .makeSlice t x y, ty, pos, af, gd⟩ :: rest) [] E I loc :=
  XO_world hG (by intro c e; cases e) fun a w ha hw => by
    obtain ⟨hu, hi, h1⟩ := hT
    rw [Option.map_eq_some_iff] at hi
    obtain ⟨i, hi, he⟩ := hi
    simp only [Prod.mk.injEq] at he
    obtain ⟨hz, hs, hbt⟩ := he
    have hr := run_makeSlice (P := C.P) (w := w) t e i zv hu hi hz .i64 .i64 n n hn.1 (by omega) (by rw [hs]; omega) (by rw [hbt]; exact Int.le_trans (Int.mul_le_mul (by omega : (bytes : Int) ≤ 1000) hn.2 hn.1 (by omega)) (by decide)) (by omega)
    rw [hs, Nat.mul_one, made_one h1] at hr
    simp only [execOp, evalS_sound (S := []) ha trivial rfl hx, evalS_sound (S := []) ha trivial rfl hy, Sem.run_bind, hr, Result.andThen, Sem.run_pure, Oper.uponIn_value]
    exact h _ _ _ (ha.put hN _) trivial (hw.alloc _)
/-! ### Arrays -/
def fillS (size : Nat) : List Value → List (Nat × Value) → Option (List Value)
  | cells, [] => some cells
  | cells, (i, v) :: rest => bif Nat.beq (cellsL v).length size && Nat.ble (i * size + (cellsL v).length) cells.length then fillS size (spliceL cells (i * size) (cellsL v)) rest else none
theorem fillS_eq (size : Nat) : ∀ (ps : List (Nat × Value)) (cells out : List Value), fillS size cells ps = some out → Instr.fill (fun i => some (i * size, size)) cells.toArray ps = some out.toArray
  | [], cells, out, h => by
    simp only [fillS, Option.some.injEq] at h
    subst h; rfl
  | (i, v) :: ps, cells, out, h => by
    simp only [fillS] at h
    cases hb : (Nat.beq (cellsL v).length size && Nat.ble (i * size + (cellsL v).length) cells.length) with
    | false => rw [hb] at h; cases h
    | true =>
      rw [hb] at h
      simp only [Bool.and_eq_true] at hb
      have h1 := Nat.eq_of_beq_eq_true hb.1
      have h2 := Nat.le_of_ble_eq_true hb.2
      have e : cells = cells.take (i * size) ++ (cells.drop (i * size)).take size ++ cells.drop (i * size + size) := by
        rw [List.append_assoc]
        have : (cells.drop (i * size)).take size ++ cells.drop (i * size + size) = cells.drop (i * size) := by rw [← List.drop_drop]; exact List.take_append_drop _ _
        rw [this, List.take_append_drop]
      have hl1 : (cells.take (i * size)).length = i * size := by rw [List.length_take]; omega
      have hl2 : ((cells.drop (i * size)).take size).length = size := by rw [List.length_take, List.length_drop]; omega
      have hsp : spliceL cells (i * size) (cellsL v) = cells.take (i * size) ++ cellsL v ++ cells.drop (i * size + size) := by
        have := spliceL_app (cells.take (i * size)) ((cells.drop (i * size)).take size) (cellsL v) (cells.drop (i * size + size)) (by rw [hl2]; exact h1.symm)
        rw [← e, hl1] at this
        exact this
      have hfo := fill_one (place := fun i => some (i * size, size)) (i := i) (off := i * size) (size := size) (v := v) (vs := cellsL v) (pre := cells.take (i * size)) (old := (cells.drop (i * size)).take size) (tail := cells.drop (i * size + size)) (l := ps) rfl (cellsL_eq v) h1 hl1 hl2
      rw [← e] at hfo
      rw [hfo, ← hsp]
      exact fillS_eq size ps _ out h
theorem ev_buildArr {t n e size : Nat} {zl : List Value} {parts : Array (Nat × Operand)} {ps : List (Nat × Value)} (cells : List Value) (hA : ArT C.P t n e size) (hz : ZeroT C.P t (.agg zl.toArray)) (hp : parts.toList.map (fun p => (evalS S E p.2).map fun v => (p.1, v)) = ps.map some) (hf : fillS size zl ps = some cells) :
    EvalOp C S E I loc ⟨dst, .build t parts, ty, pos, af, gd⟩ (.agg cells.toArray) :=
  .of (by intro c e; cases e) fun a w ha hg hc hw => by
    obtain ⟨hu, i, hi, hs⟩ := hA
    have key : ∀ (l : List (Nat × Operand)) (ps : List (Nat × Value)), l.map (fun p => (evalS S E p.2).map fun v => (p.1, v)) = ps.map some → l.map (fun p => (p.1, a.eval p.2)) = ps := by
      intro l
      induction l with
      | nil => intro ps h; cases ps <;> simp_all
      | cons p l ih =>
        intro ps h
        cases ps with
        | nil => simp at h
        | cons q ps =>
          simp only [List.map_cons, List.cons.injEq] at h ⊢
          refine ⟨?_, ih _ h.2⟩
          cases e1 : evalS S E p.2 with
          | none => rw [e1] at h; simp at h
          | some v =>
            rw [e1] at h
            rw [evalS_sound ha hg hc e1]
            simpa using h.1
    have hps : (parts.map fun (i, x) => (i, a.eval x)).toList = ps := by
      rw [← key _ _ hp]; simp
    have hfe := fillS_eq size ps zl cells hf
    have hzc : (Value.agg zl.toArray).cells = zl.toArray := rfl
    simp only [execOp, Instr.build, Sem.run_bind, run_zeroValue hz, Result.andThen, run_underlying hu, run_sizeOf hi, hs, hps, hzc, hfe, Sem.run_pure]
end Go.Kn
end
section
namespace Go.Kn
open Go Go.Sort
section
variable {g : World} {I I' H : HMap} {loc loc' L R : Loc} {w w' : World}
theorem St.grown (h : St g I H loc w) (os : Array Obj) : St g I H loc (grow w os) := by
  have key : ∀ (b : Nat) (o : Obj), w.heap[b]? = some o → (grow w os).heap[b]? = some o := fun b o e => by
    have hb : b < w.heap.size := (Array.getElem?_eq_some_iff.1 e).1
    simp only [grow]
    rw [Array.getElem?_append_left hb]; exact e
  exact ⟨h.os, h.tape, h.out, ⟨Nat.le_trans h.size.1 (by simp [grow]), h.size.2⟩, fun b o e => key b o (h.imm b o e), fun b o e => key b o (h.frm b o e), fun b o e => key b o (h.own b o e), h.sepIH, h.sepIL, h.nodup⟩
theorem St.aheadN (h : St g I H loc w) (n : Nat) : St g I H loc (Go.Sort.ahead w n) := ⟨h.os, h.tape, h.out, ⟨h.size.1, Nat.le_trans h.size.2 (by simp [Go.Sort.ahead])⟩, h.imm, h.frm, h.own, h.sepIH, h.sepIL, h.nodup⟩
theorem St.rowPut {α : Type} [Inhabited α] {enc : α → Value} {b : Nat} {cs : Array Value} {e : TypeId} {fz : Nat × Nat} (h : St g I H loc w) (d : Array α) (hu : Upd loc b (.cells cs e fz) (.cells (putCells enc 0 d cs) e fz) loc') : St g I H loc' (putRow enc w b 0 d) := by
  have hb := h.own _ _ hu.mem
  refine h.turn hu rfl rfl rfl (by simp) ?_ ?_
  · simp only [putRow, mapBlock, Array.getElem?_modify, if_pos rfl, hb, Option.map_some]; rfl
  · intro c hc
    simp only [putRow, mapBlock, Array.getElem?_modify, if_neg (Ne.symm hc)]
theorem take_put {α : Type} [Inhabited α] {enc : α → Value} {cs : Array Value} {n : Nat} (xs : List α) (hl : xs.length = n) (hc : n ≤ cs.size) : (putCells enc 0 xs.toArray cs).toList.take n = xs.map enc := by
  apply List.ext_getElem?
  intro i
  by_cases hi : i < n
  · rw [List.getElem?_take_of_lt hi, List.getElem?_map]
    have h1 : i < cs.size := by omega
    have h2 : i < xs.length := by omega
    have h3 : (putCells enc 0 xs.toArray cs)[i]? = some (enc xs[i]) := by
      simp only [putCells, Array.getElem?_mapIdx, Array.getElem?_eq_getElem h1, Option.map_some]
      have : (0 ≤ i ∧ i < 0 + xs.toArray.size) := by simp; omega
      rw [if_pos this]
      congr 2
      simp [h2]
    rw [Array.getElem?_toList, h3, List.getElem?_eq_getElem h2]; rfl
  · rw [List.getElem?_eq_none (by rw [List.length_take]; omega), List.getElem?_eq_none (by rw [List.length_map]; omega)]
theorem holds_own {α : Type} [Inhabited α] {enc : α → Value} {b : Nat} {cs : Array Value} {e : TypeId} (h : St g I H loc w) (hm : (b, Obj.cells cs e (0, 0)) ∈ loc) (xs : List α) (hl : cs.toList.take xs.length = xs.map enc) : Holds enc w b 0 xs.toArray := by
  have hb := h.own _ _ hm
  intro j hj
  have hj' : j < xs.length := by simpa using hj
  refine ⟨?_, ?_⟩
  · simp only [World.cell?, hb, Option.isSome_none, Bool.false_eq_true, if_false]
    have : (cs.toList.take xs.length)[j]? = some (enc xs[j]) := by rw [hl, List.getElem?_map, List.getElem?_eq_getElem hj']; rfl
    rw [List.getElem?_take_of_lt hj', Array.getElem?_toList] at this
    rw [show 0 + j = j from by omega, this]
    congr 2
    simp [hj']
  · simp only [World.frozen?, hb]; simp
/-- slices.Sort at one's own slice of ints, out of its contract. -/
theorem retSort {P : Program} {f : FuncId} {e : TypeId}
    (hs : ∀ (blk off cap : Nat) (zs : List Int) (w : World), Holds (Value.int .i64) w blk off zs.toArray → blk < w.heap.size → zs.length < 4611686018427387904 → Calls P f #[.slice (some ⟨blk, off, none⟩) zs.length cap] w fun e w' => e = .returned (.tuple #[]) ∧ ∃ n os, w' = grow (putRow (Value.int .i64) (Go.Sort.ahead w n) blk off (zs.mergeSort fun x y => decide (x ≤ y)).toArray) os)
    (h0 : ∀ (p : Option Addr) (cap : Nat) (w : World), Calls P f #[.slice p 0 cap] w fun e w' => e = .returned (.tuple #[]) ∧ w' = w)
    (zs : List Int) {v : Value} {n : Nat} {L : Loc} (hO : OwnS e 1 v n (zs.map (Value.int .i64)) L) (hn : n ≤ 1000000) (I : HMap) :
    RetM P f [v] I L (fun u I' L' => u = .tuple #[] ∧ I' = I ∧ OwnS e 1 v n ((zs.mergeSort fun x y => decide (x ≤ y)).map (Value.int .i64)) L') := by
  intro g H w hw
  have hl : zs.length = n := by have := hO.1; simpa using this
  subst hl
  rcases hO.2 with ⟨rfl, h00, rfl⟩ | ⟨b, c, cur, rfl, rfl, hc, hc2, hsz, htk⟩
  · have : zs = [] := List.length_eq_zero_iff.1 h00
    subst this
    refine (h0 none 0 w).mono ?_
    rintro e w' ⟨rfl, rfl⟩
    refine ⟨_, I, [], rfl, HLe.refl _, hw, rfl, rfl, by simp [List.mergeSort], .inl ⟨rfl, rfl, rfl⟩⟩
  · rw [Nat.mul_one] at hsz htk
    have hb := hw.own b _ (List.mem_singleton.2 rfl)
    refine (hs b 0 c zs w (holds_own hw (List.mem_singleton.2 rfl) zs htk) (Array.getElem?_eq_some_iff.1 hb).1 (by omega)).mono ?_
    rintro e w' ⟨rfl, k, os, rfl⟩
    refine ⟨_, I, _, rfl, HLe.refl _, (((hw.aheadN k).rowPut _ .here).grown os), rfl, rfl, by simp [List.length_mergeSort], .inr ⟨b, c, _, rfl, rfl, hc, hc2, by simp [putCells, hsz], ?_⟩⟩
    rw [Nat.mul_one]
    exact take_put _ (by simp [List.length_mergeSort]) (by omega)
theorem retCompact {P : Program} {f : FuncId} {e : TypeId} (co : List Int → List Int) (hco : ∀ zs, (co zs).length ≤ zs.length) (hcn : co [] = [])
    (hs : ∀ (blk off cap : Nat) (zs : List Int) (w : World), Holds (Value.int .i64) w blk off zs.toArray → zs.length ≤ 9223372036854775807 → zs.length ≤ cap → Calls P f #[.slice (some ⟨blk, off, none⟩) zs.length cap] w fun e w' => e = .returned (.slice (some ⟨blk, off, none⟩) (co zs).length cap) ∧ ∃ q, w' = putRow (Value.int .i64) (Go.Sort.ahead w q) blk off (co zs ++ List.replicate (zs.length - (co zs).length) 0).toArray)
    (h0 : ∀ (p : Option Addr) (cap : Nat) (w : World), Calls P f #[.slice p 0 cap] w fun e w' => e = .returned (.slice p 0 cap) ∧ w' = w)
    (zs : List Int) {v : Value} {n : Nat} {L : Loc} (hO : OwnS e 1 v n (zs.map (Value.int .i64)) L) (hn : n ≤ 1000000) (I : HMap) :
    RetM P f [v] I L (fun u I' L' => I' = I ∧ OwnS e 1 u (co zs).length ((co zs).map (Value.int .i64)) L') := by
  intro g H w hw
  have hl : zs.length = n := by have := hO.1; simpa using this
  subst hl
  have hle := hco zs
  rcases hO.2 with ⟨rfl, h00, rfl⟩ | ⟨b, c, cur, rfl, rfl, hc, hc2, hsz, htk⟩
  · have : zs = [] := List.length_eq_zero_iff.1 h00
    subst this
    refine (h0 none 0 w).mono ?_
    rintro e w' ⟨rfl, rfl⟩
    refine ⟨_, I, [], rfl, HLe.refl _, hw, rfl, by simp [hcn], .inl ⟨rfl, by simp [hcn], rfl⟩⟩
  · rw [Nat.mul_one] at hsz htk
    refine (hs b 0 c zs w (holds_own hw (List.mem_singleton.2 rfl) zs htk) (by omega) hc).mono ?_
    rintro e w' ⟨rfl, k, rfl⟩
    refine ⟨_, I, _, rfl, HLe.refl _, (hw.aheadN k).rowPut _ .here, rfl, by simp, .inr ⟨b, c, _, rfl, rfl, by omega, hc2, by simp [putCells, hsz], ?_⟩⟩
    rw [Nat.mul_one]
    have h1 := take_put (enc := Value.int .i64) (cs := cur) (n := zs.length) (co zs ++ List.replicate (zs.length - (co zs).length) 0) (by simp; omega) (by omega)
    have h2 := congrArg (List.take (co zs).length) h1
    rw [List.take_take, Nat.min_eq_left hle] at h2
    rw [h2]; simp
end
end Go.Kn
end
section
namespace Go.Kn
open Go
section
variable {g : World} {I I' H : HMap} {loc loc' L R : Loc} {w w' : World}
end
variable {C : Cx} {Q : Exit → Act → World → Prop} {E : Env} {I : HMap} {loc : Loc}
/-- All own blocks are read from now on. -/
theorem X_freezeAll {c : Code} (h : ∀ I', HLe I I' → (∀ b o, (b, o) ∈ loc → I' b = some o) → X C Q c E I' []) : X C Q c E I loc := fun a w ha hw => by
  obtain ⟨I', h1, h2, h3⟩ := hw.freezeAll
  exact h I' h1 h3 a w ha h2
theorem XO_freezeAll {ops : Array Oper} {rest : List Oper} {S : GS} (h : ∀ I', HLe I I' → (∀ b o, (b, o) ∈ loc → I' b = some o) → XO C Q ops rest S E I' []) : XO C Q ops rest S E I loc := fun a w ha hg hw => by
  obtain ⟨I', h1, h2, h3⟩ := hw.freezeAll
  exact h I' h1 h3 a w ha hg h2
/-- Some of the own blocks are read from now on. -/
theorem X_freezeL {c : Code} {L R : Loc} (hsp : Split loc L R) (h : ∀ I', HLe I I' → (∀ b o, (b, o) ∈ L → I' b = some o) → X C Q c E I' R) : X C Q c E I loc := fun a w ha hw => by
  have h0 := hw.unsplit hsp
  have h1 := h0.hideR
  obtain ⟨I', h2, h3, h4⟩ := h1.freezeAll
  have h5 : St C.g I' C.H R w := St.unhide (h0.rest split_app) h3
  exact h I' h2 h4 a w ha h5
theorem mget_mset {α β : Type} [DecidableEq α] : ∀ (m : List (α × β)) (a x : α) (b : β), mget (mset m a b) x = if a = x then some b else mget m x
  | [], a, x, b => by simp [mset, mget]
  | p :: m, a, x, b => by
    unfold mset
    by_cases h : p.1 = a
    · rw [if_pos h]
      simp only [mget]
      by_cases h2 : a = x
      · rw [if_pos h2, if_pos h2]
      · rw [if_neg h2, if_neg h2, if_neg (by rw [h]; exact h2)]
    · rw [if_neg h]
      simp only [mget]
      rw [mget_mset m a x b]
      by_cases h2 : p.1 = x
      · rw [if_pos h2, if_pos h2, if_neg (fun e => h (by rw [h2, e]))]
      · rw [if_neg h2, if_neg h2]
theorem mget_mem {α β : Type} [DecidableEq α] : ∀ {m : List (α × β)} {a : α} {b : β}, mget m a = some b → (a, b) ∈ m
  | [], _, _, h => by cases h
  | p :: m, a, b, h => by
    unfold mget at h
    split at h
    · rename_i e
      cases h
      rw [← e]; exact List.mem_cons_self ..
    · exact List.mem_cons_of_mem _ (mget_mem h)
theorem mget_none {α β : Type} [DecidableEq α] : ∀ {m : List (α × β)} {a : α}, mget m a = none ↔ a ∉ m.map (·.1)
  | [], a => by simp [mget]
  | p :: m, a => by
    unfold mget
    by_cases h : p.1 = a
    · simp [h]
    · rw [if_neg h, mget_none, List.map_cons, List.mem_cons, not_or]
      exact ⟨fun h2 => ⟨fun e => h e.symm, h2⟩, fun h2 => h2.2⟩
theorem mset_keys {α β : Type} [DecidableEq α] : ∀ (m : List (α × β)) (a : α) (b : β), (mset m a b).map (·.1) = if a ∈ m.map (·.1) then m.map (·.1) else m.map (·.1) ++ [a]
  | [], a, b => by simp [mset]
  | p :: m, a, b => by
    unfold mset
    by_cases h : p.1 = a
    · simp [h]
    · rw [if_neg h, List.map_cons, mset_keys m a b]
      by_cases h2 : a ∈ m.map (·.1)
      · rw [if_pos h2, if_pos (by simp only [List.map_cons]; exact List.mem_cons_of_mem _ h2)]; rfl
      · rw [if_neg h2, if_neg (by simp only [List.map_cons, List.mem_cons, not_or]; exact ⟨fun e => h e.symm, h2⟩)]; rfl
theorem mset_nodup {α β : Type} [DecidableEq α] {m : List (α × β)} (a : α) (b : β) (h : (m.map (·.1)).Nodup) : ((mset m a b).map (·.1)).Nodup := by
  rw [mset_keys]
  split
  · exact h
  · rename_i h2
    rw [List.nodup_append]
    exact ⟨h, by simp, fun x hx y hy e => by simp at hy; subst hy; subst e; exact h2 hx⟩
theorem mget_at {α β : Type} [DecidableEq α] {m : List (α × β)} (h : (m.map (·.1)).Nodup) {p : α × β} (hp : p ∈ m) : mget m p.1 = some p.2 := by
  induction m with
  | nil => cases hp
  | cons q m ih =>
    rw [List.map_cons, List.nodup_cons] at h
    unfold mget
    rcases List.mem_cons.1 hp with rfl | hp
    · rw [if_pos rfl]
    · rw [if_neg (fun e => h.1 (by rw [e]; exact List.mem_map.2 ⟨p, hp, rfl⟩)), ih h.2 hp]
end Go.Kn
end
section
namespace Go.Kn
open Go
section
variable {I : HMap} {b off : Nat} {vs : List Value} {A : Array Value} {t : TypeId} {fz : Nat × Nat} {l : Loc}
variable {p0 p1 p2 p3 p4 p5 p6 p7 p8 p9 : Nat × Obj}
theorem Cells.s0 (h : (A.toList.drop off).take vs.length = vs) : Cells I ((b, .cells A t fz) :: l) b off vs := fun j v hv => by
  refine Cell.here ?_
  rw [lget_eq]
  rw [← h] at hv
  rw [List.getElem?_take] at hv
  split at hv
  · rw [List.getElem?_drop] at hv; exact hv
  · cases hv
end
/-- A store of several cells into a block. -/
theorem run_storeCells_seg {P : Program} {g : World} {I H : HMap} {post : List Value} {off : Nat} : ∀ (vs : List Value) (pre : List Value) (w : World) (loc loc' : Loc) (b : Nat) (t : TypeId) (old : List Value) (k : Nat), pre.length = off + k → old.length = vs.length → (∀ v ∈ vs, v.oneCell' = true) → St g I H loc w →
    Upd loc b (.cells (pre ++ (old ++ post)).toArray t (0, 0)) (.cells (pre ++ (vs ++ post)).toArray t (0, 0)) loc' → ∃ w', (storeCells ⟨b, off, none⟩ vs k).run P w = .ok () w' ∧ St g I H loc' w'
  | [], pre, w, loc, loc', b, t, old, k, _, hl, _, hw, hu => by
    have : old = [] := List.length_eq_zero_iff.1 hl
    subst this
    refine ⟨w, rfl, ?_⟩
    have hb := hw.own _ _ hu.mem
    exact hw.turn hu rfl rfl rfl rfl hb (fun _ _ => rfl)
  | v :: vs, pre, w, loc, loc', b, t, old, k, hp, hl, h1, hw, hu => by
    cases old with
    | nil => simp at hl
    | cons u old =>
      have hb := hw.own _ _ hu.mem
      have hc : w.cell? ⟨b, off + k, none⟩ = some u := by simp [World.cell?, hb, ← hp]
      have hfz := frozen_free (off := off + k) hw hu.mem
      obtain ⟨l1, u1, u2⟩ := hu.middle (.cells ((pre ++ [v]) ++ (old ++ post)).toArray t (0, 0))
      have hset : ((pre ++ (u :: old ++ post)).toArray.setIfInBounds (off + k) v) = ((pre ++ [v]) ++ (old ++ post)).toArray := by rw [← hp]; simp
      rw [← hset] at u1
      have hw1 := hw.setCell u1
      rw [hset] at u1
      obtain ⟨w', hr, hs⟩ := run_storeCells_seg (P := P) (post := post) (off := off) vs (pre ++ [v]) _ l1 loc' b t old (k + 1) (by simp; omega) (by simpa using hl) (fun x hx => h1 x (List.mem_cons_of_mem _ hx)) hw1 (by simpa using u2)
      refine ⟨w', ?_, hs⟩
      simp only [storeCells, Sem.run_bind, add_plain, run_store _ _ _ _ _ (h1 v (List.mem_cons_self ..)), hc, hfz, Bool.false_eq_true, if_false, Result.andThen, hr]
variable {C : Cx} {Q : Exit → Act → World → Prop} {E E' : Env} {I I' : HMap} {loc loc' L R : Loc} {ops : Array Oper} {rest : List Oper} {S : GS}
variable {dst : Option Tmp} {d : Nat} {ty : TypeId} {pos : String} {af : Array Edge} {gd : Option (Nat × Bool)} {x y z : Operand}
theorem splice_eq {A : List Value} {off n : Nat} {vs : List Value} (h : off + n ≤ A.length) (hn : vs.length = n) : spliceL A off vs = A.take off ++ (vs ++ A.drop (off + n)) := by
  have e : A = A.take off ++ (A.drop off).take n ++ A.drop (off + n) := by
    rw [List.append_assoc]
    have : (A.drop off).take n ++ A.drop (off + n) = A.drop off := by rw [← List.drop_drop]; exact List.take_append_drop _ _
    rw [this, List.take_append_drop]
  have hl1 : (A.take off).length = off := by rw [List.length_take]; omega
  have := spliceL_app (A.take off) ((A.drop off).take n) vs (A.drop (off + n)) (by rw [List.length_take, List.length_drop]; omega)
  rw [← e, hl1, List.append_assoc] at this
  exact this
theorem XO_storeP {t t' b off n : Nat} {vs : List Value} {A : List Value} (hx : evalS [] E x = some (.pointer (some ⟨b, off, none⟩))) (hy : evalS [] E y = some (.agg vs.toArray)) (hT : SzT C.P t n) (hn : vs.length = n) (ho : Nat.ble (off + n) A.length = true) (h1 : allOne vs = true) (hG : gd = none)
    (hu : Upd loc b (.cells A.toArray t' (0, 0)) (.cells (spliceL A off vs).toArray t' (0, 0)) loc') (h : XO C Q ops rest [] E I loc') :
    XO C Q ops (⟨none, .store t x y, ty, pos, af, gd⟩ :: rest) [] E I loc :=
  XO_world hG (by intro c e; cases e) fun a w ha hw => by
    obtain ⟨i, hi, hs⟩ := hT
    have hle := Nat.le_of_ble_eq_true ho
    have e : A = A.take off ++ ((A.drop off).take n ++ A.drop (off + n)) := by
      have : (A.drop off).take n ++ A.drop (off + n) = A.drop off := by rw [← List.drop_drop]; exact List.take_append_drop _ _
      rw [this, List.take_append_drop]
    rw [splice_eq hle hn] at hu
    have hu2 : Upd loc b (.cells (A.take off ++ ((A.drop off).take n ++ A.drop (off + n))).toArray t' (0, 0)) (.cells (A.take off ++ (vs ++ A.drop (off + n))).toArray t' (0, 0)) loc' := by rw [← e]; exact hu
    obtain ⟨w', hr, hs'⟩ := run_storeCells_seg (P := C.P) (off := off) vs (A.take off) w loc loc' b t' ((A.drop off).take n) 0 (by rw [List.length_take]; omega) (by rw [List.length_take, List.length_drop]; omega) (allOne_iff h1) hw hu2
    simp only [execOp, evalS_sound (S := []) ha trivial rfl hx, evalS_sound (S := []) ha trivial rfl hy, Instr.storeAt, Instr.sureAddr, Sem.run_bind, Sem.run_pure, Result.andThen, storeVar, run_sizeOf hi, hs, Value.cells, List.size_toArray, hn, ne_eq, not_true_eq_false, if_false]
    simp only [hr, Oper.uponIn_skip]
    exact h _ _ ha trivial hs'
theorem ev_nilCheck {a : Addr} (hx : evalS S E x = some (.pointer (some a))) : EvalOp C S E I loc ⟨dst, .nilCheck x, ty, pos, af, gd⟩ (.pointer (some a)) :=
  .of (by intro c e; cases e) fun ac w ha hg hc _ => by
    simp only [execOp, evalS_sound ha hg hc hx]; rfl
theorem ev_negU {t : TypeId} {k : IntKind} {a : Int} (hx : evalS S E x = some (.int k a)) : EvalOp C S E I loc ⟨dst, .unOp .neg t x, ty, pos, af, gd⟩ (.int k (k.wrap (0 - a))) :=
  .of (by intro c e; cases e) fun ac w ha hg hc _ => by
    simp only [execOp, evalS_sound ha hg hc hx]; rfl
section
variable {P : Program} {fn : Func} {N : Nat} {g : World} {I H : HMap} {loc : Loc} {E : Env}
theorem res1c {D : List Deferred} {t tt b : Nat} {v : Value} (hr : fn.results = #[.cell t tt]) (hv : look E t = some (.pointer (some ⟨b, 0, none⟩))) (hT : ScT P tt) (hc : Cell I loc b 0 v) (a : Act) (ha : Fits N D E a) (w : World) (hw : St g I H loc w) : (results fn a.tmps).run P w = .ok v w := by
  have e1 := ha.env _ _ hv
  rw [Array.getD_eq_getD_getElem?] at e1
  have l1 : (loadVar tt ⟨b, 0, none⟩).run P w = .ok v w := by
    simp only [loadVar, Sem.run_bind, run_isAgg_sc hT, Result.andThen, Bool.false_eq_true, if_false, run_load, hc.get hw]
  simp only [results, hr]
  simp [List.mapM_cons, e1, asAddr, l1]
end
end Go.Kn
namespace Go.Kn
open Go
section
variable {C : Cx} {E : Env} {I : HMap} {loc : Loc} {S : GS} {dst : Option Tmp} {ty : TypeId} {pos : String} {af : Array Edge} {gd : Option (Nat × Bool)} {x y : Operand}
variable {α β : Type} [DecidableEq α] {ek : α → Value} {ev : β → Value} {m : List (α × β)} {a : α}
end
end Go.Kn
end
section
namespace Go.Kn
open Go
section
variable {C : Cx} {E : Env} {I : HMap} {loc : Loc} {S : GS} {dst : Option Tmp} {ty : TypeId} {pos : String} {af : Array Edge} {gd : Option (Nat × Bool)} {x y : Operand}
variable {α : Type} [DecidableEq α] {ek : α → Value} {a : α}
/-- A look-up of a number, with whether it is there. -/
theorem ev_lookupOkI {m : List (α × Int)} {t k e r : Nat} {ik : IntKind} (hT : MpT C.P t k e (.int ik 0)) (hK : KeyOK C.P k ek) (hx : evalS S E x = some (.map (some r))) (hy : evalS S E y = some (ek a)) (hm : conj S = true → Mem I loc r (mapO ek (Value.int ik) m)) :
    EvalOp C S E I loc ⟨dst, .lookup t x y true, ty, pos, af, gd⟩ (.tuple #[.int ik ((mget m a).getD 0), .bool (mget m a).isSome]) := by
  have := ev_lookupOk (C := C) (S := S) (dst := dst) (ty := ty) (pos := pos) (af := af) (gd := gd) hT hK hx hy hm
  cases h : mget m a with
  | none => rw [h] at this; exact this
  | some b => rw [h] at this; exact this
end
end Go.Kn
namespace Go.Kn
open Go
section
variable {C : Cx} {E : Env} {I : HMap} {loc : Loc} {S : GS} {dst : Option Tmp} {ty : TypeId} {pos : String} {af : Array Edge} {gd : Option (Nat × Bool)} {x y : Operand}
variable {α : Type} [DecidableEq α] {ek : α → Value} {a : α}
end
end Go.Kn
end
section
namespace Go.Kn
open Go
theorem key_arr2 {P : Program} {t e : Nat} (hT : Ar2 P t e .i64) : KeyOK (α := Int × Int) P t encK2 := by
  obtain ⟨hu, hi, hc, he, hg⟩ := hT
  obtain ⟨i, hi2⟩ := Option.isSome_iff_exists.1 hi
  have hsz : i.size = 1 := by have := hc; unfold Program.cellsOf at this; rw [hi2] at this; exact this
  refine .of_asking hu (fun b a w => ?_) (fun a => by simp [encK2, Instr.sameBits]) (fun a b => rfl) (fun a b w => ?_)
  · have hp : ∀ (xs : Array Value) (q : Nat) (u : Value), xs[q]? = some u → (part e xs q).run P w = .ok u w := fun xs q u h => by
      simp only [part, Sem.run_bind, run_isAgg_sc (P := P) ⟨_, he, trivial⟩, Result.andThen, Bool.false_eq_true, if_false, h, Sem.run_pure]
    have ck : ∀ (x : Int) (q : Nat), (Instr.checkKey b (q + 1) e (.int .i64 x)).run P w = .ok () w := fun x q => by
      simp only [Instr.checkKey, Sem.run_bind, run_underlying he, Result.andThen]; rfl
    have key : ∀ q, (Instr.checkKey b (q + 2) t (encK2 a)).run P w = .ok () w := fun q => by
      unfold Instr.checkKey
      simp only [encK2, Sem.run_bind, run_underlying hu, Result.andThen_ok]
      simp only [Std.Legacy.Range.forIn_eq_forIn_range', Std.Legacy.Range.size, Nat.sub_zero, Nat.add_one_sub_one, Nat.div_one]
      simp only [List.range', List.forIn_cons, List.forIn_nil, Sem.run_bind, run_sizeOf hi2, hsz, Result.andThen_ok, Nat.zero_mul, Nat.zero_add, Nat.one_mul, Nat.mul_one,
        hp #[.int .i64 a.1, .int .i64 a.2] 0 (.int .i64 a.1) rfl, hp #[.int .i64 a.1, .int .i64 a.2] 1 (.int .i64 a.2) rfl, ck, Sem.run_pure]
    exact key 9998
  · have e := run_ar2 (P := P) (t := t) ⟨hu, hi, hc, he, hg⟩ w a.1 a.2 b.1 b.2 9998
    have e2 : (Op.equal t (encK2 a) (encK2 b)).run P w = .ok (a.1 == b.1 && a.2 == b.2) w := by
      simp only [Op.equal, Op.maxDepth, encK2]; exact e
    rw [e2]
    congr 1
    obtain ⟨a1, a2⟩ := a; obtain ⟨b1, b2⟩ := b
    by_cases h1 : a1 = b1 <;> by_cases h2 : a2 = b2 <;> simp [h1, h2]
section
variable {P : Program} {fn : Func} {R : Ending → World → Prop} {N : Nat} {g : World} {I H : HMap} {loc : Loc} {E : Env} {r : Option Nat}
/-- Two results, the first of which lies in a block of several cells. -/
theorem at_ret2A {t u tt n b : Nat} {vs : List Value} {v' : Value} (hr : fn.results = #[.cell t tt, .tmp u]) (hv : look E t = some (.pointer (some ⟨b, 0, none⟩))) (hv' : look E u = some v') (hA : AgT P tt n) (hc : Cells I loc b 0 vs) (hn : vs.length = n)
    (h : ∀ w, St g I H loc w → R (.returned (.tuple #[.agg vs.toArray, v'])) w) : At ⟨P, r, N, [], g, H⟩ (bodyPost P fn R) .ret E I loc := fun a w ha hw =>
  ⟨ha.defers, .tuple #[.agg vs.toArray, v'], by
    have e1 := ha.env _ _ hv
    have e2 := ha.env _ _ hv'
    rw [Array.getD_eq_getD_getElem?] at e1 e2
    have h1 : (loadCells ⟨b, 0, none⟩ n).run P w = .ok vs.toArray w := by
      rw [← hn]
      exact run_loadCells_list w _ _ fun j v hj => by rw [add_plain]; exact (hc j v hj).get hw
    have hA' := hA
    obtain ⟨_, i, h2, h3⟩ := hA'
    have l1 : (loadVar tt ⟨b, 0, none⟩).run P w = .ok (.agg vs.toArray) w := by
      simp only [loadVar, Sem.run_bind, Sem.run_pure, run_isAgg_ag hA, Result.andThen, if_true, run_sizeOf h2, h3, h1]
    simp only [results, hr]
    simp [List.mapM_cons, e1, e2, asAddr, l1], h w hw⟩
end
end Go.Kn
namespace Go.Kn
open Go
section
variable {C : Cx} {Q : Exit → Act → World → Prop} {E G : Env} {I I' : HMap} {loc loc' L R : Loc} {ops : Array Oper} {rest : List Oper} {S : GS} {b : Bool}
variable {d : Nat} {ty : TypeId} {pos : String} {af : Array Edge} {gd : Option (Nat × Bool)}
end
end Go.Kn
end
section
namespace Go.Proofs.YthcffaheamikgaaDoor
open Go Go.Kn Go.Proofs
theorem fun_29 : Fun Tryd.prog 29 := .of Tryd.func29 (by kernel_rfl) (by kernel_rfl)
theorem fun_36 : Fun Tryd.prog 36 := .of Tryd.func36 (by kernel_rfl) (by kernel_rfl)
theorem fun_40 : Fun Tryd.prog 40 := .of Tryd.func40 (by kernel_rfl) (by kernel_rfl)
theorem fun_48 : Fun Tryd.prog 48 := .of Tryd.func48 (by kernel_rfl) (by kernel_rfl)
theorem fun_49 : Fun Tryd.prog 49 := .of Tryd.func49 (by kernel_rfl) (by kernel_rfl)
theorem fun_50 : Fun Tryd.prog 50 := .of Tryd.func50 (by kernel_rfl) (by kernel_rfl)
theorem fun_51 : Fun Tryd.prog 51 := .of Tryd.func51 (by kernel_rfl) (by kernel_rfl)
theorem fun_59 : Fun Tryd.prog 59 := .of Tryd.func59 (by kernel_rfl) (by kernel_rfl)
theorem fun_60 : Fun Tryd.prog 60 := .of Tryd.func60 (by kernel_rfl) (by kernel_rfl)
theorem fun_76 : Fun Tryd.prog 76 := .of Tryd.func76 (by kernel_rfl) (by kernel_rfl)
theorem fun_77 : Fun Tryd.prog 77 := .of Tryd.func77 (by kernel_rfl) (by kernel_rfl)
theorem fun_78 : Fun Tryd.prog 78 := .of Tryd.func78 (by kernel_rfl) (by kernel_rfl)
theorem sct_23 : ScT Tryd.prog 23 := .of (by kernel_rfl)
theorem sct_3 : ScT Tryd.prog 3 := .of (by kernel_rfl)
theorem slt_22 : SlT Tryd.prog 22 23 1 := .of (by kernel_rfl)
theorem slt_23 : SlT Tryd.prog 23 3 1 := .of (by kernel_rfl)
end Go.Proofs.YthcffaheamikgaaDoor
end
section
namespace Go.Proofs.YthcffaheamikgaaDoor
open Go Go.Kn Go.Proofs
def encI (n : Int) : List Value := [.int .i64 n]
/-- A slice's head. -/
structure Hd where
  a : Option Addr
  n : Nat
  c : Nat
def encH (h : Hd) : List Value := [.slice h.a h.n h.c]
theorem encI_len (x : Int) : (encI x).length = 1 := rfl
theorem encH_len (x : Hd) : (encH x).length = 1 := rfl
theorem one_I (xs : List Int) : allOne (xs.flatMap encI) = true := allOne_flat (fun _ => rfl) xs
theorem one_H (xs : List Hd) : allOne (xs.flatMap encH) = true := allOne_flat (fun _ => rfl) xs
def sameF {α : Type} [DecidableEq α] (xs ys : List α) : Bool := decide (xs = ys)
theorem same_self {α : Type} [DecidableEq α] (xs : List α) : sameF xs xs = true := decide_eq_true rfl
theorem _root_.Go.Kn.Sl.at {α : Type} {I : HMap} {size : Nat} {enc : α → List Value} {av : Option Addr} {n c : Nat} {xs : List α} (h : Sl I size enc av n c xs) {k : Nat} (hk : k < n) : ∃ x, xs[k]? = some x :=
  ⟨_, List.getElem?_eq_getElem (by rw [h.len]; exact hk)⟩
theorem range_step {p : Nat → Bool} {k : Nat} (h : (List.range k).all p = true) (hp : p k = true) : (List.range (k + 1)).all p = true := by
  rw [List.range_succ, List.all_append, h]; simpa using hp
theorem range_bad {p : Nat → Bool} {n k : Nat} (hk : k < n) (hp : p k = false) : (List.range n).all p = false := by
  cases h : (List.range n).all p with
  | false => rfl
  | true =>
    rw [List.all_eq_true] at h
    rw [h k (List.mem_range.2 hk)] at hp; cases hp
theorem getD_of {α : Type} {xs : List α} {k : Nat} {x d : α} (h : xs[k]? = some x) : xs.getD k d = x := by simp [List.getD, h]
theorem some_getD {α : Type} {xs : List α} {n k : Nat} {d : α} (hl : xs.length = n) (h : k < n) : xs[k]? = some (xs.getD k d) := by
  have : k < xs.length := by omega
  unfold List.getD
  rw [List.getElem?_eq_getElem this]; rfl
def SlH (I : HMap) (av : Option Addr) (n c : Nat) (hs : List Hd) (vss : List (List Int)) : Prop := Sl I 1 encH av n c hs ∧ hs.length = vss.length ∧ ∀ (k : Nat) (h : Hd) (v : List Int), hs[k]? = some h → vss[k]? = some v → Sl I 1 encI h.a h.n h.c v
def SlN (I : HMap) (av : Option Addr) (n c : Nat) (vss : List (List Int)) : Prop := ∃ hs : List Hd, SlH I av n c hs vss
theorem SlH.mono {I I' : HMap} {av : Option Addr} {n c : Nat} {hs : List Hd} {vss : List (List Int)} (h : SlH I av n c hs vss) (hI : HLe I I') : SlH I' av n c hs vss :=
  ⟨h.1.mono hI, h.2.1, fun k h' v a b => (h.2.2 k h' v a b).mono hI⟩
theorem SlN.mono {I I' : HMap} {av : Option Addr} {n c : Nat} {vss : List (List Int)} (h : SlN I av n c vss) (hI : HLe I I') : SlN I' av n c vss := by
  obtain ⟨hs, h1⟩ := h
  exact ⟨hs, h1.mono hI⟩
theorem SlH.len {I : HMap} {av : Option Addr} {n c : Nat} {hs : List Hd} {vss : List (List Int)} (h : SlH I av n c hs vss) : vss.length = n := by rw [← h.2.1, h.1.len]
theorem SlN.len {I : HMap} {av : Option Addr} {n c : Nat} {vss : List (List Int)} (h : SlN I av n c vss) : vss.length = n := by
  obtain ⟨hs, h1⟩ := h
  exact h1.len
theorem SlH.at {I : HMap} {av : Option Addr} {n c : Nat} {hs : List Hd} {vss : List (List Int)} (h : SlH I av n c hs vss) {k : Nat} (hk : k < n) : ∃ hd v, hs[k]? = some hd ∧ vss[k]? = some v ∧ Sl I 1 encI hd.a hd.n hd.c v := by
  obtain ⟨hd, hh⟩ := h.1.at hk
  have hl := h.len
  have hv : vss[k]? = some (vss[k]'(by omega)) := List.getElem?_eq_getElem _
  exact ⟨hd, _, hh, hv, h.2.2 k hd _ hh hv⟩
/-- One witness alone. -/
def singF (s : Int) : Bool := decide (s > 0) && (andI s (IntKind.i64.wrap (s - 1)) == 0)
def hasS (cl : List Int) (s : Int) : Bool := cl.any (fun c => c == s) || singF s
/-- a, and what is left of c: parts. -/
def lowS (a c : Int) : Bool := andI a (IntKind.i64.wrap (0 - a)) == andI c (IntKind.i64.wrap (0 - c))
def splitP (cl : List Int) (c a : Int) : Bool := (andI a c == a) && lowS a c && hasS cl a && hasS cl (c - a)
/-- The first part from a on. -/
def splitR (cl : List Int) (c : Int) (a : Nat) : Int := match (List.range' a (c.toNat - a)).find? (fun k : Nat => splitP cl c (k : Int)) with | none => 0 | some k => (k : Int)
def splitF (cl : List Int) (c : Int) : Int := splitR cl c 1
/-- A clade's place in a list that rises. -/
def cladeP (all : Int) (cl : List Int) (i : Nat) : Bool := !(((decide (cl.getD i 0 < 1)) || decide (cl.getD i 0 > all)) || (decide ((i : Int) > 0) && decide (cl.getD i 0 ≤ cl.getD ((i : Int) - 1).toNat 0)))
def allS (n : Int) : Int := IntKind.i64.wrap (1 * 2 ^ (min n.toNat IntKind.i64.bits)) - 1
def chkN (n : Int) (cl : List Int) : Int :=
  if n > 6 then 2 else if decide (n < 1) || decide ((cl.length : Int) ≠ n - 1) then 420
  else if !(List.range cl.length).all (cladeP (allS n) cl) then 420
  else if decide (n > 1) && decide (cl.getD (n - 2).toNat 0 ≠ allS n) then 420
  else if cl.any (fun c => splitF cl c == 0) then 420 else 0
theorem shl_in {n : Int} (h : 1 ≤ n ∧ n ≤ 6) : 2 ≤ IntKind.i64.wrap (1 * 2 ^ (min n.toNat IntKind.i64.bits)) ∧ IntKind.i64.wrap (1 * 2 ^ (min n.toNat IntKind.i64.bits)) ≤ 64 := by
  have : n = 1 ∨ n = 2 ∨ n = 3 ∨ n = 4 ∨ n = 5 ∨ n = 6 := by omega
  rcases this with e | e | e | e | e | e <;> subst e <;> decide
theorem all_in {n : Int} (h : 1 ≤ n ∧ n ≤ 6) : 1 ≤ allS n ∧ allS n ≤ 63 := by have := shl_in h; unfold allS; omega
theorem clade_le {all : Int} {cl : List Int} (h : (List.range cl.length).all (cladeP all cl) = true) {k : Nat} {x : Int} (hx : cl[k]? = some x) : 1 ≤ x ∧ x ≤ all := by
  have h1 := List.all_eq_true.1 h k (List.mem_range.2 (List.getElem?_eq_some_iff.1 hx).1)
  unfold cladeP at h1
  rw [getD_of hx] at h1
  simp at h1
  omega
theorem chkN_1 {n : Int} {cl : List Int} (h : n > 6) : chkN n cl = 2 := by unfold chkN; rw [if_pos h]
theorem chkN_2 {n : Int} {cl : List Int} (h : ¬ n > 6) (h2 : (decide (n < 1) || decide ((cl.length : Int) ≠ n - 1)) = true) : chkN n cl = 420 := by unfold chkN; rw [if_neg h, if_pos h2]
theorem chkN_3 {n : Int} {cl : List Int} (h : ¬ n > 6) (h2 : (decide (n < 1) || decide ((cl.length : Int) ≠ n - 1)) = false) (h3 : (List.range cl.length).all (cladeP (allS n) cl) = false) : chkN n cl = 420 := by unfold chkN; rw [if_neg h, if_neg (by rw [h2]; decide), if_pos (by rw [h3]; rfl)]
theorem chkN_4 {n : Int} {cl : List Int} (h : ¬ n > 6) (h2 : (decide (n < 1) || decide ((cl.length : Int) ≠ n - 1)) = false) (h3 : (List.range cl.length).all (cladeP (allS n) cl) = true) (h4 : (decide (n > 1) && decide (cl.getD (n - 2).toNat 0 ≠ allS n)) = true) : chkN n cl = 420 := by
  unfold chkN; rw [if_neg h, if_neg (by rw [h2]; decide), if_neg (by rw [h3]; decide), if_pos h4]
theorem chkN_5 {n : Int} {cl : List Int} (h : ¬ n > 6) (h2 : (decide (n < 1) || decide ((cl.length : Int) ≠ n - 1)) = false) (h3 : (List.range cl.length).all (cladeP (allS n) cl) = true) (h4 : (decide (n > 1) && decide (cl.getD (n - 2).toNat 0 ≠ allS n)) = false) :
    chkN n cl = if cl.any (fun c => splitF cl c == 0) then 420 else 0 := by
  unfold chkN; rw [if_neg h, if_neg (by rw [h2]; decide), if_neg (by rw [h3]; decide), if_neg (by rw [h4]; decide)]
def capP (b : Nat) : Value := .pointer (some ⟨b, 0, none⟩)
def ownS (cl : List Int) (s : Int) : Bool := singF s || cl.any (fun y => s == y)
def partP (cl : List Int) (s a : Int) : Bool := lowS a s && ownS cl a && ownS cl (lessI s a)
def nextS (s a : Int) : Int := andI (IntKind.i64.wrap (a - 1)) s
/-- The parts, from a downwards. -/
def partR (cl : List Int) (s : Int) : Nat → Int → Option Int
  | 0, _ => none
  | f + 1, a => if decide (a > 0) then (if partP cl s a then some a else partR cl s f (nextS s a)) else none
def partF (cl : List Int) (s : Int) : Option Int := partR cl s 64 (nextS s s)
theorem and_small : ((List.range 64).all fun a => (List.range 64).all fun s => decide (0 ≤ andI (a : Int) (s : Int)) && decide (andI (a : Int) (s : Int) ≤ (a : Int))) = true := by kernel_rfl
theorem and_in {a s : Int} (ha : 0 ≤ a ∧ a ≤ 63) (hs : 0 ≤ s ∧ s ≤ 63) : 0 ≤ andI a s ∧ andI a s ≤ a := by
  have h := List.all_eq_true.1 (List.all_eq_true.1 and_small a.toNat (List.mem_range.2 (by omega))) s.toNat (List.mem_range.2 (by omega))
  rw [show ((a.toNat : Nat) : Int) = a by omega, show ((s.toNat : Nat) : Int) = s by omega] at h
  simpa using h
theorem next_in {a s : Int} (ha : 0 < a ∧ a ≤ 63) (hs : 0 ≤ s ∧ s ≤ 63) : 0 ≤ nextS s a ∧ nextS s a ≤ a - 1 := by
  unfold nextS
  rw [wrap_in (by omega)]
  exact and_in (by omega) hs
theorem partR_hit {cl : List Int} {s a : Int} {f : Nat} (h : a > 0) (hp : partP cl s a = true) : partR cl s (f + 1) a = some a := by
  unfold partR; rw [if_pos (by simpa using h), if_pos hp]
theorem partR_miss {cl : List Int} {s a : Int} {f : Nat} (h : a > 0) (hp : partP cl s a = false) : partR cl s (f + 1) a = partR cl s f (nextS s a) := by
  rw [show partR cl s (f + 1) a = if decide (a > 0) then (if partP cl s a then some a else partR cl s f (nextS s a)) else none from rfl, if_pos (by simpa using h), if_neg (by rw [hp]; decide)]
theorem partR_end {cl : List Int} {s a : Int} {f : Nat} (h : ¬ a > 0) : partR cl s f a = none := by
  cases f with
  | zero => rfl
  | succ f => rw [show partR cl s (f + 1) a = if decide (a > 0) then (if partP cl s a then some a else partR cl s f (nextS s a)) else none from rfl, if_neg (by simpa using h)]
def partA (cl : List Int) (s : Int) : Int := match partF cl s with | some a => a | none => 0
def partB (cl : List Int) (s : Int) : Int := match partF cl s with | some a => lessI s a | none => 0
/-- What the specification's Parts answers. -/
def partsE (m : Int) (cl : List Int) (s : Int) : Int := if chkN m cl ≠ 0 then chkN m cl else if cl.any (fun c => c == s) then 0 else 1
def partsA (m : Int) (cl : List Int) (s : Int) : Int := if partsE m cl s ≠ 0 then 0 else splitF cl s
def partsB (m : Int) (cl : List Int) (s : Int) : Int := if partsE m cl s ≠ 0 then 0 else s - splitF cl s
theorem partsE_chk {m : Int} {cl : List Int} {s : Int} (h : chkN m cl ≠ 0) : partsE m cl s = chkN m cl := by unfold partsE; rw [if_pos h]
theorem partsE_none {m : Int} {cl : List Int} {s : Int} (h : chkN m cl = 0) (h2 : cl.any (fun c => c == s) = false) : partsE m cl s = 1 := by unfold partsE; rw [if_neg (by omega), if_neg (by rw [h2]; decide)]
theorem partsE_ok {m : Int} {cl : List Int} {s : Int} (h : chkN m cl = 0) (h2 : cl.any (fun c => c == s) = true) : partsE m cl s = 0 := by unfold partsE; rw [if_neg (by omega), if_pos h2]
theorem partsA_bad {m : Int} {cl : List Int} {s : Int} (h : partsE m cl s ≠ 0) : partsA m cl s = 0 ∧ partsB m cl s = 0 := by unfold partsA partsB; rw [if_pos h, if_pos h]; exact ⟨rfl, rfl⟩
theorem partsA_ok {m : Int} {cl : List Int} {s : Int} (h : partsE m cl s = 0) : partsA m cl s = splitF cl s ∧ partsB m cl s = s - splitF cl s := by unfold partsA partsB; rw [if_neg (by omega), if_neg (by omega)]; exact ⟨rfl, rfl⟩
theorem chkN_ok {m : Int} {cl : List Int} (h : chkN m cl = 0) : 1 ≤ m ∧ m ≤ 6 ∧ (cl.length : Int) = m - 1 ∧ ∀ c ∈ cl, 1 ≤ c ∧ c ≤ 63 := by
  unfold chkN at h
  split at h
  · cases h
  · rename_i h1
    split at h
    · cases h
    · rename_i h2
      split at h
      · cases h
      · rename_i h3
        simp at h2 h3
        refine ⟨by omega, by omega, by omega, fun c hc => ?_⟩
        obtain ⟨k, hk⟩ := List.getElem?_of_mem hc
        have h4 : (List.range cl.length).all (cladeP (allS m) cl) = true := by rw [List.all_eq_true]; intro x hx; exact h3 x (List.mem_range.1 hx)
        have := clade_le h4 hk
        have := all_in (n := m) (by omega)
        omega
end Go.Proofs.YthcffaheamikgaaDoor
end
section
namespace Go.Proofs.YthcffaheamikgaaDoor
open Go Go.Kn Go.Proofs
theorem w_single (I : HMap) (s : Int) : RetV Tryd.prog 77 [.int .i64 s] I (.bool (singF s)) := by
 intro g H w hw
 refine enter Tryd.func77 rfl Tryd.ntmps77 rfl hw ?_
 refine X_seq (X_region ?_)
 refine zA ?_
 refine XO_nil (at_then (X_seq (X_region ?_)))
 refine zM ?_
 refine zC ?_
 refine zM ?_
 refine XO_pushT 2 rfl rfl rfl ?_
 refine XO_v1 (ev_move rfl) (.some rfl rfl rfl rfl gbt) rfl rfl rfl ?_
 refine XO_v1 (ev_move rfl) (.some rfl rfl rfl rfl gbt) rfl rfl rfl ?_
 refine XO_v1 (ev_ar rfl rfl rfl) (.some rfl rfl rfl rfl gbt) rfl rfl rfl ?_
 refine XO_v1 (ev_and rfl rfl) (.some rfl rfl rfl rfl gbt) rfl rfl rfl ?_
 refine XO_v1 (ev_cmp rfl rfl rfl) (.some rfl rfl rfl rfl gbt) rfl rfl rfl ?_
 refine XO_and0 rfl rfl rfl rfl rfl ?_
 refine zA ?_
 refine XO_nil (at_then ?_)
 refine X_ret ?_
 exact at_ret1 rfl rfl (fun w hw => ⟨by first | rfl | simp_all, hw.drop⟩)
theorem any_no {α : Type} {xs : List α} {k : Nat} {x : α} {p : α → Bool} (hx : xs[k]? = some x) (h : (xs.take k).any p = false) (hp : p x = false) : (xs.take (k + 1)).any p = false := by rw [any_take hx, h, hp]; rfl
theorem any_yes {α : Type} {xs : List α} {k : Nat} {x : α} {p : α → Bool} (hx : xs[k]? = some x) (hp : p x = true) : xs.any p = true := List.any_eq_true.2 ⟨x, List.mem_of_getElem? hx, hp⟩
end Go.Proofs.YthcffaheamikgaaDoor
end
section
namespace Go.Proofs.YthcffaheamikgaaDoor
open Go Go.Kn Go.Proofs
def idxF {α : Type} (p : α → Bool) (xs : List α) : Int := if xs.any p then (xs.findIdx p : Int) else -1
theorem idx_hit {α : Type} {xs : List α} {k : Nat} {x : α} {p : α → Bool} (h : (xs.take k).any p = false) (hx : xs[k]? = some x) (hp : p x = true) : idxF p xs = k := by
 unfold idxF
 rw [any_yes hx hp, if_pos rfl]
 have hk := (List.getElem?_eq_some_iff.1 hx).1
 have : xs.findIdx p = k := by
  rw [List.findIdx_eq hk]
  refine ⟨by rw [(List.getElem?_eq_some_iff.1 hx).2]; exact hp, fun j hj => ?_⟩
  have := List.any_eq_false.1 h xs[j] (by rw [List.mem_take_iff_getElem]; exact ⟨j, by omega, rfl⟩)
  simpa using this
 omega
theorem idx_none {α : Type} {xs : List α} {k n : Nat} {p : α → Bool} (hl : xs.length = n) (hk : n ≤ k) (h : (xs.take k).any p = false) : idxF p xs = -1 := by
 unfold idxF
 rw [take_all hl hk] at h
 rw [h]; rfl
theorem idx_any {α : Type} {xs : List α} {p : α → Bool} : decide (idxF p xs ≥ 0) = xs.any p := by
 unfold idxF
 cases h : xs.any p
 ·
  rfl
 ·
  simp
theorem w_index {I : HMap} {av : Option Addr} {n c : Nat} {xs : List Int} (hS : Sl I 1 encI av n c xs) (hn : n ≤ 100000) (v : Int) : RetV Tryd.prog 60 [.slice av n c, .int .i64 v] I (.int .i64 (idxF (fun y => v == y) xs)) := by
 intro g H w hw
 refine enter Tryd.func60 rfl Tryd.ntmps60 rfl hw ?_
 refine X_seq (X_region ?_)
 refine zA ?_
 refine XO_nil (at_then ?_)
 refine X_seq ?_
 refine X_seq (X_region ?_)
 refine zM ?_
 refine XO_v0 (ev_lenS rfl slt_23) rfl rfl rfl ?_
 refine zM ?_
 refine XO_nil (at_then ?_)
 refine X_block ?_
 refine X_loopT [(0, _), (1, _), (7, _)] (.cons rfl (.cons rfl (.cons rfl .nil))) (fun T L0 mz E I' loc' => ∃ (k : Nat), mz = n - k ∧ E = (8, .int .i64 k) :: T ∧ I = I' ∧ L0 = loc' ∧ k ≤ n ∧ (xs.take k).any (fun y => v == y) = false) _ _ _ _ ⟨0, rfl, rfl, rfl, rfl, Nat.zero_le _, rfl⟩ (.cons rfl (.cons rfl (.cons rfl (.cons rfl .nil)))) (HLe.refl _) rfl ?_
 rintro mz E I' loc' ⟨k, rfl, rfl, rfl, rfl, hk, hno⟩
 refine X_seq (X_region ?_)
 refine zC ?_
 refine XO_nil (at_then ?_)
 refine X_seq ?_
 refine X_cond rfl (fun hc9 => ?_) (fun hc9 => ?_)
 ·
  have hlt_k : k < n := by have h := hc9; simp at h; omega
  obtain ⟨x, hx⟩ := hS.at hlt_k
  refine X_skip ?_
  refine at_then ?_
  refine X_seq ?_
  refine X_block ?_
  refine X_seq (X_region ?_)
  refine zM ?_
  refine zA ?_
  refine XO_nil (at_then (X_seq (X_region ?_)))
  refine zM ?_
  refine zM ?_
  refine zM ?_
  refine XO_v0 (ev_indexSl rfl rfl slt_23 (by assumption) (fun hg => by first | omega | (simp [conj] at hg; omega))) rfl rfl rfl ?_
  refine XO_v0 (ev_load rfl sct_3 (fun hg => by exact Sl.get0 hS hx rfl)) rfl rfl rfl ?_
  refine zC ?_
  refine XO_nil (at_then ?_)
  refine X_cond rfl (fun hc16 => ?_) (fun hc16 => ?_)
  ·
   refine X_seq (X_region ?_)
   refine zM ?_
   refine zA ?_
   refine XO_nil (at_then ?_)
   refine X_ret ?_
   refine at_block_r ?_
   refine at_then_r ?_
   refine at_then_r ?_
   refine at_block_r ?_
   refine at_then_r ?_
   exact at_ret1 rfl rfl (fun w hw => ⟨by rw [idx_hit hno hx hc16], hw.drop⟩)
  ·
   refine X_skip ?_
   refine at_block_n ?_
   refine at_then ?_
   refine X_region ?_
   refine XO_v0 (ev_arB rfl rfl rfl (fun _ => by omega)) rfl rfl rfl ?_
   refine zM ?_
   refine XO_nil ?_
   exact at_met2 _ _ ⟨n - (k + 1), by omega, k + 1, rfl, rfl, rfl, rfl, by omega, any_no hx hno hc16⟩ (.cons rfl (.cons rfl (.cons rfl (.cons rfl .nil)))) (by repeat (first | exact .refl | exact subL_left | refine subL_app ?_ | refine .drop ?_ | refine subL_add ?_))
 ·
  have hge_k : n ≤ k := by have h := hc9; simp at h; omega
  refine X_exit ?_
  refine at_then_e ?_
  refine at_then_e ?_
  refine at_block_hit ?_
  refine at_then ?_
  refine X_seq (X_region ?_)
  refine zA ?_
  refine XO_nil (at_then ?_)
  refine X_ret ?_
  exact at_ret1 rfl rfl (fun w hw => ⟨by rw [idx_none hS.len hge_k hno], hw.drop⟩)
theorem w_contains {I : HMap} {av : Option Addr} {n c : Nat} {xs : List Int} (hS : Sl I 1 encI av n c xs) (hn : n ≤ 100000) (v : Int) : RetV Tryd.prog 40 [.slice av n c, .int .i64 v] I (.bool (xs.any (fun y => v == y))) := by
 intro g H w hw
 refine enter Tryd.func40 rfl Tryd.ntmps40 rfl hw ?_
 refine X_seq (X_region ?_)
 refine zA ?_
 refine XO_nil (at_then (X_seq (X_region ?_)))
 refine zM ?_
 refine zM ?_
 refine XO_callV0 (cap := []) (vs := [_, _]) rfl rfl fun_60 (w_index hS hn v) rfl rfl ?_
 refine zC ?_
 refine zA ?_
 refine XO_nil (at_then ?_)
 refine X_ret ?_
 first
 | exact at_ret1 rfl rfl (fun w hw => ⟨by rw [← idx_any], hw.drop⟩)
theorem w_own {I : HMap} {b : Nat} {av : Option Addr} {n c : Nat} {xs : List Int} (hc : Cell I [] b 0 (.slice av n c)) (hS : Sl I 1 encI av n c xs) (hn : n ≤ 100000) (s : Int) : RetV Tryd.prog 76 [.int .i64 s, capP b] I (.bool (ownS xs s)) := by
 intro g H w hw
 refine enter Tryd.func76 rfl Tryd.ntmps76 rfl hw ?_
 refine X_seq (X_region ?_)
 refine zA ?_
 refine XO_nil (at_then (X_seq (X_region ?_)))
 refine zM ?_
 refine XO_callV0 (cap := []) (vs := [_]) rfl rfl fun_77 (w_single I _) rfl rfl ?_
 refine zM ?_
 refine XO_pushF 2 rfl rfl rfl ?_
 refine XO_v1 (ev_load rfl sct_23 (fun hg => by exact hc.any)) (.some rfl rfl rfl rfl gbf) rfl rfl rfl ?_
 refine XO_v1 (ev_move rfl) (.some rfl rfl rfl rfl gbf) rfl rfl rfl ?_
 refine XO_callV1 (cap := []) (vs := [_, _]) rfl rfl fun_40 (fun hg => w_contains hS hn _) (.some rfl rfl rfl rfl gbf) rfl rfl ?_
 refine XO_or0 rfl rfl rfl rfl rfl ?_
 refine zA ?_
 refine XO_nil (at_then ?_)
 refine X_ret ?_
 exact at_ret1 rfl rfl (fun w hw => ⟨by first | rfl | simp_all, hw.drop⟩)
end Go.Proofs.YthcffaheamikgaaDoor
end
section
namespace Go.Proofs.YthcffaheamikgaaDoor
open Go Go.Kn Go.Proofs
theorem w_parts {I : HMap} {av : Option Addr} {n c : Nat} {xs : List Int} (hS : Sl I 1 encI av n c xs) (hn : n ≤ 100000) (s : Int) (hs : 1 ≤ s ∧ s ≤ 63) : RetV Tryd.prog 48 [.slice av n c, .int .i64 s] I (.tuple #[.int .i64 (partA xs s), .int .i64 (partB xs s), .bool (partF xs s).isSome]) := by
 intro g H w hw
 refine enter Tryd.func48 rfl Tryd.ntmps48 rfl hw ?_
 have hIc := HLe.refl I
 refine X_seq (X_region ?_)
 refine XO_box rfl rfl rfl (fun b_2 => ?_)
 refine zA ?_
 refine zA ?_
 refine zA ?_
 refine XO_nil (at_then ?_)
 refine X_seq ?_
 refine X_freeze .here (fun I1 hI1 hb1 => ?_)
 have hS := hS.mono hI1
 have hIc := hIc.trans hI1
 have hbx := hb1
 refine X_region ?_
 refine XO_v0 (ev_makeFunc (us := []) (vs := [_]) rfl rfl) rfl rfl rfl ?_
 refine zA ?_
 refine XO_nil (at_then ?_)
 refine X_seq ?_
 refine X_seq (X_region ?_)
 refine zM ?_
 refine XO_v0 (ev_ar rfl rfl rfl) rfl rfl rfl ?_
 refine zM ?_
 refine XO_v0 (ev_and rfl rfl) rfl rfl rfl ?_
 refine zA ?_
 refine XO_nil ?_
 have hn0 := next_in (a := s) (s := s) (by omega) (by omega)
 refine at_then ?_
 refine X_block ?_
 refine X_loopT [(1, _), (7, _)] (.cons rfl (.cons rfl .nil)) (fun T L0 mz E I' loc' => ∃ (a : Int) (f : Nat), mz = a.toNat ∧ E = (8, .int .i64 a) :: T ∧ I1 = I' ∧ L0 = loc' ∧ 0 ≤ a ∧ a ≤ 63 ∧ a.toNat < f ∧ partF xs s = partR xs s f a) _ _ _ _ ⟨nextS s s, 64, rfl, rfl, rfl, rfl, hn0.1, by omega, by omega, rfl⟩ (.cons rfl (.cons rfl (.cons rfl .nil))) (HLe.refl _) rfl ?_
 rintro mz E I' loc' ⟨a, f, rfl, rfl, rfl, rfl, ha0, ha1, haf, hpf⟩
 refine X_seq ?_
 refine X_seq (X_region ?_)
 refine zM ?_
 refine zC ?_
 refine XO_nil (at_then ?_)
 refine X_cond rfl (fun hc15 => ?_) (fun hc15 => ?_)
 ·
  have ha : a > 0 := by simpa using hc15
  obtain ⟨f, rfl⟩ : ∃ q, f = q + 1 := ⟨f - 1, by omega⟩
  have hna := next_in (a := a) (s := s) (by omega) (by omega)
  have hlt2 : (nextS s a).toNat < a.toNat := by omega
  refine X_skip ?_
  refine at_then ?_
  refine X_seq ?_
  refine X_block ?_
  refine X_seq (X_region ?_)
  refine zM ?_
  refine zM ?_
  refine XO_v0 (ev_neg rfl) rfl rfl rfl ?_
  refine XO_v0 (ev_and rfl rfl) rfl rfl rfl ?_
  refine zM ?_
  refine zM ?_
  refine XO_v0 (ev_neg rfl) rfl rfl rfl ?_
  refine XO_v0 (ev_and rfl rfl) rfl rfl rfl ?_
  refine zC ?_
  refine zM ?_
  refine XO_pushT 9 rfl rfl rfl ?_
  refine XO_v1 (ev_move rfl) (.some rfl rfl rfl rfl gbt) rfl rfl rfl ?_
  refine XO_v1 (ev_move rfl) (.some rfl rfl rfl rfl gbt) rfl rfl rfl ?_
  refine XO_callV1 (cap := [capP b_2]) (vs := [_]) rfl rfl fun_76 (fun hg => w_own (.imm hbx rfl) hS hn _) (.some rfl rfl rfl rfl gbt) rfl rfl ?_
  refine XO_and0 rfl rfl rfl rfl rfl ?_
  refine zM ?_
  refine XO_pushT 14 rfl rfl rfl ?_
  refine XO_v1 (ev_move rfl) (.some rfl rfl rfl rfl gbt) rfl rfl rfl ?_
  refine XO_v1 (ev_move rfl) (.some rfl rfl rfl rfl gbt) rfl rfl rfl ?_
  refine XO_v1 (ev_move rfl) (.some rfl rfl rfl rfl gbt) rfl rfl rfl ?_
  refine XO_v1 (ev_andNot rfl rfl) (.some rfl rfl rfl rfl gbt) rfl rfl rfl ?_
  refine XO_callV1 (cap := [capP b_2]) (vs := [_]) rfl rfl fun_76 (fun hg => w_own (.imm hbx rfl) hS hn _) (.some rfl rfl rfl rfl gbt) rfl rfl ?_
  refine XO_and0 rfl rfl rfl rfl rfl ?_
  refine XO_nil (at_then ?_)
  refine X_cond rfl (fun hc40 => ?_) (fun hc40 => ?_)
  ·
   have hv : partF xs s = some a := by rw [hpf, partR_hit ha (by unfold partP lowS; simpa using hc40)]
   refine X_seq (X_region ?_)
   refine zM ?_
   refine zM ?_
   refine zM ?_
   refine XO_v0 (ev_andNot rfl rfl) rfl rfl rfl ?_
   refine zA ?_
   refine zA ?_
   refine zA ?_
   refine XO_nil (at_then ?_)
   refine X_ret ?_
   refine at_block_r ?_
   refine at_then_r ?_
   refine at_then_r ?_
   refine at_block_r ?_
   refine at_then_r ?_
   exact at_ret3 rfl rfl rfl rfl (fun w hw => ⟨by unfold partA partB; rw [hv]; rfl, (hw.mono hIc).drop⟩)
  ·
   have hpf2 : partF xs s = partR xs s f (nextS s a) := by rw [hpf, partR_miss ha (by unfold partP lowS; simpa using hc40)]
   refine X_skip ?_
   refine at_block_n ?_
   refine at_then ?_
   refine X_region ?_
   refine zM ?_
   refine XO_v0 (ev_ar rfl rfl rfl) rfl rfl rfl ?_
   refine zM ?_
   refine XO_v0 (ev_and rfl rfl) rfl rfl rfl ?_
   refine zA ?_
   refine XO_nil ?_
   exact at_met2 _ _ ⟨_, hlt2, nextS s a, f, rfl, rfl, rfl, rfl, hna.1, by omega, by omega, hpf2⟩ (.cons rfl (.cons rfl (.cons rfl .nil))) (by repeat (first | exact .refl | exact subL_left | refine subL_app ?_ | refine .drop ?_ | refine subL_add ?_))
 ·
  have ha : ¬ a > 0 := by simpa using hc15
  have hv : partF xs s = none := by rw [hpf, partR_end ha]
  refine X_exit ?_
  refine at_then_e ?_
  refine at_then_e ?_
  refine at_block_hit ?_
  refine at_then ?_
  refine X_seq (X_region ?_)
  refine zA ?_
  refine zA ?_
  refine zA ?_
  refine XO_nil (at_then ?_)
  refine X_ret ?_
  exact at_ret3 rfl rfl rfl rfl (fun w hw => ⟨by unfold partA partB; rw [hv]; rfl, (hw.mono hIc).drop⟩)
end Go.Proofs.YthcffaheamikgaaDoor
end
section
namespace Go.Proofs.YthcffaheamikgaaDoor
open Go Go.Kn Go.Proofs
/-- The sets within s, from a downwards. -/
def subR (s : Int) : Nat → Int → List Int
  | 0, _ => []
  | f + 1, a => if decide (a > 0) then a :: subR s f (nextS s a) else []
theorem partR_find {cl : List Int} {s : Int} : ∀ (f : Nat) (a : Int), partR cl s f a = (subR s f a).find? (partP cl s)
  | 0, _ => rfl
  | f + 1, a => by
    unfold partR subR
    split
    · rw [List.find?_cons, partR_find f]
      cases partP cl s a <;> rfl
    · rfl
def subT (s : Nat) : List Int := ((List.range' 1 (s - 1)).map (fun k : Nat => (k : Int))).filter (fun a => andI a s == a)
theorem sub_tab : ((List.range 64).all fun s => decide (subR (s : Int) 64 (nextS s s) = (subT s).reverse) && (subT s).all (fun a => lessI s a == s - a)) = true := by kernel_rfl
theorem part_eq {cl : List Int} {s a : Int} (h1 : andI a s = a) (h2 : lessI s a = s - a) : partP cl s a = splitP cl s a := by
  have hown : ∀ x, ownS cl x = hasS cl x := fun x => by
    unfold ownS hasS
    rw [Bool.or_comm]
    congr 1
    congr 1
    funext y
    exact Bool.eq_iff_iff.2 (by simp; exact eq_comm)
  unfold partP splitP
  rw [h1, h2, hown, hown]
  simp
/-- A clade has parts for the one exactly if it has for the other. -/
theorem part_some {cl : List Int} {s : Int} (hs : 1 ≤ s ∧ s ≤ 63) : (partF cl s).isSome = !(splitF cl s == 0) := by
  obtain ⟨n, rfl⟩ : ∃ n : Nat, s = (n : Int) := ⟨s.toNat, by omega⟩
  have ht := List.all_eq_true.1 sub_tab n (List.mem_range.2 (by omega))
  rw [Bool.and_eq_true, decide_eq_true_eq] at ht
  have hl := List.all_eq_true.1 ht.2
  have e1 : (partF cl n).isSome = (subT n).any (partP cl n) := by
    unfold partF
    rw [partR_find, ht.1]
    exact Bool.eq_iff_iff.2 (by rw [List.find?_isSome, List.any_eq_true]; simp)
  have e2 : (subT n).any (partP cl n) = (List.range' 1 (n - 1)).any (fun k : Nat => splitP cl n k) := by
    unfold subT at hl ⊢
    rw [Bool.eq_iff_iff, List.any_eq_true, List.any_eq_true]
    constructor
    · rintro ⟨a, ha, hp⟩
      have hla := hl a ha
      rw [List.mem_filter, List.mem_map] at ha
      obtain ⟨⟨k, hk, rfl⟩, h2⟩ := ha
      exact ⟨k, hk, by rw [← part_eq (by simpa using h2) (by simpa using hla)]; exact hp⟩
    · rintro ⟨k, hk, hp⟩
      have h2 : andI (k : Int) n = k := by
        unfold splitP at hp
        simp only [Bool.and_eq_true, beq_iff_eq] at hp
        exact hp.1.1.1
      have hm : (k : Int) ∈ ((List.range' 1 (n - 1)).map (fun k : Nat => (k : Int))).filter (fun a => andI a n == a) := List.mem_filter.2 ⟨List.mem_map.2 ⟨k, hk, rfl⟩, by simpa using h2⟩
      exact ⟨k, hm, by rw [part_eq h2 (by simpa using hl _ hm)]; exact hp⟩
  rw [e1, e2]
  unfold splitF splitR
  rw [show (n : Int).toNat - 1 = n - 1 by omega]
  cases e : (List.range' 1 (n - 1)).find? (fun k : Nat => splitP cl n k) with
  | none =>
    rw [List.find?_eq_none] at e
    simp only [beq_self_eq_true, Bool.not_true]
    rw [List.any_eq_false]
    exact e
  | some k =>
    have hk := List.mem_of_find?_eq_some e
    have hp := List.find?_some e
    rw [List.mem_range'] at hk
    obtain ⟨i, hi, e3⟩ := hk
    have : ((k : Int) == 0) = false := beq_false_of_ne (by omega)
    simp only [this, Bool.not_false]
    exact List.any_eq_true.2 ⟨k, List.mem_of_find?_eq_some e, hp⟩
/-- The number before: 0 at first. -/
def lastC (xs : List Int) (k : Nat) (l : Int) : Prop := (k = 0 → l = 0) ∧ ∀ y, xs[k - 1]? = some y → k ≠ 0 → l = y ∧ 1 ≤ y
theorem clade_at {xs : List Int} {k : Nat} {x l b : Int} (hx : xs[k]? = some x) (hl : lastC xs k l) : cladeP (b - 1) xs k = !(decide (x ≤ l) || decide (x ≥ b)) := by
  unfold cladeP
  rw [getD_of hx]
  cases k with
  | zero =>
    rw [hl.1 rfl]
    simp only [show decide (((0 : Nat) : Int) > 0) = false from rfl, Bool.false_and, Bool.or_false]
    congr 1
    rw [Bool.eq_iff_iff]
    simp
    omega
  | succ k =>
    have hk := (List.getElem?_eq_some_iff.1 hx).1
    have hy : xs[k]? = some (xs[k]'(by omega)) := List.getElem?_eq_getElem _
    obtain ⟨e, h1⟩ := hl.2 _ (by rw [Nat.add_sub_cancel]; exact hy) (by omega)
    rw [show (((k + 1 : Nat) : Int) - 1).toNat = k by omega, getD_of hy, ← e]
    rw [← e] at h1
    congr 1
    rw [Bool.eq_iff_iff]
    simp
    omega
theorem lastC_step {xs : List Int} {k : Nat} {x l : Int} (hx : xs[k]? = some x) (hl : lastC xs k l) (h : l < x) (h0 : 0 ≤ l) : lastC xs (k + 1) x :=
  ⟨fun h => by omega, fun y hy _ => by rw [Nat.add_sub_cancel, hx] at hy; cases hy; exact ⟨rfl, by omega⟩⟩
theorem lastC_end {xs : List Int} {k : Nat} {l m : Int} (hl : lastC xs k l) (hk : xs.length = k) (hm : (xs.length : Int) = m - 1) (h1 : m > 1) : xs.getD (m - 2).toNat 0 = l := by
  have hk0 : k ≠ 0 := by omega
  have hy : xs[k - 1]? = some (xs[k - 1]'(by omega)) := List.getElem?_eq_getElem _
  rw [show (m - 2).toNat = k - 1 by omega, getD_of hy, (hl.2 _ hy hk0).1]
/-- What Parts answers. -/
def iA (m : Int) (cl : List Int) (s : Int) : Int := if partsE m cl s ≠ 0 then 0 else partA cl s
def iB (m : Int) (cl : List Int) (s : Int) : Int := if partsE m cl s ≠ 0 then 0 else partB cl s
theorem iA_bad {m : Int} {cl : List Int} {s : Int} (h : partsE m cl s ≠ 0) : iA m cl s = 0 ∧ iB m cl s = 0 := by unfold iA iB; rw [if_pos h, if_pos h]; exact ⟨rfl, rfl⟩
theorem iA_ok {m : Int} {cl : List Int} {s : Int} (h : partsE m cl s = 0) : iA m cl s = partA cl s ∧ iB m cl s = partB cl s := by unfold iA iB; rw [if_neg (by omega), if_neg (by omega)]; exact ⟨rfl, rfl⟩
theorem any_sym {cl : List Int} {s : Int} : cl.any (fun y => s == y) = cl.any (fun c => c == s) := by
  congr 1
  funext y
  exact Bool.eq_iff_iff.2 (by simp; exact eq_comm)
end Go.Proofs.YthcffaheamikgaaDoor
end
section
namespace Go.Proofs.YthcffaheamikgaaDoor
open Go Go.Kn Go.Proofs
theorem w_check {I : HMap} {av : Option Addr} {n c : Nat} {xs : List Int} (hS : Sl I 1 encI av n c xs) (m : Int) : RetV Tryd.prog 29 [.int .i64 m, .slice av n c] I (.int .i64 (chkN m xs)) := by
 intro g H w hw
 refine enter Tryd.func29 rfl Tryd.ntmps29 rfl hw ?_
 refine X_seq (X_region ?_)
 refine zA ?_
 refine XO_nil (at_then ?_)
 refine X_seq ?_
 refine X_block ?_
 refine X_seq (X_region ?_)
 refine zM ?_
 refine zC ?_
 refine zA ?_
 refine XO_nil (at_then ?_)
 refine X_cond rfl (fun hc13 => ?_) (fun hc13 => ?_)
 ·
  have h6 : m > 6 := by simpa using hc13
  refine X_seq (X_region ?_)
  refine zA ?_
  refine XO_nil (at_then ?_)
  refine X_ret ?_
  refine at_block_r ?_
  refine at_then_r ?_
  exact at_ret1 rfl rfl (fun w hw => ⟨by rw [chkN_1 h6], hw.drop⟩)
 ·
  have h6 : ¬ m > 6 := by simpa using hc13
  refine X_seq (X_region ?_)
  refine zM ?_
  refine zC ?_
  refine zM ?_
  refine XO_pushF 2 rfl rfl rfl ?_
  refine XO_v1 (ev_move rfl) (.some rfl rfl rfl rfl gbf) rfl rfl rfl ?_
  refine XO_v1 (ev_lenS rfl slt_23) (.some rfl rfl rfl rfl gbf) rfl rfl rfl ?_
  refine XO_v1 (ev_move rfl) (.some rfl rfl rfl rfl gbf) rfl rfl rfl ?_
  refine XO_v1 (ev_arB rfl rfl rfl (fun hg => by first | omega | (simp [conj] at hg; omega))) (.some rfl rfl rfl rfl gbf) rfl rfl rfl ?_
  refine XO_v1 (ev_cmp rfl rfl rfl) (.some rfl rfl rfl rfl gbf) rfl rfl rfl ?_
  refine XO_or0 rfl rfl rfl rfl rfl ?_
  refine zA ?_
  refine XO_nil (at_then ?_)
  refine X_cond rfl (fun hc16 => ?_) (fun hc16 => ?_)
  ·
   have h18 : (decide (m < 1) || decide ((xs.length : Int) ≠ m - 1)) = true := by rw [hS.len]; simpa using hc16
   refine X_seq (X_region ?_)
   refine zA ?_
   refine XO_nil (at_then ?_)
   refine X_ret ?_
   refine at_block_r ?_
   refine at_then_r ?_
   exact at_ret1 rfl rfl (fun w hw => ⟨by rw [chkN_2 h6 h18], hw.drop⟩)
  ·
   have h18 : (decide (m < 1) || decide ((xs.length : Int) ≠ m - 1)) = false := by rw [hS.len]; simpa using hc16
   have hm : 1 ≤ m ∧ m ≤ 6 ∧ (n : Int) = m - 1 := by rw [hS.len] at h18; simp at h18; omega
   have hn : n ≤ 100000 := by omega
   have hsh := shl_in ⟨hm.1, hm.2.1⟩
   have hal := all_in ⟨hm.1, hm.2.1⟩
   refine X_skip ?_
   refine at_block_n ?_
   refine at_then ?_
   refine X_seq (X_region ?_)
   refine zA ?_
   refine XO_nil (at_then ?_)
   refine X_seq ?_
   refine X_seq (X_region ?_)
   refine zM ?_
   refine XO_v0 (ev_lenS rfl slt_23) rfl rfl rfl ?_
   refine zM ?_
   refine XO_nil (at_then ?_)
   refine X_block ?_
   refine X_loopT [(0, _), (1, _), (26, _), (27, _)] (.cons rfl (.cons rfl (.cons rfl (.cons rfl .nil)))) (fun T L0 mz E I' loc' => ∃ (k : Nat) (l : Int), mz = n - k ∧ E = (5, .int .i64 l) :: (28, .int .i64 k) :: T ∧ I = I' ∧ L0 = loc' ∧ k ≤ n ∧ (List.range k).all (cladeP (allS m) xs) = true ∧ lastC xs k l ∧ 0 ≤ l) _ _ _ _ ⟨0, 0, rfl, rfl, rfl, rfl, Nat.zero_le _, rfl, ⟨fun _ => rfl, fun _ _ h => absurd rfl h⟩, Int.le_refl _⟩ (.cons rfl (.cons rfl (.cons rfl (.cons rfl (.cons rfl (.cons rfl .nil)))))) (HLe.refl _) rfl ?_
   rintro mz E I' loc' ⟨k, l, rfl, rfl, rfl, rfl, hk, hall, hl, hl0⟩
   refine X_seq (X_region ?_)
   refine zC ?_
   refine XO_nil (at_then ?_)
   refine X_seq ?_
   refine X_cond rfl (fun hc29 => ?_) (fun hc29 => ?_)
   ·
    have hlt_k : k < n := by have h := hc29; simp at h; omega
    obtain ⟨x, hx⟩ := hS.at hlt_k
    refine X_skip ?_
    refine at_then ?_
    refine X_seq ?_
    refine X_block ?_
    refine X_seq (X_region ?_)
    refine XO_v0 (ev_indexSl rfl rfl slt_23 (by assumption) (fun hg => by first | omega | (simp [conj] at hg; omega))) rfl rfl rfl ?_
    refine XO_v0 (ev_load rfl sct_3 (fun hg => by exact Sl.get0 hS hx rfl)) rfl rfl rfl ?_
    refine zA ?_
    refine XO_nil (at_then ?_)
    refine X_seq ?_
    refine X_seq (X_region ?_)
    refine zM ?_
    refine zM ?_
    refine zC ?_
    refine zM ?_
    refine XO_pushF 3 rfl rfl rfl ?_
    refine XO_v1 (ev_move rfl) (.some rfl rfl rfl rfl gbf) rfl rfl rfl ?_
    refine XO_v1 (ev_move rfl) (.some rfl rfl rfl rfl gbf) rfl rfl rfl ?_
    refine XO_v1 (ev_shl rfl rfl (fun hg => by first | omega | (simp [conj] at hg; omega))) (.some rfl rfl rfl rfl gbf) rfl rfl rfl ?_
    refine XO_v1 (ev_cmp rfl rfl rfl) (.some rfl rfl rfl rfl gbf) rfl rfl rfl ?_
    refine XO_or0 rfl rfl rfl rfl rfl ?_
    refine XO_nil (at_then ?_)
    refine X_cond rfl (fun hc40 => ?_) (fun hc40 => ?_)
    ·
     refine X_seq (X_region ?_)
     refine zA ?_
     refine XO_nil (at_then ?_)
     refine X_ret ?_
     refine at_then_r ?_
     refine at_block_r ?_
     refine at_then_r ?_
     refine at_then_r ?_
     refine at_block_r ?_
     refine at_then_r ?_
     first
     | exact at_ret1 rfl rfl (fun w hw => ⟨by rw [chkN_3 h6 h18 (by rw [hS.len]; exact range_bad hlt_k (by unfold allS; rw [clade_at hx hl, hc40]; rfl))], hw.drop⟩)
    ·
     have hlx : l < x := by simp at hc40; omega
     refine X_skip ?_
     refine at_then ?_
     refine X_region ?_
     refine zM ?_
     refine zA ?_
     refine XO_nil ?_
     refine at_block_n ?_
     refine at_then ?_
     refine X_region ?_
     refine zB ?_
     refine zM ?_
     refine XO_nil ?_
     exact at_met2 _ _ ⟨n - (k + 1), by omega, k + 1, x, rfl, rfl, rfl, rfl, by omega, range_step hall (by unfold allS; rw [clade_at hx hl, hc40]; rfl), lastC_step hx hl hlx hl0, by omega⟩ (.cons rfl (.cons rfl (.cons rfl (.cons rfl (.cons rfl (.cons rfl .nil)))))) (by repeat (first | exact .refl | exact subL_left | refine subL_app ?_ | refine .drop ?_ | refine subL_add ?_))
   ·
    have hge_k : n ≤ k := by have h := hc29; simp at h; omega
    have hall0 : (List.range xs.length).all (cladeP (allS m) xs) = true := by rw [hS.len, show n = k by omega]; exact hall
    have hnk : n = k := by omega
    refine X_exit ?_
    refine at_then_e ?_
    refine at_then_e ?_
    refine at_block_hit ?_
    refine at_then ?_
    refine X_seq ?_
    refine X_seq (X_region ?_)
    refine zM ?_
    refine zC ?_
    refine zM ?_
    refine XO_pushT 2 rfl rfl rfl ?_
    refine XO_v1 (ev_move rfl) (.some rfl rfl rfl rfl gbt) rfl rfl rfl ?_
    refine XO_v1 (ev_move rfl) (.some rfl rfl rfl rfl gbt) rfl rfl rfl ?_
    refine XO_v1 (ev_shl rfl rfl (fun hg => by first | omega | (simp [conj] at hg; omega))) (.some rfl rfl rfl rfl gbt) rfl rfl rfl ?_
    refine XO_v1 (ev_arB rfl rfl rfl (fun hg => by first | omega | (simp [conj] at hg; omega))) (.some rfl rfl rfl rfl gbt) rfl rfl rfl ?_
    refine XO_v1 (ev_cmp rfl rfl rfl) (.some rfl rfl rfl rfl gbt) rfl rfl rfl ?_
    refine XO_and0 rfl rfl rfl rfl rfl ?_
    refine XO_nil (at_then ?_)
    refine X_cond rfl (fun hc51 => ?_) (fun hc51 => ?_)
    ·
     have h67 : (decide (m > 1) && decide (xs.getD (m - 2).toNat 0 ≠ allS m)) = true := by have h := hc51; simp only [Bool.and_eq_true, decide_eq_true_eq] at h; rw [lastC_end hl (by rw [hS.len]; exact hnk) (by rw [hS.len]; exact hm.2.2) h.1]; unfold allS; simpa using hc51
     refine X_seq (X_region ?_)
     refine zA ?_
     refine XO_nil (at_then ?_)
     refine X_ret ?_
     refine at_then_r ?_
     exact at_ret1 rfl rfl (fun w hw => ⟨by rw [chkN_4 h6 h18 hall0 h67], hw.drop⟩)
    ·
     have h67 : (decide (m > 1) && decide (xs.getD (m - 2).toNat 0 ≠ allS m)) = false := (Decidable.em (m > 1)).elim (fun h1 => by rw [lastC_end hl (by rw [hS.len]; exact hnk) (by rw [hS.len]; exact hm.2.2) h1]; unfold allS; simpa using hc51) (fun h1 => by rw [decide_eq_false h1]; rfl)
     refine X_skip ?_
     refine at_then ?_
     refine X_seq ?_
     refine X_seq (X_region ?_)
     refine zM ?_
     refine XO_v0 (ev_lenS rfl slt_23) rfl rfl rfl ?_
     refine zM ?_
     refine XO_nil (at_then ?_)
     refine X_block ?_
     refine X_loopT [(1, _), (52, _), (53, _)] (.cons rfl (.cons rfl (.cons rfl .nil))) (fun T L0 mz E I' loc' => ∃ (k : Nat), mz = n - k ∧ E = (54, .int .i64 k) :: T ∧ I = I' ∧ L0 = loc' ∧ k ≤ n ∧ (xs.take k).any (fun c => splitF xs c == 0) = false) _ _ _ _ ⟨0, rfl, rfl, rfl, rfl, Nat.zero_le _, rfl⟩ (.cons rfl (.cons rfl (.cons rfl (.cons rfl .nil)))) (HLe.refl _) rfl ?_
     rintro mz E I' loc' ⟨k, rfl, rfl, rfl, rfl, hk, hno⟩
     refine X_seq (X_region ?_)
     refine zC ?_
     refine XO_nil (at_then ?_)
     refine X_seq ?_
     refine X_cond rfl (fun hc55 => ?_) (fun hc55 => ?_)
     ·
      have hlt_k : k < n := by have h := hc55; simp at h; omega
      obtain ⟨x, hx⟩ := hS.at hlt_k
      have hxa := clade_le hall0 hx
      have hps := part_some (cl := xs) (s := x) (by omega)
      refine X_skip ?_
      refine at_then ?_
      refine X_seq ?_
      refine X_block ?_
      refine X_seq (X_region ?_)
      refine XO_v0 (ev_indexSl rfl rfl slt_23 (by assumption) (fun hg => by first | omega | (simp [conj] at hg; omega))) rfl rfl rfl ?_
      refine XO_v0 (ev_load rfl sct_3 (fun hg => by exact Sl.get0 hS hx rfl)) rfl rfl rfl ?_
      refine zA ?_
      refine XO_nil (at_then (X_seq (X_region ?_)))
      refine zM ?_
      refine zM ?_
      refine XO_callV0 (cap := []) (vs := [_, _]) rfl rfl fun_48 (w_parts hS hn x (by omega)) rfl rfl ?_
      refine zM ?_
      refine XO_v0 (ev_extract rfl rfl) rfl rfl rfl ?_
      refine XO_v0 (ev_extract rfl rfl) rfl rfl rfl ?_
      refine XO_v0 (ev_extract rfl rfl) rfl rfl rfl ?_
      refine zA ?_
      refine zA ?_
      refine zA ?_
      refine XO_nil (at_then (X_seq (X_region ?_)))
      refine zM ?_
      refine XO_v0 (ev_not rfl) rfl rfl rfl ?_
      refine XO_nil (at_then ?_)
      refine X_cond rfl (fun hc66 => ?_) (fun hc66 => ?_)
      ·
       have hsp : (splitF xs x == 0) = true := by rw [hps] at hc66; simpa using hc66
       refine X_seq (X_region ?_)
       refine zA ?_
       refine XO_nil (at_then ?_)
       refine X_ret ?_
       refine at_block_r ?_
       refine at_then_r ?_
       refine at_then_r ?_
       refine at_block_r ?_
       refine at_then_r ?_
       first
       | exact at_ret1 rfl rfl (fun w hw => ⟨by rw [chkN_5 h6 h18 hall0 h67, any_yes hx hsp]; rfl, hw.drop⟩)
      ·
       have hsp : (splitF xs x == 0) = false := by rw [hps] at hc66; simpa using hc66
       refine X_skip ?_
       refine at_block_n ?_
       refine at_then ?_
       refine X_region ?_
       refine zB ?_
       refine zM ?_
       refine XO_nil ?_
       exact at_met2 _ _ ⟨n - (k + 1), by omega, k + 1, rfl, rfl, rfl, rfl, by omega, any_no hx hno hsp⟩ (.cons rfl (.cons rfl (.cons rfl (.cons rfl .nil)))) (by repeat (first | exact .refl | exact subL_left | refine subL_app ?_ | refine .drop ?_ | refine subL_add ?_))
     ·
      have hge_k : n ≤ k := by have h := hc55; simp at h; omega
      rw [take_all hS.len hge_k] at hno
      refine X_exit ?_
      refine at_then_e ?_
      refine at_then_e ?_
      refine at_block_hit ?_
      refine at_then ?_
      refine X_seq (X_region ?_)
      refine zA ?_
      refine XO_nil (at_then ?_)
      refine X_ret ?_
      first
      | exact at_ret1 rfl rfl (fun w hw => ⟨by rw [chkN_5 h6 h18 hall0 h67, hno]; rfl, hw.drop⟩)
end Go.Proofs.YthcffaheamikgaaDoor
end
section
namespace Go.Proofs.YthcffaheamikgaaDoor
open Go Go.Kn Go.Proofs
theorem w_Parts {I : HMap} {av : Option Addr} {n c : Nat} {xs : List Int} (hS : Sl I 1 encI av n c xs) (hn : n ≤ 100000) (m s : Int) : RetV Tryd.prog 25 [.int .i64 m, .slice av n c, .int .i64 s] I (.tuple #[.int .i64 (iA m xs s), .int .i64 (iB m xs s), .int .i64 (partsE m xs s)]) := by
 intro g H w hw
 refine enter Tryd.func25 rfl Tryd.ntmps25 rfl hw ?_
 refine X_seq (X_region ?_)
 refine zA ?_
 refine zA ?_
 refine zA ?_
 refine XO_nil (at_then ?_)
 refine X_seq ?_
 refine X_seq (X_region ?_)
 refine zM ?_
 refine zM ?_
 refine XO_callV0 (cap := []) (vs := [_, _]) rfl rfl fun_29 (w_check hS _) rfl rfl ?_
 refine zA ?_
 refine XO_nil (at_then (X_seq (X_region ?_)))
 refine zM ?_
 refine zC ?_
 refine XO_nil (at_then ?_)
 refine X_cond rfl (fun hc13 => ?_) (fun hc13 => ?_)
 ·
  have hb := partsE_chk (s := s) (show chkN m xs ≠ 0 by simpa using hc13)
  have hb2 := iA_bad (show partsE m xs s ≠ 0 by rw [hb]; simpa using hc13)
  refine X_seq (X_region ?_)
  refine zM ?_
  refine zA ?_
  refine zA ?_
  refine zA ?_
  refine XO_nil (at_then ?_)
  refine X_ret ?_
  refine at_then_r ?_
  exact at_ret3 rfl rfl rfl rfl (fun w hw => ⟨by rw [hb2.1, hb2.2, hb], hw.drop⟩)
 ·
  have hc0 : chkN m xs = 0 := by simpa using hc13
  refine X_skip ?_
  refine at_then ?_
  refine X_seq ?_
  refine X_seq (X_region ?_)
  refine zM ?_
  refine zM ?_
  refine XO_callV0 (cap := []) (vs := [_, _]) rfl rfl fun_40 (w_contains hS hn _) rfl rfl ?_
  refine XO_v0 (ev_not rfl) rfl rfl rfl ?_
  refine XO_nil (at_then ?_)
  refine X_cond rfl (fun hc18 => ?_) (fun hc18 => ?_)
  ·
   have hb := partsE_none (s := s) hc0 (by rw [← any_sym]; simpa using hc18)
   have hb2 := iA_bad (show partsE m xs s ≠ 0 by rw [hb]; decide)
   refine X_seq (X_region ?_)
   refine zA ?_
   refine zA ?_
   refine zA ?_
   refine XO_nil (at_then ?_)
   refine X_ret ?_
   refine at_then_r ?_
   exact at_ret3 rfl rfl rfl rfl (fun w hw => ⟨by rw [hb2.1, hb2.2, hb], hw.drop⟩)
  ·
   have hin : xs.any (fun c => c == s) = true := by rw [← any_sym]; simpa using hc18
   have hb := partsE_ok hc0 hin
   have hb2 := iA_ok hb
   have hs := (chkN_ok hc0).2.2.2 s (by simpa using hin)
   refine X_skip ?_
   refine at_then ?_
   refine X_seq (X_region ?_)
   refine zM ?_
   refine zM ?_
   refine XO_callV0 (cap := []) (vs := [_, _]) rfl rfl fun_48 (w_parts hS hn s (by omega)) rfl rfl ?_
   refine zM ?_
   refine XO_v0 (ev_extract rfl rfl) rfl rfl rfl ?_
   refine XO_v0 (ev_extract rfl rfl) rfl rfl rfl ?_
   refine XO_v0 (ev_extract rfl rfl) rfl rfl rfl ?_
   refine zA ?_
   refine zA ?_
   refine XO_nil (at_then (X_seq (X_region ?_)))
   refine zM ?_
   refine zM ?_
   refine zA ?_
   refine zA ?_
   refine zA ?_
   refine XO_nil (at_then ?_)
   refine X_ret ?_
   first
   | exact at_ret3 rfl rfl rfl rfl (fun w hw => ⟨by rw [hb2.1, hb2.2, hb]; rfl, hw.drop⟩)
theorem w_long (I : HMap) (a : Option Addr) (n c : Nat) : RetV Tryd.prog 49 [.slice a n c] I (.bool (decide ((n : Int) > 64))) := by
 intro g H w hw
 refine enter Tryd.func49 rfl Tryd.ntmps49 rfl hw ?_
 refine X_seq (X_region ?_)
 refine zA ?_
 refine XO_nil (at_then (X_seq (X_region ?_)))
 refine zM ?_
 refine XO_v0 (ev_lenS rfl slt_23) rfl rfl rfl ?_
 refine zC ?_
 refine zA ?_
 refine XO_nil (at_then ?_)
 refine X_ret ?_
 exact at_ret1 rfl rfl (fun w hw => ⟨by first | rfl | simp_all, hw.drop⟩)
theorem w_state (I : HMap) (v : Int) : RetV Tryd.prog 51 [.int .i64 v] I (.bool (decide (v < 0) || decide (v > 8589934592))) := by
 intro g H w hw
 refine enter Tryd.func51 rfl Tryd.ntmps51 rfl hw ?_
 refine X_seq (X_region ?_)
 refine zA ?_
 refine XO_nil (at_then (X_seq (X_region ?_)))
 refine zM ?_
 refine zC ?_
 refine zM ?_
 refine XO_pushF 2 rfl rfl rfl ?_
 refine XO_v1 (ev_move rfl) (.some rfl rfl rfl rfl gbf) rfl rfl rfl ?_
 refine XO_v1 (ev_cmp rfl rfl rfl) (.some rfl rfl rfl rfl gbf) rfl rfl rfl ?_
 refine XO_or0 rfl rfl rfl rfl rfl ?_
 refine zA ?_
 refine XO_nil (at_then ?_)
 refine X_ret ?_
 exact at_ret1 rfl rfl (fun w hw => ⟨by first | rfl | simp_all, hw.drop⟩)
theorem w_indexF {I : HMap} {bv : Option Addr} {n2 c2 : Nat} {hs : List Hd} (hH : Sl I 1 encH bv n2 c2 hs) (hn : n2 ≤ 100000) : RetV Tryd.prog 59 [.slice bv n2 c2, .func (.func 49) #[] #[]] I (.int .i64 (idxF (fun h : Hd => decide ((h.n : Int) > 64)) hs)) := by
 intro g H w hw
 refine enter Tryd.func59 rfl Tryd.ntmps59 rfl hw ?_
 refine X_seq (X_region ?_)
 refine zA ?_
 refine XO_nil (at_then ?_)
 refine X_seq ?_
 refine X_seq (X_region ?_)
 refine zM ?_
 refine XO_v0 (ev_lenS rfl slt_22) rfl rfl rfl ?_
 refine zM ?_
 refine XO_nil (at_then ?_)
 refine X_block ?_
 refine X_loopT [(0, _), (1, _), (7, _)] (.cons rfl (.cons rfl (.cons rfl .nil))) (fun T L0 mz E I' loc' => ∃ (k : Nat), mz = n2 - k ∧ E = (8, .int .i64 k) :: T ∧ I = I' ∧ L0 = loc' ∧ k ≤ n2 ∧ (hs.take k).any (fun h : Hd => decide ((h.n : Int) > 64)) = false) _ _ _ _ ⟨0, rfl, rfl, rfl, rfl, Nat.zero_le _, rfl⟩ (.cons rfl (.cons rfl (.cons rfl (.cons rfl .nil)))) (HLe.refl _) rfl ?_
 rintro mz E I' loc' ⟨k, rfl, rfl, rfl, rfl, hk, hno⟩
 refine X_seq (X_region ?_)
 refine zC ?_
 refine XO_nil (at_then ?_)
 refine X_seq ?_
 refine X_cond rfl (fun hc9 => ?_) (fun hc9 => ?_)
 ·
  have hlt_k : k < n2 := by have h := hc9; simp at h; omega
  obtain ⟨x, hx⟩ := hH.at hlt_k
  refine X_skip ?_
  refine at_then ?_
  refine X_seq ?_
  refine X_block ?_
  refine X_seq (X_region ?_)
  refine zM ?_
  refine zA ?_
  refine XO_nil (at_then (X_seq (X_region ?_)))
  refine zM ?_
  refine zM ?_
  refine zM ?_
  refine XO_v0 (ev_indexSl rfl rfl slt_22 (by assumption) (fun hg => by first | omega | (simp [conj] at hg; omega))) rfl rfl rfl ?_
  refine XO_v0 (ev_load rfl sct_23 (fun hg => by exact Sl.get0 hH hx rfl)) rfl rfl rfl ?_
  refine XO_callV0 (cap := []) (vs := [_]) rfl rfl fun_49 (w_long I x.a x.n x.c) rfl rfl ?_
  refine XO_nil (at_then ?_)
  refine X_cond rfl (fun hc16 => ?_) (fun hc16 => ?_)
  ·
   refine X_seq (X_region ?_)
   refine zM ?_
   refine zA ?_
   refine XO_nil (at_then ?_)
   refine X_ret ?_
   refine at_block_r ?_
   refine at_then_r ?_
   refine at_then_r ?_
   refine at_block_r ?_
   refine at_then_r ?_
   exact at_ret1 rfl rfl (fun w hw => ⟨by rw [idx_hit hno hx hc16], hw.drop⟩)
  ·
   refine X_skip ?_
   refine at_block_n ?_
   refine at_then ?_
   refine X_region ?_
   refine XO_v0 (ev_arB rfl rfl rfl (fun _ => by omega)) rfl rfl rfl ?_
   refine zM ?_
   refine XO_nil ?_
   exact at_met2 _ _ ⟨n2 - (k + 1), by omega, k + 1, rfl, rfl, rfl, rfl, by omega, any_no hx hno hc16⟩ (.cons rfl (.cons rfl (.cons rfl (.cons rfl .nil)))) (by repeat (first | exact .refl | exact subL_left | refine subL_app ?_ | refine .drop ?_ | refine subL_add ?_))
 ·
  have hge_k : n2 ≤ k := by have h := hc9; simp at h; omega
  refine X_exit ?_
  refine at_then_e ?_
  refine at_then_e ?_
  refine at_block_hit ?_
  refine at_then ?_
  refine X_seq (X_region ?_)
  refine zA ?_
  refine XO_nil (at_then ?_)
  refine X_ret ?_
  exact at_ret1 rfl rfl (fun w hw => ⟨by rw [idx_none hH.len hge_k hno], hw.drop⟩)
theorem w_containsF {I : HMap} {bv : Option Addr} {n2 c2 : Nat} {hs : List Hd} (hH : Sl I 1 encH bv n2 c2 hs) (hn : n2 ≤ 100000) : RetV Tryd.prog 36 [.slice bv n2 c2, .func (.func 49) #[] #[]] I (.bool (hs.any (fun h : Hd => decide ((h.n : Int) > 64)))) := by
 intro g H w hw
 refine enter Tryd.func36 rfl Tryd.ntmps36 rfl hw ?_
 refine X_seq (X_region ?_)
 refine zA ?_
 refine XO_nil (at_then (X_seq (X_region ?_)))
 refine zM ?_
 refine zM ?_
 refine XO_callV0 (cap := []) (vs := [_, _]) rfl rfl fun_59 (w_indexF hH hn) rfl rfl ?_
 refine zC ?_
 refine zA ?_
 refine XO_nil (at_then ?_)
 refine X_ret ?_
 first
 | exact at_ret1 rfl rfl (fun w hw => ⟨by rw [← idx_any], hw.drop⟩)
theorem w_indexG {I : HMap} {av : Option Addr} {n c : Nat} {xs : List Int} (hS : Sl I 1 encI av n c xs) (hn : n ≤ 100000) : RetV Tryd.prog 78 [.slice av n c, .func (.func 51) #[] #[]] I (.int .i64 (idxF (fun v => decide (v < 0) || decide (v > 8589934592)) xs)) := by
 intro g H w hw
 refine enter Tryd.func78 rfl Tryd.ntmps78 rfl hw ?_
 refine X_seq (X_region ?_)
 refine zA ?_
 refine XO_nil (at_then ?_)
 refine X_seq ?_
 refine X_seq (X_region ?_)
 refine zM ?_
 refine XO_v0 (ev_lenS rfl slt_23) rfl rfl rfl ?_
 refine zM ?_
 refine XO_nil (at_then ?_)
 refine X_block ?_
 refine X_loopT [(0, _), (1, _), (7, _)] (.cons rfl (.cons rfl (.cons rfl .nil))) (fun T L0 mz E I' loc' => ∃ (k : Nat), mz = n - k ∧ E = (8, .int .i64 k) :: T ∧ I = I' ∧ L0 = loc' ∧ k ≤ n ∧ (xs.take k).any (fun v => decide (v < 0) || decide (v > 8589934592)) = false) _ _ _ _ ⟨0, rfl, rfl, rfl, rfl, Nat.zero_le _, rfl⟩ (.cons rfl (.cons rfl (.cons rfl (.cons rfl .nil)))) (HLe.refl _) rfl ?_
 rintro mz E I' loc' ⟨k, rfl, rfl, rfl, rfl, hk, hno⟩
 refine X_seq (X_region ?_)
 refine zC ?_
 refine XO_nil (at_then ?_)
 refine X_seq ?_
 refine X_cond rfl (fun hc9 => ?_) (fun hc9 => ?_)
 ·
  have hlt_k : k < n := by have h := hc9; simp at h; omega
  obtain ⟨x, hx⟩ := hS.at hlt_k
  refine X_skip ?_
  refine at_then ?_
  refine X_seq ?_
  refine X_block ?_
  refine X_seq (X_region ?_)
  refine zM ?_
  refine zA ?_
  refine XO_nil (at_then (X_seq (X_region ?_)))
  refine zM ?_
  refine zM ?_
  refine zM ?_
  refine XO_v0 (ev_indexSl rfl rfl slt_23 (by assumption) (fun hg => by first | omega | (simp [conj] at hg; omega))) rfl rfl rfl ?_
  refine XO_v0 (ev_load rfl sct_3 (fun hg => by exact Sl.get0 hS hx rfl)) rfl rfl rfl ?_
  refine XO_callV0 (cap := []) (vs := [_]) rfl rfl fun_51 (w_state I _) rfl rfl ?_
  refine XO_nil (at_then ?_)
  refine X_cond rfl (fun hc16 => ?_) (fun hc16 => ?_)
  ·
   refine X_seq (X_region ?_)
   refine zM ?_
   refine zA ?_
   refine XO_nil (at_then ?_)
   refine X_ret ?_
   refine at_block_r ?_
   refine at_then_r ?_
   refine at_then_r ?_
   refine at_block_r ?_
   refine at_then_r ?_
   exact at_ret1 rfl rfl (fun w hw => ⟨by rw [idx_hit hno hx hc16], hw.drop⟩)
  ·
   refine X_skip ?_
   refine at_block_n ?_
   refine at_then ?_
   refine X_region ?_
   refine XO_v0 (ev_arB rfl rfl rfl (fun _ => by omega)) rfl rfl rfl ?_
   refine zM ?_
   refine XO_nil ?_
   exact at_met2 _ _ ⟨n - (k + 1), by omega, k + 1, rfl, rfl, rfl, rfl, by omega, any_no hx hno hc16⟩ (.cons rfl (.cons rfl (.cons rfl (.cons rfl .nil)))) (by repeat (first | exact .refl | exact subL_left | refine subL_app ?_ | refine .drop ?_ | refine subL_add ?_))
 ·
  have hge_k : n ≤ k := by have h := hc9; simp at h; omega
  refine X_exit ?_
  refine at_then_e ?_
  refine at_then_e ?_
  refine at_block_hit ?_
  refine at_then ?_
  refine X_seq (X_region ?_)
  refine zA ?_
  refine XO_nil (at_then ?_)
  refine X_ret ?_
  exact at_ret1 rfl rfl (fun w hw => ⟨by rw [idx_none hS.len hge_k hno], hw.drop⟩)
theorem w_containsG {I : HMap} {av : Option Addr} {n c : Nat} {xs : List Int} (hS : Sl I 1 encI av n c xs) (hn : n ≤ 100000) : RetV Tryd.prog 50 [.slice av n c, .func (.func 51) #[] #[]] I (.bool (xs.any (fun v => decide (v < 0) || decide (v > 8589934592)))) := by
 intro g H w hw
 refine enter Tryd.func50 rfl Tryd.ntmps50 rfl hw ?_
 refine X_seq (X_region ?_)
 refine zA ?_
 refine XO_nil (at_then (X_seq (X_region ?_)))
 refine zM ?_
 refine zM ?_
 refine XO_callV0 (cap := []) (vs := [_, _]) rfl rfl fun_78 (w_indexG hS hn) rfl rfl ?_
 refine zC ?_
 refine zA ?_
 refine XO_nil (at_then ?_)
 refine X_ret ?_
 first
 | exact at_ret1 rfl rfl (fun w hw => ⟨by rw [← idx_any], hw.drop⟩)
end Go.Proofs.YthcffaheamikgaaDoor
end
section
namespace Go.Proofs.YthcffaheamikgaaDoor
open Go Go.Kn Go.Proofs
def stateP (v : Int) : Bool := decide (v < 0) || decide (v > 8589934592)
def rowP (w : Nat) (r : List Int) : Bool := decide ((r.length : Int) ≠ w) || r.any stateP
def rowsN (rows : List (List Int)) : Int :=
  if decide ((rows.length : Int) > 6) || rows.any (fun r => decide ((r.length : Int) > 64)) then 2 else if rows.length = 0 then 420
  else if rows.any (rowP (rows.getD 0 []).length) then 420 else 0
theorem rows_1 {rows : List (List Int)} (h : (decide ((rows.length : Int) > 6) || rows.any (fun r => decide ((r.length : Int) > 64))) = true) : rowsN rows = 2 := by unfold rowsN; rw [if_pos h]
theorem rows_2 {rows : List (List Int)} (h : (decide ((rows.length : Int) > 6) || rows.any (fun r => decide ((r.length : Int) > 64))) = false) (h2 : rows.length = 0) : rowsN rows = 420 := by unfold rowsN; rw [if_neg (by rw [h]; decide), if_pos h2]
theorem rows_3 {rows : List (List Int)} (h : (decide ((rows.length : Int) > 6) || rows.any (fun r => decide ((r.length : Int) > 64))) = false) (h2 : ¬ rows.length = 0) : rowsN rows = if rows.any (rowP (rows.getD 0 []).length) then 420 else 0 := by
  unfold rowsN; rw [if_neg (by rw [h]; decide), if_neg h2]
theorem rows_64 {rows : List (List Int)} (h : (decide ((rows.length : Int) > 6) || rows.any (fun r => decide ((r.length : Int) > 64))) = false) {v : List Int} (hv : v ∈ rows) : v.length ≤ 64 := by
  rw [Bool.or_eq_false_iff] at h
  have := List.any_eq_false.1 h.2 v hv
  simp at this; omega
/-- A slice's heads have their lists' lengths. -/
theorem heads_any {I : HMap} {av : Option Addr} {n c : Nat} {hs : List Hd} {vss : List (List Int)} (h : SlH I av n c hs vss) (p : Int → Bool) : hs.any (fun x : Hd => p (x.n : Int)) = vss.any (fun r => p (r.length : Int)) := by
  have hl := h.2.1
  have hlen : ∀ (k : Nat) (x : Hd) (v : List Int), hs[k]? = some x → vss[k]? = some v → v.length = x.n := fun k x v a b => (h.2.2 k x v a b).len
  clear h
  rw [Bool.eq_iff_iff, List.any_eq_true, List.any_eq_true]
  constructor
  · rintro ⟨x, hx, hp⟩
    obtain ⟨k, hk⟩ := List.getElem?_of_mem hx
    have hk2 : vss[k]? = some (vss[k]'(by have := (List.getElem?_eq_some_iff.1 hk).1; omega)) := List.getElem?_eq_getElem _
    exact ⟨_, List.mem_of_getElem? hk2, by rw [hlen k _ _ hk hk2]; exact hp⟩
  · rintro ⟨v, hv, hp⟩
    obtain ⟨k, hk⟩ := List.getElem?_of_mem hv
    have hk2 : hs[k]? = some (hs[k]'(by have := (List.getElem?_eq_some_iff.1 hk).1; omega)) := List.getElem?_eq_getElem _
    exact ⟨_, List.mem_of_getElem? hk2, by rw [← hlen k _ _ hk2 hk]; exact hp⟩
end Go.Proofs.YthcffaheamikgaaDoor
end
section
namespace Go.Proofs.YthcffaheamikgaaDoor
open Go Go.Kn Go.Proofs
theorem w_table {I : HMap} {av : Option Addr} {n c : Nat} {rows : List (List Int)} (hV : SlN I av n c rows) (hn : n ≤ 100000) : RetV Tryd.prog 28 [.slice av n c] I (.int .i64 (rowsN rows)) := by
 intro g H w hw
 refine enter Tryd.func28 rfl Tryd.ntmps28 rfl hw ?_
 obtain ⟨hs, hV⟩ := hV
 have hH := hV.1
 have hlV := hV.len
 refine X_seq (X_region ?_)
 refine zA ?_
 refine XO_nil (at_then ?_)
 refine X_seq ?_
 refine X_seq (X_region ?_)
 refine zM ?_
 refine XO_v0 (ev_lenS rfl slt_22) rfl rfl rfl ?_
 refine zC ?_
 refine zM ?_
 refine XO_pushF 3 rfl rfl rfl ?_
 refine XO_v1 (ev_move rfl) (.some rfl rfl rfl rfl gbf) rfl rfl rfl ?_
 refine XO_callV1 (cap := []) (vs := [_, _]) rfl rfl fun_36 (fun hg => w_containsF hH hn) (.some rfl rfl rfl rfl gbf) rfl rfl ?_
 refine XO_or0 rfl rfl rfl rfl rfl ?_
 refine XO_nil (at_then ?_)
 refine X_cond rfl (fun hc11 => ?_) (fun hc11 => ?_)
 ·
  have h1 : (decide ((rows.length : Int) > 6) || rows.any (fun r => decide ((r.length : Int) > 64))) = true := by rw [hlV, ← heads_any hV (fun q => decide (q > 64))]; exact hc11
  refine X_seq (X_region ?_)
  refine zA ?_
  refine XO_nil (at_then ?_)
  refine X_ret ?_
  refine at_then_r ?_
  exact at_ret1 rfl rfl (fun w hw => ⟨by rw [rows_1 h1], hw.drop⟩)
 ·
  have h1 : (decide ((rows.length : Int) > 6) || rows.any (fun r => decide ((r.length : Int) > 64))) = false := by rw [hlV, ← heads_any hV (fun q => decide (q > 64))]; exact hc11
  refine X_skip ?_
  refine at_then ?_
  refine X_seq ?_
  refine X_seq (X_region ?_)
  refine zM ?_
  refine XO_v0 (ev_lenS rfl slt_22) rfl rfl rfl ?_
  refine zC ?_
  refine XO_nil (at_then ?_)
  refine X_cond rfl (fun hc14 => ?_) (fun hc14 => ?_)
  ·
   have h2 : rows.length = 0 := by simp at hc14; omega
   refine X_seq (X_region ?_)
   refine zA ?_
   refine XO_nil (at_then ?_)
   refine X_ret ?_
   refine at_then_r ?_
   exact at_ret1 rfl rfl (fun w hw => ⟨by rw [rows_2 h1 h2], hw.drop⟩)
  ·
   have h2 : ¬ rows.length = 0 := by simp at hc14; omega
   obtain ⟨x0, v0, hx0, hv0, hQ0⟩ := hV.at (show 0 < n by omega)
   refine X_skip ?_
   refine at_then ?_
   refine X_seq ?_
   refine X_seq (X_region ?_)
   refine zM ?_
   refine XO_v0 (ev_lenS rfl slt_22) rfl rfl rfl ?_
   refine zM ?_
   refine XO_nil (at_then ?_)
   refine X_block ?_
   refine X_loopT [(0, _), (15, _), (16, _)] (.cons rfl (.cons rfl (.cons rfl .nil))) (fun T L0 mz E I' loc' => ∃ (k : Nat), mz = n - k ∧ E = (17, .int .i64 k) :: T ∧ I = I' ∧ L0 = loc' ∧ k ≤ n ∧ (rows.take k).any (rowP (rows.getD 0 []).length) = false) _ _ _ _ ⟨0, rfl, rfl, rfl, rfl, Nat.zero_le _, rfl⟩ (.cons rfl (.cons rfl (.cons rfl (.cons rfl .nil)))) (HLe.refl _) rfl ?_
   rintro mz E I' loc' ⟨k, rfl, rfl, rfl, rfl, hk, hno⟩
   refine X_seq (X_region ?_)
   refine zC ?_
   refine XO_nil (at_then ?_)
   refine X_seq ?_
   refine X_cond rfl (fun hc18 => ?_) (fun hc18 => ?_)
   ·
    have hlt_k : k < n := by have h := hc18; simp at h; omega
    obtain ⟨x, v, hx, hv, hQ⟩ := hV.at hlt_k
    have hrow : rowP (rows.getD 0 []).length v = (((x.n : Int) != (x0.n : Int)) || v.any stateP) := by unfold rowP; rw [getD_of hv0, hQ.len, hQ0.len]; congr 1; exact Bool.eq_iff_iff.2 (by simp)
    refine X_skip ?_
    refine at_then ?_
    refine X_seq ?_
    refine X_block ?_
    refine X_seq (X_region ?_)
    refine XO_v0 (ev_indexSl rfl rfl slt_22 (by assumption) (fun hg => by first | omega | (simp [conj] at hg; omega))) rfl rfl rfl ?_
    refine XO_v0 (ev_load rfl sct_23 (fun hg => by exact Sl.get0 hH hx rfl)) rfl rfl rfl ?_
    refine zA ?_
    refine XO_nil (at_then (X_seq (X_region ?_)))
    refine zM ?_
    refine XO_v0 (ev_lenS rfl slt_23) rfl rfl rfl ?_
    refine zM ?_
    refine XO_v0 (ev_indexSl rfl rfl slt_22 (by assumption) (fun hg => by first | omega | (simp [conj] at hg; omega))) rfl rfl rfl ?_
    refine XO_v0 (ev_load rfl sct_23 (fun hg => by exact Sl.get0 (k := 0) hH hx0 rfl)) rfl rfl rfl ?_
    refine XO_v0 (ev_lenS rfl slt_23) rfl rfl rfl ?_
    refine zC ?_
    refine zM ?_
    refine XO_pushF 7 rfl rfl rfl ?_
    refine XO_v1 (ev_move rfl) (.some rfl rfl rfl rfl gbf) rfl rfl rfl ?_
    refine XO_callV1 (cap := []) (vs := [_, _]) rfl rfl fun_50 (fun hg => w_containsG hQ (by rw [← hQ.len]; have := rows_64 h1 (List.mem_of_getElem? hv); omega)) (.some rfl rfl rfl rfl gbf) rfl rfl ?_
    refine XO_or0 rfl rfl rfl rfl rfl ?_
    refine XO_nil (at_then ?_)
    refine X_cond rfl (fun hc31 => ?_) (fun hc31 => ?_)
    ·
     refine X_seq (X_region ?_)
     refine zA ?_
     refine XO_nil (at_then ?_)
     refine X_ret ?_
     refine at_block_r ?_
     refine at_then_r ?_
     refine at_then_r ?_
     refine at_block_r ?_
     refine at_then_r ?_
     first
     | exact at_ret1 rfl rfl (fun w hw => ⟨by rw [rows_3 h1 h2, any_yes hv (by rw [hrow]; exact hc31)]; rfl, hw.drop⟩)
    ·
     refine X_skip ?_
     refine at_block_n ?_
     refine at_then ?_
     refine X_region ?_
     refine XO_v0 (ev_arB rfl rfl rfl (fun _ => by omega)) rfl rfl rfl ?_
     refine zM ?_
     refine XO_nil ?_
     exact at_met2 _ _ ⟨n - (k + 1), by omega, k + 1, rfl, rfl, rfl, rfl, by omega, any_no hv hno (by rw [hrow]; exact hc31)⟩ (.cons rfl (.cons rfl (.cons rfl (.cons rfl .nil)))) (by repeat (first | exact .refl | exact subL_left | refine subL_app ?_ | refine .drop ?_ | refine subL_add ?_))
   ·
    have hge_k : n ≤ k := by have h := hc18; simp at h; omega
    rw [take_all hlV hge_k] at hno
    refine X_exit ?_
    refine at_then_e ?_
    refine at_then_e ?_
    refine at_block_hit ?_
    refine at_then ?_
    refine X_seq (X_region ?_)
    refine zA ?_
    refine XO_nil (at_then ?_)
    refine X_ret ?_
    first
    | exact at_ret1 rfl rfl (fun w hw => ⟨by rw [rows_3 h1 h2, hno]; rfl, hw.drop⟩)
end Go.Proofs.YthcffaheamikgaaDoor
end
section
namespace Go.Proofs.YthcffaheamikgaaDoor
open Go Go.Kn Go.Proofs
theorem take_next {α : Type} {xs ys : List α} {k : Nat} {x y : α} (hx : xs[k]? = some x) (hy : ys[k]? = some y) (he : xs.take k = ys.take k) (h : x = y) : xs.take (k + 1) = ys.take (k + 1) := by
 rw [List.take_add_one, List.take_add_one, hx, hy, he, h]
theorem same_ne {α : Type} [DecidableEq α] {xs ys : List α} {k : Nat} {x y : α} (hx : xs[k]? = some x) (hy : ys[k]? = some y) (h : x ≠ y) : sameF xs ys = false :=
 decide_eq_false fun e => h (by rw [e, hy] at hx; exact (Option.some.inj hx).symm)
theorem same_len {α : Type} [DecidableEq α] {xs ys : List α} {n m : Nat} (h1 : xs.length = n) (h2 : ys.length = m) (h : n ≠ m) : sameF xs ys = false :=
 decide_eq_false fun e => h (by rw [← h1, ← h2, e])
end Go.Proofs.YthcffaheamikgaaDoor
end
section
namespace Go.Proofs.YthcffaheamikgaaDoor
open Go Go.Kn Go.Proofs
def stepF (f t : Int) : Int := if f = t then 0 else if t = 0 then 1 else if f = 0 then 4 else 2
theorem step_in (f t : Int) : 0 ≤ stepF f t ∧ stepF f t ≤ 4 := by
  unfold stepF
  split
  · omega
  · split
    · omega
    · split <;> omega
/-- The least cost below a state: of the first k states. -/
def bestK (st cs : List Int) (s : Int) (k : Nat) : Int := (List.range k).foldl (fun b i => minI b (stepF s (st.getD i 0) + cs.getD i 0)) 1048576
def belowF (st cs : List Int) (s : Int) : Int := bestK st cs s st.length
theorem drop_cons {α : Type} {xs : List α} {k : Nat} {x : α} (h : xs[k]? = some x) : xs.drop k = x :: xs.drop (k + 1) := by
  obtain ⟨h1, h2⟩ := List.getElem?_eq_some_iff.1 h
  rw [List.drop_eq_getElem_cons h1, h2]
def kindF (n : Int) : Int := if n = 0 then 1 else 0
end Go.Proofs.YthcffaheamikgaaDoor
end
section
namespace Go.Proofs.YthcffaheamikgaaDoor
open Go Go.Kn Go.Proofs
theorem w_kind (I : HMap) (n : Int) : RetV Tryd.prog 92 [.int .i64 n] I (.int .i64 (kindF n)) := by
 intro g H w hw
 refine enter Tryd.func92 rfl Tryd.ntmps92 rfl hw ?_
 refine X_seq (X_region ?_)
 refine zA ?_
 refine XO_nil (at_then ?_)
 refine X_seq ?_
 refine X_seq (X_region ?_)
 refine zM ?_
 refine zC ?_
 refine XO_nil (at_then ?_)
 refine X_cond rfl (fun hc4 => ?_) (fun hc4 => ?_)
 ·
  refine X_seq (X_region ?_)
  refine zA ?_
  refine XO_nil (at_then ?_)
  refine X_ret ?_
  refine at_then_r ?_
  exact at_ret1 rfl rfl (fun w hw => ⟨by unfold kindF; simp_all, hw.drop⟩)
 ·
  refine X_skip ?_
  refine at_then ?_
  refine X_seq (X_region ?_)
  refine zA ?_
  refine XO_nil (at_then ?_)
  refine X_ret ?_
  exact at_ret1 rfl rfl (fun w hw => ⟨by unfold kindF; simp_all, hw.drop⟩)
end Go.Proofs.YthcffaheamikgaaDoor
end
section
namespace Go.Kn
open Go
section
variable {C : Cx} {E : Env} {I : HMap} {loc : Loc} {S : GS} {dst : Option Tmp} {ty : TypeId} {pos : String} {af : Array Edge} {gd : Option (Nat × Bool)} {x y z : Operand}
end
end Go.Kn
namespace Go.Kn
open Go
section
variable {g : World} {I I' H : HMap} {loc loc' L R : Loc} {w w' : World}
end
end Go.Kn
namespace Go.Kn
open Go
section
variable {C : Cx} {Q : Exit → Act → World → Prop} {E : Env} {I : HMap} {loc : Loc} {ops : Array Oper} {rest : List Oper} {d : Nat} {ty : TypeId} {pos : String} {af : Array Edge} {gd : Option (Nat × Bool)} {x y : Operand}
end
end Go.Kn
namespace Go.Kn
open Go
section
variable {C : Cx} {Q : Exit → Act → World → Prop} {E : Env} {I : HMap} {loc : Loc} {ops : Array Oper} {rest : List Oper} {d : Nat} {ty : TypeId} {pos : String} {af : Array Edge} {gd : Option (Nat × Bool)} {x y : Operand}
end
section
variable {C : Cx} {S : GS} {E : Env} {I : HMap} {loc : Loc} {dst : Option Tmp} {ty : TypeId} {pos : String} {af : Array Edge} {gd : Option (Nat × Bool)} {x y : Operand}
theorem ev_indexOwn {t e size b n c : Nat} {k : IntKind} {i : Int} (hx : evalS S E x = some (.slice (some ⟨b, 0, none⟩) n c)) (hy : evalS S E y = some (.int k i)) (hT : SlT C.P t e size) (hb : conj S = true → 0 ≤ i ∧ i < (n : Int)) :
    EvalOp C S E I loc ⟨dst, .indexAddr t x y, ty, pos, af, gd⟩ (.pointer (some ⟨b, i.toNat * size, none⟩)) := by
  have h := ev_indexAddr (I := I) (loc := loc) (dst := dst) (ty := ty) (pos := pos) (af := af) (gd := gd) hx hy hT hb
  rwa [Nat.zero_add] at h
end
end Go.Kn
end
section
namespace Go.Proofs.YthcffaheamikgaaDoor
open Go Go.Kn Go.Proofs
/-- A literal that is one's own. -/
theorem _root_.Go.Kn.OwnS.lit {e size b n : Nat} {vs : List Value} (h : vs.length = n * size) (hn : n ≤ maxLen) : OwnS e size (.slice (some ⟨b, 0, none⟩) n n) n vs [(b, .cells vs.toArray e (0, 0))] :=
  ⟨h, .inr ⟨b, n, _, rfl, rfl, Nat.le_refl _, hn, by simp [h], by rw [← h]; simp⟩⟩
theorem valn {e size n : Nat} {v : Value} {xs : List Value} {L : Go.Kn.Loc} (h : OwnS e size v n xs L) : ∃ a c, v = .slice a n c := by
  rcases h.2 with ⟨h1, h2, _⟩ | ⟨b, c, cur, h1, _⟩
  · subst h2; exact ⟨_, _, h1⟩
  · exact ⟨_, _, h1⟩
def stS (out : List Int) (n : Int) : List Int := if n == 8589934592 || out.any (fun x => x == n) then out else out ++ [n]
def statesF (rows : List (List Int)) (l : Nat) : List Int := (rows.map fun r => r.getD l 0).foldl stS [0]
theorem st_step {rows : List (List Int)} {l k : Nat} {r : List Int} (h : rows[k]? = some r) : statesF (rows.take (k + 1)) l = stS (statesF (rows.take k) l) (r.getD l 0) := by
  unfold statesF
  rw [List.take_add_one, h, List.map_append, List.foldl_append]; rfl
theorem st_yes {out : List Int} {n : Int} (h : (n == 8589934592 || out.any (fun x => x == n)) = true) : stS out n = out := by unfold stS; rw [if_pos h]
theorem st_no {out : List Int} {n : Int} (h : (n == 8589934592 || out.any (fun x => x == n)) = false) : stS out n = out ++ [n] := by unfold stS; rw [if_neg (by rw [h]; decide)]
theorem st_len {rows : List (List Int)} {l : Nat} : (statesF rows l).length ≤ rows.length + 1 := by
  have : ∀ (ns out : List Int), (ns.foldl stS out).length ≤ ns.length + out.length := by
    intro ns
    induction ns with
    | nil => intro out; simp
    | cons n ns ih =>
      intro out
      refine Nat.le_trans (ih _) ?_
      have : (stS out n).length ≤ out.length + 1 := by
        unfold stS
        split
        · omega
        · simp
      simp only [List.length_cons]; omega
  have := this (rows.map fun r => r.getD l 0) [0]
  simpa [statesF] using this
end Go.Proofs.YthcffaheamikgaaDoor
end
section
namespace Go.Proofs.YthcffaheamikgaaDoor
open Go Go.Kn Go.Proofs
theorem take_snoc {α : Type} {xs : List α} {k : Nat} {x : α} (h : xs[k]? = some x) : xs.take (k + 1) = xs.take k ++ [x] := by
  rw [List.take_add_one, h]; rfl
section
variable {α : Type} {lt : α → α → Bool}
end
end Go.Proofs.YthcffaheamikgaaDoor
end
section
namespace Go.Proofs.YthcffaheamikgaaDoor
open Go Go.Kn Go.Proofs
/-- The witness of a single set. -/
def witF (s : Int) : Nat := s.toNat.log2
theorem wit_in : ((List.range 7).all fun n => (List.range 64).all fun s => !singF (s : Int) || !decide ((s : Int) ≤ allS (n : Int)) || decide (witF (s : Int) < n)) = true := by kernel_rfl
theorem wit_n {s : Int} {n : Nat} (hn : n ≤ 6) (hs : 1 ≤ s ∧ s ≤ 63) (h1 : singF s = true) (h : s ≤ allS (n : Int)) : witF s < n := by
  have h0 := List.all_eq_true.1 wit_in n (List.mem_range.2 (by omega))
  have h0 := List.all_eq_true.1 h0 s.toNat (List.mem_range.2 (by omega))
  rw [show ((s.toNat : Nat) : Int) = s by omega, h1] at h0
  simpa [h] using h0
theorem split_spec {cl : List Int} {c : Int} {a : Nat} (h : splitR cl c a ≠ 0) (ha : 1 ≤ a) : 1 ≤ splitR cl c a ∧ splitR cl c a < c ∧ splitP cl c (splitR cl c a) = true := by
  unfold splitR at h ⊢
  cases hf : (List.range' a (c.toNat - a)).find? (fun k : Nat => splitP cl c (k : Int)) with
  | none => rw [hf] at h; exact absurd rfl h
  | some k =>
    have h1 := List.find?_some hf
    have h2 := List.mem_range'_1.1 (List.mem_of_find?_eq_some hf)
    exact ⟨by show 1 ≤ (k : Int); omega, by show (k : Int) < c; omega, h1⟩
theorem wrapS {s : Int} (h : 1 ≤ s ∧ s ≤ 63) : IntKind.i64.wrap (s - 1) = s - 1 := wrap_in (by omega)
/-- A set that has costs. -/
def OkS (n : Nat) (cl : List Int) (s : Int) : Prop := 1 ≤ s ∧ s ≤ allS (n : Int) ∧ hasS cl s = true
theorem chkN_split {m : Int} {cl : List Int} (h : chkN m cl = 0) : ∀ c ∈ cl, splitF cl c ≠ 0 := by
  intro c hc hs
  unfold chkN at h
  repeat (split at h; · cases h)
  rename_i h5
  exact h5 (List.any_eq_true.2 ⟨c, hc, by simp [hs]⟩)
theorem ok_parts {n : Nat} {cl : List Int} {s : Int} (hc : chkN n cl = 0) (h : OkS n cl s) (h1 : (andI s (IntKind.i64.wrap (s - 1)) == 0) = false) : OkS n cl (splitF cl s) ∧ OkS n cl (s - splitF cl s) ∧ 1 ≤ splitF cl s ∧ splitF cl s < s := by
  obtain ⟨h2, h3, h4⟩ := h
  have hin : s ∈ cl := by
    unfold hasS singF at h4
    rw [h1, Bool.and_false, Bool.or_false, List.any_eq_true] at h4
    obtain ⟨c, hc2, e⟩ := h4
    have : c = s := by simpa using e
    exact this ▸ hc2
  obtain ⟨a1, a2, a3⟩ := split_spec (chkN_split hc s hin) (Nat.le_refl 1)
  unfold splitP at a3
  simp only [Bool.and_eq_true] at a3
  exact ⟨⟨a1, by show splitR cl s 1 ≤ _; omega, a3.1.2⟩, ⟨by show 1 ≤ s - splitR cl s 1; omega, by show s - splitR cl s 1 ≤ _; omega, a3.2⟩, a1, a2⟩
def leafG (u x : Int) : Int := if decide (u ≠ 8589934592) && decide (u ≠ x) then 1048576 else 0
def costsF (rows : List (List Int)) (cl : List Int) (l : Nat) : Nat → Int → List Int
  | 0, _ => []
  | f + 1, s =>
    if (andI s (IntKind.i64.wrap (s - 1)) == 0) = true then (statesF rows l).map (leafG ((rows.getD (witF s) []).getD l 0))
    else (statesF rows l).map fun x => belowF (statesF rows l) (costsF rows cl l f (splitF cl s)) x + belowF (statesF rows l) (costsF rows cl l f (s - splitF cl s)) x
theorem costs_leaf {rows : List (List Int)} {cl : List Int} {l f : Nat} {s : Int} (h : (andI s (IntKind.i64.wrap (s - 1)) == 0) = true) : costsF rows cl l (f + 1) s = (statesF rows l).map (leafG ((rows.getD (witF s) []).getD l 0)) := by
  simp only [costsF]; rw [if_pos h]
def twoG (st L R : List Int) (x : Int) : Int := belowF st L x + belowF st R x
theorem costs_two {rows : List (List Int)} {cl : List Int} {l f : Nat} {s : Int} (h : (andI s (IntKind.i64.wrap (s - 1)) == 0) = false) : costsF rows cl l (f + 1) s = (statesF rows l).map (twoG (statesF rows l) (costsF rows cl l f (splitF cl s)) (costsF rows cl l f (s - splitF cl s))) := by
  simp only [costsF]; rw [if_neg (by rw [h]; decide)]; rfl
theorem below_in {st cs : List Int} {s : Int} (h : ∀ y ∈ cs, 0 ≤ y ∧ y ≤ 1099511627776) : 0 ≤ belowF st cs s ∧ belowF st cs s ≤ 1048576 := by
  unfold belowF
  have : ∀ k, 0 ≤ bestK st cs s k ∧ bestK st cs s k ≤ 1048576 := by
    intro k
    induction k with
    | zero => unfold bestK; simp
    | succ k ih =>
      have e : bestK st cs s (k + 1) = minI (bestK st cs s k) (stepF s (st.getD k 0) + cs.getD k 0) := by
        unfold bestK
        rw [List.range_succ, List.foldl_append, List.foldl_cons, List.foldl_nil]
      rw [e]
      have h1 := (step_in s (st.getD k 0)).1
      have h2 : 0 ≤ cs.getD k 0 := by
        cases hk : cs[k]? with
        | none => simp [List.getD, hk]
        | some y => rw [getD_of hk]; exact (h y (List.mem_of_getElem? hk)).1
      unfold minI
      split <;> omega
  exact this _
theorem costs_in {rows : List (List Int)} {cl : List Int} {l : Nat} : ∀ (f : Nat) (s : Int), ∀ y ∈ costsF rows cl l f s, 0 ≤ y ∧ y ≤ 1099511627776
  | 0, _ => fun y hy => by cases hy
  | f + 1, s => fun y hy => by
    cases h : (andI s (IntKind.i64.wrap (s - 1)) == 0) with
    | true =>
      rw [costs_leaf h, List.mem_map] at hy
      obtain ⟨x, _, rfl⟩ := hy
      unfold leafG
      split <;> omega
    | false =>
      rw [costs_two h, List.mem_map] at hy
      obtain ⟨x, _, rfl⟩ := hy
      have h1 := below_in (st := statesF rows l) (s := x) (costs_in (rows := rows) (cl := cl) (l := l) f (splitF cl s))
      have h2 := below_in (st := statesF rows l) (s := x) (costs_in (rows := rows) (cl := cl) (l := l) f (s - splitF cl s))
      unfold twoG
      omega
theorem costs_len {rows : List (List Int)} {cl : List Int} {l f : Nat} {s : Int} : (costsF rows cl l (f + 1) s).length = (statesF rows l).length := by
  cases h : (andI s (IntKind.i64.wrap (s - 1)) == 0) with
  | true => rw [costs_leaf h, List.length_map]
  | false => rw [costs_two h, List.length_map]
/-! ### A row that is filled -/
def cellsI (row : List Int) : Array Value := (row.flatMap encI).toArray
theorem cellsI_eq (row : List Int) : row.flatMap encI = row.map (Value.int .i64) := by
  induction row with
  | nil => rfl
  | cons b row ih => rw [List.flatMap_cons, ih]; rfl
theorem cellsI_set (row : List Int) (m : Nat) (b : Int) : (cellsI row).setIfInBounds ((m : Int).toNat * 1) (.int .i64 b) = cellsI (row.set m b) := by
  unfold cellsI
  rw [cellsI_eq, cellsI_eq, Nat.mul_one, List.setIfInBounds_toArray, List.map_set]; rfl
theorem bltI {row : List Int} {m : Nat} (h : m < row.length) : Nat.blt ((m : Int).toNat * 1) (cellsI row).size = true := by
  unfold cellsI
  rw [List.size_toArray, flat_len encI_len, Nat.mul_one, Nat.mul_one]
  rw [Nat.blt_eq]; exact h
theorem cellsI_new (n : Nat) : (List.replicate n (Value.int .i64 0)).toArray = cellsI (List.replicate n 0) := by
  unfold cellsI
  rw [cellsI_eq, List.map_replicate]
theorem own_rowI {b n e : Nat} {row : List Int} (h : row.length = n) (hn : n ≤ 1000000) : OwnS e 1 (.slice (some ⟨b, 0, none⟩) n n) n (row.flatMap encI) [(b, .cells (cellsI row) e (0, 0))] :=
  OwnS.lit (by rw [flat_len encI_len, h]) (by simp only [maxLen]; omega)
end Go.Proofs.YthcffaheamikgaaDoor
end
section
namespace Go.Proofs.YthcffaheamikgaaDoor
open Go Go.Kn Go.Proofs
theorem rows_ok {rows : List (List Int)} (h : rowsN rows = 0) : 1 ≤ rows.length ∧ rows.length ≤ 6 ∧ (rows.getD 0 []).length ≤ 64 ∧ ∀ r ∈ rows, r.length = (rows.getD 0 []).length ∧ ∀ v ∈ r, 0 ≤ v ∧ v ≤ 8589934592 := by
  unfold rowsN at h
  split at h
  · cases h
  · rename_i h1
    split at h
    · cases h
    · rename_i h2
      split at h
      · cases h
      · rename_i h3
        simp only [Bool.or_eq_true, decide_eq_true_eq, not_or, Bool.not_eq_true, List.any_eq_false] at h1 h3
        obtain ⟨r0, h0⟩ : ∃ r, rows[0]? = some r := ⟨_, List.getElem?_eq_getElem (by omega)⟩
        have hg := getD_of (d := ([] : List Int)) h0
        have h64 := h1.2 r0 (List.mem_of_getElem? h0)
        simp at h64
        refine ⟨by omega, by omega, by rw [hg]; omega, fun r hr => ?_⟩
        have := h3 r hr
        unfold rowP at this
        rw [Bool.or_eq_false_iff] at this
        obtain ⟨ha, hb⟩ := this
        refine ⟨Int.ofNat.inj (Decidable.not_not.1 (of_decide_eq_false ha)), fun v hv => ?_⟩
        have := List.any_eq_false.1 hb v hv
        unfold stateP at this
        simp at this
        omega
theorem ok_all {n : Nat} {cl : List Int} (h : chkN n cl = 0) : OkS n cl (allS n) := by
  obtain ⟨h1, h6, hlen, hin⟩ := chkN_ok h
  refine ⟨(all_in (n := (n : Int)) ⟨h1, h6⟩).1, Int.le_refl _, ?_⟩
  by_cases e : n = 1
  · subst e
    unfold hasS
    rw [show singF (allS ((1 : Nat) : Int)) = true from by decide, Bool.or_true]
  · unfold chkN at h
    repeat (split at h; · cases h)
    rename_i h4 _
    have hg : (n : Int) > 1 := by omega
    simp only [Bool.and_eq_true, decide_eq_true_eq, not_and, Decidable.not_not] at h4
    have h4 := h4 hg
    unfold hasS
    rw [Bool.or_eq_true]; left
    rw [List.any_eq_true]
    have hk : ((n : Int) - 2).toNat < cl.length := by omega
    refine ⟨cl[((n : Int) - 2).toNat], List.getElem_mem hk, ?_⟩
    rw [beq_iff_eq, ← h4]
    exact (getD_of (List.getElem?_eq_getElem hk)).symm
/-- The least of some costs. -/
def minK (cs : List Int) (k : Nat) : Int := (cs.take k).foldl minI (cs.getD 0 0)
def leastF (cs : List Int) : Int := minK cs cs.length
theorem minK_step {cs : List Int} {k : Nat} {x : Int} (hx : cs[k]? = some x) : minK cs (k + 1) = minI (minK cs k) x := by
  unfold minK
  rw [List.take_add_one, hx, List.foldl_append]; rfl
theorem minK_in {cs : List Int} (h : ∀ y ∈ cs, 0 ≤ y ∧ y ≤ 1099511627776) (h0 : 0 < cs.length) : ∀ k, 0 ≤ minK cs k ∧ minK cs k ≤ 1099511627776 := by
  have hz : 0 ≤ cs.getD 0 0 ∧ cs.getD 0 0 ≤ 1099511627776 := by
    have := List.getElem?_eq_getElem h0
    rw [getD_of this]; exact h _ (List.getElem_mem h0)
  intro k
  induction k with
  | zero => simpa [minK] using hz
  | succ k ih =>
    cases hk : cs[k]? with
    | none =>
      have : minK cs (k + 1) = minK cs k := by
        unfold minK
        rw [List.take_add_one, hk]; simp
      rw [this]; exact ih
    | some x =>
      rw [minK_step hk]
      have := h x (List.mem_of_getElem? hk)
      unfold minI
      split <;> omega
def priceK (rows : List (List Int)) (cl : List Int) (k : Nat) : Int := (List.range k).foldl (fun s l => s + leastF (costsF rows cl l 64 (allS rows.length))) 0
def priceF (rows : List (List Int)) (cl : List Int) : Int := priceK rows cl (rows.getD 0 []).length
theorem price_step {rows : List (List Int)} {cl : List Int} {k : Nat} : priceK rows cl (k + 1) = priceK rows cl k + leastF (costsF rows cl k 64 (allS rows.length)) := by
  unfold priceK
  rw [List.range_succ, List.foldl_append]; rfl
theorem st_pos {rows : List (List Int)} {l : Nat} : 0 < (statesF rows l).length := by
  have : ∀ (ns out : List Int), out.length ≤ (ns.foldl stS out).length := by
    intro ns
    induction ns with
    | nil => intro out; simp
    | cons n ns ih =>
      intro out
      refine Nat.le_trans ?_ (ih _)
      unfold stS
      split
      · omega
      · simp
  exact this (rows.map fun r => r.getD l 0) [0]
end Go.Proofs.YthcffaheamikgaaDoor
end
section
namespace Go.Proofs.YthcffaheamikgaaDoor
open Go Go.Kn Go.Proofs
def costE (rows : List (List Int)) (cl : List Int) : Int := if rowsN rows ≠ 0 then rowsN rows else chkN rows.length cl
def costA (rows : List (List Int)) (cl : List Int) : Int := if costE rows cl ≠ 0 then 0 else priceF rows cl
theorem cost_1 {rows : List (List Int)} {cl : List Int} (h : rowsN rows ≠ 0) : costE rows cl = rowsN rows ∧ costA rows cl = 0 := by
  have e : costE rows cl = rowsN rows := by unfold costE; rw [if_pos h]
  exact ⟨e, by unfold costA; rw [if_pos (by rw [e]; exact h)]⟩
theorem cost_2 {rows : List (List Int)} {cl : List Int} (h : rowsN rows = 0) (h2 : chkN rows.length cl ≠ 0) : costE rows cl = chkN rows.length cl ∧ costA rows cl = 0 := by
  have e : costE rows cl = chkN rows.length cl := by unfold costE; rw [if_neg (by omega)]
  exact ⟨e, by unfold costA; rw [if_pos (by rw [e]; exact h2)]⟩
theorem cost_3 {rows : List (List Int)} {cl : List Int} (h : rowsN rows = 0) (h2 : chkN rows.length cl = 0) : costE rows cl = 0 ∧ costA rows cl = priceF rows cl := by
  have e : costE rows cl = 0 := by unfold costE; rw [if_neg (by omega), h2]
  exact ⟨e, by unfold costA; rw [if_neg (by omega)]⟩
/-- Heads and what they stand for. -/
def RelH (I : HMap) (hs : List Hd) (vss : List (List Int)) : Prop := hs.length = vss.length ∧ ∀ (k : Nat) (h : Hd) (v : List Int), hs[k]? = some h → vss[k]? = some v → Sl I 1 encI h.a h.n h.c v
theorem RelH.nil {I : HMap} : RelH I [] [] := ⟨rfl, fun k h v a => by simp at a⟩
theorem RelH.mono {I I' : HMap} {hs : List Hd} {vss : List (List Int)} (h : RelH I hs vss) (hI : HLe I I') : RelH I' hs vss := ⟨h.1, fun k x v a b => (h.2 k x v a b).mono hI⟩
theorem RelH.snoc {I : HMap} {hs : List Hd} {vss : List (List Int)} (h : RelH I hs vss) {hd : Hd} {v : List Int} (hV : Sl I 1 encI hd.a hd.n hd.c v) : RelH I (hs ++ [hd]) (vss ++ [v]) := by
  refine ⟨by simp [h.1], fun k x y a b => ?_⟩
  rw [List.getElem?_append] at a b
  rw [h.1] at a
  split at a
  · rename_i hk
    rw [if_pos hk] at b
    exact h.2 k x y a b
  · rename_i hk
    rw [if_neg hk] at b
    have e : k - vss.length = 0 := by
      cases hd2 : k - vss.length with
      | zero => rfl
      | succ m => rw [hd2] at a; simp at a
    rw [e] at a b
    simp at a b
    subst a; subst b; exact hV
end Go.Proofs.YthcffaheamikgaaDoor
end
section
namespace Go.Proofs.YthcffaheamikgaaDoor
open Go Go.Kn Go.Proofs
/-- How many witnesses a set has. -/
def popF (s : Int) : Nat := (List.range 6).foldl (fun c i => c + s.toNat / 2 ^ i % 2) 0
end Go.Proofs.YthcffaheamikgaaDoor
end
section
namespace Go.Proofs.YthcffaheamikgaaDoor
open Go Go.Kn Go.Proofs
def SlNTup (e : Int) (vss : List (List Int)) : Value → HMap → Go.Kn.Loc → Prop := fun v I' L => L = [] ∧ ∃ av c, v = .tuple #[.slice av vss.length c, .int .i64 e] ∧ SlN I' av vss.length c vss
theorem SlN.none {I : HMap} : SlN I none 0 0 [] := ⟨[], .nil, RelH.nil⟩
theorem SlNTup.empty {e : Int} {vss : List (List Int)} {I : HMap} (h : vss = []) : SlNTup e vss (.tuple #[.slice none 0 0, .int .i64 e]) I [] := by
  subst h
  exact ⟨rfl, none, 0, rfl, .none⟩
end Go.Proofs.YthcffaheamikgaaDoor
end
section
namespace Go.Proofs.YthcffaheamikgaaDoor
open Go Go.Kn Go.Proofs
theorem fun_27 : Fun Tryd.prog 27 := .of Tryd.func27 (by kernel_rfl) (by kernel_rfl)
theorem minK_1 {xs : List Int} {x : Int} (hx : xs[0]? = some x) : minK xs 1 = x := by
 cases xs with
 | nil => cases hx
 | cons y xs => cases hx; simp [minK, minI]
theorem w_min {I : HMap} {av : Option Addr} {n c : Nat} {xs : List Int} (hS : Sl I 1 encI av n c xs) (hn : n ≤ 100000) (h0 : 0 < n) : RetV Tryd.prog 27 [.slice av n c] I (.int .i64 (leastF xs)) := by
 intro g H w hw
 refine enter Tryd.func27 rfl Tryd.ntmps27 rfl hw ?_
 obtain ⟨x0, hx0⟩ := hS.at h0
 refine X_seq (X_region ?_)
 refine zA ?_
 refine XO_nil (at_then ?_)
 refine X_seq ?_
 refine X_seq (X_region ?_)
 refine zM ?_
 refine XO_v0 (ev_lenS rfl slt_23) rfl rfl rfl ?_
 refine zC ?_
 refine XO_nil (at_then ?_)
 refine X_cond rfl (fun hc7 => ?_) (fun hc7 => ?_)
 ·
  have h := hc7; simp at h; omega
 ·
  refine X_skip ?_
  refine at_then ?_
  refine X_seq (X_region ?_)
  refine zM ?_
  refine XO_v0 (ev_indexSl rfl rfl slt_23 (by assumption) (fun hg => by first | omega | (simp [conj] at hg; omega))) rfl rfl rfl ?_
  refine XO_v0 (ev_load rfl sct_3 (fun hg => by exact Sl.get0 (k := 0) hS hx0 rfl)) rfl rfl rfl ?_
  refine zA ?_
  refine XO_nil (at_then ?_)
  refine X_seq ?_
  refine X_seq (X_region ?_)
  refine zA ?_
  refine XO_nil (at_then ?_)
  refine X_block ?_
  refine X_loopT [(0, _)] (.cons rfl .nil) (fun T L0 mz E I' loc' => ∃ (k : Nat) (m : Int), mz = n - k ∧ E = (3, .int .i64 m) :: (4, .int .i64 k) :: T ∧ I = I' ∧ L0 = loc' ∧ k ≤ n ∧ m = minK xs k ∧ 1 ≤ k) _ _ _ _ ⟨1, _, rfl, rfl, rfl, rfl, h0, (minK_1 hx0).symm, Nat.le_refl _⟩ (.cons rfl (.cons rfl (.cons rfl .nil))) (HLe.refl _) rfl ?_
  rintro mz E I' loc' ⟨k, m, rfl, rfl, rfl, rfl, hk, hm, hk1⟩
  refine X_seq ?_
  refine X_seq (X_region ?_)
  refine zM ?_
  refine zM ?_
  refine XO_v0 (ev_lenS rfl slt_23) rfl rfl rfl ?_
  refine zC ?_
  refine XO_nil (at_then ?_)
  refine X_cond rfl (fun hc15 => ?_) (fun hc15 => ?_)
  ·
   have hlt_k : k < n := by have h := hc15; simp at h; omega
   obtain ⟨x, hx⟩ := hS.at hlt_k
   refine X_skip ?_
   refine at_then ?_
   refine X_seq ?_
   refine X_block ?_
   refine X_region ?_
   refine zM ?_
   refine zM ?_
   refine zM ?_
   refine XO_v0 (ev_indexSl rfl rfl slt_23 (by assumption) (fun hg => by first | omega | (simp [conj] at hg; omega))) rfl rfl rfl ?_
   refine XO_v0 (ev_load rfl sct_3 (fun hg => by exact Sl.get0 hS hx rfl)) rfl rfl rfl ?_
   refine XO_v0 (ev_min rfl rfl) rfl rfl rfl ?_
   refine zA ?_
   refine XO_nil ?_
   refine at_block_n ?_
   refine at_then ?_
   refine X_region ?_
   refine zM ?_
   refine zB ?_
   refine zA ?_
   refine XO_nil ?_
   exact at_met2 _ _ ⟨n - (k + 1), by omega, k + 1, _, rfl, rfl, rfl, rfl, by omega, by rw [minK_step hx, hm], by omega⟩ (.cons rfl (.cons rfl (.cons rfl .nil))) (by repeat (first | exact .refl | exact subL_left | refine subL_app ?_ | refine .drop ?_ | refine subL_add ?_))
  ·
   have hge_k : n ≤ k := by have h := hc15; simp at h; omega
   have hkn : k = xs.length := by rw [hS.len]; omega
   subst hkn
   refine X_exit ?_
   refine at_then_e ?_
   refine at_then_e ?_
   refine at_block_hit ?_
   refine at_then ?_
   refine X_seq (X_region ?_)
   refine zM ?_
   refine zA ?_
   refine XO_nil (at_then ?_)
   refine X_ret ?_
   first
   | exact at_ret1 rfl rfl (fun w hw => ⟨by rw [hm]; rfl, hw.drop⟩)
theorem w_least {I : HMap} {av : Option Addr} {n c : Nat} {xs : List Int} (hS : Sl I 1 encI av n c xs) (hn : n ≤ 100000) (h0 : 0 < n) : RetV Tryd.prog 82 [.slice av n c] I (.int .i64 (leastF xs)) := by
 intro g H w hw
 refine enter Tryd.func82 rfl Tryd.ntmps82 rfl hw ?_
 refine X_seq (X_region ?_)
 refine zA ?_
 refine XO_nil (at_then (X_seq (X_region ?_)))
 refine zM ?_
 refine XO_callV0 (cap := []) (vs := [_]) rfl rfl fun_27 (w_min hS hn h0) rfl rfl ?_
 refine zA ?_
 refine XO_nil (at_then ?_)
 refine X_ret ?_
 exact at_ret1 rfl rfl (fun w hw => ⟨by first | rfl | simp_all, hw.drop⟩)
end Go.Proofs.YthcffaheamikgaaDoor
end
section
namespace Go.Kn
open Go
/-- '[2][2]int{x, y}'. -/
theorem ev_build2A {C : Cx} {S : GS} {E : Env} {I : HMap} {loc : Loc} {dst : Option Nat} {ty : Nat} {pos : String} {af : Array Edge} {gd : Option (Nat × Bool)} {t e : Nat} {z1 z2 z3 z4 a b c d : Value} {x y : Operand}
    (hT : ArT C.P t 2 e 2) (hz : ZeroT C.P t (.agg #[z1, z2, z3, z4])) (hx : evalS S E x = some (.agg #[a, b])) (hy : evalS S E y = some (.agg #[c, d])) :
    EvalOp C S E I loc ⟨dst, .build t #[(0, x), (1, y)], ty, pos, af, gd⟩ (.agg #[a, b, c, d]) :=
  .of (by intro c e; cases e) fun st w ha hg hc hw => by
    obtain ⟨hu, i, hi, hs⟩ := hT
    have hsz : ∀ w : World, (sizeOf e).run C.P w = .ok 2 w := fun w => by have h1 := Go.run_sizeOf (w := w) hi; have h2 : C.P.cellsOf e = 2 := (by unfold Program.cellsOf; rw [hi]; exact hs); rw [h2] at h1; exact h1
    simp only [execOp, Instr.build, Sem.run_bind, run_zeroValue hz, Result.andThen, run_underlying hu, hsz, List.map_toArray, List.map_cons, List.map_nil, evalS_sound ha hg hc hx, evalS_sound ha hg hc hy]
    rfl
end Go.Kn
end
section
namespace Go.Proofs.YthcffaheamikgaaDoor
open Go Go.Kn Go.Proofs
theorem agt_143 : AgT Tryd.prog 143 4 := .of (by kernel_rfl)
theorem ar2_83 : Ar2 Tryd.prog 83 3 .i64 := ⟨by kernel_rfl, by kernel_rfl, by kernel_rfl, by kernel_rfl, by kernel_rfl⟩
theorem art_143 : ArT Tryd.prog 143 2 83 2 := .of (by kernel_rfl)
theorem szt_143 : SzT Tryd.prog 143 4 := .of (by kernel_rfl)
theorem zt_143 : ZeroT Tryd.prog 143 (.agg #[(.int .i64 0), (.int .i64 0), (.int .i64 0), (.int .i64 0)]) := .of (by kernel_rfl)
theorem zt_83 : ZeroT Tryd.prog 83 (.agg #[(.int .i64 0), (.int .i64 0)]) := .of (by kernel_rfl)
theorem w_steps (I : HMap) : RetV Tryd.prog 93 [] I (.agg #[.int .i64 2, .int .i64 1, .int .i64 4, .int .i64 0]) := by
 intro g H w hw
 refine enter Tryd.func93 rfl Tryd.ntmps93 rfl hw ?_
 refine X_seq (X_region ?_)
 refine XO_alloc zt_143 rfl rfl (fun b_0 => ?_)
 refine XO_nil (at_then (X_seq (X_region ?_)))
 refine XO_v0 (ev_build2 ar2_83 zt_83 rfl rfl) rfl rfl rfl ?_
 refine XO_v0 (ev_build2 ar2_83 zt_83 rfl rfl) rfl rfl rfl ?_
 refine XO_v0 (ev_build2A art_143 zt_143 rfl rfl) rfl rfl rfl ?_
 refine XO_storeA rfl rfl szt_143 rfl rfl rfl rfl (by repeat (first | exact Upd.here | apply Upd.there | apply upd_app)) ?_
 refine XO_nil (at_then ?_)
 refine X_ret ?_
 exact at_retA (vs := [.int .i64 2, .int .i64 1, .int .i64 4, .int .i64 0]) rfl rfl agt_143 (by repeat (first | exact Cells.here | apply Cells.there)) rfl (fun w hw => ⟨rfl, hw.drop⟩)
end Go.Proofs.YthcffaheamikgaaDoor
end
section
namespace Go.Proofs.YthcffaheamikgaaDoor
open Go Go.Kn Go.Proofs
theorem agt_83 : AgT Tryd.prog 83 2 := .of (by kernel_rfl)
theorem art_83 : ArT Tryd.prog 83 2 3 1 := .of (by kernel_rfl)
theorem fun_92 : Fun Tryd.prog 92 := .of Tryd.func92 (by kernel_rfl) (by kernel_rfl)
theorem fun_93 : Fun Tryd.prog 93 := .of Tryd.func93 (by kernel_rfl) (by kernel_rfl)
theorem mixed : Tryd.prog.follows .mixedOrders = true := by kernel_rfl
theorem kind_in (n : Int) : 0 ≤ kindF n ∧ kindF n < 2 := by unfold kindF; split <;> omega
theorem step_ix {f t : Int} (h : f ≠ t) : ((([.int .i64 2, .int .i64 1, .int .i64 4, .int .i64 0] : List Value).drop ((kindF f).toNat * 2)).take 2)[(kindF t).toNat * 1]? = some (.int .i64 (stepF f t)) := by
 unfold stepF kindF
 rw [if_neg h]
 by_cases h1 : t = 0
 ·
  have h2 : ¬ f = 0 := fun e => h (by rw [e, h1])
  rw [if_pos h1, if_neg h2, if_pos h1]; rfl
 ·
  rw [if_neg h1, if_neg h1]
  by_cases h2 : f = 0
  ·
   rw [if_pos h2, if_pos h2]; rfl
  ·
   rw [if_neg h2, if_neg h2]; rfl
theorem w_step (I : HMap) (f t : Int) : RetV Tryd.prog 81 [.int .i64 f, .int .i64 t] I (.int .i64 (stepF f t)) := by
 intro g H w hw
 refine enter Tryd.func81 rfl Tryd.ntmps81 rfl hw ?_
 refine X_seq (X_region ?_)
 refine zA ?_
 refine XO_nil (at_then ?_)
 refine X_seq ?_
 refine X_seq (X_region ?_)
 refine zM ?_
 refine zM ?_
 refine zC ?_
 refine XO_nil (at_then ?_)
 refine X_cond rfl (fun hc8 => ?_) (fun hc8 => ?_)
 ·
  have heq : f = t := by simpa using hc8
  refine X_seq (X_region ?_)
  refine zA ?_
  refine XO_nil (at_then ?_)
  refine X_ret ?_
  refine at_then_r ?_
  first
  | exact at_ret1 rfl rfl (fun w hw => ⟨by unfold stepF; rw [if_pos heq], hw.drop⟩)
 ·
  have hne : f ≠ t := by simpa using hc8
  refine X_skip ?_
  refine at_then ?_
  refine X_seq (X_region ?_)
  refine zA ?_
  refine XO_nil (at_then ?_)
  refine X_seq ?_
  refine X_draw mixed (by kernel_rfl) ?_
  refine XQ_callV0 (cap := []) (vs := []) rfl rfl fun_93 (w_steps I) rfl rfl ?_
  refine XQ_v0 (ev_move rfl) rfl rfl rfl ?_
  refine XQ_v0 (ev_move rfl) rfl rfl rfl ?_
  refine XQ_callV0 (cap := []) (vs := [_]) rfl rfl fun_92 (w_kind I _) rfl rfl ?_
  refine XQ_v0 (ev_indexAg (cs := [.int .i64 2, .int .i64 1, .int .i64 4, .int .i64 0]) rfl rfl art_143 agt_83 (fun hg => kind_in _)) rfl rfl rfl ?_
  refine XQ_v0 (ev_move rfl) rfl rfl rfl ?_
  refine XQ_v0 (ev_move rfl) rfl rfl rfl ?_
  refine XQ_callV0 (cap := []) (vs := [_]) rfl rfl fun_92 (w_kind I _) rfl rfl ?_
  refine XQ_v0 (ev_index rfl rfl art_83 sct_3 (fun hg => kind_in _) (fun hg => step_ix hne)) rfl rfl rfl ?_
  refine XQ_v0 (ev_assign rfl) rfl rfl rfl ?_
  refine XQ_nil ?_
  refine at_then ?_
  refine X_ret ?_
  exact at_ret1 rfl rfl (fun w hw => ⟨by rfl, hw.drop⟩)
end Go.Proofs.YthcffaheamikgaaDoor
end
section
namespace Go.Proofs.YthcffaheamikgaaDoor
open Go Go.Kn Go.Proofs
/-- The table by which trailing zeros are counted. -/
def debT : List Int := [0, 1, 56, 2, 57, 49, 28, 3, 61, 58, 42, 50, 38, 29, 17, 4, 62, 47, 59, 36, 45, 43, 51, 22, 53, 39, 33, 30, 24, 18, 12, 5, 63, 55, 48, 27, 60, 41, 37, 16, 46, 35, 44, 21, 52, 32, 23, 11, 54, 26, 40, 15, 34, 20, 31, 10, 25, 14, 19, 9, 13, 8, 7, 6]
def DebOK (I : HMap) : Prop := ∀ i : Nat, i < 64 → Cell I [] 1 i (.int .u8 (debT.getD i 0))
theorem DebOK.mono {I I' : HMap} (h : DebOK I) (hI : HLe I I') : DebOK I' := fun i hi => (h i hi).mono hI
def andU (a b : Int) : Int := IntKind.u64.wrap ((BitVec.ofInt 64 a &&& BitVec.ofInt 64 b).toNat : Int)
def debX (x : Int) : Int := (IntKind.u64.wrap (andU x (IntKind.u64.wrap (0 - x)) * 285870213051353865)).fdiv (2 ^ 58)
theorem deb_tab : ((List.range 64).all fun s => !singF (s : Int) || (decide (0 ≤ debX (s : Int)) && decide (debX (s : Int) < 64) && decide (IntKind.i64.wrap (debT.getD (debX (s : Int)).toNat 0) = (witF (s : Int) : Int)))) = true := by kernel_rfl
theorem deb_ok {s : Int} (hs : 1 ≤ s ∧ s ≤ 63) (h1 : singF s = true) : (0 ≤ debX s ∧ debX s < 64) ∧ IntKind.i64.wrap (debT.getD (debX s).toNat 0) = (witF s : Int) := by
  have h := List.all_eq_true.1 deb_tab s.toNat (List.mem_range.2 (by omega))
  rw [show ((s.toNat : Nat) : Int) = s by omega, h1] at h
  simpa using h
section
variable {C : Cx} {E : Env} {I : HMap} {loc : Go.Kn.Loc} {S : GS} {dst : Option Tmp} {ty : TypeId} {pos : String} {af : Array Edge} {gd : Option (Nat × Bool)} {x y : Operand} {a b : Int}
theorem ev_andU {t t' : TypeId} (hx : evalS S E x = some (.int .u64 a)) (hy : evalS S E y = some (.int .u64 b)) : EvalOp C S E I loc ⟨dst, .binOp .and t x y t', ty, pos, af, gd⟩ (.int .u64 (andU a b)) :=
  .of (by intro c e; cases e) fun ac w ha hg hc _ => by
    simp only [execOp, evalS_sound ha hg hc hx, evalS_sound ha hg hc hy, Sem.run_bind, run_eqGuard_int, Result.andThen, binOp, ne_eq, not_true_eq_false, if_false, Op.intBits, Sem.run_pure, andU, IntKind.bits]; rfl
end
/-! ### Maps of costs -/
def eiv : Int → Value := Value.int .i64
structure MapF (m : List (Int × Int)) (g : Int → Option Int) : Prop where
  nd : (m.map (·.1)).Nodup
  get : ∀ x, mget m x = g x
theorem MapF.nil : MapF [] (fun _ => none) := ⟨.nil, fun _ => rfl⟩
theorem MapF.set {m : List (Int × Int)} {g : Int → Option Int} (h : MapF m g) (x v : Int) : MapF (mset m x v) (fun y => if x = y then some v else g y) :=
  ⟨mset_nodup _ _ h.nd, fun y => by rw [mget_mset, h.get]⟩
theorem MapF.congr {m : List (Int × Int)} {g g' : Int → Option Int} (h : MapF m g) (e : ∀ x, g x = g' x) : MapF m g' := ⟨h.nd, fun x => by rw [h.get, e]⟩
theorem MapF.mem {m : List (Int × Int)} {g : Int → Option Int} (h : MapF m g) {p : Int × Int} (hp : p ∈ m) : g p.1 = some p.2 := by rw [← h.get]; exact mget_at h.nd hp
/-- What a range has met. -/
def visO {α : Type} (m : List α) (seen : List Nat) : List α := seen.filterMap fun i => m[i]?
theorem vis_snoc {α : Type} {m : List α} {seen : List Nat} {i : Nat} {p : α} (hp : m[i]? = some p) : visO m (seen ++ [i]) = visO m seen ++ [p] := by
  unfold visO; rw [List.filterMap_append]; simp [hp]
theorem vis_all {α : Type} {m : List α} {seen : List Nat} (hnd : seen.Nodup) (hlt : ∀ i ∈ seen, i < m.length) (hall : ∀ i (p : α), m[i]? = some p → i ∈ seen) : (visO m seen).Perm m := by
  have h1 := (seen_perm hnd hlt hall).filterMap (fun i => m[i]?)
  rw [range_all] at h1
  exact h1
theorem vis_mem {α : Type} {m : List α} {seen : List Nat} {p : α} : p ∈ visO m seen ↔ ∃ i ∈ seen, m[i]? = some p := by unfold visO; rw [List.mem_filterMap]
theorem snd_nodup {seen : List Nat} {i n : Nat} (hnd : seen.Nodup) (hlt : ∀ i ∈ seen, i < n) (hs : i ∉ seen) (hi : i < n) : (seen ++ [i]).Nodup ∧ (∀ j ∈ seen ++ [i], j < n) ∧ (seen ++ [i]).length ≤ n := by
  have h1 : (seen ++ [i]).Nodup := List.nodup_append.2 ⟨hnd, by simp, fun a ha b hb e => hs (by simp at hb; subst hb; subst e; exact ha)⟩
  have h2 : ∀ j ∈ seen ++ [i], j < n := fun j hj => (List.mem_append.1 hj).elim (hlt j) (fun h => by simp at h; subst h; exact hi)
  refine ⟨h1, h2, ?_⟩
  have := seen_lt (m := List.range n) h1 (by simpa using h2)
  simpa using this
/-! ### The least, in whatever order -/
theorem min_fold : ∀ (xs : List Int) (b : Int), (∀ x ∈ xs, xs.foldl minI b ≤ x) ∧ xs.foldl minI b ≤ b ∧ (xs.foldl minI b = b ∨ xs.foldl minI b ∈ xs)
  | [], b => ⟨fun x h => by simp at h, Int.le_refl _, .inl rfl⟩
  | y :: xs, b => by
    obtain ⟨h1, h2, h3⟩ := min_fold xs (minI b y)
    simp only [List.foldl_cons]
    have hb : minI b y ≤ b ∧ minI b y ≤ y ∧ (minI b y = b ∨ minI b y = y) := by unfold minI; split <;> omega
    refine ⟨fun x hx => ?_, by omega, ?_⟩
    · rcases List.mem_cons.1 hx with rfl | hx
      · omega
      · exact h1 x hx
    · rcases h3 with h3 | h3
      · rcases hb.2.2 with e | e
        · left; rw [h3, e]
        · right; rw [h3, e]; exact List.mem_cons_self ..
      · right; exact List.mem_cons_of_mem _ h3
theorem least_in {xs : List Int} (h : xs ≠ []) : leastF xs ∈ xs ∧ ∀ x ∈ xs, leastF xs ≤ x := by
  cases xs with
  | nil => exact absurd rfl h
  | cons y xs =>
    unfold leastF minK
    rw [List.take_length]
    have e : (y :: xs).getD 0 0 = y := rfl
    rw [e]
    obtain ⟨h1, h2, h3⟩ := min_fold (y :: xs) y
    refine ⟨?_, h1⟩
    rcases h3 with h3 | h3
    · rw [h3]; exact List.mem_cons_self ..
    · exact h3
theorem least_eq {xs : List Int} {v : Int} (h : v ∈ xs) (h2 : ∀ x ∈ xs, v ≤ x) : leastF xs = v := by
  obtain ⟨h3, h4⟩ := least_in (List.ne_nil_of_mem h)
  have a := h4 v h
  have b := h2 _ h3
  omega
theorem best_fold (st cs : List Int) (s : Int) (k : Nat) : bestK st cs s k = ((List.range k).map fun i => stepF s (st.getD i 0) + cs.getD i 0).foldl minI 1048576 := by
  unfold bestK; rw [List.foldl_map]
/-- What a map of costs says of states and their costs: what cannot be has no entry. -/
structure MapR (st cs : List Int) (b : Int) (m : List (Int × Int)) : Prop where
  len : cs.length = st.length
  nd : (m.map (·.1)).Nodup
  get : ∀ (i : Nat) (x c : Int), st[i]? = some x → cs[i]? = some c → mget m x = if c < 1048576 then some c else none
  old : ∀ p ∈ m, p.1 ∈ st
  pos : ∃ c ∈ cs, c < 1048576
  le : ∀ c ∈ cs, 0 ≤ c ∧ (c < 1048576 → c ≤ b) ∧ c ≤ 1048576
theorem MapR.ne {st cs : List Int} {b : Int} {m : List (Int × Int)} (h : MapR st cs b m) : 0 < m.length := by
  obtain ⟨c, hc, hlt⟩ := h.pos
  obtain ⟨i, hi⟩ := List.getElem?_of_mem hc
  have hil := (List.getElem?_eq_some_iff.1 hi).1
  have hx : st[i]? = some (st[i]'(by rw [← h.len]; exact hil)) := List.getElem?_eq_getElem _
  have := h.get i _ c hx hi
  rw [if_pos hlt] at this
  exact List.length_pos_of_mem (mget_mem this)
theorem MapR.ent {st cs : List Int} {b : Int} {m : List (Int × Int)} (h : MapR st cs b m) {x c : Int} : (x, c) ∈ m ↔ ∃ i : Nat, st[i]? = some x ∧ cs[i]? = some c ∧ c < 1048576 := by
  constructor
  · intro hm
    obtain ⟨i, hi⟩ := List.getElem?_of_mem (h.old _ hm)
    have hil := (List.getElem?_eq_some_iff.1 hi).1
    have hc : cs[i]? = some (cs[i]'(by rw [h.len]; exact hil)) := List.getElem?_eq_getElem _
    have hg := h.get i x _ hi hc
    rw [mget_at h.nd hm] at hg
    split at hg
    · rename_i hlt
      cases hg
      exact ⟨i, hi, hc, hlt⟩
    · cases hg
  · rintro ⟨i, h1, h2, h3⟩
    have := h.get i x c h1 h2
    rw [if_pos h3] at this
    exact mget_mem this
/-- The least cost of a step and what is below, over the entries in whatever order. -/
theorem below_eq {st cs : List Int} {b : Int} {m vs : List (Int × Int)} (h : MapR st cs b m) (hb : b ≤ 1000) (hp : vs.Perm m) (s : Int) : leastF (vs.map fun p => p.2 + stepF s p.1) = belowF st cs s ∧ 0 ≤ belowF st cs s ∧ belowF st cs s ≤ b + 4 ∧ ∀ p ∈ vs, 0 ≤ p.2 ∧ p.2 ≤ b := by
  have hsm : ∀ p ∈ m, 0 ≤ p.2 ∧ p.2 ≤ b := fun p hp => by
    obtain ⟨i, _, h2, h3⟩ := (h.ent (x := p.1) (c := p.2)).1 hp
    have := h.le _ (List.mem_of_getElem? h2)
    exact ⟨this.1, this.2.1 h3⟩
  have hlow : ∀ p ∈ m, belowF st cs s ≤ p.2 + stepF s p.1 := fun p hp => by
    obtain ⟨i, h1, h2, h3⟩ := (h.ent (x := p.1) (c := p.2)).1 hp
    unfold belowF
    rw [best_fold]
    have hil := (List.getElem?_eq_some_iff.1 h1).1
    have := (min_fold ((List.range st.length).map fun i => stepF s (st.getD i 0) + cs.getD i 0) 1048576).1 (stepF s p.1 + p.2) (List.mem_map.2 ⟨i, List.mem_range.2 hil, by rw [getD_of h1, getD_of h2]⟩)
    omega
  have hne : m ≠ [] := fun e => by have := h.ne; rw [e] at this; simp at this
  obtain ⟨q, hq⟩ := List.exists_mem_of_ne_nil m hne
  have hq1 := hlow q hq
  have hq2 := hsm q hq
  have hq3 := step_in s q.1
  have hmem : ∃ p ∈ m, belowF st cs s = p.2 + stepF s p.1 := by
    have h3 := (min_fold ((List.range st.length).map fun i => stepF s (st.getD i 0) + cs.getD i 0) 1048576).2.2
    rw [← best_fold] at h3
    rcases h3 with h3 | h3
    · have : belowF st cs s = 1048576 := h3
      omega
    · obtain ⟨i, hi, e⟩ := List.mem_map.1 h3
      have hi := List.mem_range.1 hi
      have h1 : st[i]? = some (st.getD i 0) := some_getD rfl hi
      have h2 : cs[i]? = some (cs.getD i 0) := some_getD rfl (by rw [h.len]; exact hi)
      have hst := step_in s (st.getD i 0)
      have e : stepF s (st.getD i 0) + cs.getD i 0 = belowF st cs s := e
      exact ⟨(st.getD i 0, cs.getD i 0), h.ent.2 ⟨i, h1, h2, by omega⟩, by show _ = cs.getD i 0 + stepF s (st.getD i 0); omega⟩
  obtain ⟨p, hpm, he⟩ := hmem
  have hp2 := hsm p hpm
  have hp3 := step_in s p.1
  refine ⟨least_eq (List.mem_map.2 ⟨p, hp.mem_iff.2 hpm, he.symm⟩) (fun x hx => ?_), by omega, by omega, fun p hp' => hsm p (hp.mem_iff.1 hp')⟩
  obtain ⟨r, hr, rfl⟩ := List.mem_map.1 hx
  exact hlow r (hp.mem_iff.1 hr)
end Go.Proofs.YthcffaheamikgaaDoor
end
section
namespace Go.Proofs.YthcffaheamikgaaDoor
open Go Go.Kn Go.Proofs
def subN (c a : Nat) : Bool := c &&& a == c
theorem sub_trans {c a s : Nat} (h : subN c a = true) (g : subN a s = true) : subN c s = true := by
  unfold subN at *
  rw [beq_iff_eq] at *
  calc c &&& s = (c &&& a) &&& s := by rw [h]
    _ = c &&& (a &&& s) := Nat.and_assoc ..
    _ = c := by rw [g, h]
theorem sub_both {c a b : Nat} (h : subN c a = true) (g : subN c b = true) (e : b &&& a = 0) : c = 0 := by
  unfold subN at *
  rw [beq_iff_eq] at *
  calc c = (c &&& b) &&& a := by rw [g, h]
    _ = c &&& (b &&& a) := Nat.and_assoc ..
    _ = 0 := by rw [e]; exact Nat.and_zero _
theorem sub_refl (a : Nat) : subN a a = true := by unfold subN; rw [Nat.and_self]; exact beq_self_eq_true _
theorem sub_anti {a b : Nat} (h : subN a b = true) (g : subN b a = true) : a = b := by
  unfold subN at *
  rw [beq_iff_eq] at *
  calc a = a &&& b := h.symm
    _ = b &&& a := Nat.and_comm ..
    _ = b := g
theorem sub_le {a b : Nat} (h : subN a b = true) : a ≤ b := by
  unfold subN at h
  rw [beq_iff_eq] at h
  rw [← h]; exact Nat.and_le_right
theorem pair_tab : ((List.range 64).all fun s => (List.range 64).all fun a => !subN a s || ((((s - a) &&& a) == 0) && subN (s - a) s && (popF (a : Int) + popF ((s - a : Nat) : Int) == popF (s : Int)))) = true := by kernel_rfl
theorem pair_ok {s a : Nat} (hs : s < 64) (ha : a < 64) (h : subN a s = true) : (s - a) &&& a = 0 ∧ subN (s - a) s = true ∧ popF (a : Int) + popF ((s - a : Nat) : Int) = popF (s : Int) := by
  have h0 := List.all_eq_true.1 pair_tab s (List.mem_range.2 hs)
  have h0 := List.all_eq_true.1 h0 a (List.mem_range.2 ha)
  rw [h] at h0
  simpa [and_assoc] using h0
theorem land_tab : ((List.range 64).all fun s => (List.range 64).all fun a => andI (a : Int) (s : Int) == ((a &&& s : Nat) : Int)) = true := by kernel_rfl
theorem land_eq {s a : Nat} (hs : s < 64) (ha : a < 64) : andI (a : Int) (s : Int) = ((a &&& s : Nat) : Int) := by
  have h0 := List.all_eq_true.1 land_tab s (List.mem_range.2 hs)
  have h0 := List.all_eq_true.1 h0 a (List.mem_range.2 ha)
  exact eq_of_beq h0
theorem sub_I {s a : Int} (hs : 0 ≤ s ∧ s ≤ 63) (ha : 0 ≤ a ∧ a ≤ 63) : (andI a s == a) = subN a.toNat s.toNat := by
  have h := land_eq (s := s.toNat) (a := a.toNat) (by omega) (by omega)
  rw [show ((s.toNat : Nat) : Int) = s by omega, show ((a.toNat : Nat) : Int) = a by omega] at h
  unfold subN
  rw [h, Bool.eq_iff_iff, beq_iff_eq, beq_iff_eq]
  omega
/-- The lowest witness. -/
def lowN (s : Nat) : Nat := (andI (s : Int) (IntKind.i64.wrap (0 - (s : Int)))).toNat
theorem low_tab : ((List.range 64).all fun s => s == 0 || (subN (lowN s) s && decide (1 ≤ lowN s) && (andI (s : Int) (IntKind.i64.wrap (0 - (s : Int))) == (lowN s : Int)) && (!singF (s : Int) || (lowN s == s && popF (s : Int) == 1)))) = true := by kernel_rfl
theorem low_ok {s : Nat} (h0 : 1 ≤ s) (hs : s < 64) : subN (lowN s) s = true ∧ 1 ≤ lowN s ∧ andI (s : Int) (IntKind.i64.wrap (0 - (s : Int))) = (lowN s : Int) ∧ (singF (s : Int) = true → lowN s = s ∧ popF (s : Int) = 1) := by
  have h := List.all_eq_true.1 low_tab s (List.mem_range.2 hs)
  have hne : (s == 0) = false := by simp; omega
  rw [hne, Bool.false_or] at h
  simp only [Bool.and_eq_true, Bool.or_eq_true, decide_eq_true_eq, beq_iff_eq, Bool.not_eq_true'] at h
  refine ⟨h.1.1.1, h.1.1.2, h.1.2, fun e => ?_⟩
  rcases h.2 with h | h
  · rw [e] at h; cases h
  · exact h
theorem all_tab : ((List.range 7).all fun n => n == 0 || ((List.range 64).all fun s => !decide ((s : Int) ≤ allS (n : Int)) || subN s (allS (n : Int)).toNat) && (popF (allS (n : Int)) == n)) = true := by kernel_rfl
theorem all_sub {n : Nat} (h1 : 1 ≤ n) (h6 : n ≤ 6) : (∀ s : Nat, s < 64 → (s : Int) ≤ allS (n : Int) → subN s (allS (n : Int)).toNat = true) ∧ popF (allS (n : Int)) = n := by
  have h := List.all_eq_true.1 all_tab n (List.mem_range.2 (by omega))
  have hne : (n == 0) = false := by simp; omega
  rw [hne, Bool.false_or, Bool.and_eq_true] at h
  refine ⟨fun s hs hle => ?_, eq_of_beq h.2⟩
  have := List.all_eq_true.1 h.1 s (List.mem_range.2 hs)
  simpa [hle] using this
/-! ### Counting -/
def wN (p : Int → Bool) (cl : List Int) : Nat := (cl.map fun c => if p c then 1 else 0).sum
def inS (s : Int) (c : Int) : Bool := subN c.toNat s.toNat
theorem sum_le {f g : Int → Nat} : ∀ {cl : List Int}, (∀ c ∈ cl, f c ≤ g c) → (cl.map f).sum ≤ (cl.map g).sum
  | [], _ => Nat.le_refl _
  | c :: cl, h => by
    have h1 := h c (List.mem_cons_self ..)
    have h2 := sum_le (f := f) (g := g) (cl := cl) fun x hx => h x (List.mem_cons_of_mem _ hx)
    simp only [List.map_cons, List.sum_cons]; omega
theorem sum_eq {f g : Int → Nat} : ∀ {cl : List Int}, (∀ c ∈ cl, f c ≤ g c) → (cl.map g).sum ≤ (cl.map f).sum → ∀ c ∈ cl, f c = g c
  | [], _, _ => fun c hc => by cases hc
  | x :: cl, h, hs => by
    have h1 := h x (List.mem_cons_self ..)
    have h2 := sum_le (f := f) (g := g) (cl := cl) fun x hx => h x (List.mem_cons_of_mem _ hx)
    simp only [List.map_cons, List.sum_cons] at hs
    intro c hc
    rcases List.mem_cons.1 hc with rfl | hc
    · omega
    · exact sum_eq (f := f) (g := g) (cl := cl) (fun x hx => h x (List.mem_cons_of_mem _ hx)) (by omega) c hc
theorem sum_add {f g : Int → Nat} (cl : List Int) : (cl.map fun c => f c + g c).sum = (cl.map f).sum + (cl.map g).sum := by
  induction cl with
  | nil => rfl
  | cons c cl ih => simp only [List.map_cons, List.sum_cons, ih]; omega
theorem one_le {s : Int} {cl : List Int} (h : s ∈ cl) : 1 ≤ (cl.map fun c => if c = s then 1 else 0).sum := by
  induction cl with
  | nil => cases h
  | cons c cl ih =>
    simp only [List.map_cons, List.sum_cons]
    rcases List.mem_cons.1 h with rfl | h
    · rw [if_pos rfl]; omega
    · have := ih h; omega
section
variable {n : Nat} {cl : List Int} (hc : chkN n cl = 0)
include hc
theorem ok_le {s : Int} (h : OkS n cl s) : 1 ≤ s ∧ s ≤ 63 := ⟨h.1, Int.le_trans h.2.1 (all_in (n := (n : Int)) ⟨(chkN_ok hc).1, (chkN_ok hc).2.1⟩).2⟩
theorem ok_of {s : Int} (h : s ∈ cl) : OkS n cl s := by
  obtain ⟨h1, h6, hlen, hin⟩ := chkN_ok hc
  have h63 := hin s h
  refine ⟨h63.1, ?_, by unfold hasS; rw [Bool.or_eq_true]; left; rw [List.any_eq_true]; exact ⟨s, h, by simp⟩⟩
  obtain ⟨k, hk⟩ := List.getElem?_of_mem h
  have h4 : (List.range cl.length).all (cladeP (allS n) cl) = true := by
    have h := hc
    unfold chkN at h
    repeat (split at h; · cases h)
    rename_i h3 _ _
    simpa using h3
  exact (clade_le h4 hk).2
/-- What is known of a first part. -/
theorem first_part {s : Int} (h : OkS n cl s) (h1 : singF s = false) : s ∈ cl ∧ OkS n cl (splitF cl s) ∧ OkS n cl (s - splitF cl s) ∧ 1 ≤ splitF cl s ∧ splitF cl s < s ∧ subN (splitF cl s).toNat s.toNat = true ∧ lowS (splitF cl s) s = true := by
  have hle := ok_le hc h
  have hin : s ∈ cl := by
    have h4 := h.2.2
    unfold hasS at h4
    rw [h1, Bool.or_false, List.any_eq_true] at h4
    obtain ⟨c, hc2, e⟩ := h4
    have : c = s := by simpa using e
    exact this ▸ hc2
  have hz : (andI s (IntKind.i64.wrap (s - 1)) == 0) = false := by
    unfold singF at h1
    rw [decide_eq_true (show s > 0 by omega), Bool.true_and] at h1
    exact h1
  obtain ⟨o1, o2, o3, o4⟩ := ok_parts hc h hz
  obtain ⟨a1, a2, a3⟩ := split_spec (chkN_split hc s hin) (Nat.le_refl 1)
  have a3 : splitP cl s (splitF cl s) = true := a3
  unfold splitP at a3
  simp only [Bool.and_eq_true] at a3
  refine ⟨hin, o1, o2, o3, o4, ?_, a3.1.1.2⟩
  rw [← sub_I (by omega) (by omega)]
  exact a3.1.1.1
theorem cnt_low : ∀ (m : Nat) (s : Int), s.toNat ≤ m → OkS n cl s → popF s ≤ wN (inS s) cl + 1
  | 0, s, hm, h => by have := h.1; omega
  | m + 1, s, hm, h => by
    have hle := ok_le hc h
    cases h1 : singF s with
    | true =>
      have := (low_ok (s := s.toNat) (by omega) (by omega)).2.2.2
      rw [show ((s.toNat : Nat) : Int) = s by omega] at this
      have := (this h1).2
      omega
    | false =>
      obtain ⟨hin, o1, o2, o3, o4, o5, _⟩ := first_part hc h h1
      have i1 := cnt_low m _ (by omega) o1
      have i2 := cnt_low m _ (by omega) o2
      obtain ⟨q1, q2, q3⟩ := pair_ok (by omega) (by omega) o5
      rw [show (((splitF cl s).toNat : Nat) : Int) = splitF cl s by omega, show ((s.toNat - (splitF cl s).toNat : Nat) : Int) = s - splitF cl s by omega, show ((s.toNat : Nat) : Int) = s by omega] at q3
      have hone := one_le hin
      have hpt : ∀ c ∈ cl, ((if c = s then 1 else 0) + ((if inS (splitF cl s) c then 1 else 0) + (if inS (s - splitF cl s) c then 1 else 0)) : Nat) ≤ if inS s c then 1 else 0 := fun c hcm => by
        have hcle := (chkN_ok hc).2.2.2 c hcm
        unfold inS
        by_cases e : c = s
        · subst e
          rw [if_pos rfl, if_pos (sub_refl _), if_neg, if_neg]
          · omega
          · intro g; have := sub_le g; omega
          · intro g; have := sub_le g; omega
        · rw [if_neg e]
          by_cases g1 : subN c.toNat (splitF cl s).toNat = true
          · rw [if_pos g1, if_pos (sub_trans g1 o5), if_neg]
            · omega
            · intro g2
              have g2 : subN c.toNat (s.toNat - (splitF cl s).toNat) = true := by rw [← show (s - splitF cl s).toNat = s.toNat - (splitF cl s).toNat by omega]; exact g2
              have := sub_both g1 g2 q1
              omega
          · rw [if_neg g1]
            by_cases g2 : subN c.toNat (s - splitF cl s).toNat = true
            · rw [if_pos g2, if_pos (sub_trans (by rw [show s.toNat - (splitF cl s).toNat = (s - splitF cl s).toNat by omega] at q2; exact g2) (by rw [show (s - splitF cl s).toNat = s.toNat - (splitF cl s).toNat by omega]; exact q2))]
              omega
            · rw [if_neg g2]; omega
      have hs := sum_le hpt
      rw [sum_add, sum_add] at hs
      unfold wN at *
      omega
/-- As many clades within it as can be. -/
def Full (n : Nat) (cl : List Int) (s : Int) : Prop := OkS n cl s ∧ wN (inS s) cl + 1 = popF s
theorem full_all : Full n cl (allS n) := by
  obtain ⟨h1, h6, hlen, hin⟩ := chkN_ok hc
  obtain ⟨g1, g2⟩ := all_sub (n := n) (by omega) (by omega)
  refine ⟨ok_all hc, ?_⟩
  have : wN (inS (allS n)) cl = cl.length := by
    unfold wN
    have : ∀ l : List Int, (∀ c ∈ l, c ∈ cl) → (l.map fun c => if inS (allS n) c then 1 else 0).sum = l.length := by
      intro l
      induction l with
      | nil => intro _; rfl
      | cons c l ih =>
        intro hl
        have hcm := hl c (List.mem_cons_self ..)
        have hle := hin c hcm
        have := (ok_of hc hcm).2.1
        simp only [List.map_cons, List.sum_cons, List.length_cons, ih fun x hx => hl x (List.mem_cons_of_mem _ hx)]
        have hs : inS (allS n) c = true := g1 c.toNat (by omega) (by omega)
        rw [if_pos hs]; omega
    exact this cl fun _ h => h
  omega
theorem full_part {s : Int} (h : Full n cl s) (h1 : singF s = false) : Full n cl (splitF cl s) ∧ Full n cl (s - splitF cl s) ∧ ∀ c ∈ cl, inS s c = true → c = s ∨ inS (splitF cl s) c = true ∨ inS (s - splitF cl s) c = true := by
  have hle := ok_le hc h.1
  obtain ⟨hin, o1, o2, o3, o4, o5, _⟩ := first_part hc h.1 h1
  obtain ⟨q1, q2, q3⟩ := pair_ok (by omega) (by omega) o5
  rw [show (((splitF cl s).toNat : Nat) : Int) = splitF cl s by omega, show ((s.toNat - (splitF cl s).toNat : Nat) : Int) = s - splitF cl s by omega, show ((s.toNat : Nat) : Int) = s by omega] at q3
  have hone := one_le hin
  have i1 := cnt_low hc _ _ (Nat.le_refl _) o1
  have i2 := cnt_low hc _ _ (Nat.le_refl _) o2
  have hpt : ∀ c ∈ cl, ((if c = s then 1 else 0) + ((if inS (splitF cl s) c then 1 else 0) + (if inS (s - splitF cl s) c then 1 else 0)) : Nat) ≤ if inS s c then 1 else 0 := fun c hcm => by
    have hcle := (chkN_ok hc).2.2.2 c hcm
    unfold inS
    by_cases e : c = s
    · subst e
      rw [if_pos rfl, if_pos (sub_refl _), if_neg, if_neg]
      · omega
      · intro g; have := sub_le g; omega
      · intro g; have := sub_le g; omega
    · rw [if_neg e]
      by_cases g1 : subN c.toNat (splitF cl s).toNat = true
      · rw [if_pos g1, if_pos (sub_trans g1 o5), if_neg]
        · omega
        · intro g2
          have g2 : subN c.toNat (s.toNat - (splitF cl s).toNat) = true := by rw [← show (s - splitF cl s).toNat = s.toNat - (splitF cl s).toNat by omega]; exact g2
          have := sub_both g1 g2 q1
          omega
      · rw [if_neg g1]
        by_cases g2 : subN c.toNat (s - splitF cl s).toNat = true
        · rw [if_pos g2, if_pos (sub_trans (by rw [show s.toNat - (splitF cl s).toNat = (s - splitF cl s).toNat by omega] at q2; exact g2) (by rw [show (s - splitF cl s).toNat = s.toNat - (splitF cl s).toNat by omega]; exact q2))]
          omega
        · rw [if_neg g2]; omega
  have hs := sum_le hpt
  rw [sum_add, sum_add] at hs
  have hf := h.2
  refine ⟨⟨o1, ?_⟩, ⟨o2, ?_⟩, fun c hcm hsc => ?_⟩
  · unfold wN at *; omega
  · unfold wN at *; omega
  · have he := sum_eq hpt (by rw [sum_add, sum_add]; unfold wN at *; omega) c hcm
    by_cases e : c = s
    · exact .inl e
    · rw [if_neg e, if_pos hsc] at he
      by_cases g1 : inS (splitF cl s) c = true
      · exact .inr (.inl g1)
      · rw [if_neg g1] at he
        by_cases g2 : inS (s - splitF cl s) c = true
        · exact .inr (.inr g2)
        · rw [if_neg g2] at he; omega
theorem full_in : ∀ (m : Nat) (s : Int), s.toNat ≤ m → Full n cl s → ∀ c ∈ cl, inS s c = true → Full n cl c
  | 0, s, hm, h => by have := h.1.1; omega
  | m + 1, s, hm, h => fun c hcm hsc => by
    have hle := ok_le hc h.1
    have hcle := (chkN_ok hc).2.2.2 c hcm
    by_cases e : c = s
    · exact e ▸ h
    · cases h1 : singF s with
      | true =>
        have := (low_ok (s := s.toNat) (by omega) (by omega)).2.2.2
        rw [show ((s.toNat : Nat) : Int) = s by omega] at this
        have hp := (this h1).2
        have hf := h.2
        have hz : ∀ l : List Int, c ∈ l → 1 ≤ wN (inS s) l := by
          intro l
          induction l with
          | nil => intro h; cases h
          | cons x l ih =>
            intro hx
            unfold wN at *
            simp only [List.map_cons, List.sum_cons]
            rcases List.mem_cons.1 hx with rfl | hx
            · rw [if_pos hsc]; omega
            · have := ih hx; omega
        have := hz cl hcm
        omega
      | false =>
        obtain ⟨f1, f2, f3⟩ := full_part hc h h1
        obtain ⟨_, o1, o2, o3, o4, _, _⟩ := first_part hc h.1 h1
        rcases f3 c hcm hsc with e' | g | g
        · exact absurd e' e
        · exact full_in m _ (by omega) f1 c hcm g
        · exact full_in m _ (by omega) f2 c hcm g
theorem full_of {c : Int} (h : c ∈ cl) : Full n cl c := by
  obtain ⟨h1, h6, hlen, hin⟩ := chkN_ok hc
  have hle := hin c h
  exact full_in hc _ _ (Nat.le_refl _) (full_all hc) c h ((all_sub (n := n) (by omega) (by omega)).1 c.toNat (by omega) (by have := (ok_of hc h).2.1; omega))
theorem split_uniq {s a : Int} (hs : s ∈ cl) (h1 : singF s = false) (ha : 1 ≤ a ∧ a < s) (h : splitP cl s a = true) : a = splitF cl s := by
  have hle := (chkN_ok hc).2.2.2 s hs
  obtain ⟨_, _, f3⟩ := full_part hc (full_of hc hs) h1
  obtain ⟨_, o1, o2, o3, o4, o5, o6⟩ := first_part hc (ok_of hc hs) h1
  obtain ⟨q1, q2, q3⟩ := pair_ok (by omega) (by omega) o5
  generalize splitF cl s = b at *
  unfold splitP at h
  simp only [Bool.and_eq_true] at h
  obtain ⟨⟨⟨k1, k2⟩, k3⟩, k4⟩ := h
  rw [sub_I (by omega) (by omega)] at k1
  obtain ⟨p1, p2, p3⟩ := pair_ok (by omega) (by omega) k1
  have la := low_ok (s := a.toNat) (by omega) (by omega)
  have lb := low_ok (s := b.toNat) (by omega) (by omega)
  have ls := low_ok (s := s.toNat) (by omega) (by omega)
  rw [show ((a.toNat : Nat) : Int) = a by omega] at la
  rw [show ((b.toNat : Nat) : Int) = b by omega] at lb
  rw [show ((s.toNat : Nat) : Int) = s by omega] at ls
  unfold lowS at k2 o6
  rw [beq_iff_eq, la.2.2.1, ls.2.2.1] at k2
  rw [beq_iff_eq, lb.2.2.1, ls.2.2.1] at o6
  have eab : lowN a.toNat = lowN b.toNat := by omega
  have esb : (s - b).toNat = s.toNat - b.toNat := by omega
  have esa : (s - a).toNat = s.toNat - a.toNat := by omega
  -- a lies within b
  have hab : subN a.toNat b.toNat = true := by
    cases hsa : singF a with
    | true =>
      have := (la.2.2.2 hsa).1
      rw [← this, eab]; exact lb.1
    | false =>
      unfold hasS at k3
      rw [hsa, Bool.or_false, List.any_eq_true] at k3
      obtain ⟨c, hcm, e⟩ := k3
      have : c = a := by simpa using e
      subst this
      rcases f3 c hcm k1 with e | g | g
      · omega
      · exact g
      · exfalso
        have g : subN c.toNat (s.toNat - b.toNat) = true := by rw [← esb]; exact g
        have := sub_both (sub_trans (eab ▸ la.1 : subN (lowN b.toNat) c.toNat = true) g) lb.1 (by rw [Nat.and_comm]; exact q1)
        have := la.2.1
        omega
  have hle2 := sub_le hab
  -- what is left of b lies within what is left of a
  have hbb : subN (s.toNat - b.toNat) (s.toNat - a.toNat) = true := by
    by_cases e : (s.toNat - b.toNat) < 64 ∧ (s.toNat - a.toNat) < 64
    · have : ∀ x y z : Nat, x < 64 → y < 64 → z < 64 → subN x z = true → subN y z = true → subN x y = true → subN (z - y) (z - x) = true := by
        intro x y z _ _ hz hx hy hxy
        have e1 : ∀ u v : Nat, v < 64 → subN u v = true → v - u = v ^^^ u := by
          intro u v hv hu
          have hu64 : u < 64 := Nat.lt_of_le_of_lt (sub_le hu) hv
          have ht : ((List.range 64).all fun v => (List.range 64).all fun u => !subN u v || (v - u == v ^^^ u)) = true := by kernel_rfl
          have h0 := List.all_eq_true.1 ht v (List.mem_range.2 hv)
          have h0 := List.all_eq_true.1 h0 u (List.mem_range.2 hu64)
          rw [hu] at h0
          simpa using h0
        rw [e1 _ _ hz hy, e1 _ _ hz hx]
        unfold subN at *
        rw [beq_iff_eq] at *
        apply Nat.eq_of_testBit_eq
        intro i
        have t1 := congrArg (fun q => Nat.testBit q i) hx
        have t2 := congrArg (fun q => Nat.testBit q i) hy
        have t3 := congrArg (fun q => Nat.testBit q i) hxy
        simp only [Nat.testBit_and, Nat.testBit_xor] at *
        revert t1 t2 t3
        cases x.testBit i <;> cases y.testBit i <;> cases z.testBit i <;> simp
      exact this a.toNat b.toNat s.toNat (by omega) (by omega) (by omega) k1 o5 hab
    · omega
  have hpos : 1 ≤ s.toNat - b.toNat := by omega
  have hba : subN (s.toNat - a.toNat) (s.toNat - b.toNat) = true := by
    cases hsa : singF (s - a) with
    | true =>
      have l1 := low_ok (s := s.toNat - a.toNat) (by omega) (by omega)
      have l2 := low_ok (s := s.toNat - b.toNat) (by omega) (by omega)
      rw [show ((s.toNat - a.toNat : Nat) : Int) = s - a by omega] at l1
      have l3 := (l1.2.2.2 hsa).2
      -- one witness: what lies within it is it
      have ht : ((List.range 64).all fun v => (List.range 64).all fun u => !subN u v || u == 0 || !(popF (v : Int) == 1) || (v == u)) = true := by kernel_rfl
      have h0 := List.all_eq_true.1 ht (s.toNat - a.toNat) (List.mem_range.2 (by omega))
      have h0 := List.all_eq_true.1 h0 (s.toNat - b.toNat) (List.mem_range.2 (by omega))
      rw [hbb, show ((s.toNat - a.toNat : Nat) : Int) = s - a by omega, l3, show ((s.toNat - b.toNat) == 0) = false by simp; omega] at h0
      have h0 : s.toNat - a.toNat = s.toNat - b.toNat := by simpa using h0
      rw [h0]; exact sub_refl _
    | false =>
      unfold hasS at k4
      rw [hsa, Bool.or_false, List.any_eq_true] at k4
      obtain ⟨c, hcm, e⟩ := k4
      have : c = s - a := by simpa using e
      subst this
      rcases f3 _ hcm (by unfold inS; rw [esa]; exact p2) with e | g | g
      · omega
      · exfalso
        unfold inS at g
        rw [esa] at g
        have := sub_both (sub_trans hbb g) (sub_refl (s.toNat - b.toNat)) q1
        omega
      · unfold inS at g
        rw [esa, esb] at g; exact g
  have := sub_anti hbb hba
  omega
omit hc in
theorem mem_subT {s a : Int} (h0 : 0 ≤ s) : a ∈ subT s.toNat → (1 ≤ a ∧ a < s) ∧ andI a s = a := fun h => by
  unfold subT at h
  obtain ⟨h1, h2⟩ := List.mem_filter.1 h
  obtain ⟨k, hk, rfl⟩ := List.mem_map.1 h1
  have := List.mem_range'_1.1 hk
  rw [show ((s.toNat : Nat) : Int) = s by omega] at h2
  exact ⟨by omega, eq_of_beq h2⟩
theorem parts_eq {s : Int} (hs : s ∈ cl) (h1 : singF s = false) : partA cl s = splitF cl s ∧ partB cl s = s - splitF cl s ∧ (partF cl s).isSome = true := by
  have hle := (chkN_ok hc).2.2.2 s hs
  have hne := chkN_split hc s hs
  have hsome := part_some (cl := cl) hle
  have hsm : (partF cl s).isSome = true := by rw [hsome]; simpa using hne
  obtain ⟨a, hpa⟩ := Option.isSome_iff_exists.1 hsm
  have htab := List.all_eq_true.1 sub_tab s.toNat (List.mem_range.2 (by omega))
  rw [Bool.and_eq_true, decide_eq_true_eq, show ((s.toNat : Nat) : Int) = s by omega] at htab
  have hf := hpa
  unfold partF at hf
  rw [partR_find, htab.1] at hf
  have hp := List.find?_some hf
  have hm := List.mem_reverse.1 (List.mem_of_find?_eq_some hf)
  obtain ⟨hr, ha⟩ := mem_subT (s := s) (by omega) hm
  have hl : lessI s a = s - a := by simpa using List.all_eq_true.1 htab.2 a hm
  rw [part_eq ha hl] at hp
  have := split_uniq hc hs h1 hr hp
  unfold partA partB
  rw [hpa]
  exact ⟨this, by rw [← this]; exact hl, rfl⟩
end
end Go.Proofs.YthcffaheamikgaaDoor
end
section
namespace Go.Proofs.YthcffaheamikgaaDoor
open Go Go.Kn Go.Proofs
def ImO (I : HMap) (r : Nat) (o : Obj) : Prop := I r = some o
theorem ImO.mono {I I' : HMap} {r : Nat} {o : Obj} (h : ImO I r o) (hI : HLe I I') : ImO I' r o := hI _ _ h
def MapQ (st cs : List Int) (b : Int) : Value → HMap → Go.Kn.Loc → Prop := fun v I' L => L = [] ∧ ∃ r m, v = .map (some r) ∧ ImO I' r (mapO eiv eiv m) ∧ MapR st cs b m
theorem st_fold_mem : ∀ (ns out : List Int) (x : Int), x ∈ ns.foldl stS out ↔ x ∈ out ∨ (x ∈ ns ∧ x ≠ 8589934592)
  | [], out, x => by simp
  | n :: ns, out, x => by
    rw [List.foldl_cons, st_fold_mem ns]
    have : x ∈ stS out n ↔ x ∈ out ∨ (x = n ∧ n ≠ 8589934592) := by
      unfold stS
      split
      · rename_i h
        rw [Bool.or_eq_true, List.any_eq_true] at h
        constructor
        · exact fun h => .inl h
        · rintro (h2 | ⟨rfl, h2⟩)
          · exact h2
          · rcases h with h | ⟨y, hy, e⟩
            · exact absurd (eq_of_beq h) h2
            · rw [← eq_of_beq e]; exact hy
      · rename_i h
        rw [Bool.or_eq_true, not_or] at h
        rw [List.mem_append, List.mem_singleton]
        constructor
        · rintro (h2 | rfl)
          · exact .inl h2
          · exact .inr ⟨rfl, fun e => h.1 (by rw [e]; rfl)⟩
        · rintro (h2 | ⟨rfl, _⟩)
          · exact .inl h2
          · exact .inr rfl
    rw [this, List.mem_cons]
    constructor
    · rintro ((h | ⟨rfl, h⟩) | ⟨h, h2⟩)
      · exact .inl h
      · exact .inr ⟨.inl rfl, h⟩
      · exact .inr ⟨.inr h, h2⟩
    · rintro (h | ⟨rfl | h, h2⟩)
      · exact .inl (.inl h)
      · exact .inl (.inr ⟨rfl, h2⟩)
      · exact .inr ⟨h, h2⟩
theorem st_fold_nd : ∀ (ns out : List Int), out.Nodup → (ns.foldl stS out).Nodup
  | [], _, h => h
  | n :: ns, out, h => by
    rw [List.foldl_cons]
    refine st_fold_nd ns _ ?_
    unfold stS
    split
    · exact h
    · rename_i h2
      rw [Bool.or_eq_true, not_or, List.any_eq_true] at h2
      refine List.nodup_append.2 ⟨h, by simp, fun a ha b hb e => ?_⟩
      simp at hb
      subst hb; subst e
      exact h2.2 ⟨a, ha, by simp⟩
theorem st_nd (rows : List (List Int)) (l : Nat) : (statesF rows l).Nodup := st_fold_nd _ _ (by simp)
theorem st_mem {rows : List (List Int)} {l : Nat} {x : Int} : x ∈ statesF rows l ↔ x = 0 ∨ ((∃ r ∈ rows, r.getD l 0 = x) ∧ x ≠ 8589934592) := by
  unfold statesF
  rw [st_fold_mem]
  simp
/-- The map of states. -/
def stM (rows : List (List Int)) (l : Nat) : List (Int × Int) := (statesF rows l).map fun x => (x, 0)
theorem stM_key (rows : List (List Int)) (l : Nat) : (stM rows l).map (·.1) = statesF rows l := by unfold stM; simp [Function.comp_def]
theorem stM_at {rows : List (List Int)} {l i : Nat} {p : Int × Int} (h : (stM rows l)[i]? = some p) : p.1 ∈ statesF rows l ∧ p.2 = 0 := by
  unfold stM at h
  rw [List.getElem?_map] at h
  obtain ⟨x, hx, rfl⟩ := Option.map_eq_some_iff.1 h
  exact ⟨List.mem_of_getElem? hx, rfl⟩
def visK (rows : List (List Int)) (l : Nat) (seen : List Nat) : List Int := (visO (stM rows l) seen).map (·.1)
theorem visK_snoc {rows : List (List Int)} {l i : Nat} {seen : List Nat} {p : Int × Int} (h : (stM rows l)[i]? = some p) : visK rows l (seen ++ [i]) = visK rows l seen ++ [p.1] := by unfold visK; rw [vis_snoc h, List.map_append]; rfl
theorem visK_new {rows : List (List Int)} {l i : Nat} {seen : List Nat} {p : Int × Int} (h : (stM rows l)[i]? = some p) (hs : i ∉ seen) : p.1 ∉ visK rows l seen := fun hm => by
  obtain ⟨q, hq, e⟩ := List.mem_map.1 hm
  obtain ⟨j, hj, hqj⟩ := vis_mem.1 hq
  have hnd := st_nd rows l
  rw [← stM_key] at hnd
  have h1 : ((stM rows l).map (·.1))[i]? = some p.1 := by rw [List.getElem?_map, h]; rfl
  have h2 : ((stM rows l).map (·.1))[j]? = some p.1 := by rw [List.getElem?_map, hqj, ← e]; rfl
  obtain ⟨g1, e1⟩ := List.getElem?_eq_some_iff.1 h1
  obtain ⟨g2, e2⟩ := List.getElem?_eq_some_iff.1 h2
  have := (List.getElem_inj hnd).1 (show ((stM rows l).map (·.1))[i] = ((stM rows l).map (·.1))[j] by rw [e1, e2])
  exact hs (this ▸ hj)
theorem visK_old {rows : List (List Int)} {l : Nat} {seen : List Nat} {x : Int} (h : x ∈ visK rows l seen) : x ∈ statesF rows l := by
  obtain ⟨q, hq, rfl⟩ := List.mem_map.1 h
  obtain ⟨j, _, hqj⟩ := vis_mem.1 hq
  exact (stM_at hqj).1
theorem visK_all {rows : List (List Int)} {l : Nat} {seen : List Nat} (hnd : seen.Nodup) (hlt : ∀ i ∈ seen, i < (stM rows l).length) (hall : ∀ i (p : Int × Int), (stM rows l)[i]? = some p → i ∈ seen) (x : Int) : x ∈ visK rows l seen ↔ x ∈ statesF rows l := by
  have := (vis_all hnd hlt hall).map (fun p => p.1)
  rw [stM_key] at this
  exact this.mem_iff
/-! ### A single witness -/
def leafM (rows : List (List Int)) (l : Nat) (u : Int) (seen : List Nat) (x : Int) : Option Int := if x ∈ visK rows l seen ∧ leafG u x = 0 then some 0 else none
theorem leafM_nil {rows : List (List Int)} {l : Nat} {u : Int} : MapF [] (leafM rows l u []) := MapF.nil.congr fun x => by unfold leafM visK visO; simp
theorem leafM_yes {rows : List (List Int)} {l : Nat} {u : Int} {seen : List Nat} {i : Nat} {p : Int × Int} {m : List (Int × Int)} (h : MapF m (leafM rows l u seen)) (hp : (stM rows l)[i]? = some p) (hg : leafG u p.1 = 0) : MapF (mset m p.1 0) (leafM rows l u (seen ++ [i])) :=
  (h.set p.1 0).congr fun x => by
    unfold leafM
    rw [visK_snoc hp]; simp only [List.mem_append, List.mem_singleton]
    by_cases e : p.1 = x
    · subst e
      rw [if_pos rfl, if_pos ⟨.inr rfl, hg⟩]
    · rw [if_neg e]
      by_cases g : x ∈ visK rows l seen ∧ leafG u x = 0
      · rw [if_pos g, if_pos ⟨.inl g.1, g.2⟩]
      · rw [if_neg g, if_neg]
        rintro ⟨h1 | h1, h2⟩
        · exact g ⟨h1, h2⟩
        · exact e h1.symm
theorem leafM_no {rows : List (List Int)} {l : Nat} {u : Int} {seen : List Nat} {i : Nat} {p : Int × Int} {m : List (Int × Int)} (h : MapF m (leafM rows l u seen)) (hp : (stM rows l)[i]? = some p) (hg : leafG u p.1 ≠ 0) : MapF m (leafM rows l u (seen ++ [i])) :=
  h.congr fun x => by
    unfold leafM
    rw [visK_snoc hp]; simp only [List.mem_append, List.mem_singleton]
    by_cases g : x ∈ visK rows l seen ∧ leafG u x = 0
    · rw [if_pos g, if_pos ⟨.inl g.1, g.2⟩]
    · rw [if_neg g, if_neg]
      rintro ⟨h1 | h1, h2⟩
      · exact g ⟨h1, h2⟩
      · subst h1; exact hg h2
theorem leaf_g0 {u x : Int} (h : (u == x || u == 8589934592) = true) : leafG u x = 0 := by
  unfold leafG
  rw [if_neg]
  rw [Bool.or_eq_true, beq_iff_eq, beq_iff_eq] at h
  simp only [Bool.and_eq_true, decide_eq_true_eq]
  rintro ⟨h1, h2⟩
  rcases h with h | h
  · exact h2 h
  · exact h1 h
theorem leaf_g1 {u x : Int} (h : (u == x || u == 8589934592) = false) : leafG u x = 1048576 ∧ leafG u x ≠ 0 := by
  have : leafG u x = 1048576 := by
    unfold leafG
    rw [if_pos]
    rw [Bool.or_eq_false_iff, beq_eq_false_iff_ne, beq_eq_false_iff_ne] at h
    simp only [Bool.and_eq_true, decide_eq_true_eq]
    exact ⟨h.2, h.1⟩
  exact ⟨this, by omega⟩
theorem leaf_end {rows : List (List Int)} {l w : Nat} {v : List Int} {seen : List Nat} {m : List (Int × Int)} {b : Int} (hb : 0 ≤ b) (hv : rows[w]? = some v) (h : MapF m (leafM rows l (v.getD l 0) seen)) (hnd : seen.Nodup) (hlt : ∀ i ∈ seen, i < (stM rows l).length) (hall : ∀ i (p : Int × Int), (stM rows l)[i]? = some p → i ∈ seen) :
    MapR (statesF rows l) ((statesF rows l).map (leafG ((rows.getD w []).getD l 0))) b m := by
  rw [getD_of hv]
  have hgv : ∀ x, leafG (v.getD l 0) x = 0 ∨ leafG (v.getD l 0) x = 1048576 := fun x => by
    cases e : (v.getD l 0 == x || v.getD l 0 == 8589934592) with
    | true => exact .inl (leaf_g0 e)
    | false => exact .inr (leaf_g1 e).1
  refine ⟨by rw [List.length_map], h.nd, fun i x c hx hcx => ?_, fun p hp => ?_, ?_, fun c hcm => ?_⟩
  · rw [List.getElem?_map, hx] at hcx
    simp only [Option.map_some, Option.some.injEq] at hcx
    subst hcx
    rw [h.get]
    unfold leafM
    have hin := (visK_all hnd hlt hall x).2 (List.mem_of_getElem? hx)
    rcases hgv x with e | e
    · rw [if_pos ⟨hin, e⟩, e, if_pos (by omega)]
    · rw [if_neg (fun g => by omega), e, if_neg (by omega)]
  · have := h.mem hp
    unfold leafM at this
    split at this
    · rename_i g; exact visK_old g.1
    · cases this
  · by_cases e : v.getD l 0 = 8589934592
    · refine ⟨leafG (v.getD l 0) 0, List.mem_map.2 ⟨0, st_mem.2 (.inl rfl), rfl⟩, ?_⟩
      rw [leaf_g0 (by rw [e]; simp)]; omega
    · refine ⟨leafG (v.getD l 0) (v.getD l 0), List.mem_map.2 ⟨v.getD l 0, st_mem.2 (.inr ⟨⟨v, List.mem_of_getElem? hv, rfl⟩, e⟩), rfl⟩, ?_⟩
      rw [leaf_g0 (by simp)]; omega
  · obtain ⟨x, _, rfl⟩ := List.mem_map.1 hcm
    rcases hgv x with e | e <;> rw [e] <;> omega
/-! ### Two parts -/
def totF (st ca cb : List Int) (j : Nat) (x : Int) : Int := (if 1 ≤ j then belowF st ca x else 0) + (if 2 ≤ j then belowF st cb x else 0)
def gF (st ca cb : List Int) (j : Nat) (x : Int) : Option Int := if x ∈ st ∧ 1 ≤ j then some (totF st ca cb j x) else none
def hF (rows : List (List Int)) (l : Nat) (ca cb : List Int) (j : Nat) (seen : List Nat) (x : Int) : Option Int := if x ∈ visK rows l seen then some (totF (statesF rows l) ca cb (j + 1) x) else gF (statesF rows l) ca cb j x
theorem gF_0 {st ca cb : List Int} : MapF [] (gF st ca cb 0) := MapF.nil.congr fun x => by unfold gF; rw [if_neg (fun h => by omega)]
theorem hF_0 {rows : List (List Int)} {l j : Nat} {ca cb : List Int} {m : List (Int × Int)} (h : MapF m (gF (statesF rows l) ca cb j)) : MapF m (hF rows l ca cb j []) := h.congr fun x => by unfold hF visK visO; simp
theorem hF_end {rows : List (List Int)} {l j : Nat} {ca cb : List Int} {m : List (Int × Int)} {seen : List Nat} (h : MapF m (hF rows l ca cb j seen)) (hnd : seen.Nodup) (hlt : ∀ i ∈ seen, i < (stM rows l).length) (hall : ∀ i (p : Int × Int), (stM rows l)[i]? = some p → i ∈ seen) : MapF m (gF (statesF rows l) ca cb (j + 1)) :=
  h.congr fun x => by
    unfold hF
    by_cases g : x ∈ visK rows l seen
    · rw [if_pos g]; unfold gF; rw [if_pos ⟨visK_old g, by omega⟩]
    · have g' : x ∉ statesF rows l := fun e => g ((visK_all hnd hlt hall x).2 e)
      rw [if_neg g]; unfold gF; rw [if_neg (fun e => g' e.1), if_neg (fun e => g' e.1)]
theorem hF_at {rows : List (List Int)} {l j : Nat} {ca cb : List Int} {m : List (Int × Int)} {seen : List Nat} {i : Nat} {p : Int × Int} (h : MapF m (hF rows l ca cb j seen)) (hp : (stM rows l)[i]? = some p) (hs : i ∉ seen) : (mget m p.1).getD 0 = totF (statesF rows l) ca cb j p.1 := by
  rw [h.get]
  unfold hF
  rw [if_neg (visK_new hp hs)]
  unfold gF
  by_cases e : 1 ≤ j
  · rw [if_pos ⟨(stM_at hp).1, e⟩]; rfl
  · rw [if_neg (fun g => e g.2)]
    unfold totF
    rw [if_neg e, if_neg (by omega)]; rfl
theorem tot_step {st ca cb : List Int} {j : Nat} {x : Int} (hj : j < 2) : totF st ca cb j x + belowF st (if j = 0 then ca else cb) x = totF st ca cb (j + 1) x := by
  unfold totF
  rcases (show j = 0 ∨ j = 1 by omega) with e | e <;> subst e <;> simp
theorem hF_set {rows : List (List Int)} {l j : Nat} {ca cb : List Int} {m : List (Int × Int)} {seen : List Nat} {i : Nat} {p : Int × Int} (h : MapF m (hF rows l ca cb j seen)) (hp : (stM rows l)[i]? = some p) : MapF (mset m p.1 (totF (statesF rows l) ca cb (j + 1) p.1)) (hF rows l ca cb j (seen ++ [i])) :=
  (h.set p.1 _).congr fun x => by
    unfold hF
    rw [visK_snoc hp]; simp only [List.mem_append, List.mem_singleton]
    by_cases e : p.1 = x
    · subst e
      rw [if_pos rfl, if_pos (.inr rfl)]
    · rw [if_neg e]
      by_cases g : x ∈ visK rows l seen
      · rw [if_pos g, if_pos (.inl g)]
      · rw [if_neg g, if_neg]
        rintro (h1 | h1)
        · exact g h1
        · exact e h1.symm
theorem two_end {st ca cb : List Int} {ba bb b : Int} {ma mb m : List (Int × Int)} (hne : st ≠ []) (hA : MapR st ca ba ma) (hB : MapR st cb bb mb) (h1 : ba ≤ 1000) (h2 : bb ≤ 1000) (hb : ba + bb + 8 ≤ b) (h : MapF m (gF st ca cb 2)) : MapR st (st.map (twoG st ca cb)) b m := by
  have ha : ∀ x, 0 ≤ belowF st ca x ∧ belowF st ca x ≤ ba + 4 := fun x => by
    have := below_eq hA h1 (.refl _) x
    exact ⟨this.2.1, this.2.2.1⟩
  have hbb : ∀ x, 0 ≤ belowF st cb x ∧ belowF st cb x ≤ bb + 4 := fun x => by
    have := below_eq hB h2 (.refl _) x
    exact ⟨this.2.1, this.2.2.1⟩
  have hlt : ∀ x, 0 ≤ twoG st ca cb x ∧ twoG st ca cb x < 1048576 ∧ twoG st ca cb x ≤ b := fun x => by
    have := ha x; have := hbb x
    unfold twoG; omega
  refine ⟨by rw [List.length_map], h.nd, fun i x c hx hcx => ?_, fun p hp => ?_, ?_, fun c hcm => ?_⟩
  · rw [List.getElem?_map, hx] at hcx
    simp only [Option.map_some, Option.some.injEq] at hcx
    subst hcx
    rw [h.get, if_pos (hlt x).2.1]
    unfold gF
    rw [if_pos ⟨List.mem_of_getElem? hx, by omega⟩]
    unfold totF twoG; simp
  · have := h.mem hp
    unfold gF at this
    split at this
    · rename_i g; exact g.1
    · cases this
  · obtain ⟨x, hx⟩ := List.exists_mem_of_ne_nil st hne
    exact ⟨_, List.mem_map.2 ⟨x, hx, rfl⟩, (hlt x).2.1⟩
  · obtain ⟨x, _, rfl⟩ := List.mem_map.1 hcm
    have := hlt x
    exact ⟨this.1, fun _ => this.2.2, by omega⟩
/-- The least of all entries. -/
theorem ent_least {st cs : List Int} {b : Int} {m vs : List (Int × Int)} (h : MapR st cs b m) (hp : vs.Perm m) : leastF (vs.map (·.2)) = leastF cs := by
  obtain ⟨c, hc, hlt⟩ := h.pos
  have hne : cs ≠ [] := List.ne_nil_of_mem hc
  obtain ⟨h1, h2⟩ := least_in hne
  have h3 := h2 c hc
  obtain ⟨i, hi⟩ := List.getElem?_of_mem h1
  have hil := (List.getElem?_eq_some_iff.1 hi).1
  have hx : st[i]? = some (st[i]'(by rw [← h.len]; exact hil)) := List.getElem?_eq_getElem _
  have hm := h.ent.2 ⟨i, hx, hi, by omega⟩
  refine least_eq (List.mem_map.2 ⟨_, hp.mem_iff.2 hm, rfl⟩) (fun x hx => ?_)
  obtain ⟨p, hpm, rfl⟩ := List.mem_map.1 hx
  obtain ⟨j, _, hj, _⟩ := (h.ent (x := p.1) (c := p.2)).1 (hp.mem_iff.1 hpm)
  exact h2 _ (List.mem_of_getElem? hj)
section
variable {C : Cx} {E : Env} {I : HMap} {loc : Go.Kn.Loc} {S : GS} {dst : Option Tmp} {ty : TypeId} {pos : String} {af : Array Edge} {gd : Option (Nat × Bool)} {x y : Operand} {a : Int}
theorem ev_lookupI {m : List (Int × Int)} {t k e r : Nat} (hT : MpT C.P t k e (.int .i64 0)) (hK : KeyOK C.P k eiv) (hx : evalS S E x = some (.map (some r))) (hy : evalS S E y = some (eiv a)) (hm : conj S = true → Mem I loc r (mapO eiv eiv m)) :
    EvalOp C S E I loc ⟨dst, .lookup t x y false, ty, pos, af, gd⟩ (.int .i64 ((mget m a).getD 0)) := by
  have := ev_lookup (C := C) (S := S) (dst := dst) (ty := ty) (pos := pos) (af := af) (gd := gd) hT hK hx hy hm
  cases h : mget m a with
  | none => rw [h] at this; exact this
  | some b => rw [h] at this; exact this
end
theorem two_cell {I : HMap} {b j ra rb r : Nat} {e : TypeId} {fz : Nat × Nat} {l : Go.Kn.Loc} (hr : (if j = 0 then ra else rb) = r) (h : j < 2) : Cell I ((b, .cells (([[Value.map (some ra)], [Value.map (some rb)]] : List (List Value)).flatten).toArray e fz) :: l) b (((j : Nat) : Int).toNat * 1) (.map (some r)) := by
  subst hr
  rcases (show j = 0 ∨ j = 1 by omega) with e | e <;> subst e <;> exact .here rfl
theorem MapR.small {st cs : List Int} {b : Int} {m : List (Int × Int)} (h : MapR st cs b m) : m.length ≤ st.length := by
  have := h.nd.length_le_of_subset (l₂ := st) (fun x hx => by
    obtain ⟨p, hp, rfl⟩ := List.mem_map.1 hx
    exact h.old p hp)
  simpa using this
theorem tot_in {st ca cb : List Int} {ba bb : Int} {ma mb : List (Int × Int)} (hA : MapR st ca ba ma) (hB : MapR st cb bb mb) (h1 : ba ≤ 1000) (h2 : bb ≤ 1000) (j : Nat) (x : Int) : 0 ≤ totF st ca cb j x ∧ totF st ca cb j x ≤ 3000 := by
  have a := below_eq hA h1 (.refl _) x
  have b := below_eq hB h2 (.refl _) x
  unfold totF
  split <;> split <;> omega
/-- What the closure of a price holds. -/
structure PrE (I : HMap) (fid brow bloc bcst bcla bbel rm : Nat) (av bv : Option Addr) (n c n2 c2 : Nat) (xs : List Int) (rows : List (List Int)) (l : Nat) : Prop where
  row : Cell I [] brow 0 (.slice bv n2 c2)
  loc : Cell I [] bloc 0 (.int .i64 l)
  cst : Cell I [] bcst 0 (.map (some rm))
  cla : Cell I [] bcla 0 (.slice av n c)
  bel : Cell I [] bbel 0 (.func (.func fid) #[] #[capP brow, capP bloc, capP bcst, capP bcla, capP bbel])
  mp : ImO I rm (mapO eiv eiv (stM rows l))
  deb : DebOK I
  hS : Sl I 1 encI av n c xs
  hV : SlN I bv n2 c2 rows
theorem PrE.mono {I I' : HMap} {fid brow bloc bcst bcla bbel rm : Nat} {av bv : Option Addr} {n c n2 c2 : Nat} {xs : List Int} {rows : List (List Int)} {l : Nat} (h : PrE I fid brow bloc bcst bcla bbel rm av bv n c n2 c2 xs rows l) (hI : HLe I I') : PrE I' fid brow bloc bcst bcla bbel rm av bv n c n2 c2 xs rows l :=
  ⟨h.row.mono hI, h.loc.mono hI, h.cst.mono hI, h.cla.mono hI, h.bel.mono hI, h.mp.mono hI, h.deb.mono hI, h.hS.mono hI, h.hV.mono hI⟩
theorem u64_tab : ((List.range 64).all fun s => IntKind.u64.wrap (s : Int) == (s : Int)) = true := by kernel_rfl
theorem u64_in {s : Int} (hs : 0 ≤ s ∧ s ≤ 63) : IntKind.u64.wrap s = s := by
  have h := List.all_eq_true.1 u64_tab s.toNat (List.mem_range.2 (by omega))
  rw [show ((s.toNat : Nat) : Int) = s by omega] at h
  exact eq_of_beq h
theorem stM_put {rows : List (List Int)} {l k : Nat} {r : List Int} (h : rows[k]? = some r) (hne : r.getD l 0 ≠ 8589934592) : mset (stM (rows.take k) l) (r.getD l 0) 0 = stM (rows.take (k + 1)) l := by
  have hst := st_step (l := l) h
  unfold stM
  rw [hst]
  cases e : (statesF (rows.take k) l).any (fun x => x == r.getD l 0) with
  | true =>
    rw [st_yes (by rw [e, Bool.or_true])]
    refine mset_same _ _ _ ?_
    obtain ⟨x, hx, hxe⟩ := List.any_eq_true.1 e
    have hxe := eq_of_beq hxe
    subst hxe
    have hnd := st_nd (rows.take k) l
    have := mget_at (m := (statesF (rows.take k) l).map fun x => (x, (0 : Int))) (by rw [List.map_map]; simpa [Function.comp_def] using hnd) (List.mem_map.2 ⟨_, hx, rfl⟩)
    exact this
  | false =>
    rw [st_no (by rw [e, Bool.or_false]; exact beq_eq_false_iff_ne.2 hne), List.map_append]
    refine mset_new _ _ _ 0 ?_
    have hn : mget ((statesF (rows.take k) l).map fun x => (x, (0 : Int))) (r.getD l 0) = none := mget_none.2 (by
      rw [List.map_map]
      intro hm
      obtain ⟨x, hx, hxe⟩ := List.mem_map.1 hm
      have := List.any_eq_false.1 e x hx
      exact this (by simpa using hxe))
    rw [← mget_midx _ _ 0] at hn
    exact Option.map_eq_none_iff.1 hn
theorem stM_skip {rows : List (List Int)} {l k : Nat} {r : List Int} (h : rows[k]? = some r) (he : r.getD l 0 = 8589934592) : stM (rows.take k) l = stM (rows.take (k + 1)) l := by
  have hst := st_step (l := l) h
  unfold stM
  rw [hst, st_yes (by rw [he]; rfl)]
end Go.Proofs.YthcffaheamikgaaDoor
end
section
namespace Go.Proofs.YthcffaheamikgaaDoor
open Go Go.Kn Go.Proofs
theorem art_150 : ArT Tryd.prog 150 64 5 1 := .of (by kernel_rfl)
theorem cvt_5_3 : CvT Tryd.prog 5 3 .i64 := ⟨by kernel_rfl, by kernel_rfl⟩
theorem fun_91 : Fun Tryd.prog 91 := .of Tryd.func91 (by kernel_rfl) (by kernel_rfl)
theorem sct_5 : ScT Tryd.prog 5 := .of (by kernel_rfl)
theorem w_tz64 {I : HMap} (hD : DebOK I) {s : Int} (hs : 1 ≤ s ∧ s ≤ 63) (h1 : singF s = true) : RetV Tryd.prog 91 [.int .u64 s] I (.int .i64 (witF s)) := by
 intro g H w hw
 refine enter Tryd.func91 rfl Tryd.ntmps91 rfl hw ?_
 obtain ⟨hd1, hd2⟩ := deb_ok hs h1
 have hcell : ∀ loc, Cell I loc 1 (0 + (debX s).toNat * 1) (.int .u8 (debT.getD (debX s).toNat 0)) := fun loc => by rw [show 0 + (debX s).toNat * 1 = (debX s).toNat by omega]; exact (hD _ (by omega)).any
 refine X_seq (X_region ?_)
 refine zA ?_
 refine XO_nil (at_then ?_)
 refine X_seq ?_
 refine X_seq (X_region ?_)
 refine zM ?_
 refine zC ?_
 refine XO_nil (at_then ?_)
 refine X_cond rfl (fun hc4 => ?_) (fun hc4 => ?_)
 ·
  have h := hc4; simp at h; omega
 ·
  refine X_skip ?_
  refine at_then ?_
  refine X_seq (X_region ?_)
  refine zM ?_
  refine zM ?_
  refine XO_v0 (ev_negU rfl) rfl rfl rfl ?_
  refine XO_v0 (ev_andU rfl rfl) rfl rfl rfl ?_
  refine XO_v0 (ev_ar rfl rfl rfl) rfl rfl rfl ?_
  refine XO_v0 (ev_shr rfl rfl (by decide) (rfl : min _ _ = 58)) rfl rfl rfl ?_
  refine XO_v0 (ev_indexArr rfl rfl art_150 (fun hg => by exact hd1)) rfl rfl rfl ?_
  refine XO_v0 (ev_load rfl sct_5 (fun hg => by exact (hcell _))) rfl rfl rfl ?_
  refine XO_v0 (ev_convI rfl cvt_5_3) rfl rfl rfl ?_
  refine zA ?_
  refine XO_nil (at_then ?_)
  refine X_ret ?_
  first
  | exact at_ret1 rfl rfl (fun w hw => ⟨by rw [hd2], hw.drop⟩)
theorem w_tz {I : HMap} (hD : DebOK I) {s : Int} (hs : 1 ≤ s ∧ s ≤ 63) (h1 : singF s = true) : RetV Tryd.prog 80 [.int .u64 s] I (.int .i64 (witF s)) := by
 intro g H w hw
 refine enter Tryd.func80 rfl Tryd.ntmps80 rfl hw ?_
 refine X_seq (X_region ?_)
 refine zA ?_
 refine XO_nil (at_then ?_)
 refine X_seq ?_
 refine X_cond rfl (fun hcK => ?_) (fun hcK => ?_)
 ·
  cases hcK
 ·
  refine X_skip ?_
  refine at_then ?_
  refine X_seq (X_region ?_)
  refine zM ?_
  refine XO_callV0 (cap := []) (vs := [_]) rfl rfl fun_91 (w_tz64 hD hs h1) rfl rfl ?_
  refine zA ?_
  refine XO_nil (at_then ?_)
  refine X_ret ?_
  exact at_ret1 rfl rfl (fun w hw => ⟨by first | rfl | simp_all, hw.drop⟩)
end Go.Proofs.YthcffaheamikgaaDoor
end
section
namespace Go.Proofs.YthcffaheamikgaaDoor
open Go Go.Kn Go.Proofs
theorem cvt_3_106 : CvT Tryd.prog 3 106 .u64 := ⟨by kernel_rfl, by kernel_rfl⟩
theorem elt_134 : ElT Tryd.prog 134 132 1 8 := .of (by kernel_rfl)
theorem elt_23 : ElT Tryd.prog 23 3 1 8 := .of (by kernel_rfl)
theorem fun_79 : Fun Tryd.prog 79 := .of Tryd.func79 (by kernel_rfl) (by kernel_rfl)
theorem fun_80 : Fun Tryd.prog 80 := .of Tryd.func80 (by kernel_rfl) (by kernel_rfl)
theorem fun_81 : Fun Tryd.prog 81 := .of Tryd.func81 (by kernel_rfl) (by kernel_rfl)
theorem fun_82 : Fun Tryd.prog 82 := .of Tryd.func82 (by kernel_rfl) (by kernel_rfl)
theorem key_3 : KeyOK (α := Int) Tryd.prog 3 (.int .i64) := key_int (by kernel_rfl)
theorem mpt_132 : MpT Tryd.prog 132 3 3 (.int .i64 0) := ⟨by kernel_rfl, .of (by kernel_rfl)⟩
theorem sct_132 : ScT Tryd.prog 132 := .of (by kernel_rfl)
theorem sct_133 : ScT Tryd.prog 133 := .of (by kernel_rfl)
theorem sct_22 : ScT Tryd.prog 22 := .of (by kernel_rfl)
theorem slt_134 : SlT Tryd.prog 134 132 1 := .of (by kernel_rfl)
theorem w_tzW {I : HMap} (hD : DebOK I) {s : Int} (hs : 1 ≤ s ∧ s ≤ 63) (h1 : singF s = true) : RetV Tryd.prog 80 [.int .u64 (IntKind.u64.wrap s)] I (.int .i64 (witF s)) := by
 rw [u64_in (by omega)]; exact w_tz hD hs h1
theorem w_partsU {I : HMap} {av : Option Addr} {n c m : Nat} {xs : List Int} (hS : Sl I 1 encI av n c xs) (hn : n ≤ 100000) (hc : chkN m xs = 0) {s : Int} (hin : s ∈ xs) (h1 : singF s = false) : RetV Tryd.prog 48 [.slice av n c, .int .i64 s] I (.tuple #[.int .i64 (splitF xs s), .int .i64 (s - splitF xs s), .bool true]) := by
 have h := w_parts hS hn s ((chkN_ok hc).2.2.2 s hin)
 obtain ⟨e1, e2, e3⟩ := parts_eq hc hin h1
 rw [e1, e2, e3] at h; exact h
theorem w_leastE {I : HMap} {av : Option Addr} {n c : Nat} {xs : List Int} {v : Int} (e : leastF xs = v) (hS : Sl I 1 encI av n c xs) (hn : n ≤ 100000) (h0 : 0 < n) : RetV Tryd.prog 82 [.slice av n c] I (.int .i64 v) := by
 rw [← e]; exact w_least hS hn h0
theorem w_price1 {I : HMap} {brow bloc bcst bcla bbel rm : Nat} {av bv : Option Addr} {n c n2 c2 : Nat} {xs : List Int} {rows : List (List Int)} {l : Nat} (hE : PrE I 79 brow bloc bcst bcla bbel rm av bv n c n2 c2 xs rows l) (hn : n ≤ 100000) (hn2 : n2 ≤ 100000) (hl : ∀ r ∈ rows, l < r.length) (hc : chkN rows.length xs = 0) (f : Nat) (s : Int) (hok : OkS rows.length xs s) (ih : ∀ (I' : HMap), HLe I I' → ∀ (s' : Int), OkS rows.length xs s' → s' < s → RetM Tryd.prog 79 ([.int .i64 s'] ++ [capP brow, capP bloc, capP bcst, capP bcla, capP bbel]) I' [] (MapQ (statesF rows l) (costsF rows xs l f s') (8 * (s' - 1)))) : RetM Tryd.prog 79 [.int .i64 s, capP brow, capP bloc, capP bcst, capP bcla, capP bbel] I [] (MapQ (statesF rows l) (costsF rows xs l (f + 1) s) (8 * (s - 1))) := by
 intro g H w hw
 refine enter Tryd.func79 rfl Tryd.ntmps79 rfl hw ?_
 have hIc := HLe.refl I
 obtain ⟨hs, hV⟩ := hE.hV
 have hH := hV.1
 have hlV := hV.len
 have hal := (chkN_ok hc).1
 have hal6 := (chkN_ok hc).2.1
 have hs63 := ok_le hc hok
 have hsl := st_len (rows := rows) (l := l)
 refine X_seq (X_region ?_)
 refine zA ?_
 refine XO_nil (at_then (X_seq (X_region ?_)))
 refine XO_makeMap rfl rfl (fun r_20 => ?_)
 refine zA ?_
 refine XO_nil (at_then ?_)
 refine X_seq ?_
 refine X_seq (X_region ?_)
 refine zM ?_
 refine XO_callV0 (cap := []) (vs := [_]) rfl rfl fun_77 (w_single _ _) rfl rfl ?_
 refine XO_nil (at_then ?_)
 refine X_cond rfl (fun hc22 => ?_) (fun hc22 => ?_)
 ·
  have hsing : singF s = true := hc22
  have hwn := wit_n (n := rows.length) (by omega) hs63 hsing hok.2.1
  obtain ⟨x, v, hx, hv, hQ⟩ := hV.at (show witF s < n2 by omega)
  have hlv := hl v (List.mem_of_getElem? hv)
  have hu := some_getD (d := 0) rfl hlv
  have hvn := hQ.len
  have hz : (andI s (IntKind.i64.wrap (s - 1)) == 0) = true := by unfold singF at hsing; rw [Bool.and_eq_true] at hsing; exact hsing.2
  refine X_seq ?_
  refine X_draw mixed (by kernel_rfl) ?_
  refine XQ_v0 (ev_load rfl sct_22 (fun hg => by exact hE.row.any)) rfl rfl rfl ?_
  refine XQ_v0 (ev_move rfl) rfl rfl rfl ?_
  refine XQ_v0 (ev_convI rfl cvt_3_106) rfl rfl rfl ?_
  refine XQ_callV0 (cap := []) (vs := [_]) rfl rfl fun_80 (w_tzW hE.deb hs63 hsing) rfl rfl ?_
  refine XQ_v0 (ev_indexSl rfl rfl slt_22 hH (fun hg => by first | omega | (simp [conj] at hg; omega))) rfl rfl rfl ?_
  refine XQ_v0 (ev_load rfl sct_23 (fun hg => by exact Sl.get0 hH hx rfl)) rfl rfl rfl ?_
  refine XQ_v0 (ev_load rfl sct_3 (fun hg => by exact hE.loc.any)) rfl rfl rfl ?_
  refine XQ_v0 (ev_indexSl rfl rfl slt_23 hQ (fun hg => by first | omega | (simp [conj] at hg; omega))) rfl rfl rfl ?_
  refine XQ_v0 (ev_load rfl sct_3 (fun hg => by exact Sl.get0 hQ hu rfl)) rfl rfl rfl ?_
  refine XQ_v0 (ev_assign rfl) rfl rfl rfl ?_
  refine XQ_nil ?_
  refine at_then ?_
  refine X_seq ?_
  refine X_seq (X_region ?_)
  refine XO_v0 (ev_load rfl sct_132 (fun hg => by exact hE.cst.any)) rfl rfl rfl ?_
  refine XO_range (ek := eiv) (ev := eiv) (m := (stM rows l)) rfl mpt_132 rfl rfl (.inl hE.mp) (fun b_33 => ?_)
  refine XO_nil (at_then ?_)
  refine X_block ?_
  refine X_loopT [(8, _), (9, _), (33, _)] (.cons rfl (.cons rfl (.cons rfl .nil))) (fun T L0 mz E I' loc' => ∃ (seen : List Nat) (m : List (Int × Int)), mz = (stM rows l).length - seen.length ∧ E = T ∧ I = I' ∧ [(b_33, iterO rm (stM rows l).length seen), (r_20, mapO eiv eiv m)] = loc' ∧ MapF m (leafM rows l (v.getD l 0) seen) ∧ seen.Nodup ∧ ∀ i ∈ seen, i < (stM rows l).length) _ _ _ _ ⟨[], [], rfl, rfl, rfl, rfl, leafM_nil, .nil, fun i h => by cases h⟩ (.cons rfl (.cons rfl (.cons rfl .nil))) (HLe.refl _) rfl ?_
  rintro mz E I' loc' ⟨seen, m, rfl, rfl, rfl, rfl, hm, hnd, hlt⟩
  refine X_seq (X_region ?_)
  refine XO_next2 (ek := eiv) (ev := eiv) (m := (stM rows l)) (fun s' => [(b_33, iterO rm (stM rows l).length s'), (r_20, mapO eiv eiv m)]) rfl (fun s' => .here) rfl rfl rfl rfl rfl (.inl hE.mp) (by simp) ?_
  intro t tv s' hno hyes
  refine XO_nil (at_then ?_)
  refine X_seq ?_
  refine X_cond rfl (fun hc35 => ?_) (fun hc35 => ?_)
  ·
   obtain ⟨i, q, hq, hns, rfl⟩ := hyes hc35
   refine X_skip ?_
   refine at_then ?_
   refine X_block ?_
   refine X_seq (X_region ?_)
   refine XO_v0 (ev_entry (ek := eiv) (ev := eiv) (m := (stM rows l)) (p := q) (seen := seen) (i := i) rfl (.inl hE.mp) (.inr (by simp)) hq) rfl rfl rfl ?_
   refine XO_v0 (ev_extract rfl rfl) rfl rfl rfl ?_
   refine zA ?_
   refine XO_nil (at_then (X_seq (X_region ?_)))
   refine zM ?_
   refine zM ?_
   refine zC ?_
   refine zM ?_
   refine XO_pushF 3 rfl rfl rfl ?_
   refine XO_v1 (ev_move rfl) (.some rfl rfl rfl rfl gbf) rfl rfl rfl ?_
   refine XO_v1 (ev_cmp rfl rfl rfl) (.some rfl rfl rfl rfl gbf) rfl rfl rfl ?_
   refine XO_or0 rfl rfl rfl rfl rfl ?_
   refine XO_nil (at_then ?_)
   refine X_cond rfl (fun hc44 => ?_) (fun hc44 => ?_)
   ·
    refine X_region ?_
    refine zM ?_
    refine zM ?_
    refine XO_mapUpdate (m := m) (ek := eiv) (ev := eiv) (a := q.1) 0 mpt_132 key_3 rfl rfl rfl rfl (by repeat (first | exact Upd.here | apply Upd.there | apply upd_app)) ?_
    refine XO_nil ?_
    refine at_block_n ?_
    have hs9 := snd_nodup hnd hlt hns (List.getElem?_eq_some_iff.1 hq).1
    first
    | exact at_met2 _ _ ⟨(stM rows l).length - (seen ++ [i]).length, by rw [List.length_append, List.length_singleton]; have := hs9.2.2; rw [List.length_append, List.length_singleton] at this; omega, seen ++ [i], mset m q.1 0, rfl, rfl, rfl, rfl, leafM_yes hm hq (leaf_g0 hc44), hs9.1, hs9.2.1⟩ (.cons rfl (.cons rfl (.cons rfl .nil))) (by repeat (first | exact .refl | exact subL_left | refine subL_app ?_ | refine .drop ?_ | refine subL_add ?_))
   ·
    refine X_skip ?_
    refine at_block_n ?_
    have hs9 := snd_nodup hnd hlt hns (List.getElem?_eq_some_iff.1 hq).1
    first
    | exact at_met2 _ _ ⟨(stM rows l).length - (seen ++ [i]).length, by rw [List.length_append, List.length_singleton]; have := hs9.2.2; rw [List.length_append, List.length_singleton] at this; omega, seen ++ [i], m, rfl, rfl, rfl, rfl, leafM_no hm hq (leaf_g1 hc44).2, hs9.1, hs9.2.1⟩ (.cons rfl (.cons rfl (.cons rfl .nil))) (by repeat (first | exact .refl | exact subL_left | refine subL_app ?_ | refine .drop ?_ | refine subL_add ?_))
  ·
   obtain ⟨rfl, hall⟩ := hno hc35
   refine X_exit ?_
   refine at_then_e ?_
   refine at_then_e ?_
   refine at_block_hit ?_
   refine at_then ?_
   refine X_seq (X_region ?_)
   refine zM ?_
   refine zA ?_
   refine XO_nil (at_then ?_)
   refine X_ret ?_
   refine at_then_r ?_
   first
   | exact at_ret1 rfl rfl (fun w hw => by obtain ⟨I9, h91, h92, h93⟩ := hw.freezeAll; exact ⟨_, I9, [], rfl, hIc.trans h91, h92, rfl, r_20, m, rfl, h93 _ _ (by simp), by rw [costs_leaf hz]; exact leaf_end (by omega) hv hm hnd hlt hall⟩)
 ·
  have hns0 : singF s = false := hc22
  obtain ⟨hin, ok1, ok2, hp1, hp2, _, _⟩ := first_part hc hok hns0
  have hz : (andI s (IntKind.i64.wrap (s - 1)) == 0) = false := by unfold singF at hns0; rw [decide_eq_true (show s > 0 by omega), Bool.true_and] at hns0; exact hns0
  refine X_skip ?_
  refine at_then ?_
  refine X_seq (X_region ?_)
  refine XO_v0 (ev_load rfl sct_23 (fun hg => by exact hE.cla.any)) rfl rfl rfl ?_
  refine zM ?_
  refine XO_callV0 (cap := []) (vs := [_, _]) rfl rfl fun_48 (w_partsU hE.hS hn hc hin hns0) rfl rfl ?_
  refine zM ?_
  refine XO_v0 (ev_extract rfl rfl) rfl rfl rfl ?_
  refine XO_v0 (ev_extract rfl rfl) rfl rfl rfl ?_
  refine XO_v0 (ev_extract rfl rfl) rfl rfl rfl ?_
  refine zA ?_
  refine zA ?_
  refine zA ?_
  refine XO_nil (at_then ?_)
  refine X_seq ?_
  refine X_seq ?_
  have hD := HLe.refl I
  refine X_drawC mixed ?_
  refine XD_take 0 rfl (ev_load rfl sct_133 (fun hg => by exact hE.bel.any)) (.none rfl) rfl rfl rfl (by kernel_rfl) (by kernel_rfl) (by kernel_rfl) noP_ok hD (by repeat (first | exact .refl | exact subL_nil | refine .keep ?_ | refine .drop ?_ | refine subL_add ?_)) ?_
  refine XD_take 1 rfl (ev_move rfl) (.none rfl) rfl rfl rfl (by kernel_rfl) (by kernel_rfl) (by kernel_rfl) noP_ok hD (by repeat (first | exact .refl | exact subL_nil | refine .keep ?_ | refine .drop ?_ | refine subL_add ?_)) ?_
  refine XD_take 3 rfl (ev_load rfl sct_133 (fun hg => by exact hE.bel.any)) (.none rfl) rfl rfl rfl (by kernel_rfl) (by kernel_rfl) (by kernel_rfl) noP_ok hD (by repeat (first | exact .refl | exact subL_nil | refine .keep ?_ | refine .drop ?_ | refine subL_add ?_)) ?_
  refine XD_take 4 rfl (ev_move rfl) (.none rfl) rfl rfl rfl (by kernel_rfl) (by kernel_rfl) (by kernel_rfl) noP_ok hD (by repeat (first | exact .refl | exact subL_nil | refine .keep ?_ | refine .drop ?_ | refine subL_add ?_)) ?_
  refine XD_take 8 rfl (ev_move rfl) (.none rfl) rfl rfl rfl (by kernel_rfl) (by kernel_rfl) (by kernel_rfl) noP_ok hD (by repeat (first | exact .refl | exact subL_nil | refine .keep ?_ | refine .drop ?_ | refine subL_add ?_)) ?_
  refine XD_one 2 rfl (by kernel_rfl) ?_
  refine XO_callM (cap := [capP brow, capP bloc, capP bcst, capP bcla, capP bbel]) (vs := [_]) rfl rfl fun_79 (by first | exact .nil | exact split_nil | exact split_right (L := [])) (ih _ hIc _ ok1 hp2) rfl rfl ?_
  rintro vv2 I2 L2 hI2 ⟨rfl, ra, ma, rfl, hMa, hRa⟩
  have hE := hE.mono hI2
  have hIc := hIc.trans hI2
  have hD := hD.trans hI2
  refine XO_nil ?_
  refine zD hD ?_
  refine XD_one 5 rfl (by kernel_rfl) ?_
  refine XO_callM (cap := [capP brow, capP bloc, capP bcst, capP bcla, capP bbel]) (vs := [_]) rfl rfl fun_79 (by first | exact .nil | exact split_nil | exact split_right (L := [])) (ih _ hIc _ ok2 (by omega)) rfl rfl ?_
  rintro vv3 I3 L3 hI3 ⟨rfl, rb, mb, rfl, hMb, hRb⟩
  have hE := hE.mono hI3
  have hMa := hMa.mono hI3
  have hIc := hIc.trans hI3
  have hD := hD.trans hI3
  refine XO_nil ?_
  refine zD hD ?_
  refine XD_one 6 rfl (by kernel_rfl) ?_
  refine XO_buildSlice (ps := [(0, _), (1, _)]) (m := [[.map (some ra)], [.map (some rb)]]) elt_134 rfl (.cons rfl (.cons rfl (.nil))) rfl (by simp [encI_len]) (by decide) (by decide) rfl rfl (fun b_61 => ?_)
  refine XO_nil ?_
  refine zD hD ?_
  refine XD_take 7 rfl (ev_lenS rfl slt_134) (.none rfl) rfl rfl rfl (by kernel_rfl) (by kernel_rfl) (by kernel_rfl) noP_ok hD (by repeat (first | exact .refl | exact subL_nil | refine .keep ?_ | refine .drop ?_ | refine subL_add ?_)) ?_
  refine XD_done (by kernel_rfl) ?_
  refine at_noP ?_
  refine at_then ?_
  refine X_block ?_
  refine X_loopT [(3, _), (8, _), (61, _), (62, _)] (.cons rfl (.cons rfl (.cons rfl (.cons rfl .nil)))) (fun T L0 mz E I' loc' => ∃ (j : Nat) (m : List (Int × Int)), mz = 2 - j ∧ E = (63, .int .i64 j) :: T ∧ HLe I3 I' ∧ [(b_61, .cells (([[Value.map (some ra)], [Value.map (some rb)]] : List (List Value)).flatten).toArray 132 (0, 0)), (r_20, mapO eiv eiv m)] = loc' ∧ j ≤ 2 ∧ MapF m (gF (statesF rows l) (costsF rows xs l f (splitF xs s)) (costsF rows xs l f (s - splitF xs s)) j)) _ _ _ _ ⟨0, [], rfl, rfl, HLe.refl _, rfl, Nat.zero_le _, gF_0⟩ (.cons rfl (.cons rfl (.cons rfl (.cons rfl (.cons rfl .nil))))) (HLe.refl _) rfl ?_
  rintro mz E J4 loc' ⟨j, m, rfl, rfl, hJ, rfl, hj, hm⟩
  have hE := hE.mono hJ
  have hMa := hMa.mono hJ
  have hMb := hMb.mono hJ
  have hIc := hIc.trans hJ
  have hB2 := hJ
  refine X_seq (X_region ?_)
  refine zC ?_
  refine XO_nil (at_then ?_)
  refine X_seq ?_
  refine X_cond rfl (fun hc64 => ?_) (fun hc64 => ?_)
  ·
   have hlt_j : j < 2 := by have h := hc64; simp at h; omega
   obtain ⟨rj, mj, bj, hrj, hMj, hRj, hbj⟩ : ∃ rj mj bj, (if j = 0 then ra else rb) = rj ∧ ImO J4 rj (mapO eiv eiv mj) ∧ MapR (statesF rows l) (if j = 0 then (costsF rows xs l f (splitF xs s)) else (costsF rows xs l f (s - splitF xs s))) bj mj ∧ bj ≤ 1000 := by
    rcases (show j = 0 ∨ j = 1 by omega) with e | e
    ·
     subst e; exact ⟨ra, ma, 8 * (splitF xs s - 1), rfl, hMa, hRa, by omega⟩
    ·
     subst e; exact ⟨rb, mb, 8 * (s - splitF xs s - 1), rfl, hMb, hRb, by omega⟩
   have hmjl := hRj.small
   refine X_skip ?_
   refine at_then ?_
   refine X_seq ?_
   refine X_block ?_
   refine X_seq (X_region ?_)
   refine XO_v0 (ev_indexOwn rfl rfl slt_134 (fun hg => by first | omega | (simp [conj] at hg; omega))) rfl rfl rfl ?_
   refine XO_v0 (ev_load rfl sct_132 (fun hg => by exact two_cell hrj hlt_j)) rfl rfl rfl ?_
   refine zA ?_
   refine XO_nil (at_then (X_seq (X_region ?_)))
   refine XO_v0 (ev_load rfl sct_132 (fun hg => by exact hE.cst.any)) rfl rfl rfl ?_
   refine XO_range (ek := eiv) (ev := eiv) (m := (stM rows l)) rfl mpt_132 rfl rfl (.inl hE.mp) (fun b_68 => ?_)
   refine XO_nil (at_then ?_)
   refine X_block ?_
   refine X_loopT [(3, _), (8, _), (15, _), (61, _), (62, _), (63, _), (68, _)] (.cons rfl (.cons rfl (.cons rfl (.cons rfl (.cons rfl (.cons rfl (.cons rfl .nil))))))) (fun T L0 mz E I' loc' => ∃ (seen : List Nat) (m2 : List (Int × Int)), mz = (stM rows l).length - seen.length ∧ E = T ∧ HLe J4 I' ∧ [(b_68, iterO rm (stM rows l).length seen), (b_61, .cells (([[Value.map (some ra)], [Value.map (some rb)]] : List (List Value)).flatten).toArray 132 (0, 0)), (r_20, mapO eiv eiv m2)] = loc' ∧ MapF m2 (hF rows l (costsF rows xs l f (splitF xs s)) (costsF rows xs l f (s - splitF xs s)) j seen) ∧ seen.Nodup ∧ ∀ i ∈ seen, i < (stM rows l).length) _ _ _ _ ⟨[], m, rfl, rfl, HLe.refl _, rfl, hF_0 hm, .nil, fun i h => by cases h⟩ (.cons rfl (.cons rfl (.cons rfl (.cons rfl (.cons rfl (.cons rfl (.cons rfl .nil))))))) (HLe.refl _) rfl ?_
   rintro mz E J5 loc' ⟨seen, m2, rfl, rfl, hJ, rfl, hm2, hnd4, hlt4⟩
   have hE := hE.mono hJ
   have hMa := hMa.mono hJ
   have hMb := hMb.mono hJ
   have hMj := hMj.mono hJ
   have hIc := hIc.trans hJ
   have hB2 := hB2.trans hJ
   have hB4 := hJ
   refine X_seq (X_region ?_)
   refine XO_next2 (ek := eiv) (ev := eiv) (m := (stM rows l)) (fun s' => [(b_68, iterO rm (stM rows l).length s'), (b_61, .cells (([[Value.map (some ra)], [Value.map (some rb)]] : List (List Value)).flatten).toArray 132 (0, 0)), (r_20, mapO eiv eiv m2)]) rfl (fun s' => .here) rfl rfl rfl rfl rfl (.inl hE.mp) (by simp) ?_
   intro t tv s' hno hyes
   refine XO_nil (at_then ?_)
   refine X_seq ?_
   refine X_cond rfl (fun hc70 => ?_) (fun hc70 => ?_)
   ·
    obtain ⟨i, q, hq, hns, rfl⟩ := hyes hc70
    have hlk := hF_at hm2 hq hns
    have htot := tot_in hRa hRb (by omega) (by omega) j q.1
    refine X_skip ?_
    refine at_then ?_
    refine X_block ?_
    refine X_seq (X_region ?_)
    refine XO_v0 (ev_entry (ek := eiv) (ev := eiv) (m := (stM rows l)) (p := q) (seen := seen) (i := i) rfl (.inl hE.mp) (.inr (by simp)) hq) rfl rfl rfl ?_
    refine XO_v0 (ev_extract rfl rfl) rfl rfl rfl ?_
    refine zA ?_
    refine XO_nil (at_then (X_seq (X_region ?_)))
    refine zA ?_
    refine XO_nil (at_then ?_)
    refine X_seq ?_
    refine X_seq (X_region ?_)
    refine zM ?_
    refine XO_range (ek := eiv) (ev := eiv) (m := mj) rfl mpt_132 rfl rfl (.inl hMj) (fun b_74 => ?_)
    refine XO_nil (at_then ?_)
    refine X_block ?_
    refine X_loopT [(3, _), (8, _), (15, _), (16, _), (61, _), (62, _), (63, _), (68, _), (74, _)] (.cons rfl (.cons rfl (.cons rfl (.cons rfl (.cons rfl (.cons rfl (.cons rfl (.cons rfl (.cons rfl .nil))))))))) (fun T L0 mz E I' loc' => ∃ (seen6 : List Nat) (v6 : Value) (q6 : Nat) (L : Go.Kn.Loc), mz = mj.length - seen6.length ∧ E = (17, v6) :: T ∧ J5 = I' ∧ L ++ [(b_74, iterO rj mj.length seen6), (b_68, iterO rm (stM rows l).length (seen ++ [i])), (b_61, .cells (([[Value.map (some ra)], [Value.map (some rb)]] : List (List Value)).flatten).toArray 132 (0, 0)), (r_20, mapO eiv eiv m2)] = loc' ∧ OwnS 3 1 v6 q6 (((visO mj seen6).map fun p => p.2 + stepF q.1 p.1).flatMap encI) L ∧ q6 = seen6.length ∧ seen6.Nodup ∧ ∀ i ∈ seen6, i < mj.length) _ _ _ _ ⟨[], _, 0, [], rfl, rfl, rfl, rfl, OwnS.nil, rfl, .nil, fun i h => by cases h⟩ (.cons rfl (.cons rfl (.cons rfl (.cons rfl (.cons rfl (.cons rfl (.cons rfl (.cons rfl (.cons rfl (.cons rfl .nil)))))))))) (HLe.refl _) rfl ?_
    rintro mz E I' loc' ⟨seen6, v6, q6, L, rfl, rfl, rfl, rfl, hO6, hq6, hnd6, hlt6⟩
    have hsl6 := seen_lt hnd6 hlt6
    refine X_seq (X_region ?_)
    refine XO_next2 (ek := eiv) (ev := eiv) (m := mj) (fun s' => L ++ [(b_74, iterO rj mj.length s'), (b_68, iterO rm (stM rows l).length (seen ++ [i])), (b_61, .cells (([[Value.map (some ra)], [Value.map (some rb)]] : List (List Value)).flatten).toArray 132 (0, 0)), (r_20, mapO eiv eiv m2)]) rfl (fun s' => upd_app .here) rfl rfl rfl rfl rfl (.inl hMj) (by simp) ?_
    intro t tv s' hno hyes
    refine XO_nil (at_then ?_)
    refine X_seq ?_
    refine X_cond rfl (fun hc76 => ?_) (fun hc76 => ?_)
    ·
     obtain ⟨i6, p6, hp6, hns6, rfl⟩ := hyes hc76
     have hb6 := (below_eq hRj hbj (.refl _) q.1).2.2.2 p6 (List.mem_of_getElem? hp6)
     have hst6 := step_in q.1 p6.1
     refine X_skip ?_
     refine at_then ?_
     refine X_block ?_
     refine X_seq (X_region ?_)
     refine XO_v0 (ev_entry (ek := eiv) (ev := eiv) (m := mj) (p := p6) (seen := seen6) (i := i6) rfl (.inl hMj) (.inr (by simp)) hp6) rfl rfl rfl ?_
     refine XO_v0 (ev_extract rfl rfl) rfl rfl rfl ?_
     refine XO_v0 (ev_extract rfl rfl) rfl rfl rfl ?_
     refine zA ?_
     refine zA ?_
     refine XO_nil (at_then ?_)
     refine X_region ?_
     refine zM ?_
     refine zM ?_
     refine zM ?_
     refine zM ?_
     refine XO_callV0 (cap := []) (vs := [_, _]) rfl rfl fun_81 (w_step _ _ _) rfl rfl ?_
     refine zB ?_
     refine XO_buildSlice (ps := [(0, _)]) (m := [encI (p6.2 + stepF q.1 p6.1)]) elt_23 rfl (.cons rfl (.nil)) rfl (by simp [encI_len]) (by decide) (by decide) rfl rfl (fun b_86 => ?_)
     refine XO_append (v := _) (ys := [(p6.2 + stepF q.1 p6.1)].flatMap encI) (L := L) rfl rfl elt_23 hO6 (by repeat (first | exact .cons .here .nil | exact split_all | exact split_app | apply split_cons | apply split_skip)) ⟨rfl, fun _ => rfl, Cells.here⟩ (one_I _) (by omega) rfl rfl ?_
     intro v9 L9 hO9 _; rw [← List.flatMap_append] at hO9
     refine zA ?_
     refine XO_nil ?_
     refine at_block_n ?_
     have hs9 := snd_nodup hnd6 hlt6 hns6 (List.getElem?_eq_some_iff.1 hp6).1
     exact at_met2 _ _ ⟨mj.length - (seen6 ++ [i6]).length, by rw [List.length_append, List.length_singleton]; have := hs9.2.2; rw [List.length_append, List.length_singleton] at this; omega, seen6 ++ [i6], v9, q6 + 1, L9, rfl, rfl, rfl, rfl, by rw [vis_snoc hp6, List.map_append]; exact hO9, by rw [List.length_append, List.length_singleton]; omega, hs9.1, hs9.2.1⟩ (.cons rfl (.cons rfl (.cons rfl (.cons rfl (.cons rfl (.cons rfl (.cons rfl (.cons rfl (.cons rfl (.cons rfl .nil)))))))))) (by repeat (first | exact .refl | exact subL_left | refine subL_app ?_ | refine .drop ?_ | refine subL_add ?_))
    ·
     obtain ⟨rfl, hall6⟩ := hno hc76
     have hlen6 := (seen_perm hnd6 hlt6 hall6).length_eq
     rw [List.length_range] at hlen6
     have hne6 := hRj.ne
     have hbe := below_eq hRj hbj (vis_all hnd6 hlt6 hall6) q.1
     refine X_exit ?_
     refine at_then_e ?_
     refine at_then_e ?_
     refine at_block_hit ?_
     refine at_then ?_
     refine X_freezeO hO6 encI_len (by decide) split_app (fun I7 hI7 af7 cf7 ef7 hLst => ?_)
     subst ef7
     have hE := hE.mono hI7
     have hMa := hMa.mono hI7
     have hMb := hMb.mono hI7
     have hMj := hMj.mono hI7
     have hIc := hIc.trans hI7
     have hB2 := hB2.trans hI7
     have hB4 := hB4.trans hI7
     have hD := HLe.refl I7
     refine X_noP ?_
     refine X_drawS I7 [] mixed ?_
     refine XD_take 0 rfl (ev_move rfl) (.none rfl) rfl rfl rfl (by kernel_rfl) (by kernel_rfl) (by kernel_rfl) noP_ok hD (by repeat (first | exact .refl | exact subL_nil | refine .keep ?_ | refine .drop ?_ | refine subL_add ?_)) ?_
     refine XD_take 1 rfl (ev_move rfl) (.none rfl) rfl rfl rfl (by kernel_rfl) (by kernel_rfl) (by kernel_rfl) noP_ok hD (by repeat (first | exact .refl | exact subL_nil | refine .keep ?_ | refine .drop ?_ | refine subL_add ?_)) ?_
     refine XD_take 3 rfl (ev_move rfl) (.none rfl) rfl rfl rfl (by kernel_rfl) (by kernel_rfl) (by kernel_rfl) noP_ok hD (by repeat (first | exact .refl | exact subL_nil | refine .keep ?_ | refine .drop ?_ | refine subL_add ?_)) ?_
     refine XD_two 2 4 rfl rfl (by kernel_rfl) ?_ ?_
     ·
      refine XO_v0 (ev_lookupI (m := m2) (a := q.1) mpt_132 key_3 rfl rfl (fun _ => (by first | exact Mem.m0 | exact Mem.m1 | exact Mem.m2 | exact Mem.m3 | exact Mem.m4 | exact Mem.m5 | (repeat (first | exact Mem.m0 | apply Mem.there | apply Mem.app))))) rfl rfl rfl ?_
      refine XO_nil ?_
      refine zD hD ?_
      refine XD_one 4 rfl (by kernel_rfl) ?_
      refine XO_callV0 (cap := []) (vs := [_]) rfl rfl fun_82 (w_leastE hbe.1 hLst (by omega) (by omega)) rfl rfl ?_
      refine XO_nil ?_
      refine zD hD ?_
      refine XD_take 5 rfl (ev_arB rfl rfl rfl (fun hg => by first | omega | (simp [conj] at hg; omega))) (.none rfl) rfl rfl rfl (by kernel_rfl) (by kernel_rfl) (by kernel_rfl) noP_ok hD (by repeat (first | exact .refl | exact subL_nil | refine .keep ?_ | refine .drop ?_ | refine subL_add ?_)) ?_
      refine XD_one 6 rfl (by kernel_rfl) ?_
      refine XO_mapUpdate (m := m2) (ek := eiv) (ev := eiv) (a := q.1) ((mget m2 q.1).getD 0 + belowF (statesF rows l) (if j = 0 then (costsF rows xs l f (splitF xs s)) else (costsF rows xs l f (s - splitF xs s))) q.1) mpt_132 key_3 rfl rfl rfl rfl (by repeat (first | exact Upd.here | apply Upd.there | apply upd_app)) ?_
      refine XO_nil ?_
      refine zD hD ?_
      refine XD_done (by kernel_rfl) ?_
      refine at_noP ?_
      refine at_block_n ?_
      have hs9 := snd_nodup hnd4 hlt4 hns (List.getElem?_eq_some_iff.1 hq).1
      rw [hlk, tot_step hlt_j]
      exact at_met2 _ _ ⟨(stM rows l).length - (seen ++ [i]).length, by rw [List.length_append, List.length_singleton]; have := hs9.2.2; rw [List.length_append, List.length_singleton] at this; omega, seen ++ [i], mset m2 q.1 (totF (statesF rows l) (costsF rows xs l f (splitF xs s)) (costsF rows xs l f (s - splitF xs s)) (j + 1) q.1), rfl, rfl, hB4, rfl, hF_set hm2 hq, hs9.1, hs9.2.1⟩ (.cons rfl (.cons rfl (.cons rfl (.cons rfl (.cons rfl (.cons rfl (.cons rfl .nil))))))) (by repeat (first | exact .refl | exact subL_left | refine subL_app ?_ | refine .drop ?_ | refine subL_add ?_))
     ·
      refine XO_callV0 (cap := []) (vs := [_]) rfl rfl fun_82 (w_leastE hbe.1 hLst (by omega) (by omega)) rfl rfl ?_
      refine XO_nil ?_
      refine zD hD ?_
      refine XD_one 2 rfl (by kernel_rfl) ?_
      refine XO_v0 (ev_lookupI (m := m2) (a := q.1) mpt_132 key_3 rfl rfl (fun _ => (by first | exact Mem.m0 | exact Mem.m1 | exact Mem.m2 | exact Mem.m3 | exact Mem.m4 | exact Mem.m5 | (repeat (first | exact Mem.m0 | apply Mem.there | apply Mem.app))))) rfl rfl rfl ?_
      refine XO_nil ?_
      refine zD hD ?_
      refine XD_take 5 rfl (ev_arB rfl rfl rfl (fun hg => by first | omega | (simp [conj] at hg; omega))) (.none rfl) rfl rfl rfl (by kernel_rfl) (by kernel_rfl) (by kernel_rfl) noP_ok hD (by repeat (first | exact .refl | exact subL_nil | refine .keep ?_ | refine .drop ?_ | refine subL_add ?_)) ?_
      refine XD_one 6 rfl (by kernel_rfl) ?_
      refine XO_mapUpdate (m := m2) (ek := eiv) (ev := eiv) (a := q.1) ((mget m2 q.1).getD 0 + belowF (statesF rows l) (if j = 0 then (costsF rows xs l f (splitF xs s)) else (costsF rows xs l f (s - splitF xs s))) q.1) mpt_132 key_3 rfl rfl rfl rfl (by repeat (first | exact Upd.here | apply Upd.there | apply upd_app)) ?_
      refine XO_nil ?_
      refine zD hD ?_
      refine XD_done (by kernel_rfl) ?_
      refine at_noP ?_
      refine at_block_n ?_
      have hs9 := snd_nodup hnd4 hlt4 hns (List.getElem?_eq_some_iff.1 hq).1
      rw [hlk, tot_step hlt_j]
      exact at_met2 _ _ ⟨(stM rows l).length - (seen ++ [i]).length, by rw [List.length_append, List.length_singleton]; have := hs9.2.2; rw [List.length_append, List.length_singleton] at this; omega, seen ++ [i], mset m2 q.1 (totF (statesF rows l) (costsF rows xs l f (splitF xs s)) (costsF rows xs l f (s - splitF xs s)) (j + 1) q.1), rfl, rfl, hB4, rfl, hF_set hm2 hq, hs9.1, hs9.2.1⟩ (.cons rfl (.cons rfl (.cons rfl (.cons rfl (.cons rfl (.cons rfl (.cons rfl .nil))))))) (by repeat (first | exact .refl | exact subL_left | refine subL_app ?_ | refine .drop ?_ | refine subL_add ?_))
   ·
    obtain ⟨rfl, hall⟩ := hno hc70
    refine X_exit ?_
    refine at_then_e ?_
    refine at_then_e ?_
    refine at_block_hit ?_
    refine at_block_n ?_
    refine at_then ?_
    refine X_region ?_
    refine zB ?_
    refine zM ?_
    refine XO_nil ?_
    exact at_met2 _ _ ⟨2 - (j + 1), by omega, j + 1, m2, rfl, rfl, hB2, rfl, by omega, hF_end hm2 hnd4 hlt4 hall⟩ (.cons rfl (.cons rfl (.cons rfl (.cons rfl (.cons rfl .nil))))) (by repeat (first | exact .refl | exact subL_left | refine subL_app ?_ | refine .drop ?_ | refine subL_add ?_))
  ·
   have hge_j : 2 ≤ j := by have h := hc64; simp at h; omega
   have hj2 : j = 2 := by omega
   subst hj2
   refine X_exit ?_
   refine at_then_e ?_
   refine at_then_e ?_
   refine at_block_hit ?_
   refine at_then ?_
   refine X_seq (X_region ?_)
   refine zM ?_
   refine zA ?_
   refine XO_nil (at_then ?_)
   refine X_ret ?_
   first
   | exact at_ret1 rfl rfl (fun w hw => by obtain ⟨I9, h91, h92, h93⟩ := hw.freezeAll; exact ⟨_, I9, [], rfl, hIc.trans h91, h92, rfl, r_20, m, rfl, h93 _ _ (by simp), by rw [costs_two hz]; exact two_end (List.ne_nil_of_length_pos st_pos) hRa hRb (by omega) (by omega) (by omega) hm⟩)
end Go.Proofs.YthcffaheamikgaaDoor
end
section
namespace Go.Proofs.YthcffaheamikgaaDoor
open Go Go.Kn Go.Proofs
theorem fun_52 : Fun Tryd.prog 52 := .of Tryd.func52 (by kernel_rfl) (by kernel_rfl)
theorem szt_132 : SzT Tryd.prog 132 1 := .of (by kernel_rfl)
theorem szt_133 : SzT Tryd.prog 133 1 := .of (by kernel_rfl)
theorem zt_132 : ZeroT Tryd.prog 132 (.map none) := .of (by kernel_rfl)
theorem zt_133 : ZeroT Tryd.prog 133 .nilFunc := .of (by kernel_rfl)
theorem w_price1F {brow bloc bcst bcla bbel rm : Nat} {av bv : Option Addr} {n c n2 c2 : Nat} {xs : List Int} {rows : List (List Int)} {l : Nat} (hn : n ≤ 100000) (hn2 : n2 ≤ 100000) (hl : ∀ r ∈ rows, l < r.length) (hc : chkN rows.length xs = 0) : ∀ (f : Nat) (I : HMap), PrE I 79 brow bloc bcst bcla bbel rm av bv n c n2 c2 xs rows l → ∀ (s : Int), OkS rows.length xs s → s.toNat ≤ f → RetM Tryd.prog 79 ([.int .i64 s] ++ [capP brow, capP bloc, capP bcst, capP bcla, capP bbel]) I [] (MapQ (statesF rows l) (costsF rows xs l f s) (8 * (s - 1)))
 | 0, _, _, s, hok, hf => by have := hok.1; omega
 | f + 1, I, hE, s, hok, hf => w_price1 hE hn hn2 hl hc f s hok fun I' hI s' hok' hlt => w_price1F hn hn2 hl hc f I' (hE.mono hI) s' hok' (by have := hok'.1; have := hok.1; omega)
theorem w_price1A {I : HMap} {brow bloc bcst bcla bbel rm : Nat} {av bv : Option Addr} {n c n2 c2 : Nat} {xs : List Int} {rows : List (List Int)} {l : Nat} (hE : PrE I 79 brow bloc bcst bcla bbel rm av bv n c n2 c2 xs rows l) (hn : n ≤ 100000) (hn2 : n2 ≤ 100000) (hl : ∀ r ∈ rows, l < r.length) (hc : chkN rows.length xs = 0) : RetM Tryd.prog 79 ([.int .i64 (IntKind.i64.wrap (1 * 2 ^ (min (n2 : Int).toNat IntKind.i64.bits)) - 1)] ++ [capP brow, capP bloc, capP bcst, capP bcla, capP bbel]) I [] (MapQ (statesF rows l) (costsF rows xs l 64 (allS rows.length)) (8 * (allS rows.length - 1))) := by
 have hlV := hE.hV.len
 subst hlV
 exact w_price1F hn hn2 hl hc 64 I hE (allS rows.length) (ok_all hc) (by have := (all_in (n := (rows.length : Int)) ⟨(chkN_ok hc).1, (chkN_ok hc).2.1⟩).2; omega)
theorem w_price {I : HMap} {av : Option Addr} {n c : Nat} {xs : List Int} (hS : Sl I 1 encI av n c xs) (hn : n ≤ 100000) {bv : Option Addr} {n2 c2 : Nat} {rows : List (List Int)} (hV : SlN I bv n2 c2 rows) (hn2 : n2 ≤ 100000) {l : Nat} (hDb : DebOK I) (hl : ∀ r ∈ rows, l < r.length) (hl64 : l ≤ 64) (hc : chkN rows.length xs = 0) : RetV Tryd.prog 52 [.slice bv n2 c2, .slice av n c, .int .i64 l] I (.int .i64 (leastF (costsF rows xs l 64 (allS rows.length)))) := by
 intro g H w hw
 refine enter Tryd.func52 rfl Tryd.ntmps52 rfl hw ?_
 have hIc := HLe.refl I
 obtain ⟨hs, hV⟩ := hV
 have hH := hV.1
 have hlV := hV.len
 have hal := (chkN_ok hc).1
 have hal6 := (chkN_ok hc).2.1
 have hsl := st_len (rows := rows) (l := l)
 have hsh := shl_in (n := (n2 : Int)) ⟨by omega, by omega⟩
 refine X_seq (X_region ?_)
 refine XO_box rfl rfl rfl (fun b_3 => ?_)
 refine XO_box rfl rfl rfl (fun b_4 => ?_)
 refine XO_box rfl rfl rfl (fun b_5 => ?_)
 refine zA ?_
 refine XO_nil (at_then (X_seq (X_region ?_)))
 refine XO_makeMap rfl rfl (fun r_14 => ?_)
 refine XO_insert (m := []) (ek := eiv) (ev := eiv) (a := 0) 0 mpt_132 key_3 rfl rfl rfl rfl (by repeat (first | exact Upd.here | apply Upd.there | apply upd_app)) ?_
 refine zM ?_
 refine XO_alloc zt_132 rfl rfl (fun b_7 => ?_)
 refine zS szt_132 ?_
 refine XO_nil (at_then ?_)
 refine X_seq ?_
 refine X_seq (X_region ?_)
 refine XO_v0 (ev_load rfl sct_22 (fun hg => by exact Cell.h4 rfl)) rfl rfl rfl ?_
 refine XO_v0 (ev_lenS rfl slt_22) rfl rfl rfl ?_
 refine zM ?_
 refine XO_nil (at_then ?_)
 refine X_block ?_
 refine X_loopT [(3, _), (4, _), (5, _), (7, _), (16, _), (17, _)] (.cons rfl (.cons rfl (.cons rfl (.cons rfl (.cons rfl (.cons rfl .nil)))))) (fun T L0 mz E I' loc' => ∃ (k : Nat), mz = n2 - k ∧ E = (18, .int .i64 k) :: T ∧ I = I' ∧ [(b_7, .cells #[.map (some r_14)] 132 (0, 0)), (r_14, mapO eiv eiv (stM (rows.take k) l)), (b_5, .cells #[.int .i64 l] 3 (0, 0)), (b_4, .cells #[.slice av n c] 23 (0, 0)), (b_3, .cells #[.slice bv n2 c2] 22 (0, 0))] = loc' ∧ k ≤ n2) _ _ _ _ ⟨0, rfl, rfl, rfl, rfl, Nat.zero_le _⟩ (.cons rfl (.cons rfl (.cons rfl (.cons rfl (.cons rfl (.cons rfl (.cons rfl .nil))))))) (HLe.refl _) rfl ?_
 rintro mz E I' loc' ⟨k, rfl, rfl, rfl, rfl, hk⟩
 refine X_seq (X_region ?_)
 refine zC ?_
 refine XO_nil (at_then ?_)
 refine X_seq ?_
 refine X_cond rfl (fun hc19 => ?_) (fun hc19 => ?_)
 ·
  have hlt_k : k < n2 := by have h := hc19; simp at h; omega
  obtain ⟨x, v, hx, hv, hQ⟩ := hV.at hlt_k
  have hlv := hl v (List.mem_of_getElem? hv)
  have hu := some_getD (d := 0) rfl hlv
  have hvn := hQ.len
  refine X_skip ?_
  refine at_then ?_
  refine X_seq ?_
  refine X_block ?_
  refine X_seq (X_region ?_)
  refine XO_v0 (ev_indexSl rfl rfl slt_22 hH (fun hg => by first | omega | (simp [conj] at hg; omega))) rfl rfl rfl ?_
  refine XO_v0 (ev_load rfl sct_23 (fun hg => by exact Sl.get0 hH hx rfl)) rfl rfl rfl ?_
  refine zA ?_
  refine XO_nil (at_then (X_seq (X_region ?_)))
  refine zM ?_
  refine XO_v0 (ev_load rfl sct_3 (fun hg => by exact Cell.h2 rfl)) rfl rfl rfl ?_
  refine XO_v0 (ev_indexSl rfl rfl slt_23 hQ (fun hg => by first | omega | (simp [conj] at hg; omega))) rfl rfl rfl ?_
  refine XO_v0 (ev_load rfl sct_3 (fun hg => by exact Sl.get0 hQ hu rfl)) rfl rfl rfl ?_
  refine zC ?_
  refine XO_nil (at_then ?_)
  refine X_cond rfl (fun hc26 => ?_) (fun hc26 => ?_)
  ·
   have hne : v.getD l 0 ≠ 8589934592 := by simpa using hc26
   have hD := HLe.refl I
   refine X_noP ?_
   refine X_drawS I [(b_7, .cells #[.map (some r_14)] 132 (0, 0)), (b_5, .cells #[.int .i64 l] 3 (0, 0)), (b_4, .cells #[.slice av n c] 23 (0, 0)), (b_3, .cells #[.slice bv n2 c2] 22 (0, 0))] mixed ?_
   refine XD_take 0 rfl (ev_load rfl sct_132 (fun hg => by exact Cell.h0 rfl)) (.none rfl) rfl rfl rfl (by kernel_rfl) (by kernel_rfl) (by kernel_rfl) noP_ok hD (by repeat (first | exact .refl | exact subL_nil | refine .keep ?_ | refine .drop ?_ | refine subL_add ?_)) ?_
   refine XD_take 1 rfl (ev_move rfl) (.none rfl) rfl rfl rfl (by kernel_rfl) (by kernel_rfl) (by kernel_rfl) noP_ok hD (by repeat (first | exact .refl | exact subL_nil | refine .keep ?_ | refine .drop ?_ | refine subL_add ?_)) ?_
   refine XD_take 2 rfl (ev_load rfl sct_3 (fun hg => by exact Cell.h1 rfl)) (.none rfl) rfl rfl rfl (by kernel_rfl) (by kernel_rfl) (by kernel_rfl) noP_ok hD (by repeat (first | exact .refl | exact subL_nil | refine .keep ?_ | refine .drop ?_ | refine subL_add ?_)) ?_
   refine XD_take 3 rfl (ev_indexSl rfl rfl slt_23 hQ (fun hg => by first | omega | (simp [conj] at hg; omega))) (.none rfl) rfl rfl rfl (by kernel_rfl) (by kernel_rfl) (by kernel_rfl) noP_ok hD (by repeat (first | exact .refl | exact subL_nil | refine .keep ?_ | refine .drop ?_ | refine subL_add ?_)) ?_
   refine XD_take 4 rfl (ev_load rfl sct_3 (fun hg => by exact Sl.get0 hQ hu rfl)) (.none rfl) rfl rfl rfl (by kernel_rfl) (by kernel_rfl) (by kernel_rfl) noP_ok hD (by repeat (first | exact .refl | exact subL_nil | refine .keep ?_ | refine .drop ?_ | refine subL_add ?_)) ?_
   refine XD_one 5 rfl (by kernel_rfl) ?_
   refine XO_mapUpdate (m := stM (rows.take k) l) (ek := eiv) (ev := eiv) (a := v.getD l 0) 0 mpt_132 key_3 rfl rfl rfl rfl (by repeat (first | exact Upd.here | apply Upd.there | apply upd_app)) ?_
   refine XO_nil ?_
   refine zD hD ?_
   refine XD_done (by kernel_rfl) ?_
   refine at_noP ?_
   rw [stM_put hv hne]
   refine at_block_n ?_
   refine at_then ?_
   refine X_region ?_
   refine zB ?_
   refine zM ?_
   refine XO_nil ?_
   exact at_met2 _ _ ⟨n2 - (k + 1), by omega, k + 1, rfl, rfl, rfl, rfl, by omega⟩ (.cons rfl (.cons rfl (.cons rfl (.cons rfl (.cons rfl (.cons rfl (.cons rfl .nil))))))) (by repeat (first | exact .refl | exact subL_left | refine subL_app ?_ | refine .drop ?_ | refine subL_add ?_))
  ·
   have heq : v.getD l 0 = 8589934592 := by simpa using hc26
   rw [stM_skip hv heq]
   refine X_skip ?_
   refine at_block_n ?_
   refine at_then ?_
   refine X_region ?_
   refine zB ?_
   refine zM ?_
   refine XO_nil ?_
   exact at_met2 _ _ ⟨n2 - (k + 1), by omega, k + 1, rfl, rfl, rfl, rfl, by omega⟩ (.cons rfl (.cons rfl (.cons rfl (.cons rfl (.cons rfl (.cons rfl (.cons rfl .nil))))))) (by repeat (first | exact .refl | exact subL_left | refine subL_app ?_ | refine .drop ?_ | refine subL_add ?_))
 ·
  have hge_k : n2 ≤ k := by have h := hc19; simp at h; omega
  rw [List.take_of_length_le (show rows.length ≤ k by omega)]
  refine X_exit ?_
  refine at_then_e ?_
  refine at_then_e ?_
  refine at_block_hit ?_
  refine at_then ?_
  refine X_seq (X_region ?_)
  refine XO_alloc zt_133 rfl rfl (fun b_10 => ?_)
  refine XO_nil (at_then (X_seq (X_region ?_)))
  refine XO_v0 (ev_makeFunc (us := []) (vs := [_, _, _, _, _]) rfl rfl) rfl rfl rfl ?_
  refine zS szt_133 ?_
  refine XO_nil (at_then (X_seq (X_region ?_)))
  refine zA ?_
  refine XO_nil (at_then ?_)
  refine X_seq ?_
  refine X_seq ?_
  refine X_freezeAll (fun I2 hI2 hall => ?_)
  have hS := hS.mono hI2
  have hH := hH.mono hI2
  have hV := hV.mono hI2
  have hDb := hDb.mono hI2
  have hIc := hIc.trans hI2
  have hE : PrE I2 79 b_3 b_5 b_7 b_4 b_10 r_14 av bv n c n2 c2 xs rows l := ⟨.imm (hall _ _ (by repeat (first | exact List.mem_cons_self .. | apply List.mem_cons_of_mem))) rfl, .imm (hall _ _ (by repeat (first | exact List.mem_cons_self .. | apply List.mem_cons_of_mem))) rfl, .imm (hall _ _ (by repeat (first | exact List.mem_cons_self .. | apply List.mem_cons_of_mem))) rfl, .imm (hall _ _ (by repeat (first | exact List.mem_cons_self .. | apply List.mem_cons_of_mem))) rfl, .imm (hall _ _ (by repeat (first | exact List.mem_cons_self .. | apply List.mem_cons_of_mem))) rfl, hall _ _ (by repeat (first | exact List.mem_cons_self .. | apply List.mem_cons_of_mem)), hDb, hS, ⟨hs, hV⟩⟩
  have hD := HLe.refl I2
  refine X_drawC mixed ?_
  refine XD_take 0 rfl (ev_load rfl sct_133 (fun hg => by exact hE.bel.any)) (.none rfl) rfl rfl rfl (by kernel_rfl) (by kernel_rfl) (by kernel_rfl) noP_ok hD (by repeat (first | exact .refl | exact subL_nil | refine .keep ?_ | refine .drop ?_ | refine subL_add ?_)) ?_
  refine XD_take 1 rfl (ev_load rfl sct_22 (fun hg => by exact hE.row.any)) (.none rfl) rfl rfl rfl (by kernel_rfl) (by kernel_rfl) (by kernel_rfl) noP_ok hD (by repeat (first | exact .refl | exact subL_nil | refine .keep ?_ | refine .drop ?_ | refine subL_add ?_)) ?_
  refine XD_take 2 rfl (ev_lenS rfl slt_22) (.none rfl) rfl rfl rfl (by kernel_rfl) (by kernel_rfl) (by kernel_rfl) noP_ok hD (by repeat (first | exact .refl | exact subL_nil | refine .keep ?_ | refine .drop ?_ | refine subL_add ?_)) ?_
  refine XD_take 3 rfl (ev_shl rfl rfl (fun hg => by omega)) (.none rfl) rfl rfl rfl (by kernel_rfl) (by kernel_rfl) (by kernel_rfl) noP_ok hD (by repeat (first | exact .refl | exact subL_nil | refine .keep ?_ | refine .drop ?_ | refine subL_add ?_)) ?_
  refine XD_take 4 rfl (ev_arB rfl rfl rfl (fun hg => by first | omega | (simp [conj] at hg; omega))) (.none rfl) rfl rfl rfl (by kernel_rfl) (by kernel_rfl) (by kernel_rfl) noP_ok hD (by repeat (first | exact .refl | exact subL_nil | refine .keep ?_ | refine .drop ?_ | refine subL_add ?_)) ?_
  refine XD_one 5 rfl (by kernel_rfl) ?_
  refine XO_callM (cap := [capP b_3, capP b_5, capP b_7, capP b_4, capP b_10]) (vs := [_]) rfl rfl fun_79 (by first | exact .nil | exact split_nil | exact split_right (L := [])) (w_price1A hE hn hn2 hl hc) rfl rfl ?_
  rintro vv3 I3 L3 hI3 ⟨rfl, rm2, m, rfl, hM2, hR2⟩
  have hS := hS.mono hI3
  have hH := hH.mono hI3
  have hV := hV.mono hI3
  have hDb := hDb.mono hI3
  have hE := hE.mono hI3
  have hIc := hIc.trans hI3
  have hD := hD.trans hI3
  have hml := hR2.small
  have hmp := hR2.ne
  refine XO_nil ?_
  refine zD hD ?_
  refine XD_one 6 rfl (by kernel_rfl) ?_
  refine XO_range (ek := eiv) (ev := eiv) (m := m) rfl mpt_132 rfl rfl (.inl hM2) (fun b_40 => ?_)
  refine XO_nil ?_
  refine zD hD ?_
  refine XD_done (by kernel_rfl) ?_
  refine at_noP ?_
  refine at_then ?_
  refine X_block ?_
  refine X_loopT [(40, _)] (.cons rfl .nil) (fun T L0 mz E I' loc' => ∃ (seen : List Nat) (v6 : Value) (q6 : Nat) (L : Go.Kn.Loc), mz = m.length - seen.length ∧ E = (11, v6) :: T ∧ I3 = I' ∧ L ++ [(b_40, iterO rm2 m.length seen)] = loc' ∧ OwnS 3 1 v6 q6 (((visO m seen).map (·.2)).flatMap encI) L ∧ q6 = seen.length ∧ seen.Nodup ∧ ∀ i ∈ seen, i < m.length) _ _ _ _ ⟨[], _, 0, [], rfl, rfl, rfl, rfl, OwnS.nil, rfl, .nil, fun i h => by cases h⟩ (.cons rfl (.cons rfl .nil)) (HLe.refl _) rfl ?_
  rintro mz E I' loc' ⟨seen, v6, q6, L, rfl, rfl, rfl, rfl, hO6, hq6, hnd, hlt⟩
  have hsl6 := seen_lt hnd hlt
  refine X_seq (X_region ?_)
  refine XO_next2 (ek := eiv) (ev := eiv) (m := m) (fun s' => L ++ [(b_40, iterO rm2 m.length s')]) rfl (fun s' => upd_app .here) rfl rfl rfl rfl rfl (.inl hM2) (by simp) ?_
  intro t tv s' hno hyes
  refine XO_nil (at_then ?_)
  refine X_seq ?_
  refine X_cond rfl (fun hc42 => ?_) (fun hc42 => ?_)
  ·
   obtain ⟨i, q, hq, hns, rfl⟩ := hyes hc42
   refine X_skip ?_
   refine at_then ?_
   refine X_block ?_
   refine X_seq (X_region ?_)
   refine XO_v0 (ev_entry (ek := eiv) (ev := eiv) (m := m) (p := q) (seen := seen) (i := i) rfl (.inl hM2) (.inr (by simp)) hq) rfl rfl rfl ?_
   refine XO_v0 (ev_extract rfl rfl) rfl rfl rfl ?_
   refine zA ?_
   refine XO_nil (at_then ?_)
   refine X_region ?_
   refine zM ?_
   refine zM ?_
   refine XO_buildSlice (ps := [(0, _)]) (m := [encI q.2]) elt_23 rfl (.cons rfl (.nil)) rfl (by simp [encI_len]) (by decide) (by decide) rfl rfl (fun b_47 => ?_)
   refine XO_append (v := _) (ys := [q.2].flatMap encI) (L := L) rfl rfl elt_23 hO6 (by repeat (first | exact .cons .here .nil | exact split_all | exact split_app | apply split_cons | apply split_skip)) ⟨rfl, fun _ => rfl, Cells.here⟩ (one_I _) (by omega) rfl rfl ?_
   intro v9 L9 hO9 _; rw [← List.flatMap_append] at hO9
   refine zA ?_
   refine XO_nil ?_
   refine at_block_n ?_
   have hs9 := snd_nodup hnd hlt hns (List.getElem?_eq_some_iff.1 hq).1
   exact at_met2 _ _ ⟨m.length - (seen ++ [i]).length, by rw [List.length_append, List.length_singleton]; have := hs9.2.2; rw [List.length_append, List.length_singleton] at this; omega, seen ++ [i], v9, q6 + 1, L9, rfl, rfl, rfl, rfl, by rw [vis_snoc hq, List.map_append]; exact hO9, by rw [List.length_append, List.length_singleton]; omega, hs9.1, hs9.2.1⟩ (.cons rfl (.cons rfl .nil)) (by repeat (first | exact .refl | exact subL_left | refine subL_app ?_ | refine .drop ?_ | refine subL_add ?_))
  ·
   obtain ⟨rfl, hall2⟩ := hno hc42
   have hlen6 := (seen_perm hnd hlt hall2).length_eq
   rw [List.length_range] at hlen6
   refine X_exit ?_
   refine at_then_e ?_
   refine at_then_e ?_
   refine at_block_hit ?_
   refine at_then ?_
   refine X_seq ?_
   refine X_freezeO hO6 encI_len (by decide) split_app (fun I5 hI5 af5 cf5 ef5 hLst => ?_)
   subst ef5
   have hS := hS.mono hI5
   have hH := hH.mono hI5
   have hV := hV.mono hI5
   have hDb := hDb.mono hI5
   have hE := hE.mono hI5
   have hM2 := hM2.mono hI5
   have hIc := hIc.trans hI5
   refine X_region ?_
   refine zM ?_
   refine XO_callV0 (cap := []) (vs := [_]) rfl rfl fun_82 (w_leastE (ent_least hR2 (vis_all hnd hlt hall2)) hLst (by omega) (by omega)) rfl rfl ?_
   refine zA ?_
   refine XO_nil (at_then ?_)
   refine X_ret ?_
   exact at_ret1 rfl rfl (fun w hw => ⟨by rfl, (hw.mono hIc).drop⟩)
theorem w_cost {I : HMap} {av : Option Addr} {n c : Nat} {xs : List Int} (hS : Sl I 1 encI av n c xs) (hn : n ≤ 100000) {bv : Option Addr} {n2 c2 : Nat} {rows : List (List Int)} (hV : SlN I bv n2 c2 rows) (hn2 : n2 ≤ 100000) (hDb : DebOK I) (hr : rowsN rows = 0) (hc : chkN rows.length xs = 0) : RetV Tryd.prog 30 [.slice bv n2 c2, .slice av n c] I (.int .i64 (priceF rows xs)) := by
 intro g H w hw
 refine enter Tryd.func30 rfl Tryd.ntmps30 rfl hw ?_
 obtain ⟨hs, hV⟩ := hV
 have hH := hV.1
 have hlV := hV.len
 obtain ⟨hr1, hr6, hr64, hrr⟩ := rows_ok hr
 obtain ⟨x0, v0, hx0, hv0, hQ0⟩ := hV.at (show 0 < n2 by omega)
 have hw0 := hQ0.len
 have hg0 := getD_of (d := ([] : List Int)) hv0
 have hv64 : v0.length ≤ 64 := by rw [← hg0]; exact hr64
 refine X_seq (X_region ?_)
 refine zA ?_
 refine XO_nil (at_then ?_)
 refine X_seq ?_
 refine X_seq (X_region ?_)
 refine zM ?_
 refine XO_v0 (ev_indexSl rfl rfl slt_22 hH (fun hg => by first | omega | (simp [conj] at hg; omega))) rfl rfl rfl ?_
 refine XO_v0 (ev_load rfl sct_23 (fun hg => by exact Sl.get0 (k := 0) hH hx0 rfl)) rfl rfl rfl ?_
 refine XO_v0 (ev_lenS rfl slt_23) rfl rfl rfl ?_
 refine zM ?_
 refine XO_nil (at_then ?_)
 refine X_block ?_
 refine X_loopT [(0, _), (1, _), (9, _)] (.cons rfl (.cons rfl (.cons rfl .nil))) (fun T L0 mz E I' loc' => ∃ (k : Nat) (sm : Int), mz = v0.length - k ∧ E = (4, .int .i64 sm) :: (10, .int .i64 k) :: T ∧ I = I' ∧ [] = loc' ∧ k ≤ v0.length ∧ sm = priceK rows xs k ∧ 0 ≤ sm ∧ sm ≤ k * 1099511627776) _ _ _ _ ⟨0, _, rfl, rfl, rfl, rfl, Nat.zero_le _, rfl, Int.le_refl _, (show (0 : Int) ≤ ((0 : Nat) : Int) * 1099511627776 by decide)⟩ (.cons rfl (.cons rfl (.cons rfl (.cons rfl (.cons rfl .nil))))) (HLe.refl _) rfl ?_
 rintro mz E I' loc' ⟨k, sm, rfl, rfl, rfl, rfl, hk, hsm, hs1, hs2⟩
 refine X_seq (X_region ?_)
 refine zC ?_
 refine XO_nil (at_then ?_)
 refine X_seq ?_
 refine X_cond rfl (fun hc11 => ?_) (fun hc11 => ?_)
 ·
  have hlt_k : k < v0.length := by have h := hc11; simp at h; omega
  refine X_skip ?_
  refine at_then ?_
  refine X_seq ?_
  refine X_block ?_
  refine X_seq (X_region ?_)
  refine zM ?_
  refine zA ?_
  refine XO_nil (at_then ?_)
  refine X_region ?_
  refine zM ?_
  refine zM ?_
  refine zM ?_
  refine zM ?_
  refine XO_callV0 (cap := []) (vs := [_, _, _]) rfl rfl fun_52 (w_price (l := k) hS hn ⟨hs, hV⟩ hn2 hDb (fun r hm => by rw [(hrr r hm).1, hg0]; omega) (by omega) hc) rfl rfl ?_
  refine XO_v0 (ev_arB rfl rfl rfl (fun _ => by first | omega | (have hmi : 0 ≤ leastF (costsF rows xs k 64 (allS rows.length)) ∧ leastF (costsF rows xs k 64 (allS rows.length)) ≤ 1099511627776 := minK_in (cs := (costsF rows xs k 64 (allS rows.length))) (costs_in _ _) (by rw [costs_len]; exact st_pos) (costsF rows xs k 64 (allS rows.length)).length; omega))) rfl rfl rfl ?_
  refine zA ?_
  refine XO_nil ?_
  refine at_block_n ?_
  refine at_then ?_
  refine X_region ?_
  refine XO_v0 (ev_arB rfl rfl rfl (fun _ => by first | omega | (have hmi : 0 ≤ leastF (costsF rows xs k 64 (allS rows.length)) ∧ leastF (costsF rows xs k 64 (allS rows.length)) ≤ 1099511627776 := minK_in (cs := (costsF rows xs k 64 (allS rows.length))) (costs_in _ _) (by rw [costs_len]; exact st_pos) (costsF rows xs k 64 (allS rows.length)).length; omega))) rfl rfl rfl ?_
  refine zM ?_
  refine XO_nil ?_
  exact at_met2 _ _ ⟨v0.length - (k + 1), by omega, k + 1, _, rfl, rfl, rfl, rfl, by omega, by rw [price_step, hsm], by have hmi : 0 ≤ leastF (costsF rows xs k 64 (allS rows.length)) ∧ leastF (costsF rows xs k 64 (allS rows.length)) ≤ 1099511627776 := minK_in (cs := (costsF rows xs k 64 (allS rows.length))) (costs_in _ _) (by rw [costs_len]; exact st_pos) (costsF rows xs k 64 (allS rows.length)).length; omega, by have hmi : 0 ≤ leastF (costsF rows xs k 64 (allS rows.length)) ∧ leastF (costsF rows xs k 64 (allS rows.length)) ≤ 1099511627776 := minK_in (cs := (costsF rows xs k 64 (allS rows.length))) (costs_in _ _) (by rw [costs_len]; exact st_pos) (costsF rows xs k 64 (allS rows.length)).length; omega⟩ (.cons rfl (.cons rfl (.cons rfl (.cons rfl (.cons rfl .nil))))) (by repeat (first | exact .refl | exact subL_left | refine subL_app ?_ | refine .drop ?_ | refine subL_add ?_))
 ·
  have hge_k : k = v0.length := by have h := hc11; simp at h; omega
  refine X_exit ?_
  refine at_then_e ?_
  refine at_then_e ?_
  refine at_block_hit ?_
  refine at_then ?_
  refine X_seq (X_region ?_)
  refine zM ?_
  refine zA ?_
  refine XO_nil (at_then ?_)
  refine X_ret ?_
  first
  | exact at_ret1 rfl rfl (fun w hw => ⟨by rw [hsm, hge_k, ← hg0]; rfl, hw.drop⟩)
end Go.Proofs.YthcffaheamikgaaDoor
end
section
namespace Go.Proofs.YthcffaheamikgaaDoor
open Go Go.Kn Go.Proofs
def sortI (zs : List Int) : List Int := zs.mergeSort fun x y => decide (x ≤ y)
end Go.Proofs.YthcffaheamikgaaDoor
end
section
namespace Go.Proofs.YthcffaheamikgaaDoor
open Go Go.Kn Go.Proofs
def cmpI (x y : Int) : Int := if x < y then -1 else if x > y then 1 else 0
structure HdP (I : HMap) where
  h : Hd
  v : List Int
  ok : Sl I 1 encI h.a h.n h.c v
  len : v.length ≤ 1000
instance (I : HMap) : Inhabited (HdP I) := ⟨⟨⟨none, 0, 0⟩, [], Sl.nil, by simp⟩⟩
end Go.Proofs.YthcffaheamikgaaDoor
end
