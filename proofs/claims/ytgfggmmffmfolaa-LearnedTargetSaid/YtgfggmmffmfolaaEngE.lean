/- Slices that a function makes; composites; equality of structs. Generic over the program; no condition. -/
import Derived.Test.YtgfggmmffmfolaaEngQ
import Derived.Laws.StructEq
namespace Go.Kn
open Go

/-- A slice of the function's own: its elements' type and cells, its length, the cells that are in use, the block. -/
def OwnS (e size : Nat) (v : Value) (n : Nat) (xs : List Value) (L : Loc) : Prop :=
  xs.length = n * size ∧ ((v = .slice none 0 0 ∧ n = 0 ∧ L = []) ∨
    ∃ b c cur, v = .slice (some ⟨b, 0, none⟩) n c ∧ L = [(b, .cells cur e (0, 0))] ∧ n ≤ c ∧ c ≤ maxLen ∧ cur.size = c * size ∧ cur.toList.take (n * size) = xs)
theorem OwnS.nil {e size : Nat} : OwnS e size (.slice none 0 0) 0 [] [] := ⟨by simp, .inl ⟨rfl, rfl, rfl⟩⟩
/-- Where cells are read from. -/
structure Src (I : HMap) (loc : Loc) (av : Option Addr) (m size : Nat) (ys : List Value) : Prop where
  len : ys.length = m * size
  base : m ≠ 0 → av = some ⟨Ab av, Ao av, none⟩
  cells : Cells I loc (Ab av) (Ao av) ys

section
variable {g : World} {I I' H : HMap} {loc loc' L R : Loc} {w w' : World}
theorem St.perm (h : St g I H loc w) (hm : ∀ p, p ∈ loc' ↔ p ∈ loc) (hn : (loc'.map (·.1)).Nodup) : St g I H loc' w :=
  ⟨h.os, h.tape, h.out, h.size, h.imm, h.frm, fun b o x => h.own b o ((hm _).1 x), h.sepIH, fun b o x => h.sepIL b o ((hm _).1 x), hn⟩
theorem size_zeroCells' (z : Array Value) (n : Nat) : (Builtin.zeroCells z n).size = n * z.size := by simp [Builtin.zeroCells]

/-- 'append' onto a slice of one's own. -/
theorem run_append_St {P : Program} (t ty e : TypeId) (i : TypeInfo) (z : Value) {size bytes : Nat} (ht : P.underlying t = some (.slice e)) (hi : P.info? e = some i) (hz : i.zero = some z)
    (hsize : i.size = size) (hby : i.bytes = bytes) (hzs : z.cells.size = size)
    {v : Value} {n : Nat} {xs : List Value} {av : Option Addr} {m c : Nat} {ys : List Value} (hO : OwnS e size v n xs L) (hw : St g I H (L ++ R) w) (hS : Src I (L ++ R) av m size ys) (h1 : ∀ u ∈ ys, u.oneCell' = true)
    (hB : (n + m) * (bytes + 1) ≤ 70368744177664) :
    ∃ v' w' L', (Builtin.append_ #[t, t] ty #[v, .slice av m c]).run P w = .ok v' w' ∧ OwnS e size v' (n + m) (xs ++ ys) L' ∧ St g I H (L' ++ R) w' ∧ (m = 0 → v' = v) := by
  subst hsize
  subst hby
  have hnm : n + m ≤ 70368744177664 := by
    have : (n + m) * 1 ≤ (n + m) * (i.bytes + 1) := Nat.mul_le_mul_left _ (by omega)
    omega
  have hbytes : (n + m) * i.bytes ≤ 140737488355328 := by
    have : (n + m) * i.bytes ≤ (n + m) * (i.bytes + 1) := Nat.mul_le_mul_left _ (by omega)
    omega
  have hmL : n + m ≤ maxLen := by simp only [maxLen]; omega
  have hlen : (xs ++ ys).length = (n + m) * i.size := by rw [List.length_append, hO.1, hS.len, Nat.add_mul]
  by_cases hm : m = 0
  · subst hm
    have hy : ys = [] := List.eq_nil_of_length_eq_zero (by simpa using hS.len)
    subst hy
    refine ⟨v, w, L, ?_, by simpa using hO, hw, fun _ => rfl⟩
    have key : ∀ (b : Option Addr) (k q : Nat), k ≤ q → (Builtin.append_ #[t, t] ty #[.slice b k q, .slice av 0 c]).run P w = .ok (.slice b k q) w := by
      intro b k q hkq
      cases av <;> cases b <;> simp [Builtin.append_, run_underlying ht, sizeOf, typeInfo, hi, Builtin.lenOf, Builtin.firstCells, loadCells, loadCellsFrom, hkq, storeCells]
    rcases hO.2 with ⟨rfl, rfl, rfl⟩ | ⟨b, q, cur, rfl, rfl, hc, _⟩
    · exact key _ _ _ (Nat.le_refl _)
    · exact key _ _ _ hc
  · have hav := hS.base hm
    have hnews : ∀ j u, ys[j]? = some u → w.cell? ((⟨Ab av, Ao av, none⟩ : Addr).add j) = some u := fun j u hj => by rw [add_plain]; exact (hS.cells j u hj).get hw
    rw [hav]
    -- a new block
    have grown : ∀ (old : Nat) (R' : Loc), old < n + m → St g I H R' w → ∃ L', OwnS e i.size (.slice (some ⟨w.heap.size, 0, none⟩) (n + m) (grownCap w (n + m) old e)) (n + m) (xs ++ ys) L' ∧
        St g I H (L' ++ R') (w.drew.alloc (.cells (xs.toArray ++ ys.toArray ++ Builtin.zeroCells z.cells (grownCap w (n + m) old e - (n + m))) e)) := by
      intro old R' ho hw'
      have hge := grownCap_ge w (n + m) old e
      have hcm : grownCap w (n + m) old e ≤ maxLen := grownCap_le_maxLen w (n + m) old e hmL
      refine ⟨_, ⟨hlen, .inr ⟨w.heap.size, _, xs.toArray ++ ys.toArray ++ Builtin.zeroCells z.cells (grownCap w (n + m) old e - (n + m)), rfl, rfl, hge, hcm, ?_, ?_⟩⟩, ?_⟩
      · simp only [Array.size_append, List.size_toArray, size_zeroCells', hzs, hO.1, hS.len, ← Nat.add_mul]
        congr 1
        omega
      · simp only [Array.toList_append, List.append_assoc]
        rw [← List.append_assoc, ← hlen]
        exact List.take_left
      · exact hw'.drew'.alloc _
    rcases hO.2 with ⟨rfl, rfl, rfl⟩ | ⟨b, cap, cur, rfl, rfl, hnc, hcm, hcs, htake⟩
    · have hx : xs = [] := List.eq_nil_of_length_eq_zero (by simpa using hO.1)
      subst hx
      have hr := run_append_nil (P := P) w t ty e i z ht hi hz ⟨Ab av, Ao av, none⟩ m c ys hS.len hnews (by omega) (by omega) (by simp only [Nat.zero_add] at hbytes; omega)
      obtain ⟨L', h1', h2'⟩ := grown 0 R (by omega) hw
      simp only [Nat.zero_add, List.nil_append, Array.empty_append] at h1' h2' ⊢
      exact ⟨_, _, L', hr, h1', h2', fun h => absurd h hm⟩
    · have hb := hw.own b (.cells cur e (0, 0)) (List.mem_cons_self ..)
      by_cases hroom : n + m ≤ cap
      · have hfit : n * i.size + ys.length ≤ cur.size := by rw [hS.len, hcs, ← Nat.add_mul]; exact Nat.mul_le_mul_right _ hroom
        have hr := run_append_room (P := P) w t ty e i ht hi b n cap cur hb ⟨Ab av, Ao av, none⟩ m c ys hS.len hnews h1 hroom hfit
        refine ⟨_, _, _, hr, ⟨hlen, .inr ⟨b, cap, (cur.toList.take (n * i.size) ++ ys ++ cur.toList.drop (n * i.size + ys.length)).toArray, rfl, rfl, hroom, hcm, ?_, ?_⟩⟩, ?_, fun h => absurd h hm⟩
        · simp only [List.size_toArray, List.length_append, List.length_take, List.length_drop, Array.length_toList]
          omega
        · rw [htake, ← hlen]
          exact List.take_left
        · exact hw.turn Upd.here rfl rfl rfl (by simp [World.setRow]) (setRow_heap w b cur _ e _ hb) (fun k hk => setRow_other w b k _ hk)
      · have holds : ∀ j u, xs[j]? = some u → w.cell? ((⟨b, 0, none⟩ : Addr).add j) = some u := fun j u hj => by
          rw [add_plain, Nat.zero_add]
          rw [← htake, List.getElem?_take] at hj
          split at hj
          · simpa [World.cell?, hb] using hj
          · cases hj
        have hr := run_append_grow (P := P) w t ty e i z ht hi hz ⟨b, 0, none⟩ n cap xs hO.1 holds ⟨Ab av, Ao av, none⟩ m c ys hS.len hnews (by omega) (by omega) (growslice_fits (by omega) hbytes)
        obtain ⟨L', h1', h2'⟩ := grown cap R (by omega) (hw.take Take.here)
        exact ⟨_, _, L', hr, h1', h2', fun h => absurd h hm⟩
end

/-- What the tables say of a slice's element: cells, bytes, its zero. -/
def ElT (P : Program) (t e size bytes : Nat) : Prop := P.underlying t = some (.slice e) ∧ ∃ i z, P.info? e = some i ∧ i.zero = some z ∧ i.size = size ∧ i.bytes = bytes ∧ z.cells.size = size
def elTB (P : Program) (t e size bytes : Nat) : Bool := (match P.underlying t with | some (.slice e') => e' == e | _ => false) && (match P.info? e with | some i => (match i.zero with | some z => i.size == size && i.bytes == bytes && z.cells.size == size | none => false) | none => false)
theorem ElT.of {P : Program} {t e size bytes : Nat} (h : elTB P t e size bytes = true) : ElT P t e size bytes := by
  simp only [elTB, Bool.and_eq_true] at h
  obtain ⟨h1, h2⟩ := h
  refine ⟨?_, ?_⟩
  · split at h1
    · rename_i e' h'; rw [beq_iff_eq] at h1; rw [h', h1]
    · cases h1
  · split at h2
    · rename_i i hi
      split at h2
      · rename_i z hz
        simp only [Bool.and_eq_true, beq_iff_eq] at h2
        exact ⟨i, z, hi, hz, h2.1.1, h2.1.2, h2.2⟩
      · cases h2
    · cases h2

section
variable {C : Cx} {Q : Exit → Act → World → Prop} {E E' : Env} {I I' : HMap} {loc loc' L R : Loc} {ops : Array Oper} {rest : List Oper} {S : GS}
variable {dst : Option Tmp} {d : Nat} {ty : TypeId} {pos : String} {af : Array Edge} {gd : Option (Nat × Bool)} {x y z : Operand}

theorem Split.app1 {b : Nat} {o : Obj} {l : Loc} : Split ((b, o) :: l) [(b, o)] l := .cons .here .nil
theorem St.unsplit {g : World} {H : HMap} {w : World} (h : St g I H loc w) (hs : Split loc L R) : St g I H (L ++ R) w := h.join hs (h.split hs)
theorem Cells.of_split {b off : Nat} {vs : List Value} (h : Cells I loc b off vs) (hs : ∀ p ∈ loc, p ∈ loc') : Cells I loc' b off vs := fun j u hu => by
  obtain ⟨cs, t, fz, hm, hv⟩ := h j u hu
  exact ⟨cs, t, fz, hm.imp id (hs _), hv⟩
theorem Split.mem (hs : Split loc L R) : ∀ p ∈ loc, p ∈ L ++ R := by
  induction hs with
  | nil => exact fun p h => by simpa using h
  | @cons l l1 l2 L b o ht hs ih =>
    intro p hp
    have : p = (b, o) ∨ p ∈ l1 := by
      clear ih hs
      induction ht with
      | here => exact List.mem_cons.1 hp
      | @there x b o l l' ht ih =>
        rcases List.mem_cons.1 hp with e | hp
        · exact .inr (e ▸ List.mem_cons_self ..)
        · exact (ih hp).imp id (List.mem_cons_of_mem _)
    rcases this with e | hp'
    · subst e; exact List.mem_append_left _ (List.mem_cons_self ..)
    · rcases List.mem_append.1 (ih p hp') with h | h
      · exact List.mem_append_left _ (List.mem_cons_of_mem _ h)
      · exact List.mem_append_right _ h

/-- 'append(s, xs...)', s of one's own. -/
theorem XO_append {t e size bytes : Nat} {v : Value} {n m c : Nat} {xs ys : List Value} {av : Option Addr} (hx : evalS [] E x = some v) (hy : evalS [] E y = some (.slice av m c)) (hT : ElT C.P t e size bytes)
    (hO : OwnS e size v n xs L) (hsp : Split loc L R) (hS : Src I loc av m size ys) (h1 : allOne ys = true) (hB : (n + m) * (bytes + 1) ≤ 70368744177664) (hG : gd = none) (hN : Nat.blt d C.N = true)
    (h : ∀ v' L', OwnS e size v' (n + m) (xs ++ ys) L' → (m = 0 → v' = v) → XO C Q ops rest [] ((d, v') :: E) I (L' ++ R)) :
    XO C Q ops (⟨some d, .call ⟨.builtin .append, #[x, y], #[t, t]⟩, ty, pos, af, gd⟩ :: rest) [] E I loc :=
  XO_world hG (by intro c e; cases e) fun a w ha hw => by
    obtain ⟨ht, i, zz, hi, hz, hs, hb, hzs⟩ := hT
    obtain ⟨v', w', L', hr, hO', hw', hm⟩ := run_append_St (P := C.P) t ty e i zz ht hi hz hs hb hzs (c := c) hO (hw.unsplit hsp) ⟨hS.len, hS.base, hS.cells.of_split hsp.mem⟩ (allOne_iff h1) hB
    simp only [execOp, resolve, List.map_toArray, List.map_cons, List.map_nil, evalS_sound (S := []) ha trivial rfl hx, evalS_sound (S := []) ha trivial rfl hy, Sem.run_bind, Sem.run_pure, Result.andThen, invoke, builtin, hr, Oper.uponIn_value]
    exact h v' L' hO' hm _ _ (ha.put hN _) trivial hw'

/-! ### Composites -/
inductive PartsAt : Nat → List (Nat × Value) → List (List Value) → Prop
  | nil {k : Nat} : PartsAt k [] []
  | cons {k : Nat} {v : Value} {vs : List Value} {l : List (Nat × Value)} {m : List (List Value)} (hv : v.cells = vs.toArray) (h : PartsAt (k + 1) l m) : PartsAt k ((k, v) :: l) (vs :: m)
theorem foldl_set (off : Nat) : ∀ (vs pre old tail : List Value) (k : Nat), pre.length = off + k → old.length = vs.length →
    (vs.zipIdx k).foldl (fun (cs : Array Value) (p : Value × Nat) => cs.setIfInBounds (off + p.2) p.1) (pre ++ old ++ tail).toArray = (pre ++ vs ++ tail).toArray
  | [], pre, old, tail, k, _, h => by
    have : old = [] := List.length_eq_zero_iff.1 h
    subst this; rfl
  | v :: vs, pre, old, tail, k, hk, h => by
    cases old with
    | nil => simp at h
    | cons u old =>
      rw [List.zipIdx_cons, List.foldl_cons]
      have e : (pre ++ u :: old ++ tail).toArray.setIfInBounds (off + k) v = ((pre ++ [v]) ++ old ++ tail).toArray := by
        rw [← hk]; simp
      rw [e, foldl_set off vs (pre ++ [v]) old tail (k + 1) (by simp; omega) (by simpa using h)]
      simp
theorem fill_one {place : Nat → Option (Nat × Nat)} {i off size : Nat} {v : Value} {vs pre old tail : List Value} {l : List (Nat × Value)} (hp : place i = some (off, size)) (hv : v.cells = vs.toArray) (hs : vs.length = size) (hpre : pre.length = off) (ho : old.length = size) :
    Instr.fill place (pre ++ old ++ tail).toArray ((i, v) :: l) = Instr.fill place (pre ++ vs ++ tail).toArray l := by
  have := foldl_set off vs pre old tail 0 (by omega) (by omega)
  simp only [Instr.fill, hp, hv]
  have h1 : ¬ (vs.toArray.size ≠ size || decide (off + vs.toArray.size > (pre ++ old ++ tail).toArray.size)) = true := by
    simp only [List.size_toArray, List.length_append, Bool.or_eq_true, decide_eq_true_eq, not_or]
    omega
  rw [if_neg h1]
  congr 1
  rw [← this]
  simp
theorem fill_seq (size : Nat) : ∀ (l : List (Nat × Value)) (m : List (List Value)) (k : Nat) (pre old : List Value), PartsAt k l m → (∀ vs ∈ m, vs.length = size) → pre.length = k * size → old.length = m.length * size →
    Instr.fill (fun i => some (i * size, size)) (pre ++ old).toArray l = some (pre ++ m.flatten).toArray
  | _, _, k, pre, old, .nil, _, _, ho => by
    have : old = [] := List.length_eq_zero_iff.1 (by simpa using ho)
    subst this; simp [Instr.fill]
  | _, _, k, pre, old, .cons (v := v) (vs := vs) (l := l) (m := m) hv h, hs, hp, ho => by
    have hvs := hs vs (List.mem_cons_self ..)
    have ho' : old.length = size + m.length * size := by rw [ho, List.length_cons, Nat.add_mul, Nat.one_mul, Nat.add_comm]
    have e : old = old.take size ++ old.drop size := (List.take_append_drop _ _).symm
    rw [e, ← List.append_assoc]
    rw [fill_one (off := k * size) (size := size) rfl hv hvs hp (by rw [List.length_take]; omega)]
    rw [fill_seq size l m (k + 1) (pre ++ vs) (old.drop size) h (fun u hu => hs u (List.mem_cons_of_mem _ hu)) (by rw [List.length_append, hp, hvs, Nat.add_mul, Nat.one_mul]) (by rw [List.length_drop]; omega)]
    simp

/-- '[]T{..}'. -/
theorem XO_buildSlice {t e size bytes n : Nat} {parts : Array (Nat × Operand)} {ps : List (Nat × Value)} {m : List (List Value)} (hT : ElT C.P t e size bytes) (hp : parts.toList.map (fun p => (evalS [] E p.2).map fun v => (p.1, v)) = ps.map some) (hm : PartsAt 0 ps m) (hn : m.length = n) (hs : ∀ vs ∈ m, vs.length = size)
    (hsz : 0 < size) (hB : n * size ≤ 16777216) (hG : gd = none) (hN : Nat.blt d C.N = true) (h : ∀ b, XO C Q ops rest [] ((d, .slice (some ⟨b, 0, none⟩) n n) :: E) I ((b, .cells m.flatten.toArray e (0, 0)) :: loc)) :
    XO C Q ops (⟨some d, .buildSlice t n parts, ty, pos, af, gd⟩ :: rest) [] E I loc :=
  XO_world hG (by intro c e; cases e) fun a w ha hw => by
    obtain ⟨ht, i, zz, hi, hz, hs', hb, hzs⟩ := hT
    have key : ∀ (l : List (Nat × Operand)) (ps : List (Nat × Value)), l.map (fun p => (evalS [] E p.2).map fun v => (p.1, v)) = ps.map some → l.map (fun p => (p.1, a.eval p.2)) = ps := by
      intro l
      induction l with
      | nil => intro ps h; cases ps <;> simp_all
      | cons p l ih =>
        intro ps h
        cases ps with
        | nil => simp at h
        | cons q ps =>
          simp only [List.map_cons, List.cons.injEq] at h ⊢
          refine ⟨?_, ih _ h.2⟩
          cases e1 : evalS [] E p.2 with
          | none => rw [e1] at h; simp at h
          | some v =>
            rw [e1] at h
            rw [evalS_sound (S := []) ha trivial rfl e1]
            simpa using h.1
    have hps : (parts.map fun (i, x) => (i, a.eval x)).toList = ps := by
      rw [← key _ _ hp]; simp
    have hf : ∀ A : Array Value, A.size = n * size → Instr.fill (fun i_1 => some (i_1 * size, size)) A ps = some m.flatten.toArray := fun A hA => by
      have := fill_seq size ps m 0 [] A.toList hm hs (by simp) (by simp [hA, hn])
      simpa only [List.nil_append, Array.toArray_toList] using this
    have hnot : ¬ (2 ^ 24 < n * size) := by omega
    have gen : ∀ A : Array (Nat × Value), A.toList = ps → (Instr.buildSlice t n A).run C.P w = .ok (.slice (some ⟨w.heap.size, 0, none⟩) n n) (w.alloc (.cells m.flatten.toArray e (0, 0))) := by
      subst hs'
      intro A hA
      by_cases h0 : n = 0
      · subst h0
        simp only [Instr.buildSlice, Sem.run_bind, run_underlying ht, run_sizeOf hi, Result.andThen, hA]
        simp [newRow]
        rw [hf _ (by simp)]
        simp
      · have e1 := hf ((Array.range (n * i.size)).map (zz.cells[· % zz.cells.size]!)) (by simp)
        simp only [Instr.buildSlice, Sem.run_bind, run_underlying ht, run_sizeOf hi, Result.andThen, hA]
        have h1 : n * i.size ≠ 0 := Nat.mul_ne_zero h0 (Nat.pos_iff_ne_zero.1 hsz)
        simp [h1, run_zeroValue ⟨i, hi, hz⟩, newRow, hnot, e1]
    have hrun := gen _ hps
    simp only [execOp, Sem.run_bind, hrun, Result.andThen, Sem.run_pure, Oper.uponIn_value]
    exact h _ _ _ (ha.put hN _) trivial (hw.alloc _)

/-- A struct's places: (offset, cells) of each field. -/
def PlT (P : Program) (t : Nat) (pl : Array (Nat × Nat)) (z : Value) : Prop := ZeroT P t z ∧ P.underlying t = some (.struct (P.fieldsOf t)) ∧ ∀ w, ((P.fieldsOf t).mapM fun f => do pure (f.offset, ← sizeOf f.type) : Sem (Array (Nat × Nat))).run P w = .ok pl w
theorem ev_build {t : Nat} {pl : Array (Nat × Nat)} {zv : Value} {parts : Array (Nat × Operand)} {ps : List (Nat × Value)} {cells : Array Value} (hT : PlT C.P t pl zv) (hp : parts.toList.map (fun p => (evalS S E p.2).map fun v => (p.1, v)) = ps.map some) (hf : Instr.fill (pl[·]?) zv.cells ps = some cells) :
    EvalOp C S E I loc ⟨dst, .build t parts, ty, pos, af, gd⟩ (.agg cells) :=
  .of (by intro c e; cases e) fun a w ha hg hc hw => by
    obtain ⟨hz, ht, hm⟩ := hT
    have key : ∀ (l : List (Nat × Operand)) (ps : List (Nat × Value)), l.map (fun p => (evalS S E p.2).map fun v => (p.1, v)) = ps.map some → l.map (fun p => (p.1, a.eval p.2)) = ps := by
      intro l
      induction l with
      | nil => intro ps h; cases ps <;> simp_all
      | cons p l ih =>
        intro ps h
        cases ps with
        | nil => simp at h
        | cons q ps =>
          simp only [List.map_cons, List.cons.injEq] at h ⊢
          refine ⟨?_, ih _ h.2⟩
          cases e1 : evalS S E p.2 with
          | none => rw [e1] at h; simp at h
          | some v =>
            rw [e1] at h
            rw [evalS_sound ha hg hc e1]
            simpa using h.1
    have hps : (parts.map fun (i, x) => (i, a.eval x)).toList = ps := by
      rw [← key _ _ hp]; simp
    simp only [execOp, Instr.build, Sem.run_bind, run_zeroValue hz, Result.andThen, run_underlying ht, hm, hps, hf, Sem.run_pure]

/-- The same by lists. -/
def cellsL : Value → List Value
  | .agg cs => cs.toList
  | v => [v]
def overL : List Value → List Value → List Value
  | _ :: xs, v :: vs => v :: overL xs vs
  | xs, _ => xs
def spliceL : List Value → Nat → List Value → List Value
  | xs, 0, vs => overL xs vs
  | x :: xs, n + 1, vs => x :: spliceL xs n vs
  | [], _, _ => []
def getL : List (Nat × Nat) → Nat → Option (Nat × Nat)
  | [], _ => none
  | p :: _, 0 => some p
  | _ :: l, n + 1 => getL l n
def fillL (pl : List (Nat × Nat)) : List Value → List (Nat × Value) → Option (List Value)
  | cells, [] => some cells
  | cells, (i, v) :: rest => match getL pl i with
    | none => none
    | some (off, size) => bif Nat.beq (cellsL v).length size && Nat.ble (off + (cellsL v).length) cells.length then fillL pl (spliceL cells off (cellsL v)) rest else none
theorem cellsL_eq (v : Value) : v.cells = (cellsL v).toArray := by cases v <;> simp [Value.cells, cellsL]
theorem getL_eq : ∀ (l : List (Nat × Nat)) (i : Nat), getL l i = l[i]?
  | [], i => by simp [getL]
  | p :: l, 0 => rfl
  | p :: l, n + 1 => by simp [getL, getL_eq l n]
theorem overL_app : ∀ (old vs tail : List Value), old.length = vs.length → overL (old ++ tail) vs = vs ++ tail
  | [], [], tail, _ => by cases tail <;> rfl
  | [], _ :: _, _, h => by simp at h
  | _ :: _, [], _, h => by simp at h
  | o :: old, v :: vs, tail, h => by simp only [List.cons_append, overL, overL_app old vs tail (by simpa using h)]
theorem spliceL_app : ∀ (pre old vs tail : List Value), old.length = vs.length → spliceL (pre ++ old ++ tail) pre.length vs = pre ++ vs ++ tail
  | [], old, vs, tail, h => by simp only [List.nil_append, List.length_nil, spliceL]; exact overL_app old vs tail h
  | x :: pre, old, vs, tail, h => by
    simp only [List.cons_append, List.length_cons, spliceL, List.cons.injEq, true_and]
    exact spliceL_app pre old vs tail h
theorem fillL_eq (pl : List (Nat × Nat)) : ∀ (ps : List (Nat × Value)) (cells out : List Value), fillL pl cells ps = some out → Instr.fill (pl.toArray[·]?) cells.toArray ps = some out.toArray
  | [], cells, out, h => by
    simp only [fillL, Option.some.injEq] at h
    subst h; rfl
  | (i, v) :: ps, cells, out, h => by
    simp only [fillL, getL_eq] at h
    cases hp : pl[i]? with
    | none => rw [hp] at h; cases h
    | some q =>
      obtain ⟨off, size⟩ := q
      rw [hp] at h
      simp only at h
      cases hb : (Nat.beq (cellsL v).length size && Nat.ble (off + (cellsL v).length) cells.length) with
      | false => rw [hb] at h; cases h
      | true =>
        rw [hb] at h
        simp only [Bool.and_eq_true] at hb
        have h1 := Nat.eq_of_beq_eq_true hb.1
        have h2 := Nat.le_of_ble_eq_true hb.2
        have e : cells = cells.take off ++ (cells.drop off).take size ++ cells.drop (off + size) := by
          rw [List.append_assoc]
          have : (cells.drop off).take size ++ cells.drop (off + size) = cells.drop off := by rw [← List.drop_drop]; exact List.take_append_drop _ _
          rw [this, List.take_append_drop]
        have hl1 : (cells.take off).length = off := by rw [List.length_take]; omega
        have hl2 : ((cells.drop off).take size).length = size := by rw [List.length_take, List.length_drop]; omega
        have hsp : spliceL cells off (cellsL v) = cells.take off ++ cellsL v ++ cells.drop (off + size) := by
          have := spliceL_app (cells.take off) ((cells.drop off).take size) (cellsL v) (cells.drop (off + size)) (by rw [hl2]; exact h1.symm)
          rw [← e, hl1] at this
          exact this
        have hfo := fill_one (place := (pl.toArray[·]?)) (i := i) (off := off) (size := size) (v := v) (vs := cellsL v) (pre := cells.take off) (old := (cells.drop off).take size) (tail := cells.drop (off + size)) (l := ps) (by simpa using hp) (cellsL_eq v) h1 hl1 hl2
        rw [← e] at hfo
        rw [hfo, ← hsp]
        exact fillL_eq pl ps _ out h
theorem ev_buildL {t : Nat} {pl : List (Nat × Nat)} {zl : List Value} {parts : Array (Nat × Operand)} {ps : List (Nat × Value)} (cells : List Value) (hT : PlT C.P t pl.toArray (.agg zl.toArray)) (hp : parts.toList.map (fun p => (evalS S E p.2).map fun v => (p.1, v)) = ps.map some) (hf : fillL pl zl ps = some cells) :
    EvalOp C S E I loc ⟨dst, .build t parts, ty, pos, af, gd⟩ (.agg cells.toArray) := ev_build hT hp (fillL_eq pl ps zl cells hf)

/-! ### Equality of flat structs -/
inductive EqK where
  | int | str | bool
  deriving DecidableEq
def eqKs : List EqK → List Value → List Value → Option Bool
  | [], [], [] => some true
  | .int :: ks, .int k a :: xs, .int k' b :: ys => if k = k' then (match eqKs ks xs ys with | some r => some (a == b && r) | none => none) else none
  | .str :: ks, .string a :: xs, .string b :: ys => match eqKs ks xs ys with | some r => some (strEq a b && r) | none => none
  | .bool :: ks, .bool a :: xs, .bool b :: ys => match eqKs ks xs ys with | some r => some (a == b && r) | none => none
  | _, _, _ => none
def kindOf (P : Program) (t : TypeId) : Option EqK := match P.underlying t with
  | some (.int _) => some .int
  | some .string => some .str
  | some .bool => some .bool
  | _ => none
def flatKs (P : Program) : List Field → Nat → Option (List EqK)
  | [], _ => some []
  | f :: fs, k => if f.name ≠ "_" ∧ f.offset = k then (match kindOf P f.type, flatKs P fs (k + 1) with | some q, some l => some (q :: l) | _, _ => none) else none
def EqT (P : Program) (t : Nat) (ks : List EqK) : Prop := P.underlying t = some (.struct (P.fieldsOf t)) ∧ P.stoodInHeld t = false ∧ P.eqGuardType P.depth t = false ∧ flatKs P (P.fieldsOf t).toList 0 = some ks
theorem run_eqFields {P : Program} {w : World} (dd : Nat) : ∀ (fs : List Field) (ks : List EqK) (k : Nat) (pre xs pre' ys : List Value) (b : Bool), flatKs P fs k = some ks → pre.length = k → pre'.length = k → eqKs ks xs ys = some b →
    (Op.eqFields (dd + 1) (pre ++ xs).toArray (pre' ++ ys).toArray fs).run P w = .ok b w
  | [], ks, k, pre, xs, pre', ys, b, hf, _, _, he => by
    simp only [flatKs, Option.some.injEq] at hf
    subst hf
    cases xs <;> cases ys <;> simp only [eqKs] at he <;> first | (cases he; rfl) | cases he
  | f :: fs, ks, k, pre, xs, pre', ys, b, hf, hp, hp', he => by
    simp only [flatKs] at hf
    split at hf
    · rename_i hn
      cases hk : kindOf P f.type with
      | none => rw [hk] at hf; simp at hf
      | some q =>
        cases hl : flatKs P fs (k + 1) with
        | none => rw [hk, hl] at hf; simp at hf
        | some l =>
          rw [hk, hl] at hf
          simp only [Option.some.injEq] at hf
          subst hf
          have step : ∀ (u v : Value) (xs ys : List Value) (c r : Bool), xs = xs → (∀ w, (isAgg f.type).run P w = .ok false w) → (∀ w, (Op.equalIn (dd + 1) f.type u v).run P w = .ok c w) → eqKs l xs ys = some r →
              (Op.eqFields (dd + 1) (pre ++ u :: xs).toArray (pre' ++ v :: ys).toArray (f :: fs)).run P w = .ok (c && r) w := by
            intro u v xs ys c r _ hag hc hr
            have h1 : ∀ w, (part f.type (pre ++ u :: xs).toArray f.offset).run P w = .ok u w := fun w => by
              have : (pre ++ u :: xs).toArray[f.offset]? = some u := by rw [hn.2, ← hp]; simp
              simp only [part, Sem.run_bind, hag, Result.andThen, Bool.false_eq_true, if_false, this, Sem.run_pure]
            have h2 : ∀ w, (part f.type (pre' ++ v :: ys).toArray f.offset).run P w = .ok v w := fun w => by
              have : (pre' ++ v :: ys).toArray[f.offset]? = some v := by rw [hn.2, ← hp']; simp
              simp only [part, Sem.run_bind, hag, Result.andThen, Bool.false_eq_true, if_false, this, Sem.run_pure]
            simp only [Op.eqFields, if_pos hn.1, Sem.run_bind, h1, h2, hc, Result.andThen, Sem.run_ite]
            cases c with
            | false => simp
            | true =>
              have := run_eqFields (P := P) (w := w) dd fs l (k + 1) (pre ++ [u]) xs (pre' ++ [v]) ys r hl (by simp [hp]) (by simp [hp']) hr
              simpa using this
          have scal : ∀ d, P.underlying f.type = some d → (match d with | .struct _ | .array _ _ => False | _ => True) → ∀ w, (isAgg f.type).run P w = .ok false w := fun d h1 h2 w => run_isAgg_sc ⟨d, h1, h2⟩
          unfold kindOf at hk
          cases hu : P.underlying f.type with
          | none => rw [hu] at hk; simp at hk
          | some td =>
            rw [hu] at hk
            cases td <;> simp only [Option.some.injEq, reduceCtorEq] at hk
            case int kk =>
              subst hk
              cases xs with
              | nil => simp [eqKs] at he
              | cons u xs =>
                cases ys with
                | nil => cases u <;> simp [eqKs] at he
                | cons v ys =>
                  cases u <;> cases v <;> simp only [eqKs, reduceCtorEq] at he
                  rename_i k1 a k2 b'
                  split at he
                  · rename_i hkk
                    cases hr : eqKs l xs ys with
                    | none => rw [hr] at he; simp at he
                    | some r =>
                      rw [hr] at he
                      simp only [Option.some.injEq] at he
                      subst he; subst hkk
                      exact step _ _ _ _ _ _ rfl (scal _ hu trivial) (fun w => run_equalIn_int w dd f.type k1 kk a b' hu) hr
                  · cases he
            case string =>
              subst hk
              cases xs with
              | nil => simp [eqKs] at he
              | cons u xs =>
                cases ys with
                | nil => cases u <;> simp [eqKs] at he
                | cons v ys =>
                  cases u <;> cases v <;> simp only [eqKs, reduceCtorEq] at he
                  rename_i a b'
                  cases hr : eqKs l xs ys with
                  | none => rw [hr] at he; simp at he
                  | some r =>
                    rw [hr] at he
                    simp only [Option.some.injEq] at he
                    subst he
                    exact step _ _ _ _ _ _ rfl (scal _ hu trivial) (fun w => run_equalIn_string w dd f.type a b' hu) hr
            case bool =>
              subst hk
              cases xs with
              | nil => simp [eqKs] at he
              | cons u xs =>
                cases ys with
                | nil => cases u <;> simp [eqKs] at he
                | cons v ys =>
                  cases u <;> cases v <;> simp only [eqKs, reduceCtorEq] at he
                  rename_i a b'
                  cases hr : eqKs l xs ys with
                  | none => rw [hr] at he; simp at he
                  | some r =>
                    rw [hr] at he
                    simp only [Option.some.injEq] at he
                    subst he
                    exact step _ _ _ _ _ _ rfl (scal _ hu trivial) (fun w => run_equalIn_bool' w dd f.type a b' hu) hr
    · cases hf
theorem ev_eqS {t t' : TypeId} {ks : List EqK} {us vs : List Value} {b : Bool} (hx : evalS S E x = some (.agg us.toArray)) (hy : evalS S E y = some (.agg vs.toArray)) (hT : EqT C.P t ks) (h : eqKs ks us vs = some b) : EvalOp C S E I loc ⟨dst, .binOp .eql t x y t', ty, pos, af, gd⟩ (.bool b) :=
  .of (by intro c e; cases e) fun a w ha hg hc _ => by
    have := run_eqFields (P := C.P) (w := w) 9998 _ _ 0 [] us [] vs b hT.2.2.2 rfl rfl h
    simp only [List.nil_append] at this
    simp only [execOp, evalS_sound ha hg hc hx, evalS_sound ha hg hc hy, Sem.run_bind, run_eqGuard_agg w _ _ _ _ _ _ hT.2.2.1, Result.andThen, run_eql_struct, run_equalIn_struct w 9999 t _ _ hT.1 hT.2.1, this, Sem.run_pure]
theorem ev_neS {t t' : TypeId} {ks : List EqK} {us vs : List Value} {b : Bool} (hx : evalS S E x = some (.agg us.toArray)) (hy : evalS S E y = some (.agg vs.toArray)) (hT : EqT C.P t ks) (h : eqKs ks us vs = some b) : EvalOp C S E I loc ⟨dst, .binOp .neq t x y t', ty, pos, af, gd⟩ (.bool (!b)) :=
  .of (by intro c e; cases e) fun a w ha hg hc _ => by
    have := run_eqFields (P := C.P) (w := w) 9998 _ _ 0 [] us [] vs b hT.2.2.2 rfl rfl h
    simp only [List.nil_append] at this
    simp only [execOp, evalS_sound ha hg hc hx, evalS_sound ha hg hc hy, Sem.run_bind, run_eqGuard_agg w _ _ _ _ _ _ hT.2.2.1, Result.andThen, run_neq_struct, run_equalIn_struct w 9999 t _ _ hT.1 hT.2.1, this, Sem.run_pure]
theorem ev_boolR {t t' : TypeId} {a b : Bool} (hx : evalS S E x = some (.bool a)) (hy : evalS S E y = some (.bool b)) (hT : C.P.underlying t = some .bool) : EvalOp C S E I loc ⟨dst, .binOp .eql t x y t', ty, pos, af, gd⟩ (.bool (a == b)) :=
  .of (by intro c e; cases e) fun st w ha hg hc _ => by
    have e1 : ∀ op x y t (a b : Bool), (eqGuard op t x y (.bool a) (.bool b)).run C.P w = .ok () w := by intros; unfold eqGuard; rename_i op _ _ _ _ _; cases op <;> rfl
    have e2 : (Op.equalIn 10000 t (.bool a) (.bool b)).run C.P w = .ok (a == b) w := run_equalIn_bool' w 9999 t a b hT
    simp only [execOp, evalS_sound ha hg hc hx, evalS_sound ha hg hc hy, Sem.run_bind, e1, Sem.run_pure, Result.andThen, binOp, Op.equal, Op.maxDepth, e2]
theorem ev_boolN {t t' : TypeId} {a b : Bool} (hx : evalS S E x = some (.bool a)) (hy : evalS S E y = some (.bool b)) (hT : C.P.underlying t = some .bool) : EvalOp C S E I loc ⟨dst, .binOp .neq t x y t', ty, pos, af, gd⟩ (.bool (!(a == b))) :=
  .of (by intro c e; cases e) fun st w ha hg hc _ => by
    have e1 : ∀ op x y t (a b : Bool), (eqGuard op t x y (.bool a) (.bool b)).run C.P w = .ok () w := by intros; unfold eqGuard; rename_i op _ _ _ _ _; cases op <;> rfl
    have e2 : (Op.equalIn 10000 t (.bool a) (.bool b)).run C.P w = .ok (a == b) w := run_equalIn_bool' w 9999 t a b hT
    simp only [execOp, evalS_sound ha hg hc hx, evalS_sound ha hg hc hy, Sem.run_bind, e1, Sem.run_pure, Result.andThen, binOp, Op.equal, Op.maxDepth, e2]

/-! ### Parts of slices -/
def sub2 (av : Option Addr) (c k size : Nat) : Option Addr := if c = k then av else av.map (·.add (k * size))
theorem ev_sliceHi {t e size n c : Nat} {av : Option Addr} {k : IntKind} {i : Int} (hx : evalS S E x = some (.slice av n c)) (hy : evalS S E y = some (.int k i)) (hT : SlT C.P t e size) (hb : conj S = true → 0 ≤ i ∧ i ≤ (c : Int)) :
    EvalOp C S E I loc ⟨dst, .slice t x none (some y) none, ty, pos, af, gd⟩ (.slice av i.toNat c) :=
  .of (by intro c e; cases e) fun a w ha hg hc _ => by
    obtain ⟨h1, j, h2, h3⟩ := hT
    have hav : (if c = 0 then av else av.map (·.add (0 * j.size))) = av := by
      split
      · rfl
      · cases av <;> simp [Addr.add]
    simp only [execOp, Option.map_none, Option.map_some, evalS_sound ha hg hc hx, evalS_sound ha hg hc hy, Instr.sliceAt, Instr.slice, Instr.sliceBounds, Instr.sliceBound, asIntOf, Sem.run_bind, Sem.run_pure, run_underlying h1, Result.andThen, if_pos (hb hc), run_sizeOf h2, hav, Nat.sub_zero]
theorem ev_sliceLo {t e size n c : Nat} {av : Option Addr} {k : IntKind} {i : Int} (hx : evalS S E x = some (.slice av n c)) (hy : evalS S E y = some (.int k i)) (hT : SlT C.P t e size) (hb : conj S = true → 0 ≤ i ∧ i ≤ (n : Int)) :
    EvalOp C S E I loc ⟨dst, .slice t x (some y) none none, ty, pos, af, gd⟩ (.slice (sub2 av c i.toNat size) (n - i.toNat) (c - i.toNat)) :=
  .of (by intro c e; cases e) fun a w ha hg hc _ => by
    obtain ⟨h1, j, h2, h3⟩ := hT
    simp only [execOp, Option.map_none, Option.map_some, evalS_sound ha hg hc hx, evalS_sound ha hg hc hy, Instr.sliceAt, Instr.slice, Instr.sliceBounds, Instr.sliceBound, asIntOf, Sem.run_bind, Sem.run_pure, run_underlying h1, Result.andThen, if_pos (hb hc), run_sizeOf h2, h3, sub2]
theorem Sl.take {α : Type} {size : Nat} {enc : α → List Value} {av : Option Addr} {n c : Nat} {xs : List α} (h : Sl I size enc av n c xs) {k : Nat} (hk : k ≤ n) : Sl I size enc av k c (xs.take k) :=
  ⟨by rw [List.length_take, h.len]; omega, Nat.le_trans hk h.cap, fun hk0 => h.base (by omega), fun i x hx => h.cells i x (by rw [List.getElem?_take] at hx; split at hx <;> first | exact hx | cases hx)⟩
theorem sub2_some {b off c k size : Nat} (hk : k < c) : sub2 (some ⟨b, off, none⟩) c k size = some ⟨b, off + k * size, none⟩ := by
  unfold sub2; rw [if_neg (by omega), Option.map_some, add_plain]
theorem Sl.drop {α : Type} {size : Nat} {enc : α → List Value} {av : Option Addr} {n c : Nat} {xs : List α} (h : Sl I size enc av n c xs) {k : Nat} (hk : k ≤ n) : Sl I size enc (sub2 av c k size) (n - k) (c - k) (xs.drop k) := by
  have hc := h.cap
  by_cases hkn : k = n
  · subst hkn
    rw [Nat.sub_self, List.drop_eq_nil_of_le (by rw [h.len]; exact Nat.le_refl _)]
    exact ⟨rfl, Nat.zero_le _, fun h => absurd rfl h, fun k x h => by simp at h⟩
  · have hb := h.base (by omega)
    have e : sub2 av c k size = some ⟨Ab av, Ao av + k * size, none⟩ := by rw [hb]; exact sub2_some (by omega)
    rw [e]
    refine ⟨by rw [List.length_drop, h.len], by omega, fun _ => rfl, fun i x hx j u hu => ?_⟩
    have := h.cells (k + i) x (by rw [List.getElem?_drop] at hx; exact hx) j u hu
    simp only [Ab, Ao]
    rw [Nat.add_mul, ← Nat.add_assoc] at this
    exact this
/-- A slice that is read as a source of append. -/
theorem flat_get {α : Type} {enc : α → List Value} {size : Nat} (hs : ∀ x, (enc x).length = size) : ∀ (xs : List α) (q : Nat) (u : Value), (xs.flatMap enc)[q]? = some u → ∃ k x j, xs[k]? = some x ∧ (enc x)[j]? = some u ∧ q = k * size + j
  | [], q, u, h => by simp at h
  | x :: xs, q, u, h => by
    rw [List.flatMap_cons, List.getElem?_append] at h
    split at h
    · exact ⟨0, x, q, rfl, h, by simp⟩
    · rename_i hq
      rw [hs] at h hq
      obtain ⟨k, y, j, h1, h2, h3⟩ := flat_get hs xs _ u h
      exact ⟨k + 1, y, j, by simpa using h1, h2, by rw [Nat.add_mul]; omega⟩
theorem flat_len {α : Type} {enc : α → List Value} {size : Nat} (hs : ∀ x, (enc x).length = size) (xs : List α) : (xs.flatMap enc).length = xs.length * size := by
  induction xs with
  | nil => simp
  | cons x xs ih => rw [List.flatMap_cons, List.length_append, hs, ih, List.length_cons, Nat.add_mul]; omega
theorem Sl.src {α : Type} {size : Nat} {enc : α → List Value} {av : Option Addr} {n c : Nat} {xs : List α} (h : Sl I size enc av n c xs) (hs : ∀ x, (enc x).length = size) : Src I loc av n size (xs.flatMap enc) :=
  ⟨by rw [flat_len hs, h.len], h.base, fun q u hu => by
    obtain ⟨k, x, j, h1, h2, h3⟩ := flat_get hs xs q u hu
    rw [h3, ← Nat.add_assoc]
    exact (h.cells k x h1 j u h2).any⟩
/-- What was made is read from now on. -/
theorem OwnS.freeze {α : Type} {e size : Nat} {enc : α → List Value} {v : Value} {n : Nat} {xs : List α} (hO : OwnS e size v n (xs.flatMap enc) L) (hs : ∀ x, (enc x).length = size) (hsz : 0 < size) {g : World} {H : HMap} {w : World} (hw : St g I H (L ++ R) w) :
    ∃ I' av c, HLe I I' ∧ St g I' H R w ∧ v = .slice av n c ∧ Sl I' size enc av n c xs := by
  have hn : xs.length = n := by
    have := hO.1
    rw [flat_len hs] at this
    exact Nat.eq_of_mul_eq_mul_right hsz this
  rcases hO.2 with ⟨rfl, rfl, rfl⟩ | ⟨b, c, cur, rfl, rfl, hc, _, hcs, htake⟩
  · have : xs = [] := List.length_eq_zero_iff.1 hn
    subst this
    exact ⟨I, none, 0, HLe.refl _, hw, rfl, .nil⟩
  · obtain ⟨h1, h2, h3⟩ := hw.freeze (b := b) (o := .cells cur e (0, 0)) Take.here
    refine ⟨_, _, _, h2, h1, rfl, hn, hc, fun _ => rfl, fun k x hx j u hu => .imm h3 ?_⟩
    rw [lget_eq]
    simp only [Ao, Nat.zero_add]
    have hlt : k < xs.length := (List.getElem?_eq_some_iff.1 hx).1
    have hj : j < size := by rw [← hs x]; exact (List.getElem?_eq_some_iff.1 hu).1
    have hq : (xs.flatMap enc)[k * size + j]? = some u := by
      clear htake hO hcs hw h1 h2 h3 hn
      induction xs generalizing k with
      | nil => simp at hx
      | cons y ys ih =>
        rw [List.flatMap_cons, List.getElem?_append]
        cases k with
        | zero =>
          simp only [Nat.zero_mul, Nat.zero_add]
          rw [if_pos (by rw [hs]; exact hj)]
          simp only [List.getElem?_cons_zero, Option.some.injEq] at hx
          rw [hx]; exact hu
        | succ k =>
          rw [if_neg (by rw [hs, Nat.add_mul]; omega), hs]
          have := ih k (by simpa using hx) (by simpa using hlt)
          rw [show (k + 1) * size + j - size = k * size + j from by rw [Nat.add_mul]; omega]
          exact this
    rw [← htake, List.getElem?_take] at hq
    split at hq
    · simpa using hq
    · cases hq
end
end Go.Kn
