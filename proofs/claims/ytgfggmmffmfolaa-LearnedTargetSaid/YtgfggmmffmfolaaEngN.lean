/- Copies onto own blocks, the append of a make, capacities, slices held against nil, draws of three. Generic over the program; no condition. -/
import Derived.Test.YtgfggmmffmfolaaEngM
import Derived.Laws.CopyRow
import Derived.Lib.AppendZerosOnto
import Derived.Lib.Overlaps
namespace Go.Kn
open Go
section
variable {C : Cx} {Q : Exit → Act → World → Prop} {E E' : Env} {I I' I0 : HMap} {loc loc' loc0 L R : Loc} {ops : Array Oper} {rest : List Oper} {S : GS}
variable {dst : Option Tmp} {d : Nat} {ty : TypeId} {pos : String} {af : Array Edge} {gd : Option (Nat × Bool)} {x y z : Operand}
theorem ev_cap {t n c e size : Nat} {av : Option Addr} (hx : evalS S E x = some (.slice av n c)) (hT : SlT C.P t e size) : EvalOp C S E I loc ⟨dst, .call ⟨.builtin .cap, #[x], #[t]⟩, ty, pos, af, gd⟩ (.int .i64 c) :=
  .of (by intro c e; cases e) fun a w ha hg hc _ => by
    simp only [execOp, resolve, List.map_toArray, List.map_cons, List.map_nil, evalS_sound ha hg hc hx, Sem.run_bind, Sem.run_pure, Result.andThen, invoke, builtin, Builtin.cap_, List.getElem?_toArray, List.getElem?_cons_zero, run_underlying hT.1, goInt]
/-- The place of an own block turned whole. -/
theorem St.setRow {g : World} {H : HMap} {w : World} {b : Nat} {cur : Array Value} {t : TypeId} (h : St g I H loc w) (cs : Array Value) (hu : Upd loc b (.cells cur t (0, 0)) (.cells cs t (0, 0)) loc') : St g I H loc' (w.setRow b cs) := by
  have hb := h.own _ _ hu.mem
  exact h.turn hu rfl rfl rfl (by simp [World.setRow]) (setRow_heap w b cur cs t (0, 0) hb) (fun c hc => setRow_other w b c cs hc)
/-- 'copy(d, s)' onto an own block. -/
theorem XO_copy {t e size b o dl dc sl sc : Nat} {sv : Option Addr} {pre old post vs : List Value} {cur cur' : Array Value} {te : TypeId} (hcur : cur = (pre ++ old ++ post).toArray) (hcur' : cur' = (pre ++ vs ++ post).toArray) (hx : evalS [] E x = some (.slice (some ⟨b, o, none⟩) dl dc)) (hy : evalS [] E y = some (.slice sv sl sc)) (hT : SlT C.P t e size)
    (hl : vs.length = Nat.min sl dl * size) (ho : old.length = vs.length) (hpre : pre.length = o) (hb : vs ≠ [] → sv = some ⟨Ab sv, Ao sv, none⟩) (hs : Cells I loc (Ab sv) (Ao sv) vs) (h1 : allOne vs = true) (hG : gd = none) (hN : Nat.blt d C.N = true)
    (hu : Upd loc b (.cells cur te (0, 0)) (.cells cur' te (0, 0)) loc') (h : XO C Q ops rest [] ((d, .int .i64 (Nat.min sl dl : Nat)) :: E) I loc') :
    XO C Q ops (⟨some d, .call ⟨.builtin .copy, #[x, y], #[t, t]⟩, ty, pos, af, gd⟩ :: rest) [] E I loc :=
  XO_world hG (by intro c e; cases e) fun a w ha hw => by
    subst hcur; subst hcur'
    obtain ⟨ht, i, hi, hsz⟩ := hT
    have hblk := hw.own _ _ hu.mem
    have hcells : (Builtin.firstCells size (Nat.min sl dl) (.slice sv sl sc)).run C.P w = .ok vs.toArray w := by
      by_cases h0 : vs = []
      · have hz : Nat.min sl dl * size = 0 := by rw [← hl, h0]; rfl
        subst h0
        cases sv with
        | none => rfl
        | some q => simp only [Builtin.firstCells, hz]; rfl
      · rw [hb h0]
        simp only [Builtin.firstCells, ← hl]
        exact run_loadCells_list w _ vs fun j v hj => by rw [add_plain]; exact (hs j v hj).get hw
    have hst := run_storeCells_at C.P b o te vs 0 (pre ++ old ++ post).toArray w hblk (by simp only [List.size_toArray, List.length_append]; omega) (allOne_iff h1)
    have e1 : ((pre ++ old ++ post).toArray.toList.take (o + 0) ++ vs ++ (pre ++ old ++ post).toArray.toList.drop (o + 0 + vs.length)) = pre ++ vs ++ post := by
      rw [Nat.add_zero, List.append_assoc pre old post]
      rw [List.take_left' hpre, ← ho, ← hpre, ← List.length_append, ← List.append_assoc, List.drop_left' rfl]
    rw [e1] at hst
    have hrun : (Builtin.copy_ #[t, t] ty #[.slice (some ⟨b, o, none⟩) dl dc, .slice sv sl sc]).run C.P w = .ok (.int .i64 (Nat.min sl dl : Nat)) (w.setRow b (pre ++ vs ++ post).toArray) := by
      simp only [Builtin.copy_, List.getElem?_toArray, List.getElem?_cons_zero, List.getElem?_cons_succ, Sem.run_bind, run_underlying ht, Result.andThen, Builtin.lenOf, Sem.run_pure, run_sizeOf hi, hsz, hcells, hst, goInt]
    simp only [execOp, resolve, List.map_toArray, List.map_cons, List.map_nil, evalS_sound (S := []) ha trivial rfl hx, evalS_sound (S := []) ha trivial rfl hy, Sem.run_bind, Sem.run_pure, Result.andThen, invoke, builtin, hrun, Oper.uponIn_value]
    exact h _ _ (ha.put hN _) trivial (hw.setRow _ hu)
/-- 'append(s, make([]T, k)...)' where s has no room: a new block; s stays. -/
theorem XO_appendZ {t tn e size bytes b off i c : Nat} {k : Int} {ys : List Value} (hx : evalS [] E x = some (.slice (some ⟨b, off, none⟩) i c)) (hy : evalS [] E y = some (.int .i64 k)) (hT : ElT C.P t e size bytes) (htn : C.P.underlying tn = some (.int .i64))
    (hk : 0 < k) (hsz : 0 < size) (hc : (c : Int) < i + k) (hl : ys.length = i * size) (hs : Cells I loc b off ys) (hB : (i + k.toNat) * (bytes + 1) ≤ 70368744177664) (hG : gd = none) (hN : Nat.blt d C.N = true)
    (h : ∀ b' c' zs, i + k.toNat ≤ c' → c' ≤ maxLen → (ys ++ zs).length = c' * size → XO C Q ops rest [] ((d, .slice (some ⟨b', 0, none⟩) (i + k.toNat) c') :: E) I ((b', .cells (ys ++ zs).toArray e (0, 0)) :: loc)) :
    XO C Q ops (⟨some d, .call ⟨.builtin .append, #[x, y], #[t, tn]⟩, ty, pos, af, gd⟩ :: rest) [] E I loc :=
  XO_world hG (by intro c e; cases e) fun a w ha hw => by
    obtain ⟨ht, inf, zz, hi, hz, hss, hb, hzs⟩ := hT
    obtain ⟨q, rfl⟩ : ∃ q : Nat, k = q := ⟨k.toNat, by omega⟩
    rw [Int.toNat_natCast] at hB h
    have hnm : i + q ≤ 70368744177664 := by
      have : (i + q) * 1 ≤ (i + q) * (bytes + 1) := Nat.mul_le_mul_left _ (by omega)
      omega
    have hbytes : (i + q) * bytes ≤ 140737488355328 := by
      have : (i + q) * bytes ≤ (i + q) * (bytes + 1) := Nat.mul_le_mul_left _ (by omega)
      omega
    have hqb : q * bytes ≤ (i + q) * bytes := Nat.mul_le_mul_right _ (by omega)
    have hold : (Builtin.firstCells inf.size i (.slice (some ⟨b, off, none⟩) i c)).run C.P w.drew = .ok ys.toArray w.drew := by
      rw [hss]
      simp only [Builtin.firstCells, ← hl]
      exact run_loadCells_list _ _ ys fun j v hj => by rw [add_plain]; exact (hs j v hj).get hw.drew'
    have hrun := Lib.run_append_grow_zeros (P := C.P) w t tn ty e inf zz .i64 .i64 ht htn hi hz (some ⟨b, off, none⟩) i c ys hold q (by omega) (by omega) (by omega) (by omega) (by rw [hb]; omega) (by rw [hb]; exact growslice_fits (by omega) hbytes)
    have hge := grownCap_ge w (i + q) c e
    have hcm : grownCap w (i + q) c e ≤ maxLen := grownCap_le_maxLen w (i + q) c e (by simp only [maxLen]; omega)
    simp only [execOp, resolve, List.map_toArray, List.map_cons, List.map_nil, evalS_sound (S := []) ha trivial rfl hx, evalS_sound (S := []) ha trivial rfl hy, Sem.run_bind, Sem.run_pure, Result.andThen, invoke, builtin, hrun, Oper.uponIn_value]
    have e1 : ys.toArray ++ Builtin.zeroCells zz.cells q ++ Builtin.zeroCells zz.cells (grownCap w (i + q) c e - (i + q)) = (ys ++ ((Builtin.zeroCells zz.cells q).toList ++ (Builtin.zeroCells zz.cells (grownCap w (i + q) c e - (i + q))).toList)).toArray := by
      apply Array.ext'
      simp
    rw [e1]
    refine h _ _ _ hge hcm ?_ _ _ (ha.put hN _) trivial (hw.drew'.alloc _)
    simp only [List.length_append, Array.length_toList, size_zeroCells', hzs, hl]
    rw [← Nat.add_mul, ← Nat.add_mul]
    congr 1; omega
/-- 's == nil' of a slice. -/
theorem ev_eqNil {t t' n c e size : Nat} {av : Option Addr} (hx : evalS S E x = some (.slice av n c)) (hy : evalS S E y = some (.slice none 0 0)) (hT : SlT C.P t e size) : EvalOp C S E I loc ⟨dst, .binOp .eql t x y t', ty, pos, af, gd⟩ (.bool av.isNone) :=
  .of (by intro c e; cases e) fun a w ha hg hc _ => by
    have e1 : ∀ op x y t, (eqGuard op t x y (.slice av n c) (.slice none 0 0)).run C.P w = .ok () w := by intros; unfold eqGuard; rename_i op _ _ _; cases op <;> rfl
    have e2 : (Op.equal t (.slice av n c) (.slice none 0 0)).run C.P w = .ok av.isNone w := by
      show (Op.equalIn (9999 + 1) t (.slice av n c) (.slice none 0 0)).run C.P w = _
      unfold Op.equalIn
      rw [Sem.run_bind, run_underlying hT.1]
      cases av <;> rfl
    simp only [execOp, evalS_sound ha hg hc hx, evalS_sound ha hg hc hy, Sem.run_bind, e1, Result.andThen, binOp, e2, Sem.run_pure]
/-- 's[i:]' of a row in a known block. -/
theorem ev_sliceLoB {t e size b off n c : Nat} {k : IntKind} {i : Int} (hx : evalS S E x = some (.slice (some ⟨b, off, none⟩) n c)) (hy : evalS S E y = some (.int k i)) (hT : SlT C.P t e size) (hb : 0 ≤ i ∧ i ≤ (n : Int) ∧ i < (c : Int)) :
    EvalOp C S E I loc ⟨dst, .slice t x (some y) none none, ty, pos, af, gd⟩ (.slice (some ⟨b, off + i.toNat * size, none⟩) (n - i.toNat) (c - i.toNat)) := by
  have h := ev_sliceLo (C := C) (I := I) (loc := loc) (dst := dst) (ty := ty) (pos := pos) (af := af) (gd := gd) hx hy hT (fun _ => ⟨hb.1, hb.2.1⟩)
  rwa [sub2_some (by omega)] at h
theorem Cells.part {b off : Nat} {pre vs post : List Value} (h : Cells I loc b 0 (pre ++ vs ++ post)) (ho : off = pre.length) : Cells I loc b off vs := fun j u hu => by
  subst ho
  have hj : j < vs.length := (List.getElem?_eq_some_iff.1 hu).1
  have := h (pre.length + j) u (by rw [List.append_assoc, List.getElem?_append_right (by omega), Nat.add_sub_cancel_left, List.getElem?_append_left hj]; exact hu)
  rwa [Nat.zero_add] at this
theorem ev_shr {t t' : TypeId} {k k' : IntKind} {a b : Int} {q : Nat} (hx : evalS S E x = some (.int k a)) (hy : evalS S E y = some (.int k' b)) (h0 : 0 ≤ b) (hq : min b.toNat k.bits = q) : EvalOp C S E I loc ⟨dst, .binOp .shr t x y t', ty, pos, af, gd⟩ (.int k (a.fdiv (2 ^ q))) :=
  .of (by intro c e; cases e) fun ac w ha hg hc _ => by
    simp only [execOp, evalS_sound ha hg hc hx, evalS_sound ha hg hc hy, Sem.run_bind, run_eqGuard_int, Result.andThen, binOp, Op.shift, if_neg (show ¬ b < 0 by omega), hq, Sem.run_pure]
/-- A field of one cell of a struct that is a value. -/
def FieldV (P : Program) (s f fo : Nat) : Prop := ∃ fs x, P.underlying s = some (.struct fs) ∧ fs[f]? = some x ∧ x.offset = fo ∧ ScT P x.type
def fieldVB (P : Program) (s f fo : Nat) : Bool := match P.underlying s with
  | some (.struct fs) => match fs[f]? with
    | some x => x.offset == fo && scTB P x.type
    | none => false
  | _ => false
theorem FieldV.of {P : Program} {s f fo : Nat} (h : fieldVB P s f fo = true) : FieldV P s f fo := by
  unfold fieldVB at h
  split at h
  · rename_i fs hs
    split at h
    · rename_i x hx
      simp only [Bool.and_eq_true, beq_iff_eq] at h
      exact ⟨fs, x, hs, hx, h.1, ScT.of h.2⟩
    · cases h
  · cases h
theorem ev_field {s f fo : Nat} {vs : List Value} {v : Value} (hx : evalS S E x = some (.agg vs.toArray)) (hF : FieldV C.P s f fo) (hv : vs[fo]? = some v) : EvalOp C S E I loc ⟨dst, .field s x f, ty, pos, af, gd⟩ v :=
  .of (by intro c e; cases e) fun a w ha hg hc _ => by
    obtain ⟨fs, fx, h1, h2, h3, h4⟩ := hF
    have h5 : vs.toArray[fx.offset]? = some v := by rw [h3]; simpa using hv
    simp only [execOp, evalS_sound ha hg hc hx, Instr.field, Sem.run_bind, run_underlying h1, Result.andThen, h2, asAgg, Sem.run_pure, part, run_isAgg_sc h4, Bool.false_eq_true, if_false, h5]
/-- slices.overlaps at two blocks of plain memory. -/
theorem XO_overlaps {f : FuncId} {fn : Func} {t tr e size la ca lb cb : Nat} {a b : Nat} {oa ob : Nat} {ca' cb' : Array Value} {ta tb : TypeId} {tl : Array TypeId} (he : evalS [] E z = some (.func (.func f) #[] #[])) (hx : evalS [] E x = some (.slice (some ⟨a, oa, none⟩) la ca)) (hy : evalS [] E y = some (.slice (some ⟨b, ob, none⟩) lb cb))
    (hf : C.P.funcs[f]? = some fn) (hname : (fn.name == "runtime.NumGoroutine") = false) (hbody : fn.body.isNone = true) (hn : Extern.findNext fn = none) (hfi : Extern.find fn = some (Extern.SlicesOverlaps.overlaps #[t, t] #[tr])) (hT : SlT C.P t e size)
    (hne : a ≠ b) (ha' : (a, Obj.cells ca' ta (0, 0)) ∈ loc) (hb' : (b, Obj.cells cb' tb (0, 0)) ∈ loc) (hcb : cb'.size ≠ 0) (hG : gd = none) (hN : Nat.blt d C.N = true)
    (h : XO C Q ops rest [] ((d, .bool false) :: E) I loc) : XO C Q ops (⟨some d, .call ⟨.value z, #[x, y], tl⟩, ty, pos, af, gd⟩ :: rest) [] E I loc :=
  XO_world hG (by intro c e; cases e) fun ac w ha hw => by
    obtain ⟨ht, i, hi, hsz⟩ := hT
    have h1 := hw.own _ _ ha'
    have h2 := hw.own _ _ hb'
    have hov := Lib.run_overlaps_apart (P := C.P) w t tr e ht size (fun w => by rw [run_sizeOf hi, hsz]) ⟨a, oa, none⟩ ⟨b, ob, none⟩ la ca lb cb hne ta tb ca'.size cb'.size (by simp [World.shape?, h1]) (by simp [World.shape?, h2]) hcb (by simp [World.frozen?, h1]) (by simp [World.frozen?, h1])
    have hrun : (execOp ac.eval ⟨some d, .call ⟨.value z, #[x, y], tl⟩, ty, pos, af, gd⟩).run C.P w = .ok (.value (.bool false)) w := by
      have e1 := evalS_sound (S := []) ha trivial rfl he
      have e2 := evalS_sound (S := []) ha trivial rfl hx
      have e3 := evalS_sound (S := []) ha trivial rfl hy
      simp only [execOp, resolve, List.map_toArray, List.map_cons, List.map_nil, e1, e2, e3, Deferred.ofValue, Sem.run_bind, Sem.run_pure, Result.andThen, invoke]
      rw [show (#[Value.slice (some ⟨a, oa, none⟩) la ca, Value.slice (some ⟨b, ob, none⟩) lb cb] : Array Value) = #[] ++ #[Value.slice (some ⟨a, oa, none⟩) la ca, Value.slice (some ⟨b, ob, none⟩) lb cb] from rfl]
      simp only [Array.empty_append, Array.append_empty, run_callFunc_extern hf hname hbody hn hfi, hov, Result.andThen]
    rw [hrun, Oper.uponIn_value]
    exact h _ _ (ha.put hN _) trivial hw
theorem Cells.drop0 {b off n : Nat} {vs : List Value} (h : Cells I loc b off vs) : Cells I loc b off (vs.take n) := fun j u hu => by
  rw [List.getElem?_take] at hu
  split at hu
  · exact h j u hu
  · cases hu
theorem split_snoc2 {L R : Loc} {p : Nat × Obj} : Split (L ++ p :: R) (L ++ [p]) R := by
  induction L with
  | nil => exact .cons .here .nil
  | cons q l ih => exact .cons .here ih
theorem split_snoc1 {L R : Loc} {p : Nat × Obj} : Split (p :: (L ++ R)) (L ++ [p]) R := by
  induction L with
  | nil => exact .cons .here .nil
  | cons q l ih => exact .cons (.there .here) ih
theorem XD_key {i : Nat} {oi : Oper} {fuel : Nat} {listed : Array Bool} (hi : ops[i]? = some oi) {a : Act} {w : World} (ha : Fits C.N C.D E a) (hg : FitsG S a) (hw : St C.g I C.H loc w)
    (h : XO C (fun e a w => match e with | .normal => St C.g I0 C.H loc0 w ∧ wpAnyS C.r C.P .any ops Q (fun w => St C.g I0 C.H loc0 w) fuel (listed.setIfInBounds i true) a w | e => Q e a w) ops [oi] S E I loc) :
    wpOpIn (FR C.r) 0 C.P ops Q i (fun a' w' => St C.g I0 C.H loc0 w' ∧ wpAnyS C.r C.P .any ops Q (fun w => St C.g I0 C.H loc0 w) fuel (listed.setIfInBounds i true) a' w') a w := by
  have := h a w ha hg hw
  simp only [wpListIn] at this
  unfold wpOpIn
  simp only [hi]
  split
  · rename_i hwt
    simp only [hwt, if_true] at this
    unfold Oper.wpIn at *
    refine ⟨fun _ _ => trivial, ?_⟩
    have h2 := this.2
    generalize (oi.semAt (FR C.r).round a.eval).run C.P w = q at *
    cases q with
    | ok n w' => cases n <;> exact h2
    | halt x w' => cases x <;> exact h2
  · rename_i hwt
    simp only [hwt] at this
    exact this
/-- Three may come up. -/
theorem XD_three (i j k : Nat) {oi oj ok : Oper} {fuel : Nat} {listed : Array Bool} (hi : ops[i]? = some oi) (hj : ops[j]? = some oj) (hk : ops[k]? = some ok) (hr : Region.ready .any ops listed = [i, j, k])
    (h1 : XO C (fun e a w => match e with | .normal => St C.g I0 C.H loc0 w ∧ wpAnyS C.r C.P .any ops Q (fun w => St C.g I0 C.H loc0 w) fuel (listed.setIfInBounds i true) a w | e => Q e a w) ops [oi] S E I loc)
    (h2 : XO C (fun e a w => match e with | .normal => St C.g I0 C.H loc0 w ∧ wpAnyS C.r C.P .any ops Q (fun w => St C.g I0 C.H loc0 w) fuel (listed.setIfInBounds j true) a w | e => Q e a w) ops [oj] S E I loc)
    (h3 : XO C (fun e a w => match e with | .normal => St C.g I0 C.H loc0 w ∧ wpAnyS C.r C.P .any ops Q (fun w => St C.g I0 C.H loc0 w) fuel (listed.setIfInBounds k true) a w | e => Q e a w) ops [ok] S E I loc) : XD C Q ops I0 loc0 (fuel + 1) listed S E I loc := by
  intro a w ha hg hw
  refine ⟨(fun h0 => by rw [hr] at h0; cases h0), fun q hq => ?_⟩
  rw [hr] at hq
  rcases List.mem_cons.1 hq with e | hq
  · subst e; exact XD_key hi ha hg hw h1
  · rcases List.mem_cons.1 hq with e | hq
    · subst e; exact XD_key hj ha hg hw h2
    · obtain rfl := List.mem_singleton.1 hq; exact XD_key hk ha hg hw h3
/-- A read whose guard is known to say yes is taken first. -/
theorem XD_takeW (i : Nat) {d : Nat} {v : Value} {fuel j dj : Nat} {want : Bool} {oj : Oper} {listed : Array Bool} {op : Op} (hi : ops[i]? = some ⟨some d, op, ty, pos, af, some (j, want)⟩) (hj : ops[j]? = some oj) (hd : oj.dst = some dj) (hlk : look E dj = some (.bool want))
    (hv : EvalOp C [] E I0 loc0 ⟨some d, op, ty, pos, af, none⟩ v) (hN : Nat.blt d C.N = true)
    (hs : Region.noSelect ops = true) (hfr : Region.free .any ops listed i = true) (hr : (Region.ready .any ops listed).contains i = true) (hQ : NoPanic Q) (hI : HLe I0 I) (hl : SubL loc0 loc)
    (h : XD C Q ops I0 loc0 fuel (listed.setIfInBounds i true) [] ((d, v) :: E) I loc) : XD C Q ops I0 loc0 (fuel + 1) listed [] E I loc := by
  intro a w ha hg hw
  have hp := ha.put hN v
  refine wpAnyS_first (v := v) hi (fun c e => hv.1 c e) (Region.noSelect_spec hs) (fun c a w => hQ c a d _ w) fuel listed a w (Region.free_spec hi hfr) (by simpa using hr) ?_ ((hw.mono hI).subL hl) (h _ _ hp trivial hw)
  have hG : Guarded ops [(true, [])] E ⟨some d, op, ty, pos, af, some (j, want)⟩ := .some rfl hj hd (by simpa [topLook, lookS] using hlk) (by simp)
  have hwt := hG.wanted ha (show FitsG [(true, [])] a from ⟨(fun _ _ e => by cases e), trivial⟩)
  exact .inl ⟨by rw [hwt]; rfl, fun w' hw' => hv.2 a w' ha trivial rfl hw'⟩
end
end Go.Kn
