/- topCourse_holds, part B of the proof: what its theorems say holds without further conditions. -/
import Derived.Laws.CopyRow
import Derived.Lib.AppendZerosOnto
import Derived.Lib.Overlaps
import Derived.Laws.MakeOwn
import Derived.Sort.Row
import Derived.Sort.Grow
import Derived.Test.YtclkmnidgdkekaaGreatProg
import Derived.KernelRfl
import Derived.Lib.Hide
import Derived.Test.YtclkmnidgdkekaaGreatTCA
section
namespace Go.Kn
open Go
section
variable {C : Cx} {Q : Exit → Act → World → Prop} {E E' : Env} {I I' I0 : HMap} {loc loc' loc0 L R : Loc} {ops : Array Oper} {rest : List Oper} {S : GS}
variable {dst : Option Tmp} {d : Nat} {ty : TypeId} {pos : String} {af : Array Edge} {gd : Option (Nat × Bool)} {x y z : Operand}
theorem ev_cap {t n c e size : Nat} {av : Option Addr} (hx : evalS S E x = some (.slice av n c)) (hT : SlT C.P t e size) : EvalOp C S E I loc ⟨dst, .call ⟨.builtin .cap, #[x], #[t]⟩, ty, pos, af, gd⟩ (.int .i64 c) :=
  .of (by intro c e; cases e) fun a w ha hg hc _ => by
    simp only [execOp, resolve, List.map_toArray, List.map_cons, List.map_nil, evalS_sound ha hg hc hx, Sem.run_bind, Sem.run_pure, Result.andThen, invoke, builtin, Builtin.cap_, List.getElem?_toArray, List.getElem?_cons_zero, run_underlying hT.1, goInt]
/-- The place of an own block turned whole. -/
theorem St.setRow {g : World} {H : HMap} {w : World} {b : Nat} {cur : Array Value} {t : TypeId} (h : St g I H loc w) (cs : Array Value) (hu : Upd loc b (.cells cur t (0, 0)) (.cells cs t (0, 0)) loc') : St g I H loc' (w.setRow b cs) := by
  have hb := h.own _ _ hu.mem
  exact h.turn hu rfl rfl rfl (by simp [World.setRow]) (setRow_heap w b cur cs t (0, 0) hb) (fun c hc => setRow_other w b c cs hc)
/-- 'copy(d, s)' onto an own block. -/
theorem XO_copy {t e size b o dl dc sl sc : Nat} {sv : Option Addr} {pre old post vs : List Value} {cur cur' : Array Value} {te : TypeId} (hcur : cur = (pre ++ old ++ post).toArray) (hcur' : cur' = (pre ++ vs ++ post).toArray) (hx : evalS [] E x = some (.slice (some ⟨b, o, none⟩) dl dc)) (hy : evalS [] E y = some (.slice sv sl sc)) (hT : SlT C.P t e size)
    (hl : vs.length = Nat.min sl dl * size) (ho : old.length = vs.length) (hpre : pre.length = o) (hb : vs ≠ [] → sv = some ⟨Ab sv, Ao sv, none⟩) (hs : Cells I loc (Ab sv) (Ao sv) vs) (h1 : allOne vs = true) (hG : gd = none) (hN : Nat.blt d C.N = true)
    (hu : Upd loc b (.cells cur te (0, 0)) (.cells cur' te (0, 0)) loc') (h : XO C Q ops rest [] ((d, .int .i64 (Nat.min sl dl : Nat)) :: E) I loc') :
    XO C Q ops (⟨some d, .call ⟨.builtin .copy, #[x, y], #[t, t]⟩, ty, pos, af, gd⟩ :: rest) [] E I loc :=
  XO_world hG (by intro c e; cases e) fun a w ha hw => by
    subst hcur; subst hcur'
    obtain ⟨ht, i, hi, hsz⟩ := hT
    have hblk := hw.own _ _ hu.mem
    have hcells : (Builtin.firstCells size (Nat.min sl dl) (.slice sv sl sc)).run C.P w = .ok vs.toArray w := by
      by_cases h0 : vs = []
      · have hz : Nat.min sl dl * size = 0 := by rw [← hl, h0]; rfl
        subst h0
        cases sv with
        | none => rfl
        | some q => simp only [Builtin.firstCells, hz]; rfl
      · rw [hb h0]
        simp only [Builtin.firstCells, ← hl]
        exact run_loadCells_list w _ vs fun j v hj => by rw [add_plain]; exact (hs j v hj).get hw
    have hst := run_storeCells_at C.P b o te vs 0 (pre ++ old ++ post).toArray w hblk (by simp only [List.size_toArray, List.length_append]; omega) (allOne_iff h1)
    have e1 : ((pre ++ old ++ post).toArray.toList.take (o + 0) ++ vs ++ (pre ++ old ++ post).toArray.toList.drop (o + 0 + vs.length)) = pre ++ vs ++ post := by
      rw [Nat.add_zero, List.append_assoc pre old post]
      rw [List.take_left' hpre, ← ho, ← hpre, ← List.length_append, ← List.append_assoc, List.drop_left' rfl]
    rw [e1] at hst
    have hrun : (Builtin.copy_ #[t, t] ty #[.slice (some ⟨b, o, none⟩) dl dc, .slice sv sl sc]).run C.P w = .ok (.int .i64 (Nat.min sl dl : Nat)) (w.setRow b (pre ++ vs ++ post).toArray) := by
      simp only [Builtin.copy_, List.getElem?_toArray, List.getElem?_cons_zero, List.getElem?_cons_succ, Sem.run_bind, run_underlying ht, Result.andThen, Builtin.lenOf, Sem.run_pure, run_sizeOf hi, hsz, hcells, hst, goInt]
    simp only [execOp, resolve, List.map_toArray, List.map_cons, List.map_nil, evalS_sound (S := []) ha trivial rfl hx, evalS_sound (S := []) ha trivial rfl hy, Sem.run_bind, Sem.run_pure, Result.andThen, invoke, builtin, hrun, Oper.uponIn_value]
    exact h _ _ (ha.put hN _) trivial (hw.setRow _ hu)
/-- 'append(s, make([]T, k)...)' where s has no room: a new block; s stays. -/
theorem XO_appendZ {t tn e size bytes b off i c : Nat} {k : Int} {ys : List Value} (hx : evalS [] E x = some (.slice (some ⟨b, off, none⟩) i c)) (hy : evalS [] E y = some (.int .i64 k)) (hT : ElT C.P t e size bytes) (htn : C.P.underlying tn = some (.int .i64))
    (hk : 0 < k) (hsz : 0 < size) (hc : (c : Int) < i + k) (hl : ys.length = i * size) (hs : Cells I loc b off ys) (hB : (i + k.toNat) * (bytes + 1) ≤ 70368744177664) (hG : gd = none) (hN : Nat.blt d C.N = true)
    (h : ∀ b' c' zs, i + k.toNat ≤ c' → c' ≤ maxLen → (ys ++ zs).length = c' * size → XO C Q ops rest [] ((d, .slice (some ⟨b', 0, none⟩) (i + k.toNat) c') :: E) I ((b', .cells (ys ++ zs).toArray e (0, 0)) :: loc)) :
    XO C Q ops (⟨some d, .call ⟨.builtin .append, #[x, y], #[t, tn]⟩, ty, pos, af, gd⟩ :: rest) [] E I loc :=
  XO_world hG (by intro c e; cases e) fun a w ha hw => by
    obtain ⟨ht, inf, zz, hi, hz, hss, hb, hzs⟩ := hT
    obtain ⟨q, rfl⟩ : ∃ q : Nat, k = q := ⟨k.toNat, by omega⟩
    rw [Int.toNat_natCast] at hB h
    have hnm : i + q ≤ 70368744177664 := by
      have : (i + q) * 1 ≤ (i + q) * (bytes + 1) := Nat.mul_le_mul_left _ (by omega)
      omega
    have hbytes : (i + q) * bytes ≤ 140737488355328 := by
      have : (i + q) * bytes ≤ (i + q) * (bytes + 1) := Nat.mul_le_mul_left _ (by omega)
      omega
    have hqb : q * bytes ≤ (i + q) * bytes := Nat.mul_le_mul_right _ (by omega)
    have hold : (Builtin.firstCells inf.size i (.slice (some ⟨b, off, none⟩) i c)).run C.P w.drew = .ok ys.toArray w.drew := by
      rw [hss]
      simp only [Builtin.firstCells, ← hl]
      exact run_loadCells_list _ _ ys fun j v hj => by rw [add_plain]; exact (hs j v hj).get hw.drew'
    have hrun := Lib.run_append_grow_zeros (P := C.P) w t tn ty e inf zz .i64 .i64 ht htn hi hz (some ⟨b, off, none⟩) i c ys hold q (by omega) (by omega) (by omega) (by omega) (by rw [hb]; omega) (by rw [hb]; exact growslice_fits (by omega) hbytes)
    have hge := grownCap_ge w (i + q) c e
    have hcm : grownCap w (i + q) c e ≤ maxLen := grownCap_le_maxLen w (i + q) c e (by simp only [maxLen]; omega)
    simp only [execOp, resolve, List.map_toArray, List.map_cons, List.map_nil, evalS_sound (S := []) ha trivial rfl hx, evalS_sound (S := []) ha trivial rfl hy, Sem.run_bind, Sem.run_pure, Result.andThen, invoke, builtin, hrun, Oper.uponIn_value]
    have e1 : ys.toArray ++ Builtin.zeroCells zz.cells q ++ Builtin.zeroCells zz.cells (grownCap w (i + q) c e - (i + q)) = (ys ++ ((Builtin.zeroCells zz.cells q).toList ++ (Builtin.zeroCells zz.cells (grownCap w (i + q) c e - (i + q))).toList)).toArray := by
      apply Array.ext'
      simp
    rw [e1]
    refine h _ _ _ hge hcm ?_ _ _ (ha.put hN _) trivial (hw.drew'.alloc _)
    simp only [List.length_append, Array.length_toList, size_zeroCells', hzs, hl]
    rw [← Nat.add_mul, ← Nat.add_mul]
    congr 1; omega
/-- 's == nil' of a slice. -/
theorem ev_eqNil {t t' n c e size : Nat} {av : Option Addr} (hx : evalS S E x = some (.slice av n c)) (hy : evalS S E y = some (.slice none 0 0)) (hT : SlT C.P t e size) : EvalOp C S E I loc ⟨dst, .binOp .eql t x y t', ty, pos, af, gd⟩ (.bool av.isNone) :=
  .of (by intro c e; cases e) fun a w ha hg hc _ => by
    have e1 : ∀ op x y t, (eqGuard op t x y (.slice av n c) (.slice none 0 0)).run C.P w = .ok () w := by intros; unfold eqGuard; rename_i op _ _ _; cases op <;> rfl
    have e2 : (Op.equal t (.slice av n c) (.slice none 0 0)).run C.P w = .ok av.isNone w := by
      show (Op.equalIn (9999 + 1) t (.slice av n c) (.slice none 0 0)).run C.P w = _
      unfold Op.equalIn
      rw [Sem.run_bind, run_underlying hT.1]
      cases av <;> rfl
    simp only [execOp, evalS_sound ha hg hc hx, evalS_sound ha hg hc hy, Sem.run_bind, e1, Result.andThen, binOp, e2, Sem.run_pure]
/-- 's[i:]' of a row in a known block. -/
theorem ev_sliceLoB {t e size b off n c : Nat} {k : IntKind} {i : Int} (hx : evalS S E x = some (.slice (some ⟨b, off, none⟩) n c)) (hy : evalS S E y = some (.int k i)) (hT : SlT C.P t e size) (hb : 0 ≤ i ∧ i ≤ (n : Int) ∧ i < (c : Int)) :
    EvalOp C S E I loc ⟨dst, .slice t x (some y) none none, ty, pos, af, gd⟩ (.slice (some ⟨b, off + i.toNat * size, none⟩) (n - i.toNat) (c - i.toNat)) := by
  have h := ev_sliceLo (C := C) (I := I) (loc := loc) (dst := dst) (ty := ty) (pos := pos) (af := af) (gd := gd) hx hy hT (fun _ => ⟨hb.1, hb.2.1⟩)
  rwa [sub2_some (by omega)] at h
theorem Cells.part {b off : Nat} {pre vs post : List Value} (h : Cells I loc b 0 (pre ++ vs ++ post)) (ho : off = pre.length) : Cells I loc b off vs := fun j u hu => by
  subst ho
  have hj : j < vs.length := (List.getElem?_eq_some_iff.1 hu).1
  have := h (pre.length + j) u (by rw [List.append_assoc, List.getElem?_append_right (by omega), Nat.add_sub_cancel_left, List.getElem?_append_left hj]; exact hu)
  rwa [Nat.zero_add] at this
theorem ev_shr {t t' : TypeId} {k k' : IntKind} {a b : Int} {q : Nat} (hx : evalS S E x = some (.int k a)) (hy : evalS S E y = some (.int k' b)) (h0 : 0 ≤ b) (hq : min b.toNat k.bits = q) : EvalOp C S E I loc ⟨dst, .binOp .shr t x y t', ty, pos, af, gd⟩ (.int k (a.fdiv (2 ^ q))) :=
  .of (by intro c e; cases e) fun ac w ha hg hc _ => by
    simp only [execOp, evalS_sound ha hg hc hx, evalS_sound ha hg hc hy, Sem.run_bind, run_eqGuard_int, Result.andThen, binOp, Op.shift, if_neg (show ¬ b < 0 by omega), hq, Sem.run_pure]
/-- A field of one cell of a struct that is a value. -/
def FieldV (P : Program) (s f fo : Nat) : Prop := ∃ fs x, P.underlying s = some (.struct fs) ∧ fs[f]? = some x ∧ x.offset = fo ∧ ScT P x.type
def fieldVB (P : Program) (s f fo : Nat) : Bool := match P.underlying s with
  | some (.struct fs) => match fs[f]? with
    | some x => x.offset == fo && scTB P x.type
    | none => false
  | _ => false
theorem FieldV.of {P : Program} {s f fo : Nat} (h : fieldVB P s f fo = true) : FieldV P s f fo := by
  unfold fieldVB at h
  split at h
  · rename_i fs hs
    split at h
    · rename_i x hx
      simp only [Bool.and_eq_true, beq_iff_eq] at h
      exact ⟨fs, x, hs, hx, h.1, ScT.of h.2⟩
    · cases h
  · cases h
theorem ev_field {s f fo : Nat} {vs : List Value} {v : Value} (hx : evalS S E x = some (.agg vs.toArray)) (hF : FieldV C.P s f fo) (hv : vs[fo]? = some v) : EvalOp C S E I loc ⟨dst, .field s x f, ty, pos, af, gd⟩ v :=
  .of (by intro c e; cases e) fun a w ha hg hc _ => by
    obtain ⟨fs, fx, h1, h2, h3, h4⟩ := hF
    have h5 : vs.toArray[fx.offset]? = some v := by rw [h3]; simpa using hv
    simp only [execOp, evalS_sound ha hg hc hx, Instr.field, Sem.run_bind, run_underlying h1, Result.andThen, h2, asAgg, Sem.run_pure, part, run_isAgg_sc h4, Bool.false_eq_true, if_false, h5]
/-- slices.overlaps at two blocks of plain memory. -/
theorem XO_overlaps {f : FuncId} {fn : Func} {t tr e size la ca lb cb : Nat} {a b : Nat} {oa ob : Nat} {ca' cb' : Array Value} {ta tb : TypeId} {tl : Array TypeId} (he : evalS [] E z = some (.func (.func f) #[] #[])) (hx : evalS [] E x = some (.slice (some ⟨a, oa, none⟩) la ca)) (hy : evalS [] E y = some (.slice (some ⟨b, ob, none⟩) lb cb))
    (hf : C.P.funcs[f]? = some fn) (hname : (fn.name == "runtime.NumGoroutine") = false) (hbody : fn.body.isNone = true) (hn : Extern.findNext fn = none) (hfi : Extern.find fn = some (Extern.SlicesOverlaps.overlaps #[t, t] #[tr])) (hT : SlT C.P t e size)
    (hne : a ≠ b) (ha' : (a, Obj.cells ca' ta (0, 0)) ∈ loc) (hb' : (b, Obj.cells cb' tb (0, 0)) ∈ loc) (hcb : cb'.size ≠ 0) (hG : gd = none) (hN : Nat.blt d C.N = true)
    (h : XO C Q ops rest [] ((d, .bool false) :: E) I loc) : XO C Q ops (⟨some d, .call ⟨.value z, #[x, y], tl⟩, ty, pos, af, gd⟩ :: rest) [] E I loc :=
  XO_world hG (by intro c e; cases e) fun ac w ha hw => by
    obtain ⟨ht, i, hi, hsz⟩ := hT
    have h1 := hw.own _ _ ha'
    have h2 := hw.own _ _ hb'
    have hov := Lib.run_overlaps_apart (P := C.P) w t tr e ht size (fun w => by rw [run_sizeOf hi, hsz]) ⟨a, oa, none⟩ ⟨b, ob, none⟩ la ca lb cb hne ta tb ca'.size cb'.size (by simp [World.shape?, h1]) (by simp [World.shape?, h2]) hcb (by simp [World.frozen?, h1]) (by simp [World.frozen?, h1])
    have hrun : (execOp ac.eval ⟨some d, .call ⟨.value z, #[x, y], tl⟩, ty, pos, af, gd⟩).run C.P w = .ok (.value (.bool false)) w := by
      have e1 := evalS_sound (S := []) ha trivial rfl he
      have e2 := evalS_sound (S := []) ha trivial rfl hx
      have e3 := evalS_sound (S := []) ha trivial rfl hy
      simp only [execOp, resolve, List.map_toArray, List.map_cons, List.map_nil, e1, e2, e3, Deferred.ofValue, Sem.run_bind, Sem.run_pure, Result.andThen, invoke]
      rw [show (#[Value.slice (some ⟨a, oa, none⟩) la ca, Value.slice (some ⟨b, ob, none⟩) lb cb] : Array Value) = #[] ++ #[Value.slice (some ⟨a, oa, none⟩) la ca, Value.slice (some ⟨b, ob, none⟩) lb cb] from rfl]
      simp only [Array.empty_append, Array.append_empty, run_callFunc_extern hf hname hbody hn hfi, hov, Result.andThen]
    rw [hrun, Oper.uponIn_value]
    exact h _ _ (ha.put hN _) trivial hw
theorem split_snoc2 {L R : Loc} {p : Nat × Obj} : Split (L ++ p :: R) (L ++ [p]) R := by
  induction L with
  | nil => exact .cons .here .nil
  | cons q l ih => exact .cons .here ih
theorem split_snoc1 {L R : Loc} {p : Nat × Obj} : Split (p :: (L ++ R)) (L ++ [p]) R := by
  induction L with
  | nil => exact .cons .here .nil
  | cons q l ih => exact .cons (.there .here) ih
theorem XD_key {i : Nat} {oi : Oper} {fuel : Nat} {listed : Array Bool} (hi : ops[i]? = some oi) {a : Act} {w : World} (ha : Fits C.N C.D E a) (hg : FitsG S a) (hw : St C.g I C.H loc w)
    (h : XO C (fun e a w => match e with | .normal => St C.g I0 C.H loc0 w ∧ wpAnyS C.r C.P .any ops Q (fun w => St C.g I0 C.H loc0 w) fuel (listed.setIfInBounds i true) a w | e => Q e a w) ops [oi] S E I loc) :
    wpOpIn (FR C.r) 0 C.P ops Q i (fun a' w' => St C.g I0 C.H loc0 w' ∧ wpAnyS C.r C.P .any ops Q (fun w => St C.g I0 C.H loc0 w) fuel (listed.setIfInBounds i true) a' w') a w := by
  have := h a w ha hg hw
  simp only [wpListIn] at this
  unfold wpOpIn
  simp only [hi]
  split
  · rename_i hwt
    simp only [hwt, if_true] at this
    unfold Oper.wpIn at *
    refine ⟨fun _ _ => trivial, ?_⟩
    have h2 := this.2
    generalize (oi.semAt (FR C.r).round a.eval).run C.P w = q at *
    cases q with
    | ok n w' => cases n <;> exact h2
    | halt x w' => cases x <;> exact h2
  · rename_i hwt
    simp only [hwt] at this
    exact this
/-- Three may come up. -/
theorem XD_three (i j k : Nat) {oi oj ok : Oper} {fuel : Nat} {listed : Array Bool} (hi : ops[i]? = some oi) (hj : ops[j]? = some oj) (hk : ops[k]? = some ok) (hr : Region.ready .any ops listed = [i, j, k])
    (h1 : XO C (fun e a w => match e with | .normal => St C.g I0 C.H loc0 w ∧ wpAnyS C.r C.P .any ops Q (fun w => St C.g I0 C.H loc0 w) fuel (listed.setIfInBounds i true) a w | e => Q e a w) ops [oi] S E I loc)
    (h2 : XO C (fun e a w => match e with | .normal => St C.g I0 C.H loc0 w ∧ wpAnyS C.r C.P .any ops Q (fun w => St C.g I0 C.H loc0 w) fuel (listed.setIfInBounds j true) a w | e => Q e a w) ops [oj] S E I loc)
    (h3 : XO C (fun e a w => match e with | .normal => St C.g I0 C.H loc0 w ∧ wpAnyS C.r C.P .any ops Q (fun w => St C.g I0 C.H loc0 w) fuel (listed.setIfInBounds k true) a w | e => Q e a w) ops [ok] S E I loc) : XD C Q ops I0 loc0 (fuel + 1) listed S E I loc := by
  intro a w ha hg hw
  refine ⟨(fun h0 => by rw [hr] at h0; cases h0), fun q hq => ?_⟩
  rw [hr] at hq
  rcases List.mem_cons.1 hq with e | hq
  · subst e; exact XD_key hi ha hg hw h1
  · rcases List.mem_cons.1 hq with e | hq
    · subst e; exact XD_key hj ha hg hw h2
    · obtain rfl := List.mem_singleton.1 hq; exact XD_key hk ha hg hw h3
/-- A read whose guard is known to say yes is taken first. -/
theorem XD_takeW (i : Nat) {d : Nat} {v : Value} {fuel j dj : Nat} {want : Bool} {oj : Oper} {listed : Array Bool} {op : Op} (hi : ops[i]? = some ⟨some d, op, ty, pos, af, some (j, want)⟩) (hj : ops[j]? = some oj) (hd : oj.dst = some dj) (hlk : look E dj = some (.bool want))
    (hv : EvalOp C [] E I0 loc0 ⟨some d, op, ty, pos, af, none⟩ v) (hN : Nat.blt d C.N = true)
    (hs : Region.noSelect ops = true) (hfr : Region.free .any ops listed i = true) (hr : (Region.ready .any ops listed).contains i = true) (hQ : NoPanic Q) (hI : HLe I0 I) (hl : SubL loc0 loc)
    (h : XD C Q ops I0 loc0 fuel (listed.setIfInBounds i true) [] ((d, v) :: E) I loc) : XD C Q ops I0 loc0 (fuel + 1) listed [] E I loc := by
  intro a w ha hg hw
  have hp := ha.put hN v
  refine wpAnyS_first (v := v) hi (fun c e => hv.1 c e) (Region.noSelect_spec hs) (fun c a w => hQ c a d _ w) fuel listed a w (Region.free_spec hi hfr) (by simpa using hr) ?_ ((hw.mono hI).subL hl) (h _ _ hp trivial hw)
  have hG : Guarded ops [(true, [])] E ⟨some d, op, ty, pos, af, some (j, want)⟩ := .some rfl hj hd (by simpa [topLook, lookS] using hlk) (by simp)
  have hwt := hG.wanted ha (show FitsG [(true, [])] a from ⟨(fun _ _ e => by cases e), trivial⟩)
  exact .inl ⟨by rw [hwt]; rfl, fun w' hw' => hv.2 a w' ha trivial rfl hw'⟩
end
end Go.Kn
end
section
namespace Go.Kn
open Go
/-- Entries with the time of each one's birth: number and birth. -/
def entS (m : List (Int × Nat)) : List MapEntry := m.map fun p => { key := .int .i64 p.1, val := .bool true, born := p.2 }
def setO (m : List (Int × Nat)) (c : Nat) : Obj := .map (entS m).toArray c
def sidx : List (Int × Nat) → Int → Nat → Option Nat
  | [], _, _ => none
  | p :: m, a, k => if p.1 = a then some k else sidx m a (k + 1)
def sput (m : List (Int × Nat)) (c : Nat) (a : Int) : List (Int × Nat) × Nat := if a ∈ m.map (·.1) then (m, c) else (m ++ [(a, c)], c + 1)
theorem sidx_none {m : List (Int × Nat)} {a : Int} : ∀ {k : Nat}, sidx m a k = none ↔ a ∉ m.map (·.1) := by
  induction m with
  | nil => intro k; simp [sidx]
  | cons p m ih =>
    intro k
    simp only [sidx, List.map_cons, List.mem_cons, not_or]
    by_cases h : p.1 = a
    · simp [h]
    · rw [if_neg h, ih]
      exact ⟨fun g => ⟨fun e => h e.symm, g⟩, fun g => g.2⟩
theorem sidx_some {m : List (Int × Nat)} {a : Int} : ∀ {k j : Nat}, sidx m a k = some j → ∃ i p, j = k + i ∧ m[i]? = some p ∧ p.1 = a := by
  induction m with
  | nil => intro k j h; simp [sidx] at h
  | cons p m ih =>
    intro k j h
    simp only [sidx] at h
    split at h
    · rename_i e
      cases h
      exact ⟨0, p, rfl, rfl, e⟩
    · obtain ⟨i, q, e, h1, h2⟩ := ih h
      exact ⟨i + 1, q, by omega, by simpa using h1, h2⟩
theorem findNow_S {a : Int} : ∀ (m : List (Int × Nat)) (i : Nat), Instr.findNow (.int .i64) (.int .i64 a) (entS m) i = some ((sidx m a i).map fun j => (j, .bool true))
  | [], _ => rfl
  | p :: m, i => by
    simp only [entS, List.map_cons, Instr.findNow, Instr.sameNow, if_true, sidx]
    by_cases h : p.1 = a
    · simp [h]
    · have h' : ¬ a = p.1 := fun e => h e.symm
      simp only [if_neg h]
      have := findNow_S (a := a) m (i + 1)
      simp only [entS] at this
      have hb : (a == p.1) = false := beq_false_of_ne h'
      rw [hb]
      exact this
theorem run_findS {P : Program} {k : Nat} (hK : P.underlying k = some (.int .i64)) (m : List (Int × Nat)) (a : Int) (w : World) : (Instr.findKey k (.int .i64 a) (entS m)).run P w = .ok ((sidx m a 0).map fun j => (j, .bool true)) w := by
  simp only [Instr.findKey, Sem.run_bind, run_underlying hK, Result.andThen, findNow_S, Sem.run_pure]
section
variable {C : Cx} {Q : Exit → Act → World → Prop} {E E' : Env} {I I' : HMap} {loc loc' L R : Loc} {ops : Array Oper} {rest : List Oper} {S : GS}
variable {dst : Option Tmp} {d : Nat} {ty : TypeId} {pos : String} {af : Array Edge} {gd : Option (Nat × Bool)} {x y z : Operand} {m : List (Int × Nat)} {a : Int}
theorem ev_lookupS {t k e r c : Nat} (hT : MpT C.P t k e (.bool false)) (hK : C.P.underlying k = some (.int .i64)) (hx : evalS S E x = some (.map (some r))) (hy : evalS S E y = some (.int .i64 a)) (hm : conj S = true → Mem I loc r (setO m c)) :
    EvalOp C S E I loc ⟨dst, .lookup t x y false, ty, pos, af, gd⟩ (.bool (decide (a ∈ m.map (·.1)))) :=
  .of (by intro c e; cases e) fun a' w ha hg hc hw => by
    have h1 : (Instr.lookup t (.map (some r)) (.int .i64 a) false).run C.P w = .ok (.bool (decide (a ∈ m.map (·.1)))) w := by
      have hh := (hm hc).heap hw
      simp only [Instr.lookup, Sem.run_bind, run_underlying hT.1, Result.andThen, run_getObj_map hh, Sem.run_pure, (key_int hK).chk, run_findS hK]
      cases hi : sidx m a 0 with
      | none => simp [run_zeroValue hT.2, sidx_none.1 hi]
      | some j =>
        have : a ∈ m.map (·.1) := Decidable.not_not.1 fun h => by rw [sidx_none.2 h] at hi; cases hi
        simp [this]
    simp only [execOp, evalS_sound ha hg hc hx, evalS_sound ha hg hc hy, Sem.run_bind, h1, Result.andThen, Sem.run_pure, Bool.false_eq_true, if_false]
theorem ev_lenSet {t k e r c : Nat} {zv : Value} (hx : evalS S E x = some (.map (some r))) (hT : MpT C.P t k e zv) (hm : conj S = true → Mem I loc r (setO m c)) : EvalOp C S E I loc ⟨dst, .call ⟨.builtin .len, #[x], #[t]⟩, ty, pos, af, gd⟩ (.int .i64 m.length) :=
  .of (by intro c e; cases e) fun a w ha hg hc hw => by
    have hh := (hm hc).heap hw
    simp only [execOp, resolve, List.map_toArray, List.map_cons, List.map_nil, evalS_sound ha hg hc hx, Sem.run_bind, Sem.run_pure, Result.andThen, invoke, builtin, Builtin.len_, List.getElem?_toArray, List.getElem?_cons_zero, run_underlying hT.1, goInt, run_getObj_map hh, List.size_toArray, entS, List.length_map]
theorem XO_putS {t k e r c : Nat} {zv : Value} (hT : MpT C.P t k e zv) (hK : C.P.underlying k = some (.int .i64)) (hx : evalS [] E x = some (.map (some r))) (hy : evalS [] E y = some (.int .i64 a)) (hz : evalS [] E z = some (.bool true)) (hG : gd = none)
    (hu : Upd loc r (setO m c) (setO (sput m c a).1 (sput m c a).2) loc') (h : XO C Q ops rest [] E I loc') : XO C Q ops (⟨none, .mapUpdate t x y z, ty, pos, af, gd⟩ :: rest) [] E I loc :=
  XO_world hG (by intro c e; cases e) fun a' w ha hw => by
    have hh := hw.own _ _ hu.mem
    have hr : (Instr.mapUpdate t (.map (some r)) (.int .i64 a) (.bool true)).run C.P w = .ok () (w.putObj r (setO (sput m c a).1 (sput m c a).2)) := by
      simp only [Instr.mapUpdate, Sem.run_bind, run_underlying hT.1, Result.andThen, run_getObj_map hh, (key_int hK).chk, run_findS hK]
      cases hi : sidx m a 0 with
      | none =>
        have hn := sidx_none.1 hi
        simp only [Option.map_none]
        rw [run_setObj_map _ hh]
        unfold sput
        rw [if_neg hn]
        congr 2
        simp [setO, entS]
      | some j =>
        have hy' : a ∈ m.map (·.1) := Decidable.not_not.1 fun h => by rw [sidx_none.2 h] at hi; cases hi
        obtain ⟨i, p, e, h1, h2⟩ := sidx_some hi
        have e : j = i := by omega
        subst e
        have hje : (entS m)[j]? = some { key := .int .i64 a, val := .bool true, born := p.2 } := by simp [entS, h1, h2]
        simp only [Option.map_some, Sem.run_bind, List.getElem?_toArray, hje, Option.getD_some, Instr.keyThatStays, (key_int hK).bits, if_true, Sem.run_pure, Result.andThen]
        rw [run_setObj_map _ hh]
        unfold sput
        rw [if_pos hy']
        congr 2
        simp only [setO]
        congr 1
        have : (entS m).modify j (fun e => { e with key := .int .i64 a, val := .bool true }) = entS m := by
          refine List.ext_getElem? fun q => ?_
          rw [List.getElem?_modify]
          by_cases hq : j = q
          · subst hq; rw [hje]; simp
          · simp [hq]
        simp [this]
    simp only [execOp, evalS_sound (S := []) ha trivial rfl hx, evalS_sound (S := []) ha trivial rfl hy, evalS_sound (S := []) ha trivial rfl hz, Sem.run_bind, hr, Result.andThen, Sem.run_pure, Oper.uponIn_skip]
    exact h _ _ ha trivial (hw.putObj hu)
end
theorem sput_new {m : List (Int × Nat)} {c : Nat} {a : Int} (h : a ∉ m.map (·.1)) : ((sput m c a).1).map (·.1) = m.map (·.1) ++ [a] := by unfold sput; rw [if_neg h]; simp
end Go.Kn
end
section
namespace Go.Kn
open Go
section
variable {C : Cx} {Q : Exit → Act → World → Prop} {E E' : Env} {I I' : HMap} {loc loc' L R : Loc} {ops : Array Oper} {rest : List Oper} {S : GS}
variable {dst : Option Tmp} {d : Nat} {ty : TypeId} {pos : String} {af : Array Edge} {gd : Option (Nat × Bool)} {x y z : Operand} {a b : Int}
def maxI (a b : Int) : Int := if b > a then b else a
theorem ev_max {k : IntKind} {ats : Array TypeId} (hx : evalS S E x = some (.int k a)) (hy : evalS S E y = some (.int k b)) : EvalOp C S E I loc ⟨dst, .call ⟨.builtin .max, #[x, y], ats⟩, ty, pos, af, gd⟩ (.int k (maxI a b)) :=
  .of (by intro c e; cases e) fun ac w ha hg hc hw => by
    simp only [execOp, resolve, List.map_toArray, List.map_cons, List.map_nil, evalS_sound ha hg hc hx, evalS_sound ha hg hc hy, Sem.run_bind, Sem.run_pure, Result.andThen, invoke, builtin]; rfl
/-- A place of an array that is a value: of one cell; of several. -/
theorem ev_index {t e n size : Nat} {k : IntKind} {cs : List Value} {i : Int} {v : Value} (hx : evalS S E x = some (.agg cs.toArray)) (hy : evalS S E y = some (.int k i)) (hT : ArT C.P t n e size) (hS : ScT C.P e) (hb : conj S = true → 0 ≤ i ∧ i < (n : Int)) (hv : conj S = true → cs[i.toNat * size]? = some v) :
    EvalOp C S E I loc ⟨dst, .index t x y, ty, pos, af, gd⟩ v :=
  .of (by intro c e; cases e) fun ac w ha hg hc _ => by
    obtain ⟨h1, j, h2, h3⟩ := hT
    have h4 : cs.toArray[i.toNat * size]? = some v := by simpa using hv hc
    simp only [execOp, evalS_sound ha hg hc hx, evalS_sound ha hg hc hy, Instr.index, asIntOf, Sem.run_bind, Sem.run_pure, run_underlying h1, Result.andThen, if_pos (hb hc), run_sizeOf h2, h3, part, run_isAgg_sc hS, Bool.false_eq_true, if_false, h4]
end
section
variable {P : Program} {fn : Func} {R : Ending → World → Prop} {N : Nat} {g : World} {I H : HMap} {loc : Loc} {E : Env} {r : Option Nat}
/-- One result that lies in a block of several cells. -/
theorem at_retA {t tt n b : Nat} {vs : List Value} (hr : fn.results = #[.cell t tt]) (hv : look E t = some (.pointer (some ⟨b, 0, none⟩))) (hA : AgT P tt n) (hc : Cells I loc b 0 vs) (hn : vs.length = n) (h : ∀ w, St g I H loc w → R (.returned (.agg vs.toArray)) w) :
    At ⟨P, r, N, [], g, H⟩ (bodyPost P fn R) .ret E I loc := fun a w ha hw =>
  ⟨ha.defers, .agg vs.toArray, by
    have e1 := ha.env _ _ hv
    rw [Array.getD_eq_getD_getElem?] at e1
    have h1 : (loadCells ⟨b, 0, none⟩ n).run P w = .ok vs.toArray w := by
      rw [← hn]
      exact run_loadCells_list w _ _ fun j v hj => by rw [add_plain]; exact (hc j v hj).get hw
    have hA' := hA
    obtain ⟨_, i, h2, h3⟩ := hA'
    have l1 : (loadVar tt ⟨b, 0, none⟩).run P w = .ok (.agg vs.toArray) w := by
      simp only [loadVar, Sem.run_bind, Sem.run_pure, run_isAgg_ag hA, Result.andThen, if_true, run_sizeOf h2, h3, h1]
    simp only [results, hr]
    simp [List.mapM_cons, e1, asAddr, l1], h w hw⟩
end
end Go.Kn
end
section
namespace Go.Kn
open Go
theorem eqFields_step {P : Program} {w : World} {dd : Nat} {f : Field} {fs : List Field} {cx cy : Array Value} {u v : Value} {c r : Bool} (hn : f.name ≠ "_") (h1 : (part f.type cx f.offset).run P w = .ok u w) (h2 : (part f.type cy f.offset).run P w = .ok v w)
    (hc : (Op.equalIn dd f.type u v).run P w = .ok c w) (hr : (Op.eqFields dd cx cy fs).run P w = .ok r w) : (Op.eqFields dd cx cy (f :: fs)).run P w = .ok (c && r) w := by
  simp only [Op.eqFields, if_pos hn, Sem.run_bind, h1, h2, hc, Result.andThen, Sem.run_ite]
  cases c with
  | false => simp
  | true => simpa using hr
def flat2 (P : Program) : List Field → Nat → Option (List EqK)
  | [], _ => some []
  | f :: fs, k => if f.name ≠ "_" ∧ f.offset = k then
      match kindOf P f.type with
      | some q => (flat2 P fs (k + 1)).map (q :: ·)
      | none => match P.underlying f.type with
        | some (.struct gs) => if P.stoodInHeld f.type = false then
            match flatKs P gs.toList 0, P.info? f.type with
            | some l, some i => if i.size = l.length then (flat2 P fs (k + l.length)).map (l ++ ·) else none
            | _, _ => none
          else none
        | _ => none
    else none
def EqT2 (P : Program) (t : Nat) (ks : List EqK) : Prop := P.underlying t = some (.struct (P.fieldsOf t)) ∧ P.stoodInHeld t = false ∧ P.eqGuardType P.depth t = false ∧ flat2 P (P.fieldsOf t).toList 0 = some ks
theorem eqKs_app : ∀ {k1 k2 : List EqK} {xs ys : List Value} {b : Bool}, eqKs (k1 ++ k2) xs ys = some b → ∃ u1 u2 v1 v2 b1 b2, xs = u1 ++ u2 ∧ ys = v1 ++ v2 ∧ u1.length = k1.length ∧ v1.length = k1.length ∧ eqKs k1 u1 v1 = some b1 ∧ eqKs k2 u2 v2 = some b2 ∧ b = (b1 && b2)
  | [], k2, xs, ys, b, h => ⟨[], xs, [], ys, true, b, rfl, rfl, rfl, rfl, rfl, h, by simp⟩
  | .int :: k1, k2, xs, ys, b, h => by
    match xs, ys, h with
    | .int k a :: xs, .int k' c :: ys, h =>
      simp only [List.cons_append, eqKs] at h
      split at h
      · rename_i hk
        cases hr : eqKs (k1 ++ k2) xs ys with
        | none => rw [hr] at h; cases h
        | some r =>
          rw [hr] at h
          obtain ⟨u1, u2, v1, v2, b1, b2, rfl, rfl, h1, h2, h3, h4, rfl⟩ := eqKs_app hr
          refine ⟨.int k a :: u1, u2, .int k' c :: v1, v2, (a == c && b1), b2, rfl, rfl, by simp [h1], by simp [h2], ?_, h4, ?_⟩
          · simp only [eqKs, if_pos hk, h3]
          · simp only [Option.some.injEq] at h; rw [← h, Bool.and_assoc]
      · cases h
  | .str :: k1, k2, xs, ys, b, h => by
    match xs, ys, h with
    | .string a :: xs, .string c :: ys, h =>
      simp only [List.cons_append, eqKs] at h
      cases hr : eqKs (k1 ++ k2) xs ys with
      | none => rw [hr] at h; cases h
      | some r =>
        rw [hr] at h
        obtain ⟨u1, u2, v1, v2, b1, b2, rfl, rfl, h1, h2, h3, h4, rfl⟩ := eqKs_app hr
        refine ⟨.string a :: u1, u2, .string c :: v1, v2, (strEq a c && b1), b2, rfl, rfl, by simp [h1], by simp [h2], ?_, h4, ?_⟩
        · simp only [eqKs, h3]
        · simp only [Option.some.injEq] at h; rw [← h, Bool.and_assoc]
  | .bool :: k1, k2, xs, ys, b, h => by
    match xs, ys, h with
    | .bool a :: xs, .bool c :: ys, h =>
      simp only [List.cons_append, eqKs] at h
      cases hr : eqKs (k1 ++ k2) xs ys with
      | none => rw [hr] at h; cases h
      | some r =>
        rw [hr] at h
        obtain ⟨u1, u2, v1, v2, b1, b2, rfl, rfl, h1, h2, h3, h4, rfl⟩ := eqKs_app hr
        refine ⟨.bool a :: u1, u2, .bool c :: v1, v2, (a == c && b1), b2, rfl, rfl, by simp [h1], by simp [h2], ?_, h4, ?_⟩
        · simp only [eqKs, h3]
        · simp only [Option.some.injEq] at h; rw [← h, Bool.and_assoc]
theorem run_part_sc {P : Program} {w : World} {t : TypeId} {cs : Array Value} {off : Nat} {v : Value} (h : ScT P t) (hv : cs[off]? = some v) : (part t cs off).run P w = .ok v w := by
  simp only [part, Sem.run_bind, run_isAgg_sc h, Result.andThen, Bool.false_eq_true, if_false, hv, Sem.run_pure]
theorem run_part_ag {P : Program} {w : World} {t : TypeId} {cs : Array Value} {off n : Nat} (h : AgT P t n) : (part t cs off).run P w = .ok (.agg (cs.extract off (off + n))) w := by
  obtain ⟨i, hi, hs⟩ := h.2
  simp only [part, Sem.run_bind, run_isAgg_ag h, Result.andThen, if_true, run_sizeOf hi, hs, Sem.run_pure]
theorem extract_mid (a b c : List Value) (n m : Nat) (hn : a.length = n) (hm : b.length = m) : (a ++ (b ++ c)).toArray.extract n (n + m) = b.toArray := by
  subst hn; subst hm
  apply Array.ext'
  simp
theorem one_field {P : Program} {w : World} {dd : Nat} {t : TypeId} {q : EqK} (hk : kindOf P t = some q) {ks : List EqK} {xs ys : List Value} {b : Bool} (he : eqKs (q :: ks) xs ys = some b) :
    ∃ u v us vs c r, xs = u :: us ∧ ys = v :: vs ∧ ScT P t ∧ (Op.equalIn (dd + 1) t u v).run P w = .ok c w ∧ eqKs ks us vs = some r ∧ b = (c && r) := by
  unfold kindOf at hk
  cases hu : P.underlying t with
  | none => rw [hu] at hk; cases hk
  | some td =>
    rw [hu] at hk
    cases td <;> simp only [Option.some.injEq, reduceCtorEq] at hk
    case int kk =>
      subst hk
      match xs, ys, he with
      | .int k a :: xs, .int k' c :: ys, he =>
        simp only [eqKs] at he
        split at he
        · rename_i hkk
          subst hkk
          cases hr : eqKs ks xs ys with
          | none => rw [hr] at he; cases he
          | some r =>
            rw [hr] at he
            simp only [Option.some.injEq] at he
            exact ⟨_, _, xs, ys, (a == c), r, rfl, rfl, ⟨_, hu, trivial⟩, run_equalIn_int w dd t k kk a c hu, hr, he.symm⟩
        · cases he
    case string =>
      subst hk
      match xs, ys, he with
      | .string a :: xs, .string c :: ys, he =>
        simp only [eqKs] at he
        cases hr : eqKs ks xs ys with
        | none => rw [hr] at he; cases he
        | some r =>
          rw [hr] at he
          simp only [Option.some.injEq] at he
          exact ⟨_, _, xs, ys, _, r, rfl, rfl, ⟨_, hu, trivial⟩, run_equalIn_string w dd t a c hu, hr, he.symm⟩
    case bool =>
      subst hk
      match xs, ys, he with
      | .bool a :: xs, .bool c :: ys, he =>
        simp only [eqKs] at he
        cases hr : eqKs ks xs ys with
        | none => rw [hr] at he; cases he
        | some r =>
          rw [hr] at he
          simp only [Option.some.injEq] at he
          exact ⟨_, _, xs, ys, (a == c), r, rfl, rfl, ⟨_, hu, trivial⟩, run_equalIn_bool' w dd t a c hu, hr, he.symm⟩
theorem run_eqFields2 {P : Program} {w : World} (dd : Nat) : ∀ (fs : List Field) (ks : List EqK) (k : Nat) (pre xs pre' ys : List Value) (b : Bool), flat2 P fs k = some ks → pre.length = k → pre'.length = k → eqKs ks xs ys = some b →
    (Op.eqFields (dd + 2) (pre ++ xs).toArray (pre' ++ ys).toArray fs).run P w = .ok b w
  | [], ks, k, pre, xs, pre', ys, b, hf, _, _, he => by
    simp only [flat2, Option.some.injEq] at hf
    subst hf
    cases xs <;> cases ys <;> simp only [eqKs] at he <;> first | (cases he; rfl) | cases he
  | f :: fs, ks, k, pre, xs, pre', ys, b, hf, hp, hp', he => by
    simp only [flat2] at hf
    split at hf
    · rename_i hn
      cases hk : kindOf P f.type with
      | some q =>
        rw [hk] at hf
        simp only [Option.map_eq_some_iff] at hf
        obtain ⟨l, hl, rfl⟩ := hf
        obtain ⟨u, v, us, vs, c, r, rfl, rfl, hs, hc, hr, rfl⟩ := one_field (w := w) (dd := dd + 1) hk he
        refine eqFields_step hn.1 (run_part_sc hs (by rw [hn.2, ← hp]; simp)) (run_part_sc hs (by rw [hn.2, ← hp']; simp)) hc ?_
        have := run_eqFields2 (P := P) (w := w) dd fs l (k + 1) (pre ++ [u]) us (pre' ++ [v]) vs r hl (by simp [hp]) (by simp [hp']) hr
        simpa using this
      | none =>
        rw [hk] at hf
        simp only at hf
        cases hu : P.underlying f.type with
        | none => rw [hu] at hf; cases hf
        | some td =>
          rw [hu] at hf
          cases td <;> simp only [reduceCtorEq] at hf
          rename_i gs
          split at hf
          · rename_i hst
            cases hfl : flatKs P gs.toList 0 with
            | none => rw [hfl] at hf; simp at hf
            | some l2 =>
              cases hin : P.info? f.type with
              | none => rw [hfl, hin] at hf; simp at hf
              | some i =>
                rw [hfl, hin] at hf
                simp only at hf
                split at hf
                · rename_i hsz
                  simp only [Option.map_eq_some_iff] at hf
                  obtain ⟨l, hl, rfl⟩ := hf
                  obtain ⟨u1, u2, v1, v2, b1, b2, rfl, rfl, hu1, hv1, h1, h2, rfl⟩ := eqKs_app he
                  have hag : AgT P f.type l2.length := ⟨⟨_, hu, trivial⟩, i, hin, hsz⟩
                  have hfo : P.fieldsOf f.type = gs := by unfold Program.fieldsOf; rw [hu]
                  refine eqFields_step (u := .agg u1.toArray) (v := .agg v1.toArray) hn.1 ?_ ?_ ?_ ?_
                  · rw [run_part_ag hag, hn.2, extract_mid pre u1 u2 k l2.length hp hu1]
                  · rw [run_part_ag hag, hn.2, extract_mid pre' v1 v2 k l2.length hp' hv1]
                  · rw [run_equalIn_struct w (dd + 1) f.type _ _ (by rw [hfo]; exact hu) hst, hfo]
                    have := run_eqFields (P := P) (w := w) dd gs.toList l2 0 [] u1 [] v1 b1 hfl rfl rfl h1
                    simpa using this
                  · have := run_eqFields2 (P := P) (w := w) dd fs l (k + l2.length) (pre ++ u1) u2 (pre' ++ v1) v2 b2 hl (by simp [hp, hu1]) (by simp [hp', hv1]) h2
                    simpa [List.append_assoc] using this
                · cases hf
          · cases hf
    · cases hf
variable {C : Cx} {Q : Exit → Act → World → Prop} {E E' : Env} {I I' : HMap} {loc loc' L R : Loc} {ops : Array Oper} {rest : List Oper} {S : GS}
variable {dst : Option Tmp} {d : Nat} {ty : TypeId} {pos : String} {af : Array Edge} {gd : Option (Nat × Bool)} {x y z : Operand}
theorem ev_eqS2 {t t' : TypeId} {ks : List EqK} {us vs : List Value} {b : Bool} (hx : evalS S E x = some (.agg us.toArray)) (hy : evalS S E y = some (.agg vs.toArray)) (hT : EqT2 C.P t ks) (h : eqKs ks us vs = some b) : EvalOp C S E I loc ⟨dst, .binOp .eql t x y t', ty, pos, af, gd⟩ (.bool b) :=
  .of (by intro c e; cases e) fun a w ha hg hc _ => by
    have := run_eqFields2 (P := C.P) (w := w) 9997 _ _ 0 [] us [] vs b hT.2.2.2 rfl rfl h
    simp only [List.nil_append] at this
    simp only [execOp, evalS_sound ha hg hc hx, evalS_sound ha hg hc hy, Sem.run_bind, run_eqGuard_agg w _ _ _ _ _ _ hT.2.2.1, Result.andThen, run_eql_struct, run_equalIn_struct w 9999 t _ _ hT.1 hT.2.1, this, Sem.run_pure]
end Go.Kn
end
section
namespace Go.Kn
open Go
/-- The marks that ranges over functions have left, the last one first; their blocks. -/
def mk (ms : List Nat) : List Deferred := ms.map fun b => { target := .collected b, args := #[] }
def MB : List Nat → Loc
  | [] => []
  | b :: ms => MB ms ++ [(b, .deferred (some []))]
/-- A state whose marks may be more. -/
def MetM (C : Cx) (M : List Nat → Env → HMap → Loc → Prop) : Act → World → Prop := fun a w => ∃ ms E I loc, M ms E I loc ∧ Fits C.N (mk ms) E a ∧ St C.g I C.H loc w
section
variable {P : Program} {r : Option Nat} {N : Nat} {g : World} {H : HMap} {Q : Exit → Act → World → Prop} {E E' : Env} {I I' : HMap} {loc loc' L R : Loc} {ms : List Nat}
theorem X_cutM {x y : Code} (T : Env) (_hT : Sub T E) (M : Env → Loc → List Nat → Env → HMap → Loc → Prop) (h1 : X ⟨P, r, N, mk ms, g, H⟩ (Exit.then (MetM ⟨P, r, N, [], g, H⟩ (M T loc)) Q) x E I loc)
    (h2 : ∀ ms E I loc', M T loc ms E I loc' → X ⟨P, r, N, mk ms, g, H⟩ Q y E I loc') : X ⟨P, r, N, mk ms, g, H⟩ Q (.seq x y) E I loc := fun a w ha hw =>
  wpIn_seq (wpIn_mono (h1 a w ha hw) fun e a' w' hq => by
    cases e with
    | normal => obtain ⟨ms', E', I', loc', hM, hf, hs⟩ := hq; exact h2 ms' E' I' loc' hM _ _ hf hs
    | _ => exact hq)
theorem at_metM {M : List Nat → Env → HMap → Loc → Prop} {C' : Cx} (hN : C'.N = N) (hg : C'.g = g) (hH : C'.H = H) (E' : Env) (loc' : Loc) (hM : M ms E' I loc') (hE : Sub E' E) (hs : SubL loc' loc) : At ⟨P, r, N, mk ms, g, H⟩ (Exit.then (MetM C' M) Q) .normal E I loc :=
  fun _ _ ha hw => ⟨ms, E', I, loc', hM, by rw [hN]; exact ha.sub hE, by rw [hg, hH]; exact hw.dropTo hs⟩
/-- A loop whose rounds may leave marks. -/
theorem X_loopM {c : Code} (T : Env) (_hT : Sub T E) (J : Env → Loc → Nat → List Nat → Env → HMap → Loc → Prop) (m0 : Nat) (E0 : Env) (I0 : HMap) (loc0 : Loc) (h0 : J T loc m0 ms E0 I0 loc0) (hE : Sub E0 E) (hI : HLe I0 I) (hl : loc0 = loc)
    (round : ∀ m ms E I loc', J T loc m ms E I loc' → X ⟨P, r, N, mk ms, g, H⟩ (Exit.then (MetM ⟨P, r, N, [], g, H⟩ fun ms E I loc' => ∃ m', m' < m ∧ J T loc m' ms E I loc') Q) c E I loc') : X ⟨P, r, N, mk ms, g, H⟩ Q (.loop c) E I loc := by
  classical
  intro a w ha hw
  let R : Nat → Act → World → Prop := fun m a w => ∃ ms E I loc', J T loc m ms E I loc' ∧ Fits N (mk ms) E a ∧ St g I H loc' w
  have least : ∀ a w, (∃ m, R m a w) → ∃ m, R m a w ∧ ∀ m', R m' a w → m ≤ m' := fun a w ⟨m, h⟩ => by
    induction m using Nat.strongRecOn with
    | _ m ih =>
      by_cases h' : ∃ m', m' < m ∧ R m' a w
      · obtain ⟨m', hlt, hm⟩ := h'; exact ih m' hlt hm
      · exact ⟨m, h, fun m' hm => Nat.le_of_not_lt fun hlt => h' ⟨m', hlt, hm⟩⟩
  let μ : Act → World → Nat := fun a w => if h : ∃ m, R m a w then Classical.choose (least a w h) else 0
  have hμ : ∀ a w, (∃ m, R m a w) → R (μ a w) a w := fun a w h => by simp only [μ, dif_pos h]; exact (Classical.choose_spec (least a w h)).1
  have hle : ∀ m a w, R m a w → μ a w ≤ m := fun m a w h => by
    have h' : ∃ m, R m a w := ⟨m, h⟩
    simp only [μ, dif_pos h']; exact (Classical.choose_spec (least a w h')).2 m h
  refine wpIn_loop (fun a w => ∃ m, R m a w) μ ⟨m0, ms, E0, I0, loc0, h0, ha.sub hE, hl ▸ hw.mono hI⟩ fun a w h => ?_
  obtain ⟨ms1, E1, I1, loc1, hJ, hf, hs⟩ := hμ a w h
  refine wpIn_mono (round _ _ _ _ _ hJ a w hf hs) fun e a' w' hq => ?_
  cases e with
  | normal =>
    obtain ⟨ms2, E2, I2, loc2, ⟨m', hlt, hJ'⟩, hf', hs'⟩ := hq
    exact ⟨⟨m', ms2, E2, I2, loc2, hJ', hf', hs'⟩, Nat.lt_of_le_of_lt (hle m' a' w' ⟨ms2, E2, I2, loc2, hJ', hf', hs'⟩) hlt⟩
  | _ => exact hq
/-- 'for x := range f { .. }' where marks lie already. -/
theorem X_rangeFuncM {α : Type} {gop : Operand} {p : Nat} {assign body : Code} {f : FuncId} {cap : List Value} {K : Loc} {enc : α → Value} {xs : List α}
    (Jc : List α → HMap → Loc → Prop) (Jx : Code → List α → HMap → Loc → Prop) (Ja : List α → α → Env → HMap → Loc → Prop)
    (hg : evalS [] E gop = some (.func (.func f) #[] cap.toArray)) (hF : Fun P f) (hseq : SeqL P f cap I K enc xs) (hp : Nat.blt p N = true) (h0 : Jc [] I L)
    (hass : ∀ l pre x I' loc' H1, pre ++ [x] <+: xs → HLe I I' → Jc pre I' loc' → X ⟨P, some l, N, [], g, H1⟩ (Exit.then (Met ⟨P, some l, N, [], g, H1⟩ fun E2 I2 loc2 => HLe I' I2 ∧ Ja pre x E2 I2 loc2) (fun _ _ _ => False)) assign ((p, enc x) :: E) I' loc')
    (hbody : ∀ l pre x E2 I2 loc2 H2, pre ++ [x] <+: xs → HLe I I2 → Ja pre x E2 I2 loc2 → X ⟨P, some l, N, [], g, H2⟩ (RoundQ g H2 (fun q I3 loc3 => HLe I2 I3 ∧ Jc q I3 loc3) (fun c q I3 loc3 => HLe I2 I3 ∧ Jx c q I3 loc3) (pre ++ [x])) body E2 I2 loc2)
    (hdone : ∀ bd I' loc', HLe I I' → Jc xs I' loc' → At ⟨P, none, N, mk (bd :: ms), g, H⟩ Q .normal E I' (loc' ++ MB (bd :: ms)))
    (hstop : ∀ c bd pre I' loc', HLe I I' → pre <+: xs → Jx c pre I' loc' → X ⟨P, none, N, mk (bd :: ms), g, H⟩ Q c E I' (loc' ++ MB (bd :: ms))) :
    X ⟨P, none, N, mk ms, g, H⟩ Q (.rangeFunc gop #[p] assign body) E I (K ++ (L ++ MB ms)) := by
  intro a w ha hw
  have back : ∀ {I' : HMap} {loc' : Loc} {bd : Nat} {w' : World}, St g I' (addL H (MB ms)) (loc' ++ [(bd, .deferred (some []))]) w' → St g I' H (loc' ++ MB (bd :: ms)) w' := fun {I' loc' bd w'} h => by
    have h1 := St.unhide ((hw.rest split_app).rest split_app) h
    refine h1.perm (fun p => ?_) ?_
    · simp only [MB, List.mem_append]
      constructor
      · rintro (h | h | h)
        · exact .inl (.inl h)
        · exact .inr h
        · exact .inl (.inr h)
      · rintro ((h | h) | h)
        · exact .inl h
        · exact .inr (.inr h)
        · exact .inr (.inl h)
    · have hn := h1.nodup
      have hpm : (loc' ++ MB (bd :: ms)).Perm (loc' ++ [(bd, .deferred (some []))] ++ MB ms) := by
        rw [List.append_assoc]
        exact (List.Perm.refl loc').append List.perm_append_comm
      exact (hpm.map (·.1)).nodup_iff.2 hn
  refine X_rangeFuncD (K := K) (P := P) (N := N) (D := mk ms) (g := g) (H := addL H (MB ms)) (Q := Q) Jc Jx Ja hg hF hseq hp h0 hass hbody ?_ ?_ a w ha (show St g I (addL H (MB ms)) (K ++ L) w from (show St g I H ((K ++ L) ++ MB ms) w by rw [List.append_assoc]; exact hw).hideR)
  · intro bd I' loc' hI hJ a' w' ha' hw'
    exact hdone bd I' loc' hI hJ a' w' ha' (back hw')
  · intro c bd pre I' loc' hI hpre hJ a' w' ha' hw'
    exact hstop c bd pre I' loc' hI hpre hJ a' w' ha' (back hw')
/-- The end, with as many marks as there are. -/
theorem leaves_marks {fn : Func} {R : Ending → World → Prop} {tmps : Array Value} {v : Value} : ∀ (ms : List Nat) {L : Loc} {w : World}, St g I H (L ++ MB ms) w → (∀ w, St g I H L w → (results fn tmps).run P w = .ok v w ∧ R (.returned v) w) →
    LeavesInM Fence.wide 0 P fn tmps R (mk ms) .returning w
  | [], L, w, hw, h => by
    have hw : St g I H L w := by simpa [MB] using hw
    exact ⟨v, h w hw⟩
  | b :: ms, L, w, hw, h => by
    have hu : Upd (L ++ MB (b :: ms)) b (.deferred (some [])) (.deferred none) (L ++ (MB ms ++ [(b, .deferred none)])) := upd_app (upd_app .here)
    have hb := hw.own _ _ hu.mem
    have hs := hw.putObj hu
    refine ⟨by simp, .inl ⟨b, _, rfl, run_takeDeferred hb, ?_⟩⟩
    exact leaves_marks ms (L := L) (hs.subL (subL_app subL_left)) h
theorem at_retMs {fn : Func} {R : Ending → World → Prop} {v : Value} (hv : ∀ a, Fits N (mk ms) E a → ∀ w, St g I H L w → (results fn a.tmps).run P w = .ok v w) (h : ∀ w, St g I H L w → R (.returned v) w) :
    At ⟨P, r, N, mk ms, g, H⟩ (bodyPostM Fence.wide 0 P fn R) .ret E I (L ++ MB ms) := fun a w ha hw => by
  show LeavesInM _ _ _ _ _ _ _ _ _
  rw [ha.defers]
  exact leaves_marks ms hw fun w' hw' => ⟨hv a ha w' hw', h w' hw'⟩
/-- A function's entry, marks to come. -/
theorem enterMs {f : FuncId} {fn : Func} {c : Code} {args : List Value} {R : Ending → World → Prop} {w : World} (hf : P.funcs[f]? = some fn) (hb : fn.body = some c) {N : Nat} (hN : fn.ntmps = N)
    (hlen : Nat.ble args.length N = true) (hw : St g I H loc w) (h : X ⟨P, none, N, mk [], g, H⟩ (bodyPostM Fence.wide 0 P fn R) c (env0 0 args) I (loc ++ MB [])) : Calls P f args.toArray w R :=
  enterM hf hb hN hlen hw (by simpa [MB, mk] using h)
end
end Go.Kn
end
section
namespace Go.Kn
open Go
section
variable {g : World} {I I' H : HMap} {loc loc' L R : Loc} {w w' : World}
/-- Own blocks are looked at as read only. -/
theorem St.lend (h : St g I H L w) : ∃ I', HLe I I' ∧ (∀ b o, (b, o) ∈ L → I' b = some o) ∧ St g I' H [] w := by
  obtain ⟨I', h1, h2, h3⟩ := h.freezeAll
  exact ⟨I', h1, h3, h2⟩
theorem St.unlend (h : St g I H L w) (h' : St g I' H [] w') (hI : HLe I I') (hL : ∀ b o, (b, o) ∈ L → I' b = some o) : St g I H L w' where
  os := h'.os
  tape := h'.tape
  out := h'.out
  size := h'.size
  imm := fun b o hb => h'.imm b o (hI b o hb)
  frm := h'.frm
  own := fun b o hb => h'.imm b o (hL b o hb)
  sepIH := h.sepIH
  sepIL := h.sepIL
  nodup := h.nodup
theorem RetK.ofV {P : Program} {f : FuncId} {args : List Value} {v : Value} (h : ∀ I', HLe I I' → (∀ b o, (b, o) ∈ L → I' b = some o) → RetV P f args I' v) : RetK P f args I L v := by
  intro g H w hw
  obtain ⟨I', h1, h2, h3⟩ := hw.lend
  refine (h I' h1 h2 g H w h3).mono ?_
  rintro e w' ⟨rfl, hs⟩
  exact ⟨rfl, hw.unlend hs h1 h2⟩
end
variable {C : Cx} {Q : Exit → Act → World → Prop} {E E' : Env} {I I' : HMap} {loc loc' L R : Loc} {ops : Array Oper} {rest : List Oper} {S : GS}
variable {dst : Option Tmp} {d : Nat} {ty : TypeId} {pos : String} {af : Array Edge} {gd : Option (Nat × Bool)} {x y z : Operand}
section maps
variable {α β : Type} [DecidableEq α] {ek : α → Value} {ev : β → Value} {m : List (α × β)} {a : α}
end maps
/-- 'make([]T, n)', T of one cell. -/
theorem made_one {zv : Value} (h1 : zv.cells = #[zv]) (n : Nat) : madeCells zv.cells n = (List.replicate n zv).toArray := by
  rw [h1]
  apply Array.ext'
  have : ∀ x : Nat, [zv][x % 1]?.getD default = zv := fun x => by rw [Nat.mod_one]; rfl
  simp [madeCells, this, List.map_const']
/-- What the tables say of a slice that is made: its elements' type, of one cell, their zero and bytes. -/
def MkT (P : Program) (t e bytes : Nat) (zv : Value) : Prop := P.underlying t = some (.slice e) ∧ (P.info? e).map (fun i => (i.zero, i.size, i.bytes)) = some (some zv, 1, bytes) ∧ zv.cells = #[zv]
theorem XO_makeSlice {t e bytes : Nat} {zv : Value} {n : Int} (hT : MkT C.P t e bytes zv) (hx : evalS [] E x = some (.int .i64 n)) (hy : evalS [] E y = some (.int .i64 n)) (hn : 0 ≤ n ∧ n ≤ 1000000) (hb : bytes ≤ 1000)
    (hG : gd = none) (hN : Nat.blt d C.N = true) (h : ∀ b, XO C Q ops rest [] ((d, .slice (some ⟨b, 0, none⟩) n.toNat n.toNat) :: E) I ((b, .cells (List.replicate n.toNat zv).toArray e (0, 0)) :: loc)) :
    XO C Q ops (⟨some d, .makeSlice t x y, ty, pos, af, gd⟩ :: rest) [] E I loc :=
  XO_world hG (by intro c e; cases e) fun a w ha hw => by
    obtain ⟨hu, hi, h1⟩ := hT
    rw [Option.map_eq_some_iff] at hi
    obtain ⟨i, hi, he⟩ := hi
    simp only [Prod.mk.injEq] at he
    obtain ⟨hz, hs, hbt⟩ := he
    have hr := run_makeSlice (P := C.P) (w := w) t e i zv hu hi hz .i64 .i64 n n hn.1 (by omega) (by rw [hs]; omega) (by rw [hbt]; exact Int.le_trans (Int.mul_le_mul (by omega : (bytes : Int) ≤ 1000) hn.2 hn.1 (by omega)) (by decide)) (by omega)
    rw [hs, Nat.mul_one, made_one h1] at hr
    simp only [execOp, evalS_sound (S := []) ha trivial rfl hx, evalS_sound (S := []) ha trivial rfl hy, Sem.run_bind, hr, Result.andThen, Sem.run_pure, Oper.uponIn_value]
    exact h _ _ _ (ha.put hN _) trivial (hw.alloc _)
/-! ### Arrays -/
def fillS (size : Nat) : List Value → List (Nat × Value) → Option (List Value)
  | cells, [] => some cells
  | cells, (i, v) :: rest => bif Nat.beq (cellsL v).length size && Nat.ble (i * size + (cellsL v).length) cells.length then fillS size (spliceL cells (i * size) (cellsL v)) rest else none
theorem fillS_eq (size : Nat) : ∀ (ps : List (Nat × Value)) (cells out : List Value), fillS size cells ps = some out → Instr.fill (fun i => some (i * size, size)) cells.toArray ps = some out.toArray
  | [], cells, out, h => by
    simp only [fillS, Option.some.injEq] at h
    subst h; rfl
  | (i, v) :: ps, cells, out, h => by
    simp only [fillS] at h
    cases hb : (Nat.beq (cellsL v).length size && Nat.ble (i * size + (cellsL v).length) cells.length) with
    | false => rw [hb] at h; cases h
    | true =>
      rw [hb] at h
      simp only [Bool.and_eq_true] at hb
      have h1 := Nat.eq_of_beq_eq_true hb.1
      have h2 := Nat.le_of_ble_eq_true hb.2
      have e : cells = cells.take (i * size) ++ (cells.drop (i * size)).take size ++ cells.drop (i * size + size) := by
        rw [List.append_assoc]
        have : (cells.drop (i * size)).take size ++ cells.drop (i * size + size) = cells.drop (i * size) := by rw [← List.drop_drop]; exact List.take_append_drop _ _
        rw [this, List.take_append_drop]
      have hl1 : (cells.take (i * size)).length = i * size := by rw [List.length_take]; omega
      have hl2 : ((cells.drop (i * size)).take size).length = size := by rw [List.length_take, List.length_drop]; omega
      have hsp : spliceL cells (i * size) (cellsL v) = cells.take (i * size) ++ cellsL v ++ cells.drop (i * size + size) := by
        have := spliceL_app (cells.take (i * size)) ((cells.drop (i * size)).take size) (cellsL v) (cells.drop (i * size + size)) (by rw [hl2]; exact h1.symm)
        rw [← e, hl1] at this
        exact this
      have hfo := fill_one (place := fun i => some (i * size, size)) (i := i) (off := i * size) (size := size) (v := v) (vs := cellsL v) (pre := cells.take (i * size)) (old := (cells.drop (i * size)).take size) (tail := cells.drop (i * size + size)) (l := ps) rfl (cellsL_eq v) h1 hl1 hl2
      rw [← e] at hfo
      rw [hfo, ← hsp]
      exact fillS_eq size ps _ out h
theorem ev_buildArr {t n e size : Nat} {zl : List Value} {parts : Array (Nat × Operand)} {ps : List (Nat × Value)} (cells : List Value) (hA : ArT C.P t n e size) (hz : ZeroT C.P t (.agg zl.toArray)) (hp : parts.toList.map (fun p => (evalS S E p.2).map fun v => (p.1, v)) = ps.map some) (hf : fillS size zl ps = some cells) :
    EvalOp C S E I loc ⟨dst, .build t parts, ty, pos, af, gd⟩ (.agg cells.toArray) :=
  .of (by intro c e; cases e) fun a w ha hg hc hw => by
    obtain ⟨hu, i, hi, hs⟩ := hA
    have key : ∀ (l : List (Nat × Operand)) (ps : List (Nat × Value)), l.map (fun p => (evalS S E p.2).map fun v => (p.1, v)) = ps.map some → l.map (fun p => (p.1, a.eval p.2)) = ps := by
      intro l
      induction l with
      | nil => intro ps h; cases ps <;> simp_all
      | cons p l ih =>
        intro ps h
        cases ps with
        | nil => simp at h
        | cons q ps =>
          simp only [List.map_cons, List.cons.injEq] at h ⊢
          refine ⟨?_, ih _ h.2⟩
          cases e1 : evalS S E p.2 with
          | none => rw [e1] at h; simp at h
          | some v =>
            rw [e1] at h
            rw [evalS_sound ha hg hc e1]
            simpa using h.1
    have hps : (parts.map fun (i, x) => (i, a.eval x)).toList = ps := by
      rw [← key _ _ hp]; simp
    have hfe := fillS_eq size ps zl cells hf
    have hzc : (Value.agg zl.toArray).cells = zl.toArray := rfl
    simp only [execOp, Instr.build, Sem.run_bind, run_zeroValue hz, Result.andThen, run_underlying hu, run_sizeOf hi, hs, hps, hzc, hfe, Sem.run_pure]
theorem run_equalIn_mapNil {P : Program} {w : World} {t k e d : Nat} {m : Option Nat} (hT : P.underlying t = some (.map k e)) : (Op.equalIn (d + 1) t (.map m) (.map none)).run P w = .ok m.isNone w := by
  simp only [Op.equalIn, Sem.run_bind, run_underlying hT, Result.andThen]
  cases m <;> rfl
/-- 'm == nil' of a map. -/
theorem ev_mapNil {t t' k e : Nat} {m : Option Nat} (hx : evalS S E x = some (.map m)) (hy : evalS S E y = some (.map none)) (hT : C.P.underlying t = some (.map k e)) : EvalOp C S E I loc ⟨dst, .binOp .eql t x y t', ty, pos, af, gd⟩ (.bool m.isNone) :=
  .of (by intro c e; cases e) fun a w ha hg hc _ => by
    have e1 : (eqGuard .eql t x y (.map m) (.map none)).run C.P w = .ok () w := by unfold eqGuard; rfl
    have e2 : (Op.equalIn 10000 t (.map m) (.map none)).run C.P w = .ok m.isNone w := run_equalIn_mapNil (d := 9999) hT
    simp only [execOp, evalS_sound ha hg hc hx, evalS_sound ha hg hc hy, Sem.run_bind, e1, Sem.run_pure, Result.andThen, binOp, Op.equal, Op.maxDepth, e2]
/-- A look-up in a map that is nil. -/
theorem ev_lookupNil {α : Type} [DecidableEq α] {ek : α → Value} {a : α} {t k e : Nat} {zv : Value} (hT : MpT C.P t k e zv) (hK : KeyOK C.P k ek) (hx : evalS S E x = some (.map none)) (hy : evalS S E y = some (ek a)) :
    EvalOp C S E I loc ⟨dst, .lookup t x y false, ty, pos, af, gd⟩ zv :=
  .of (by intro c e; cases e) fun st w ha hg hc _ => by
    have hf := hK.find (fun b : Bool => .bool b) [] a w
    simp only [entriesO, midx, Option.map_none] at hf
    simp only [execOp, evalS_sound ha hg hc hx, evalS_sound ha hg hc hy, Instr.lookup, Sem.run_bind, run_underlying hT.1, Result.andThen, Sem.run_pure, hK.chk]
    simp only [hf, Sem.run_bind, run_zeroValue hT.2, Result.andThen, Sem.run_pure]
    rfl
end Go.Kn
end
section
namespace Go.Kn
open Go Go.Sort
section
variable {g : World} {I I' H : HMap} {loc loc' L R : Loc} {w w' : World}
theorem St.grown (h : St g I H loc w) (os : Array Obj) : St g I H loc (grow w os) := by
  have key : ∀ (b : Nat) (o : Obj), w.heap[b]? = some o → (grow w os).heap[b]? = some o := fun b o e => by
    have hb : b < w.heap.size := (Array.getElem?_eq_some_iff.1 e).1
    simp only [grow]
    rw [Array.getElem?_append_left hb]; exact e
  exact ⟨h.os, h.tape, h.out, ⟨Nat.le_trans h.size.1 (by simp [grow]), h.size.2⟩, fun b o e => key b o (h.imm b o e), fun b o e => key b o (h.frm b o e), fun b o e => key b o (h.own b o e), h.sepIH, h.sepIL, h.nodup⟩
theorem St.aheadN (h : St g I H loc w) (n : Nat) : St g I H loc (Go.Sort.ahead w n) := ⟨h.os, h.tape, h.out, ⟨h.size.1, Nat.le_trans h.size.2 (by simp [Go.Sort.ahead])⟩, h.imm, h.frm, h.own, h.sepIH, h.sepIL, h.nodup⟩
theorem St.rowPut {α : Type} [Inhabited α] {enc : α → Value} {b : Nat} {cs : Array Value} {e : TypeId} {fz : Nat × Nat} (h : St g I H loc w) (d : Array α) (hu : Upd loc b (.cells cs e fz) (.cells (putCells enc 0 d cs) e fz) loc') : St g I H loc' (putRow enc w b 0 d) := by
  have hb := h.own _ _ hu.mem
  refine h.turn hu rfl rfl rfl (by simp) ?_ ?_
  · simp only [putRow, mapBlock, Array.getElem?_modify, if_pos rfl, hb, Option.map_some]; rfl
  · intro c hc
    simp only [putRow, mapBlock, Array.getElem?_modify, if_neg (Ne.symm hc)]
theorem take_put {α : Type} [Inhabited α] {enc : α → Value} {cs : Array Value} {n : Nat} (xs : List α) (hl : xs.length = n) (hc : n ≤ cs.size) : (putCells enc 0 xs.toArray cs).toList.take n = xs.map enc := by
  apply List.ext_getElem?
  intro i
  by_cases hi : i < n
  · rw [List.getElem?_take_of_lt hi, List.getElem?_map]
    have h1 : i < cs.size := by omega
    have h2 : i < xs.length := by omega
    have h3 : (putCells enc 0 xs.toArray cs)[i]? = some (enc xs[i]) := by
      simp only [putCells, Array.getElem?_mapIdx, Array.getElem?_eq_getElem h1, Option.map_some]
      have : (0 ≤ i ∧ i < 0 + xs.toArray.size) := by simp; omega
      rw [if_pos this]
      congr 2
      simp [h2]
    rw [Array.getElem?_toList, h3, List.getElem?_eq_getElem h2]; rfl
  · rw [List.getElem?_eq_none (by rw [List.length_take]; omega), List.getElem?_eq_none (by rw [List.length_map]; omega)]
theorem holds_own {α : Type} [Inhabited α] {enc : α → Value} {b : Nat} {cs : Array Value} {e : TypeId} (h : St g I H loc w) (hm : (b, Obj.cells cs e (0, 0)) ∈ loc) (xs : List α) (hl : cs.toList.take xs.length = xs.map enc) : Holds enc w b 0 xs.toArray := by
  have hb := h.own _ _ hm
  intro j hj
  have hj' : j < xs.length := by simpa using hj
  refine ⟨?_, ?_⟩
  · simp only [World.cell?, hb, Option.isSome_none, Bool.false_eq_true, if_false]
    have : (cs.toList.take xs.length)[j]? = some (enc xs[j]) := by rw [hl, List.getElem?_map, List.getElem?_eq_getElem hj']; rfl
    rw [List.getElem?_take_of_lt hj', Array.getElem?_toList] at this
    rw [show 0 + j = j from by omega, this]
    congr 2
    simp [hj']
  · simp only [World.frozen?, hb]; simp
/-- slices.Sort at one's own slice of ints, out of its contract. -/
theorem retSort {P : Program} {f : FuncId} {e : TypeId}
    (hs : ∀ (blk off cap : Nat) (zs : List Int) (w : World), Holds (Value.int .i64) w blk off zs.toArray → blk < w.heap.size → zs.length < 4611686018427387904 → Calls P f #[.slice (some ⟨blk, off, none⟩) zs.length cap] w fun e w' => e = .returned (.tuple #[]) ∧ ∃ n os, w' = grow (putRow (Value.int .i64) (Go.Sort.ahead w n) blk off (zs.mergeSort fun x y => decide (x ≤ y)).toArray) os)
    (h0 : ∀ (p : Option Addr) (cap : Nat) (w : World), Calls P f #[.slice p 0 cap] w fun e w' => e = .returned (.tuple #[]) ∧ w' = w)
    (zs : List Int) {v : Value} {n : Nat} {L : Loc} (hO : OwnS e 1 v n (zs.map (Value.int .i64)) L) (hn : n ≤ 1000000) (I : HMap) :
    RetM P f [v] I L (fun u I' L' => u = .tuple #[] ∧ I' = I ∧ OwnS e 1 v n ((zs.mergeSort fun x y => decide (x ≤ y)).map (Value.int .i64)) L') := by
  intro g H w hw
  have hl : zs.length = n := by have := hO.1; simpa using this
  subst hl
  rcases hO.2 with ⟨rfl, h00, rfl⟩ | ⟨b, c, cur, rfl, rfl, hc, hc2, hsz, htk⟩
  · have : zs = [] := List.length_eq_zero_iff.1 h00
    subst this
    refine (h0 none 0 w).mono ?_
    rintro e w' ⟨rfl, rfl⟩
    refine ⟨_, I, [], rfl, HLe.refl _, hw, rfl, rfl, by simp [List.mergeSort], .inl ⟨rfl, rfl, rfl⟩⟩
  · rw [Nat.mul_one] at hsz htk
    have hb := hw.own b _ (List.mem_singleton.2 rfl)
    refine (hs b 0 c zs w (holds_own hw (List.mem_singleton.2 rfl) zs htk) (Array.getElem?_eq_some_iff.1 hb).1 (by omega)).mono ?_
    rintro e w' ⟨rfl, k, os, rfl⟩
    refine ⟨_, I, _, rfl, HLe.refl _, (((hw.aheadN k).rowPut _ .here).grown os), rfl, rfl, by simp [List.length_mergeSort], .inr ⟨b, c, _, rfl, rfl, hc, hc2, by simp [putCells, hsz], ?_⟩⟩
    rw [Nat.mul_one]
    exact take_put _ (by simp [List.length_mergeSort]) (by omega)
theorem retCompact {P : Program} {f : FuncId} {e : TypeId} (co : List Int → List Int) (hco : ∀ zs, (co zs).length ≤ zs.length) (hcn : co [] = [])
    (hs : ∀ (blk off cap : Nat) (zs : List Int) (w : World), Holds (Value.int .i64) w blk off zs.toArray → zs.length ≤ 9223372036854775807 → zs.length ≤ cap → Calls P f #[.slice (some ⟨blk, off, none⟩) zs.length cap] w fun e w' => e = .returned (.slice (some ⟨blk, off, none⟩) (co zs).length cap) ∧ ∃ q, w' = putRow (Value.int .i64) (Go.Sort.ahead w q) blk off (co zs ++ List.replicate (zs.length - (co zs).length) 0).toArray)
    (h0 : ∀ (p : Option Addr) (cap : Nat) (w : World), Calls P f #[.slice p 0 cap] w fun e w' => e = .returned (.slice p 0 cap) ∧ w' = w)
    (zs : List Int) {v : Value} {n : Nat} {L : Loc} (hO : OwnS e 1 v n (zs.map (Value.int .i64)) L) (hn : n ≤ 1000000) (I : HMap) :
    RetM P f [v] I L (fun u I' L' => I' = I ∧ OwnS e 1 u (co zs).length ((co zs).map (Value.int .i64)) L') := by
  intro g H w hw
  have hl : zs.length = n := by have := hO.1; simpa using this
  subst hl
  have hle := hco zs
  rcases hO.2 with ⟨rfl, h00, rfl⟩ | ⟨b, c, cur, rfl, rfl, hc, hc2, hsz, htk⟩
  · have : zs = [] := List.length_eq_zero_iff.1 h00
    subst this
    refine (h0 none 0 w).mono ?_
    rintro e w' ⟨rfl, rfl⟩
    refine ⟨_, I, [], rfl, HLe.refl _, hw, rfl, by simp [hcn], .inl ⟨rfl, by simp [hcn], rfl⟩⟩
  · rw [Nat.mul_one] at hsz htk
    refine (hs b 0 c zs w (holds_own hw (List.mem_singleton.2 rfl) zs htk) (by omega) hc).mono ?_
    rintro e w' ⟨rfl, k, rfl⟩
    refine ⟨_, I, _, rfl, HLe.refl _, (hw.aheadN k).rowPut _ .here, rfl, by simp, .inr ⟨b, c, _, rfl, rfl, by omega, hc2, by simp [putCells, hsz], ?_⟩⟩
    rw [Nat.mul_one]
    have h1 := take_put (enc := Value.int .i64) (cs := cur) (n := zs.length) (co zs ++ List.replicate (zs.length - (co zs).length) 0) (by simp; omega) (by omega)
    have h2 := congrArg (List.take (co zs).length) h1
    rw [List.take_take, Nat.min_eq_left hle] at h2
    rw [h2]; simp
end
end Go.Kn
end
section
namespace Go.Kn
open Go
section
variable {g : World} {I I' H : HMap} {loc loc' L R : Loc} {w w' : World}
/-- What was made by append, where its block can be read. -/
theorem OwnS.sl {α : Type} {e size : Nat} {enc : α → List Value} {v : Value} {n : Nat} {xs : List α} (hO : OwnS e size v n (xs.flatMap enc) L) (hs : ∀ x, (enc x).length = size) (hsz : 0 < size) (hI : ∀ b o, (b, o) ∈ L → I b = some o) : ∃ av c, v = .slice av n c ∧ Sl I size enc av n c xs := by
  have hn : xs.length = n := by
    have := hO.1
    rw [flat_len hs] at this
    exact Nat.eq_of_mul_eq_mul_right hsz this
  rcases hO.2 with ⟨rfl, rfl, rfl⟩ | ⟨b, c, cur, rfl, rfl, hc, _, hcs, htake⟩
  · have : xs = [] := List.length_eq_zero_iff.1 hn
    subst this
    exact ⟨none, 0, rfl, .nil⟩
  · have h3 := hI b _ (List.mem_cons_self ..)
    refine ⟨_, _, rfl, hn, hc, fun _ => rfl, fun k x hx j u hu => .imm h3 ?_⟩
    rw [lget_eq]
    simp only [Ao, Nat.zero_add]
    have hq := flat_at hs xs k x hx j u hu
    rw [← htake, List.getElem?_take] at hq
    split at hq
    · simpa using hq
    · cases hq
/-- Slices of one's own, one after the other. -/
def OwnAll (e size : Nat) : List (Value × Nat × List Value) → Loc → Prop
  | [], L => L = []
  | t :: ts, L => ∃ L1 L2, L = L1 ++ L2 ∧ OwnS e size t.1 t.2.1 t.2.2 L1 ∧ OwnAll e size ts L2
def nilT : Value × Nat × List Value := (.slice none 0 0, 0, [])
theorem OwnAll.nil {e size : Nat} : OwnAll e size [] [] := rfl
/-- One of them, and what it is to turn it. -/
theorem OwnAll.at {α : Type} [DecidableEq α] {e size : Nat} (a : α) : ∀ {m : List (α × (Value × Nat × List Value))} {L : Loc}, OwnAll e size (m.map (·.2)) L →
    ∃ A Lt B, L = A ++ (Lt ++ B) ∧ OwnS e size ((mget m a).getD nilT).1 ((mget m a).getD nilT).2.1 ((mget m a).getD nilT).2.2 Lt ∧ ∀ t' Lt', OwnS e size t'.1 t'.2.1 t'.2.2 Lt' → OwnAll e size ((mset m a t').map (·.2)) (A ++ (Lt' ++ B))
  | [], L, h => by
    have h : L = [] := h
    subst h
    exact ⟨[], [], [], rfl, .nil, fun t' Lt' h' => ⟨Lt', [], by simp, h', rfl⟩⟩
  | p :: m, L, ⟨L1, L2, e1, h1, h2⟩ => by
    by_cases hp : p.1 = a
    · refine ⟨[], L1, L2, by rw [e1]; rfl, by simp only [mget, if_pos hp]; exact h1, fun t' Lt' h' => ?_⟩
      simp only [mset, if_pos hp, List.map_cons]
      exact ⟨Lt', L2, rfl, h', h2⟩
    · obtain ⟨A, Lt, B, e2, h3, h4⟩ := OwnAll.at a h2
      refine ⟨L1 ++ A, Lt, B, by rw [e1, e2, List.append_assoc], by simp only [mget, if_neg hp]; exact h3, fun t' Lt' h' => ?_⟩
      simp only [mset, if_neg hp, List.map_cons]
      exact ⟨L1, A ++ (Lt' ++ B), by rw [List.append_assoc], h1, h4 t' Lt' h'⟩
end
variable {C : Cx} {Q : Exit → Act → World → Prop} {E : Env} {I : HMap} {loc : Loc}
/-- All own blocks are read from now on. -/
theorem X_freezeAll {c : Code} (h : ∀ I', HLe I I' → (∀ b o, (b, o) ∈ loc → I' b = some o) → X C Q c E I' []) : X C Q c E I loc := fun a w ha hw => by
  obtain ⟨I', h1, h2, h3⟩ := hw.freezeAll
  exact h I' h1 h3 a w ha h2
/-- Some of the own blocks are read from now on. -/
theorem X_freezeL {c : Code} {L R : Loc} (hsp : Split loc L R) (h : ∀ I', HLe I I' → (∀ b o, (b, o) ∈ L → I' b = some o) → X C Q c E I' R) : X C Q c E I loc := fun a w ha hw => by
  have h0 := hw.unsplit hsp
  have h1 := h0.hideR
  obtain ⟨I', h2, h3, h4⟩ := h1.freezeAll
  have h5 : St C.g I' C.H R w := St.unhide (h0.rest split_app) h3
  exact h I' h2 h4 a w ha h5
theorem mget_mset {α β : Type} [DecidableEq α] : ∀ (m : List (α × β)) (a x : α) (b : β), mget (mset m a b) x = if a = x then some b else mget m x
  | [], a, x, b => by simp [mset, mget]
  | p :: m, a, x, b => by
    unfold mset
    by_cases h : p.1 = a
    · rw [if_pos h]
      simp only [mget]
      by_cases h2 : a = x
      · rw [if_pos h2, if_pos h2]
      · rw [if_neg h2, if_neg h2, if_neg (by rw [h]; exact h2)]
    · rw [if_neg h]
      simp only [mget]
      rw [mget_mset m a x b]
      by_cases h2 : p.1 = x
      · rw [if_pos h2, if_pos h2, if_neg (fun e => h (by rw [h2, e]))]
      · rw [if_neg h2, if_neg h2]
theorem mget_mem {α β : Type} [DecidableEq α] : ∀ {m : List (α × β)} {a : α} {b : β}, mget m a = some b → (a, b) ∈ m
  | [], _, _, h => by cases h
  | p :: m, a, b, h => by
    unfold mget at h
    split at h
    · rename_i e
      cases h
      rw [← e]; exact List.mem_cons_self ..
    · exact List.mem_cons_of_mem _ (mget_mem h)
theorem mget_none {α β : Type} [DecidableEq α] : ∀ {m : List (α × β)} {a : α}, mget m a = none ↔ a ∉ m.map (·.1)
  | [], a => by simp [mget]
  | p :: m, a => by
    unfold mget
    by_cases h : p.1 = a
    · simp [h]
    · rw [if_neg h, mget_none, List.map_cons, List.mem_cons, not_or]
      exact ⟨fun h2 => ⟨fun e => h e.symm, h2⟩, fun h2 => h2.2⟩
theorem mset_keys {α β : Type} [DecidableEq α] : ∀ (m : List (α × β)) (a : α) (b : β), (mset m a b).map (·.1) = if a ∈ m.map (·.1) then m.map (·.1) else m.map (·.1) ++ [a]
  | [], a, b => by simp [mset]
  | p :: m, a, b => by
    unfold mset
    by_cases h : p.1 = a
    · simp [h]
    · rw [if_neg h, List.map_cons, mset_keys m a b]
      by_cases h2 : a ∈ m.map (·.1)
      · rw [if_pos h2, if_pos (by simp only [List.map_cons]; exact List.mem_cons_of_mem _ h2)]; rfl
      · rw [if_neg h2, if_neg (by simp only [List.map_cons, List.mem_cons, not_or]; exact ⟨fun e => h e.symm, h2⟩)]; rfl
theorem mset_nodup {α β : Type} [DecidableEq α] {m : List (α × β)} (a : α) (b : β) (h : (m.map (·.1)).Nodup) : ((mset m a b).map (·.1)).Nodup := by
  rw [mset_keys]
  split
  · exact h
  · rename_i h2
    rw [List.nodup_append]
    exact ⟨h, by simp, fun x hx y hy e => by simp at hy; subst hy; subst e; exact h2 hx⟩
theorem mget_at {α β : Type} [DecidableEq α] {m : List (α × β)} (h : (m.map (·.1)).Nodup) {p : α × β} (hp : p ∈ m) : mget m p.1 = some p.2 := by
  induction m with
  | nil => cases hp
  | cons q m ih =>
    rw [List.map_cons, List.nodup_cons] at h
    unfold mget
    rcases List.mem_cons.1 hp with rfl | hp
    · rw [if_pos rfl]
    · rw [if_neg (fun e => h.1 (by rw [e]; exact List.mem_map.2 ⟨p, hp, rfl⟩)), ih h.2 hp]
/-- A set of keys. -/
def setM {α : Type} [DecidableEq α] (s : List (α × Bool)) (a : α) : Bool := (mget s a).getD false
theorem setM_put {α : Type} [DecidableEq α] (s : List (α × Bool)) (a x : α) : setM (mset s a true) x = (decide (a = x) || setM s x) := by
  unfold setM
  rw [mget_mset]
  by_cases h : a = x
  · simp [h]
  · simp [h]
end Go.Kn
end
section
namespace Go.Kn
open Go
section
variable {I : HMap} {b off : Nat} {vs : List Value} {A : Array Value} {t : TypeId} {fz : Nat × Nat} {l : Loc}
variable {p0 p1 p2 p3 p4 p5 p6 p7 p8 p9 : Nat × Obj}
theorem Cells.s0 (h : (A.toList.drop off).take vs.length = vs) : Cells I ((b, .cells A t fz) :: l) b off vs := fun j v hv => by
  refine Cell.here ?_
  rw [lget_eq]
  rw [← h] at hv
  rw [List.getElem?_take] at hv
  split at hv
  · rw [List.getElem?_drop] at hv; exact hv
  · cases hv
theorem Cells.s1 (h : (A.toList.drop off).take vs.length = vs) : Cells I (p0 :: (b, .cells A t fz) :: l) b off vs := (Cells.s0 h).there
end
/-- A store of several cells into a block. -/
theorem run_storeCells_seg {P : Program} {g : World} {I H : HMap} {post : List Value} {off : Nat} : ∀ (vs : List Value) (pre : List Value) (w : World) (loc loc' : Loc) (b : Nat) (t : TypeId) (old : List Value) (k : Nat), pre.length = off + k → old.length = vs.length → (∀ v ∈ vs, v.oneCell' = true) → St g I H loc w →
    Upd loc b (.cells (pre ++ (old ++ post)).toArray t (0, 0)) (.cells (pre ++ (vs ++ post)).toArray t (0, 0)) loc' → ∃ w', (storeCells ⟨b, off, none⟩ vs k).run P w = .ok () w' ∧ St g I H loc' w'
  | [], pre, w, loc, loc', b, t, old, k, _, hl, _, hw, hu => by
    have : old = [] := List.length_eq_zero_iff.1 hl
    subst this
    refine ⟨w, rfl, ?_⟩
    have hb := hw.own _ _ hu.mem
    exact hw.turn hu rfl rfl rfl rfl hb (fun _ _ => rfl)
  | v :: vs, pre, w, loc, loc', b, t, old, k, hp, hl, h1, hw, hu => by
    cases old with
    | nil => simp at hl
    | cons u old =>
      have hb := hw.own _ _ hu.mem
      have hc : w.cell? ⟨b, off + k, none⟩ = some u := by simp [World.cell?, hb, ← hp]
      have hfz := frozen_free (off := off + k) hw hu.mem
      obtain ⟨l1, u1, u2⟩ := hu.middle (.cells ((pre ++ [v]) ++ (old ++ post)).toArray t (0, 0))
      have hset : ((pre ++ (u :: old ++ post)).toArray.setIfInBounds (off + k) v) = ((pre ++ [v]) ++ (old ++ post)).toArray := by rw [← hp]; simp
      rw [← hset] at u1
      have hw1 := hw.setCell u1
      rw [hset] at u1
      obtain ⟨w', hr, hs⟩ := run_storeCells_seg (P := P) (post := post) (off := off) vs (pre ++ [v]) _ l1 loc' b t old (k + 1) (by simp; omega) (by simpa using hl) (fun x hx => h1 x (List.mem_cons_of_mem _ hx)) hw1 (by simpa using u2)
      refine ⟨w', ?_, hs⟩
      simp only [storeCells, Sem.run_bind, add_plain, run_store _ _ _ _ _ (h1 v (List.mem_cons_self ..)), hc, hfz, Bool.false_eq_true, if_false, Result.andThen, hr]
variable {C : Cx} {Q : Exit → Act → World → Prop} {E E' : Env} {I I' : HMap} {loc loc' L R : Loc} {ops : Array Oper} {rest : List Oper} {S : GS}
variable {dst : Option Tmp} {d : Nat} {ty : TypeId} {pos : String} {af : Array Edge} {gd : Option (Nat × Bool)} {x y z : Operand}
theorem splice_eq {A : List Value} {off n : Nat} {vs : List Value} (h : off + n ≤ A.length) (hn : vs.length = n) : spliceL A off vs = A.take off ++ (vs ++ A.drop (off + n)) := by
  have e : A = A.take off ++ (A.drop off).take n ++ A.drop (off + n) := by
    rw [List.append_assoc]
    have : (A.drop off).take n ++ A.drop (off + n) = A.drop off := by rw [← List.drop_drop]; exact List.take_append_drop _ _
    rw [this, List.take_append_drop]
  have hl1 : (A.take off).length = off := by rw [List.length_take]; omega
  have := spliceL_app (A.take off) ((A.drop off).take n) vs (A.drop (off + n)) (by rw [List.length_take, List.length_drop]; omega)
  rw [← e, hl1, List.append_assoc] at this
  exact this
theorem XO_storeP {t t' b off n : Nat} {vs : List Value} {A : List Value} (hx : evalS [] E x = some (.pointer (some ⟨b, off, none⟩))) (hy : evalS [] E y = some (.agg vs.toArray)) (hT : SzT C.P t n) (hn : vs.length = n) (ho : Nat.ble (off + n) A.length = true) (h1 : allOne vs = true) (hG : gd = none)
    (hu : Upd loc b (.cells A.toArray t' (0, 0)) (.cells (spliceL A off vs).toArray t' (0, 0)) loc') (h : XO C Q ops rest [] E I loc') :
    XO C Q ops (⟨none, .store t x y, ty, pos, af, gd⟩ :: rest) [] E I loc :=
  XO_world hG (by intro c e; cases e) fun a w ha hw => by
    obtain ⟨i, hi, hs⟩ := hT
    have hle := Nat.le_of_ble_eq_true ho
    have e : A = A.take off ++ ((A.drop off).take n ++ A.drop (off + n)) := by
      have : (A.drop off).take n ++ A.drop (off + n) = A.drop off := by rw [← List.drop_drop]; exact List.take_append_drop _ _
      rw [this, List.take_append_drop]
    rw [splice_eq hle hn] at hu
    have hu2 : Upd loc b (.cells (A.take off ++ ((A.drop off).take n ++ A.drop (off + n))).toArray t' (0, 0)) (.cells (A.take off ++ (vs ++ A.drop (off + n))).toArray t' (0, 0)) loc' := by rw [← e]; exact hu
    obtain ⟨w', hr, hs'⟩ := run_storeCells_seg (P := C.P) (off := off) vs (A.take off) w loc loc' b t' ((A.drop off).take n) 0 (by rw [List.length_take]; omega) (by rw [List.length_take, List.length_drop]; omega) (allOne_iff h1) hw hu2
    simp only [execOp, evalS_sound (S := []) ha trivial rfl hx, evalS_sound (S := []) ha trivial rfl hy, Instr.storeAt, Instr.sureAddr, Sem.run_bind, Sem.run_pure, Result.andThen, storeVar, run_sizeOf hi, hs, Value.cells, List.size_toArray, hn, ne_eq, not_true_eq_false, if_false]
    simp only [hr, Oper.uponIn_skip]
    exact h _ _ ha trivial hs'
theorem ev_nilCheck {a : Addr} (hx : evalS S E x = some (.pointer (some a))) : EvalOp C S E I loc ⟨dst, .nilCheck x, ty, pos, af, gd⟩ (.pointer (some a)) :=
  .of (by intro c e; cases e) fun ac w ha hg hc _ => by
    simp only [execOp, evalS_sound ha hg hc hx]; rfl
theorem ev_negU {t : TypeId} {k : IntKind} {a : Int} (hx : evalS S E x = some (.int k a)) : EvalOp C S E I loc ⟨dst, .unOp .neg t x, ty, pos, af, gd⟩ (.int k (k.wrap (0 - a))) :=
  .of (by intro c e; cases e) fun ac w ha hg hc _ => by
    simp only [execOp, evalS_sound ha hg hc hx]; rfl
section
variable {P : Program} {fn : Func} {N : Nat} {g : World} {I H : HMap} {loc : Loc} {E : Env}
theorem res1c {D : List Deferred} {t tt b : Nat} {v : Value} (hr : fn.results = #[.cell t tt]) (hv : look E t = some (.pointer (some ⟨b, 0, none⟩))) (hT : ScT P tt) (hc : Cell I loc b 0 v) (a : Act) (ha : Fits N D E a) (w : World) (hw : St g I H loc w) : (results fn a.tmps).run P w = .ok v w := by
  have e1 := ha.env _ _ hv
  rw [Array.getD_eq_getD_getElem?] at e1
  have l1 : (loadVar tt ⟨b, 0, none⟩).run P w = .ok v w := by
    simp only [loadVar, Sem.run_bind, run_isAgg_sc hT, Result.andThen, Bool.false_eq_true, if_false, run_load, hc.get hw]
  simp only [results, hr]
  simp [List.mapM_cons, e1, asAddr, l1]
end
end Go.Kn
namespace Go.Kn
open Go
section
variable {C : Cx} {E : Env} {I : HMap} {loc : Loc} {S : GS} {dst : Option Tmp} {ty : TypeId} {pos : String} {af : Array Edge} {gd : Option (Nat × Bool)} {x y : Operand}
variable {α β : Type} [DecidableEq α] {ek : α → Value} {ev : β → Value} {m : List (α × β)} {a : α}
/-- A look-up that finds. -/
theorem ev_lookupG {t k e r : Nat} {zv : Value} {b : β} (hget : mget m a = some b) (hT : MpT C.P t k e zv) (hK : KeyOK C.P k ek) (hx : evalS S E x = some (.map (some r))) (hy : evalS S E y = some (ek a)) (hm : conj S = true → Mem I loc r (mapO ek ev m)) :
    EvalOp C S E I loc ⟨dst, .lookup t x y false, ty, pos, af, gd⟩ (ev b) := by
  have := ev_lookup (C := C) (S := S) (dst := dst) (ty := ty) (pos := pos) (af := af) (gd := gd) hT hK hx hy hm
  rw [hget] at this
  exact this
end
end Go.Kn
end
section
namespace Go.Kn
open Go
section
variable {C : Cx} {E : Env} {I : HMap} {loc : Loc} {S : GS} {dst : Option Tmp} {ty : TypeId} {pos : String} {af : Array Edge} {gd : Option (Nat × Bool)} {x y : Operand}
variable {α : Type} [DecidableEq α] {ek : α → Value} {a : α}
def fstT (t : Value × Nat × List Value) : Value := t.1
theorem ev_lookupT {m : List (α × (Value × Nat × List Value))} {t k e r : Nat} (hT : MpT C.P t k e (.slice none 0 0)) (hK : KeyOK C.P k ek) (hx : evalS S E x = some (.map (some r))) (hy : evalS S E y = some (ek a)) (hm : conj S = true → Mem I loc r (mapO ek fstT m)) :
    EvalOp C S E I loc ⟨dst, .lookup t x y false, ty, pos, af, gd⟩ (((mget m a).getD nilT).1) := by
  have := ev_lookup (C := C) (S := S) (dst := dst) (ty := ty) (pos := pos) (af := af) (gd := gd) hT hK hx hy hm
  cases h : mget m a with
  | none => rw [h] at this; exact this
  | some b => rw [h] at this; exact this
theorem ev_lookupTE {m : List (α × (Value × Nat × List Value))} {v : Value} (hv : ((mget m a).getD nilT).1 = v) {t k e r : Nat} (hT : MpT C.P t k e (.slice none 0 0)) (hK : KeyOK C.P k ek) (hx : evalS S E x = some (.map (some r))) (hy : evalS S E y = some (ek a)) (hm : conj S = true → Mem I loc r (mapO ek fstT m)) :
    EvalOp C S E I loc ⟨dst, .lookup t x y false, ty, pos, af, gd⟩ v := by
  rw [← hv]; exact ev_lookupT hT hK hx hy hm
/-- A look-up of a number, with whether it is there. -/
theorem ev_lookupOkI {m : List (α × Int)} {t k e r : Nat} {ik : IntKind} (hT : MpT C.P t k e (.int ik 0)) (hK : KeyOK C.P k ek) (hx : evalS S E x = some (.map (some r))) (hy : evalS S E y = some (ek a)) (hm : conj S = true → Mem I loc r (mapO ek (Value.int ik) m)) :
    EvalOp C S E I loc ⟨dst, .lookup t x y true, ty, pos, af, gd⟩ (.tuple #[.int ik ((mget m a).getD 0), .bool (mget m a).isSome]) := by
  have := ev_lookupOk (C := C) (S := S) (dst := dst) (ty := ty) (pos := pos) (af := af) (gd := gd) hT hK hx hy hm
  cases h : mget m a with
  | none => rw [h] at this; exact this
  | some b => rw [h] at this; exact this
end
end Go.Kn
namespace Go.Kn
open Go
section
variable {C : Cx} {E : Env} {I : HMap} {loc : Loc} {S : GS} {dst : Option Tmp} {ty : TypeId} {pos : String} {af : Array Edge} {gd : Option (Nat × Bool)} {x y : Operand}
variable {α : Type} [DecidableEq α] {ek : α → Value} {a : α}
def mapV (b : Nat) : Value := .map (some b)
/-- A look-up of a map: the nil map where there is none. -/
theorem ev_lookupM {m : List (α × Nat)} {t k e r : Nat} (hT : MpT C.P t k e (.map none)) (hK : KeyOK C.P k ek) (hx : evalS S E x = some (.map (some r))) (hy : evalS S E y = some (ek a)) (hm : conj S = true → Mem I loc r (mapO ek mapV m)) :
    EvalOp C S E I loc ⟨dst, .lookup t x y false, ty, pos, af, gd⟩ (.map (mget m a)) := by
  have := ev_lookup (C := C) (S := S) (dst := dst) (ty := ty) (pos := pos) (af := af) (gd := gd) hT hK hx hy hm
  cases h : mget m a with
  | none => rw [h] at this; exact this
  | some b => rw [h] at this; exact this
end
end Go.Kn
end
section
namespace Go.Kn
open Go
theorem ck_sc {P : Program} {b : Bool} {n : Nat} {t : TypeId} {q : EqK} {v : Value} {w : World} (hk : kindOf P t = some q) : (Instr.checkKey b (n + 1) t v).run P w = .ok () w := by
  unfold kindOf at hk
  cases hu : P.underlying t with
  | none => rw [hu] at hk; cases hk
  | some td =>
    rw [hu] at hk
    cases td <;> simp only [Option.some.injEq, reduceCtorEq] at hk
    all_goals (simp only [Instr.checkKey, Sem.run_bind, run_underlying hu, Result.andThen]; rfl)
theorem kind_sc {P : Program} {t : TypeId} {q : EqK} (hk : kindOf P t = some q) : ScT P t := by
  unfold kindOf at hk
  cases hu : P.underlying t with
  | none => rw [hu] at hk; cases hk
  | some td =>
    rw [hu] at hk
    cases td <;> simp only [Option.some.injEq, reduceCtorEq] at hk
    all_goals exact ⟨_, hu, trivial⟩
theorem ck_struct {P : Program} {b : Bool} {n : Nat} {t : TypeId} {fs : Array Field} {cs : Array Value} {w : World} (hu : P.underlying t = some (.struct fs))
    (h : ∀ f ∈ fs.toList, f.name ≠ "_" ∧ ∃ a, (part f.type cs f.offset).run P w = .ok a w ∧ (Instr.checkKey b n f.type a).run P w = .ok () w) : (Instr.checkKey b (n + 1) t (.agg cs)).run P w = .ok () w := by
  rw [Instr.checkKey]
  simp only [Sem.run_bind, run_underlying hu, Result.andThen_ok]
  rw [← Array.forIn_toList]
  generalize fs.toList = L at h
  induction L with
  | nil => simp
  | cons f L ih =>
    obtain ⟨hn, a, p1, p2⟩ := h f (by simp)
    simp only [List.forIn_cons, Sem.run_bind, hn, ne_eq, not_false_eq_true, if_true, Result.andThen_ok, p1, p2, Sem.run_pure]
    exact ih (fun y hy => h y (by simp [hy]))
theorem fields_ok1 {P : Program} {b : Bool} {n : Nat} {w : World} : ∀ (fs : List Field) (ks : List EqK) (k : Nat) (pre xs : List Value), flatKs P fs k = some ks → pre.length = k → xs.length = ks.length →
    ∀ f ∈ fs, f.name ≠ "_" ∧ ∃ a, (part f.type (pre ++ xs).toArray f.offset).run P w = .ok a w ∧ (Instr.checkKey b (n + 1) f.type a).run P w = .ok () w
  | [], _, _, _, _, _, _, _, f, hf => by cases hf
  | g :: fs, ks, k, pre, xs, hf, hp, hx, f, hfm => by
    simp only [flatKs] at hf
    split at hf
    · rename_i hn
      cases hk : kindOf P g.type with
      | none => rw [hk] at hf; simp at hf
      | some q =>
        cases hl : flatKs P fs (k + 1) with
        | none => rw [hk, hl] at hf; simp at hf
        | some l =>
          rw [hk, hl] at hf
          simp only [Option.some.injEq] at hf
          subst hf
          cases xs with
          | nil => simp at hx
          | cons u us =>
            rcases List.mem_cons.1 hfm with rfl | hfm
            · exact ⟨hn.1, u, run_part_sc (kind_sc hk) (by rw [hn.2, ← hp]; simp), ck_sc hk⟩
            · have := fields_ok1 (P := P) (b := b) (n := n) (w := w) fs l (k + 1) (pre ++ [u]) us hl (by simp [hp]) (by simpa using hx) f hfm
              simpa using this
    · cases hf
theorem fields_ok2 {P : Program} {b : Bool} {n : Nat} {w : World} : ∀ (fs : List Field) (ks : List EqK) (k : Nat) (pre xs : List Value), flat2 P fs k = some ks → pre.length = k → xs.length = ks.length →
    ∀ f ∈ fs, f.name ≠ "_" ∧ ∃ a, (part f.type (pre ++ xs).toArray f.offset).run P w = .ok a w ∧ (Instr.checkKey b (n + 2) f.type a).run P w = .ok () w
  | [], _, _, _, _, _, _, _, f, hf => by cases hf
  | g :: fs, ks, k, pre, xs, hf, hp, hx, f, hfm => by
    simp only [flat2] at hf
    split at hf
    · rename_i hn
      cases hk : kindOf P g.type with
      | some q =>
        rw [hk] at hf
        simp only [Option.map_eq_some_iff] at hf
        obtain ⟨l, hl, rfl⟩ := hf
        cases xs with
        | nil => simp at hx
        | cons u us =>
          rcases List.mem_cons.1 hfm with rfl | hfm
          · exact ⟨hn.1, u, run_part_sc (kind_sc hk) (by rw [hn.2, ← hp]; simp), ck_sc hk⟩
          · have := fields_ok2 (P := P) (b := b) (n := n) (w := w) fs l (k + 1) (pre ++ [u]) us hl (by simp [hp]) (by simpa using hx) f hfm
            simpa using this
      | none =>
        rw [hk] at hf
        simp only at hf
        cases hu : P.underlying g.type with
        | none => rw [hu] at hf; cases hf
        | some td =>
          rw [hu] at hf
          cases td <;> simp only [reduceCtorEq] at hf
          rename_i gs
          split at hf
          · cases hfl : flatKs P gs.toList 0 with
            | none => rw [hfl] at hf; simp at hf
            | some l2 =>
              cases hin : P.info? g.type with
              | none => rw [hfl, hin] at hf; simp at hf
              | some i =>
                rw [hfl, hin] at hf
                simp only at hf
                split at hf
                · rename_i hsz
                  simp only [Option.map_eq_some_iff] at hf
                  obtain ⟨l, hl, rfl⟩ := hf
                  have hx2 : xs.length = l2.length + l.length := by simpa using hx
                  have hsp : xs = xs.take l2.length ++ xs.drop l2.length := (List.take_append_drop ..).symm
                  have ht : (xs.take l2.length).length = l2.length := by rw [List.length_take]; omega
                  have hag : AgT P g.type l2.length := ⟨⟨_, hu, trivial⟩, i, hin, hsz⟩
                  rcases List.mem_cons.1 hfm with rfl | hfm
                  · refine ⟨hn.1, .agg (xs.take l2.length).toArray, ?_, ?_⟩
                    · rw [run_part_ag hag, hn.2]
                      conv => lhs; rw [hsp]
                      rw [extract_mid pre _ _ k l2.length hp ht]
                    · have := fields_ok1 (P := P) (b := b) (n := n) (w := w) gs.toList l2 0 [] (xs.take l2.length) hfl rfl ht
                      exact ck_struct hu (by simpa using this)
                  · have := fields_ok2 (P := P) (b := b) (n := n) (w := w) fs l (k + l2.length) (pre ++ xs.take l2.length) (xs.drop l2.length) hl (by simp [hp, ht]) (by rw [List.length_drop]; omega) f hfm
                    rw [List.append_assoc, ← hsp] at this
                    exact this
                · cases hf
          · cases hf
    · cases hf
theorem key_flat2 {α : Type} [DecidableEq α] {P : Program} {t : Nat} {ks : List EqK} {enc : α → List Value} (hT : EqT2 P t ks) (hl : ∀ a, (enc a).length = ks.length) (heq : ∀ a b, eqKs ks (enc a) (enc b) = some (decide (a = b)))
    (hb : ∀ a, Instr.sameBits 10000 (.agg (enc a).toArray) (.agg (enc a).toArray) = true) : KeyOK P t (fun a => .agg (enc a).toArray) := by
  refine .of_asking hT.1 (fun b a w => ?_) hb (fun a b => rfl) (fun a b w => ?_)
  · have := fields_ok2 (P := P) (b := b) (n := 9997) (w := w) (P.fieldsOf t).toList ks 0 [] (enc a) hT.2.2.2 rfl (hl a)
    exact ck_struct (n := 9999) hT.1 (by simpa using this)
  · have := run_eqFields2 (P := P) (w := w) 9997 _ _ 0 [] (enc a) [] (enc b) _ hT.2.2.2 rfl rfl (heq a b)
    simp only [List.nil_append] at this
    simp only [Op.equal, Op.maxDepth, run_equalIn_struct w 9999 t _ _ hT.1 hT.2.1, this]
theorem OwnS.val {e size n : Nat} {v : Value} {xs : List Value} {L : Loc} (h : OwnS e size v n xs L) : ∃ a m c, v = .slice a m c := by
  rcases h.2 with ⟨h1, _⟩ | ⟨b, c, cur, h1, _⟩
  · exact ⟨_, _, _, h1⟩
  · exact ⟨_, _, _, h1⟩
section
variable {P : Program} {fn : Func} {R : Ending → World → Prop} {N : Nat} {g : World} {I H : HMap} {loc : Loc} {E : Env} {r : Option Nat}
/-- Two results, the first of which lies in a block of several cells. -/
theorem at_ret2A {t u tt n b : Nat} {vs : List Value} {v' : Value} (hr : fn.results = #[.cell t tt, .tmp u]) (hv : look E t = some (.pointer (some ⟨b, 0, none⟩))) (hv' : look E u = some v') (hA : AgT P tt n) (hc : Cells I loc b 0 vs) (hn : vs.length = n)
    (h : ∀ w, St g I H loc w → R (.returned (.tuple #[.agg vs.toArray, v'])) w) : At ⟨P, r, N, [], g, H⟩ (bodyPost P fn R) .ret E I loc := fun a w ha hw =>
  ⟨ha.defers, .tuple #[.agg vs.toArray, v'], by
    have e1 := ha.env _ _ hv
    have e2 := ha.env _ _ hv'
    rw [Array.getD_eq_getD_getElem?] at e1 e2
    have h1 : (loadCells ⟨b, 0, none⟩ n).run P w = .ok vs.toArray w := by
      rw [← hn]
      exact run_loadCells_list w _ _ fun j v hj => by rw [add_plain]; exact (hc j v hj).get hw
    have hA' := hA
    obtain ⟨_, i, h2, h3⟩ := hA'
    have l1 : (loadVar tt ⟨b, 0, none⟩).run P w = .ok (.agg vs.toArray) w := by
      simp only [loadVar, Sem.run_bind, Sem.run_pure, run_isAgg_ag hA, Result.andThen, if_true, run_sizeOf h2, h3, h1]
    simp only [results, hr]
    simp [List.mapM_cons, e1, e2, asAddr, l1], h w hw⟩
end
end Go.Kn
namespace Go.Kn
open Go
section
variable {C : Cx} {Q : Exit → Act → World → Prop} {E G : Env} {I I' : HMap} {loc loc' L R : Loc} {ops : Array Oper} {rest : List Oper} {S : GS} {b : Bool}
variable {d : Nat} {ty : TypeId} {pos : String} {af : Array Edge} {gd : Option (Nat × Bool)}
end
end Go.Kn
end
section
namespace Go.Proofs.YtclkmnidgdkekaaGreat
open Go Go.Kn Go.Proofs
theorem agt_166 : AgT Tryz.prog 166 9 := .of (by kernel_rfl)
theorem agt_28 : AgT Tryz.prog 28 6 := .of (by kernel_rfl)
theorem agt_40 : AgT Tryz.prog 40 4 := .of (by kernel_rfl)
theorem agt_49 : AgT Tryz.prog 49 4 := .of (by kernel_rfl)
theorem agt_62 : AgT Tryz.prog 62 2 := .of (by kernel_rfl)
theorem agt_64 : AgT Tryz.prog 64 14 := .of (by kernel_rfl)
theorem agt_66 : AgT Tryz.prog 66 19 := .of (by kernel_rfl)
theorem agt_98 : AgT Tryz.prog 98 3 := .of (by kernel_rfl)
theorem art_166 : ArT Tryz.prog 166 9 165 1 := .of (by kernel_rfl)
theorem cvt_118_3 : CvT Tryz.prog 118 3 .i64 := ⟨by kernel_rfl, by kernel_rfl⟩
theorem cvt_3_118 : CvT Tryz.prog 3 118 .u64 := ⟨by kernel_rfl, by kernel_rfl⟩
theorem elt_116 : ElT Tryz.prog 116 23 1 24 := .of (by kernel_rfl)
theorem elt_119 : ElT Tryz.prog 119 22 1 24 := .of (by kernel_rfl)
theorem elt_170 : ElT Tryz.prog 170 64 14 112 := .of (by kernel_rfl)
theorem elt_22 : ElT Tryz.prog 22 66 19 168 := .of (by kernel_rfl)
theorem elt_23 : ElT Tryz.prog 23 24 1 24 := .of (by kernel_rfl)
theorem elt_24 : ElT Tryz.prog 24 3 1 8 := .of (by kernel_rfl)
theorem elt_26 : ElT Tryz.prog 26 40 4 64 := .of (by kernel_rfl)
theorem elt_47 : ElT Tryz.prog 47 49 4 48 := .of (by kernel_rfl)
theorem elt_96 : ElT Tryz.prog 96 98 3 24 := .of (by kernel_rfl)
theorem eqt2_64 : EqT2 Tryz.prog 64 [.int, .int, .int, .int, .int, .int, .int, .int, .int, .int, .int, .int, .int, .int] := ⟨by kernel_rfl, by kernel_rfl, by kernel_rfl, by kernel_rfl⟩
theorem eqt2_98 : EqT2 Tryz.prog 98 [.int, .int, .int] := ⟨by kernel_rfl, by kernel_rfl, by kernel_rfl, by kernel_rfl⟩
theorem eqt_98 : EqT Tryz.prog 98 [.int, .int, .int] := ⟨by kernel_rfl, by kernel_rfl, by kernel_rfl, by kernel_rfl⟩
theorem fld_28_0 : FieldAt Tryz.prog 28 0 0 := .of (by kernel_rfl)
theorem fld_28_1 : FieldAt Tryz.prog 28 1 1 := .of (by kernel_rfl)
theorem fld_28_2 : FieldAt Tryz.prog 28 2 2 := .of (by kernel_rfl)
theorem fld_28_3 : FieldAt Tryz.prog 28 3 3 := .of (by kernel_rfl)
theorem fld_28_4 : FieldAt Tryz.prog 28 4 4 := .of (by kernel_rfl)
theorem fld_28_5 : FieldAt Tryz.prog 28 5 5 := .of (by kernel_rfl)
theorem fld_40_0 : FieldAt Tryz.prog 40 0 0 := .of (by kernel_rfl)
theorem fld_40_1 : FieldAt Tryz.prog 40 1 1 := .of (by kernel_rfl)
theorem fld_40_2 : FieldAt Tryz.prog 40 2 2 := .of (by kernel_rfl)
theorem fld_40_3 : FieldAt Tryz.prog 40 3 3 := .of (by kernel_rfl)
theorem fld_49_0 : FieldAt Tryz.prog 49 0 0 := .of (by kernel_rfl)
theorem fld_49_1 : FieldAt Tryz.prog 49 1 1 := .of (by kernel_rfl)
theorem fld_49_2 : FieldAt Tryz.prog 49 2 2 := .of (by kernel_rfl)
theorem fld_49_3 : FieldAt Tryz.prog 49 3 3 := .of (by kernel_rfl)
theorem fld_62_0 : FieldAt Tryz.prog 62 0 0 := .of (by kernel_rfl)
theorem fld_62_1 : FieldAt Tryz.prog 62 1 1 := .of (by kernel_rfl)
theorem fld_64_0 : FieldAt Tryz.prog 64 0 0 := .of (by kernel_rfl)
theorem fld_64_1 : FieldAt Tryz.prog 64 1 1 := .of (by kernel_rfl)
theorem fld_64_10 : FieldAt Tryz.prog 64 10 10 := .of (by kernel_rfl)
theorem fld_64_11 : FieldAt Tryz.prog 64 11 12 := .of (by kernel_rfl)
theorem fld_64_2 : FieldAt Tryz.prog 64 2 2 := .of (by kernel_rfl)
theorem fld_64_3 : FieldAt Tryz.prog 64 3 3 := .of (by kernel_rfl)
theorem fld_64_4 : FieldAt Tryz.prog 64 4 4 := .of (by kernel_rfl)
theorem fld_64_5 : FieldAt Tryz.prog 64 5 5 := .of (by kernel_rfl)
theorem fld_64_6 : FieldAt Tryz.prog 64 6 6 := .of (by kernel_rfl)
theorem fld_64_7 : FieldAt Tryz.prog 64 7 7 := .of (by kernel_rfl)
theorem fld_64_8 : FieldAt Tryz.prog 64 8 8 := .of (by kernel_rfl)
theorem fld_64_9 : FieldAt Tryz.prog 64 9 9 := .of (by kernel_rfl)
theorem fld_66_0 : FieldAt Tryz.prog 66 0 0 := .of (by kernel_rfl)
theorem fld_66_1 : FieldAt Tryz.prog 66 1 1 := .of (by kernel_rfl)
theorem fld_66_2 : FieldAt Tryz.prog 66 2 2 := .of (by kernel_rfl)
theorem fld_66_3 : FieldAt Tryz.prog 66 3 3 := .of (by kernel_rfl)
theorem fld_66_4 : FieldAt Tryz.prog 66 4 4 := .of (by kernel_rfl)
theorem fld_66_5 : FieldAt Tryz.prog 66 5 18 := .of (by kernel_rfl)
theorem fld_98_0 : FieldAt Tryz.prog 98 0 0 := .of (by kernel_rfl)
theorem fld_98_1 : FieldAt Tryz.prog 98 1 1 := .of (by kernel_rfl)
theorem fld_98_2 : FieldAt Tryz.prog 98 2 2 := .of (by kernel_rfl)
theorem fun_100 : Fun Tryz.prog 100 := .of Tryz.func100 (by kernel_rfl) (by kernel_rfl)
theorem fun_101 : Fun Tryz.prog 101 := .of Tryz.func101 (by kernel_rfl) (by kernel_rfl)
theorem fun_102 : Fun Tryz.prog 102 := .of Tryz.func102 (by kernel_rfl) (by kernel_rfl)
theorem fun_103 : Fun Tryz.prog 103 := .of Tryz.func103 (by kernel_rfl) (by kernel_rfl)
theorem fun_104 : Fun Tryz.prog 104 := .of Tryz.func104 (by kernel_rfl) (by kernel_rfl)
theorem fun_105 : Fun Tryz.prog 105 := .of Tryz.func105 (by kernel_rfl) (by kernel_rfl)
theorem fun_106 : Fun Tryz.prog 106 := .of Tryz.func106 (by kernel_rfl) (by kernel_rfl)
theorem fun_108 : Fun Tryz.prog 108 := .of Tryz.func108 (by kernel_rfl) (by kernel_rfl)
theorem fun_109 : Fun Tryz.prog 109 := .of Tryz.func109 (by kernel_rfl) (by kernel_rfl)
theorem fun_110 : Fun Tryz.prog 110 := .of Tryz.func110 (by kernel_rfl) (by kernel_rfl)
theorem fun_116 : Fun Tryz.prog 116 := .of Tryz.func116 (by kernel_rfl) (by kernel_rfl)
theorem fun_119 : Fun Tryz.prog 119 := .of Tryz.func119 (by kernel_rfl) (by kernel_rfl)
theorem fun_129 : Fun Tryz.prog 129 := .of Tryz.func129 (by kernel_rfl) (by kernel_rfl)
theorem fun_130 : Fun Tryz.prog 130 := .of Tryz.func130 (by kernel_rfl) (by kernel_rfl)
theorem fun_134 : Fun Tryz.prog 134 := .of Tryz.func134 (by kernel_rfl) (by kernel_rfl)
theorem fun_136 : Fun Tryz.prog 136 := .of Tryz.func136 (by kernel_rfl) (by kernel_rfl)
theorem fun_137 : Fun Tryz.prog 137 := .of Tryz.func137 (by kernel_rfl) (by kernel_rfl)
theorem fun_138 : Fun Tryz.prog 138 := .of Tryz.func138 (by kernel_rfl) (by kernel_rfl)
theorem fun_139 : Fun Tryz.prog 139 := .of Tryz.func139 (by kernel_rfl) (by kernel_rfl)
theorem fun_140 : Fun Tryz.prog 140 := .of Tryz.func140 (by kernel_rfl) (by kernel_rfl)
theorem fun_22 : Fun Tryz.prog 22 := .of Tryz.func22 (by kernel_rfl) (by kernel_rfl)
theorem fun_23 : Fun Tryz.prog 23 := .of Tryz.func23 (by kernel_rfl) (by kernel_rfl)
theorem fun_24 : Fun Tryz.prog 24 := .of Tryz.func24 (by kernel_rfl) (by kernel_rfl)
theorem fun_25 : Fun Tryz.prog 25 := .of Tryz.func25 (by kernel_rfl) (by kernel_rfl)
theorem fun_26 : Fun Tryz.prog 26 := .of Tryz.func26 (by kernel_rfl) (by kernel_rfl)
theorem fun_27 : Fun Tryz.prog 27 := .of Tryz.func27 (by kernel_rfl) (by kernel_rfl)
theorem fun_28 : Fun Tryz.prog 28 := .of Tryz.func28 (by kernel_rfl) (by kernel_rfl)
theorem fun_29 : Fun Tryz.prog 29 := .of Tryz.func29 (by kernel_rfl) (by kernel_rfl)
theorem fun_30 : Fun Tryz.prog 30 := .of Tryz.func30 (by kernel_rfl) (by kernel_rfl)
theorem fun_31 : Fun Tryz.prog 31 := .of Tryz.func31 (by kernel_rfl) (by kernel_rfl)
theorem fun_38 : Fun Tryz.prog 38 := .of Tryz.func38 (by kernel_rfl) (by kernel_rfl)
theorem fun_39 : Fun Tryz.prog 39 := .of Tryz.func39 (by kernel_rfl) (by kernel_rfl)
theorem fun_40 : Fun Tryz.prog 40 := .of Tryz.func40 (by kernel_rfl) (by kernel_rfl)
theorem fun_41 : Fun Tryz.prog 41 := .of Tryz.func41 (by kernel_rfl) (by kernel_rfl)
theorem fun_42 : Fun Tryz.prog 42 := .of Tryz.func42 (by kernel_rfl) (by kernel_rfl)
theorem fun_43 : Fun Tryz.prog 43 := .of Tryz.func43 (by kernel_rfl) (by kernel_rfl)
theorem fun_44 : Fun Tryz.prog 44 := .of Tryz.func44 (by kernel_rfl) (by kernel_rfl)
theorem fun_48 : Fun Tryz.prog 48 := .of Tryz.func48 (by kernel_rfl) (by kernel_rfl)
theorem fun_54 : Fun Tryz.prog 54 := .of Tryz.func54 (by kernel_rfl) (by kernel_rfl)
theorem fun_55 : Fun Tryz.prog 55 := .of Tryz.func55 (by kernel_rfl) (by kernel_rfl)
theorem fun_56 : Fun Tryz.prog 56 := .of Tryz.func56 (by kernel_rfl) (by kernel_rfl)
theorem fun_57 : Fun Tryz.prog 57 := .of Tryz.func57 (by kernel_rfl) (by kernel_rfl)
theorem fun_58 : Fun Tryz.prog 58 := .of Tryz.func58 (by kernel_rfl) (by kernel_rfl)
theorem fun_59 : Fun Tryz.prog 59 := .of Tryz.func59 (by kernel_rfl) (by kernel_rfl)
theorem fun_60 : Fun Tryz.prog 60 := .of Tryz.func60 (by kernel_rfl) (by kernel_rfl)
theorem fun_61 : Fun Tryz.prog 61 := .of Tryz.func61 (by kernel_rfl) (by kernel_rfl)
theorem fun_62 : Fun Tryz.prog 62 := .of Tryz.func62 (by kernel_rfl) (by kernel_rfl)
theorem fun_63 : Fun Tryz.prog 63 := .of Tryz.func63 (by kernel_rfl) (by kernel_rfl)
theorem fun_67 : Fun Tryz.prog 67 := .of Tryz.func67 (by kernel_rfl) (by kernel_rfl)
theorem fun_68 : Fun Tryz.prog 68 := .of Tryz.func68 (by kernel_rfl) (by kernel_rfl)
theorem fun_69 : Fun Tryz.prog 69 := .of Tryz.func69 (by kernel_rfl) (by kernel_rfl)
theorem fun_70 : Fun Tryz.prog 70 := .of Tryz.func70 (by kernel_rfl) (by kernel_rfl)
theorem fun_71 : Fun Tryz.prog 71 := .of Tryz.func71 (by kernel_rfl) (by kernel_rfl)
theorem fun_72 : Fun Tryz.prog 72 := .of Tryz.func72 (by kernel_rfl) (by kernel_rfl)
theorem fun_73 : Fun Tryz.prog 73 := .of Tryz.func73 (by kernel_rfl) (by kernel_rfl)
theorem fun_74 : Fun Tryz.prog 74 := .of Tryz.func74 (by kernel_rfl) (by kernel_rfl)
theorem fun_75 : Fun Tryz.prog 75 := .of Tryz.func75 (by kernel_rfl) (by kernel_rfl)
theorem fun_76 : Fun Tryz.prog 76 := .of Tryz.func76 (by kernel_rfl) (by kernel_rfl)
theorem fun_77 : Fun Tryz.prog 77 := .of Tryz.func77 (by kernel_rfl) (by kernel_rfl)
theorem fun_78 : Fun Tryz.prog 78 := .of Tryz.func78 (by kernel_rfl) (by kernel_rfl)
theorem fun_79 : Fun Tryz.prog 79 := .of Tryz.func79 (by kernel_rfl) (by kernel_rfl)
theorem fun_80 : Fun Tryz.prog 80 := .of Tryz.func80 (by kernel_rfl) (by kernel_rfl)
theorem fun_83 : Fun Tryz.prog 83 := .of Tryz.func83 (by kernel_rfl) (by kernel_rfl)
theorem fun_85 : Fun Tryz.prog 85 := .of Tryz.func85 (by kernel_rfl) (by kernel_rfl)
theorem fun_86 : Fun Tryz.prog 86 := .of Tryz.func86 (by kernel_rfl) (by kernel_rfl)
theorem fun_87 : Fun Tryz.prog 87 := .of Tryz.func87 (by kernel_rfl) (by kernel_rfl)
theorem fun_88 : Fun Tryz.prog 88 := .of Tryz.func88 (by kernel_rfl) (by kernel_rfl)
theorem fun_89 : Fun Tryz.prog 89 := .of Tryz.func89 (by kernel_rfl) (by kernel_rfl)
theorem key_3 : KeyOK (α := Int) Tryz.prog 3 (.int .i64) := key_int (by kernel_rfl)
theorem mixed : Tryz.prog.follows .mixedOrders = true := by kernel_rfl
theorem mpt_112 : MpT Tryz.prog 112 3 4 (.bool false) := ⟨by kernel_rfl, .of (by kernel_rfl)⟩
theorem mpt_114 : MpT Tryz.prog 114 3 112 (.map none) := ⟨by kernel_rfl, .of (by kernel_rfl)⟩
theorem mpt_133 : MpT Tryz.prog 133 98 4 (.bool false) := ⟨by kernel_rfl, .of (by kernel_rfl)⟩
theorem mpt_134 : MpT Tryz.prog 134 3 35 (.map none) := ⟨by kernel_rfl, .of (by kernel_rfl)⟩
theorem mpt_35 : MpT Tryz.prog 35 3 4 (.bool false) := ⟨by kernel_rfl, .of (by kernel_rfl)⟩
theorem mpt_81 : MpT Tryz.prog 81 3 3 (.int .i64 0) := ⟨by kernel_rfl, .of (by kernel_rfl)⟩
theorem mpt_82 : MpT Tryz.prog 82 3 24 (.slice none 0 0) := ⟨by kernel_rfl, .of (by kernel_rfl)⟩
theorem plt_40 : PlT Tryz.prog 40 #[(0, 1), (1, 1), (2, 1), (3, 1)] (.agg #[(.int .i64 0), (.int .i64 0), (.slice none 0 0), (.slice none 0 0)]) := ⟨.of (by kernel_rfl), by kernel_rfl, fun w => by kernel_rfl⟩
theorem plt_49 : PlT Tryz.prog 49 #[(0, 1), (1, 1), (2, 1), (3, 1)] (.agg #[(.int .i64 0), (.int .i64 0), (.int .i64 0), (.slice none 0 0)]) := ⟨.of (by kernel_rfl), by kernel_rfl, fun w => by kernel_rfl⟩
theorem plt_62 : PlT Tryz.prog 62 #[(0, 1), (1, 1)] (.agg #[(.int .i64 0), (.int .i64 0)]) := ⟨.of (by kernel_rfl), by kernel_rfl, fun w => by kernel_rfl⟩
theorem plt_64 : PlT Tryz.prog 64 #[(0, 1), (1, 1), (2, 1), (3, 1), (4, 1), (5, 1), (6, 1), (7, 1), (8, 1), (9, 1), (10, 2), (12, 2)] (.agg #[(.int .i64 0), (.int .i64 0), (.int .i64 0), (.int .i64 0), (.int .i64 0), (.int .i64 0), (.int .i64 0), (.int .i64 0), (.int .i64 0), (.int .i64 0), (.int .i64 0), (.int .i64 0), (.int .i64 0), (.int .i64 0)]) := ⟨.of (by kernel_rfl), by kernel_rfl, fun w => by kernel_rfl⟩
theorem plt_98 : PlT Tryz.prog 98 #[(0, 1), (1, 1), (2, 1)] (.agg #[(.int .i64 0), (.int .i64 0), (.int .i64 0)]) := ⟨.of (by kernel_rfl), by kernel_rfl, fun w => by kernel_rfl⟩
theorem sct_112 : ScT Tryz.prog 112 := .of (by kernel_rfl)
theorem sct_118 : ScT Tryz.prog 118 := .of (by kernel_rfl)
theorem sct_128 : ScT Tryz.prog 128 := .of (by kernel_rfl)
theorem sct_133 : ScT Tryz.prog 133 := .of (by kernel_rfl)
theorem sct_134 : ScT Tryz.prog 134 := .of (by kernel_rfl)
theorem sct_165 : ScT Tryz.prog 165 := .of (by kernel_rfl)
theorem sct_22 : ScT Tryz.prog 22 := .of (by kernel_rfl)
theorem sct_23 : ScT Tryz.prog 23 := .of (by kernel_rfl)
theorem sct_24 : ScT Tryz.prog 24 := .of (by kernel_rfl)
theorem sct_26 : ScT Tryz.prog 26 := .of (by kernel_rfl)
theorem sct_3 : ScT Tryz.prog 3 := .of (by kernel_rfl)
theorem sct_47 : ScT Tryz.prog 47 := .of (by kernel_rfl)
theorem sct_81 : ScT Tryz.prog 81 := .of (by kernel_rfl)
theorem sct_94 : ScT Tryz.prog 94 := .of (by kernel_rfl)
theorem sct_96 : ScT Tryz.prog 96 := .of (by kernel_rfl)
theorem slt_116 : SlT Tryz.prog 116 23 1 := .of (by kernel_rfl)
theorem slt_119 : SlT Tryz.prog 119 22 1 := .of (by kernel_rfl)
theorem slt_170 : SlT Tryz.prog 170 64 14 := .of (by kernel_rfl)
theorem slt_22 : SlT Tryz.prog 22 66 19 := .of (by kernel_rfl)
theorem slt_23 : SlT Tryz.prog 23 24 1 := .of (by kernel_rfl)
theorem slt_24 : SlT Tryz.prog 24 3 1 := .of (by kernel_rfl)
theorem slt_26 : SlT Tryz.prog 26 40 4 := .of (by kernel_rfl)
theorem slt_47 : SlT Tryz.prog 47 49 4 := .of (by kernel_rfl)
theorem slt_96 : SlT Tryz.prog 96 98 3 := .of (by kernel_rfl)
theorem szt_112 : SzT Tryz.prog 112 1 := .of (by kernel_rfl)
theorem szt_118 : SzT Tryz.prog 118 1 := .of (by kernel_rfl)
theorem szt_128 : SzT Tryz.prog 128 1 := .of (by kernel_rfl)
theorem szt_134 : SzT Tryz.prog 134 1 := .of (by kernel_rfl)
theorem szt_166 : SzT Tryz.prog 166 9 := .of (by kernel_rfl)
theorem szt_24 : SzT Tryz.prog 24 1 := .of (by kernel_rfl)
theorem szt_3 : SzT Tryz.prog 3 1 := .of (by kernel_rfl)
theorem szt_40 : SzT Tryz.prog 40 4 := .of (by kernel_rfl)
theorem szt_47 : SzT Tryz.prog 47 1 := .of (by kernel_rfl)
theorem szt_49 : SzT Tryz.prog 49 4 := .of (by kernel_rfl)
theorem szt_62 : SzT Tryz.prog 62 2 := .of (by kernel_rfl)
theorem szt_64 : SzT Tryz.prog 64 14 := .of (by kernel_rfl)
theorem szt_66 : SzT Tryz.prog 66 19 := .of (by kernel_rfl)
theorem szt_81 : SzT Tryz.prog 81 1 := .of (by kernel_rfl)
theorem szt_94 : SzT Tryz.prog 94 1 := .of (by kernel_rfl)
theorem szt_96 : SzT Tryz.prog 96 1 := .of (by kernel_rfl)
theorem szt_98 : SzT Tryz.prog 98 3 := .of (by kernel_rfl)
theorem und_112 : Tryz.prog.underlying 112 = some (.map 3 4) := by kernel_rfl
theorem und_3 : Tryz.prog.underlying 3 = some (.int .i64) := by kernel_rfl
theorem und_35 : Tryz.prog.underlying 35 = some (.map 3 4) := by kernel_rfl
theorem und_4 : Tryz.prog.underlying 4 = some .bool := by kernel_rfl
theorem zt_112 : ZeroT Tryz.prog 112 (.map none) := .of (by kernel_rfl)
theorem zt_118 : ZeroT Tryz.prog 118 (.int .u64 0) := .of (by kernel_rfl)
theorem zt_128 : ZeroT Tryz.prog 128 .nilFunc := .of (by kernel_rfl)
theorem zt_134 : ZeroT Tryz.prog 134 (.map none) := .of (by kernel_rfl)
theorem zt_166 : ZeroT Tryz.prog 166 (.agg #[(.pointer none), (.pointer none), (.pointer none), (.pointer none), (.pointer none), (.pointer none), (.pointer none), (.pointer none), (.pointer none)]) := .of (by kernel_rfl)
theorem zt_24 : ZeroT Tryz.prog 24 (.slice none 0 0) := .of (by kernel_rfl)
theorem zt_3 : ZeroT Tryz.prog 3 (.int .i64 0) := .of (by kernel_rfl)
theorem zt_40 : ZeroT Tryz.prog 40 (.agg #[(.int .i64 0), (.int .i64 0), (.slice none 0 0), (.slice none 0 0)]) := .of (by kernel_rfl)
theorem zt_49 : ZeroT Tryz.prog 49 (.agg #[(.int .i64 0), (.int .i64 0), (.int .i64 0), (.slice none 0 0)]) := .of (by kernel_rfl)
theorem zt_64 : ZeroT Tryz.prog 64 (.agg #[(.int .i64 0), (.int .i64 0), (.int .i64 0), (.int .i64 0), (.int .i64 0), (.int .i64 0), (.int .i64 0), (.int .i64 0), (.int .i64 0), (.int .i64 0), (.int .i64 0), (.int .i64 0), (.int .i64 0), (.int .i64 0)]) := .of (by kernel_rfl)
theorem zt_66 : ZeroT Tryz.prog 66 (.agg #[(.int .i64 0), (.int .i64 0), (.int .i64 0), (.int .i64 0), (.int .i64 0), (.int .i64 0), (.int .i64 0), (.int .i64 0), (.int .i64 0), (.int .i64 0), (.int .i64 0), (.int .i64 0), (.int .i64 0), (.int .i64 0), (.int .i64 0), (.int .i64 0), (.int .i64 0), (.int .i64 0), (.slice none 0 0)]) := .of (by kernel_rfl)
theorem zt_81 : ZeroT Tryz.prog 81 (.map none) := .of (by kernel_rfl)
theorem zt_94 : ZeroT Tryz.prog 94 .nilFunc := .of (by kernel_rfl)
theorem zt_98 : ZeroT Tryz.prog 98 (.agg #[(.int .i64 0), (.int .i64 0), (.int .i64 0)]) := .of (by kernel_rfl)
end Go.Proofs.YtclkmnidgdkekaaGreat
end
section
namespace Go.Proofs.YtclkmnidgdkekaaGreat
open Go Go.Kn Go.Proofs
def encI (n : Int) : List Value := [.int .i64 n]
/-- A slice's head. -/
structure Hd where
  a : Option Addr
  n : Nat
  c : Nat
def encH (h : Hd) : List Value := [.slice h.a h.n h.c]
theorem encI_len (x : Int) : (encI x).length = 1 := rfl
theorem encH_len (x : Hd) : (encH x).length = 1 := rfl
theorem one_I (xs : List Int) : allOne (xs.flatMap encI) = true := allOne_flat (fun _ => rfl) xs
theorem one_H (xs : List Hd) : allOne (xs.flatMap encH) = true := allOne_flat (fun _ => rfl) xs
theorem lenI (xs : List Int) : (xs.flatMap encI).length = xs.length := by rw [flat_len encI_len, Nat.mul_one]
def capP (b : Nat) : Value := .pointer (some ⟨b, 0, none⟩)
theorem _root_.Go.Kn.Sl.at {α : Type} {I : HMap} {size : Nat} {enc : α → List Value} {av : Option Addr} {n c : Nat} {xs : List α} (h : Sl I size enc av n c xs) {k : Nat} (hk : k < n) : ∃ x, xs[k]? = some x :=
  ⟨_, List.getElem?_eq_getElem (by rw [h.len]; exact hk)⟩
def within (n lo hi : Int) : Bool := decide (n ≥ lo) && decide (n ≤ hi)
theorem range_step {p : Nat → Bool} {k : Nat} (h : (List.range k).all p = true) (hp : p k = true) : (List.range (k + 1)).all p = true := by
  rw [List.range_succ, List.all_append, h]; simpa using hp
theorem range_bad {p : Nat → Bool} {n k : Nat} (hk : k < n) (hp : p k = false) : (List.range n).all p = false := by
  cases h : (List.range n).all p with
  | false => rfl
  | true =>
    rw [List.all_eq_true] at h
    rw [h k (List.mem_range.2 hk)] at hp; cases hp
theorem getD_of {α : Type} {xs : List α} {k : Nat} {x d : α} (h : xs[k]? = some x) : xs.getD k d = x := by simp [List.getD, h]
theorem some_getD {α : Type} {xs : List α} {n k : Nat} {d : α} (hl : xs.length = n) (h : k < n) : xs[k]? = some (xs.getD k d) := by
  have : k < xs.length := by omega
  unfold List.getD
  rw [List.getElem?_eq_getElem this]; rfl
theorem any_no {α : Type} {xs : List α} {k : Nat} {x : α} {p : α → Bool} (hx : xs[k]? = some x) (h : (xs.take k).any p = false) (hp : p x = false) : (xs.take (k + 1)).any p = false := by rw [any_take hx, h, hp]; rfl
theorem any_yes {α : Type} {xs : List α} {k : Nat} {x : α} {p : α → Bool} (hx : xs[k]? = some x) (hp : p x = true) : xs.any p = true := List.any_eq_true.2 ⟨x, List.mem_of_getElem? hx, hp⟩
theorem all_yes {α : Type} {xs : List α} {k : Nat} {x : α} {p : α → Bool} (hx : xs[k]? = some x) (h : (xs.take k).all p = true) (hp : p x = true) : (xs.take (k + 1)).all p = true := by
  rw [List.take_add_one, hx, List.all_append, h]; simpa using hp
theorem all_no {α : Type} {xs : List α} {k : Nat} {x : α} {p : α → Bool} (hx : xs[k]? = some x) (hp : p x = false) : xs.all p = false := List.all_eq_false.2 ⟨x, List.mem_of_getElem? hx, by rw [hp]; decide⟩
theorem take_snoc {α : Type} {xs : List α} {k : Nat} {x : α} (h : xs[k]? = some x) : xs.take (k + 1) = xs.take k ++ [x] := by
  rw [List.take_add_one, h]; rfl
theorem drop_cons {α : Type} {xs : List α} {k : Nat} {x : α} (h : xs[k]? = some x) : xs.drop k = x :: xs.drop (k + 1) := by
  obtain ⟨h1, h2⟩ := List.getElem?_eq_some_iff.1 h
  rw [List.drop_eq_getElem_cons h1, h2]
def idxF {α : Type} (p : α → Bool) (xs : List α) : Int := if xs.any p then (xs.findIdx p : Int) else -1
theorem findIdx_at {α : Type} {xs : List α} {k : Nat} {x : α} {p : α → Bool} (h : (xs.take k).any p = false) (hx : xs[k]? = some x) (hp : p x = true) : xs.findIdx p = k := by
  have hk := (List.getElem?_eq_some_iff.1 hx).1
  rw [List.findIdx_eq hk]
  refine ⟨by rw [(List.getElem?_eq_some_iff.1 hx).2]; exact hp, fun j hj => ?_⟩
  have := List.any_eq_false.1 h xs[j] (by rw [List.mem_take_iff_getElem]; exact ⟨j, by omega, rfl⟩)
  simpa using this
theorem idx_hit {α : Type} {xs : List α} {k : Nat} {x : α} {p : α → Bool} (h : (xs.take k).any p = false) (hx : xs[k]? = some x) (hp : p x = true) : idxF p xs = k := by
  unfold idxF
  rw [any_yes hx hp, if_pos rfl, findIdx_at h hx hp]
theorem idx_none {α : Type} {xs : List α} {k n : Nat} {p : α → Bool} (hl : xs.length = n) (hk : n ≤ k) (h : (xs.take k).any p = false) : idxF p xs = -1 := by
  unfold idxF
  rw [take_all hl hk] at h
  rw [h]; rfl
theorem idx_any {α : Type} {xs : List α} {p : α → Bool} : decide (idxF p xs ≥ 0) = xs.any p := by
  unfold idxF
  cases h : xs.any p
  · rfl
  · simp
/-- A slice of slices of numbers: its heads, and what they hold. -/
def SlH (I : HMap) (av : Option Addr) (n c : Nat) (hs : List Hd) (vss : List (List Int)) : Prop := Sl I 1 encH av n c hs ∧ hs.length = vss.length ∧ ∀ (k : Nat) (h : Hd) (v : List Int), hs[k]? = some h → vss[k]? = some v → Sl I 1 encI h.a h.n h.c v
def SlN (I : HMap) (av : Option Addr) (n c : Nat) (vss : List (List Int)) : Prop := ∃ hs : List Hd, SlH I av n c hs vss
theorem SlH.mono {I I' : HMap} {av : Option Addr} {n c : Nat} {hs : List Hd} {vss : List (List Int)} (h : SlH I av n c hs vss) (hI : HLe I I') : SlH I' av n c hs vss :=
  ⟨h.1.mono hI, h.2.1, fun k h' v a b => (h.2.2 k h' v a b).mono hI⟩
theorem SlN.mono {I I' : HMap} {av : Option Addr} {n c : Nat} {vss : List (List Int)} (h : SlN I av n c vss) (hI : HLe I I') : SlN I' av n c vss := by
  obtain ⟨hs, h1⟩ := h
  exact ⟨hs, h1.mono hI⟩
theorem SlH.len {I : HMap} {av : Option Addr} {n c : Nat} {hs : List Hd} {vss : List (List Int)} (h : SlH I av n c hs vss) : vss.length = n := by rw [← h.2.1, h.1.len]
theorem SlH.at {I : HMap} {av : Option Addr} {n c : Nat} {hs : List Hd} {vss : List (List Int)} (h : SlH I av n c hs vss) {k : Nat} (hk : k < n) : ∃ hd v, hs[k]? = some hd ∧ vss[k]? = some v ∧ Sl I 1 encI hd.a hd.n hd.c v := by
  obtain ⟨hd, hh⟩ := h.1.at hk
  have hl := h.len
  have hv : vss[k]? = some (vss[k]'(by omega)) := List.getElem?_eq_getElem _
  exact ⟨hd, _, hh, hv, h.2.2 k hd _ hh hv⟩
/-- One more at the end. -/
theorem SlH.snoc {I : HMap} {av bv : Option Addr} {n c m d : Nat} {hs : List Hd} {vss : List (List Int)} (h : SlH I av n c hs vss) {hd : Hd} {v : List Int} (hA : Sl I 1 encH bv m d (hs ++ [hd])) (hV : Sl I 1 encI hd.a hd.n hd.c v) : SlH I bv m d (hs ++ [hd]) (vss ++ [v]) := by
  refine ⟨hA, by simp [h.2.1], fun k h' v' a b => ?_⟩
  by_cases hk : k < hs.length
  · rw [List.getElem?_append_left hk] at a
    rw [List.getElem?_append_left (by rw [← h.2.1]; exact hk)] at b
    exact h.2.2 k h' v' a b
  · have hk2 : k = hs.length := by have := (List.getElem?_eq_some_iff.1 a).1; simp at this; omega
    subst hk2
    rw [List.getElem?_append_right (by omega)] at a
    rw [List.getElem?_append_right (by rw [h.2.1]; omega)] at b
    simp at a
    simp [h.2.1] at b
    subst a; subst b; exact hV
def resF {α : Type} (e : Int) (xs : List α) : List α := if e ≠ 0 then [] else xs
theorem resF_bad {α : Type} {e : Int} {xs : List α} (h : e ≠ 0) : resF e xs = [] := by unfold resF; rw [if_pos h]
theorem resF_ok {α : Type} {e : Int} {xs : List α} (h : e = 0) : resF e xs = xs := by unfold resF; rw [if_neg (by omega)]
theorem resF_len {α : Type} {e : Int} {xs : List α} : (resF e xs).length ≤ xs.length := by unfold resF; split <;> simp
theorem pair_of_next {α : Type} {R : α → α → Prop} (ht : ∀ a b c, R a b → R b c → R a c) {l : List α} (h : ∀ k (hk : k + 1 < l.length), R (l[k]'(by omega)) l[k + 1]) : l.Pairwise R := by
  have key : ∀ (n i : Nat) (hn : i + n < l.length), 0 < n → R (l[i]'(by omega)) l[i + n] := by
    intro n
    induction n with
    | zero => intro i _ h0; omega
    | succ n ih =>
      intro i hn _
      have h2 := h (i + n) (by omega)
      by_cases e : n = 0
      · subst e; exact h2
      · exact ht _ _ _ (ih i (by omega) (by omega)) h2
  rw [List.pairwise_iff_getElem]
  intro i j hi hj hij
  have := key (j - i) i (by omega) (by omega)
  simpa [show i + (j - i) = j by omega] using this
theorem tw_eq {α : Type} {p : α → Bool} : ∀ {xs : List α} {k : Nat}, (xs.take k).all p = true → k ≤ xs.length → (∀ y, xs[k]? = some y → p y = false) → xs.takeWhile p = xs.take k ∧ xs.dropWhile p = xs.drop k
  | [], k, _, hk, _ => by simp
  | x :: xs, 0, _, _, h => by
    have := h x rfl
    simp [List.takeWhile_cons, List.dropWhile_cons, this]
  | x :: xs, k + 1, h, hk, h2 => by
    rw [List.take_succ_cons, List.all_cons, Bool.and_eq_true] at h
    obtain ⟨h3, h4⟩ := tw_eq h.2 (by simpa using hk) (fun y hy => h2 y (by simpa using hy))
    rw [List.takeWhile_cons, List.dropWhile_cons, if_pos h.1, if_pos h.1, h3, h4]
    exact ⟨rfl, rfl⟩
/-- Two strictly increasing lists with the same members are one. -/
theorem sorted_ext : ∀ {xs ys : List Int}, xs.Pairwise (· < ·) → ys.Pairwise (· < ·) → (∀ a, a ∈ xs ↔ a ∈ ys) → xs = ys
  | [], [], _, _, _ => rfl
  | [], y :: ys, _, _, h => by have := (h y).2 (List.mem_cons_self ..); cases this
  | x :: xs, [], _, _, h => by have := (h x).1 (List.mem_cons_self ..); cases this
  | x :: xs, y :: ys, hx, hy, h => by
    rw [List.pairwise_cons] at hx hy
    have e : x = y := by
      rcases List.mem_cons.1 ((h x).1 (List.mem_cons_self ..)) with e | e
      · exact e
      · rcases List.mem_cons.1 ((h y).2 (List.mem_cons_self ..)) with e2 | e2
        · exact e2.symm
        · have h1 := hx.1 _ e2; have h2 := hy.1 _ e; omega
    subst e
    refine congrArg _ (sorted_ext hx.2 hy.2 fun a => ?_)
    constructor
    · intro ha
      rcases List.mem_cons.1 ((h a).1 (List.mem_cons_of_mem _ ha)) with e | e
      · subst e; have := hx.1 _ ha; omega
      · exact e
    · intro ha
      rcases List.mem_cons.1 ((h a).2 (List.mem_cons_of_mem _ ha)) with e | e
      · subst e; have := hy.1 _ ha; omega
      · exact e
end Go.Proofs.YtclkmnidgdkekaaGreat
end
section
namespace Go.Proofs.YtclkmnidgdkekaaGreat
open Go Go.Kn Go.Proofs
structure Sg where
  id : Int
  role : Int
  bar : Int
  mark : Int
  kind : Int
  side : Int
  dir : Int
  level : Int
  size : Int
  wth : Int
  fn : Int
  fd : Int
  tn : Int
  td : Int
def encG (x : Sg) : List Value := [.int .i64 x.id, .int .i64 x.role, .int .i64 x.bar, .int .i64 x.mark, .int .i64 x.kind, .int .i64 x.side, .int .i64 x.dir, .int .i64 x.level, .int .i64 x.size, .int .i64 x.wth, .int .i64 x.fn, .int .i64 x.fd, .int .i64 x.tn, .int .i64 x.td]
def encGA (x : Sg) : Value := .agg (encG x).toArray
def zeroG : Sg := ⟨0, 0, 0, 0, 0, 0, 0, 0, 0, 0, 0, 0, 0, 0⟩
theorem encG_len (x : Sg) : (encG x).length = 14 := rfl
def sgEq (x y : Sg) : Bool := x.id == y.id && (x.role == y.role && (x.bar == y.bar && (x.mark == y.mark && (x.kind == y.kind && (x.side == y.side && (x.dir == y.dir && (x.level == y.level && (x.size == y.size && (x.wth == y.wth && (x.fn == y.fn && (x.fd == y.fd && (x.tn == y.tn && (x.td == y.td && true)))))))))))))
theorem sgEq_iff {x y : Sg} : sgEq x y = true ↔ x = y := by
  obtain ⟨a1, a2, a3, a4, a5, a6, a7, a8, a9, a10, a11, a12, a13, a14⟩ := x
  obtain ⟨b1, b2, b3, b4, b5, b6, b7, b8, b9, b10, b11, b12, b13, b14⟩ := y
  simp [sgEq]
instance : DecidableEq Sg := fun a b => decidable_of_iff (sgEq a b = true) sgEq_iff
/-- A patch, with the head of its needs. -/
structure Pt where
  id : Int
  kind : Int
  sign : Int
  field : Int
  nw : Sg
  a : Option Addr
  n : Nat
  c : Nat
  needs : List Int
def encP (p : Pt) : List Value := [.int .i64 p.id, .int .i64 p.kind, .int .i64 p.sign, .int .i64 p.field, .int .i64 p.nw.id, .int .i64 p.nw.role, .int .i64 p.nw.bar, .int .i64 p.nw.mark, .int .i64 p.nw.kind, .int .i64 p.nw.side, .int .i64 p.nw.dir, .int .i64 p.nw.level, .int .i64 p.nw.size, .int .i64 p.nw.wth, .int .i64 p.nw.fn, .int .i64 p.nw.fd, .int .i64 p.nw.tn, .int .i64 p.nw.td, .slice p.a p.n p.c]
def encPA (p : Pt) : Value := .agg (encP p).toArray
theorem encP_len (x : Pt) : (encP x).length = 19 := rfl
theorem one_P (xs : List Pt) : allOne (xs.flatMap encP) = true := allOne_flat (fun _ => rfl) xs
def zeroP : Pt := ⟨0, 0, 0, 0, zeroG, none, 0, 0, []⟩
/-- A patch's needs lie where its head says. -/
def Nd (I : HMap) (p : Pt) : Prop := Sl I 1 encI p.a p.n p.c p.needs
theorem Nd.mono {I I' : HMap} {p : Pt} (h : Nd I p) (hI : HLe I I') : Nd I' p := Sl.mono h hI
def SlP (I : HMap) (av : Option Addr) (n c : Nat) (ps : List Pt) : Prop := Sl I 19 encP av n c ps ∧ ∀ p ∈ ps, Nd I p
theorem SlP.mono {I I' : HMap} {av : Option Addr} {n c : Nat} {ps : List Pt} (h : SlP I av n c ps) (hI : HLe I I') : SlP I' av n c ps := ⟨h.1.mono hI, fun p hp => (h.2 p hp).mono hI⟩
theorem SlP.len {I : HMap} {av : Option Addr} {n c : Nat} {ps : List Pt} (h : SlP I av n c ps) : ps.length = n := h.1.len
theorem SlP.at {I : HMap} {av : Option Addr} {n c : Nat} {ps : List Pt} (h : SlP I av n c ps) {k : Nat} (hk : k < n) : ∃ p, ps[k]? = some p ∧ Nd I p := by
  obtain ⟨p, hp⟩ := h.1.at hk
  exact ⟨p, hp, h.2 p (List.mem_of_getElem? hp)⟩
def magI (n : Int) : Int := if n < 0 then 0 - n else n
def gcdI (a b : Int) : Int := (Int.gcd a b : Int)
/-- Is n / d a ratio? -/
def ratF (n d : Int) : Bool := !(((((decide (d < 1) || decide (d > 1073741824)) || decide (n < -1073741824)) || decide (n > 1073741824)) || (gcdI n d != 1)))
/-- May a sign last from one ratio to another one? -/
def spanF (fn fd tn td : Int) : Bool := (ratF fn fd && ratF tn td) && (decide (fn * td < tn * fd) && (decide (fn ≥ 0) && decide (tn ≤ td)))
/-! ### Signs -/
def frmL (k : Sg) : Bool := within k.id 0 1048576 && within k.role 0 63 && within k.bar 0 4095 && within k.kind 1 9 && within k.mark 1 3 && within k.side 0 2 && within k.dir 0 8 && within k.level 0 3 && within k.size 0 255 && within k.wth 0 64
def frm (k : Sg) : Bool := frmL k && spanF k.fn k.fd k.tn k.td
def skP (xs : List Sg) (i : Nat) : Bool := !(!frm (xs.getD i zeroG) || (decide ((i : Int) > 0) && decide ((xs.getD ((i : Int) - 1).toNat zeroG).id ≥ (xs.getD i zeroG).id)))
def skB (xs : List Sg) : Bool := (List.range xs.length).all (skP xs)
def chkG (xs : List Sg) : Int := if xs.length > 4096 then 2 else if skB xs then 0 else 360
/-! ### Patches -/
def setG (x : Sg) (f : Int) (y : Sg) : Sg :=
  if f = 1 then { x with role := y.role } else if f = 2 then { x with bar := y.bar } else if f = 3 then { x with mark := y.mark } else if f = 4 then { x with side := y.side } else if f = 5 then { x with dir := y.dir }
  else if f = 6 then { x with level := y.level } else if f = 7 then { x with size := y.size } else if f = 8 then { x with wth := y.wth } else if f = 9 then { x with fn := y.fn, fd := y.fd, tn := y.tn, td := y.td } else x
def plainG : Sg := ⟨0, 0, 0, 3, 9, 0, 0, 0, 0, 0, 0, 1, 1, 2⟩
/-- Needs that increase, below an ID. -/
def ndP (id : Int) (v : List Int) (i : Nat) : Bool := !((decide (v.getD i 0 < 1) || decide (v.getD i 0 ≥ id)) || (decide ((i : Int) > 0) && decide (v.getD i 0 ≤ v.getD ((i : Int) - 1).toNat 0)))
def ndB (id : Int) (v : List Int) : Bool := (List.range v.length).all (ndP id v)
def idB (p : Pt) : Bool := (decide (p.id ≥ 1) && decide (p.id ≤ 1048576)) && (decide (p.sign ≥ 0) && decide (p.sign ≤ 1048576))
def kndB (p : Pt) : Bool :=
  if p.kind = 1 then within p.field 1 9 && (sgEq (setG p.nw p.field zeroG) zeroG && frm (setG plainG p.field p.nw))
  else if p.kind = 2 then p.field == 0 && (p.nw.id == p.sign && frm p.nw)
  else if p.kind = 3 then p.field == 0 && sgEq p.nw zeroG else false
def pchk (p : Pt) : Int := if p.needs.length > 32 then 2 else if ndB p.id p.needs && (idB p && kndB p) then 0 else 370
end Go.Proofs.YtclkmnidgdkekaaGreat
end
section
namespace Go.Proofs.YtclkmnidgdkekaaGreat
open Go Go.Kn Go.Proofs
def orF : List Int → Int
  | [] => 0
  | x :: xs => if x ≠ 0 then x else orF xs
theorem orF_zero : ∀ {xs : List Int}, orF xs = 0 ↔ ∀ x ∈ xs, x = 0
  | [] => by simp [orF]
  | x :: xs => by
    unfold orF
    by_cases h : x = 0
    · rw [if_neg (by simpa using h), orF_zero]; simp [h]
    · rw [if_pos h]; simp [h]
theorem orF_take {xs : List Int} {k : Nat} {x : Int} (hx : xs[k]? = some x) (h : orF (xs.take k) = 0) (hne : x ≠ 0) : orF xs = x := by
  induction xs generalizing k with
  | nil => simp at hx
  | cons y ys ih =>
    cases k with
    | zero =>
      simp at hx; subst hx
      unfold orF; rw [if_pos hne]
    | succ k =>
      rw [List.take_succ_cons] at h
      unfold orF at h ⊢
      by_cases hy : y = 0
      · rw [if_neg (by simpa using hy)] at h ⊢
        exact ih (by simpa using hx) h
      · rw [if_pos hy] at h; exact absurd h hy
/-- The patch p comes to those whose standing is known. -/
def onS (f : Int → Int → Bool) (p : Pt) : Int → Int → Bool := fun a b => if a = p.id then p.needs.any (fun n => n == b || f n b) else f a b
/-- Does the patch with the ID a stand on the one with the ID b? -/
def onF (ps : List Pt) : Int → Int → Bool := ps.foldl onS (fun _ _ => false)
def hasI (ps : List Pt) (n : Int) : Bool := ps.any (fun q => q.id == n)
/-- IDs increase, and what is needed comes before. -/
def lsP (ps : List Pt) (i : Nat) : Bool := !((decide ((i : Int) > 0) && decide ((ps.getD i zeroP).id ≤ (ps.getD ((i : Int) - 1).toNat zeroP).id)) || (ps.getD i zeroP).needs.any (fun n => !hasI ps n))
def lsB (ps : List Pt) : Bool := (List.range ps.length).all (lsP ps)
/-- May p be in one store with q? -/
def togB (p q : Pt) (on : Bool) : Bool := if p.sign ≠ q.sign then true else if q.kind = 2 then p.kind != 2 && on else if q.kind = 3 then !on else true
def togA (ps : List Pt) : Bool := ps.all fun p => ps.all fun q => p.id == q.id || togB p q (onF ps p.id q.id)
def chkR (ps : List Pt) : Int := if ps.length > 512 then 2 else if orF (ps.map pchk) ≠ 0 then orF (ps.map pchk) else if lsB ps && togA ps then 0 else 380
/-- A listing in order: the working form. -/
structure Lst (ps : List Pt) : Prop where
  pos : ∀ p ∈ ps, 1 ≤ p.id
  inc : ps.Pairwise (fun p q => p.id < q.id)
  has : ∀ p ∈ ps, ∀ n ∈ p.needs, n < p.id ∧ ∃ q ∈ ps, q.id = n
theorem hasI_iff {ps : List Pt} {n : Int} : hasI ps n = true ↔ ∃ q ∈ ps, q.id = n := by
  unfold hasI
  rw [List.any_eq_true]
  simp
theorem onS_other {f : Int → Int → Bool} {p : Pt} {a b : Int} (h : a ≠ p.id) : onS f p a b = f a b := by unfold onS; rw [if_neg h]
theorem fold_other : ∀ (ps : List Pt) {f : Int → Int → Bool} {a b : Int}, (∀ p ∈ ps, p.id ≠ a) → ps.foldl onS f a b = f a b
  | [], _, _, _, _ => rfl
  | p :: ps, f, a, b, h => by
    rw [List.foldl_cons, fold_other ps (fun q hq => h q (List.mem_cons_of_mem _ hq)), onS_other (fun e => h p (List.mem_cons_self ..) e.symm)]
theorem onF_none {ps : List Pt} {a b : Int} (h : ∀ p ∈ ps, p.id ≠ a) : onF ps a b = false := fold_other ps h
theorem onF_split {ps qs : List Pt} {p : Pt} {b : Int} (h : ∀ q ∈ qs, q.id ≠ p.id) : onF (ps ++ p :: qs) p.id b = p.needs.any (fun n => n == b || onF ps n b) := by
  unfold onF
  rw [List.foldl_append, List.foldl_cons, fold_other qs h]
  unfold onS; rw [if_pos rfl]
theorem onF_left {ps qs : List Pt} {a b : Int} (h : ∀ q ∈ qs, q.id ≠ a) : onF (ps ++ qs) a b = onF ps a b := by
  unfold onF
  rw [List.foldl_append, fold_other qs h]
theorem Lst.tail_ne {ps qs : List Pt} {p : Pt} (h : Lst (ps ++ p :: qs)) : (∀ q ∈ qs, p.id < q.id) ∧ (∀ q ∈ ps, q.id < p.id) := by
  have h1 := h.inc
  rw [List.pairwise_append] at h1
  exact ⟨(List.pairwise_cons.1 h1.2.1).1, fun q hq => h1.2.2 q hq p (List.mem_cons_self ..)⟩
theorem any_same {α : Type} {xs : List α} {f g : α → Bool} (h : ∀ x ∈ xs, f x = g x) : xs.any f = xs.any g := by
  induction xs with
  | nil => rfl
  | cons x xs ih => rw [List.any_cons, List.any_cons, h x (List.mem_cons_self ..), ih fun y hy => h y (List.mem_cons_of_mem _ hy)]
/-- What it says of a patch of the list. -/
theorem Lst.on {ps : List Pt} (h : Lst ps) {p : Pt} (hp : p ∈ ps) (b : Int) : onF ps p.id b = p.needs.any (fun n => n == b || onF ps n b) := by
  obtain ⟨l, r, rfl⟩ := List.append_of_mem hp
  obtain ⟨h1, h2⟩ := h.tail_ne
  rw [onF_split (fun q hq e => by have := h1 q hq; omega)]
  refine any_same fun n hn => ?_
  have hlt := (h.has p hp n hn).1
  rw [onF_left (ps := l) (qs := p :: r)]
  intro q hq e
  rcases List.mem_cons.1 hq with rfl | hq
  · omega
  · have := h1 q hq; omega
theorem Lst.on_iff {ps : List Pt} (h : Lst ps) {p : Pt} (hp : p ∈ ps) {b : Int} : onF ps p.id b = true ↔ ∃ n ∈ p.needs, n = b ∨ onF ps n b = true := by
  rw [h.on hp, List.any_eq_true]
  simp
theorem onF_mem {ps : List Pt} {a b : Int} (h : onF ps a b = true) : ∃ p ∈ ps, p.id = a := by
  by_cases hx : ∃ p ∈ ps, p.id = a
  · exact hx
  · rw [onF_none (fun p hp e => hx ⟨p, hp, e⟩)] at h; cases h
theorem Lst.ind {ps : List Pt} (h : Lst ps) {M : Pt → Prop} (hs : ∀ p ∈ ps, (∀ q ∈ ps, q.id < p.id → M q) → M p) : ∀ p ∈ ps, M p := by
  have key : ∀ (m : Nat) (q : Pt), q ∈ ps → q.id.toNat ≤ m → M q := by
    intro m
    induction m with
    | zero =>
      intro q hq hm
      have := h.pos q hq; omega
    | succ m ih =>
      intro q hq hm
      exact hs q hq fun r hr hlt => ih r hr (by have := h.pos r hr; omega)
  exact fun p hp => key _ p hp (Nat.le_refl _)
/-- Whoever is stood on is in the list, and came before. -/
theorem Lst.on_lt {ps : List Pt} (h : Lst ps) {a b : Int} (hon : onF ps a b = true) : b < a ∧ ∃ q ∈ ps, q.id = b := by
  obtain ⟨p, hp, rfl⟩ := onF_mem hon
  revert hon
  refine h.ind (M := fun p => onF ps p.id b = true → b < p.id ∧ ∃ q ∈ ps, q.id = b) (fun p hp ih hon => ?_) p hp
  obtain ⟨n, hn, e⟩ := (h.on_iff hp).1 hon
  obtain ⟨h1, q, hq, rfl⟩ := h.has p hp n hn
  rcases e with rfl | e
  · exact ⟨h1, q, hq, rfl⟩
  · have := ih q hq h1 e
    exact ⟨by omega, this.2⟩
theorem Lst.on_irr {ps : List Pt} (h : Lst ps) {a : Int} : onF ps a a = false := by
  cases hon : onF ps a a with
  | false => rfl
  | true => have := (h.on_lt hon).1; omega
theorem Lst.on_trans {ps : List Pt} (h : Lst ps) {a b c : Int} (h1 : onF ps a b = true) (h2 : onF ps b c = true) : onF ps a c = true := by
  obtain ⟨p, hp, rfl⟩ := onF_mem h1
  revert h1
  refine h.ind (M := fun p => onF ps p.id b = true → onF ps p.id c = true) (fun p hp ih hon => ?_) p hp
  obtain ⟨n, hn, e⟩ := (h.on_iff hp).1 hon
  obtain ⟨hlt, q, hq, rfl⟩ := h.has p hp n hn
  rcases e with rfl | e
  · exact (h.on_iff hp).2 ⟨_, hn, .inr h2⟩
  · exact (h.on_iff hp).2 ⟨_, hn, .inr (ih q hq hlt e)⟩
theorem Lst.on_need {ps : List Pt} (h : Lst ps) {p : Pt} (hp : p ∈ ps) {n : Int} (hn : n ∈ p.needs) : onF ps p.id n = true := (h.on_iff hp).2 ⟨n, hn, .inl rfl⟩
def incB (v : List Int) : Bool := (List.range v.length).all fun i => !(decide ((i : Int) > 0) && decide (v.getD i 0 ≤ v.getD ((i : Int) - 1).toNat 0))
def chB (ps : List Pt) (ids : List Int) : Bool := incB ids && ids.all (hasI ps)
/-- The IDs with all on which their patches stand. -/
def cloF (ps : List Pt) (ids : List Int) : List Int := (ps.filter fun p => ids.any fun n => n == p.id || onF ps n p.id).map (·.id)
def cloE (ps : List Pt) (ids : List Int) : Int := if chkR ps ≠ 0 then chkR ps else if ids.length > 512 then 2 else if chB ps ids then 0 else 380
end Go.Proofs.YtclkmnidgdkekaaGreat
end
section
namespace Go.Proofs.YtclkmnidgdkekaaGreat
open Go Go.Kn Go.Proofs
theorem ids_sorted {ps : List Pt} (h : Lst ps) (f : Pt → Bool) : ((ps.filter f).map (·.id)).Pairwise (· < ·) := by
  rw [List.pairwise_map]
  exact h.inc.filter f
theorem mem_ids {ps : List Pt} {f : Pt → Bool} {x : Int} : x ∈ (ps.filter f).map (·.id) ↔ ∃ p ∈ ps, f p = true ∧ p.id = x := by
  rw [List.mem_map]
  constructor
  · rintro ⟨p, hp, e⟩
    exact ⟨p, (List.mem_filter.1 hp).1, (List.mem_filter.1 hp).2, e⟩
  · rintro ⟨p, hp, hf, e⟩
    exact ⟨p, List.mem_filter.2 ⟨hp, hf⟩, e⟩
/-- A version: increasing IDs of the list, with all that their patches need. -/
structure Ver (ps : List Pt) (v : List Int) : Prop where
  inc : v.Pairwise (· < ·)
  sub : ∀ x ∈ v, ∃ p ∈ ps, p.id = x
  need : ∀ p ∈ ps, p.id ∈ v → ∀ n ∈ p.needs, n ∈ v
theorem mem_clo {ps : List Pt} {ids : List Int} {x : Int} : x ∈ cloF ps ids ↔ (∃ p ∈ ps, p.id = x) ∧ ∃ n ∈ ids, n = x ∨ onF ps n x = true := by
  unfold cloF
  rw [mem_ids]
  constructor
  · rintro ⟨p, hp, hf, rfl⟩
    rw [List.any_eq_true] at hf
    obtain ⟨n, hn, e⟩ := hf
    exact ⟨⟨p, hp, rfl⟩, n, hn, by simpa using e⟩
  · rintro ⟨⟨p, hp, rfl⟩, n, hn, e⟩
    exact ⟨p, hp, List.any_eq_true.2 ⟨n, hn, by simpa using e⟩, rfl⟩
theorem clo_sorted {ps : List Pt} (h : Lst ps) (ids : List Int) : (cloF ps ids).Pairwise (· < ·) := ids_sorted h _
theorem clo_ver {ps : List Pt} (h : Lst ps) (ids : List Int) : Ver ps (cloF ps ids) where
  inc := clo_sorted h ids
  sub := fun x hx => (mem_clo.1 hx).1
  need := fun p hp hpv m hm => by
    obtain ⟨_, n, hn, e⟩ := mem_clo.1 hpv
    obtain ⟨_, q, hq, rfl⟩ := h.has p hp m hm
    refine mem_clo.2 ⟨⟨q, hq, rfl⟩, n, hn, .inr ?_⟩
    rcases e with rfl | e
    · exact h.on_need hp hm
    · exact h.on_trans e (h.on_need hp hm)
/-- The working form of a right store. -/
theorem ls_lst {ps : List Pt} (h0 : orF (ps.map pchk) = 0) (h : lsB ps = true) : Lst ps := by
  have hk : ∀ p ∈ ps, ndB p.id p.needs = true ∧ idB p = true ∧ kndB p = true := fun p hp => by
    have h1 := orF_zero.1 h0 (pchk p) (List.mem_map.2 ⟨p, hp, rfl⟩)
    unfold pchk at h1
    split at h1
    · cases h1
    · split at h1
      · rename_i h2
        simpa [Bool.and_eq_true] using h2
      · cases h1
  unfold lsB at h
  rw [List.all_eq_true] at h
  refine ⟨fun p hp => ?_, ?_, fun p hp n hn => ?_⟩
  · have := (hk p hp).2.1
    unfold idB at this
    simp at this
    omega
  · refine pair_of_next (R := fun p q : Pt => p.id < q.id) (fun a b c h1 h2 => Int.lt_trans h1 h2) fun k hk => ?_
    have h1 := h (k + 1) (List.mem_range.2 hk)
    unfold lsP at h1
    rw [show (((k + 1 : Nat) : Int) - 1).toNat = k by omega, getD_of (List.getElem?_eq_getElem hk), getD_of (List.getElem?_eq_getElem (show k < ps.length by omega))] at h1
    simp at h1
    have := h1.1
    omega
  · obtain ⟨k, hk1, rfl⟩ := List.mem_iff_getElem.1 hp
    have h1 := h k (List.mem_range.2 hk1)
    unfold lsP at h1
    rw [getD_of (List.getElem?_eq_getElem hk1)] at h1
    simp at h1
    refine ⟨?_, hasI_iff.1 (h1.2 n hn)⟩
    obtain ⟨j, hj, rfl⟩ := List.mem_iff_getElem.1 hn
    have h2 := (hk _ hp).1
    unfold ndB at h2
    rw [List.all_eq_true] at h2
    have h3 := h2 j (List.mem_range.2 hj)
    unfold ndP at h3
    rw [getD_of (List.getElem?_eq_getElem hj)] at h3
    simp at h3
    omega
theorem chkR_ok {ps : List Pt} (h : chkR ps = 0) : ps.length ≤ 512 ∧ orF (ps.map pchk) = 0 ∧ lsB ps = true ∧ togA ps = true := by
  unfold chkR at h
  split at h
  · cases h
  · split at h
    · contradiction
    · split at h
      · rename_i h1 h2 h3
        rw [Bool.and_eq_true] at h3
        exact ⟨by omega, by omega, h3⟩
      · cases h
theorem chkR_lst {ps : List Pt} (h : chkR ps = 0) : Lst ps := ls_lst (chkR_ok h).2.1 (chkR_ok h).2.2.1
end Go.Proofs.YtclkmnidgdkekaaGreat
end
section
namespace Go.Proofs.YtclkmnidgdkekaaGreat
open Go Go.Kn Go.Proofs
/-! ### Lists by keys -/
def isF (f : Int) : Prop := 1 ≤ f ∧ f ≤ 9
end Go.Proofs.YtclkmnidgdkekaaGreat
end
section
namespace Go.Proofs.YtclkmnidgdkekaaGreat
open Go Go.Kn Go.Proofs
def cmpF (x y : Int) : Int := if x < y then -1 else if x > y then 1 else 0
def encR2 (n d : Int) : List Value := [.int .i64 n, .int .i64 d]
def encRA (n d : Int) : Value := .agg (encR2 n d).toArray
theorem u64_id {n : Int} (h : 0 ≤ n ∧ n ≤ 9223372036854775807) : IntKind.u64.wrap n = n := by
  unfold IntKind.wrap IntKind.signed IntKind.bits
  simp
  omega
theorem mag_pos {n : Int} (hn : -1073741824 ≤ n ∧ n ≤ 1073741824) (h : ¬ n < 0) : IntKind.u64.wrap n = magI n := by
  rw [u64_id (by omega)]
  unfold magI; rw [if_neg h]
theorem mag_neg {n : Int} (hn : -1073741824 ≤ n ∧ n ≤ 1073741824) (h : n < 0) : IntKind.u64.wrap (0 - IntKind.u64.wrap n) = magI n := by
  unfold magI; rw [if_pos h]
  unfold IntKind.wrap IntKind.signed IntKind.bits
  simp
  omega
/-- The cells of the iterator of Euclid's algorithm. -/
def remL (t b1 b2 : Nat) (a b : Int) : Go.Kn.Loc := [(b2, .cells #[.int .u64 b] t (0, 0)), (b1, .cells #[.int .u64 a] t (0, 0))]
/-- The numbers of Euclid's algorithm. -/
def remN (a b : Nat) : List Nat := if a = 0 then [] else if b = 0 then [a, 0] else if a % b = 0 then [a, b] else a :: remN b (a % b)
termination_by b
decreasing_by exact Nat.mod_lt _ (by omega)
theorem remN_zero (b : Nat) : remN 0 b = [] := by rw [remN]; rfl
theorem remN_end {a b : Nat} (ha : a ≠ 0) (hb : b ≠ 0) (h : a % b = 0) : remN a b = [a, b] := by rw [remN, if_neg ha, if_neg hb, if_pos h]
theorem remN_step {a b : Nat} (ha : a ≠ 0) (hb : b ≠ 0) (h : a % b ≠ 0) : remN a b = a :: remN b (a % b) := by rw [remN, if_neg ha, if_neg hb, if_neg h]
theorem remN_gcd : ∀ (m : Nat) {a b d : Nat}, b ≤ m → b ≠ 0 → (a = 0 → d = b) → (remN a b).getLastD d = Nat.gcd a b := by
  intro m
  induction m with
  | zero => intro a b d h1 h2; omega
  | succ m ih =>
    intro a b d h1 h2 hd
    by_cases ha : a = 0
    · subst ha; rw [remN_zero, Nat.gcd_zero_left, hd rfl]; rfl
    · by_cases h : a % b = 0
      · rw [remN_end ha h2 h]
        show b = _
        rw [Nat.gcd_comm, Nat.gcd_rec, h, Nat.gcd_zero_left]
      · rw [remN_step ha h2 h, List.getLastD_cons, ih (by have := Nat.mod_lt a (show 0 < b by omega); omega) h (fun e => absurd e h2)]
        rw [Nat.gcd_comm b, ← Nat.gcd_rec, Nat.gcd_comm]
theorem tmod_nat (a b : Nat) : ((a : Int)).tmod (b : Int) = ((a % b : Nat) : Int) := by
  rw [Int.tmod_eq_emod_of_nonneg (by omega)]; rfl
theorem mul_b {a b : Int} (ha : -1073741824 ≤ a ∧ a ≤ 1073741824) (hb : -1073741824 ≤ b ∧ b ≤ 1073741824) : -9223372036854775808 ≤ a * b ∧ a * b ≤ 9223372036854775807 := by
  have h1 : (a * b).natAbs ≤ 1073741824 * 1073741824 := by
    rw [Int.natAbs_mul]
    exact Nat.mul_le_mul (by omega) (by omega)
  omega
def ratE (n d : Int) : Int := if ratF n d then 0 else 120
theorem ratF_in {n d : Int} (h : ratF n d = true) : (1 ≤ d ∧ d ≤ 1073741824) ∧ -1073741824 ≤ n ∧ n ≤ 1073741824 := by
  unfold ratF at h
  simp at h
  omega
theorem mag_gcd (n d : Int) : Nat.gcd (magI n).toNat d.toNat = Int.gcd n d.toNat := by
  unfold Int.gcd magI
  congr 1
  split <;> omega
theorem maxI_one {b : Nat} (h : 0 < b) : maxI (b : Int) 1 = (b : Int) := by
  unfold maxI
  split <;> omega
theorem rem_pre {a0 b0 a b : Nat} {pre : List Nat} (h : remN a0 b0 = pre ++ remN a b) (ha : a ≠ 0) : pre ++ [a] <+: remN a0 b0 := by
  rw [h, remN, if_neg ha]
  have key : ∀ l : List Nat, pre ++ [a] <+: pre ++ a :: l := fun l => ⟨l, by simp⟩
  split
  · exact key _
  · split <;> exact key _
theorem last_snoc {l : List Nat} {x d : Nat} : (l ++ [x]).getLastD d = x := by simp [List.getLastD_eq_getLast?]
theorem rat_bad {n d : Int} (h : ((((decide (d < 1) || decide (d > 1073741824)) || decide (n < -1073741824)) || decide (n > 1073741824)) || (gcdI n d != 1)) = true) : ratF n d = false := by unfold ratF; rw [h]; rfl
theorem rat_good {n d : Int} (h : ((((decide (d < 1) || decide (d > 1073741824)) || decide (n < -1073741824)) || decide (n > 1073741824)) || (gcdI n d != 1)) = false) : ratF n d = true := by unfold ratF; rw [h]; rfl
/-! ### Fields as cells -/
def foF (f : Int) : Nat := if f = 1 then 1 else if f = 2 then 2 else if f = 3 then 3 else if f = 4 then 5 else if f = 5 then 6 else if f = 6 then 7 else if f = 7 then 8 else 9
def getF (x : Sg) (f : Int) : Int := if f = 1 then x.role else if f = 2 then x.bar else if f = 3 then x.mark else if f = 4 then x.side else if f = 5 then x.dir else if f = 6 then x.level else if f = 7 then x.size else x.wth
def numL (b : Nat) : List Value := [.pointer none, .pointer (some ⟨b, 0 + 1, none⟩), .pointer (some ⟨b, 0 + 2, none⟩), .pointer (some ⟨b, 0 + 3, none⟩), .pointer (some ⟨b, 0 + 5, none⟩), .pointer (some ⟨b, 0 + 6, none⟩), .pointer (some ⟨b, 0 + 7, none⟩), .pointer (some ⟨b, 0 + 8, none⟩), .pointer (some ⟨b, 0 + 9, none⟩)]
theorem isN_cases {f : Int} (h : 1 ≤ f ∧ f ≤ 8) : f = 1 ∨ f = 2 ∨ f = 3 ∨ f = 4 ∨ f = 5 ∨ f = 6 ∨ f = 7 ∨ f = 8 := by omega
theorem num_at {f : Int} (h : 1 ≤ f ∧ f ≤ 8) (b : Nat) : (numL b)[f.toNat * 1]? = some (.pointer (some ⟨b, foF f, none⟩)) := by
  rcases isN_cases h with rfl | rfl | rfl | rfl | rfl | rfl | rfl | rfl <;> rfl
theorem cell_fo {f : Int} (h : 1 ≤ f ∧ f ≤ 8) (x : Sg) : lget (encG x) (foF f) = some (.int .i64 (getF x f)) := by
  rcases isN_cases h with rfl | rfl | rfl | rfl | rfl | rfl | rfl | rfl <;> rfl
theorem fo_lt {f : Int} : Nat.blt (foF f) 14 = true := by
  unfold foF
  repeat' split
  all_goals rfl
theorem set_fo {f : Int} (h : 1 ≤ f ∧ f ≤ 8) (x y : Sg) : (encG x).toArray.setIfInBounds (foF f) (.int .i64 (getF y f)) = (encG (setG x f y)).toArray := by
  rcases isN_cases h with rfl | rfl | rfl | rfl | rfl | rfl | rfl | rfl <;> rfl
def lastI (v : List Int) (k : Nat) (l : Int) : Prop := (k = 0 → l = 0) ∧ ∀ y, v[k - 1]? = some y → k ≠ 0 → l = y
theorem lastI_step {v : List Int} {k : Nat} {x : Int} (hx : v[k]? = some x) : lastI v (k + 1) x := ⟨fun h => by omega, fun y hy _ => by simp at hy; rw [hx] at hy; cases hy; rfl⟩
theorem nd_at {id : Int} {v : List Int} {k : Nat} {l x : Int} (hall : (List.range k).all (ndP id v) = true) (hl : lastI v k l) (hx : v[k]? = some x) : ndP id v k = !(decide (x ≤ l) || decide (x ≥ id)) := by
  unfold ndP
  rw [getD_of hx]
  cases k with
  | zero =>
    rw [hl.1 rfl]
    rw [Bool.eq_iff_iff]; simp; omega
  | succ k =>
    have hk := (List.getElem?_eq_some_iff.1 hx).1
    have hy : v[k]? = some (v[k]'(by omega)) := List.getElem?_eq_getElem _
    have e := hl.2 _ (by rw [Nat.add_sub_cancel]; exact hy) (by omega)
    rw [show (((k + 1 : Nat) : Int) - 1).toNat = k by omega, getD_of hy, ← e]
    have h1 : 1 ≤ l := by
      rw [List.all_eq_true] at hall
      have := hall k (List.mem_range.2 (by omega))
      unfold ndP at this
      rw [getD_of hy] at this
      simp at this
      omega
    rw [Bool.eq_iff_iff]; simp; omega
theorem pchk_1 {p : Pt} (h : p.needs.length > 32) : pchk p = 2 := by unfold pchk; rw [if_pos h]
theorem pchk_2 {p : Pt} (h : ¬ p.needs.length > 32) (h2 : ndB p.id p.needs = false) : pchk p = 370 := by unfold pchk; rw [if_neg h, h2]; rfl
theorem pchk_3 {p : Pt} (h : ¬ p.needs.length > 32) (h2 : ndB p.id p.needs = true) (h3 : (idB p && kndB p) = false) : pchk p = 370 := by unfold pchk; rw [if_neg h, h2, h3]; rfl
theorem pchk_4 {p : Pt} (h : ¬ p.needs.length > 32) (h2 : ndB p.id p.needs = true) (h3 : (idB p && kndB p) = true) : pchk p = 0 := by unfold pchk; rw [if_neg h, h2, h3]; rfl
theorem knd_1 {p : Pt} (h : p.kind = 1) (h2 : within p.field 1 9 = true) : kndB p = (sgEq (setG p.nw p.field zeroG) zeroG && frm (setG plainG p.field p.nw)) := by unfold kndB; rw [if_pos h, h2, Bool.true_and]
theorem knd_1n {p : Pt} (h : p.kind = 1) (h2 : within p.field 1 9 = false) : (idB p && kndB p) = false := by unfold kndB; rw [if_pos h, h2, Bool.false_and, Bool.and_false]
theorem knd_2 {p : Pt} (h : p.kind = 2) : kndB p = (p.field == 0 && (p.nw.id == p.sign && frm p.nw)) := by unfold kndB; rw [if_neg (by omega), if_pos h]
theorem knd_3 {p : Pt} (h : p.kind = 3) : kndB p = (p.field == 0 && sgEq p.nw zeroG) := by unfold kndB; rw [if_neg (by omega), if_neg (by omega), if_pos h]
theorem knd_4 {p : Pt} (h1 : p.kind ≠ 1) (h2 : p.kind ≠ 2) (h3 : p.kind ≠ 3) : (idB p && kndB p) = false := by unfold kndB; rw [if_neg h1, if_neg h2, if_neg h3, Bool.and_false]
theorem span_eq {fn fd tn td : Int} : (ratE fn fd != 0 || ratE tn td != 0) = !(ratF fn fd && ratF tn td) := by
  unfold ratE
  cases ratF fn fd <;> cases ratF tn td <;> rfl
def cmpE (an ad bn bd : Int) : Int := if ratF an ad && ratF bn bd then 0 else 120
def cmpV (an ad bn bd : Int) : Int := if ratF an ad && ratF bn bd then cmpF (an * bd) (bn * ad) else 0
theorem fine_eq {fn fd tn td : Int} : (((cmpE fn fd tn td == 0) && decide (cmpV fn fd tn td < 0)) && decide (fn ≥ 0) && decide (tn ≤ td)) = spanF fn fd tn td := by
  unfold cmpE cmpV spanF cmpF
  cases h : (ratF fn fd && ratF tn td) with
  | false => rfl
  | true =>
    simp only [if_true, Bool.true_and]
    by_cases h2 : fn * td < tn * fd
    · simp [h2, Bool.and_assoc]
    · by_cases h3 : fn * td > tn * fd <;> simp [h2, h3]
theorem skP_at {xs : List Sg} {k : Nat} {x : Sg} (hx : xs[k]? = some x) : skP xs k = !(!frm x || (decide ((k : Int) > 0) && decide ((xs.getD ((k : Int) - 1).toNat zeroG).id ≥ x.id))) := by unfold skP; rw [getD_of hx]
end Go.Proofs.YtclkmnidgdkekaaGreat
end
