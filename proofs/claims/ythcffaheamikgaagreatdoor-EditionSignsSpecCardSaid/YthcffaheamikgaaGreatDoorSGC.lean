/- editionSignsSpec_holds, part C of the proof: what its theorems say holds without further conditions. -/
import Derived.Lib.SlicesCompact
import Derived.Lib.RowBridge
import Derived.Shelf.Small.Bits
import Derived.Shelf.Small.Wraps
import Derived.Shelf.Strconv.Itoa0
import Derived.Shelf.Sort.Plain
import Derived.Shelf.Slices.Turned
import Derived.Shelf.Slices.Equal
import Derived.Ground.Names2Prog
import Derived.Shelf.Slices.Clone
import Derived.Shelf.Slices.CompactI
import Derived.Shelf.Slices.SearchI
import Derived.Shelf.Slices.Cells
import Derived.Shelf.Slices.In.SortNone
import Derived.Shelf.Slices.Empties2
import Derived.Ground.SlgnProg
import Derived.Shelf.SlicesE.Clone
import Derived.Test.YthcffaheamikgaaGreatDoorProg
import Derived.Test.YthcffaheamikgaaGreatDoorSGB
namespace Go.Proofs.YthcffaheamikgaaGreatDoor
section
open Go Go.Kn Go.Proofs
def ImO (I : HMap) (r : Nat) (o : Obj) : Prop := I r = some o
theorem ImO.mono {I I' : HMap} {r : Nat} {o : Obj} (h : ImO I r o) (hI : HLe I I') : ImO I' r o := hI _ _ h
def MapQ (st cs : List Int) (b : Int) : Value → HMap → Go.Kn.Loc → Prop := fun v I' L => L = [] ∧ ∃ r m, v = .map (some r) ∧ ImO I' r (mapO eiv eiv m) ∧ MapR st cs b m
theorem st_fold_mem : ∀ (ns out : List Int) (x : Int), x ∈ ns.foldl stS out ↔ x ∈ out ∨ (x ∈ ns ∧ x ≠ 8589934592)
 | [], out, x => by simp
 | n :: ns, out, x => by
  rw [List.foldl_cons, st_fold_mem ns]
  have : x ∈ stS out n ↔ x ∈ out ∨ (x = n ∧ n ≠ 8589934592) := by
   unfold stS
   split
   ·
    rename_i h
    rw [Bool.or_eq_true, List.any_eq_true] at h
    constructor
    ·
     exact fun h => .inl h
    ·
     rintro (h2 | ⟨rfl, h2⟩)
     ·
      exact h2
     ·
      rcases h with h | ⟨y, hy, e⟩
      ·
       exact absurd (eq_of_beq h) h2
      ·
       rw [← eq_of_beq e]; exact hy
   ·
    rename_i h
    rw [Bool.or_eq_true, not_or] at h
    rw [List.mem_append, List.mem_singleton]
    constructor
    ·
     rintro (h2 | rfl)
     ·
      exact .inl h2
     ·
      exact .inr ⟨rfl, fun e => h.1 (by rw [e]; rfl)⟩
    ·
     rintro (h2 | ⟨rfl, _⟩)
     ·
      exact .inl h2
     ·
      exact .inr rfl
  rw [this, List.mem_cons]
  constructor
  ·
   rintro ((h | ⟨rfl, h⟩) | ⟨h, h2⟩)
   ·
    exact .inl h
   ·
    exact .inr ⟨.inl rfl, h⟩
   ·
    exact .inr ⟨.inr h, h2⟩
  ·
   rintro (h | ⟨rfl | h, h2⟩)
   ·
    exact .inl (.inl h)
   ·
    exact .inl (.inr ⟨rfl, h2⟩)
   ·
    exact .inr ⟨h, h2⟩
theorem st_fold_nd : ∀ (ns out : List Int), out.Nodup → (ns.foldl stS out).Nodup
 | [], _, h => h
 | n :: ns, out, h => by
  rw [List.foldl_cons]
  refine st_fold_nd ns _ ?_
  unfold stS
  split
  ·
   exact h
  ·
   rename_i h2
   rw [Bool.or_eq_true, not_or, List.any_eq_true] at h2
   refine List.nodup_append.2 ⟨h, by simp, fun a ha b hb e => ?_⟩
   simp at hb
   subst hb; subst e
   exact h2.2 ⟨a, ha, by simp⟩
theorem st_nd (rows : List (List Int)) (l : Nat) : (statesF rows l).Nodup := st_fold_nd _ _ (by simp)
theorem st_mem {rows : List (List Int)} {l : Nat} {x : Int} : x ∈ statesF rows l ↔ x = 0 ∨ ((∃ r ∈ rows, r.getD l 0 = x) ∧ x ≠ 8589934592) := by
 unfold statesF
 rw [st_fold_mem]
 simp
def stM (rows : List (List Int)) (l : Nat) : List (Int × Int) := (statesF rows l).map fun x => (x, 0)
theorem stM_key (rows : List (List Int)) (l : Nat) : (stM rows l).map (·.1) = statesF rows l := by unfold stM; simp [Function.comp_def]
theorem stM_at {rows : List (List Int)} {l i : Nat} {p : Int × Int} (h : (stM rows l)[i]? = some p) : p.1 ∈ statesF rows l ∧ p.2 = 0 := by
 unfold stM at h
 rw [List.getElem?_map] at h
 obtain ⟨x, hx, rfl⟩ := Option.map_eq_some_iff.1 h
 exact ⟨List.mem_of_getElem? hx, rfl⟩
def visK (rows : List (List Int)) (l : Nat) (seen : List Nat) : List Int := (visO (stM rows l) seen).map (·.1)
theorem visK_snoc {rows : List (List Int)} {l i : Nat} {seen : List Nat} {p : Int × Int} (h : (stM rows l)[i]? = some p) : visK rows l (seen ++ [i]) = visK rows l seen ++ [p.1] := by unfold visK; rw [vis_snoc h, List.map_append]; rfl
theorem visK_new {rows : List (List Int)} {l i : Nat} {seen : List Nat} {p : Int × Int} (h : (stM rows l)[i]? = some p) (hs : i ∉ seen) : p.1 ∉ visK rows l seen := fun hm => by
 obtain ⟨q, hq, e⟩ := List.mem_map.1 hm
 obtain ⟨j, hj, hqj⟩ := vis_mem.1 hq
 have hnd := st_nd rows l
 rw [← stM_key] at hnd
 have h1 : ((stM rows l).map (·.1))[i]? = some p.1 := by rw [List.getElem?_map, h]; rfl
 have h2 : ((stM rows l).map (·.1))[j]? = some p.1 := by rw [List.getElem?_map, hqj, ← e]; rfl
 obtain ⟨g1, e1⟩ := List.getElem?_eq_some_iff.1 h1
 obtain ⟨g2, e2⟩ := List.getElem?_eq_some_iff.1 h2
 have := (List.getElem_inj hnd).1 (show ((stM rows l).map (·.1))[i] = ((stM rows l).map (·.1))[j] by rw [e1, e2])
 exact hs (this ▸ hj)
theorem visK_old {rows : List (List Int)} {l : Nat} {seen : List Nat} {x : Int} (h : x ∈ visK rows l seen) : x ∈ statesF rows l := by
 obtain ⟨q, hq, rfl⟩ := List.mem_map.1 h
 obtain ⟨j, _, hqj⟩ := vis_mem.1 hq
 exact (stM_at hqj).1
theorem visK_all {rows : List (List Int)} {l : Nat} {seen : List Nat} (hnd : seen.Nodup) (hlt : ∀ i ∈ seen, i < (stM rows l).length) (hall : ∀ i (p : Int × Int), (stM rows l)[i]? = some p → i ∈ seen) (x : Int) : x ∈ visK rows l seen ↔ x ∈ statesF rows l := by
 have := (vis_all hnd hlt hall).map (fun p => p.1)
 rw [stM_key] at this
 exact this.mem_iff
/-! ### A single witness -/
def leafM (rows : List (List Int)) (l : Nat) (u : Int) (seen : List Nat) (x : Int) : Option Int := if x ∈ visK rows l seen ∧ leafG u x = 0 then some 0 else none
theorem leafM_nil {rows : List (List Int)} {l : Nat} {u : Int} : MapF [] (leafM rows l u []) := MapF.nil.congr fun x => by unfold leafM visK visO; simp
theorem leafM_yes {rows : List (List Int)} {l : Nat} {u : Int} {seen : List Nat} {i : Nat} {p : Int × Int} {m : List (Int × Int)} (h : MapF m (leafM rows l u seen)) (hp : (stM rows l)[i]? = some p) (hg : leafG u p.1 = 0) : MapF (mset m p.1 0) (leafM rows l u (seen ++ [i])) :=
 (h.set p.1 0).congr fun x => by
  unfold leafM
  rw [visK_snoc hp]; simp only [List.mem_append, List.mem_singleton]
  by_cases e : p.1 = x
  ·
   subst e
   rw [if_pos rfl, if_pos ⟨.inr rfl, hg⟩]
  ·
   rw [if_neg e]
   by_cases g : x ∈ visK rows l seen ∧ leafG u x = 0
   ·
    rw [if_pos g, if_pos ⟨.inl g.1, g.2⟩]
   ·
    rw [if_neg g, if_neg]
    rintro ⟨h1 | h1, h2⟩
    ·
     exact g ⟨h1, h2⟩
    ·
     exact e h1.symm
theorem leafM_no {rows : List (List Int)} {l : Nat} {u : Int} {seen : List Nat} {i : Nat} {p : Int × Int} {m : List (Int × Int)} (h : MapF m (leafM rows l u seen)) (hp : (stM rows l)[i]? = some p) (hg : leafG u p.1 ≠ 0) : MapF m (leafM rows l u (seen ++ [i])) :=
 h.congr fun x => by
  unfold leafM
  rw [visK_snoc hp]; simp only [List.mem_append, List.mem_singleton]
  by_cases g : x ∈ visK rows l seen ∧ leafG u x = 0
  ·
   rw [if_pos g, if_pos ⟨.inl g.1, g.2⟩]
  ·
   rw [if_neg g, if_neg]
   rintro ⟨h1 | h1, h2⟩
   ·
    exact g ⟨h1, h2⟩
   ·
    subst h1; exact hg h2
theorem leaf_g0 {u x : Int} (h : (u == x || u == 8589934592) = true) : leafG u x = 0 := by
 unfold leafG
 rw [if_neg]
 rw [Bool.or_eq_true, beq_iff_eq, beq_iff_eq] at h
 simp only [Bool.and_eq_true, decide_eq_true_eq]
 rintro ⟨h1, h2⟩
 rcases h with h | h
 ·
  exact h2 h
 ·
  exact h1 h
theorem leaf_g1 {u x : Int} (h : (u == x || u == 8589934592) = false) : leafG u x = 1048576 ∧ leafG u x ≠ 0 := by
 have : leafG u x = 1048576 := by
  unfold leafG
  rw [if_pos]
  rw [Bool.or_eq_false_iff, beq_eq_false_iff_ne, beq_eq_false_iff_ne] at h
  simp only [Bool.and_eq_true, decide_eq_true_eq]
  exact ⟨h.2, h.1⟩
 exact ⟨this, by omega⟩
theorem leaf_end {rows : List (List Int)} {l w : Nat} {v : List Int} {seen : List Nat} {m : List (Int × Int)} {b : Int} (hb : 0 ≤ b) (hv : rows[w]? = some v) (h : MapF m (leafM rows l (v.getD l 0) seen)) (hnd : seen.Nodup) (hlt : ∀ i ∈ seen, i < (stM rows l).length) (hall : ∀ i (p : Int × Int), (stM rows l)[i]? = some p → i ∈ seen) :
  MapR (statesF rows l) ((statesF rows l).map (leafG ((rows.getD w []).getD l 0))) b m := by
 rw [getD_of hv]
 have hgv : ∀ x, leafG (v.getD l 0) x = 0 ∨ leafG (v.getD l 0) x = 1048576 := fun x => by
  cases e : (v.getD l 0 == x || v.getD l 0 == 8589934592) with
  | true => exact .inl (leaf_g0 e)
  | false => exact .inr (leaf_g1 e).1
 refine ⟨by rw [List.length_map], h.nd, fun i x c hx hcx => ?_, fun p hp => ?_, ?_, fun c hcm => ?_⟩
 ·
  rw [List.getElem?_map, hx] at hcx
  simp only [Option.map_some, Option.some.injEq] at hcx
  subst hcx
  rw [h.get]
  unfold leafM
  have hin := (visK_all hnd hlt hall x).2 (List.mem_of_getElem? hx)
  rcases hgv x with e | e
  ·
   rw [if_pos ⟨hin, e⟩, e, if_pos (by omega)]
  ·
   rw [if_neg (fun g => by omega), e, if_neg (by omega)]
 ·
  have := h.mem hp
  unfold leafM at this
  split at this
  ·
   rename_i g; exact visK_old g.1
  ·
   cases this
 ·
  by_cases e : v.getD l 0 = 8589934592
  ·
   refine ⟨leafG (v.getD l 0) 0, List.mem_map.2 ⟨0, st_mem.2 (.inl rfl), rfl⟩, ?_⟩
   rw [leaf_g0 (by rw [e]; simp)]; omega
  ·
   refine ⟨leafG (v.getD l 0) (v.getD l 0), List.mem_map.2 ⟨v.getD l 0, st_mem.2 (.inr ⟨⟨v, List.mem_of_getElem? hv, rfl⟩, e⟩), rfl⟩, ?_⟩
   rw [leaf_g0 (by simp)]; omega
 ·
  obtain ⟨x, _, rfl⟩ := List.mem_map.1 hcm
  rcases hgv x with e | e <;> rw [e] <;> omega
/-! ### Two parts -/
def totF (st ca cb : List Int) (j : Nat) (x : Int) : Int := (if 1 ≤ j then belowF st ca x else 0) + (if 2 ≤ j then belowF st cb x else 0)
def gF (st ca cb : List Int) (j : Nat) (x : Int) : Option Int := if x ∈ st ∧ 1 ≤ j then some (totF st ca cb j x) else none
def hF (rows : List (List Int)) (l : Nat) (ca cb : List Int) (j : Nat) (seen : List Nat) (x : Int) : Option Int := if x ∈ visK rows l seen then some (totF (statesF rows l) ca cb (j + 1) x) else gF (statesF rows l) ca cb j x
theorem gF_0 {st ca cb : List Int} : MapF [] (gF st ca cb 0) := MapF.nil.congr fun x => by unfold gF; rw [if_neg (fun h => by omega)]
theorem hF_0 {rows : List (List Int)} {l j : Nat} {ca cb : List Int} {m : List (Int × Int)} (h : MapF m (gF (statesF rows l) ca cb j)) : MapF m (hF rows l ca cb j []) := h.congr fun x => by unfold hF visK visO; simp
theorem hF_end {rows : List (List Int)} {l j : Nat} {ca cb : List Int} {m : List (Int × Int)} {seen : List Nat} (h : MapF m (hF rows l ca cb j seen)) (hnd : seen.Nodup) (hlt : ∀ i ∈ seen, i < (stM rows l).length) (hall : ∀ i (p : Int × Int), (stM rows l)[i]? = some p → i ∈ seen) : MapF m (gF (statesF rows l) ca cb (j + 1)) :=
 h.congr fun x => by
  unfold hF
  by_cases g : x ∈ visK rows l seen
  ·
   rw [if_pos g]; unfold gF; rw [if_pos ⟨visK_old g, by omega⟩]
  ·
   have g' : x ∉ statesF rows l := fun e => g ((visK_all hnd hlt hall x).2 e)
   rw [if_neg g]; unfold gF; rw [if_neg (fun e => g' e.1), if_neg (fun e => g' e.1)]
theorem hF_at {rows : List (List Int)} {l j : Nat} {ca cb : List Int} {m : List (Int × Int)} {seen : List Nat} {i : Nat} {p : Int × Int} (h : MapF m (hF rows l ca cb j seen)) (hp : (stM rows l)[i]? = some p) (hs : i ∉ seen) : (mget m p.1).getD 0 = totF (statesF rows l) ca cb j p.1 := by
 rw [h.get]
 unfold hF
 rw [if_neg (visK_new hp hs)]
 unfold gF
 by_cases e : 1 ≤ j
 ·
  rw [if_pos ⟨(stM_at hp).1, e⟩]; rfl
 ·
  rw [if_neg (fun g => e g.2)]
  unfold totF
  rw [if_neg e, if_neg (by omega)]; rfl
theorem tot_step {st ca cb : List Int} {j : Nat} {x : Int} (hj : j < 2) : totF st ca cb j x + belowF st (if j = 0 then ca else cb) x = totF st ca cb (j + 1) x := by
 unfold totF
 rcases (show j = 0 ∨ j = 1 by omega) with e | e <;> subst e <;> simp
theorem hF_set {rows : List (List Int)} {l j : Nat} {ca cb : List Int} {m : List (Int × Int)} {seen : List Nat} {i : Nat} {p : Int × Int} (h : MapF m (hF rows l ca cb j seen)) (hp : (stM rows l)[i]? = some p) : MapF (mset m p.1 (totF (statesF rows l) ca cb (j + 1) p.1)) (hF rows l ca cb j (seen ++ [i])) :=
 (h.set p.1 _).congr fun x => by
  unfold hF
  rw [visK_snoc hp]; simp only [List.mem_append, List.mem_singleton]
  by_cases e : p.1 = x
  ·
   subst e
   rw [if_pos rfl, if_pos (.inr rfl)]
  ·
   rw [if_neg e]
   by_cases g : x ∈ visK rows l seen
   ·
    rw [if_pos g, if_pos (.inl g)]
   ·
    rw [if_neg g, if_neg]
    rintro (h1 | h1)
    ·
     exact g h1
    ·
     exact e h1.symm
theorem two_end {st ca cb : List Int} {ba bb b : Int} {ma mb m : List (Int × Int)} (hne : st ≠ []) (hA : MapR st ca ba ma) (hB : MapR st cb bb mb) (h1 : ba ≤ 1000) (h2 : bb ≤ 1000) (hb : ba + bb + 8 ≤ b) (h : MapF m (gF st ca cb 2)) : MapR st (st.map (twoG st ca cb)) b m := by
 have ha : ∀ x, 0 ≤ belowF st ca x ∧ belowF st ca x ≤ ba + 4 := fun x => by
  have := below_eq hA h1 (.refl _) x
  exact ⟨this.2.1, this.2.2.1⟩
 have hbb : ∀ x, 0 ≤ belowF st cb x ∧ belowF st cb x ≤ bb + 4 := fun x => by
  have := below_eq hB h2 (.refl _) x
  exact ⟨this.2.1, this.2.2.1⟩
 have hlt : ∀ x, 0 ≤ twoG st ca cb x ∧ twoG st ca cb x < 1048576 ∧ twoG st ca cb x ≤ b := fun x => by
  have := ha x; have := hbb x
  unfold twoG; omega
 refine ⟨by rw [List.length_map], h.nd, fun i x c hx hcx => ?_, fun p hp => ?_, ?_, fun c hcm => ?_⟩
 ·
  rw [List.getElem?_map, hx] at hcx
  simp only [Option.map_some, Option.some.injEq] at hcx
  subst hcx
  rw [h.get, if_pos (hlt x).2.1]
  unfold gF
  rw [if_pos ⟨List.mem_of_getElem? hx, by omega⟩]
  unfold totF twoG; simp
 ·
  have := h.mem hp
  unfold gF at this
  split at this
  ·
   rename_i g; exact g.1
  ·
   cases this
 ·
  obtain ⟨x, hx⟩ := List.exists_mem_of_ne_nil st hne
  exact ⟨_, List.mem_map.2 ⟨x, hx, rfl⟩, (hlt x).2.1⟩
 ·
  obtain ⟨x, _, rfl⟩ := List.mem_map.1 hcm
  have := hlt x
  exact ⟨this.1, fun _ => this.2.2, by omega⟩
theorem ent_least {st cs : List Int} {b : Int} {m vs : List (Int × Int)} (h : MapR st cs b m) (hp : vs.Perm m) : leastF (vs.map (·.2)) = leastF cs := by
 obtain ⟨c, hc, hlt⟩ := h.pos
 have hne : cs ≠ [] := List.ne_nil_of_mem hc
 obtain ⟨h1, h2⟩ := least_in hne
 have h3 := h2 c hc
 obtain ⟨i, hi⟩ := List.getElem?_of_mem h1
 have hil := (List.getElem?_eq_some_iff.1 hi).1
 have hx : st[i]? = some (st[i]'(by rw [← h.len]; exact hil)) := List.getElem?_eq_getElem _
 have hm := h.ent.2 ⟨i, hx, hi, by omega⟩
 refine least_eq (List.mem_map.2 ⟨_, hp.mem_iff.2 hm, rfl⟩) (fun x hx => ?_)
 obtain ⟨p, hpm, rfl⟩ := List.mem_map.1 hx
 obtain ⟨j, _, hj, _⟩ := (h.ent (x := p.1) (c := p.2)).1 (hp.mem_iff.1 hpm)
 exact h2 _ (List.mem_of_getElem? hj)
section
variable {C : Cx} {E : Env} {I : HMap} {loc : Go.Kn.Loc} {S : GS} {dst : Option Tmp} {ty : TypeId} {pos : String} {af : Array Edge} {gd : Option (Nat × Bool)} {x y : Operand} {a : Int}
theorem ev_lookupI {m : List (Int × Int)} {t k e r : Nat} (hT : MpT C.P t k e (.int .i64 0)) (hK : KeyOK C.P k eiv) (hx : evalS S E x = some (.map (some r))) (hy : evalS S E y = some (eiv a)) (hm : conj S = true → Mem I loc r (mapO eiv eiv m)) :
  EvalOp C S E I loc ⟨dst, .lookup t x y false, ty, pos, af, gd⟩ (.int .i64 ((mget m a).getD 0)) := by
 have := ev_lookup (C := C) (S := S) (dst := dst) (ty := ty) (pos := pos) (af := af) (gd := gd) hT hK hx hy hm
 cases h : mget m a with
 | none => rw [h] at this; exact this
 | some b => rw [h] at this; exact this
end
theorem two_cell {I : HMap} {b j ra rb r : Nat} {e : TypeId} {fz : Nat × Nat} {l : Go.Kn.Loc} (hr : (if j = 0 then ra else rb) = r) (h : j < 2) : Cell I ((b, .cells (([[Value.map (some ra)], [Value.map (some rb)]] : List (List Value)).flatten).toArray e fz) :: l) b (((j : Nat) : Int).toNat * 1) (.map (some r)) := by
 subst hr
 rcases (show j = 0 ∨ j = 1 by omega) with e | e <;> subst e <;> exact .here rfl
theorem MapR.small {st cs : List Int} {b : Int} {m : List (Int × Int)} (h : MapR st cs b m) : m.length ≤ st.length := by
 have := h.nd.length_le_of_subset (l₂ := st) (fun x hx => by
  obtain ⟨p, hp, rfl⟩ := List.mem_map.1 hx
  exact h.old p hp)
 simpa using this
theorem tot_in {st ca cb : List Int} {ba bb : Int} {ma mb : List (Int × Int)} (hA : MapR st ca ba ma) (hB : MapR st cb bb mb) (h1 : ba ≤ 1000) (h2 : bb ≤ 1000) (j : Nat) (x : Int) : 0 ≤ totF st ca cb j x ∧ totF st ca cb j x ≤ 3000 := by
 have a := below_eq hA h1 (.refl _) x
 have b := below_eq hB h2 (.refl _) x
 unfold totF
 split <;> split <;> omega
structure PrE (I : HMap) (fid brow bloc bcst bcla bbel rm : Nat) (av bv : Option Addr) (n c n2 c2 : Nat) (xs : List Int) (rows : List (List Int)) (l : Nat) : Prop where
 row : Cell I [] brow 0 (.slice bv n2 c2)
 loc : Cell I [] bloc 0 (.int .i64 l)
 cst : Cell I [] bcst 0 (.map (some rm))
 cla : Cell I [] bcla 0 (.slice av n c)
 bel : Cell I [] bbel 0 (.func (.func fid) #[] #[capP brow, capP bloc, capP bcst, capP bcla, capP bbel])
 mp : ImO I rm (mapO eiv eiv (stM rows l))
 deb : DebOK I
 hS : Sl I 1 encI av n c xs
 hV : SlN I bv n2 c2 rows
theorem PrE.mono {I I' : HMap} {fid brow bloc bcst bcla bbel rm : Nat} {av bv : Option Addr} {n c n2 c2 : Nat} {xs : List Int} {rows : List (List Int)} {l : Nat} (h : PrE I fid brow bloc bcst bcla bbel rm av bv n c n2 c2 xs rows l) (hI : HLe I I') : PrE I' fid brow bloc bcst bcla bbel rm av bv n c n2 c2 xs rows l :=
 ⟨h.row.mono hI, h.loc.mono hI, h.cst.mono hI, h.cla.mono hI, h.bel.mono hI, h.mp.mono hI, h.deb.mono hI, h.hS.mono hI, h.hV.mono hI⟩
theorem u64_tab : ((List.range 64).all fun s => IntKind.u64.wrap (s : Int) == (s : Int)) = true := by kernel_rfl
theorem u64_in {s : Int} (hs : 0 ≤ s ∧ s ≤ 63) : IntKind.u64.wrap s = s := by
 have h := List.all_eq_true.1 u64_tab s.toNat (List.mem_range.2 (by omega))
 rw [show ((s.toNat : Nat) : Int) = s by omega] at h
 exact eq_of_beq h
theorem stM_put {rows : List (List Int)} {l k : Nat} {r : List Int} (h : rows[k]? = some r) (hne : r.getD l 0 ≠ 8589934592) : mset (stM (rows.take k) l) (r.getD l 0) 0 = stM (rows.take (k + 1)) l := by
 have hst := st_step (l := l) h
 unfold stM
 rw [hst]
 cases e : (statesF (rows.take k) l).any (fun x => x == r.getD l 0) with
 | true =>
  rw [st_yes (by rw [e, Bool.or_true])]
  refine mset_same _ _ _ ?_
  obtain ⟨x, hx, hxe⟩ := List.any_eq_true.1 e
  have hxe := eq_of_beq hxe
  subst hxe
  have hnd := st_nd (rows.take k) l
  have := mget_at (m := (statesF (rows.take k) l).map fun x => (x, (0 : Int))) (by rw [List.map_map]; simpa [Function.comp_def] using hnd) (List.mem_map.2 ⟨_, hx, rfl⟩)
  exact this
 | false =>
  rw [st_no (by rw [e, Bool.or_false]; exact beq_eq_false_iff_ne.2 hne), List.map_append]
  refine mset_new _ _ _ 0 ?_
  have hn : mget ((statesF (rows.take k) l).map fun x => (x, (0 : Int))) (r.getD l 0) = none := mget_none.2 (by
   rw [List.map_map]
   intro hm
   obtain ⟨x, hx, hxe⟩ := List.mem_map.1 hm
   have := List.any_eq_false.1 e x hx
   exact this (by simpa using hxe))
  rw [← mget_midx _ _ 0] at hn
  exact Option.map_eq_none_iff.1 hn
theorem stM_skip {rows : List (List Int)} {l k : Nat} {r : List Int} (h : rows[k]? = some r) (he : r.getD l 0 = 8589934592) : stM (rows.take k) l = stM (rows.take (k + 1)) l := by
 have hst := st_step (l := l) h
 unfold stM
 rw [hst, st_yes (by rw [he]; rfl)]
end
section
open Go Go.Kn Go.Proofs
theorem art_162 : ArT Tryz.prog 162 64 5 1 := .of (by kernel_rfl)
theorem cvt_5_3 : CvT Tryz.prog 5 3 .i64 := ⟨by kernel_rfl, by kernel_rfl⟩
theorem fun_127 : Fun Tryz.prog 127 := .of Tryz.func127 (by kernel_rfl) (by kernel_rfl)
theorem sct_5 : ScT Tryz.prog 5 := .of (by kernel_rfl)
theorem w_tz64 {I : HMap} (hD : DebOK I) {s : Int} (hs : 1 ≤ s ∧ s ≤ 63) (h1 : singF s = true) : RetV Tryz.prog 127 [.int .u64 s] I (.int .i64 (witF s)) := by
 intro g H w hw
 refine enter Tryz.func127 rfl Tryz.ntmps127 rfl hw ?_
 obtain ⟨hd1, hd2⟩ := deb_ok hs h1
 have hcell : ∀ loc, Cell I loc 1 (0 + (debX s).toNat * 1) (.int .u8 (debT.getD (debX s).toNat 0)) := fun loc => by rw [show 0 + (debX s).toNat * 1 = (debX s).toNat by omega]; exact (hD _ (by omega)).any
 refine zR (zA (zN (X_seq (zR ?_))))
 refine zM ?_
 refine zC (zN ?_)
 refine zI ?_ ?_ <;> intro hc4
 ·
  have h := hc4; simp at h; omega
 refine X_skip (at_then (zR (zM ?_)))
 refine zM ?_
 refine zV (ev_negU rfl) ?_
 refine zV (ev_andU rfl rfl) ?_
 refine zV (ev_ar rfl rfl rfl) ?_
 refine zV (ev_shr rfl rfl (by decide) (rfl : min _ _ = 58)) ?_
 refine zV (ev_indexArr rfl rfl art_162 (fun hg => by exact hd1)) ?_
 refine zV (ev_load rfl sct_5 (fun hg => by exact (hcell _))) ?_
 refine zV (ev_convI rfl cvt_5_3) ?_
 refine zA (zN (X_ret ?_))
 first
 | exact at_ret1 rfl rfl (fun w hw => ⟨by rw [hd2], hw.drop⟩)
theorem w_tz {I : HMap} (hD : DebOK I) {s : Int} (hs : 1 ≤ s ∧ s ≤ 63) (h1 : singF s = true) : RetV Tryz.prog 110 [.int .u64 s] I (.int .i64 (witF s)) := by
 intro g H w hw
 refine enter Tryz.func110 rfl Tryz.ntmps110 rfl hw ?_
 refine zR (zA (zN (X_seq ?_)))
 refine zI ?_ ?_ <;> intro hcK
 ·
  cases hcK
 refine X_skip (at_then (zR (zM ?_)))
 refine XO_callV0 (cap := []) (vs := [_]) rfl rfl fun_127 (w_tz64 hD hs h1) rfl rfl ?_
 refine zA (zN (X_ret ?_))
 exact at_ret1 rfl rfl (fun w hw => ⟨by rfl, hw.drop⟩)
end
section
open Go Go.Kn Go.Proofs
theorem cvt_3_100 : CvT Tryz.prog 3 100 .u64 := ⟨by kernel_rfl, by kernel_rfl⟩
theorem elt_143 : ElT Tryz.prog 143 141 1 8 := .of (by kernel_rfl)
theorem fun_109 : Fun Tryz.prog 109 := .of Tryz.func109 (by kernel_rfl) (by kernel_rfl)
theorem fun_110 : Fun Tryz.prog 110 := .of Tryz.func110 (by kernel_rfl) (by kernel_rfl)
theorem fun_111 : Fun Tryz.prog 111 := .of Tryz.func111 (by kernel_rfl) (by kernel_rfl)
theorem fun_112 : Fun Tryz.prog 112 := .of Tryz.func112 (by kernel_rfl) (by kernel_rfl)
theorem key_3 : KeyOK (α := Int) Tryz.prog 3 (.int .i64) := key_int (by kernel_rfl)
theorem mpt_141 : MpT Tryz.prog 141 3 3 (.int .i64 0) := ⟨by kernel_rfl, .of (by kernel_rfl)⟩
theorem sct_141 : ScT Tryz.prog 141 := .of (by kernel_rfl)
theorem sct_142 : ScT Tryz.prog 142 := .of (by kernel_rfl)
theorem sct_22 : ScT Tryz.prog 22 := .of (by kernel_rfl)
theorem slt_143 : SlT Tryz.prog 143 141 1 := .of (by kernel_rfl)
theorem w_tzW {I : HMap} (hD : DebOK I) {s : Int} (hs : 1 ≤ s ∧ s ≤ 63) (h1 : singF s = true) : RetV Tryz.prog 110 [.int .u64 (IntKind.u64.wrap s)] I (.int .i64 (witF s)) := by
 rw [u64_in (by omega)]; exact w_tz hD hs h1
theorem w_partsU {I : HMap} {av : Option Addr} {n c m : Nat} {xs : List Int} (hS : Sl I 1 encI av n c xs) (hn : n ≤ 100000) (hc : chkN m xs = 0) {s : Int} (hin : s ∈ xs) (h1 : singF s = false) : RetV Tryz.prog 50 [.slice av n c, .int .i64 s] I (.tuple #[.int .i64 (splitF xs s), .int .i64 (s - splitF xs s), .bool true]) := by
 have h := w_parts hS hn s ((chkN_ok hc).2.2.2 s hin)
 obtain ⟨e1, e2, e3⟩ := parts_eq hc hin h1
 rw [e1, e2, e3] at h; exact h
theorem w_leastE {I : HMap} {av : Option Addr} {n c : Nat} {xs : List Int} {v : Int} (e : leastF xs = v) (hS : Sl I 1 encI av n c xs) (hn : n ≤ 100000) (h0 : 0 < n) : RetV Tryz.prog 112 [.slice av n c] I (.int .i64 v) := by
 rw [← e]; exact w_least hS hn h0
theorem w_price1 {I : HMap} {brow bloc bcst bcla bbel rm : Nat} {av bv : Option Addr} {n c n2 c2 : Nat} {xs : List Int} {rows : List (List Int)} {l : Nat} (hE : PrE I 109 brow bloc bcst bcla bbel rm av bv n c n2 c2 xs rows l) (hn : n ≤ 100000) (hn2 : n2 ≤ 100000) (hl : ∀ r ∈ rows, l < r.length) (hc : chkN rows.length xs = 0) (f : Nat) (s : Int) (hok : OkS rows.length xs s) (ih : ∀ (I' : HMap), HLe I I' → ∀ (s' : Int), OkS rows.length xs s' → s' < s → RetM Tryz.prog 109 ([.int .i64 s'] ++ [capP brow, capP bloc, capP bcst, capP bcla, capP bbel]) I' [] (MapQ (statesF rows l) (costsF rows xs l f s') (8 * (s' - 1)))) : RetM Tryz.prog 109 [.int .i64 s, capP brow, capP bloc, capP bcst, capP bcla, capP bbel] I [] (MapQ (statesF rows l) (costsF rows xs l (f + 1) s) (8 * (s - 1))) := by
 intro g H w hw
 refine enter Tryz.func109 rfl Tryz.ntmps109 rfl hw ?_
 have hIc := HLe.refl I
 obtain ⟨hs, hV⟩ := hE.hV
 have hH := hV.1
 have hlV := hV.len
 have hal := (chkN_ok hc).1
 have hal6 := (chkN_ok hc).2.1
 have hs63 := ok_le hc hok
 have hsl := st_len (rows := rows) (l := l)
 refine zR (zA ?_)
 refine zN (zR ?_)
 refine XO_makeMap rfl rfl (fun r_20 => ?_)
 refine zA (zN (X_seq (zR ?_)))
 refine zM ?_
 refine XO_callV0 (cap := []) (vs := [_]) rfl rfl fun_95 (w_single _ _) rfl rfl ?_
 refine zN ?_
 refine zI ?_ ?_ <;> intro hc22
 ·
  have hsing : singF s = true := hc22
  have hwn := wit_n (n := rows.length) (by omega) hs63 hsing hok.2.1
  obtain ⟨x, v, hx, hv, hQ⟩ := hV.at (show witF s < n2 by omega)
  have hlv := hl v (List.mem_of_getElem? hv)
  have hu := some_getD (d := 0) rfl hlv
  have hvn := hQ.len
  have hz : (andI s (IntKind.i64.wrap (s - 1)) == 0) = true := by unfold singF at hsing; rw [Bool.and_eq_true] at hsing; exact hsing.2
  refine X_seq ?_
  refine X_draw mixed (by kernel_rfl) ?_
  refine XQ_v0 (ev_load rfl sct_22 (fun hg => by exact hE.row.any)) rfl rfl rfl ?_
  refine XQ_v0 (ev_move rfl) rfl rfl rfl ?_
  refine XQ_v0 (ev_convI rfl cvt_3_100) rfl rfl rfl ?_
  refine XQ_callV0 (cap := []) (vs := [_]) rfl rfl fun_110 (w_tzW hE.deb hs63 hsing) rfl rfl ?_
  refine XQ_v0 (zX slt_22 hH) rfl rfl rfl ?_
  refine XQ_v0 (ev_load rfl sct_23 (fun hg => by exact Sl.get0 hH hx rfl)) rfl rfl rfl ?_
  refine XQ_v0 (ev_load rfl sct_3 (fun hg => by exact hE.loc.any)) rfl rfl rfl ?_
  refine XQ_v0 (zX slt_23 hQ) rfl rfl rfl ?_
  refine XQ_v0 (ev_load rfl sct_3 (fun hg => by exact Sl.get0 hQ hu rfl)) rfl rfl rfl ?_
  refine XQ_v0 (ev_assign rfl) rfl rfl rfl ?_
  refine XQ_nil ?_
  refine at_then (X_seq (zR ?_))
  refine zV (ev_load rfl sct_141 (fun hg => by exact hE.cst.any)) ?_
  refine XO_range (ek := eiv) (ev := eiv) (m := (stM rows l)) rfl mpt_141 rfl rfl (.inl hE.mp) (fun b_33 => ?_)
  refine zN (X_block ?_)
  refine X_loopT [(8, _), (9, _), (33, _)] (.cons rfl (.cons rfl (.cons rfl .nil))) (fun T L0 mz E I' loc' => ∃ (seen : List Nat) (m : List (Int × Int)), mz = (stM rows l).length - seen.length ∧ E = T ∧ I = I' ∧ [(b_33, iterO rm (stM rows l).length seen), (r_20, mapO eiv eiv m)] = loc' ∧ MapF m (leafM rows l (v.getD l 0) seen) ∧ seen.Nodup ∧ ∀ i ∈ seen, i < (stM rows l).length) _ _ _ _ ⟨[], [], rfl, rfl, rfl, rfl, leafM_nil, .nil, fun i h => by cases h⟩ (.cons rfl (.cons rfl (.cons rfl .nil))) (HLe.refl _) rfl ?_
  rintro mz E I' loc' ⟨seen, m, rfl, rfl, rfl, rfl, hm, hnd, hlt⟩
  refine zR ?_
  refine XO_next2 (ek := eiv) (ev := eiv) (m := (stM rows l)) (fun s' => [(b_33, iterO rm (stM rows l).length s'), (r_20, mapO eiv eiv m)]) rfl (fun s' => .here) rfl rfl rfl rfl rfl (.inl hE.mp) (by simp) ?_
  intro t tv s' hno hyes
  refine zN (X_seq ?_)
  refine zI ?_ ?_ <;> intro hc35
  ·
   obtain ⟨i, q, hq, hns, rfl⟩ := hyes hc35
   refine X_skip (at_then (X_block (zR ?_)))
   refine zV (ev_entry (ek := eiv) (ev := eiv) (m := (stM rows l)) (p := q) (seen := seen) (i := i) rfl (.inl hE.mp) (.inr (by simp)) hq) ?_
   refine zE ?_
   refine zA ?_
   refine zN (zR ?_)
   refine zM ?_
   refine zM ?_
   refine zC ?_
   refine zM ?_
   refine XO_pushF 3 rfl rfl rfl ?_
   refine zJ (ev_move rfl) ?_
   refine zJ (ev_cmp rfl rfl rfl) ?_
   refine XO_or0 rfl rfl rfl rfl rfl ?_
   refine zN ?_
   refine zI ?_ ?_ <;> intro hc44
   ·
    refine X_region (zM ?_)
    refine zM ?_
    refine XO_mapUpdate (m := m) (ek := eiv) (ev := eiv) (a := q.1) 0 mpt_141 key_3 rfl rfl rfl rfl (by repeat (first | exact Upd.here | apply Upd.there | apply upd_app)) ?_
    refine XO_nil (at_block_n ?_)
    have hs9 := snd_nodup hnd hlt hns (List.getElem?_eq_some_iff.1 hq).1
    first
    | exact at_met2 _ _ ⟨(stM rows l).length - (seen ++ [i]).length, by rw [List.length_append, List.length_singleton]; have := hs9.2.2; rw [List.length_append, List.length_singleton] at this; omega, seen ++ [i], mset m q.1 0, rfl, rfl, rfl, rfl, leafM_yes hm hq (leaf_g0 hc44), hs9.1, hs9.2.1⟩ (.cons rfl (.cons rfl (.cons rfl .nil))) (by repeat (first | exact .refl | exact subL_left | refine subL_app ?_ | refine .drop ?_ | refine subL_add ?_))
   refine X_skip (at_block_n ?_)
   have hs9 := snd_nodup hnd hlt hns (List.getElem?_eq_some_iff.1 hq).1
   first
   | exact at_met2 _ _ ⟨(stM rows l).length - (seen ++ [i]).length, by rw [List.length_append, List.length_singleton]; have := hs9.2.2; rw [List.length_append, List.length_singleton] at this; omega, seen ++ [i], m, rfl, rfl, rfl, rfl, leafM_no hm hq (leaf_g1 hc44).2, hs9.1, hs9.2.1⟩ (.cons rfl (.cons rfl (.cons rfl .nil))) (by repeat (first | exact .refl | exact subL_left | refine subL_app ?_ | refine .drop ?_ | refine subL_add ?_))
  obtain ⟨rfl, hall⟩ := hno hc35
  refine X_exit (at_then_e (at_then_e (at_block_hit (at_then (zR (zM ?_))))))
  refine zA (zN (X_ret (at_then_r ?_)))
  first
  | exact at_ret1 rfl rfl (fun w hw => by obtain ⟨I9, h91, h92, h93⟩ := hw.freezeAll; exact ⟨_, I9, [], rfl, hIc.trans h91, h92, rfl, r_20, m, rfl, h93 _ _ (by simp), by rw [costs_leaf hz]; exact leaf_end (by omega) hv hm hnd hlt hall⟩)
 have hns0 : singF s = false := hc22
 obtain ⟨hin, ok1, ok2, hp1, hp2, _, _⟩ := first_part hc hok hns0
 have hz : (andI s (IntKind.i64.wrap (s - 1)) == 0) = false := by unfold singF at hns0; rw [decide_eq_true (show s > 0 by omega), Bool.true_and] at hns0; exact hns0
 refine X_skip (at_then (zR ?_))
 refine zV (ev_load rfl sct_23 (fun hg => by exact hE.cla.any)) ?_
 refine zM ?_
 refine XO_callV0 (cap := []) (vs := [_, _]) rfl rfl fun_50 (w_partsU hE.hS hn hc hin hns0) rfl rfl ?_
 refine zM ?_
 refine zE ?_
 refine zE ?_
 refine zE ?_
 refine zA ?_
 refine zA ?_
 refine zA (zN (X_seq (X_seq ?_)))
 have hD := HLe.refl I
 refine X_drawC mixed ?_
 refine zT 0 rfl (ev_load rfl sct_142 (fun hg => by exact hE.bel.any)) hD ?_
 refine zT 1 rfl (ev_move rfl) hD ?_
 refine zT 3 rfl (ev_load rfl sct_142 (fun hg => by exact hE.bel.any)) hD ?_
 refine zT 4 rfl (ev_move rfl) hD ?_
 refine zT 8 rfl (ev_move rfl) hD ?_
 refine XD_one 2 rfl (by kernel_rfl) ?_
 refine XO_callM (cap := [capP brow, capP bloc, capP bcst, capP bcla, capP bbel]) (vs := [_]) rfl rfl fun_109 (by exact .nil) (ih _ hIc _ ok1 hp2) rfl rfl ?_
 rintro vv2 I2 L2 hI2 ⟨rfl, ra, ma, rfl, hMa, hRa⟩
 have hE := hE.mono hI2; have hIc := hIc.trans hI2; have hD := hD.trans hI2
 refine XO_nil ?_
 refine zD hD ?_
 refine XD_one 5 rfl (by kernel_rfl) ?_
 refine XO_callM (cap := [capP brow, capP bloc, capP bcst, capP bcla, capP bbel]) (vs := [_]) rfl rfl fun_109 (by exact .nil) (ih _ hIc _ ok2 (by omega)) rfl rfl ?_
 rintro vv3 I3 L3 hI3 ⟨rfl, rb, mb, rfl, hMb, hRb⟩
 have hE := hE.mono hI3; have hMa := hMa.mono hI3; have hIc := hIc.trans hI3; have hD := hD.trans hI3
 refine XO_nil ?_
 refine zD hD ?_
 refine XD_one 6 rfl (by kernel_rfl) ?_
 refine XO_buildSlice (ps := [(0, _), (1, _)]) (m := [[.map (some ra)], [.map (some rb)]]) elt_143 rfl (.cons rfl (.cons rfl (.nil))) rfl (by simp) (by decide) (by decide) rfl rfl (fun b_61 => ?_)
 refine XO_nil ?_
 refine zD hD ?_
 refine zT 7 rfl (ev_lenS rfl slt_143) hD ?_
 refine XD_done (by kernel_rfl) ?_
 refine at_noP ?_
 refine at_then (X_block ?_)
 refine X_loopT [(3, _), (8, _), (61, _), (62, _)] (.cons rfl (.cons rfl (.cons rfl (.cons rfl .nil)))) (fun T L0 mz E I' loc' => ∃ (j : Nat) (m : List (Int × Int)), mz = 2 - j ∧ E = (63, .int .i64 j) :: T ∧ HLe I3 I' ∧ [(b_61, .cells (([[Value.map (some ra)], [Value.map (some rb)]] : List (List Value)).flatten).toArray 141 (0, 0)), (r_20, mapO eiv eiv m)] = loc' ∧ j ≤ 2 ∧ MapF m (gF (statesF rows l) (costsF rows xs l f (splitF xs s)) (costsF rows xs l f (s - splitF xs s)) j)) _ _ _ _ ⟨0, [], rfl, rfl, HLe.refl _, rfl, Nat.zero_le _, gF_0⟩ (.cons rfl (.cons rfl (.cons rfl (.cons rfl (.cons rfl .nil))))) (HLe.refl _) rfl ?_
 rintro mz E J4 loc' ⟨j, m, rfl, rfl, hJ, rfl, hj, hm⟩
 have hE := hE.mono hJ; have hMa := hMa.mono hJ; have hMb := hMb.mono hJ; have hIc := hIc.trans hJ
 have hB2 := hJ
 refine zR (zC (zN (X_seq ?_)))
 refine zI ?_ ?_ <;> intro hc64
 ·
  have hlt_j : j < 2 := by have h := hc64; simp at h; omega
  obtain ⟨rj, mj, bj, hrj, hMj, hRj, hbj⟩ : ∃ rj mj bj, (if j = 0 then ra else rb) = rj ∧ ImO J4 rj (mapO eiv eiv mj) ∧ MapR (statesF rows l) (if j = 0 then (costsF rows xs l f (splitF xs s)) else (costsF rows xs l f (s - splitF xs s))) bj mj ∧ bj ≤ 1000 := by
   rcases (show j = 0 ∨ j = 1 by omega) with e | e
   ·
    subst e; exact ⟨ra, ma, 8 * (splitF xs s - 1), rfl, hMa, hRa, by omega⟩
   subst e; exact ⟨rb, mb, 8 * (s - splitF xs s - 1), rfl, hMb, hRb, by omega⟩
  have hmjl := hRj.small
  refine X_skip (at_then (X_seq (X_block (zR ?_))))
  refine zV (ev_indexOwn rfl rfl slt_143 (fun hg => by omega)) ?_
  refine zV (ev_load rfl sct_141 (fun hg => by exact two_cell hrj hlt_j)) ?_
  refine zA ?_
  refine zN (zR ?_)
  refine zV (ev_load rfl sct_141 (fun hg => by exact hE.cst.any)) ?_
  refine XO_range (ek := eiv) (ev := eiv) (m := (stM rows l)) rfl mpt_141 rfl rfl (.inl hE.mp) (fun b_68 => ?_)
  refine zN (X_block ?_)
  refine X_loopT [(3, _), (8, _), (15, _), (61, _), (62, _), (63, _), (68, _)] (.cons rfl (.cons rfl (.cons rfl (.cons rfl (.cons rfl (.cons rfl (.cons rfl .nil))))))) (fun T L0 mz E I' loc' => ∃ (seen : List Nat) (m2 : List (Int × Int)), mz = (stM rows l).length - seen.length ∧ E = T ∧ HLe J4 I' ∧ [(b_68, iterO rm (stM rows l).length seen), (b_61, .cells (([[Value.map (some ra)], [Value.map (some rb)]] : List (List Value)).flatten).toArray 141 (0, 0)), (r_20, mapO eiv eiv m2)] = loc' ∧ MapF m2 (hF rows l (costsF rows xs l f (splitF xs s)) (costsF rows xs l f (s - splitF xs s)) j seen) ∧ seen.Nodup ∧ ∀ i ∈ seen, i < (stM rows l).length) _ _ _ _ ⟨[], m, rfl, rfl, HLe.refl _, rfl, hF_0 hm, .nil, fun i h => by cases h⟩ (.cons rfl (.cons rfl (.cons rfl (.cons rfl (.cons rfl (.cons rfl (.cons rfl .nil))))))) (HLe.refl _) rfl ?_
  rintro mz E J5 loc' ⟨seen, m2, rfl, rfl, hJ, rfl, hm2, hnd4, hlt4⟩
  have hE := hE.mono hJ; have hMa := hMa.mono hJ; have hMb := hMb.mono hJ; have hMj := hMj.mono hJ; have hIc := hIc.trans hJ; have hB2 := hB2.trans hJ
  have hB4 := hJ
  refine zR ?_
  refine XO_next2 (ek := eiv) (ev := eiv) (m := (stM rows l)) (fun s' => [(b_68, iterO rm (stM rows l).length s'), (b_61, .cells (([[Value.map (some ra)], [Value.map (some rb)]] : List (List Value)).flatten).toArray 141 (0, 0)), (r_20, mapO eiv eiv m2)]) rfl (fun s' => .here) rfl rfl rfl rfl rfl (.inl hE.mp) (by simp) ?_
  intro t tv s' hno hyes
  refine zN (X_seq ?_)
  refine zI ?_ ?_ <;> intro hc70
  ·
   obtain ⟨i, q, hq, hns, rfl⟩ := hyes hc70
   have hlk := hF_at hm2 hq hns
   have htot := tot_in hRa hRb (by omega) (by omega) j q.1
   refine X_skip (at_then (X_block (zR ?_)))
   refine zV (ev_entry (ek := eiv) (ev := eiv) (m := (stM rows l)) (p := q) (seen := seen) (i := i) rfl (.inl hE.mp) (.inr (by simp)) hq) ?_
   refine zE ?_
   refine zA ?_
   refine zN (zR ?_)
   refine zA (zN (X_seq (zR ?_)))
   refine zM ?_
   refine XO_range (ek := eiv) (ev := eiv) (m := mj) rfl mpt_141 rfl rfl (.inl hMj) (fun b_74 => ?_)
   refine zN (X_block ?_)
   refine X_loopT [(3, _), (8, _), (15, _), (16, _), (61, _), (62, _), (63, _), (68, _), (74, _)] (.cons rfl (.cons rfl (.cons rfl (.cons rfl (.cons rfl (.cons rfl (.cons rfl (.cons rfl (.cons rfl .nil))))))))) (fun T L0 mz E I' loc' => ∃ (seen6 : List Nat) (v6 : Value) (q6 : Nat) (L : Go.Kn.Loc), mz = mj.length - seen6.length ∧ E = (17, v6) :: T ∧ J5 = I' ∧ L ++ [(b_74, iterO rj mj.length seen6), (b_68, iterO rm (stM rows l).length (seen ++ [i])), (b_61, .cells (([[Value.map (some ra)], [Value.map (some rb)]] : List (List Value)).flatten).toArray 141 (0, 0)), (r_20, mapO eiv eiv m2)] = loc' ∧ OwnS 3 1 v6 q6 (((visO mj seen6).map fun p => p.2 + stepF q.1 p.1).flatMap encI) L ∧ q6 = seen6.length ∧ seen6.Nodup ∧ ∀ i ∈ seen6, i < mj.length) _ _ _ _ ⟨[], _, 0, [], rfl, rfl, rfl, rfl, OwnS.nil, rfl, .nil, fun i h => by cases h⟩ (.cons rfl (.cons rfl (.cons rfl (.cons rfl (.cons rfl (.cons rfl (.cons rfl (.cons rfl (.cons rfl (.cons rfl .nil)))))))))) (HLe.refl _) rfl ?_
   rintro mz E I' loc' ⟨seen6, v6, q6, L, rfl, rfl, rfl, rfl, hO6, hq6, hnd6, hlt6⟩
   have hsl6 := seen_lt hnd6 hlt6
   refine zR ?_
   refine XO_next2 (ek := eiv) (ev := eiv) (m := mj) (fun s' => L ++ [(b_74, iterO rj mj.length s'), (b_68, iterO rm (stM rows l).length (seen ++ [i])), (b_61, .cells (([[Value.map (some ra)], [Value.map (some rb)]] : List (List Value)).flatten).toArray 141 (0, 0)), (r_20, mapO eiv eiv m2)]) rfl (fun s' => upd_app .here) rfl rfl rfl rfl rfl (.inl hMj) (by simp) ?_
   intro t tv s' hno hyes
   refine zN (X_seq ?_)
   refine zI ?_ ?_ <;> intro hc76
   ·
    obtain ⟨i6, p6, hp6, hns6, rfl⟩ := hyes hc76
    have hb6 := (below_eq hRj hbj (.refl _) q.1).2.2.2 p6 (List.mem_of_getElem? hp6)
    have hst6 := step_in q.1 p6.1
    refine X_skip (at_then (X_block (zR ?_)))
    refine zV (ev_entry (ek := eiv) (ev := eiv) (m := mj) (p := p6) (seen := seen6) (i := i6) rfl (.inl hMj) (.inr (by simp)) hp6) ?_
    refine zE ?_
    refine zE ?_
    refine zA ?_
    refine zA (zN (X_region ?_))
    refine zM ?_
    refine zM ?_
    refine zM ?_
    refine zM ?_
    refine XO_callV0 (cap := []) (vs := [_, _]) rfl rfl fun_111 (w_step _ _ _) rfl rfl ?_
    refine zB ?_
    refine XO_buildSlice (ps := [(0, _)]) (m := [encI (p6.2 + stepF q.1 p6.1)]) elt_23 rfl (.cons rfl (.nil)) rfl (by simp [encI_len]) (by decide) (by decide) rfl rfl (fun b_86 => ?_)
    refine XO_append (v := _) (ys := [(p6.2 + stepF q.1 p6.1)].flatMap encI) (L := L) rfl rfl elt_23 hO6 (by repeat (first | exact .cons .here .nil | exact split_all | exact split_app | apply split_cons | apply split_skip)) ⟨rfl, fun _ => rfl, Cells.here⟩ (one_I _) (by omega) rfl rfl ?_
    intro v9 L9 hO9 _; rw [← List.flatMap_append] at hO9
    refine zA (XO_nil (at_block_n ?_))
    have hs9 := snd_nodup hnd6 hlt6 hns6 (List.getElem?_eq_some_iff.1 hp6).1
    exact at_met2 _ _ ⟨mj.length - (seen6 ++ [i6]).length, by rw [List.length_append, List.length_singleton]; have := hs9.2.2; rw [List.length_append, List.length_singleton] at this; omega, seen6 ++ [i6], v9, q6 + 1, L9, rfl, rfl, rfl, rfl, by rw [vis_snoc hp6, List.map_append]; exact hO9, by rw [List.length_append, List.length_singleton]; omega, hs9.1, hs9.2.1⟩ (.cons rfl (.cons rfl (.cons rfl (.cons rfl (.cons rfl (.cons rfl (.cons rfl (.cons rfl (.cons rfl (.cons rfl .nil)))))))))) (by repeat (first | exact .refl | exact subL_left | refine subL_app ?_ | refine .drop ?_ | refine subL_add ?_))
   obtain ⟨rfl, hall6⟩ := hno hc76
   have hlen6 := (seen_perm hnd6 hlt6 hall6).length_eq
   rw [List.length_range] at hlen6
   have hne6 := hRj.ne
   have hbe := below_eq hRj hbj (vis_all hnd6 hlt6 hall6) q.1
   refine X_exit (at_then_e (at_then_e (at_block_hit (at_then ?_))))
   refine X_freezeO hO6 encI_len (by decide) split_app (fun I7 hI7 af7 cf7 ef7 hLst => ?_)
   subst ef7
   have hE := hE.mono hI7; have hMa := hMa.mono hI7; have hMb := hMb.mono hI7; have hMj := hMj.mono hI7; have hIc := hIc.trans hI7; have hB2 := hB2.trans hI7; have hB4 := hB4.trans hI7
   have hD := HLe.refl I7
   refine X_noP ?_
   refine X_drawS I7 [] mixed ?_
   refine zT 0 rfl (ev_move rfl) hD ?_
   refine zT 1 rfl (ev_move rfl) hD ?_
   refine zT 3 rfl (ev_move rfl) hD ?_
   refine XD_two 2 4 rfl rfl (by kernel_rfl) ?_ ?_
   ·
    refine zV (ev_lookupI (m := m2) (a := q.1) mpt_141 key_3 rfl rfl (fun _ => (by exact Mem.m3))) ?_
    refine XO_nil ?_
    refine zD hD ?_
    refine XD_one 4 rfl (by kernel_rfl) ?_
    refine XO_callV0 (cap := []) (vs := [_]) rfl rfl fun_112 (w_leastE hbe.1 hLst (by omega) (by omega)) rfl rfl ?_
    refine XO_nil ?_
    refine zD hD ?_
    refine zT 5 rfl (ev_arB rfl rfl rfl (fun hg => by omega)) hD ?_
    refine XD_one 6 rfl (by kernel_rfl) ?_
    refine XO_mapUpdate (m := m2) (ek := eiv) (ev := eiv) (a := q.1) ((mget m2 q.1).getD 0 + belowF (statesF rows l) (if j = 0 then (costsF rows xs l f (splitF xs s)) else (costsF rows xs l f (s - splitF xs s))) q.1) mpt_141 key_3 rfl rfl rfl rfl (by repeat (first | exact Upd.here | apply Upd.there | apply upd_app)) ?_
    refine XO_nil ?_
    refine zD hD ?_
    refine XD_done (by kernel_rfl) ?_
    refine at_noP ?_
    refine at_block_n ?_
    have hs9 := snd_nodup hnd4 hlt4 hns (List.getElem?_eq_some_iff.1 hq).1
    rw [hlk, tot_step hlt_j]
    exact at_met2 _ _ ⟨(stM rows l).length - (seen ++ [i]).length, by rw [List.length_append, List.length_singleton]; have := hs9.2.2; rw [List.length_append, List.length_singleton] at this; omega, seen ++ [i], mset m2 q.1 (totF (statesF rows l) (costsF rows xs l f (splitF xs s)) (costsF rows xs l f (s - splitF xs s)) (j + 1) q.1), rfl, rfl, hB4, rfl, hF_set hm2 hq, hs9.1, hs9.2.1⟩ (.cons rfl (.cons rfl (.cons rfl (.cons rfl (.cons rfl (.cons rfl (.cons rfl .nil))))))) (by repeat (first | exact .refl | exact subL_left | refine subL_app ?_ | refine .drop ?_ | refine subL_add ?_))
   refine XO_callV0 (cap := []) (vs := [_]) rfl rfl fun_112 (w_leastE hbe.1 hLst (by omega) (by omega)) rfl rfl ?_
   refine XO_nil ?_
   refine zD hD ?_
   refine XD_one 2 rfl (by kernel_rfl) ?_
   refine zV (ev_lookupI (m := m2) (a := q.1) mpt_141 key_3 rfl rfl (fun _ => (by exact Mem.m3))) ?_
   refine XO_nil ?_
   refine zD hD ?_
   refine zT 5 rfl (ev_arB rfl rfl rfl (fun hg => by omega)) hD ?_
   refine XD_one 6 rfl (by kernel_rfl) ?_
   refine XO_mapUpdate (m := m2) (ek := eiv) (ev := eiv) (a := q.1) ((mget m2 q.1).getD 0 + belowF (statesF rows l) (if j = 0 then (costsF rows xs l f (splitF xs s)) else (costsF rows xs l f (s - splitF xs s))) q.1) mpt_141 key_3 rfl rfl rfl rfl (by repeat (first | exact Upd.here | apply Upd.there | apply upd_app)) ?_
   refine XO_nil ?_
   refine zD hD ?_
   refine XD_done (by kernel_rfl) ?_
   refine at_noP ?_
   refine at_block_n ?_
   have hs9 := snd_nodup hnd4 hlt4 hns (List.getElem?_eq_some_iff.1 hq).1
   rw [hlk, tot_step hlt_j]
   exact at_met2 _ _ ⟨(stM rows l).length - (seen ++ [i]).length, by rw [List.length_append, List.length_singleton]; have := hs9.2.2; rw [List.length_append, List.length_singleton] at this; omega, seen ++ [i], mset m2 q.1 (totF (statesF rows l) (costsF rows xs l f (splitF xs s)) (costsF rows xs l f (s - splitF xs s)) (j + 1) q.1), rfl, rfl, hB4, rfl, hF_set hm2 hq, hs9.1, hs9.2.1⟩ (.cons rfl (.cons rfl (.cons rfl (.cons rfl (.cons rfl (.cons rfl (.cons rfl .nil))))))) (by repeat (first | exact .refl | exact subL_left | refine subL_app ?_ | refine .drop ?_ | refine subL_add ?_))
  obtain ⟨rfl, hall⟩ := hno hc70
  refine X_exit (at_then_e (at_then_e (at_block_hit (at_block_n (at_then (X_region (zB ?_)))))))
  refine zM (XO_nil ?_)
  exact at_met2 _ _ ⟨2 - (j + 1), by omega, j + 1, m2, rfl, rfl, hB2, rfl, by omega, hF_end hm2 hnd4 hlt4 hall⟩ (.cons rfl (.cons rfl (.cons rfl (.cons rfl (.cons rfl .nil))))) (by repeat (first | exact .refl | exact subL_left | refine subL_app ?_ | refine .drop ?_ | refine subL_add ?_))
 have hge_j : 2 ≤ j := by have h := hc64; simp at h; omega
 have hj2 : j = 2 := by omega
 subst hj2
 refine X_exit (at_then_e (at_then_e (at_block_hit (at_then (zR (zM ?_))))))
 refine zA (zN (X_ret ?_))
 first
 | exact at_ret1 rfl rfl (fun w hw => by obtain ⟨I9, h91, h92, h93⟩ := hw.freezeAll; exact ⟨_, I9, [], rfl, hIc.trans h91, h92, rfl, r_20, m, rfl, h93 _ _ (by simp), by rw [costs_two hz]; exact two_end (List.ne_nil_of_length_pos st_pos) hRa hRb (by omega) (by omega) (by omega) hm⟩)
end
section
open Go Go.Kn Go.Proofs
theorem fun_82 : Fun Tryz.prog 82 := .of Tryz.func82 (by kernel_rfl) (by kernel_rfl)
theorem szt_141 : SzT Tryz.prog 141 1 := .of (by kernel_rfl)
theorem szt_142 : SzT Tryz.prog 142 1 := .of (by kernel_rfl)
theorem zt_141 : ZeroT Tryz.prog 141 (.map none) := .of (by kernel_rfl)
theorem zt_142 : ZeroT Tryz.prog 142 .nilFunc := .of (by kernel_rfl)
theorem w_price1F {brow bloc bcst bcla bbel rm : Nat} {av bv : Option Addr} {n c n2 c2 : Nat} {xs : List Int} {rows : List (List Int)} {l : Nat} (hn : n ≤ 100000) (hn2 : n2 ≤ 100000) (hl : ∀ r ∈ rows, l < r.length) (hc : chkN rows.length xs = 0) : ∀ (f : Nat) (I : HMap), PrE I 109 brow bloc bcst bcla bbel rm av bv n c n2 c2 xs rows l → ∀ (s : Int), OkS rows.length xs s → s.toNat ≤ f → RetM Tryz.prog 109 ([.int .i64 s] ++ [capP brow, capP bloc, capP bcst, capP bcla, capP bbel]) I [] (MapQ (statesF rows l) (costsF rows xs l f s) (8 * (s - 1)))
 | 0, _, _, s, hok, hf => by have := hok.1; omega
 | f + 1, I, hE, s, hok, hf => w_price1 hE hn hn2 hl hc f s hok fun I' hI s' hok' hlt => w_price1F hn hn2 hl hc f I' (hE.mono hI) s' hok' (by have := hok'.1; have := hok.1; omega)
theorem w_price1A {I : HMap} {brow bloc bcst bcla bbel rm : Nat} {av bv : Option Addr} {n c n2 c2 : Nat} {xs : List Int} {rows : List (List Int)} {l : Nat} (hE : PrE I 109 brow bloc bcst bcla bbel rm av bv n c n2 c2 xs rows l) (hn : n ≤ 100000) (hn2 : n2 ≤ 100000) (hl : ∀ r ∈ rows, l < r.length) (hc : chkN rows.length xs = 0) : RetM Tryz.prog 109 ([.int .i64 (IntKind.i64.wrap (1 * 2 ^ (min (n2 : Int).toNat IntKind.i64.bits)) - 1)] ++ [capP brow, capP bloc, capP bcst, capP bcla, capP bbel]) I [] (MapQ (statesF rows l) (costsF rows xs l 64 (allS rows.length)) (8 * (allS rows.length - 1))) := by
 have hlV := hE.hV.len
 subst hlV
 exact w_price1F hn hn2 hl hc 64 I hE (allS rows.length) (ok_all hc) (by have := (all_in (n := (rows.length : Int)) ⟨(chkN_ok hc).1, (chkN_ok hc).2.1⟩).2; omega)
theorem w_price {I : HMap} {av : Option Addr} {n c : Nat} {xs : List Int} (hS : Sl I 1 encI av n c xs) (hn : n ≤ 100000) {bv : Option Addr} {n2 c2 : Nat} {rows : List (List Int)} (hV : SlN I bv n2 c2 rows) (hn2 : n2 ≤ 100000) {l : Nat} (hDb : DebOK I) (hl : ∀ r ∈ rows, l < r.length) (hl64 : l ≤ 64) (hc : chkN rows.length xs = 0) : RetV Tryz.prog 82 [.slice bv n2 c2, .slice av n c, .int .i64 l] I (.int .i64 (leastF (costsF rows xs l 64 (allS rows.length)))) := by
 intro g H w hw
 refine enter Tryz.func82 rfl Tryz.ntmps82 rfl hw ?_
 have hIc := HLe.refl I
 obtain ⟨hs, hV⟩ := hV
 have hH := hV.1
 have hlV := hV.len
 have hal := (chkN_ok hc).1
 have hal6 := (chkN_ok hc).2.1
 have hsl := st_len (rows := rows) (l := l)
 have hsh := shl_in (n := (n2 : Int)) ⟨by omega, by omega⟩
 refine zR ?_
 refine XO_box rfl rfl rfl (fun b_3 => ?_)
 refine XO_box rfl rfl rfl (fun b_4 => ?_)
 refine XO_box rfl rfl rfl (fun b_5 => ?_)
 refine zA ?_
 refine zN (zR ?_)
 refine XO_makeMap rfl rfl (fun r_14 => ?_)
 refine XO_insert (m := []) (ek := eiv) (ev := eiv) (a := 0) 0 mpt_141 key_3 rfl rfl rfl rfl (by repeat (first | exact Upd.here | apply Upd.there | apply upd_app)) ?_
 refine zM ?_
 refine XO_alloc zt_141 rfl rfl (fun b_7 => ?_)
 refine zS szt_141 ?_
 refine zN (X_seq (zR ?_))
 refine zV (ev_load rfl sct_22 (fun hg => by exact Cell.h4 rfl)) ?_
 refine zQ slt_22 ?_
 refine zM (zN (X_block ?_))
 refine X_loopT [(3, _), (4, _), (5, _), (7, _), (16, _), (17, _)] (.cons rfl (.cons rfl (.cons rfl (.cons rfl (.cons rfl (.cons rfl .nil)))))) (fun T L0 mz E I' loc' => ∃ (k : Nat), mz = n2 - k ∧ E = (18, .int .i64 k) :: T ∧ I = I' ∧ [(b_7, .cells #[.map (some r_14)] 141 (0, 0)), (r_14, mapO eiv eiv (stM (rows.take k) l)), (b_5, .cells #[.int .i64 l] 3 (0, 0)), (b_4, .cells #[.slice av n c] 23 (0, 0)), (b_3, .cells #[.slice bv n2 c2] 22 (0, 0))] = loc' ∧ k ≤ n2) _ _ _ _ ⟨0, rfl, rfl, rfl, rfl, Nat.zero_le _⟩ (.cons rfl (.cons rfl (.cons rfl (.cons rfl (.cons rfl (.cons rfl (.cons rfl .nil))))))) (HLe.refl _) rfl ?_
 rintro mz E I' loc' ⟨k, rfl, rfl, rfl, rfl, hk⟩
 refine zR (zC (zN (X_seq ?_)))
 refine zI ?_ ?_ <;> intro hc19
 ·
  have hlt_k : k < n2 := by have h := hc19; simp at h; omega
  obtain ⟨x, v, hx, hv, hQ⟩ := hV.at hlt_k
  have hlv := hl v (List.mem_of_getElem? hv)
  have hu := some_getD (d := 0) rfl hlv
  have hvn := hQ.len
  refine X_skip (at_then (X_seq (X_block (zR ?_))))
  refine zV (zX slt_22 hH) ?_
  refine zV (ev_load rfl sct_23 (fun hg => by exact Sl.get0 hH hx rfl)) ?_
  refine zA ?_
  refine zN (zR ?_)
  refine zM ?_
  refine zV (ev_load rfl sct_3 (fun hg => by exact Cell.h2 rfl)) ?_
  refine zV (zX slt_23 hQ) ?_
  refine zV (ev_load rfl sct_3 (fun hg => by exact Sl.get0 hQ hu rfl)) ?_
  refine zC (zN ?_)
  refine zI ?_ ?_ <;> intro hc26
  ·
   have hne : v.getD l 0 ≠ 8589934592 := by simpa using hc26
   have hD := HLe.refl I
   refine X_noP ?_
   refine X_drawS I [(b_7, .cells #[.map (some r_14)] 141 (0, 0)), (b_5, .cells #[.int .i64 l] 3 (0, 0)), (b_4, .cells #[.slice av n c] 23 (0, 0)), (b_3, .cells #[.slice bv n2 c2] 22 (0, 0))] mixed ?_
   refine zT 0 rfl (ev_load rfl sct_141 (fun hg => by exact Cell.h0 rfl)) hD ?_
   refine zT 1 rfl (ev_move rfl) hD ?_
   refine zT 2 rfl (ev_load rfl sct_3 (fun hg => by exact Cell.h1 rfl)) hD ?_
   refine zT 3 rfl (zX slt_23 hQ) hD ?_
   refine zT 4 rfl (ev_load rfl sct_3 (fun hg => by exact Sl.get0 hQ hu rfl)) hD ?_
   refine XD_one 5 rfl (by kernel_rfl) ?_
   refine XO_mapUpdate (m := stM (rows.take k) l) (ek := eiv) (ev := eiv) (a := v.getD l 0) 0 mpt_141 key_3 rfl rfl rfl rfl (by repeat (first | exact Upd.here | apply Upd.there | apply upd_app)) ?_
   refine XO_nil ?_
   refine zD hD ?_
   refine XD_done (by kernel_rfl) ?_
   refine at_noP ?_
   rw [stM_put hv hne]
   refine at_block_n (at_then (X_region (zB ?_)))
   refine zM (XO_nil ?_)
   exact at_met2 _ _ ⟨n2 - (k + 1), by omega, k + 1, rfl, rfl, rfl, rfl, by omega⟩ (.cons rfl (.cons rfl (.cons rfl (.cons rfl (.cons rfl (.cons rfl (.cons rfl .nil))))))) (by repeat (first | exact .refl | exact subL_left | refine subL_app ?_ | refine .drop ?_ | refine subL_add ?_))
  have heq : v.getD l 0 = 8589934592 := by simpa using hc26
  rw [stM_skip hv heq]
  refine X_skip (at_block_n (at_then (X_region (zB ?_))))
  refine zM (XO_nil ?_)
  exact at_met2 _ _ ⟨n2 - (k + 1), by omega, k + 1, rfl, rfl, rfl, rfl, by omega⟩ (.cons rfl (.cons rfl (.cons rfl (.cons rfl (.cons rfl (.cons rfl (.cons rfl .nil))))))) (by repeat (first | exact .refl | exact subL_left | refine subL_app ?_ | refine .drop ?_ | refine subL_add ?_))
 have hge_k : n2 ≤ k := by have h := hc19; simp at h; omega
 rw [List.take_of_length_le (show rows.length ≤ k by omega)]
 refine X_exit (at_then_e (at_then_e (at_block_hit (at_then (zR ?_)))))
 refine XO_alloc zt_142 rfl rfl (fun b_10 => ?_)
 refine zN (zR ?_)
 refine zV (ev_makeFunc (us := []) (vs := [_, _, _, _, _]) rfl rfl) ?_
 refine zS szt_142 ?_
 refine zN (zR ?_)
 refine zA (zN (X_seq (X_seq ?_)))
 refine X_freezeAll (fun I2 hI2 hall => ?_)
 have hS := hS.mono hI2; have hH := hH.mono hI2; have hV := hV.mono hI2; have hDb := hDb.mono hI2; have hIc := hIc.trans hI2
 have hE : PrE I2 109 b_3 b_5 b_7 b_4 b_10 r_14 av bv n c n2 c2 xs rows l := ⟨.imm (hall _ _ (by repeat (first | exact List.mem_cons_self .. | apply List.mem_cons_of_mem))) rfl, .imm (hall _ _ (by repeat (first | exact List.mem_cons_self .. | apply List.mem_cons_of_mem))) rfl, .imm (hall _ _ (by repeat (first | exact List.mem_cons_self .. | apply List.mem_cons_of_mem))) rfl, .imm (hall _ _ (by repeat (first | exact List.mem_cons_self .. | apply List.mem_cons_of_mem))) rfl, .imm (hall _ _ (by repeat (first | exact List.mem_cons_self .. | apply List.mem_cons_of_mem))) rfl, hall _ _ (by repeat (first | exact List.mem_cons_self .. | apply List.mem_cons_of_mem)), hDb, hS, ⟨hs, hV⟩⟩
 have hD := HLe.refl I2
 refine X_drawC mixed ?_
 refine zT 0 rfl (ev_load rfl sct_142 (fun hg => by exact hE.bel.any)) hD ?_
 refine zT 1 rfl (ev_load rfl sct_22 (fun hg => by exact hE.row.any)) hD ?_
 refine zT 2 rfl (ev_lenS rfl slt_22) hD ?_
 refine zT 3 rfl (ev_shl rfl rfl (fun hg => by omega)) hD ?_
 refine zT 4 rfl (ev_arB rfl rfl rfl (fun hg => by omega)) hD ?_
 refine XD_one 5 rfl (by kernel_rfl) ?_
 refine XO_callM (cap := [capP b_3, capP b_5, capP b_7, capP b_4, capP b_10]) (vs := [_]) rfl rfl fun_109 (by exact .nil) (w_price1A hE hn hn2 hl hc) rfl rfl ?_
 rintro vv3 I3 L3 hI3 ⟨rfl, rm2, m, rfl, hM2, hR2⟩
 have hS := hS.mono hI3; have hH := hH.mono hI3; have hV := hV.mono hI3; have hDb := hDb.mono hI3; have hE := hE.mono hI3; have hIc := hIc.trans hI3; have hD := hD.trans hI3
 have hml := hR2.small
 have hmp := hR2.ne
 refine XO_nil ?_
 refine zD hD ?_
 refine XD_one 6 rfl (by kernel_rfl) ?_
 refine XO_range (ek := eiv) (ev := eiv) (m := m) rfl mpt_141 rfl rfl (.inl hM2) (fun b_40 => ?_)
 refine XO_nil ?_
 refine zD hD ?_
 refine XD_done (by kernel_rfl) ?_
 refine at_noP ?_
 refine at_then (X_block ?_)
 refine X_loopT [(40, _)] (.cons rfl .nil) (fun T L0 mz E I' loc' => ∃ (seen : List Nat) (v6 : Value) (q6 : Nat) (L : Go.Kn.Loc), mz = m.length - seen.length ∧ E = (11, v6) :: T ∧ I3 = I' ∧ L ++ [(b_40, iterO rm2 m.length seen)] = loc' ∧ OwnS 3 1 v6 q6 (((visO m seen).map (·.2)).flatMap encI) L ∧ q6 = seen.length ∧ seen.Nodup ∧ ∀ i ∈ seen, i < m.length) _ _ _ _ ⟨[], _, 0, [], rfl, rfl, rfl, rfl, OwnS.nil, rfl, .nil, fun i h => by cases h⟩ (.cons rfl (.cons rfl .nil)) (HLe.refl _) rfl ?_
 rintro mz E I' loc' ⟨seen, v6, q6, L, rfl, rfl, rfl, rfl, hO6, hq6, hnd, hlt⟩
 have hsl6 := seen_lt hnd hlt
 refine zR ?_
 refine XO_next2 (ek := eiv) (ev := eiv) (m := m) (fun s' => L ++ [(b_40, iterO rm2 m.length s')]) rfl (fun s' => upd_app .here) rfl rfl rfl rfl rfl (.inl hM2) (by simp) ?_
 intro t tv s' hno hyes
 refine zN (X_seq ?_)
 refine zI ?_ ?_ <;> intro hc42
 ·
  obtain ⟨i, q, hq, hns, rfl⟩ := hyes hc42
  refine X_skip (at_then (X_block (zR ?_)))
  refine zV (ev_entry (ek := eiv) (ev := eiv) (m := m) (p := q) (seen := seen) (i := i) rfl (.inl hM2) (.inr (by simp)) hq) ?_
  refine zE ?_
  refine zA (zN (X_region ?_))
  refine zM ?_
  refine zM ?_
  refine XO_buildSlice (ps := [(0, _)]) (m := [encI q.2]) elt_23 rfl (.cons rfl (.nil)) rfl (by simp [encI_len]) (by decide) (by decide) rfl rfl (fun b_47 => ?_)
  refine XO_append (v := _) (ys := [q.2].flatMap encI) (L := L) rfl rfl elt_23 hO6 (by repeat (first | exact .cons .here .nil | exact split_all | exact split_app | apply split_cons | apply split_skip)) ⟨rfl, fun _ => rfl, Cells.here⟩ (one_I _) (by omega) rfl rfl ?_
  intro v9 L9 hO9 _; rw [← List.flatMap_append] at hO9
  refine zA (XO_nil (at_block_n ?_))
  have hs9 := snd_nodup hnd hlt hns (List.getElem?_eq_some_iff.1 hq).1
  exact at_met2 _ _ ⟨m.length - (seen ++ [i]).length, by rw [List.length_append, List.length_singleton]; have := hs9.2.2; rw [List.length_append, List.length_singleton] at this; omega, seen ++ [i], v9, q6 + 1, L9, rfl, rfl, rfl, rfl, by rw [vis_snoc hq, List.map_append]; exact hO9, by rw [List.length_append, List.length_singleton]; omega, hs9.1, hs9.2.1⟩ (.cons rfl (.cons rfl .nil)) (by repeat (first | exact .refl | exact subL_left | refine subL_app ?_ | refine .drop ?_ | refine subL_add ?_))
 obtain ⟨rfl, hall2⟩ := hno hc42
 have hlen6 := (seen_perm hnd hlt hall2).length_eq
 rw [List.length_range] at hlen6
 refine X_exit (at_then_e (at_then_e (at_block_hit (at_then (X_seq ?_)))))
 refine X_freezeO hO6 encI_len (by decide) split_app (fun I5 hI5 af5 cf5 ef5 hLst => ?_)
 subst ef5
 have hS := hS.mono hI5; have hH := hH.mono hI5; have hV := hV.mono hI5; have hDb := hDb.mono hI5; have hE := hE.mono hI5; have hM2 := hM2.mono hI5; have hIc := hIc.trans hI5
 refine X_region (zM ?_)
 refine XO_callV0 (cap := []) (vs := [_]) rfl rfl fun_112 (w_leastE (ent_least hR2 (vis_all hnd hlt hall2)) hLst (by omega) (by omega)) rfl rfl ?_
 refine zA (zN (X_ret ?_))
 exact at_ret1 rfl rfl (fun w hw => ⟨by rfl, (hw.mono hIc).drop⟩)
theorem w_cost {I : HMap} {av : Option Addr} {n c : Nat} {xs : List Int} (hS : Sl I 1 encI av n c xs) (hn : n ≤ 100000) {bv : Option Addr} {n2 c2 : Nat} {rows : List (List Int)} (hV : SlN I bv n2 c2 rows) (hn2 : n2 ≤ 100000) (hDb : DebOK I) (hr : rowsN rows = 0) (hc : chkN rows.length xs = 0) : RetV Tryz.prog 47 [.slice bv n2 c2, .slice av n c] I (.int .i64 (priceF rows xs)) := by
 intro g H w hw
 refine enter Tryz.func47 rfl Tryz.ntmps47 rfl hw ?_
 obtain ⟨hs, hV⟩ := hV
 have hH := hV.1
 have hlV := hV.len
 obtain ⟨hr1, hr6, hr64, hrr⟩ := rows_ok hr
 obtain ⟨x0, v0, hx0, hv0, hQ0⟩ := hV.at (show 0 < n2 by omega)
 have hw0 := hQ0.len
 have hg0 := getD_of (d := ([] : List Int)) hv0
 have hv64 : v0.length ≤ 64 := by rw [← hg0]; exact hr64
 refine zR (zA (zN (X_seq (zR ?_))))
 refine zM ?_
 refine zV (zX slt_22 hH) ?_
 refine zV (ev_load rfl sct_23 (fun hg => by exact Sl.get0 (k := 0) hH hx0 rfl)) ?_
 refine zQ slt_23 ?_
 refine zM (zN (X_block ?_))
 refine X_loopT [(0, _), (1, _), (9, _)] (.cons rfl (.cons rfl (.cons rfl .nil))) (fun T L0 mz E I' loc' => ∃ (k : Nat) (sm : Int), mz = v0.length - k ∧ E = (4, .int .i64 sm) :: (10, .int .i64 k) :: T ∧ I = I' ∧ [] = loc' ∧ k ≤ v0.length ∧ sm = priceK rows xs k ∧ 0 ≤ sm ∧ sm ≤ k * 1099511627776) _ _ _ _ ⟨0, _, rfl, rfl, rfl, rfl, Nat.zero_le _, rfl, Int.le_refl _, (show (0 : Int) ≤ ((0 : Nat) : Int) * 1099511627776 by decide)⟩ (.cons rfl (.cons rfl (.cons rfl (.cons rfl (.cons rfl .nil))))) (HLe.refl _) rfl ?_
 rintro mz E I' loc' ⟨k, sm, rfl, rfl, rfl, rfl, hk, hsm, hs1, hs2⟩
 refine zR (zC (zN (X_seq ?_)))
 refine zI ?_ ?_ <;> intro hc11
 ·
  have hlt_k : k < v0.length := by have h := hc11; simp at h; omega
  refine X_skip (at_then (X_seq (X_block (zR (zM ?_)))))
  refine zA (zN (X_region ?_))
  refine zM ?_
  refine zM ?_
  refine zM ?_
  refine zM ?_
  refine XO_callV0 (cap := []) (vs := [_, _, _]) rfl rfl fun_82 (w_price (l := k) hS hn ⟨hs, hV⟩ hn2 hDb (fun r hm => by rw [(hrr r hm).1, hg0]; omega) (by omega) hc) rfl rfl ?_
  refine zV (ev_arB rfl rfl rfl (fun _ => by (have hmi : 0 ≤ leastF (costsF rows xs k 64 (allS rows.length)) ∧ leastF (costsF rows xs k 64 (allS rows.length)) ≤ 1099511627776 := minK_in (cs := (costsF rows xs k 64 (allS rows.length))) (costs_in _ _) (by rw [costs_len]; exact st_pos) (costsF rows xs k 64 (allS rows.length)).length; omega))) ?_
  refine zA (XO_nil (at_block_n (at_then (X_region ?_))))
  refine zV (ev_arB rfl rfl rfl (fun _ => by omega)) ?_
  refine zM (XO_nil ?_)
  exact at_met2 _ _ ⟨v0.length - (k + 1), by omega, k + 1, _, rfl, rfl, rfl, rfl, by omega, by rw [price_step, hsm], by have hmi : 0 ≤ leastF (costsF rows xs k 64 (allS rows.length)) ∧ leastF (costsF rows xs k 64 (allS rows.length)) ≤ 1099511627776 := minK_in (cs := (costsF rows xs k 64 (allS rows.length))) (costs_in _ _) (by rw [costs_len]; exact st_pos) (costsF rows xs k 64 (allS rows.length)).length; omega, by have hmi : 0 ≤ leastF (costsF rows xs k 64 (allS rows.length)) ∧ leastF (costsF rows xs k 64 (allS rows.length)) ≤ 1099511627776 := minK_in (cs := (costsF rows xs k 64 (allS rows.length))) (costs_in _ _) (by rw [costs_len]; exact st_pos) (costsF rows xs k 64 (allS rows.length)).length; omega⟩ (.cons rfl (.cons rfl (.cons rfl (.cons rfl (.cons rfl .nil))))) (by repeat (first | exact .refl | exact subL_left | refine subL_app ?_ | refine .drop ?_ | refine subL_add ?_))
 have hge_k : k = v0.length := by have h := hc11; simp at h; omega
 refine X_exit (at_then_e (at_then_e (at_block_hit (at_then (zR (zM ?_))))))
 refine zA (zN (X_ret ?_))
 first
 | exact at_ret1 rfl rfl (fun w hw => ⟨by rw [hsm, hge_k, ← hg0]; rfl, hw.drop⟩)
end
section
open Go Go.Kn Go.Proofs
def sortI (zs : List Int) : List Int := zs.mergeSort fun x y => decide (x ≤ y)
end
section
open Go Go.Kn Go.Proofs
def cmpI (x y : Int) : Int := if x < y then -1 else if x > y then 1 else 0
structure HdP (I : HMap) where
 h : Hd
 v : List Int
 ok : Sl I 1 encI h.a h.n h.c v
 len : v.length ≤ 1000
instance (I : HMap) : Inhabited (HdP I) := ⟨⟨⟨none, 0, 0⟩, [], Sl.nil, by simp⟩⟩
end
section
open Go Go.Kn Go.Proofs
theorem single_no {n : Nat} {cl : List Int} (hc : chkN n cl = 0) {s : Int} (hs : s ∈ cl) : singF s = false := by
 have hle := (chkN_ok hc).2.2.2 s hs
 obtain ⟨a1, a2, a3⟩ := split_spec (chkN_split hc s hs) (Nat.le_refl 1)
 have a3 : splitP cl s (splitR cl s 1) = true := a3
 unfold splitP at a3
 simp only [Bool.and_eq_true] at a3
 generalize splitR cl s 1 = a at a1 a2 a3
 cases h : singF s with
 | false => rfl
 | true =>
  exfalso
  have k1 := a3.1.1.1
  rw [sub_I (by omega) (by omega)] at k1
  have ht : ((List.range 64).all fun s => (List.range 64).all fun a => a == 0 || !(singF (s : Int)) || !(subN a s) || (a == s)) = true := by kernel_rfl
  have h0 := List.all_eq_true.1 ht s.toNat (List.mem_range.2 (by omega))
  have h0 := List.all_eq_true.1 h0 a.toNat (List.mem_range.2 (by omega))
  rw [show ((s.toNat : Nat) : Int) = s by omega, h, k1, show (a.toNat == 0) = false by simp; omega] at h0
  have : a.toNat = s.toNat := by simpa using h0
  omega
theorem parts_both {m : Int} {cl : List Int} {s : Int} : iA m cl s = partsA m cl s ∧ iB m cl s = partsB m cl s := by
 by_cases h : partsE m cl s = 0
 ·
  obtain ⟨e1, e2⟩ := iA_ok h
  obtain ⟨e3, e4⟩ := partsA_ok h
  have hc : chkN m cl = 0 := by
   unfold partsE at h
   by_cases e : chkN m cl = 0
   ·
    exact e
   ·
    rw [if_pos e] at h; exact absurd h e
  have hin : s ∈ cl := by
   unfold partsE at h
   rw [if_neg (fun e => e hc)] at h
   cases e : cl.any (fun c => c == s) with
   | true => simpa using e
   | false => rw [e] at h; simp at h
  obtain ⟨n, rfl⟩ : ∃ n : Nat, m = n := ⟨m.toNat, by have := chkN_ok hc; omega⟩
  obtain ⟨g1, g2, _⟩ := parts_eq hc hin (single_no hc hin)
  rw [e1, e2, e3, e4, g1, g2]
  exact ⟨rfl, rfl⟩
 ·
  obtain ⟨e1, e2⟩ := iA_bad h
  obtain ⟨e3, e4⟩ := partsA_bad h
  rw [e1, e2, e3, e4]
  exact ⟨rfl, rfl⟩
end
section
open Go Go.Kn Go.Proofs
inductive Tr where
 | leaf (w : Nat)
 | node (a b : Tr)
def Tr.mask : Tr → Nat
 | .leaf w => 2 ^ w
 | .node a b => a.mask + b.mask
def Tr.ok (n : Nat) : Tr → Prop
 | .leaf w => w < n
 | .node a b => a.ok n ∧ b.ok n ∧ a.mask &&& b.mask = 0
def Tr.has (w : Nat) : Tr → Prop
 | .leaf v => v = w
 | .node a b => a.has w ∨ b.has w
def Tr.sets : Tr → List Nat
 | .leaf _ => []
 | .node a b => (a.mask + b.mask) :: (a.sets ++ b.sets)
/-! ### The least below -/
def bl (S : List Int) (f : Int → Int) (x : Int) : Int := (S.map fun y => stepF x y + f y).foldl minI 1048576
def mn (S : List Int) (f : Int → Int) : Int := leastF (S.map f)
theorem bl_le {S : List Int} {f : Int → Int} {x y : Int} (h : y ∈ S) : bl S f x ≤ stepF x y + f y := (min_fold _ _).1 _ (List.mem_map.2 ⟨y, h, rfl⟩)
theorem bl_cap {S : List Int} {f : Int → Int} {x : Int} : bl S f x ≤ 1048576 := (min_fold _ _).2.1
theorem bl_ge {S : List Int} {f : Int → Int} {x c : Int} (h : ∀ y ∈ S, c ≤ stepF x y + f y) (h1 : c ≤ 1048576) : c ≤ bl S f x := by
 rcases (min_fold (S.map fun y => stepF x y + f y) 1048576).2.2 with e | e
 ·
  unfold bl; rw [e]; exact h1
 ·
  obtain ⟨y, hy, e2⟩ := List.mem_map.1 e
  have := h y hy
  unfold bl; rw [← e2]; exact this
theorem bl_congr {S S' : List Int} {f f' : Int → Int} {x : Int} (hS : ∀ y, y ∈ S ↔ y ∈ S') (hf : ∀ y ∈ S, f y = f' y) : bl S f x = bl S' f' x := by
 apply Int.le_antisymm
 ·
  refine bl_ge (fun y hy => ?_) bl_cap
  have := (hS y).2 hy
  rw [← hf y this]; exact bl_le this
 ·
  refine bl_ge (fun y hy => ?_) bl_cap
  rw [hf y hy]; exact bl_le ((hS y).1 hy)
theorem below_bl {st : List Int} {f : Int → Int} {x : Int} : belowF st (st.map f) x = bl st f x := by
 unfold belowF bl
 rw [best_fold]
 congr 1
 refine List.ext_getElem (by simp) fun i h1 h2 => ?_
 simp at h1
 rw [List.getElem_map, List.getElem_map, List.getElem_range]
 rw [getD_of (List.getElem?_eq_getElem h1), getD_of (x := f st[i]) (by rw [List.getElem?_map, List.getElem?_eq_getElem h1]; rfl)]
theorem mn_le {S : List Int} {f : Int → Int} {y : Int} (h : y ∈ S) : mn S f ≤ f y :=
 (least_in (List.ne_nil_of_mem (List.mem_map.2 ⟨y, h, rfl⟩))).2 _ (List.mem_map.2 ⟨y, h, rfl⟩)
theorem mn_at {S : List Int} {f : Int → Int} (h : S ≠ []) : ∃ y ∈ S, mn S f = f y := by
 obtain ⟨y, hy, e⟩ := List.mem_map.1 (least_in (xs := S.map f) (by simpa using h)).1
 exact ⟨y, hy, e.symm⟩
def cT (S : List Int) (u : Nat → Int) : Tr → Int → Int
 | .leaf w, x => leafG (u w) x
 | .node a b, x => bl S (cT S u a) x + bl S (cT S u b) x
theorem leafG_in (u x : Int) : leafG u x = 0 ∨ leafG u x = 1048576 := by unfold leafG; split <;> simp
theorem bl_nn {S : List Int} {f : Int → Int} {x : Int} (h : ∀ y ∈ S, 0 ≤ f y) : 0 ≤ bl S f x := bl_ge (fun y hy => by have := h y hy; have := (step_in x y).1; omega) (by decide)
theorem cT_nn {S : List Int} {u : Nat → Int} : ∀ (T : Tr) (x : Int), 0 ≤ cT S u T x
 | .leaf w, x => by unfold cT; rcases leafG_in (u w) x with h | h <;> omega
 | .node a b, x => by
  unfold cT
  have h1 := bl_nn (x := x) fun y (_ : y ∈ S) => cT_nn (S := S) (u := u) a y
  have h2 := bl_nn (x := x) fun y (_ : y ∈ S) => cT_nn (S := S) (u := u) b y
  omega
theorem cT_congr {S S' : List Int} {u u' : Nat → Int} (hS : ∀ y, y ∈ S ↔ y ∈ S') : ∀ (T : Tr) (x : Int), (∀ w, T.has w → u w = u' w) → cT S u T x = cT S' u' T x
 | .leaf w, x, h => by unfold cT; rw [h w rfl]
 | .node a b, x, h => by
  unfold cT
  rw [bl_congr hS fun y _ => cT_congr hS a y fun w hw => h w (.inl hw), bl_congr hS fun y _ => cT_congr hS b y fun w hw => h w (.inr hw)]
theorem mask_pos : ∀ T : Tr, 1 ≤ T.mask
 | .leaf w => Nat.one_le_two_pow
 | .node a b => by have := mask_pos a; have := mask_pos b; show 1 ≤ a.mask + b.mask; omega
theorem step_self (x : Int) : stepF x x = 0 := by unfold stepF; rw [if_pos rfl]
theorem cT_small {S : List Int} {u : Nat → Int} (h0 : 0 ∈ S) : ∀ (n : Nat) (T : Tr), T.ok n → (∀ w, w < n → u w = 8589934592 ∨ u w ∈ S) → ∃ x ∈ S, cT S u T x ≤ 8 * ((T.mask : Int) - 1)
 | n, .leaf w, hT, hu => by
  rcases hu w hT with h | h
  ·
   exact ⟨0, h0, by unfold cT leafG; rw [if_neg (by simp [h])]; have := mask_pos (.leaf w); omega⟩
  ·
   exact ⟨u w, h, by unfold cT leafG; rw [if_neg (by simp)]; have := mask_pos (.leaf w); omega⟩
 | n, .node a b, ⟨ha, hb, hd⟩, hu => by
  obtain ⟨x, hx, h1⟩ := cT_small h0 n a ha hu
  obtain ⟨y, hy, h2⟩ := cT_small h0 n b hb hu
  refine ⟨x, hx, ?_⟩
  unfold cT
  have e1 := bl_le (f := cT S u a) (x := x) hx
  rw [step_self] at e1
  have e2 := bl_le (f := cT S u b) (x := x) hy
  have e3 := (step_in x y).2
  have hm : ((Tr.node a b).mask : Int) = a.mask + b.mask := by show ((a.mask + b.mask : Nat) : Int) = _; omega
  have := mask_pos b
  have := mask_pos a
  omega
end
section
open Go Go.Kn Go.Proofs
def treeT (cl : List Int) : Nat → Int → Tr
 | 0, _ => .leaf 0
 | f + 1, s => if singF s = true then .leaf (witF s) else .node (treeT cl f (splitF cl s)) (treeT cl f (s - splitF cl s))
theorem treeT_1 {cl : List Int} {f : Nat} {s : Int} (h : singF s = true) : treeT cl (f + 1) s = .leaf (witF s) := by simp only [treeT]; rw [if_pos h]
theorem treeT_2 {cl : List Int} {f : Nat} {s : Int} (h : singF s = false) : treeT cl (f + 1) s = .node (treeT cl f (splitF cl s)) (treeT cl f (s - splitF cl s)) := by simp only [treeT]; rw [if_neg (by rw [h]; decide)]
theorem wit_pow_tab : ((List.range 64).all fun s => !singF (s : Int) || (2 ^ witF (s : Int) == s)) = true := by kernel_rfl
theorem wit_pow {s : Int} (hs : 1 ≤ s ∧ s ≤ 63) (h : singF s = true) : 2 ^ witF s = s.toNat := by
 have h0 := List.all_eq_true.1 wit_pow_tab s.toNat (List.mem_range.2 (by omega))
 rw [show ((s.toNat : Nat) : Int) = s by omega, h] at h0
 simpa using h0
theorem pow_sing_tab : ((List.range 6).all fun w => singF ((2 ^ w : Nat) : Int) && (witF ((2 ^ w : Nat) : Int) == w) && decide (2 ^ w < 64)) = true := by kernel_rfl
theorem pow_sing {w : Nat} (h : w < 6) : singF ((2 ^ w : Nat) : Int) = true ∧ witF ((2 ^ w : Nat) : Int) = w ∧ 2 ^ w < 64 := by
 have h0 := List.all_eq_true.1 pow_sing_tab w (List.mem_range.2 h)
 simp only [Bool.and_eq_true, beq_iff_eq, decide_eq_true_eq] at h0
 exact ⟨h0.1.1, h0.1.2, h0.2⟩
section
variable {n : Nat} {cl : List Int} (hc : chkN n cl = 0)
include hc
theorem treeT_ok : ∀ (f : Nat) (s : Int), s.toNat ≤ f → OkS n cl s → (treeT cl f s).ok n ∧ (treeT cl f s).mask = s.toNat ∧ ∀ c ∈ (treeT cl f s).sets, (c : Int) ∈ cl
 | 0, s, hf, h => by have := h.1; omega
 | f + 1, s, hf, h => by
  have hle := ok_le hc h
  have h6 := (chkN_ok hc).2.1
  cases h1 : singF s with
  | true =>
   rw [treeT_1 h1]
   exact ⟨wit_n (n := n) (by omega) hle h1 h.2.1, wit_pow hle h1, fun c hcm => by cases hcm⟩
  | false =>
   obtain ⟨hin, o1, o2, o3, o4, o5, _⟩ := first_part hc h h1
   obtain ⟨q1, _, _⟩ := pair_ok (by omega) (by omega) o5
   obtain ⟨i1, i2, i3⟩ := treeT_ok f _ (by omega) o1
   obtain ⟨j1, j2, j3⟩ := treeT_ok f _ (by omega) o2
   rw [treeT_2 h1]
   refine ⟨⟨i1, j1, ?_⟩, ?_, fun c hcm => ?_⟩
   ·
    rw [i2, j2, show (s - splitF cl s).toNat = s.toNat - (splitF cl s).toNat by omega, Nat.and_comm]; exact q1
   ·
    show _ + _ = _
    rw [i2, j2]; omega
   ·
    rcases List.mem_cons.1 hcm with rfl | hcm
    ·
     rw [i2, j2, show (((splitF cl s).toNat + (s - splitF cl s).toNat : Nat) : Int) = s by omega]; exact hin
    ·
     rcases List.mem_append.1 hcm with hcm | hcm
     ·
      exact i3 c hcm
     ·
      exact j3 c hcm
end
def uF (rows : List (List Int)) (l : Nat) (w : Nat) : Int := (rows.getD w []).getD l 0
theorem costs_tree {rows : List (List Int)} {cl : List Int} {l n : Nat} (hc : chkN n cl = 0) : ∀ (f : Nat) (s : Int), s.toNat ≤ f → OkS n cl s → costsF rows cl l f s = (statesF rows l).map (cT (statesF rows l) (uF rows l) (treeT cl f s))
 | 0, s, hf, h => by have := h.1; omega
 | f + 1, s, hf, h => by
  have hle := ok_le hc h
  cases h1 : singF s with
  | true =>
   have hz : (andI s (IntKind.i64.wrap (s - 1)) == 0) = true := by unfold singF at h1; rw [Bool.and_eq_true] at h1; exact h1.2
   rw [costs_leaf hz, treeT_1 h1]; rfl
  | false =>
   have hz : (andI s (IntKind.i64.wrap (s - 1)) == 0) = false := by unfold singF at h1; rw [decide_eq_true (show s > 0 by omega), Bool.true_and] at h1; exact h1
   obtain ⟨hin, o1, o2, o3, o4, o5, _⟩ := first_part hc h h1
   rw [costs_two hz, treeT_2 h1, costs_tree hc f _ (by omega) o1, costs_tree hc f _ (by omega) o2]
   refine List.map_congr_left fun x _ => ?_
   unfold twoG
   rw [below_bl, below_bl]; rfl
theorem mask_in {n : Nat} (h6 : n ≤ 6) : ∀ {T : Tr}, T.ok n → T.mask < 64 ∧ ∃ q, subN T.mask q = true ∧ q = 2 ^ n - 1
 | .leaf w, h => by
  have hw : w < n := h
  refine ⟨(pow_sing (by omega)).2.2, _, ?_, rfl⟩
  have ht : ((List.range 7).all fun n => (List.range n).all fun w => subN (2 ^ w) (2 ^ n - 1)) = true := by kernel_rfl
  have h0 := List.all_eq_true.1 ht n (List.mem_range.2 (by omega))
  exact List.all_eq_true.1 h0 w (List.mem_range.2 hw)
 | .node a b, ⟨ha, hb, hd⟩ => by
  obtain ⟨a1, q, a2, rfl⟩ := mask_in h6 ha
  obtain ⟨b1, q', b2, rfl⟩ := mask_in h6 hb
  have ht : ((List.range 64).all fun a => (List.range 64).all fun b => !(a &&& b == 0) || decide (a + b < 64) && (List.range 7).all fun n => !subN a (2 ^ n - 1) || !subN b (2 ^ n - 1) || subN (a + b) (2 ^ n - 1)) = true := by kernel_rfl
  have h0 := List.all_eq_true.1 ht a.mask (List.mem_range.2 a1)
  have h0 := List.all_eq_true.1 h0 b.mask (List.mem_range.2 b1)
  rw [show (a.mask &&& b.mask == 0) = true by rw [hd]; rfl, Bool.not_true, Bool.false_or, Bool.and_eq_true, decide_eq_true_eq] at h0
  have h1 := List.all_eq_true.1 h0.2 n (List.mem_range.2 (by omega))
  rw [a2, b2] at h1
  exact ⟨h0.1, _, by show subN (a.mask + b.mask) _ = true; simpa using h1, rfl⟩
theorem two_tab : ((List.range 64).all fun a => (List.range 64).all fun b => a == 0 || b == 0 || !(a &&& b == 0) || ((lowS (a : Int) ((a + b : Nat) : Int) || lowS (b : Int) ((a + b : Nat) : Int)) && (andI (a : Int) ((a + b : Nat) : Int) == (a : Int)) && (andI (b : Int) ((a + b : Nat) : Int) == (b : Int)) && subN a (a + b) && subN b (a + b) && (popF (a : Int) + popF (b : Int) == popF ((a + b : Nat) : Int)))) = true := by kernel_rfl
theorem two_ok {a b : Nat} (ha : 1 ≤ a ∧ a < 64) (hb : 1 ≤ b ∧ b < 64) (h : a &&& b = 0) : (lowS (a : Int) ((a + b : Nat) : Int) = true ∨ lowS (b : Int) ((a + b : Nat) : Int) = true) ∧ andI (a : Int) ((a + b : Nat) : Int) = (a : Int) ∧ andI (b : Int) ((a + b : Nat) : Int) = (b : Int) ∧ subN a (a + b) = true ∧ subN b (a + b) = true ∧ popF (a : Int) + popF (b : Int) = popF ((a + b : Nat) : Int) := by
 have h0 := List.all_eq_true.1 two_tab a (List.mem_range.2 ha.2)
 have h0 := List.all_eq_true.1 h0 b (List.mem_range.2 hb.2)
 rw [h, show (a == 0) = false by simp; omega, show (b == 0) = false by simp; omega] at h0
 simpa [and_assoc] using h0
end
section
open Go Go.Kn Go.Proofs
theorem bl_at {S : List Int} {f : Int → Int} {x : Int} : bl S f x = 1048576 ∨ ∃ y ∈ S, bl S f x = stepF x y + f y := by
 rcases (min_fold (S.map fun y => stepF x y + f y) 1048576).2.2 with e | e
 ·
  exact .inl e
 ·
  obtain ⟨y, hy, e2⟩ := List.mem_map.1 e
  exact .inr ⟨y, hy, e2.symm⟩
section
variable {S S' : List Int} {u u' : Nat → Int} {p : Int} {k : Nat} (h0 : 0 ∈ S') (hp : p ∈ S') (hz : p ≠ 0 ∨ ∀ y ∈ S', y = 0)
include h0 hp hz
end
theorem uF_in {rows : List (List Int)} {l w : Nat} (h : w < rows.length) : uF rows l w = 8589934592 ∨ uF rows l w ∈ statesF rows l := by
 by_cases e : uF rows l w = 8589934592
 ·
  exact .inl e
 ·
  right
  rw [st_mem]
  refine .inr ⟨⟨rows.getD w [], ?_, rfl⟩, e⟩
  unfold List.getD
  rw [List.getElem?_eq_getElem h]
  exact List.getElem_mem h
end
section
open Go Go.Kn Go.Proofs
theorem map_next {α β : Type} {f : α → β} {xs : List α} {i : Nat} {x : α} (h : xs[i]? = some x) : (xs.take (i + 1)).map f = (xs.take i).map f ++ [f x] := by
 rw [List.take_add_one, h, List.map_append]; rfl
theorem cellI_at {I : HMap} {b t k : Nat} {nm : List Int} {x : Int} {l : Go.Kn.Loc} (h : nm[k]? = some x) : Cell I ((b, .cells (cellsI nm) t (0, 0)) :: l) b (k * 1) (.int .i64 x) := by
 refine .here ?_
 rw [lget_eq]
 unfold cellsI
 rw [cellsI_eq, Nat.mul_one]
 simp [h]
def cellsH (hs : List Hd) : Array Value := (hs.flatMap encH).toArray
theorem flat_H1 (hs : List Hd) : hs.flatMap encH = hs.map fun h => Value.slice h.a h.n h.c := by
 induction hs with
 | nil => rfl
 | cons b hs ih => rw [List.flatMap_cons, ih]; rfl
theorem cellsH_set {hs : List Hd} {m : Nat} {a : Option Addr} {n c : Nat} : (cellsH hs).setIfInBounds (m * 1) (.slice a n c) = cellsH (hs.set m ⟨a, n, c⟩) := by
 unfold cellsH
 rw [flat_H1, flat_H1, Nat.mul_one]; simp
theorem bltH {hs : List Hd} {m : Nat} (h : m < hs.length) : Nat.blt (m * 1) (cellsH hs).size = true := by
 unfold cellsH
 rw [flat_H1, Nat.mul_one]
 simpa [Nat.blt_eq] using h
theorem cellsH_new (n : Nat) : (List.replicate n (Value.slice none 0 0)).toArray = cellsH (List.replicate n ⟨none, 0, 0⟩) := by
 unfold cellsH; rw [flat_H1]; simp
end
section
open Go Go.Kn Go.Proofs
def Tr.keys : Tr → List Int
 | .leaf w => [((2 ^ w : Nat) : Int)]
 | .node a b => ((a.mask + b.mask : Nat) : Int) :: (a.keys ++ b.keys)
def costT (g : Int → Int) : Tr → Int
 | .leaf _ => 0
 | .node a b => stepF (g ((a.mask + b.mask : Nat) : Int)) (g (a.mask : Int)) + stepF (g ((a.mask + b.mask : Nat) : Int)) (g (b.mask : Int)) + costT g a + costT g b
def GivT (S : List Int) (u : Nat → Int) (g : Int → Int) : Tr → Prop
 | .leaf w => (u w ≠ 8589934592 → g ((2 ^ w : Nat) : Int) = u w) ∧ g ((2 ^ w : Nat) : Int) ∈ S
 | .node a b => g ((a.mask + b.mask : Nat) : Int) ∈ S ∧ GivT S u g a ∧ GivT S u g b
theorem mask_key : ∀ T : Tr, (T.mask : Int) ∈ T.keys
 | .leaf _ => List.mem_cons_self ..
 | .node _ _ => List.mem_cons_self ..
theorem giv_in {S : List Int} {u : Nat → Int} {g : Int → Int} : ∀ {T : Tr}, GivT S u g T → g (T.mask : Int) ∈ S
 | .leaf _, h => h.2
 | .node _ _, h => h.1
theorem costT_congr {g g' : Int → Int} : ∀ {T : Tr}, (∀ k ∈ T.keys, g k = g' k) → costT g T = costT g' T
 | .leaf _, _ => rfl
 | .node a b, h => by
  have ha : ∀ k ∈ a.keys, g k = g' k := fun k hk => h k (List.mem_cons_of_mem _ (List.mem_append_left _ hk))
  have hb : ∀ k ∈ b.keys, g k = g' k := fun k hk => h k (List.mem_cons_of_mem _ (List.mem_append_right _ hk))
  unfold costT
  rw [h _ (List.mem_cons_self ..), ha _ (mask_key a), hb _ (mask_key b), costT_congr ha, costT_congr hb]
theorem givT_congr {S : List Int} {u : Nat → Int} {g g' : Int → Int} : ∀ {T : Tr}, (∀ k ∈ T.keys, g k = g' k) → GivT S u g T → GivT S u g' T
 | .leaf w, h, hg => by
  have e := h _ (List.mem_cons_self ..)
  exact ⟨fun hu => by rw [← e]; exact hg.1 hu, by rw [← e]; exact hg.2⟩
 | .node a b, h, hg => by
  have ha : ∀ k ∈ a.keys, g k = g' k := fun k hk => h k (List.mem_cons_of_mem _ (List.mem_append_left _ hk))
  have hb : ∀ k ∈ b.keys, g k = g' k := fun k hk => h k (List.mem_cons_of_mem _ (List.mem_append_right _ hk))
  exact ⟨by rw [← h _ (List.mem_cons_self ..)]; exact hg.1, givT_congr ha hg.2.1, givT_congr hb hg.2.2⟩
theorem giv_le {S : List Int} {u : Nat → Int} {g : Int → Int} : ∀ {T : Tr}, GivT S u g T → cT S u T (g (T.mask : Int)) ≤ costT g T
 | .leaf w, h => by
  show leafG (u w) (g ((2 ^ w : Nat) : Int)) ≤ 0
  unfold leafG
  by_cases e : u w = 8589934592
  ·
   rw [e]; simp
  ·
   rw [h.1 e]; simp
 | .node a b, h => by
  have ia := giv_le h.2.1
  have ib := giv_le h.2.2
  have la := bl_le (f := cT S u a) (x := g ((a.mask + b.mask : Nat) : Int)) (giv_in h.2.1)
  have lb := bl_le (f := cT S u b) (x := g ((a.mask + b.mask : Nat) : Int)) (giv_in h.2.2)
  show bl S (cT S u a) (g ((a.mask + b.mask : Nat) : Int)) + bl S (cT S u b) (g ((a.mask + b.mask : Nat) : Int)) ≤ _
  unfold costT
  omega
theorem keys_sub {n : Nat} (h6 : n ≤ 6) : ∀ {T : Tr}, T.ok n → ∀ k ∈ T.keys, 1 ≤ k ∧ subN k.toNat T.mask = true
 | .leaf w, _, k, hk => by
  rw [List.mem_singleton.1 hk]
  have : 1 ≤ 2 ^ w := Nat.one_le_two_pow
  exact ⟨by omega, by rw [Int.toNat_natCast]; exact sub_refl _⟩
 | .node a b, ⟨ha, hb, hd⟩, k, hk => by
  have pa := mask_pos a
  have pb := mask_pos b
  obtain ⟨_, _, _, t4, t5, _⟩ := two_ok ⟨pa, (mask_in h6 ha).1⟩ ⟨pb, (mask_in h6 hb).1⟩ hd
  rcases List.mem_cons.1 hk with rfl | hk
  ·
   exact ⟨by omega, by rw [Int.toNat_natCast]; exact sub_refl _⟩
  ·
   rcases List.mem_append.1 hk with hk | hk
   ·
    obtain ⟨h1, h2⟩ := keys_sub h6 ha k hk
    exact ⟨h1, sub_trans h2 t4⟩
   ·
    obtain ⟨h1, h2⟩ := keys_sub h6 hb k hk
    exact ⟨h1, sub_trans h2 t5⟩
theorem giv_ex {S : List Int} {u : Nat → Int} {n : Nat} (h6 : n ≤ 6) : ∀ (T : Tr), T.ok n → ∀ x ∈ S, cT S u T x < 1048576 → ∃ g, GivT S u g T ∧ g (T.mask : Int) = x ∧ costT g T ≤ cT S u T x
 | .leaf w, _, x, hx, h => by
  refine ⟨fun _ => x, ⟨fun hu => ?_, hx⟩, rfl, ?_⟩
  ·
   have h : leafG (u w) x < 1048576 := h
   unfold leafG at h
   by_cases e : u w = x
   ·
    exact e.symm
   ·
    rw [if_pos (by simp [hu, e])] at h; omega
  ·
   show (0 : Int) ≤ leafG (u w) x
   rcases leafG_in (u w) x with e | e <;> omega
 | .node a b, ⟨ha, hb, hd⟩, x, hx, h => by
  have h : bl S (cT S u a) x + bl S (cT S u b) x < 1048576 := h
  have na := bl_nn (S := S) (x := x) fun y _ => cT_nn (S := S) (u := u) a y
  have nb := bl_nn (S := S) (x := x) fun y _ => cT_nn (S := S) (u := u) b y
  rcases bl_at (S := S) (f := cT S u a) (x := x) with ea | ⟨y, hy, ea⟩
  ·
   omega
  rcases bl_at (S := S) (f := cT S u b) (x := x) with eb | ⟨z, hz, eb⟩
  ·
   omega
  have sy := (step_in x y).1
  have sz := (step_in x z).1
  obtain ⟨ga, a1, a2, a3⟩ := giv_ex (u := u) h6 a ha y hy (by omega)
  obtain ⟨gb, b1, b2, b3⟩ := giv_ex (u := u) h6 b hb z hz (by omega)
  have pa := mask_pos a
  have pb := mask_pos b
  have ka : ∀ k ∈ a.keys, (if k = ((a.mask + b.mask : Nat) : Int) then x else if k ∈ a.keys then ga k else gb k) = ga k := fun k hk => by
   obtain ⟨k1, k2⟩ := keys_sub h6 ha k hk
   have := sub_le k2
   rw [if_neg (by omega), if_pos hk]
  have kb : ∀ k ∈ b.keys, (if k = ((a.mask + b.mask : Nat) : Int) then x else if k ∈ a.keys then ga k else gb k) = gb k := fun k hk => by
   obtain ⟨k1, k2⟩ := keys_sub h6 hb k hk
   have := sub_le k2
   rw [if_neg (by omega), if_neg]
   intro hka
   obtain ⟨_, k3⟩ := keys_sub h6 ha k hka
   have := sub_both k3 k2 (by rw [Nat.and_comm]; exact hd)
   omega
  refine ⟨fun k => if k = ((a.mask + b.mask : Nat) : Int) then x else if k ∈ a.keys then ga k else gb k, ⟨by simp only [if_true]; exact hx, givT_congr (fun k hk => (ka k hk).symm) a1, givT_congr (fun k hk => (kb k hk).symm) b1⟩, ?_, ?_⟩
  ·
   show (if ((a.mask + b.mask : Nat) : Int) = ((a.mask + b.mask : Nat) : Int) then x else _) = x
   rw [if_pos rfl]
  ·
   unfold costT
   rw [costT_congr ka, costT_congr kb, ka _ (mask_key a), kb _ (mask_key b), if_pos rfl, a2, b2]
   show _ ≤ bl S (cT S u a) x + bl S (cT S u b) x
   omega
theorem giv_mn {S : List Int} {u : Nat → Int} {n : Nat} (h6 : n ≤ 6) (h0 : 0 ∈ S) {T : Tr} (hT : T.ok n) (hu : ∀ w, w < n → u w = 8589934592 ∨ u w ∈ S) : (∀ g, GivT S u g T → mn S (cT S u T) ≤ costT g T) ∧ (∃ g, GivT S u g T ∧ costT g T ≤ mn S (cT S u T)) ∧ mn S (cT S u T) < 1048576 := by
 obtain ⟨z, hz1, hz2⟩ := cT_small (u := u) h0 n T hT hu
 have hm6 := (mask_in h6 hT).1
 have hle := mn_le (f := cT S u T) hz1
 refine ⟨fun g hg => Int.le_trans (mn_le (giv_in hg)) (giv_le hg), ?_, by omega⟩
 obtain ⟨x, hx, e⟩ := mn_at (f := cT S u T) (List.ne_nil_of_mem h0)
 rw [e]
 obtain ⟨g, g1, _, g3⟩ := giv_ex (u := u) h6 T hT x hx (by omega)
 exact ⟨g, g1, g3⟩
/-! ### As the search goes -/
end
section
open Go Go.Kn Go.Proofs
section
variable {S : List Int} {u : Nat → Int} {n : Nat} {cl : List Int}
end
theorem pow_inj_tab : ((List.range 6).all fun v => (List.range 6).all fun w => v == w || !(2 ^ v == 2 ^ w)) = true := by kernel_rfl
theorem pow_inj {v w : Nat} (hv : v < 6) (hw : w < 6) (h : 2 ^ v = 2 ^ w) : v = w := by
 have h0 := List.all_eq_true.1 pow_inj_tab v (List.mem_range.2 hv)
 have h0 := List.all_eq_true.1 h0 w (List.mem_range.2 hw)
 rw [h] at h0
 simpa using h0
end
section
open Go Go.Kn Go.Proofs
def stL (rows : List (List Int)) (l k : Nat) : List Int := 0 :: (((List.range k).map fun w => uF rows l w).filter fun x => x != 8589934592)
theorem sl_yes {rows : List (List Int)} {l k : Nat} (h : uF rows l k ≠ 8589934592) : stL rows l (k + 1) = stL rows l k ++ [uF rows l k] := by
 unfold stL; rw [List.range_succ, List.map_append, List.filter_append]; simp [h]
theorem sl_no {rows : List (List Int)} {l k : Nat} (h : uF rows l k = 8589934592) : stL rows l (k + 1) = stL rows l k := by
 unfold stL; rw [List.range_succ, List.map_append, List.filter_append]; simp [h]
theorem sl_mem {rows : List (List Int)} {l : Nat} {y : Int} : y ∈ stL rows l rows.length ↔ y ∈ statesF rows l := by
 unfold stL
 rw [st_mem, List.mem_cons, List.mem_filter, List.mem_map, bne_iff_ne]
 constructor
 ·
  rintro (h | ⟨⟨w, hw, rfl⟩, h⟩)
  ·
   exact .inl h
  ·
   have hw := List.mem_range.1 hw
   refine .inr ⟨⟨rows.getD w [], ?_, rfl⟩, h⟩
   unfold List.getD; rw [List.getElem?_eq_getElem hw]; exact List.getElem_mem hw
 ·
  rintro (h | ⟨⟨r, hr, rfl⟩, h⟩)
  ·
   exact .inl h
  ·
   obtain ⟨w, hw, rfl⟩ := List.getElem_of_mem hr
   refine .inr ⟨⟨w, List.mem_range.2 hw, ?_⟩, h⟩
   unfold uF
   rw [getD_of (List.getElem?_eq_getElem hw)]
theorem shl_tab : ((List.range 6).all fun w => IntKind.i64.wrap (1 * 2 ^ (min ((w : Nat) : Int).toNat IntKind.i64.bits)) == ((2 ^ w : Nat) : Int)) = true := by kernel_rfl
theorem shl_at {w : Nat} (h : w < 6) : IntKind.i64.wrap (1 * 2 ^ (min ((w : Nat) : Int).toNat IntKind.i64.bits)) = ((2 ^ w : Nat) : Int) := eq_of_beq (List.all_eq_true.1 shl_tab w (List.mem_range.2 h))
end
section
open Go Go.Kn Go.Proofs
theorem fun_45 : Fun Tryz.prog 45 := .of Tryz.func45 (by kernel_rfl) (by kernel_rfl)
theorem fun_47 : Fun Tryz.prog 47 := .of Tryz.func47 (by kernel_rfl) (by kernel_rfl)
theorem w_CostN {I : HMap} {av : Option Addr} {n c : Nat} {xs : List Int} (hS : Sl I 1 encI av n c xs) {bv : Option Addr} {n2 c2 : Nat} {rows : List (List Int)} (hV : SlN I bv n2 c2 rows) (hn2 : n2 ≤ 100000) (hDb : DebOK I) : RetV Tryz.prog 19 [.slice bv n2 c2, .slice av n c] I (.tuple #[.int .i64 (costA rows xs), .int .i64 (costE rows xs)]) := by
 intro g H w hw
 refine enter Tryz.func19 rfl Tryz.ntmps19 rfl hw ?_
 have hlV := hV.len
 subst hlV
 refine zR (zA ?_)
 refine zA (zN (X_seq (zR ?_)))
 refine zM ?_
 refine XO_callV0 (cap := []) (vs := [_]) rfl rfl fun_45 (w_table hV hn2) rfl rfl ?_
 refine zA ?_
 refine zN (zR ?_)
 refine zM ?_
 refine zC (zN ?_)
 refine zI ?_ ?_ <;> intro hc9
 ·
  have hr0 : rowsN rows ≠ 0 := by simpa using hc9
  obtain ⟨e1, e2⟩ := cost_1 (cl := xs) hr0
  refine zR (zM ?_)
  refine zA ?_
  refine zA (zN (X_ret (at_then_r ?_)))
  first
  | exact at_ret2 rfl rfl rfl (fun w hw => ⟨by rw [e1, e2], hw.drop⟩)
 have hr0 : rowsN rows = 0 := by simpa using hc9
 refine X_skip (at_then (X_seq (zR (zM ?_))))
 refine zQ slt_22 ?_
 refine zM ?_
 refine XO_callV0 (cap := []) (vs := [_, _]) rfl rfl fun_46 (w_check hS _) rfl rfl ?_
 refine zA ?_
 refine zN (zR ?_)
 refine zM ?_
 refine zC (zN ?_)
 refine zI ?_ ?_ <;> intro hc16
 ·
  have hc0 : chkN rows.length xs ≠ 0 := by simpa using hc16
  obtain ⟨e1, e2⟩ := cost_2 hr0 hc0
  refine zR (zM ?_)
  refine zA ?_
  refine zA (zN (X_ret (at_then_r ?_)))
  first
  | exact at_ret2 rfl rfl rfl (fun w hw => ⟨by rw [e1, e2], hw.drop⟩)
 have hc0 : chkN rows.length xs = 0 := by simpa using hc16
 obtain ⟨e1, e2⟩ := cost_3 hr0 hc0
 have hn : n ≤ 100000 := by have h1 := (chkN_ok hc0).2.2.1; have h2 := hS.len; omega
 refine X_skip (at_then (zR (zM ?_)))
 refine zM ?_
 refine XO_callV0 (cap := []) (vs := [_, _]) rfl rfl fun_47 (w_cost hS hn hV hn2 hDb hr0 hc0) rfl rfl ?_
 refine zA ?_
 refine zA (zN (X_ret ?_))
 first
 | exact at_ret2 rfl rfl rfl (fun w hw => ⟨by rw [e1, e2], hw.drop⟩)
end
section
open Go Go.Kn Go.Proofs
def leafN (u x : Int) : Int := if (u != 8589934592 && u != x) = true then 1073741824 else 0
def minN (S cs : List Int) (x : Int) (k : Nat) : Int := (List.range k).foldl (fun b j => minI b (stepF x (S.getD j 0) + cs.getD j 0)) 1073741824
def belowN (S cs : List Int) (x : Int) : Int := minN S cs x S.length
theorem minN_step {S cs : List Int} {x y c : Int} {k : Nat} (hy : S[k]? = some y) (hc : cs[k]? = some c) : minN S cs x (k + 1) = minI (minN S cs x k) (stepF x y + c) := by
 unfold minN
 rw [List.range_succ, List.foldl_append, List.foldl_cons, List.foldl_nil, getD_of hy, getD_of hc]
theorem minN_in {S cs : List Int} {x : Int} (h : ∀ c ∈ cs, 0 ≤ c) : ∀ k, 0 ≤ minN S cs x k ∧ minN S cs x k ≤ 1073741824
 | 0 => by unfold minN; simp
 | k + 1 => by
  have ih := minN_in (S := S) (x := x) h k
  have e : minN S cs x (k + 1) = minI (minN S cs x k) (stepF x (S.getD k 0) + cs.getD k 0) := by unfold minN; rw [List.range_succ, List.foldl_append]; rfl
  have h1 : 0 ≤ cs.getD k 0 := by
   unfold List.getD
   cases hc : cs[k]? with
   | none => exact Int.le_refl _
   | some c => exact h c (List.mem_of_getElem? hc)
  have h2 := (step_in x (S.getD k 0)).1
  rw [e]
  unfold minI
  split <;> omega
def totN (S A B : List Int) (j : Nat) (x : Int) : Int := (if 0 < j then belowN S A x else 0) + (if 1 < j then belowN S B x else 0)
theorem totN_step {S A B : List Int} {j : Nat} {x : Int} (hj : j < 2) : totN S A B j x + belowN S (if j = 0 then A else B) x = totN S A B (j + 1) x := by
 unfold totN
 rcases (show j = 0 ∨ j = 1 by omega) with rfl | rfl <;> simp
theorem totN_in {S A B : List Int} {x : Int} (hA : ∀ c ∈ A, 0 ≤ c) (hB : ∀ c ∈ B, 0 ≤ c) (j : Nat) : 0 ≤ totN S A B j x ∧ totN S A B j x ≤ 2147483648 := by
 have a : 0 ≤ belowN S A x ∧ belowN S A x ≤ 1073741824 := minN_in hA S.length
 have b : 0 ≤ belowN S B x ∧ belowN S B x ≤ 1073741824 := minN_in hB S.length
 unfold totN
 split <;> split <;> omega
def rcF (S : List Int) (u : Nat → Int) (cl : List Int) : Nat → Int → List Int
 | 0, _ => []
 | f + 1, s => if singF s = true then S.map (leafN (u (witF s))) else S.map (totN S (rcF S u cl f (splitF cl s)) (rcF S u cl f (s - splitF cl s)) 2)
theorem rc_1 {S : List Int} {u : Nat → Int} {cl : List Int} {f : Nat} {s : Int} (h : singF s = true) : rcF S u cl (f + 1) s = S.map (leafN (u (witF s))) := by simp only [rcF]; rw [if_pos h]
theorem rc_2 {S : List Int} {u : Nat → Int} {cl : List Int} {f : Nat} {s : Int} (h : singF s = false) : rcF S u cl (f + 1) s = S.map (totN S (rcF S u cl f (splitF cl s)) (rcF S u cl f (s - splitF cl s)) 2) := by simp only [rcF]; rw [if_neg (by rw [h]; decide)]
theorem rc_in {S : List Int} {u : Nat → Int} {cl : List Int} : ∀ (f : Nat) (s : Int), ∀ c ∈ rcF S u cl f s, 0 ≤ c ∧ c ≤ 2147483648
 | 0, _, c, h => by cases h
 | f + 1, s, c, h => by
  cases h1 : singF s with
  | true =>
   rw [rc_1 h1] at h
   obtain ⟨x, _, rfl⟩ := List.mem_map.1 h
   unfold leafN; split <;> omega
  | false =>
   rw [rc_2 h1] at h
   obtain ⟨x, _, rfl⟩ := List.mem_map.1 h
   exact totN_in (fun c hc => (rc_in f _ c hc).1) (fun c hc => (rc_in f _ c hc).1) 2
theorem rc_len {S : List Int} {u : Nat → Int} {cl : List Int} {f : Nat} {s : Int} : (rcF S u cl (f + 1) s).length = S.length := by
 cases h1 : singF s with
 | true => rw [rc_1 h1, List.length_map]
 | false => rw [rc_2 h1, List.length_map]
def mixL (S : List Int) (g h : Int → Int) (i : Nat) : List Int := (S.take i).map g ++ (S.drop i).map h
theorem mix_0 {S : List Int} {g h : Int → Int} : mixL S g h 0 = S.map h := by unfold mixL; simp
theorem mix_all {S : List Int} {g h : Int → Int} {i : Nat} (hi : S.length ≤ i) : mixL S g h i = S.map g := by unfold mixL; rw [List.take_of_length_le hi, List.drop_eq_nil_of_le hi]; simp
theorem mix_len {S : List Int} {g h : Int → Int} {i : Nat} : (mixL S g h i).length = S.length := by unfold mixL; rw [List.length_append, List.length_map, List.length_map, ← List.length_append, List.take_append_drop]
theorem mix_at {S : List Int} {g h : Int → Int} {i : Nat} {x : Int} (hx : S[i]? = some x) : (mixL S g h i)[i]? = some (h x) := by
 have hi := (List.getElem?_eq_some_iff.1 hx).1
 have hl : ((S.take i).map g).length = i := by rw [List.length_map, List.length_take]; omega
 unfold mixL
 rw [List.getElem?_append_right (by omega), hl, Nat.sub_self, drop_cons hx]; rfl
theorem mix_set {S : List Int} {g h : Int → Int} {i : Nat} {x : Int} (hx : S[i]? = some x) : (mixL S g h i).set i (g x) = mixL S g h (i + 1) := by
 have hi := (List.getElem?_eq_some_iff.1 hx).1
 have hl : ((S.take i).map g).length = i := by rw [List.length_map, List.length_take]; omega
 unfold mixL
 rw [List.set_append_right _ _ (by omega), hl, Nat.sub_self, drop_cons hx, List.map_cons, List.set_cons_zero, map_next hx, List.append_assoc]; rfl
theorem mix_skip {S : List Int} {g h : Int → Int} {i : Nat} {x : Int} (hx : S[i]? = some x) (e : g x = h x) : mixL S g h i = mixL S g h (i + 1) := by
 unfold mixL
 rw [drop_cons hx, map_next hx, List.append_assoc, List.map_cons, e]; rfl
theorem mix_new {S : List Int} {g h : Int → Int} (e : ∀ x, h x = 0) : List.replicate S.length (0 : Int) = mixL S g h 0 := by
 rw [mix_0]
 induction S with
 | nil => rfl
 | cons x S ih => rw [List.map_cons, e, List.length_cons, List.replicate_succ, ih]
theorem wit_6 {s : Int} (hs : 1 ≤ s ∧ s ≤ 63) (h : singF s = true) : witF s < 6 := by
 have e := wit_pow hs h
 by_cases h6 : witF s < 6
 ·
  exact h6
 ·
  have : 2 ^ 6 ≤ 2 ^ witF s := Nat.pow_le_pow_right (by decide) (by omega)
  omega
theorem wit_ne {s : Int} {w : Nat} (hs : 1 ≤ s ∧ s ≤ 63) (h : singF s = true) (hw : w ≤ witF s) : (IntKind.i64.wrap (1 * 2 ^ (min ((w : Nat) : Int).toNat IntKind.i64.bits)) != s) = decide (w < witF s) := by
 have h6 := wit_6 hs h
 have e := wit_pow hs h
 rw [shl_at (by omega)]
 by_cases hl : w < witF s
 ·
  rw [decide_eq_true hl, bne_iff_ne]
  intro e2
  have : w = witF s := pow_inj (by omega) h6 (by omega)
  omega
 ·
  rw [decide_eq_false hl, bne_eq_false_iff_eq]
  have : w = witF s := by omega
  rw [this]; omega
structure RtE (I : HMap) (fid bst brow bloc bcla bse : Nat) (sv bv av : Option Addr) (ns cs n2 c2 n c : Nat) (St xs : List Int) (rows : List (List Int)) (l : Nat) : Prop where
 st : Cell I [] bst 0 (.slice sv ns cs)
 row : Cell I [] brow 0 (.slice bv n2 c2)
 loc : Cell I [] bloc 0 (.int .i64 l)
 cla : Cell I [] bcla 0 (.slice av n c)
 se : Cell I [] bse 0 (.func (.func fid) #[] #[capP bst, capP brow, capP bloc, capP bcla, capP bse])
 hT : Sl I 1 encI sv ns cs St
 hS : Sl I 1 encI av n c xs
 hV : SlN I bv n2 c2 rows
theorem RtE.mono {I I' : HMap} {fid bst brow bloc bcla bse : Nat} {sv bv av : Option Addr} {ns cs n2 c2 n c : Nat} {St xs : List Int} {rows : List (List Int)} {l : Nat} (h : RtE I fid bst brow bloc bcla bse sv bv av ns cs n2 c2 n c St xs rows l) (hI : HLe I I') : RtE I' fid bst brow bloc bcla bse sv bv av ns cs n2 c2 n c St xs rows l :=
 ⟨h.st.mono hI, h.row.mono hI, h.loc.mono hI, h.cla.mono hI, h.se.mono hI, h.hT.mono hI, h.hS.mono hI, h.hV.mono hI⟩
end
section
open Go Go.Kn Go.Proofs
theorem fun_22 : Fun Tryz.prog 22 := .of Tryz.func22 (by kernel_rfl) (by kernel_rfl)
theorem fun_23 : Fun Tryz.prog 23 := .of Tryz.func23 (by kernel_rfl) (by kernel_rfl)
theorem fun_24 : Fun Tryz.prog 24 := .of Tryz.func24 (by kernel_rfl) (by kernel_rfl)
theorem sct_62 : ScT Tryz.prog 62 := .of (by kernel_rfl)
theorem w_eprice (I : HMap) (x y : Int) : RetV Tryz.prog 24 [.int .i64 x, .int .i64 y] I (.int .i64 (stepF x y)) := by
 intro g H w hw
 refine enter Tryz.func24 rfl Tryz.ntmps24 rfl hw ?_
 refine zR (zA (zN (X_seq (X_block (zR ?_)))))
 refine zM ?_
 refine zM ?_
 refine zC ?_
 refine zA (zN ?_)
 refine zI ?_ ?_ <;> intro hc5
 ·
  refine zR (zA (zN (X_ret (at_block_r (at_then_r ?_)))))
  first
  | exact at_ret1 rfl rfl (fun w hw => ⟨by unfold stepF; rw [if_pos (by simpa using hc5)], hw.drop⟩)
 refine zR (zM ?_)
 refine zC ?_
 refine zA (zN ?_)
 refine zI ?_ ?_ <;> intro hc9
 ·
  refine zR (zA (zN (X_ret (at_block_r (at_then_r ?_)))))
  first
  | exact at_ret1 rfl rfl (fun w hw => ⟨by unfold stepF; rw [if_neg (by simpa using hc5), if_pos (by simpa using hc9)], hw.drop⟩)
 refine zR (zM ?_)
 refine zC ?_
 refine zA (zN ?_)
 refine zI ?_ ?_ <;> intro hc12
 ·
  refine zR (zA (zN (X_ret (at_block_r (at_then_r ?_)))))
  first
  | exact at_ret1 rfl rfl (fun w hw => ⟨by unfold stepF; rw [if_neg (by simpa using hc5), if_neg (by simpa using hc9), if_pos (by simpa using hc12)], hw.drop⟩)
 refine X_skip (at_block_n (at_then (zR (zA (zN (X_ret ?_))))))
 first
 | exact at_ret1 rfl rfl (fun w hw => ⟨by unfold stepF; rw [if_neg (by simpa using hc5), if_neg (by simpa using hc9), if_neg (by simpa using hc12)], hw.drop⟩)
theorem w_PartsC {I : HMap} {av : Option Addr} {n c m : Nat} {xs : List Int} (hS : Sl I 1 encI av n c xs) (hn : n ≤ 100000) (hc : chkN m xs = 0) {s : Int} (hin : s ∈ xs) : RetV Tryz.prog 23 [.int .i64 m, .slice av n c, .int .i64 s] I (.tuple #[.int .i64 (splitF xs s), .int .i64 (s - splitF xs s), .int .i64 0]) := by
 have h := w_Parts hS hn (m : Int) s
 have e : partsE (m : Int) xs s = 0 := partsE_ok hc (List.any_eq_true.2 ⟨s, hin, by simp⟩)
 obtain ⟨e1, e2⟩ := parts_both (m := (m : Int)) (cl := xs) (s := s)
 rw [e1, e2, e] at h
 unfold partsA partsB at h
 rw [if_neg (by omega), if_neg (by omega)] at h
 exact h
theorem w_roots1 {I : HMap} {bst brow bloc bcla bse : Nat} {sv bv av : Option Addr} {ns cs n2 c2 n c : Nat} {St xs : List Int} {rows : List (List Int)} {l : Nat} (hE : RtE I 22 bst brow bloc bcla bse sv bv av ns cs n2 c2 n c St xs rows l) (hn : n ≤ 100000) (hn2 : n2 ≤ 100000) (hns : ns ≤ 1000) (hl : ∀ r ∈ rows, l < r.length) (hc : chkN rows.length xs = 0) (f : Nat) (s : Int) (hok : OkS rows.length xs s) (hf : 1 < s → 1 ≤ f) (ih : ∀ (I' : HMap), HLe I I' → ∀ (s' : Int), OkS rows.length xs s' → s' < s → RetM Tryz.prog 22 ([.int .i64 s'] ++ [capP bst, capP brow, capP bloc, capP bcla, capP bse]) I' [] (SlRes 1 encI (rcF St (uF rows l) xs f s'))) : RetM Tryz.prog 22 [.int .i64 s, capP bst, capP brow, capP bloc, capP bcla, capP bse] I [] (SlRes 1 encI (rcF St (uF rows l) xs (f + 1) s)) := by
 intro g H w hw
 refine enter Tryz.func22 rfl Tryz.ntmps22 rfl hw ?_
 have hIc := HLe.refl I
 have hVl := hE.hV.len
 subst hVl
 have hTl := hE.hT.len
 subst hTl
 obtain ⟨hs, hV⟩ := hE.hV
 have hH := hV.1
 have hal := (chkN_ok hc).1
 have hal6 := (chkN_ok hc).2.1
 have hs63 := ok_le hc hok
 refine zR (zA ?_)
 refine zN (zR ?_)
 refine zV (ev_load rfl sct_23 (fun hg => by exact hE.st.any)) ?_
 refine zQ slt_23 ?_
 refine XO_makeSlice mkt_23 rfl rfl (by omega) (by decide) rfl rfl (fun b_26 => ?_)
 refine zA (XO_nil ?_)
 have e0 : ((St.length : Nat) : Int).toNat = St.length := rfl
 rw [e0, cellsI_new]
 refine at_then (X_seq (zR (zM ?_)))
 refine zM ?_
 refine zB ?_
 refine zV (ev_and rfl rfl) ?_
 refine zC (zN ?_)
 refine zI ?_ ?_ <;> intro hc31
 ·
  have hsing : singF s = true := by unfold singF; rw [decide_eq_true (show s > 0 by omega), Bool.true_and, wrapS hs63]; exact hc31
  have hwn := wit_n (n := rows.length) (by omega) hs63 hsing hok.2.1
  have hw6 := wit_6 hs63 hsing
  refine zR (zA (zN (X_seq (X_block ?_))))
  refine X_loopT [(0, _), (1, _), (2, _), (3, _), (8, _)] (.cons rfl (.cons rfl (.cons rfl (.cons rfl (.cons rfl .nil))))) (fun T L0 mz E I' loc' => ∃ (k : Nat), mz = (witF s) - k ∧ E = (9, .int .i64 k) :: T ∧ I = I' ∧ [(b_26, .cells (cellsI (List.replicate St.length 0)) 3 (0, 0))] = loc' ∧ k ≤ (witF s)) _ _ _ _ ⟨0, rfl, rfl, rfl, rfl, Nat.zero_le _⟩ (.cons rfl (.cons rfl (.cons rfl (.cons rfl (.cons rfl (.cons rfl .nil)))))) (HLe.refl _) rfl ?_
  rintro mz E I' loc' ⟨k, rfl, rfl, rfl, rfl, hk⟩
  refine X_seq (zR (zM ?_))
  refine zV (ev_shl rfl rfl (fun hg => by omega)) ?_
  refine zM ?_
  refine zC (zN ?_)
  refine zI ?_ ?_ <;> intro hc35
  ·
   have hlt_k : k < witF s := by rw [wit_ne hs63 hsing hk] at hc35; simpa using hc35
   refine X_skip (at_then (X_block (X_region (zM ?_))))
   refine zB ?_
   refine zA (XO_nil (at_block_n ?_))
   exact at_met2 _ _ ⟨(witF s) - (k + 1), by omega, k + 1, rfl, rfl, rfl, rfl, by omega⟩ (.cons rfl (.cons rfl (.cons rfl (.cons rfl (.cons rfl (.cons rfl .nil)))))) (by repeat (first | exact .refl | exact subL_left | refine subL_app ?_ | refine .drop ?_ | refine subL_add ?_))
  have hge_k : k = witF s := by rw [wit_ne hs63 hsing hk] at hc35; simp at hc35; omega
  subst hge_k
  obtain ⟨x, v, hx, hv, hQ⟩ := hV.at hwn
  have hlv := hl v (List.mem_of_getElem? hv)
  have hu := some_getD (d := 0) rfl hlv
  have hvn := hQ.len
  have hUF : uF rows l (witF s) = v.getD l 0 := by unfold uF; rw [getD_of hv]
  rw [mix_new (g := (leafN (uF rows l (witF s)))) (h := (fun _ => 0)) (fun _ => rfl)]
  refine X_exit (at_then_e (at_then_e (at_block_hit (at_then (X_seq (zR ?_))))))
  refine zV (ev_load rfl sct_23 (fun hg => by exact hE.st.any)) ?_
  refine zQ slt_23 ?_
  refine zM (zN (X_block ?_))
  refine X_loopT [(2, _), (3, _), (8, _), (9, _), (38, _), (39, _)] (.cons rfl (.cons rfl (.cons rfl (.cons rfl (.cons rfl (.cons rfl .nil)))))) (fun T L0 mz E I' loc' => ∃ (i : Nat), mz = St.length - i ∧ E = (40, .int .i64 i) :: T ∧ I = I' ∧ [(b_26, .cells (cellsI (mixL St (leafN (uF rows l (witF s))) (fun _ => 0) i)) 3 (0, 0))] = loc' ∧ i ≤ St.length) _ _ _ _ ⟨0, rfl, rfl, rfl, rfl, Nat.zero_le _⟩ (.cons rfl (.cons rfl (.cons rfl (.cons rfl (.cons rfl (.cons rfl (.cons rfl .nil))))))) (HLe.refl _) rfl ?_
  rintro mz E I' loc' ⟨i, rfl, rfl, rfl, rfl, hi⟩
  refine zR (zC (zN (X_seq ?_)))
  refine zI ?_ ?_ <;> intro hc41
  ·
   have hlt_i : i < St.length := by have h := hc41; simp at h; omega
   obtain ⟨y, hst⟩ := hE.hT.at hlt_i
   refine X_skip (at_then (X_seq (X_block (zR (zM ?_)))))
   refine zV (ev_indexSl rfl rfl slt_23 hE.hT (fun hg => by omega)) ?_
   refine zV (ev_load rfl sct_3 (fun hg => by exact Sl.get0 (hE.hT) hst rfl)) ?_
   refine zA ?_
   refine zA (zN (X_seq ?_))
   refine X_draw mixed (by kernel_rfl) ?_
   refine XQ_v0 (ev_load rfl sct_22 (fun hg => by exact hE.row.any)) rfl rfl rfl ?_
   refine XQ_v0 (ev_move rfl) rfl rfl rfl ?_
   refine XQ_v0 (zX slt_22 hH) rfl rfl rfl ?_
   refine XQ_v0 (ev_load rfl sct_23 (fun hg => by exact Sl.get0 hH hx rfl)) rfl rfl rfl ?_
   refine XQ_v0 (ev_load rfl sct_3 (fun hg => by exact hE.loc.any)) rfl rfl rfl ?_
   refine XQ_v0 (zX slt_23 hQ) rfl rfl rfl ?_
   refine XQ_v0 (ev_load rfl sct_3 (fun hg => by exact Sl.get0 hQ hu rfl)) rfl rfl rfl ?_
   refine XQ_v0 (ev_assign rfl) rfl rfl rfl ?_
   refine XQ_nil ?_
   refine at_then (zR (zM ?_))
   refine zC ?_
   refine zM ?_
   refine XO_pushT 2 rfl rfl rfl ?_
   refine zK (ev_move rfl) ?_
   refine zK (ev_move rfl) ?_
   refine zK (ev_cmp rfl rfl rfl) ?_
   refine XO_and0 rfl rfl rfl rfl rfl ?_
   refine zN ?_
   refine zI ?_ ?_ <;> intro hc58
   ·
    have hgy : (leafN (uF rows l (witF s))) y = 1073741824 := by unfold leafN; rw [hUF, if_pos (by simpa using hc58)]
    refine X_region (zM ?_)
    refine zM ?_
    refine zV (ev_indexOwn rfl rfl slt_23 (fun hg => by omega)) ?_
    refine XO_store rfl rfl szt_3 rfl rfl (by repeat (first | exact Upd.here | apply Upd.there | apply upd_app)) (bltI (by rw [mix_len]; omega)) ?_
    refine XO_nil ?_
    rw [cellsI_set, show (mixL St (leafN (uF rows l (witF s))) (fun _ => 0) i).set i 1073741824 = mixL St (leafN (uF rows l (witF s))) (fun _ => 0) (i + 1) from by rw [← mix_set hst, hgy]]
    refine at_block_n (at_then (X_region (zB ?_)))
    refine zM (XO_nil ?_)
    exact at_met2 _ _ ⟨St.length - (i + 1), by omega, i + 1, rfl, rfl, rfl, rfl, by omega⟩ (.cons rfl (.cons rfl (.cons rfl (.cons rfl (.cons rfl (.cons rfl (.cons rfl .nil))))))) (by repeat (first | exact .refl | exact subL_left | refine subL_app ?_ | refine .drop ?_ | refine subL_add ?_))
   have hgy : (leafN (uF rows l (witF s))) y = 0 := by unfold leafN; rw [hUF, if_neg (by rw [hc58]; decide)]
   rw [mix_skip hst hgy]
   refine X_skip (at_block_n (at_then (X_region (zB ?_))))
   refine zM (XO_nil ?_)
   exact at_met2 _ _ ⟨St.length - (i + 1), by omega, i + 1, rfl, rfl, rfl, rfl, by omega⟩ (.cons rfl (.cons rfl (.cons rfl (.cons rfl (.cons rfl (.cons rfl (.cons rfl .nil))))))) (by repeat (first | exact .refl | exact subL_left | refine subL_app ?_ | refine .drop ?_ | refine subL_add ?_))
  have hge_i : St.length ≤ i := by have h := hc41; simp at h; omega
  rw [mix_all hge_i]
  refine X_exit (at_then_e (at_then_e (at_block_hit (at_then (zR (zM ?_))))))
  refine zA (zN (X_ret (at_then_r ?_)))
  first
  | exact at_ret1 rfl rfl (fun w hw => by obtain ⟨I9, h91, h92, h93⟩ := OwnS.res (own_rowI (by rw [List.length_map]) (by omega)) encI_len (by decide) hw; rw [← rc_1 (f := f) (cl := xs) hsing] at h93; exact ⟨_, I9, [], rfl, hIc.trans h91, h92, h93⟩)
 have hns0 : singF s = false := by unfold singF; rw [decide_eq_true (show s > 0 by omega), Bool.true_and, wrapS hs63]; exact hc31
 obtain ⟨hin, ok1, ok2, hp1, hp2, _, _⟩ := first_part hc hok hns0
 obtain ⟨f0, rfl⟩ : ∃ f0, f = f0 + 1 := ⟨f - 1, by have := hf (by omega); omega⟩
 rw [mix_new (g := (totN St (rcF St (uF rows l) xs (f0 + 1) (splitF xs s)) (rcF St (uF rows l) xs (f0 + 1) (s - splitF xs s)) 0)) (h := (totN St (rcF St (uF rows l) xs (f0 + 1) (splitF xs s)) (rcF St (uF rows l) xs (f0 + 1) (s - splitF xs s)) 0)) (fun _ => by unfold totN; simp)]
 refine X_skip (at_then (zR ?_))
 refine zV (ev_load rfl sct_22 (fun hg => by exact hE.row.any)) ?_
 refine zQ slt_22 ?_
 refine zV (ev_load rfl sct_23 (fun hg => by exact hE.cla.any)) ?_
 refine zM ?_
 refine XO_callV0 (cap := []) (vs := [_, _, _]) rfl rfl fun_23 (w_PartsC hE.hS hn hc hin) rfl rfl ?_
 refine zM ?_
 refine zE ?_
 refine zE ?_
 refine zE ?_
 refine zA ?_
 refine zA ?_
 refine zA (zN (X_seq (zR ?_)))
 refine zM ?_
 refine zM ?_
 refine XO_buildSlice (ps := [(0, _), (1, _)]) (m := [encI (splitF xs s), encI (s - splitF xs s)]) elt_23 rfl (.cons rfl (.cons rfl (.nil))) rfl (by simp [encI_len]) (by decide) (by decide) rfl rfl (fun b_75 => ?_)
 refine XO_freeze (b := b_75) (by repeat (first | exact Take.here | apply Take.there)) (fun I3 hI3 hb3 => ?_)
 have hE := hE.mono hI3; have hIc := hIc.trans hI3
 have hAB : Sl I3 1 encI (some ⟨b_75, 0, none⟩) 2 2 ([splitF xs s, s - splitF xs s] : List Int) := Sl.lit ([splitF xs s, s - splitF xs s] : List Int) rfl encI_len (show _ = some (Obj.cells (([splitF xs s, s - splitF xs s] : List Int).flatMap encI).toArray 3 (0, 0)) from hb3)
 refine zQ slt_23 ?_
 refine zM (zN (X_block ?_))
 refine X_loopT [(1, _), (5, _), (8, _), (75, _), (76, _)] (.cons rfl (.cons rfl (.cons rfl (.cons rfl (.cons rfl .nil))))) (fun T L0 mz E I' loc' => ∃ (j : Nat), mz = 2 - j ∧ E = (77, .int .i64 j) :: T ∧ HLe I3 I' ∧ [(b_26, .cells (cellsI (mixL St (totN St (rcF St (uF rows l) xs (f0 + 1) (splitF xs s)) (rcF St (uF rows l) xs (f0 + 1) (s - splitF xs s)) j) (totN St (rcF St (uF rows l) xs (f0 + 1) (splitF xs s)) (rcF St (uF rows l) xs (f0 + 1) (s - splitF xs s)) j) 0)) 3 (0, 0))] = loc' ∧ j ≤ 2) _ _ _ _ ⟨0, rfl, rfl, HLe.refl _, rfl, Nat.zero_le _⟩ (.cons rfl (.cons rfl (.cons rfl (.cons rfl (.cons rfl (.cons rfl .nil)))))) (HLe.refl _) rfl ?_
 rintro mz E J4 loc' ⟨j, rfl, rfl, hJ, rfl, hj⟩
 have hE := hE.mono hJ; have hAB := hAB.mono hJ; have hIc := hIc.trans hJ
 have hB4 := hJ
 refine zR (zC (zN (X_seq ?_)))
 refine zI ?_ ?_ <;> intro hc78
 ·
  have hlt_j : j < 2 := by have h := hc78; simp at h; omega
  obtain ⟨q, hpj, hpe, okp, hpl⟩ : ∃ q, ([splitF xs s, s - splitF xs s] : List Int)[j]? = some q ∧ (rcF St (uF rows l) xs (f0 + 1) (q)) = (if j = 0 then (rcF St (uF rows l) xs (f0 + 1) (splitF xs s)) else (rcF St (uF rows l) xs (f0 + 1) (s - splitF xs s))) ∧ OkS rows.length xs q ∧ q < s := by
   rcases (show j = 0 ∨ j = 1 by omega) with rfl | rfl
   ·
    exact ⟨_, rfl, rfl, ok1, by omega⟩
   exact ⟨_, rfl, rfl, ok2, by omega⟩
  have hcl : (if j = 0 then (rcF St (uF rows l) xs (f0 + 1) (splitF xs s)) else (rcF St (uF rows l) xs (f0 + 1) (s - splitF xs s))).length = St.length := by split <;> exact rc_len
  have hci : ∀ c ∈ (if j = 0 then (rcF St (uF rows l) xs (f0 + 1) (splitF xs s)) else (rcF St (uF rows l) xs (f0 + 1) (s - splitF xs s))), 0 ≤ c ∧ c ≤ 2147483648 := by split <;> exact rc_in _ _
  rw [show mixL St (totN St (rcF St (uF rows l) xs (f0 + 1) (splitF xs s)) (rcF St (uF rows l) xs (f0 + 1) (s - splitF xs s)) j) (totN St (rcF St (uF rows l) xs (f0 + 1) (splitF xs s)) (rcF St (uF rows l) xs (f0 + 1) (s - splitF xs s)) j) 0 = mixL St (totN St (rcF St (uF rows l) xs (f0 + 1) (splitF xs s)) (rcF St (uF rows l) xs (f0 + 1) (s - splitF xs s)) (j + 1)) (totN St (rcF St (uF rows l) xs (f0 + 1) (splitF xs s)) (rcF St (uF rows l) xs (f0 + 1) (s - splitF xs s)) j) 0 by rw [mix_0, mix_0]]
  refine X_skip (at_then (X_seq (X_block (zR ?_))))
  refine zV (zX slt_23 hAB) ?_
  refine zV (ev_load rfl sct_3 (fun hg => by exact Sl.get0 hAB hpj rfl)) ?_
  refine zA ?_
  refine zN (zR ?_)
  refine zV (ev_load rfl sct_62 (fun hg => by exact hE.se.any)) ?_
  refine zM ?_
  refine XO_callM (cap := [capP bst, capP brow, capP bloc, capP bcla, capP bse]) (vs := [_]) rfl rfl fun_22 (by exact .nil) (ih _ hIc _ okp hpl) rfl rfl ?_
  rintro vv5 I5 L5 hI5 ⟨rfl, aC, cC, rfl, hBl⟩
  have hE := hE.mono hI5; have hAB := hAB.mono hI5; have hIc := hIc.trans hI5; have hB4 := hB4.trans hI5
  rw [hpe] at hBl ⊢
  refine zA ?_
  refine zN (zR ?_)
  refine zV (ev_load rfl sct_23 (fun hg => by exact hE.st.any)) ?_
  refine zQ slt_23 ?_
  refine zM (zN (X_block ?_))
  refine X_loopT [(1, _), (5, _), (8, _), (18, _), (75, _), (76, _), (77, _), (84, _), (85, _)] (.cons rfl (.cons rfl (.cons rfl (.cons rfl (.cons rfl (.cons rfl (.cons rfl (.cons rfl (.cons rfl .nil))))))))) (fun T L0 mz E I' loc' => ∃ (i : Nat), mz = St.length - i ∧ E = (86, .int .i64 i) :: T ∧ I5 = I' ∧ [(b_26, .cells (cellsI (mixL St (totN St (rcF St (uF rows l) xs (f0 + 1) (splitF xs s)) (rcF St (uF rows l) xs (f0 + 1) (s - splitF xs s)) (j + 1)) (totN St (rcF St (uF rows l) xs (f0 + 1) (splitF xs s)) (rcF St (uF rows l) xs (f0 + 1) (s - splitF xs s)) j) i)) 3 (0, 0))] = loc' ∧ i ≤ St.length) _ _ _ _ ⟨0, rfl, rfl, rfl, rfl, Nat.zero_le _⟩ (.cons rfl (.cons rfl (.cons rfl (.cons rfl (.cons rfl (.cons rfl (.cons rfl (.cons rfl (.cons rfl (.cons rfl .nil)))))))))) (HLe.refl _) rfl ?_
  rintro mz E I' loc' ⟨i, rfl, rfl, rfl, rfl, hi⟩
  refine zR (zC (zN (X_seq ?_)))
  refine zI ?_ ?_ <;> intro hc87
  ·
   have hlt_i : i < St.length := by have h := hc87; simp at h; omega
   obtain ⟨y, hst⟩ := hE.hT.at hlt_i
   have hti := totN_in (S := St) (A := (rcF St (uF rows l) xs (f0 + 1) (splitF xs s))) (B := (rcF St (uF rows l) xs (f0 + 1) (s - splitF xs s))) (x := y) (fun c h => (rc_in _ _ c h).1) (fun c h => (rc_in _ _ c h).1) j
   refine X_skip (at_then (X_seq (X_block (zR (zM ?_)))))
   refine zV (ev_indexSl rfl rfl slt_23 hE.hT (fun hg => by omega)) ?_
   refine zV (ev_load rfl sct_3 (fun hg => by exact Sl.get0 (hE.hT) hst rfl)) ?_
   refine zA ?_
   refine zA ?_
   refine zN (zR ?_)
   refine zA (zN (X_seq (zR ?_)))
   refine zV (ev_load rfl sct_23 (fun hg => by exact hE.st.any)) ?_
   refine zQ slt_23 ?_
   refine zM (zN (X_block ?_))
   refine X_loopT [(1, _), (5, _), (8, _), (18, _), (19, _), (20, _), (75, _), (76, _), (77, _), (84, _), (85, _), (86, _), (91, _), (92, _)] (.cons rfl (.cons rfl (.cons rfl (.cons rfl (.cons rfl (.cons rfl (.cons rfl (.cons rfl (.cons rfl (.cons rfl (.cons rfl (.cons rfl (.cons rfl (.cons rfl .nil)))))))))))))) (fun T L0 mz E I' loc' => ∃ (k : Nat), mz = St.length - k ∧ E = (21, .int .i64 (minN St (if j = 0 then (rcF St (uF rows l) xs (f0 + 1) (splitF xs s)) else (rcF St (uF rows l) xs (f0 + 1) (s - splitF xs s))) y k)) :: (93, .int .i64 k) :: T ∧ I5 = I' ∧ [(b_26, .cells (cellsI (mixL St (totN St (rcF St (uF rows l) xs (f0 + 1) (splitF xs s)) (rcF St (uF rows l) xs (f0 + 1) (s - splitF xs s)) (j + 1)) (totN St (rcF St (uF rows l) xs (f0 + 1) (splitF xs s)) (rcF St (uF rows l) xs (f0 + 1) (s - splitF xs s)) j) i)) 3 (0, 0))] = loc' ∧ k ≤ St.length) _ _ _ _ ⟨0, rfl, rfl, rfl, rfl, Nat.zero_le _⟩ (.cons rfl (.cons rfl (.cons rfl (.cons rfl (.cons rfl (.cons rfl (.cons rfl (.cons rfl (.cons rfl (.cons rfl (.cons rfl (.cons rfl (.cons rfl (.cons rfl (.cons rfl (.cons rfl .nil)))))))))))))))) (HLe.refl _) rfl ?_
   rintro mz E I' loc' ⟨k, rfl, rfl, rfl, rfl, hk⟩
   refine zR (zC (zN (X_seq ?_)))
   refine zI ?_ ?_ <;> intro hc94
   ·
    have hlt_k : k < St.length := by have h := hc94; simp at h; omega
    obtain ⟨yk, hsk⟩ := hE.hT.at hlt_k
    obtain ⟨ck, hck⟩ := hBl.at (show k < _ by omega)
    have hcki := hci ck (List.mem_of_getElem? hck)
    have hsti := step_in y yk
    refine X_skip (at_then (X_seq (X_block (zR (zM ?_)))))
    refine zV (ev_indexSl rfl rfl slt_23 hE.hT (fun hg => by omega)) ?_
    refine zV (ev_load rfl sct_3 (fun hg => by exact Sl.get0 (hE.hT) hsk rfl)) ?_
    refine zA ?_
    refine zA (zN ?_)
    refine X_draw mixed (by kernel_rfl) ?_
    refine XQ_v0 (ev_move rfl) rfl rfl rfl ?_
    refine XQ_v0 (ev_move rfl) rfl rfl rfl ?_
    refine XQ_v0 (ev_move rfl) rfl rfl rfl ?_
    refine XQ_callV0 (cap := []) (vs := [_, _]) rfl rfl fun_24 (w_eprice _ _ _) rfl rfl ?_
    refine XQ_v0 (ev_move rfl) rfl rfl rfl ?_
    refine XQ_v0 (ev_move rfl) rfl rfl rfl ?_
    refine XQ_v0 (zX slt_23 hBl) rfl rfl rfl ?_
    refine XQ_v0 (ev_load rfl sct_3 (fun hg => by exact Sl.get0 hBl hck rfl)) rfl rfl rfl ?_
    refine XQ_v0 (ev_arB rfl rfl rfl (fun hg => by omega)) rfl rfl rfl ?_
    refine XQ_v0 (ev_min rfl rfl) rfl rfl rfl ?_
    refine XQ_v0 (ev_assign rfl) rfl rfl rfl ?_
    refine XQ_nil ?_
    rw [← minN_step hsk hck]
    refine at_block_n (at_then (X_region (zB ?_)))
    refine zM (XO_nil ?_)
    exact at_met2 _ _ ⟨St.length - (k + 1), by omega, k + 1, rfl, rfl, rfl, rfl, by omega⟩ (.cons rfl (.cons rfl (.cons rfl (.cons rfl (.cons rfl (.cons rfl (.cons rfl (.cons rfl (.cons rfl (.cons rfl (.cons rfl (.cons rfl (.cons rfl (.cons rfl (.cons rfl (.cons rfl .nil)))))))))))))))) (by repeat (first | exact .refl | exact subL_left | refine subL_app ?_ | refine .drop ?_ | refine subL_add ?_))
   have hge_k : St.length ≤ k := by have h := hc94; simp at h; omega
   rw [show k = St.length by omega]
   have hmni := minN_in (S := St) (x := y) (fun c h => (hci c h).1) St.length
   refine X_exit (at_then_e (at_then_e (at_block_hit (at_then (X_region (zM ?_))))))
   refine zM ?_
   refine zV (ev_indexOwn rfl rfl slt_23 (fun hg => by omega)) ?_
   refine zV (ev_load rfl sct_3 (fun hg => by exact cellI_at (mix_at hst))) ?_
   refine zM ?_
   refine zB ?_
   refine zV (ev_indexOwn rfl rfl slt_23 (fun hg => by omega)) ?_
   refine XO_store rfl rfl szt_3 rfl rfl (by repeat (first | exact Upd.here | apply Upd.there | apply upd_app)) (bltI (by rw [mix_len]; omega)) ?_
   refine XO_nil ?_
   rw [cellsI_set, show (mixL St (totN St (rcF St (uF rows l) xs (f0 + 1) (splitF xs s)) (rcF St (uF rows l) xs (f0 + 1) (s - splitF xs s)) (j + 1)) (totN St (rcF St (uF rows l) xs (f0 + 1) (splitF xs s)) (rcF St (uF rows l) xs (f0 + 1) (s - splitF xs s)) j) i).set i ((totN St (rcF St (uF rows l) xs (f0 + 1) (splitF xs s)) (rcF St (uF rows l) xs (f0 + 1) (s - splitF xs s)) j) y + minN St (if j = 0 then (rcF St (uF rows l) xs (f0 + 1) (splitF xs s)) else (rcF St (uF rows l) xs (f0 + 1) (s - splitF xs s))) y St.length) = mixL St (totN St (rcF St (uF rows l) xs (f0 + 1) (splitF xs s)) (rcF St (uF rows l) xs (f0 + 1) (s - splitF xs s)) (j + 1)) (totN St (rcF St (uF rows l) xs (f0 + 1) (splitF xs s)) (rcF St (uF rows l) xs (f0 + 1) (s - splitF xs s)) j) (i + 1) from by rw [← mix_set hst, ← totN_step hlt_j]; rfl]
   refine at_block_n (at_then (X_region (zB ?_)))
   refine zM (XO_nil ?_)
   exact at_met2 _ _ ⟨St.length - (i + 1), by omega, i + 1, rfl, rfl, rfl, rfl, by omega⟩ (.cons rfl (.cons rfl (.cons rfl (.cons rfl (.cons rfl (.cons rfl (.cons rfl (.cons rfl (.cons rfl (.cons rfl .nil)))))))))) (by repeat (first | exact .refl | exact subL_left | refine subL_app ?_ | refine .drop ?_ | refine subL_add ?_))
  have hge_i : St.length ≤ i := by have h := hc87; simp at h; omega
  rw [show mixL St (totN St (rcF St (uF rows l) xs (f0 + 1) (splitF xs s)) (rcF St (uF rows l) xs (f0 + 1) (s - splitF xs s)) (j + 1)) (totN St (rcF St (uF rows l) xs (f0 + 1) (splitF xs s)) (rcF St (uF rows l) xs (f0 + 1) (s - splitF xs s)) j) i = mixL St (totN St (rcF St (uF rows l) xs (f0 + 1) (splitF xs s)) (rcF St (uF rows l) xs (f0 + 1) (s - splitF xs s)) (j + 1)) (totN St (rcF St (uF rows l) xs (f0 + 1) (splitF xs s)) (rcF St (uF rows l) xs (f0 + 1) (s - splitF xs s)) (j + 1)) 0 by rw [mix_all hge_i, mix_0]]
  refine X_exit (at_then_e (at_then_e (at_block_hit (at_block_n (at_then (X_region (zB ?_)))))))
  refine zM (XO_nil ?_)
  exact at_met2 _ _ ⟨2 - (j + 1), by omega, j + 1, rfl, rfl, hB4, rfl, by omega⟩ (.cons rfl (.cons rfl (.cons rfl (.cons rfl (.cons rfl (.cons rfl .nil)))))) (by repeat (first | exact .refl | exact subL_left | refine subL_app ?_ | refine .drop ?_ | refine subL_add ?_))
 have hge_j : 2 ≤ j := by have h := hc78; simp at h; omega
 rw [show j = 2 by omega, mix_0]
 refine X_exit (at_then_e (at_then_e (at_block_hit (at_then (zR (zM ?_))))))
 refine zA (zN (X_ret ?_))
 first
 | exact at_ret1 rfl rfl (fun w hw => by obtain ⟨I9, h91, h92, h93⟩ := OwnS.res (own_rowI (by rw [List.length_map]) (by omega)) encI_len (by decide) hw; rw [← rc_2 (f := f0 + 1) hns0] at h93; exact ⟨_, I9, [], rfl, hIc.trans h91, h92, h93⟩)
end
section
open Go Go.Kn
theorem comp_inv (d : Array Int) (hs : ∀ j, 0 < j → j < d.size → d[j - 1]! ≤ d[j]!) : ∀ m, m ≤ d.size → (Lib.compactUpTo d m).Pairwise (· < ·) ∧ (∀ x ∈ Lib.compactUpTo d m, 0 < m ∧ x ≤ d[m - 1]!) ∧ ∀ x, x ∈ Lib.compactUpTo d m ↔ ∃ j, j < m ∧ d[j]! = x
 | 0, _ => ⟨.nil, (fun x h => by cases h), fun x => ⟨(fun h => by cases h), fun ⟨j, h, _⟩ => by omega⟩⟩
 | m + 1, hm => by
  obtain ⟨h1, h2, h3⟩ := comp_inv d hs m (by omega)
  rw [Lib.compactUpTo_succ]
  by_cases hk : Lib.keeps d m = true
  ·
   rw [if_pos hk]
   have hlt : ∀ x ∈ Lib.compactUpTo d m, x < d[m]! := fun x hx => by
    obtain ⟨a, b⟩ := h2 x hx
    have h4 := hs m a (by omega)
    unfold Lib.keeps at hk
    have h5 := of_decide_eq_true hk
    omega
   refine ⟨?_, ?_, ?_⟩
   ·
    rw [List.pairwise_append]
    exact ⟨h1, List.pairwise_singleton .., fun y hy z hz => by rw [List.mem_singleton] at hz; rw [hz]; exact hlt y hy⟩
   ·
    intro x hx
    refine ⟨by omega, ?_⟩
    rw [show m + 1 - 1 = m from by omega]
    rcases List.mem_append.1 hx with hx | hx
    ·
     have := hlt x hx; omega
    ·
     rw [List.mem_singleton] at hx; rw [hx]; exact Int.le_refl _
   ·
    intro x
    rw [List.mem_append, h3, List.mem_singleton]
    constructor
    ·
     rintro (⟨j, a, b⟩ | e)
     ·
      exact ⟨j, by omega, b⟩
     ·
      exact ⟨m, by omega, e.symm⟩
    ·
     rintro ⟨j, a, b⟩
     by_cases e : j = m
     ·
      subst e; exact .inr b.symm
     ·
      exact .inl ⟨j, by omega, b⟩
  ·
   rw [if_neg hk, List.append_nil]
   unfold Lib.keeps at hk
   have h5 : ¬ (m = 0 ∨ d[m]! ≠ d[m - 1]!) := fun h => hk (decide_eq_true h)
   have h6 : 0 < m ∧ d[m]! = d[m - 1]! := by omega
   refine ⟨h1, ?_, ?_⟩
   ·
    intro x hx
    have := h2 x hx
    rw [show m + 1 - 1 = m from by omega]
    omega
   ·
    intro x
    rw [h3]
    constructor
    ·
     rintro ⟨j, a, b⟩; exact ⟨j, by omega, b⟩
    ·
     rintro ⟨j, a, b⟩
     by_cases e : j = m
     ·
      subst e; exact ⟨j - 1, by omega, by rw [← h6.2]; exact b⟩
     ·
      exact ⟨j, by omega, b⟩
theorem comp_sort (zs : List Int) : (Lib.compact (sortI zs)).Pairwise (· < ·) ∧ ∀ x, x ∈ Lib.compact (sortI zs) ↔ x ∈ zs := by
 have hp : (sortI zs).Pairwise (fun a b => decide (a ≤ b) = true) := List.pairwise_mergeSort (by intro a b c; simp; omega) (by intro a b; simp; omega) zs
 have hget : ∀ j, j < (sortI zs).length → (sortI zs).toArray[j]! = (sortI zs)[j]! := fun j hj => by simp
 have hs : ∀ j, 0 < j → j < (sortI zs).toArray.size → (sortI zs).toArray[j - 1]! ≤ (sortI zs).toArray[j]! := by
  intro j h0 hj
  have hj' : j < (sortI zs).length := by simpa using hj
  have h1 := List.pairwise_iff_getElem.1 hp (j - 1) j (by omega) hj' (by omega)
  have h2 := of_decide_eq_true h1
  simpa [hj', show j - 1 < (sortI zs).length from by omega] using h2
 obtain ⟨h1, _, h3⟩ := comp_inv (sortI zs).toArray hs (sortI zs).length (by simp)
 refine ⟨h1, fun x => ?_⟩
 unfold Lib.compact
 rw [h3]
 have hmem : x ∈ sortI zs ↔ x ∈ zs := (List.mergeSort_perm zs _).mem_iff
 rw [← hmem]
 constructor
 ·
  rintro ⟨j, hj, e⟩
  have : (sortI zs)[j] = x := by simpa [hj] using e
  rw [← this]; exact List.getElem_mem hj
 ·
  intro h
  obtain ⟨j, hj, e⟩ := List.getElem_of_mem h
  exact ⟨j, hj, by simpa [hj] using e⟩
end
section
open Go Go.Kn Go.Proofs
def rcV (S : List Int) (u : Nat → Int) (cl : List Int) (f : Nat) (s x : Int) : Int := if singF s = true then leafN (u (witF s)) x else totN S (rcF S u cl f (splitF cl s)) (rcF S u cl f (s - splitF cl s)) 2 x
theorem rc_map {S : List Int} {u : Nat → Int} {cl : List Int} {f : Nat} {s : Int} : rcF S u cl (f + 1) s = S.map (rcV S u cl f s) := by
 cases h : singF s with
 | true => rw [rc_1 h]; exact List.map_congr_left fun x _ => by unfold rcV; rw [if_pos h]
 | false => rw [rc_2 h]; exact List.map_congr_left fun x _ => by unfold rcV; rw [if_neg (by rw [h]; decide)]
def stE (rows : List (List Int)) (l : Nat) : List Int := Lib.compact (sortI (stL rows l rows.length))
def topF (rows : List (List Int)) (cl : List Int) (l : Nat) : List Int := rcF (stE rows l) (uF rows l) cl 64 (allS rows.length)
def topV (rows : List (List Int)) (cl : List Int) (l : Nat) (x : Int) : Int := rcV (stE rows l) (uF rows l) cl 63 (allS rows.length) x
theorem top_map {rows : List (List Int)} {cl : List Int} {l : Nat} : topF rows cl l = (stE rows l).map (topV rows cl l) := rc_map (f := 63)
def rootF (rows : List (List Int)) (cl : List Int) (l : Nat) : List Int := (stE rows l).filter fun x => topV rows cl l x == leastF (topF rows cl l)
def rootsL (rows : List (List Int)) (cl : List Int) : List (List Int) := if costE rows cl ≠ 0 then [] else (List.range (rows.getD 0 []).length).map (rootF rows cl)
theorem roots_bad {rows : List (List Int)} {cl : List Int} (h : costE rows cl ≠ 0) : rootsL rows cl = [] := by unfold rootsL; rw [if_pos h]
theorem roots_ok {rows : List (List Int)} {cl : List Int} (h : costE rows cl = 0) : rootsL rows cl = (List.range (rows.getD 0 []).length).map (rootF rows cl) := by unfold rootsL; rw [if_neg (by omega)]
theorem range_map {α : Type} {f : Nat → α} {k : Nat} : (List.range (k + 1)).map f = (List.range k).map f ++ [f k] := by rw [List.range_succ, List.map_append]; rfl
theorem filt_yes {α : Type} {p : α → Bool} {xs : List α} {k : Nat} {x : α} (hx : xs[k]? = some x) (h : p x = true) : (xs.take (k + 1)).filter p = (xs.take k).filter p ++ [x] := by
 rw [List.take_add_one, hx, List.filter_append]; simp [h]
theorem filt_no {α : Type} {p : α → Bool} {xs : List α} {k : Nat} {x : α} (hx : xs[k]? = some x) (h : p x = false) : (xs.take (k + 1)).filter p = (xs.take k).filter p := by
 rw [List.take_add_one, hx, List.filter_append]; simp [h]
theorem stE_len {rows : List (List Int)} {l : Nat} : (stE rows l).length ≤ rows.length + 1 := by
 have h1 : (stL rows l rows.length).length ≤ rows.length + 1 := by
  unfold stL
  have := List.length_filter_le (fun x => x != 8589934592) ((List.range rows.length).map fun w => uF rows l w)
  rw [List.length_map, List.length_range] at this
  rw [List.length_cons]; omega
 have h2 : (sortI (stL rows l rows.length)).length = (stL rows l rows.length).length := by unfold sortI; exact (List.mergeSort_perm _ _).length_eq
 have h3 := Lib.compact_length_le (sortI (stL rows l rows.length))
 unfold stE; omega
theorem stE_mem {rows : List (List Int)} {l : Nat} {y : Int} : y ∈ stE rows l ↔ y ∈ statesF rows l := by unfold stE; rw [(comp_sort _).2, sl_mem]
theorem stE_up {rows : List (List Int)} {l : Nat} : (stE rows l).Pairwise (· < ·) := (comp_sort _).1
theorem stE_pos {rows : List (List Int)} {l : Nat} : 0 < (stE rows l).length := List.length_pos_of_mem (stE_mem.2 (st_mem.2 (.inl rfl)))
theorem top_len {rows : List (List Int)} {cl : List Int} {l : Nat} : (topF rows cl l).length = (stE rows l).length := by rw [top_map, List.length_map]
def RootsQ (rows : List (List Int)) (cl : List Int) : Value → HMap → Go.Kn.Loc → Prop := fun v I' L => L = [] ∧ ∃ av c, v = .tuple #[.slice av (rootsL rows cl).length c, .int .i64 (costE rows cl)] ∧ SlN I' av (rootsL rows cl).length c (rootsL rows cl)
end
end Go.Proofs.YthcffaheamikgaaGreatDoor
namespace Go.Proofs
section
open Go.Shelf
def Tryz.lays189_ren : Go.Shelf.Ren := ⟨fun | 189 => 20 | 125 => 49 | 257 => 48 | 128 => 92 | 129 => 93 | 294 => 83 | 295 => 84 | 296 => 85 | 297 => 86 | 298 => 87 | 299 => 88 | 216 => 89 | 300 => 90 | 301 => 91 | 328 => 113 | 329 => 114 | 330 => 115 | 331 => 116 | 332 => 117 | 215 => 118 | 343 => 130 | n => n, fun | 28 => 23 | 3 => 3 | 46 => 100 | 0 => 0 | 51 => 128 | 53 => 130 | 4 => 4 | 183 => 122 | 182 => 121 | 131 => 115 | 5 => 5 | 9 => 9 | 218 => 145 | 222 => 149 | 228 => 156 | 229 => 157 | n => n, fun | n => n⟩
theorem Tryz.lays189 : Go.Proofs.Lays.n189 Tryz.prog Tryz.lays189_ren := {
 mixed := by kernel_rfl
 f125 := Tryz.func49.trans (congrArg some (by kernel_rfl))
 f128 := Tryz.func92.trans (congrArg some (by kernel_rfl))
 f129 := Tryz.func93.trans (congrArg some (by kernel_rfl))
 f189 := Tryz.func20.trans (congrArg some (by kernel_rfl))
 f215 := Tryz.func118.trans (congrArg some (by kernel_rfl))
 f216 := Tryz.func89.trans (congrArg some (by kernel_rfl))
 f257 := Tryz.func48.trans (congrArg some (by kernel_rfl))
 f294 := Tryz.func83.trans (congrArg some (by kernel_rfl))
 f295 := Tryz.func84.trans (congrArg some (by kernel_rfl))
 f296 := Tryz.func85.trans (congrArg some (by kernel_rfl))
 f297 := Tryz.func86.trans (congrArg some (by kernel_rfl))
 f298 := Tryz.func87.trans (congrArg some (by kernel_rfl))
 f299 := Tryz.func88.trans (congrArg some (by kernel_rfl))
 f300 := Tryz.func90.trans (congrArg some (by kernel_rfl))
 f301 := Tryz.func91.trans (congrArg some (by kernel_rfl))
 f328 := Tryz.func113.trans (congrArg some (by kernel_rfl))
 f329 := Tryz.func114.trans (congrArg some (by kernel_rfl))
 f330 := Tryz.func115.trans (congrArg some (by kernel_rfl))
 f331 := Tryz.func116.trans (congrArg some (by kernel_rfl))
 f332 := Tryz.func117.trans (congrArg some (by kernel_rfl))
 f343 := Tryz.func130.trans (congrArg some (by kernel_rfl))
 t0 := Tryz.underlying0
 a0 := Tryz.isAgg0
 z0 := Tryz.sizeOf0
 v0 := Tryz.zeroValue0
 t3 := Tryz.underlying3
 a3 := Tryz.isAgg3
 z3 := Tryz.sizeOf3
 v3 := Tryz.zeroValue3
 t4 := Tryz.underlying4
 a4 := Tryz.isAgg4
 z4 := Tryz.sizeOf4
 v4 := Tryz.zeroValue4
 t5 := Tryz.underlying5
 a5 := Tryz.isAgg5
 z5 := Tryz.sizeOf5
 v5 := Tryz.zeroValue5
 t9 := Tryz.underlying9
 a9 := Tryz.isAgg9
 z9 := Tryz.sizeOf9
 v9 := Tryz.zeroValue9
 t28 := Tryz.underlying23
 a28 := Tryz.isAgg23
 z28 := Tryz.sizeOf23
 v28 := Tryz.zeroValue23
 t46 := Tryz.underlying100
 a46 := Tryz.isAgg100
 z46 := Tryz.sizeOf100
 v46 := Tryz.zeroValue100
 t51 := Tryz.underlying128
 a51 := Tryz.isAgg128
 z51 := Tryz.sizeOf128
 v51 := Tryz.zeroValue128
 t53 := Tryz.underlying130
 a53 := Tryz.isAgg130
 z53 := Tryz.sizeOf130
 v53 := Tryz.zeroValue130
 t131 := Tryz.underlying115
 a131 := Tryz.isAgg115
 z131 := Tryz.sizeOf115
 v131 := Tryz.zeroValue115
 t182 := Tryz.underlying121
 a182 := Tryz.isAgg121
 z182 := Tryz.sizeOf121
 v182 := Tryz.zeroValue121
 t183 := Tryz.underlying122
 a183 := Tryz.isAgg122
 z183 := Tryz.sizeOf122
 v183 := Tryz.zeroValue122
 t218 := Tryz.underlying145
 a218 := Tryz.isAgg145
 z218 := Tryz.sizeOf145
 v218 := Tryz.zeroValue145
 t222 := Tryz.underlying149
 a222 := Tryz.isAgg149
 z222 := Tryz.sizeOf149
 v222 := Tryz.zeroValue149
 t228 := Tryz.underlying156
 a228 := Tryz.isAgg156
 z228 := Tryz.sizeOf156
 v228 := Tryz.zeroValue156
 t229 := Tryz.underlying157
 a229 := Tryz.isAgg157
 z229 := Tryz.sizeOf157
 v229 := Tryz.zeroValue157 }
open Go.Sort Go.RowKit in
theorem Tryz.slices_Sort_int (blk off cap : Nat) (zs : List Int) (w : World) (hH : Holds (Value.int .i64) w blk off zs.toArray) (hblk : blk < w.heap.size) (hsz : zs.length < 4611686018427387904) :
  Calls Tryz.prog 20 #[.slice (some ⟨blk, off, none⟩) zs.length cap] w fun e w' =>
   e = .returned (.tuple #[]) ∧ ∃ n os, w' = grow (putRow (Value.int .i64) (Sort.ahead w n) blk off (zs.mergeSort fun x y => decide (x ≤ y)).toArray) os := Any.slices_Sort_int Tryz.lays189 blk off cap zs w hH hblk hsz
def Tryz.laysNm220_ren : Go.Shelf.Ren := ⟨fun | 20 => 21 | n => n, fun | 22 => 23 | 3 => 3 | 4 => 4 | 0 => 0 | n => n, fun | n => n⟩
theorem Tryz.laysNm220 : Go.Proofs.Lays2.n20 Tryz.prog Tryz.laysNm220_ren := {
 mixed := by kernel_rfl
 f20 := Tryz.func21.trans (congrArg some (by kernel_rfl))
 t0 := Tryz.underlying0
 a0 := Tryz.isAgg0
 z0 := Tryz.sizeOf0
 v0 := Tryz.zeroValue0
 t3 := Tryz.underlying3
 a3 := Tryz.isAgg3
 z3 := Tryz.sizeOf3
 v3 := Tryz.zeroValue3
 t4 := Tryz.underlying4
 a4 := Tryz.isAgg4
 z4 := Tryz.sizeOf4
 v4 := Tryz.zeroValue4
 t22 := Tryz.underlying23
 a22 := Tryz.isAgg23
 z22 := Tryz.sizeOf23
 v22 := Tryz.zeroValue23
 i3 := by kernel_rfl }
open Go.RowKit Go.Lib Go.Sort in
theorem Tryz.slices_Compact_int (blk off cap : Nat) (zs : List Int) (w : World) (hH : Holds (Value.int .i64) w blk off zs.toArray) (hsz : zs.length ≤ 9223372036854775807) (hcap : zs.length ≤ cap) :
  Calls Tryz.prog 21 #[.slice (some ⟨blk, off, none⟩) zs.length cap] w fun e w' => e = .returned (.slice (some ⟨blk, off, none⟩) (Lib.compact zs).length cap) ∧ ∃ q, w' = putRow (Value.int .i64) (Sort.ahead w q) blk off (Lib.compact zs ++ List.replicate (zs.length - (Lib.compact zs).length) 0).toArray := Any.slices_Compact_int Tryz.laysNm220 blk off cap zs w hH hsz hcap
open Go.RowKit Go.Lib Go.Sort in
theorem Tryz.slices_Compact_int_empty (a : Option Addr) (cap : Nat) (w : World) :
  Calls Tryz.prog 21 #[.slice a 0 cap] w fun e w' => e = .returned (.slice a 0 cap) ∧ w' = w := Any.slices_Compact_int_empty Tryz.laysNm220 a cap w
open Go.RowKit Go.Sort in
theorem Tryz.slices_Sort_int_none (p : Option Addr) (cap : Nat) (w : World) :
  Calls Tryz.prog 20 #[.slice p 0 cap] w fun e w' => e = .returned (.tuple #[]) ∧ w' = w := Any.slices_Sort_int_none Tryz.lays189 p cap w
end
end Go.Proofs
namespace Go.Proofs.YthcffaheamikgaaGreatDoor
section
open Go Go.Kn Go.Proofs
theorem elt_22 : ElT Tryz.prog 22 23 1 24 := .of (by kernel_rfl)
theorem fun_19 : Fun Tryz.prog 19 := .of Tryz.func19 (by kernel_rfl) (by kernel_rfl)
theorem fun_20 : Fun Tryz.prog 20 := .of Tryz.func20 (by kernel_rfl) (by kernel_rfl)
theorem fun_21 : Fun Tryz.prog 21 := .of Tryz.func21 (by kernel_rfl) (by kernel_rfl)
theorem szt_23 : SzT Tryz.prog 23 1 := .of (by kernel_rfl)
theorem szt_62 : SzT Tryz.prog 62 1 := .of (by kernel_rfl)
theorem zt_23 : ZeroT Tryz.prog 23 (.slice none 0 0) := .of (by kernel_rfl)
theorem zt_3 : ZeroT Tryz.prog 3 (.int .i64 0) := .of (by kernel_rfl)
theorem zt_62 : ZeroT Tryz.prog 62 .nilFunc := .of (by kernel_rfl)
theorem flat_intI (zs : List Int) : zs.flatMap encI = zs.map (Value.int .i64) := by
 induction zs with
 | nil => rfl
 | cons z zs ih => rw [List.flatMap_cons, ih]; rfl
theorem w_sortF {zs : List Int} {v : Value} {n : Nat} {L : Go.Kn.Loc} (hO : OwnS 3 1 v n (zs.flatMap encI) L) (hn : n ≤ 1000000) (I : HMap) : RetM Tryz.prog 20 [v] I L (fun u I' L' => u = .tuple #[] ∧ I' = I ∧ OwnS 3 1 v n ((sortI zs).flatMap encI) L') := by
 rw [flat_intI] at hO
 rw [flat_intI]
 exact retSort Tryz.slices_Sort_int Tryz.slices_Sort_int_none zs hO hn I
theorem w_compactF {zs : List Int} {v : Value} {n : Nat} {L : Go.Kn.Loc} (hO : OwnS 3 1 v n (zs.flatMap encI) L) (hn : n ≤ 1000000) (I : HMap) : RetM Tryz.prog 21 [v] I L (fun u I' L' => I' = I ∧ OwnS 3 1 u (Lib.compact zs).length ((Lib.compact zs).flatMap encI) L') := by
 rw [flat_intI] at hO
 rw [flat_intI]
 exact retCompact Lib.compact Lib.compact_length_le rfl Tryz.slices_Compact_int Tryz.slices_Compact_int_empty zs hO hn I
theorem w_roots1F {I : HMap} {bst brow bloc bcla bse : Nat} {sv bv av : Option Addr} {ns cs n2 c2 n c : Nat} {St xs : List Int} {rows : List (List Int)} {l : Nat} (hn : n ≤ 100000) (hn2 : n2 ≤ 100000) (hns : ns ≤ 1000) (hl : ∀ r ∈ rows, l < r.length) (hc : chkN rows.length xs = 0) : ∀ (f : Nat) (I : HMap), RtE I 22 bst brow bloc bcla bse sv bv av ns cs n2 c2 n c St xs rows l → ∀ (s : Int), OkS rows.length xs s → s.toNat ≤ f → RetM Tryz.prog 22 ([.int .i64 s] ++ [capP bst, capP brow, capP bloc, capP bcla, capP bse]) I [] (SlRes 1 encI (rcF St (uF rows l) xs f s))
 | 0, _, _, s, hok, hf => by have := hok.1; omega
 | f + 1, I, hE, s, hok, hf => w_roots1 hE hn hn2 hns hl hc f s hok (fun h => by omega) fun I' hI s' hok' hlt => w_roots1F (I := I') hn hn2 hns hl hc f I' (hE.mono hI) s' hok' (by have := hok'.1; have := hok.1; omega)
theorem w_Roots {I : HMap} {av : Option Addr} {n c : Nat} {xs : List Int} (hS : Sl I 1 encI av n c xs) {bv : Option Addr} {n2 c2 : Nat} {rows : List (List Int)} (hVn : SlN I bv n2 c2 rows) (hn2 : n2 ≤ 100000) (hDb : DebOK I) : RetM Tryz.prog 7 [.slice bv n2 c2, .slice av n c] I [] (RootsQ rows xs) := by
 intro g H w hw
 refine enter Tryz.func7 rfl Tryz.ntmps7 rfl hw ?_
 have hIc := HLe.refl I
 have hlV := hVn.len
 subst hlV
 have hVn9 := hVn
 obtain ⟨hs, hV⟩ := hVn9
 have hH := hV.1
 refine zR ?_
 refine XO_box rfl rfl rfl (fun b_2 => ?_)
 refine XO_box rfl rfl rfl (fun b_3 => ?_)
 refine zA ?_
 refine zA (zN (X_seq (zR ?_)))
 refine zV (ev_load rfl sct_22 (fun hg => by exact Cell.there (Cell.here rfl))) ?_
 refine zV (ev_load rfl sct_23 (fun hg => by exact Cell.here rfl)) ?_
 refine XO_callV0 (cap := []) (vs := [_, _]) rfl rfl fun_19 (w_CostN hS hVn hn2 hDb) rfl rfl ?_
 refine zM ?_
 refine zE ?_
 refine zE ?_
 refine zA ?_
 refine zN (zR ?_)
 refine zM ?_
 refine zC (zN ?_)
 refine zI ?_ ?_ <;> intro hc24
 ·
  have hcE : costE rows xs ≠ 0 := by simpa using hc24
  refine zR (zM ?_)
  refine zA ?_
  refine zA (zN (X_ret (at_then_r ?_)))
  first
  | exact at_ret2 rfl rfl rfl (fun w hw => ⟨_, _, [], rfl, hIc, hw.drop, rfl, none, 0, by rw [roots_bad hcE]; rfl, by rw [roots_bad hcE]; exact .none⟩)
 have hcE : costE rows xs = 0 := by simpa using hc24
 have hr0 : rowsN rows = 0 := by cases Decidable.em (rowsN rows = 0) with
  | inl h => exact h
  | inr h => exact absurd ((cost_1 h).1.symm.trans hcE) h
 have hc0 : chkN rows.length xs = 0 := by have h := hcE; unfold costE at h; rw [if_neg (by omega)] at h; exact h
 obtain ⟨hr1, hr6, hr64, hrr⟩ := rows_ok hr0
 obtain ⟨x0, v0, hx0, hv0, hQ0⟩ := hV.at (k := 0) (by omega)
 have hx0l := hQ0.len
 have hg0 : rows.getD 0 [] = v0 := getD_of hv0
 rw [hg0] at hr64 hrr
 have hxl := (chkN_ok hc0).2.2.1
 have hSl := hS.len
 have hn : n ≤ 100000 := by omega
 have hsh := shl_in (n := (rows.length : Int)) ⟨by omega, by omega⟩
 have hal9 := all_in (n := (rows.length : Int)) ⟨by omega, by omega⟩
 refine X_skip (at_then (X_seq (X_seq ?_)))
 refine X_freezeAll (fun I1 hI1 hall => ?_)
 have hS := hS.mono hI1; have hVn := hVn.mono hI1; have hV := hV.mono hI1; have hH := hH.mono hI1; have hDb := hDb.mono hI1; have hIc := hIc.trans hI1
 have hB2 : Cell I1 [] b_2 0 (.slice bv rows.length c2) := .imm (hall _ _ (by repeat (first | exact List.mem_cons_self .. | apply List.mem_cons_of_mem))) rfl
 have hB3 : Cell I1 [] b_3 0 (.slice av n c) := .imm (hall _ _ (by repeat (first | exact List.mem_cons_self .. | apply List.mem_cons_of_mem))) rfl
 refine X_region ?_
 refine zV (ev_load rfl sct_22 (fun hg => by exact hB2.any)) ?_
 refine zV (zX slt_22 hH) ?_
 refine zV (ev_load rfl sct_23 (fun hg => by exact Sl.get0 hH hx0 rfl)) ?_
 refine zQ slt_23 ?_
 refine zM (zN (X_block ?_))
 refine X_loopT [(2, _), (3, _), (29, _)] (.cons rfl (.cons rfl (.cons rfl .nil))) (fun T L0 mz E I' loc' => ∃ (l : Nat) (v4 : Value) (os : List Hd) (L : Go.Kn.Loc), mz = x0.n - l ∧ E = (4, v4) :: (30, .int .i64 l) :: T ∧ HLe I1 I' ∧ L = loc' ∧ l ≤ x0.n ∧ OwnS 23 1 v4 l (os.flatMap encH) L ∧ RelH I' os ((List.range l).map (rootF rows xs))) _ _ _ _ ⟨0, _, [], [], rfl, rfl, HLe.refl _, rfl, Nat.zero_le _, OwnS.nil, RelH.nil⟩ (.cons rfl (.cons rfl (.cons rfl (.cons rfl (.cons rfl .nil))))) (HLe.refl _) rfl ?_
 rintro mz E J2 loc' ⟨l, v4, os, L, rfl, rfl, hJ, rfl, hl, hO4, hre⟩
 have hS := hS.mono hJ; have hVn := hVn.mono hJ; have hV := hV.mono hJ; have hH := hH.mono hJ; have hDb := hDb.mono hJ; have hB2 := hB2.mono hJ; have hB3 := hB3.mono hJ; have hIc := hIc.trans hJ
 have hB0 := hJ
 obtain ⟨va4, vc4, rfl⟩ := valn hO4
 refine zR (zC (zN (X_seq ?_)))
 refine zI ?_ ?_ <;> intro hc31
 ·
  have hlt_l : l < x0.n := by have h := hc31; simp at h; omega
  have hsl := stE_len (rows := rows) (l := l)
  refine X_skip (at_then (X_seq (X_block (zR (zM ?_)))))
  refine XO_alloc zt_3 rfl rfl (fun b_6 => ?_)
  refine zS szt_3 ?_
  refine zN (zR ?_)
  refine XO_buildSlice (ps := [(0, _)]) (m := [encI (0 : Int)]) elt_23 rfl (.cons rfl (.nil)) rfl (by simp [encI_len]) (by decide) (by decide) rfl rfl (fun b_33 => ?_)
  refine XO_alloc zt_23 rfl rfl (fun b_7 => ?_)
  refine zS szt_23 ?_
  refine zN (X_seq (zR ?_))
  refine zV (ev_load rfl sct_22 (fun hg => by exact hB2.any)) ?_
  refine zQ slt_22 ?_
  refine zM (zN (X_block ?_))
  refine X_loopT [(2, _), (3, _), (4, _), (6, _), (7, _), (29, _), (30, _), (34, _), (35, _)] (.cons rfl (.cons rfl (.cons rfl (.cons rfl (.cons rfl (.cons rfl (.cons rfl (.cons rfl (.cons rfl .nil))))))))) (fun T L0 mz E I' loc' => ∃ (i : Nat) (v7 : Value) (q7 : Nat) (L7 : Go.Kn.Loc), mz = rows.length - i ∧ E = (36, .int .i64 i) :: T ∧ J2 = I' ∧ (b_7, .cells #[v7] 23 (0, 0)) :: (L7 ++ ((b_6, .cells #[.int .i64 l] 3 (0, 0)) :: L)) = loc' ∧ i ≤ rows.length ∧ OwnS 3 1 v7 q7 ((stL rows l i).flatMap encI) L7 ∧ q7 ≤ i + 1) _ _ _ _ ⟨0, _, 1, [(b_33, _)], rfl, rfl, rfl, rfl, Nat.zero_le _, OwnS.lit rfl (by decide), Nat.le_refl _⟩ (.cons rfl (.cons rfl (.cons rfl (.cons rfl (.cons rfl (.cons rfl (.cons rfl (.cons rfl (.cons rfl (.cons rfl .nil)))))))))) (HLe.refl _) rfl ?_
  rintro mz E I' loc' ⟨i, v7, q7, L7, rfl, rfl, rfl, rfl, hi, hO7, hq7⟩
  obtain ⟨va, vc, rfl⟩ := valn hO7
  refine zR (zC (zN (X_seq ?_)))
  refine zI ?_ ?_ <;> intro hc37
  ·
   have hlt_i : i < rows.length := by have h := hc37; simp at h; omega
   obtain ⟨x, v, hx, hv, hQ⟩ := hV.at hlt_i
   have hlv : l < v.length := by rw [(hrr v (List.mem_of_getElem? hv)).1]; omega
   have hu := some_getD (d := 0) rfl hlv
   have hvn := hQ.len
   have hUF : uF rows l i = v.getD l 0 := by unfold uF; rw [getD_of hv]
   refine X_skip (at_then (X_seq (X_block (zR ?_))))
   refine zV (zX slt_22 hH) ?_
   refine zV (ev_load rfl sct_23 (fun hg => by exact Sl.get0 hH hx rfl)) ?_
   refine zA ?_
   refine zN (zR ?_)
   refine zM ?_
   refine zV (ev_load rfl sct_3 (fun hg => by (repeat (first | exact Cell.here rfl | apply Cell.there | apply Cell.app)))) ?_
   refine zV (zX slt_23 hQ) ?_
   refine zV (ev_load rfl sct_3 (fun hg => by exact Sl.get0 hQ hu rfl)) ?_
   refine zA ?_
   refine zN (zR ?_)
   refine zM ?_
   refine zC (zN ?_)
   refine zI ?_ ?_ <;> intro hc45
   ·
    have hne : uF rows l i ≠ 8589934592 := by rw [hUF]; simpa using hc45
    refine X_region ?_
    refine zV (ev_load rfl sct_23 (fun hg => by exact Cell.here rfl)) ?_
    refine zM ?_
    refine XO_buildSlice (ps := [(0, _)]) (m := [encI (v.getD l 0)]) elt_23 rfl (.cons rfl (.nil)) rfl (by simp [encI_len]) (by decide) (by decide) rfl rfl (fun b_48 => ?_)
    refine XO_append (v := _) (ys := [v.getD l 0].flatMap encI) (L := L7) rfl rfl elt_23 hO7 (by repeat (first | exact .cons .here .nil | exact split_all | exact split_app | apply split_cons | apply split_skip)) ⟨rfl, fun _ => rfl, by repeat (first | exact Cells.here | apply Cells.there | apply Cells.app)⟩ (one_I [v.getD l 0]) (by omega) rfl rfl ?_
    intro v9 L9 hO9 _; rw [← List.flatMap_append] at hO9; obtain ⟨va9, vc9, rfl⟩ := valn hO9
    refine zS szt_23 ?_
    refine XO_nil (at_block_n (at_then (X_region (zB ?_))))
    refine zM (XO_nil ?_)
    first
    | exact at_metP _ _ (L9 ++ ((b_7, _) :: ((b_6, _) :: L))) ⟨rows.length - (i + 1), by omega, i + 1, _, q7 + 1, L9, rfl, rfl, rfl, rfl, by omega, by rw [sl_yes hne, hUF]; exact hO9, by omega⟩ (.cons rfl (.cons rfl (.cons rfl (.cons rfl (.cons rfl (.cons rfl (.cons rfl (.cons rfl (.cons rfl (.cons rfl .nil)))))))))) List.perm_middle.symm (by repeat (first | exact .refl | exact subL_left | refine subL_app ?_ | refine .drop ?_ | refine subL_add ?_))
   have heq : uF rows l i = 8589934592 := by rw [hUF]; simpa using hc45
   refine X_skip (at_block_n (at_then (X_region (zB ?_))))
   refine zM (XO_nil ?_)
   first
   | exact at_met2 _ _ ⟨rows.length - (i + 1), by omega, i + 1, _, q7, L7, rfl, rfl, rfl, rfl, by omega, by rw [sl_no heq]; exact hO7, by omega⟩ (.cons rfl (.cons rfl (.cons rfl (.cons rfl (.cons rfl (.cons rfl (.cons rfl (.cons rfl (.cons rfl (.cons rfl .nil)))))))))) (by repeat (first | exact .refl | exact subL_left | refine subL_app ?_ | refine .drop ?_ | refine subL_add ?_))
  have hge_i : rows.length ≤ i := by have h := hc37; simp at h; omega
  rw [show i = rows.length by omega] at hO7
  refine X_exit (at_then_e (at_then_e (at_block_hit (at_then (zR ?_)))))
  refine zV (ev_load rfl sct_23 (fun hg => by exact Cell.here rfl)) ?_
  refine XO_callM (cap := []) (vs := [_]) rfl rfl fun_20 (by repeat (first | exact .cons .here .nil | exact split_all | exact split_app | apply split_cons | apply split_skip)) (w_sortF hO7 (by omega) _) rfl rfl ?_
  rintro vv4 I4 L4 hI4 ⟨rfl, rfl, hO5⟩
  have hS := hS.mono hI4; have hVn := hVn.mono hI4; have hV := hV.mono hI4; have hH := hH.mono hI4; have hDb := hDb.mono hI4; have hB2 := hB2.mono hI4; have hB3 := hB3.mono hI4; have hre := hre.mono hI4; have hIc := hIc.trans hI4; have hB0 := hB0.trans hI4
  refine zN (zR ?_)
  refine zV (ev_load rfl sct_23 (fun hg => by (repeat (first | exact Cell.here rfl | apply Cell.there | apply Cell.app)))) ?_
  refine XO_callM (cap := []) (vs := [_]) rfl rfl fun_21 (by repeat (first | exact .cons .here .nil | exact split_all | exact split_app | apply split_cons | apply split_skip)) (w_compactF hO5 (by omega) _) rfl rfl ?_
  rintro vv5 I5 L5 hI5 ⟨rfl, hO6⟩
  have hS := hS.mono hI5; have hVn := hVn.mono hI5; have hV := hV.mono hI5; have hH := hH.mono hI5; have hDb := hDb.mono hI5; have hB2 := hB2.mono hI5; have hB3 := hB3.mono hI5; have hre := hre.mono hI5; have hIc := hIc.trans hI5; have hB0 := hB0.trans hI5
  have hO6 : OwnS 3 1 _ (stE rows l).length ((stE rows l).flatMap encI) _ := hO6
  obtain ⟨va6, vc6, rfl⟩ := valn hO6
  refine zS szt_23 ?_
  refine zN (zR ?_)
  refine XO_alloc zt_62 rfl rfl (fun b_11 => ?_)
  refine zN (zR ?_)
  refine zV (ev_makeFunc (us := []) (vs := [_, _, _, _, _]) rfl rfl) ?_
  refine zS szt_62 ?_
  refine zN (X_seq ?_)
  refine X_freezeO hO6 encI_len (by decide) (by repeat (first | exact .cons .here .nil | exact split_all | exact split_app | apply split_cons | apply split_skip)) (fun I6 hI6 af6 cf6 ef6 hT9 => ?_)
  cases ef6
  have hS := hS.mono hI6; have hVn := hVn.mono hI6; have hV := hV.mono hI6; have hH := hH.mono hI6; have hDb := hDb.mono hI6; have hB2 := hB2.mono hI6; have hB3 := hB3.mono hI6; have hre := hre.mono hI6; have hIc := hIc.trans hI6; have hB0 := hB0.trans hI6
  refine X_freeze (b := b_11) (by repeat (first | exact Take.here | apply Take.there)) (fun I7 hI7 hb7 => ?_)
  have hS := hS.mono hI7; have hVn := hVn.mono hI7; have hV := hV.mono hI7; have hH := hH.mono hI7; have hDb := hDb.mono hI7; have hB2 := hB2.mono hI7; have hB3 := hB3.mono hI7; have hre := hre.mono hI7; have hT9 := hT9.mono hI7; have hIc := hIc.trans hI7; have hB0 := hB0.trans hI7
  have hC11 : Cell I7 [] b_11 0 (.func (.func 22) #[] #[capP b_7, capP b_2, capP b_6, capP b_3, capP b_11]) := .imm hb7 rfl
  refine X_freeze (b := b_7) (by repeat (first | exact Take.here | apply Take.there)) (fun I8 hI8 hb8 => ?_)
  have hS := hS.mono hI8; have hVn := hVn.mono hI8; have hV := hV.mono hI8; have hH := hH.mono hI8; have hDb := hDb.mono hI8; have hB2 := hB2.mono hI8; have hB3 := hB3.mono hI8; have hre := hre.mono hI8; have hT9 := hT9.mono hI8; have hC11 := hC11.mono hI8; have hIc := hIc.trans hI8; have hB0 := hB0.trans hI8
  have hC7 : Cell I8 [] b_7 0 (.slice va6 (stE rows l).length vc6) := .imm hb8 rfl
  refine X_freeze (b := b_6) (by repeat (first | exact Take.here | apply Take.there)) (fun I9 hI9 hb9 => ?_)
  have hS := hS.mono hI9; have hVn := hVn.mono hI9; have hV := hV.mono hI9; have hH := hH.mono hI9; have hDb := hDb.mono hI9; have hB2 := hB2.mono hI9; have hB3 := hB3.mono hI9; have hre := hre.mono hI9; have hT9 := hT9.mono hI9; have hC11 := hC11.mono hI9; have hC7 := hC7.mono hI9; have hIc := hIc.trans hI9
  have hB0 := hB0.trans hI9
  have hC6 : Cell I9 [] b_6 0 (.int .i64 l) := .imm hb9 rfl
  have hRE : RtE I9 22 b_7 b_2 b_6 b_3 b_11 va6 bv av (stE rows l).length vc6 rows.length c2 n c (stE rows l) xs rows l := ⟨hC7, hB2, hC6, hB3, hC11, hT9, hS, hVn⟩
  have hD := HLe.refl I9
  refine X_drawC mixed ?_
  refine zT 0 rfl (ev_load rfl sct_62 (fun hg => by exact hC11.any)) hD ?_
  refine zT 1 rfl (ev_load rfl sct_22 (fun hg => by exact hB2.any)) hD ?_
  refine zT 2 rfl (ev_lenS rfl slt_22) hD ?_
  refine zT 3 rfl (ev_shl rfl rfl (fun hg => by omega)) hD ?_
  refine zT 4 rfl (ev_arB rfl rfl rfl (fun hg => by omega)) hD ?_
  refine XD_one 5 rfl (by kernel_rfl) ?_
  refine XO_callM (cap := [capP b_7, capP b_2, capP b_6, capP b_3, capP b_11]) (vs := [_]) rfl rfl fun_22 (by exact .nil) (w_roots1F (I := I9) hn hn2 (by omega) (fun r hr => by rw [(hrr r hr).1]; omega) hc0 64 I9 hRE (allS rows.length) (ok_all hc0) (by omega)) rfl rfl ?_
  rintro vv10 I10 L10 hI10 ⟨rfl, aA, cA, rfl, hAll⟩
  have hS := hS.mono hI10; have hVn := hVn.mono hI10; have hV := hV.mono hI10; have hH := hH.mono hI10; have hDb := hDb.mono hI10; have hB2 := hB2.mono hI10; have hB3 := hB3.mono hI10; have hre := hre.mono hI10; have hT9 := hT9.mono hI10; have hC11 := hC11.mono hI10; have hC7 := hC7.mono hI10; have hC6 := hC6.mono hI10
  have hRE := hRE.mono hI10; have hIc := hIc.trans hI10; have hB0 := hB0.trans hI10; have hD := hD.trans hI10
  have htl : (rcF (stE rows l) (uF rows l) xs 64 (allS rows.length)).length = (stE rows l).length := top_len
  have hsp := stE_pos (rows := rows) (l := l)
  have hMin := w_min (xs := topF rows xs l) hAll (by omega) (by omega)
  refine XO_nil ?_
  refine zD hD ?_
  refine zT 6 rfl (ev_assign rfl) hD ?_
  refine XD_done (by kernel_rfl) ?_
  refine at_noP ?_
  refine at_then (zR (zM ?_))
  refine XO_callV0 (cap := []) (vs := [_]) rfl rfl fun_25 (hMin) rfl rfl ?_
  refine zA ?_
  refine zN (zR ?_)
  refine zA (zN (X_seq (zR ?_)))
  refine zV (ev_load rfl sct_23 (fun hg => by exact hC7.any)) ?_
  refine zQ slt_23 ?_
  refine zM (zN (X_block ?_))
  refine X_loopT [(2, _), (3, _), (4, _), (12, _), (13, _), (29, _), (30, _), (64, _), (65, _)] (.cons rfl (.cons rfl (.cons rfl (.cons rfl (.cons rfl (.cons rfl (.cons rfl (.cons rfl (.cons rfl .nil))))))))) (fun T L0 mz E I' loc' => ∃ (i : Nat) (v14 : Value) (q14 : Nat) (L14 : Go.Kn.Loc), mz = (stE rows l).length - i ∧ E = (14, v14) :: (66, .int .i64 i) :: T ∧ I10 = I' ∧ L14 ++ L = loc' ∧ i ≤ (stE rows l).length ∧ OwnS 3 1 v14 q14 ((((stE rows l).take i).filter fun x => topV rows xs l x == leastF (topF rows xs l)).flatMap encI) L14 ∧ q14 ≤ i) _ _ _ _ ⟨0, _, 0, [], rfl, rfl, rfl, rfl, Nat.zero_le _, OwnS.nil, Nat.le_refl _⟩ (.cons rfl (.cons rfl (.cons rfl (.cons rfl (.cons rfl (.cons rfl (.cons rfl (.cons rfl (.cons rfl (.cons rfl (.cons rfl .nil))))))))))) (HLe.refl _) rfl ?_
  rintro mz E I' loc' ⟨i, v14, q14, L14, rfl, rfl, rfl, rfl, hi, hO14, hq14⟩
  refine zR (zC (zN (X_seq ?_)))
  refine zI ?_ ?_ <;> intro hc67
  ·
   have hlt_i : i < (stE rows l).length := by have h := hc67; simp at h; omega
   obtain ⟨y, hst⟩ := hT9.at hlt_i
   have hax : (topF rows xs l)[i]? = some (topV rows xs l y) := by rw [top_map, List.getElem?_map, hst]; rfl
   refine X_skip (at_then (X_seq (X_block (zR (zM ?_)))))
   refine zV (zX slt_23 hT9) ?_
   refine zV (ev_load rfl sct_3 (fun hg => by exact Sl.get0 hT9 hst rfl)) ?_
   refine zA ?_
   refine zA ?_
   refine zN (zR ?_)
   refine zM ?_
   refine zM ?_
   refine zV (zX slt_23 hAll) ?_
   refine zV (ev_load rfl sct_3 (fun hg => by exact Sl.get0 hAll hax rfl)) ?_
   refine zM ?_
   refine zC (zN ?_)
   refine zI ?_ ?_ <;> intro hc76
   ·
    have hbf : (topV rows xs l y == leastF (topF rows xs l)) = true := hc76
    refine X_region (zM ?_)
    refine zM ?_
    refine XO_buildSlice (ps := [(0, _)]) (m := [encI y]) elt_23 rfl (.cons rfl (.nil)) rfl (by simp [encI_len]) (by decide) (by decide) rfl rfl (fun b_79 => ?_)
    refine XO_append (v := _) (ys := [y].flatMap encI) (L := L14) rfl rfl elt_23 hO14 (by repeat (first | exact .cons .here .nil | exact split_all | exact split_app | apply split_cons | apply split_skip)) ⟨rfl, fun _ => rfl, by repeat (first | exact Cells.here | apply Cells.there | apply Cells.app)⟩ (one_I [y]) (by omega) rfl rfl ?_
    intro v9 L9 hO9 _; rw [← List.flatMap_append] at hO9
    refine zA (XO_nil (at_block_n (at_then (X_region ?_))))
    refine zB ?_
    refine zM (XO_nil ?_)
    first
    | exact at_met2 _ _ ⟨(stE rows l).length - (i + 1), by omega, i + 1, _, _, _, rfl, rfl, rfl, rfl, by omega, by rw [filt_yes hst hbf]; exact hO9, by omega⟩ (.cons rfl (.cons rfl (.cons rfl (.cons rfl (.cons rfl (.cons rfl (.cons rfl (.cons rfl (.cons rfl (.cons rfl (.cons rfl .nil))))))))))) (by repeat (first | exact .refl | exact subL_left | refine subL_app ?_ | refine .drop ?_ | refine subL_add ?_))
   have hbf : (topV rows xs l y == leastF (topF rows xs l)) = false := hc76
   refine X_skip (at_block_n (at_then (X_region (zB ?_))))
   refine zM (XO_nil ?_)
   first
   | exact at_met2 _ _ ⟨(stE rows l).length - (i + 1), by omega, i + 1, _, _, _, rfl, rfl, rfl, rfl, by omega, by rw [filt_no hst hbf]; exact hO14, by omega⟩ (.cons rfl (.cons rfl (.cons rfl (.cons rfl (.cons rfl (.cons rfl (.cons rfl (.cons rfl (.cons rfl (.cons rfl (.cons rfl .nil))))))))))) (by repeat (first | exact .refl | exact subL_left | refine subL_app ?_ | refine .drop ?_ | refine subL_add ?_))
  have hge_i : (stE rows l).length ≤ i := by have h := hc67; simp at h; omega
  rw [List.take_of_length_le hge_i] at hO14
  obtain ⟨va14, vc14, rfl⟩ := valn hO14
  have hrf : (stE rows l).filter (fun x => topV rows xs l x == leastF (topF rows xs l)) = rootF rows xs l := rfl
  have hq9 : q14 = (rootF rows xs l).length := by have h1 := hO14.1; rw [flat_len encI_len, hrf] at h1; omega
  subst hq9
  refine X_exit (at_then_e (at_then_e (at_block_hit (at_then ?_))))
  refine X_freezeO hO14 encI_len (by decide) (by repeat (first | exact .cons .here .nil | exact split_all | exact split_app | apply split_cons | apply split_skip)) (fun I12 hI12 af12 cf12 ef12 hR14 => ?_)
  cases ef12
  have hS := hS.mono hI12; have hVn := hVn.mono hI12; have hV := hV.mono hI12; have hH := hH.mono hI12; have hDb := hDb.mono hI12; have hB2 := hB2.mono hI12; have hB3 := hB3.mono hI12; have hre := hre.mono hI12; have hT9 := hT9.mono hI12; have hC11 := hC11.mono hI12; have hC7 := hC7.mono hI12; have hC6 := hC6.mono hI12
  have hRE := hRE.mono hI12; have hAll := hAll.mono hI12; have hIc := hIc.trans hI12; have hB0 := hB0.trans hI12
  refine X_region (zM ?_)
  refine zM ?_
  refine XO_buildSlice (ps := [(0, _)]) (m := [encH ⟨va14, (rootF rows xs l).length, vc14⟩]) elt_22 rfl (.cons rfl (.nil)) rfl (by simp [encH_len]) (by decide) (by decide) rfl rfl (fun b_84 => ?_)
  refine XO_append (v := _) (ys := [(⟨va14, (rootF rows xs l).length, vc14⟩ : Hd)].flatMap encH) (L := L) rfl rfl elt_22 hO4 (by repeat (first | exact .cons .here .nil | exact split_all | exact split_app | apply split_cons | apply split_skip)) ⟨rfl, fun _ => rfl, by repeat (first | exact Cells.here | apply Cells.there | apply Cells.app)⟩ (one_H _) (by omega) rfl rfl ?_
  intro v8 L8 hO8 _; rw [← List.flatMap_append] at hO8
  refine zA (XO_nil (at_block_n (at_then (X_region ?_))))
  refine zB ?_
  refine zM (XO_nil ?_)
  exact at_met2 _ _ ⟨x0.n - (l + 1), by omega, l + 1, _, _, _, rfl, rfl, hB0, rfl, by omega, hO8, by rw [range_map]; exact hre.snoc (hd := ⟨va14, (rootF rows xs l).length, vc14⟩) (by rw [← hrf]; exact hR14)⟩ (.cons rfl (.cons rfl (.cons rfl (.cons rfl (.cons rfl .nil))))) (by repeat (first | exact .refl | exact subL_left | refine subL_app ?_ | refine .drop ?_ | refine subL_add ?_))
 have hge_l : l = x0.n := by have h := hc31; simp at h; omega
 refine X_exit (at_then_e (at_then_e (at_block_hit (at_then (zR (zM ?_))))))
 refine zA ?_
 refine zA (zN (X_ret ?_))
 first
 | exact at_ret2 rfl rfl rfl (fun w hw => by obtain ⟨I9, av9, c9, h1', h2', e9, h4'⟩ := OwnS.freeze (R := []) hO4 encH_len (by decide) (by rw [List.append_nil]; exact hw); cases e9; exact ⟨_, I9, [], rfl, hIc.trans h1', h2', rfl, va4, vc4, by rw [roots_ok hcE, List.length_map, List.length_range, hg0, hx0l, hcE, ← hge_l], by rw [roots_ok hcE, List.length_map, List.length_range, hg0, hx0l, ← hge_l]; exact ⟨os, h4', hre.mono h1'⟩⟩)
end
section
open Go Go.Kn Go.Proofs
def Low (a b : Int) : Prop := a < 1048576 ∨ b < 1048576 → a = b
def blN (S : List Int) (f : Int → Int) (x : Int) : Int := (S.map fun y => stepF x y + f y).foldl minI 1073741824
theorem blN_le {S : List Int} {f : Int → Int} {x y : Int} (h : y ∈ S) : blN S f x ≤ stepF x y + f y := (min_fold _ _).1 _ (List.mem_map.2 ⟨y, h, rfl⟩)
theorem blN_at {S : List Int} {f : Int → Int} {x : Int} : blN S f x = 1073741824 ∨ ∃ y ∈ S, blN S f x = stepF x y + f y := by
 rcases (min_fold (S.map fun y => stepF x y + f y) 1073741824).2.2 with e | e
 ·
  exact .inl e
 ·
  obtain ⟨y, hy, e2⟩ := List.mem_map.1 e
  exact .inr ⟨y, hy, e2.symm⟩
theorem bl_low {S : List Int} {f f' : Int → Int} {x : Int} (h : ∀ y ∈ S, Low (f y) (f' y)) : Low (bl S f x) (blN S f' x) := by
 intro hl
 have key1 : bl S f x < 1048576 → blN S f' x ≤ bl S f x := fun h1 => by
  rcases bl_at (S := S) (f := f) (x := x) with e | ⟨y, hy, e⟩
  ·
   omega
  ·
   have s := (step_in x y).1
   have := h y hy (.inl (by omega))
   have := blN_le (f := f') (x := x) hy
   omega
 have key2 : blN S f' x < 1048576 → bl S f x ≤ blN S f' x := fun h1 => by
  rcases blN_at (S := S) (f := f') (x := x) with e | ⟨y, hy, e⟩
  ·
   omega
  ·
   have s := (step_in x y).1
   have := h y hy (.inr (by omega))
   have := bl_le (f := f) (x := x) hy
   omega
 rcases hl with hl | hl
 ·
  have a := key1 hl
  have b := key2 (by omega)
  omega
 ·
  have a := key2 hl
  have b := key1 (by omega)
  omega
def cN (S : List Int) (u : Nat → Int) : Tr → Int → Int
 | .leaf w, x => leafN (u w) x
 | .node a b, x => blN S (cN S u a) x + blN S (cN S u b) x
theorem blN_nn {S : List Int} {f : Int → Int} {x : Int} (h : ∀ y ∈ S, 0 ≤ f y) : 0 ≤ blN S f x := by
 rcases blN_at (S := S) (f := f) (x := x) with e | ⟨y, hy, e⟩
 ·
  omega
 ·
  have := h y hy
  have := (step_in x y).1
  omega
theorem cN_nn {S : List Int} {u : Nat → Int} : ∀ (T : Tr) (x : Int), 0 ≤ cN S u T x
 | .leaf w, x => by unfold cN leafN; split <;> omega
 | .node a b, x => by
  unfold cN
  have h1 := blN_nn (x := x) fun y (_ : y ∈ S) => cN_nn (S := S) (u := u) a y
  have h2 := blN_nn (x := x) fun y (_ : y ∈ S) => cN_nn (S := S) (u := u) b y
  omega
theorem c_low {S : List Int} {u : Nat → Int} : ∀ (T : Tr) (x : Int), Low (cT S u T x) (cN S u T x)
 | .leaf w, x => by
  intro h
  unfold cT cN leafG leafN at *
  by_cases e1 : u w = 8589934592
  ·
   simp [e1]
  ·
   by_cases e2 : u w = x
   ·
    simp [e2]
   ·
    simp [e1, e2] at h
 | .node a b, x => by
  intro h
  have la := bl_low (S := S) (x := x) fun y _ => c_low (S := S) (u := u) a y
  have lb := bl_low (S := S) (x := x) fun y _ => c_low (S := S) (u := u) b y
  have n1 := bl_nn (x := x) fun y (_ : y ∈ S) => cT_nn (S := S) (u := u) a y
  have n2 := bl_nn (x := x) fun y (_ : y ∈ S) => cT_nn (S := S) (u := u) b y
  have n3 := blN_nn (x := x) fun y (_ : y ∈ S) => cN_nn (S := S) (u := u) a y
  have n4 := blN_nn (x := x) fun y (_ : y ∈ S) => cN_nn (S := S) (u := u) b y
  unfold cT cN at h ⊢
  rcases h with h | h
  ·
   rw [la (.inl (by omega)), lb (.inl (by omega))]
  ·
   rw [la (.inr (by omega)), lb (.inr (by omega))]
theorem below_blN {S : List Int} {f : Int → Int} {x : Int} : belowN S (S.map f) x = blN S f x := by
 unfold belowN minN blN
 have : ∀ k, k ≤ S.length → (List.range k).foldl (fun b j => minI b (stepF x (S.getD j 0) + (S.map f).getD j 0)) 1073741824 = ((S.take k).map fun y => stepF x y + f y).foldl minI 1073741824 := by
  intro k
  induction k with
  | zero => intro _; simp
  | succ k ih =>
   intro hk
   have hx : S[k]? = some (S[k]'(by omega)) := List.getElem?_eq_getElem _
   have hm : (S.map f)[k]? = some (f (S[k]'(by omega))) := by rw [List.getElem?_map, hx]; rfl
   rw [List.range_succ, List.foldl_append, ih (by omega), map_next hx, List.foldl_append, List.foldl_cons, List.foldl_nil, List.foldl_cons, List.foldl_nil, getD_of hx, getD_of hm]
 have h := this S.length (Nat.le_refl _)
 rw [List.take_length] at h
 exact h
theorem rc_tree {S : List Int} {u : Nat → Int} {cl : List Int} {n : Nat} (hc : chkN n cl = 0) : ∀ (f : Nat) (s : Int), s.toNat ≤ f → OkS n cl s → rcF S u cl f s = S.map (cN S u (treeT cl f s))
 | 0, s, hf, h => by have := h.1; omega
 | f + 1, s, hf, h => by
  have hle := ok_le hc h
  cases h1 : singF s with
  | true => rw [rc_1 h1, treeT_1 h1]; rfl
  | false =>
   obtain ⟨hin, o1, o2, o3, o4, o5, _⟩ := first_part hc h h1
   rw [rc_2 h1, treeT_2 h1, rc_tree hc f _ (by omega) o1, rc_tree hc f _ (by omega) o2]
   refine List.map_congr_left fun x _ => ?_
   unfold totN
   rw [below_blN, below_blN]; rfl
end
section
open Go Go.Kn Go.Proofs
theorem cT_stE {rows : List (List Int)} {l : Nat} {u : Nat → Int} (T : Tr) (x : Int) : cT (stE rows l) u T x = cT (statesF rows l) u T x := cT_congr (fun _ => stE_mem) T x fun _ _ => rfl
theorem top_cN {rows : List (List Int)} {cl : List Int} {l : Nat} (hc : chkN rows.length cl = 0) {x : Int} (hx : x ∈ stE rows l) : topV rows cl l x = cN (stE rows l) (uF rows l) (treeT cl 64 (allS rows.length)) x := by
 obtain ⟨n1, n6, _⟩ := chkN_ok hc
 have hal := all_in (n := (rows.length : Int)) ⟨n1, n6⟩
 have h := top_map (rows := rows) (cl := cl) (l := l)
 unfold topF at h
 rw [rc_tree hc 64 _ (by omega) (ok_all hc)] at h
 exact (List.map_inj_left.1 h x hx).symm
theorem root_iff {rows : List (List Int)} {cl : List Int} {l : Nat} (hr : rowsN rows = 0) (hc : chkN rows.length cl = 0) {x : Int} : x ∈ rootF rows cl l ↔ x ∈ statesF rows l ∧ cT (statesF rows l) (uF rows l) (treeT cl 64 (allS rows.length)) x = mn (statesF rows l) (cT (statesF rows l) (uF rows l) (treeT cl 64 (allS rows.length))) := by
 obtain ⟨n1, n6, _⟩ := rows_ok hr
 have hal := all_in (n := (rows.length : Int)) ⟨by omega, by omega⟩
 obtain ⟨t1, _, _⟩ := treeT_ok hc 64 (allS rows.length) (by omega) (ok_all hc)
 have ht : topF rows cl l = (stE rows l).map (cN (stE rows l) (uF rows l) (treeT cl 64 (allS rows.length))) := rc_tree hc 64 _ (by omega) (ok_all hc)
 have htop := fun (x : Int) (hx : x ∈ stE rows l) => top_cN (cl := cl) hc hx
 generalize treeT cl 64 (allS rows.length) = T at t1 ht htop
 have h0 : (0 : Int) ∈ statesF rows l := st_mem.2 (.inl rfl)
 obtain ⟨_, _, m4⟩ := giv_mn (u := uF rows l) n6 h0 t1 fun w hw => uF_in (rows := rows) (l := l) hw
 have hne : statesF rows l ≠ [] := List.ne_nil_of_mem h0
 have hne' : stE rows l ≠ [] := List.ne_nil_of_mem (stE_mem.2 h0)
 have low := fun x => c_low (S := stE rows l) (u := uF rows l) T x
 have e := fun x => cT_stE (rows := rows) (l := l) (u := uF rows l) T x
 have hb : leastF (topF rows cl l) = mn (statesF rows l) (cT (statesF rows l) (uF rows l) T) := by
  rw [ht]
  show mn (stE rows l) (cN (stE rows l) (uF rows l) T) = _
  obtain ⟨y, hy, ey⟩ := mn_at (f := cT (statesF rows l) (uF rows l) T) hne
  obtain ⟨z, hz, ez⟩ := mn_at (f := cN (stE rows l) (uF rows l) T) hne'
  have a1 := low y (.inl (by rw [e]; omega))
  have a2 := mn_le (f := cN (stE rows l) (uF rows l) T) (stE_mem.2 hy)
  rw [← a1, e, ← ey] at a2
  have b1 := low z (.inr (by omega))
  have b2 := mn_le (f := cT (statesF rows l) (uF rows l) T) (stE_mem.1 hz)
  rw [← e, b1, ← ez] at b2
  omega
 unfold rootF
 rw [List.mem_filter, beq_iff_eq, hb, stE_mem]
 constructor
 ·
  rintro ⟨h1, h2⟩
  refine ⟨h1, ?_⟩
  rw [htop x (stE_mem.2 h1)] at h2
  rw [← e, low x (.inr (by omega)), h2]
 ·
  rintro ⟨h1, h2⟩
  refine ⟨h1, ?_⟩
  rw [htop x (stE_mem.2 h1), ← low x (.inl (by rw [e]; omega)), e, h2]
theorem root_up {rows : List (List Int)} {cl : List Int} {l : Nat} : (rootF rows cl l).Pairwise (· < ·) := stE_up.filter _
end
section
open Go Go.Kn Go.Proofs
theorem fun_18 : Fun Tryz.prog 18 := .of Tryz.func18 (by kernel_rfl) (by kernel_rfl)
theorem slt_32 : SlT Tryz.prog 32 44 3 := .of (by kernel_rfl)
theorem w_few43 {I : HMap} {bv : Option Addr} {n2 c2 : Nat} {rows : List (List Int)} (hV : SlN I bv n2 c2 rows) (av : Option Addr) (n c : Nat) (ev : Option Addr) (n4 c4 : Nat) : RetV Tryz.prog 6 [.slice bv n2 c2, .slice av n c, .slice ev n4 c4] I (.bool (fewR rows && decide ((n : Int) ≤ 40) && decide ((n4 : Int) ≤ 40))) := by
 intro g H w hw
 refine enter Tryz.func6 rfl Tryz.ntmps6 rfl hw ?_
 refine zR (zA ?_)
 refine zN (zR ?_)
 refine zM ?_
 refine XO_callV0 (cap := []) (vs := [_]) rfl rfl fun_18 (w_few hV) rfl rfl ?_
 refine zA ?_
 refine zN (zR ?_)
 refine zM ?_
 refine zM ?_
 refine XO_pushT 1 rfl rfl rfl ?_
 refine zK (ev_move rfl) ?_
 refine zK (ev_lenS rfl slt_23) ?_
 refine zK (ev_cmp rfl rfl rfl) ?_
 refine XO_and0 rfl rfl rfl rfl rfl ?_
 refine zM ?_
 refine XO_pushT 6 rfl rfl rfl ?_
 refine zK (ev_move rfl) ?_
 refine zK (ev_lenS rfl slt_32) ?_
 refine zK (ev_cmp rfl rfl rfl) ?_
 refine XO_and0 rfl rfl rfl rfl rfl ?_
 refine zA (zN (X_ret ?_))
 exact at_ret1 rfl rfl (fun w hw => ⟨by cases fewR rows <;> cases decide ((n : Int) ≤ 40) <;> rfl, hw.drop⟩)
end
section
open Go Go.Kn Go.Proofs
structure Dg where
 n : Int
 lo : Int
 hi : Int
 b : Int
def encD (d : Dg) : List Value := [.int .i64 d.n, .int .i64 d.lo, .int .i64 d.hi, .int .i64 d.b]
theorem encD_len (d : Dg) : (encD d).length = 4 := rfl
def badD (d : Dg) : Bool := decide (d.n < d.lo) || decide (d.n > d.hi)
def putD (c : Int) (d : Dg) : Int := orI (IntKind.i64.wrap (c * 2 ^ (min d.b.toNat IntKind.i64.bits))) d.n
def packG (c : Int) : List Dg → Option Int
 | [] => some c
 | d :: ds => if badD d = true then none else packG (putD c d) ds
theorem pack_bad {c : Int} {ds : List Dg} {k : Nat} {d : Dg} (h : ds[k]? = some d) (hb : badD d = true) : packG c (ds.drop k) = none := by
 rw [drop_cons h]; unfold packG; rw [if_pos hb]
theorem pack_step {c : Int} {ds : List Dg} {k : Nat} {d : Dg} (h : ds[k]? = some d) (hb : badD d = false) : packG c (ds.drop k) = packG (putD c d) (ds.drop (k + 1)) := by
 rw [drop_cons h]
 show (if badD d = true then none else packG (putD c d) (ds.drop (k + 1))) = _
 rw [if_neg (by rw [hb]; decide)]
theorem pack_end {c : Int} {ds : List Dg} {k : Nat} (h : ds.length ≤ k) : packG c (ds.drop k) = some c := by rw [List.drop_eq_nil_of_le h]; rfl
end
section
open Go Go.Kn Go.Proofs
theorem agt_134 : AgT Tryz.prog 134 4 := .of (by kernel_rfl)
theorem fld_134_0 : FieldAt Tryz.prog 134 0 0 := .of (by kernel_rfl)
theorem fld_134_1 : FieldAt Tryz.prog 134 1 1 := .of (by kernel_rfl)
theorem fld_134_2 : FieldAt Tryz.prog 134 2 2 := .of (by kernel_rfl)
theorem fld_134_3 : FieldAt Tryz.prog 134 3 3 := .of (by kernel_rfl)
theorem slt_151 : SlT Tryz.prog 151 134 4 := .of (by kernel_rfl)
theorem szt_134 : SzT Tryz.prog 134 4 := .of (by kernel_rfl)
theorem zt_134 : ZeroT Tryz.prog 134 (.agg #[(.int .i64 0), (.int .i64 0), (.int .i64 0), (.int .i64 0)]) := .of (by kernel_rfl)
theorem w_pack {I : HMap} {av : Option Addr} {n c : Nat} {ds : List Dg} (hS : Sl I 4 encD av n c ds) (hn : n ≤ 100000) (hb : ∀ d ∈ ds, 0 ≤ d.b) : RetV Tryz.prog 98 [.slice av n c] I (.tuple #[.int .i64 ((packG 0 ds).getD 0), .bool (packG 0 ds).isSome]) := by
 intro g H w hw
 refine enter Tryz.func98 rfl Tryz.ntmps98 rfl hw ?_
 refine zR (zA ?_)
 refine zA (zN (X_seq (zR ?_)))
 refine zM ?_
 refine zQ slt_151 ?_
 refine zM (zN (X_block ?_))
 refine X_loopT [(6, _), (7, _)] (.cons rfl (.cons rfl .nil)) (fun T L0 mz E I' loc' => ∃ (k : Nat) (a : Int), mz = n - k ∧ E = (2, .int .i64 a) :: (8, .int .i64 k) :: T ∧ I = I' ∧ [] = loc' ∧ k ≤ n ∧ packG 0 ds = packG a (ds.drop k)) _ _ _ _ ⟨0, 0, rfl, rfl, rfl, rfl, Nat.zero_le _, rfl⟩ (.cons rfl (.cons rfl (.cons rfl (.cons rfl .nil)))) (HLe.refl _) rfl ?_
 rintro mz E I' loc' ⟨k, a, rfl, rfl, rfl, rfl, hk, hpk⟩
 refine zR (zC (zN (X_seq ?_)))
 refine zI ?_ ?_ <;> intro hc9
 ·
  have hlt_k : k < n := by have h := hc9; simp at h; omega
  obtain ⟨d, hd⟩ := hS.at hlt_k
  have hbd := hb d (List.mem_of_getElem? hd)
  refine X_skip (at_then (X_seq (X_block (zR ?_))))
  refine zV (zX slt_151 hS) ?_
  refine zV (ev_loadA rfl agt_134 (fun hg => by exact Sl.getA hS hd) rfl) ?_
  refine XO_alloc zt_134 rfl rfl (fun b_5 => ?_)
  refine XO_storeA rfl rfl szt_134 rfl rfl rfl rfl (by repeat (first | exact Upd.here | apply Upd.there | apply upd_app)) ?_
  refine zN (X_seq (zR ?_))
  refine zF fld_134_0 ?_
  refine zV (ev_load rfl sct_3 (fun hg => by exact Cell.h0 rfl)) ?_
  refine zF fld_134_1 ?_
  refine zV (ev_load rfl sct_3 (fun hg => by exact Cell.h0 rfl)) ?_
  refine zC ?_
  refine zM ?_
  refine XO_pushF 5 rfl rfl rfl ?_
  refine zJ (ev_fieldAddr rfl fld_134_0) ?_
  refine zJ (ev_load rfl sct_3 (fun hg => by exact Cell.h0 rfl)) ?_
  refine zJ (ev_fieldAddr rfl fld_134_2) ?_
  refine zJ (ev_load rfl sct_3 (fun hg => by exact Cell.h0 rfl)) ?_
  refine zJ (ev_cmp rfl rfl rfl) ?_
  refine XO_or0 rfl rfl rfl rfl rfl ?_
  refine zN ?_
  refine zI ?_ ?_ <;> intro hc23
  ·
   rw [pack_bad hd hc23] at hpk
   refine zR (zA ?_)
   refine zA (zN (X_ret (at_then_r (at_block_r (at_then_r (at_then_r (at_block_r ?_)))))))
   refine at_then_r ?_
   first
   | exact at_ret2 rfl rfl rfl (fun w hw => ⟨by rw [hpk]; rfl, hw.drop⟩)
  refine X_skip (at_then ?_)
  refine X_draw mixed (by kernel_rfl) ?_
  refine XQ_v0 (ev_move rfl) rfl rfl rfl ?_
  refine XQ_v0 (ev_fieldAddr rfl fld_134_3) rfl rfl rfl ?_
  refine XQ_v0 (ev_load rfl sct_3 (fun hg => by exact Cell.h0 rfl)) rfl rfl rfl ?_
  refine XQ_v0 (ev_shl rfl rfl (fun hg => by exact hbd)) rfl rfl rfl ?_
  refine XQ_v0 (ev_fieldAddr rfl fld_134_0) rfl rfl rfl ?_
  refine XQ_v0 (ev_load rfl sct_3 (fun hg => by exact Cell.h0 rfl)) rfl rfl rfl ?_
  refine XQ_v0 (ev_or rfl rfl) rfl rfl rfl ?_
  refine XQ_v0 (ev_assign rfl) rfl rfl rfl ?_
  refine XQ_nil ?_
  refine at_block_n (at_then (X_region (zB ?_)))
  refine zM (XO_nil ?_)
  exact at_met2 _ _ ⟨n - (k + 1), by omega, k + 1, putD a d, rfl, rfl, rfl, rfl, by omega, by rw [hpk, pack_step hd hc23]⟩ (.cons rfl (.cons rfl (.cons rfl (.cons rfl .nil)))) (by repeat (first | exact .refl | exact subL_left | refine subL_app ?_ | refine .drop ?_ | refine subL_add ?_))
 have hge_k : n ≤ k := by have h := hc9; simp at h; omega
 rw [pack_end (by rw [hS.len]; exact hge_k)] at hpk
 refine X_exit (at_then_e (at_then_e (at_block_hit (at_then (zR (zM ?_))))))
 refine zA ?_
 refine zA (zN (X_ret ?_))
 first
 | exact at_ret2 rfl rfl rfl (fun w hw => ⟨by rw [hpk]; rfl, hw.drop⟩)
end
section
open Go Go.Kn Go.Proofs
structure Sg where
 id : Int
 role : Int
 bar : Int
 mark : Int
 kind : Int
 side : Int
 dir : Int
 level : Int
 size : Int
 wth : Int
 fn : Int
 fd : Int
 tn : Int
 td : Int
def encG (x : Sg) : List Value := [.int .i64 x.id, .int .i64 x.role, .int .i64 x.bar, .int .i64 x.mark, .int .i64 x.kind, .int .i64 x.side, .int .i64 x.dir, .int .i64 x.level, .int .i64 x.size, .int .i64 x.wth, .int .i64 x.fn, .int .i64 x.fd, .int .i64 x.tn, .int .i64 x.td]
def encGA (x : Sg) : Value := .agg (encG x).toArray
theorem encG_len (x : Sg) : (encG x).length = 14 := rfl
def dgs (x : Sg) : List Dg := [⟨x.role, 0, 63, 6⟩, ⟨x.kind, 1, 9, 4⟩, ⟨x.side, 0, 2, 2⟩, ⟨x.dir, 0, 8, 4⟩, ⟨x.level, 0, 3, 2⟩, ⟨x.size, 0, 255, 8⟩, ⟨x.wth, 0, 64, 7⟩]
theorem dgs_b (x : Sg) : ∀ d ∈ dgs x, 0 ≤ d.b := fun d h => by
 unfold dgs at h
 simp only [List.mem_cons, List.not_mem_nil, or_false] at h
 rcases h with rfl | rfl | rfl | rfl | rfl | rfl | rfl <;> simp
def codeF (x : Sg) : Int := (packG 0 (dgs x)).getD 0
def codeE (x : Sg) : Int := if (packG 0 (dgs x)).isSome = true then 0 else 410
theorem code_no {x : Sg} (h : (packG 0 (dgs x)).isSome = false) : codeF x = 0 ∧ codeE x = 410 := by
 have : packG 0 (dgs x) = none := by cases hp : packG 0 (dgs x) with
  | none => rfl
  | some c => rw [hp] at h; cases h
 unfold codeF codeE
 rw [this]; exact ⟨rfl, rfl⟩
theorem code_yes {x : Sg} (h : (packG 0 (dgs x)).isSome = true) : codeE x = 0 := by unfold codeE; rw [if_pos h]
end
section
open Go Go.Kn Go.Proofs
theorem elt_151 : ElT Tryz.prog 151 134 4 32 := .of (by kernel_rfl)
theorem fld_48_1 : FieldAt Tryz.prog 48 1 1 := .of (by kernel_rfl)
theorem fld_48_4 : FieldAt Tryz.prog 48 4 4 := .of (by kernel_rfl)
theorem fld_48_5 : FieldAt Tryz.prog 48 5 5 := .of (by kernel_rfl)
theorem fld_48_6 : FieldAt Tryz.prog 48 6 6 := .of (by kernel_rfl)
theorem fld_48_7 : FieldAt Tryz.prog 48 7 7 := .of (by kernel_rfl)
theorem fld_48_8 : FieldAt Tryz.prog 48 8 8 := .of (by kernel_rfl)
theorem fld_48_9 : FieldAt Tryz.prog 48 9 9 := .of (by kernel_rfl)
theorem fun_98 : Fun Tryz.prog 98 := .of Tryz.func98 (by kernel_rfl) (by kernel_rfl)
theorem plt_134 : PlT Tryz.prog 134 #[(0, 1), (1, 1), (2, 1), (3, 1)] (.agg #[(.int .i64 0), (.int .i64 0), (.int .i64 0), (.int .i64 0)]) := ⟨.of (by kernel_rfl), by kernel_rfl, fun w => by kernel_rfl⟩
theorem w_code (I : HMap) (x : Sg) : RetV Tryz.prog 59 [encGA x] I (.tuple #[.int .i64 (codeF x), .int .i64 (codeE x)]) := by
 intro g H w hw
 refine enter Tryz.func59 rfl Tryz.ntmps59 rfl hw ?_
 have hIc := HLe.refl I
 refine zR ?_
 refine XO_box rfl rfl rfl (fun b_1 => ?_)
 refine zA ?_
 refine zA ?_
 refine zN (zR ?_)
 refine zF fld_48_1 ?_
 refine zV (ev_load rfl sct_3 (fun hg => by exact Cell.h0 rfl)) ?_
 refine zV (ev_buildL (ps := [(0, _), (1, _), (2, _), (3, _)]) [_, _, _, _] plt_134 rfl rfl) ?_
 refine zF fld_48_4 ?_
 refine zV (ev_load rfl sct_3 (fun hg => by exact Cell.h0 rfl)) ?_
 refine zV (ev_buildL (ps := [(0, _), (1, _), (2, _), (3, _)]) [_, _, _, _] plt_134 rfl rfl) ?_
 refine zF fld_48_5 ?_
 refine zV (ev_load rfl sct_3 (fun hg => by exact Cell.h0 rfl)) ?_
 refine zV (ev_buildL (ps := [(0, _), (1, _), (2, _), (3, _)]) [_, _, _, _] plt_134 rfl rfl) ?_
 refine zF fld_48_6 ?_
 refine zV (ev_load rfl sct_3 (fun hg => by exact Cell.h0 rfl)) ?_
 refine zV (ev_buildL (ps := [(0, _), (1, _), (2, _), (3, _)]) [_, _, _, _] plt_134 rfl rfl) ?_
 refine zF fld_48_7 ?_
 refine zV (ev_load rfl sct_3 (fun hg => by exact Cell.h0 rfl)) ?_
 refine zV (ev_buildL (ps := [(0, _), (1, _), (2, _), (3, _)]) [_, _, _, _] plt_134 rfl rfl) ?_
 refine zF fld_48_8 ?_
 refine zV (ev_load rfl sct_3 (fun hg => by exact Cell.h0 rfl)) ?_
 refine zV (ev_buildL (ps := [(0, _), (1, _), (2, _), (3, _)]) [_, _, _, _] plt_134 rfl rfl) ?_
 refine zF fld_48_9 ?_
 refine zV (ev_load rfl sct_3 (fun hg => by exact Cell.h0 rfl)) ?_
 refine zV (ev_buildL (ps := [(0, _), (1, _), (2, _), (3, _)]) [_, _, _, _] plt_134 rfl rfl) ?_
 refine XO_buildSlice (ps := [(0, _), (1, _), (2, _), (3, _), (4, _), (5, _), (6, _)]) (m := [encD ⟨x.role, 0, 63, 6⟩, encD ⟨x.kind, 1, 9, 4⟩, encD ⟨x.side, 0, 2, 2⟩, encD ⟨x.dir, 0, 8, 4⟩, encD ⟨x.level, 0, 3, 2⟩, encD ⟨x.size, 0, 255, 8⟩, encD ⟨x.wth, 0, 64, 7⟩]) elt_151 rfl (.cons rfl (.cons rfl (.cons rfl (.cons rfl (.cons rfl (.cons rfl (.cons rfl (.nil)))))))) rfl (by simp [encD_len]) (by decide) (by decide) rfl rfl (fun b_27 => ?_)
 refine XO_freeze (b := b_27) (by repeat (first | exact Take.here | apply Take.there)) (fun I1 hI1 hb1 => ?_)
 have hIc := hIc.trans hI1
 have hDg : Sl I1 4 encD (some ⟨b_27, 0, none⟩) 7 7 (dgs x) := Sl.lit (dgs x) rfl encD_len (show _ = some (Obj.cells ((dgs x).flatMap encD).toArray 134 (0, 0)) from hb1)
 refine XO_callV0 (cap := []) (vs := [_]) rfl rfl fun_98 (w_pack hDg (by decide) (dgs_b x)) rfl rfl ?_
 refine zM ?_
 refine zE ?_
 refine zE ?_
 refine zA ?_
 refine zA (zN (X_seq (zR ?_)))
 refine zM ?_
 refine zO (zN ?_)
 refine zI ?_ ?_ <;> intro hc32
 ·
  have hp0 : (packG 0 (dgs x)).isSome = false := by simpa using hc32
  obtain ⟨k1, k2⟩ := code_no hp0
  refine zR (zA ?_)
  refine zA (zN (X_ret (at_then_r ?_)))
  exact at_ret2 rfl rfl rfl (fun w hw => ⟨by rw [k1, k2], (hw.mono hIc).drop⟩)
 have hp0 : (packG 0 (dgs x)).isSome = true := by simpa using hc32
 have k2 := code_yes hp0
 refine X_skip (at_then (zR (zM ?_)))
 refine zA ?_
 refine zA (zN (X_ret ?_))
 first
 | exact at_ret2 rfl rfl rfl (fun w hw => ⟨by rw [k2]; rfl, (hw.mono hIc).drop⟩)
end
section
open Go Go.Kn Go.Proofs
theorem mask_tab : ((List.range 9).all fun b => decide (0 ≤ IntKind.i64.wrap (1 * 2 ^ (min ((b : Nat) : Int).toNat IntKind.i64.bits)) ∧ IntKind.i64.wrap (1 * 2 ^ (min ((b : Nat) : Int).toNat IntKind.i64.bits)) ≤ 256)) = true := by kernel_rfl
theorem mask_at {b : Nat} (h : b ≤ 8) : 0 ≤ IntKind.i64.wrap (1 * 2 ^ (min ((b : Nat) : Int).toNat IntKind.i64.bits)) ∧ IntKind.i64.wrap (1 * 2 ^ (min ((b : Nat) : Int).toNat IntKind.i64.bits)) ≤ 256 := of_decide_eq_true (List.all_eq_true.1 mask_tab b (List.mem_range.2 (by omega)))
theorem w_lastB (I : HMap) (r : Nat) (c : Int) (b : Nat) (hb : b ≤ 8) : RetM Tryz.prog 58 [.int .i64 b, capP r] I [(r, .cells #[.int .i64 c] 3 (0, 0))] (fun v I' L' => v = .int .i64 (andI c (IntKind.i64.wrap (1 * 2 ^ (min (b : Int).toNat IntKind.i64.bits)) - 1)) ∧ I' = I ∧ L' = [(r, .cells #[.int .i64 (c.fdiv (2 ^ (min (b : Int).toNat IntKind.i64.bits)))] 3 (0, 0))]) := by
 intro g H w hw
 refine enter Tryz.func58 rfl Tryz.ntmps58 rfl hw ?_
 have hmb := mask_at hb
 refine zR (zA (zN (X_seq ?_)))
 refine X_draw mixed (by kernel_rfl) ?_
 refine XQ_v0 (ev_load rfl sct_3 (fun hg => by exact Cell.h0 rfl)) rfl rfl rfl ?_
 refine XQ_v0 (ev_move rfl) rfl rfl rfl ?_
 refine XQ_v0 (ev_shl rfl rfl (fun hg => by omega)) rfl rfl rfl ?_
 refine XQ_v0 (ev_arB rfl rfl rfl (fun _ => by omega)) rfl rfl rfl ?_
 refine XQ_v0 (ev_and rfl rfl) rfl rfl rfl ?_
 refine XQ_v0 (ev_assign rfl) rfl rfl rfl ?_
 refine XQ_nil ?_
 refine at_then (zR ?_)
 refine zV (ev_load rfl sct_3 (fun hg => by exact Cell.h0 rfl)) ?_
 refine zM ?_
 refine zV (ev_shr rfl rfl (by omega) rfl) ?_
 refine zS szt_3 ?_
 refine zN (zR ?_)
 refine zM ?_
 refine zA (zN (X_ret ?_))
 exact at_ret1 rfl rfl (fun w hw => ⟨_, I, _, rfl, HLe.refl _, hw, rfl, rfl, rfl⟩)
end
section
open Go Go.Kn Go.Proofs
def lbN (b : Nat) (c : Int) : Int := andI c (IntKind.i64.wrap (1 * 2 ^ (min (b : Int).toNat IntKind.i64.bits)) - 1)
def shN (b : Nat) (c : Int) : Int := c.fdiv (2 ^ (min (b : Int).toNat IntKind.i64.bits))
def rawS (c : Int) : Sg := ⟨0, shN 4 (shN 2 (shN 4 (shN 2 (shN 8 (shN 7 c))))), 0, 0, lbN 4 (shN 2 (shN 4 (shN 2 (shN 8 (shN 7 c))))), lbN 2 (shN 4 (shN 2 (shN 8 (shN 7 c)))), lbN 4 (shN 2 (shN 8 (shN 7 c))), lbN 2 (shN 8 (shN 7 c)), lbN 8 (shN 7 c), lbN 7 c, 0, 0, 0, 0⟩
def zeroS : Sg := ⟨0, 0, 0, 0, 0, 0, 0, 0, 0, 0, 0, 0, 0, 0⟩
def signE (c : Int) : Int := codeE (rawS c)
def signF (c : Int) : Sg := if signE c ≠ 0 then zeroS else rawS c
end
section
open Go Go.Kn Go.Proofs
theorem agt_48 : AgT Tryz.prog 48 14 := .of (by kernel_rfl)
theorem fun_58 : Fun Tryz.prog 58 := .of Tryz.func58 (by kernel_rfl) (by kernel_rfl)
theorem fun_59 : Fun Tryz.prog 59 := .of Tryz.func59 (by kernel_rfl) (by kernel_rfl)
theorem plt_48 : PlT Tryz.prog 48 #[(0, 1), (1, 1), (2, 1), (3, 1), (4, 1), (5, 1), (6, 1), (7, 1), (8, 1), (9, 1), (10, 2), (12, 2)] (.agg #[(.int .i64 0), (.int .i64 0), (.int .i64 0), (.int .i64 0), (.int .i64 0), (.int .i64 0), (.int .i64 0), (.int .i64 0), (.int .i64 0), (.int .i64 0), (.int .i64 0), (.int .i64 0), (.int .i64 0), (.int .i64 0)]) := ⟨.of (by kernel_rfl), by kernel_rfl, fun w => by kernel_rfl⟩
theorem szt_48 : SzT Tryz.prog 48 14 := .of (by kernel_rfl)
theorem zt_48 : ZeroT Tryz.prog 48 (.agg #[(.int .i64 0), (.int .i64 0), (.int .i64 0), (.int .i64 0), (.int .i64 0), (.int .i64 0), (.int .i64 0), (.int .i64 0), (.int .i64 0), (.int .i64 0), (.int .i64 0), (.int .i64 0), (.int .i64 0), (.int .i64 0)]) := .of (by kernel_rfl)
theorem w_lastN (I : HMap) (r : Nat) (c : Int) (b : Nat) (hb : b ≤ 8) : RetM Tryz.prog 58 [.int .i64 b, capP r] I [(r, .cells #[.int .i64 c] 3 (0, 0))] (fun v I' L' => v = .int .i64 (lbN b c) ∧ I' = I ∧ L' = [(r, .cells #[.int .i64 (shN b c)] 3 (0, 0))]) := w_lastB I r c b hb
set_option maxHeartbeats 1600000 in
theorem w_Sign (I : HMap) (c : Int) : RetV Tryz.prog 30 [.int .i64 c] I (.tuple #[encGA (signF c), .int .i64 (signE c)]) := by
 intro g H w hw
 refine enter Tryz.func30 rfl Tryz.ntmps30 rfl hw ?_
 have hIc := HLe.refl I
 refine zR ?_
 refine XO_alloc zt_48 rfl rfl (fun b_2 => ?_)
 refine zA ?_
 refine zN (zR ?_)
 refine zM ?_
 refine XO_alloc zt_3 rfl rfl (fun b_4 => ?_)
 refine zS szt_3 ?_
 refine zN (zR ?_)
 refine zV (ev_makeFunc (us := []) (vs := [_]) rfl rfl) ?_
 refine zA ?_
 refine zN (zR ?_)
 refine zM ?_
 refine XO_callM (cap := [capP b_4]) (vs := [_]) rfl rfl fun_58 (by repeat (first | exact .cons .here .nil | exact split_all | exact split_app | apply split_cons | apply split_skip)) (w_lastN _ b_4 c 7 (by decide)) rfl rfl ?_
 rintro vv1 I1 L1 hI1 ⟨rfl, rfl, rfl⟩
 have hIc := hIc.trans hI1
 refine zF fld_48_9 ?_
 refine zS szt_3 ?_
 refine zN (zR ?_)
 refine zM ?_
 refine XO_callM (cap := [capP b_4]) (vs := [_]) rfl rfl fun_58 (by repeat (first | exact .cons .here .nil | exact split_all | exact split_app | apply split_cons | apply split_skip)) (w_lastN _ b_4 (shN 7 c) 8 (by decide)) rfl rfl ?_
 rintro vv2 I2 L2 hI2 ⟨rfl, rfl, rfl⟩
 have hIc := hIc.trans hI2
 refine zF fld_48_8 ?_
 refine zS szt_3 ?_
 refine zN (zR ?_)
 refine zM ?_
 refine XO_callM (cap := [capP b_4]) (vs := [_]) rfl rfl fun_58 (by repeat (first | exact .cons .here .nil | exact split_all | exact split_app | apply split_cons | apply split_skip)) (w_lastN _ b_4 (shN 8 (shN 7 c)) 2 (by decide)) rfl rfl ?_
 rintro vv3 I3 L3 hI3 ⟨rfl, rfl, rfl⟩
 have hIc := hIc.trans hI3
 refine zF fld_48_7 ?_
 refine zS szt_3 ?_
 refine zN (zR ?_)
 refine zM ?_
 refine XO_callM (cap := [capP b_4]) (vs := [_]) rfl rfl fun_58 (by repeat (first | exact .cons .here .nil | exact split_all | exact split_app | apply split_cons | apply split_skip)) (w_lastN _ b_4 (shN 2 (shN 8 (shN 7 c))) 4 (by decide)) rfl rfl ?_
 rintro vv4 I4 L4 hI4 ⟨rfl, rfl, rfl⟩
 have hIc := hIc.trans hI4
 refine zF fld_48_6 ?_
 refine zS szt_3 ?_
 refine zN (zR ?_)
 refine zM ?_
 refine XO_callM (cap := [capP b_4]) (vs := [_]) rfl rfl fun_58 (by repeat (first | exact .cons .here .nil | exact split_all | exact split_app | apply split_cons | apply split_skip)) (w_lastN _ b_4 (shN 4 (shN 2 (shN 8 (shN 7 c)))) 2 (by decide)) rfl rfl ?_
 rintro vv5 I5 L5 hI5 ⟨rfl, rfl, rfl⟩
 have hIc := hIc.trans hI5
 refine zF fld_48_5 ?_
 refine zS szt_3 ?_
 refine zN (zR ?_)
 refine zM ?_
 refine XO_callM (cap := [capP b_4]) (vs := [_]) rfl rfl fun_58 (by repeat (first | exact .cons .here .nil | exact split_all | exact split_app | apply split_cons | apply split_skip)) (w_lastN _ b_4 (shN 2 (shN 4 (shN 2 (shN 8 (shN 7 c))))) 4 (by decide)) rfl rfl ?_
 rintro vv6 I6 L6 hI6 ⟨rfl, rfl, rfl⟩
 have hIc := hIc.trans hI6
 refine zF fld_48_4 ?_
 refine zS szt_3 ?_
 refine zN (zR ?_)
 refine zV (ev_load rfl sct_3 (fun hg => by exact Cell.h0 rfl)) ?_
 refine zF fld_48_1 ?_
 refine zS szt_3 ?_
 refine zN (X_seq (zR ?_))
 refine zV (ev_loadA rfl agt_48 (fun hg => by exact Cells.g1) rfl) ?_
 refine XO_callV0 (cap := []) (vs := [_]) rfl rfl fun_59 (w_code _ (rawS c)) rfl rfl ?_
 refine zM ?_
 refine zE ?_
 refine zE ?_
 refine zA ?_
 refine zN (zR ?_)
 refine zM ?_
 refine zC (zN ?_)
 refine zI ?_ ?_ <;> intro hc34
 ·
  have he : signE c ≠ 0 := by unfold signE; simpa using hc34
  have k1 : signF c = zeroS := if_pos he
  have he9 : signE c = codeE (rawS c) := rfl
  refine zR ?_
  refine zV (ev_buildL (ps := []) [_, _, _, _, _, _, _, _, _, _, _, _, _, _] plt_48 rfl rfl) ?_
  refine zM ?_
  refine XO_storeA rfl rfl szt_48 rfl rfl rfl rfl (by repeat (first | exact Upd.here | apply Upd.there | apply upd_app)) ?_
  refine zA (zN (X_ret (at_then_r ?_)))
  exact at_ret2A rfl rfl rfl agt_48 (by repeat (first | exact Cells.here | apply Cells.there)) rfl (fun w hw => ⟨by rw [k1, he9]; rfl, (hw.mono hIc).drop⟩)
 have he : signE c = 0 := by unfold signE; simpa using hc34
 have k1 : signF c = rawS c := if_neg (by omega)
 have he9 := he
 refine X_skip (at_then (zR ?_))
 refine zV (ev_loadA rfl agt_48 (fun hg => by exact Cells.g1) rfl) ?_
 refine XO_storeA rfl rfl szt_48 rfl rfl rfl rfl (by repeat (first | exact Upd.here | apply Upd.there | apply upd_app)) ?_
 refine zA (zN (X_ret ?_))
 exact at_ret2A rfl rfl rfl agt_48 (by repeat (first | exact Cells.here | apply Cells.there)) rfl (fun w hw => ⟨by rw [k1, he9]; rfl, (hw.mono hIc).drop⟩)
end
section
open Go Go.Kn Go.Proofs
def besN (x y : Int) : Int := if (x != y && x != 8589934592 && y != 8589934592) = true then 3 else 0
end
section
open Go Go.Kn Go.Proofs
theorem w_beside (I : HMap) (x y : Int) : RetV Tryz.prog 77 [.int .i64 x, .int .i64 y] I (.int .i64 (besN x y)) := by
 intro g H w hw
 refine enter Tryz.func77 rfl Tryz.ntmps77 rfl hw ?_
 refine zR (zA (zN (X_seq (zR ?_))))
 refine zM ?_
 refine zM ?_
 refine zC ?_
 refine zM ?_
 refine XO_pushT 3 rfl rfl rfl ?_
 refine zK (ev_move rfl) ?_
 refine zK (ev_cmp rfl rfl rfl) ?_
 refine XO_and0 rfl rfl rfl rfl rfl ?_
 refine zM ?_
 refine XO_pushT 7 rfl rfl rfl ?_
 refine zK (ev_move rfl) ?_
 refine zK (ev_cmp rfl rfl rfl) ?_
 refine XO_and0 rfl rfl rfl rfl rfl ?_
 refine zN ?_
 refine zI ?_ ?_ <;> intro hc15
 ·
  refine zR (zA (zN (X_ret (at_then_r ?_))))
  first
  | exact at_ret1 rfl rfl (fun w hw => ⟨by unfold besN; rw [if_pos (by assumption)], hw.drop⟩)
 refine X_skip (at_then (zR (zA (zN (X_ret ?_)))))
 first
 | exact at_ret1 rfl rfl (fun w hw => ⟨by unfold besN; rw [if_neg (by simp_all)], hw.drop⟩)
end
section
open Go Go.Kn Go.Proofs
structure Rd where
 lost : Bool
 sg : Sg
def encRd (r : Rd) : List Value := .bool r.lost :: encG r.sg
theorem encRd_len (r : Rd) : (encRd r).length = 15 := rfl
def codeR (r : Rd) : Int := if r.lost = true then 8589934592 else codeF r.sg
end
section
open Go Go.Kn Go.Proofs
theorem agt_51 : AgT Tryz.prog 51 15 := .of (by kernel_rfl)
theorem fld_51_0 : FieldAt Tryz.prog 51 0 0 := .of (by kernel_rfl)
theorem fld_51_1 : FieldAt Tryz.prog 51 1 1 := .of (by kernel_rfl)
theorem fld_54_2 : FieldAt Tryz.prog 54 2 2 := .of (by kernel_rfl)
theorem sct_4 : ScT Tryz.prog 4 := .of (by kernel_rfl)
theorem sct_52 : ScT Tryz.prog 52 := .of (by kernel_rfl)
theorem slt_52 : SlT Tryz.prog 52 51 15 := .of (by kernel_rfl)
theorem szt_51 : SzT Tryz.prog 51 15 := .of (by kernel_rfl)
theorem zt_51 : ZeroT Tryz.prog 51 (.agg #[(.bool false), (.int .i64 0), (.int .i64 0), (.int .i64 0), (.int .i64 0), (.int .i64 0), (.int .i64 0), (.int .i64 0), (.int .i64 0), (.int .i64 0), (.int .i64 0), (.int .i64 0), (.int .i64 0), (.int .i64 0), (.int .i64 0)]) := .of (by kernel_rfl)
theorem w_codes {I : HMap} {av : Option Addr} {n c : Nat} {rs : List Rd} (hR : Sl I 15 encRd av n c rs) (hn : n ≤ 100000) (no yr : Int) : RetM Tryz.prog 42 [.agg #[.int .i64 no, .int .i64 yr, .slice av n c]] I [] (SlRes 1 encI (rs.map codeR)) := by
 intro g H w hw
 refine enter Tryz.func42 rfl Tryz.ntmps42 rfl hw ?_
 have hIc := HLe.refl I
 refine zR ?_
 refine XO_box rfl rfl rfl (fun b_1 => ?_)
 refine zA (zN (X_seq (X_seq ?_)))
 refine X_freezeAll (fun I1 hI1 hall => ?_)
 have hR := hR.mono hI1; have hIc := hIc.trans hI1
 have hCw : Cell I1 [] b_1 2 (.slice av n c) := .imm (hall _ _ (by repeat (first | exact List.mem_cons_self .. | apply List.mem_cons_of_mem))) rfl
 refine X_region ?_
 refine zF fld_54_2 ?_
 refine zV (ev_load rfl sct_52 (fun hg => by exact hCw.any)) ?_
 refine zQ slt_52 ?_
 refine zM (zN (X_block ?_))
 refine X_loopT [(7, _), (8, _)] (.cons rfl (.cons rfl .nil)) (fun T L0 mz E I' loc' => ∃ (k : Nat) (v2 : Value) (L : Go.Kn.Loc), mz = n - k ∧ E = (2, v2) :: (9, .int .i64 k) :: T ∧ I1 = I' ∧ L = loc' ∧ k ≤ n ∧ OwnS 3 1 v2 k (((rs.take k).map codeR).flatMap encI) L) _ _ _ _ ⟨0, _, [], rfl, rfl, rfl, rfl, Nat.zero_le _, OwnS.nil⟩ (.cons rfl (.cons rfl (.cons rfl (.cons rfl .nil)))) (HLe.refl _) rfl ?_
 rintro mz E I' loc' ⟨k, v2, L, rfl, rfl, rfl, rfl, hk, hO⟩
 refine zR (zC (zN (X_seq ?_)))
 refine zI ?_ ?_ <;> intro hc10
 ·
  have hlt_k : k < n := by have h := hc10; simp at h; omega
  obtain ⟨r, hr⟩ := hR.at hlt_k
  refine X_skip (at_then (X_seq (X_block (zR ?_))))
  refine zV (zX slt_52 hR) ?_
  refine zV (ev_loadA rfl agt_51 (fun hg => by exact Sl.getA hR hr) rfl) ?_
  refine XO_alloc zt_51 rfl rfl (fun b_4 => ?_)
  refine XO_storeA rfl rfl szt_51 rfl rfl rfl rfl (by repeat (first | exact Upd.here | apply Upd.there | apply upd_app)) ?_
  refine zN (zR ?_)
  refine zA (zN (X_seq (zR ?_)))
  refine zF fld_51_0 ?_
  refine zV (ev_load rfl sct_4 (fun hg => by exact Cell.here rfl)) ?_
  refine zO (zN ?_)
  refine zI ?_ ?_ <;> intro hc15
  ·
   have hlo : codeR r = codeF r.sg := by unfold codeR; rw [if_neg (by simpa using hc15)]
   refine X_region ?_
   refine zF fld_51_1 ?_
   refine zV (ev_loadA rfl agt_48 (fun hg => by exact Cells.s0 (vs := [_, _, _, _, _, _, _, _, _, _, _, _, _, _]) rfl) rfl) ?_
   refine XO_callV0 (cap := []) (vs := [_]) rfl rfl fun_59 (w_code _ r.sg) rfl rfl ?_
   refine zM ?_
   refine zE ?_
   refine zE ?_
   refine zA (XO_nil ?_)
   rw [← hlo]
   refine at_then (X_region (zM ?_))
   refine zM ?_
   refine XO_buildSlice (ps := [(0, _)]) (m := [encI (codeR r)]) elt_23 rfl (.cons rfl (.nil)) rfl (by simp [encI_len]) (by decide) (by decide) rfl rfl (fun b_24 => ?_)
   refine XO_append (v := _) (ys := [codeR r].flatMap encI) (L := L) rfl rfl elt_23 hO (by repeat (first | exact .cons .here .nil | exact split_all | exact split_app | apply split_cons | apply split_skip)) ⟨rfl, fun _ => rfl, by repeat (first | exact Cells.here | apply Cells.there | apply Cells.app)⟩ (one_I [codeR r]) (by omega) rfl rfl ?_
   intro v9 L9 hO9 _; rw [← List.flatMap_append] at hO9
   refine zA (XO_nil (at_block_n (at_then (X_region ?_))))
   refine zV (ev_arB rfl rfl rfl (fun _ => by omega)) ?_
   refine zM (XO_nil ?_)
   exact at_met2 _ _ ⟨n - (k + 1), by omega, k + 1, _, _, rfl, rfl, rfl, rfl, by omega, by rw [map_next hr]; exact hO9⟩ (.cons rfl (.cons rfl (.cons rfl (.cons rfl .nil)))) (by repeat (first | exact .refl | exact subL_left | refine subL_app ?_ | refine .drop ?_ | refine subL_add ?_))
  have hlo : codeR r = 8589934592 := by unfold codeR; rw [if_pos (by simpa using hc15)]
  rw [← hlo]
  refine X_skip (at_then (X_region (zM ?_)))
  refine zM ?_
  refine XO_buildSlice (ps := [(0, _)]) (m := [encI (codeR r)]) elt_23 rfl (.cons rfl (.nil)) rfl (by simp [encI_len]) (by decide) (by decide) rfl rfl (fun b_24 => ?_)
  refine XO_append (v := _) (ys := [codeR r].flatMap encI) (L := L) rfl rfl elt_23 hO (by repeat (first | exact .cons .here .nil | exact split_all | exact split_app | apply split_cons | apply split_skip)) ⟨rfl, fun _ => rfl, by repeat (first | exact Cells.here | apply Cells.there | apply Cells.app)⟩ (one_I [codeR r]) (by omega) rfl rfl ?_
  intro v9 L9 hO9 _; rw [← List.flatMap_append] at hO9
  refine zA (XO_nil (at_block_n (at_then (X_region ?_))))
  refine zV (ev_arB rfl rfl rfl (fun _ => by omega)) ?_
  refine zM (XO_nil ?_)
  exact at_met2 _ _ ⟨n - (k + 1), by omega, k + 1, _, _, rfl, rfl, rfl, rfl, by omega, by rw [map_next hr]; exact hO9⟩ (.cons rfl (.cons rfl (.cons rfl (.cons rfl .nil)))) (by repeat (first | exact .refl | exact subL_left | refine subL_app ?_ | refine .drop ?_ | refine subL_add ?_))
 have hge_k : n ≤ k := by have h := hc10; simp at h; omega
 rw [take_all hR.len hge_k, show k = n by omega] at hO
 refine X_exit (at_then_e (at_then_e (at_block_hit (at_then (zR (zM ?_))))))
 refine zA (zN (X_ret ?_))
 exact at_ret1 rfl rfl (fun w hw => by obtain ⟨I9, h91, h92, h93⟩ := OwnS.res hO encI_len (by decide) hw; exact ⟨_, I9, [], rfl, hIc.trans h91, h92, h93⟩)
end
section
open Go Go.Kn Go.Proofs
structure Wt where
 no : Int
 yr : Int
 a : Option Addr
 n : Nat
 c : Nat
def encW (w : Wt) : List Value := [.int .i64 w.no, .int .i64 w.yr, .slice w.a w.n w.c]
theorem encW_len (w : Wt) : (encW w).length = 3 := rfl
def fewW (ws : List Wt) : Bool := decide (ws.length ≤ 5) && ws.all fun w => decide (w.n ≤ 8)
end
section
open Go Go.Kn Go.Proofs
theorem slt_31 : SlT Tryz.prog 31 54 3 := .of (by kernel_rfl)
theorem w_fewW {I : HMap} {av : Option Addr} {n c : Nat} {ws : List Wt} (hW : Sl I 3 encW av n c ws) (hn : n ≤ 9223372036854775807) : RetV Tryz.prog 10 [.slice av n c] I (.bool (fewW ws)) := by
 intro g H w hw
 refine enter Tryz.func10 rfl Tryz.ntmps10 rfl hw ?_
 have hWl := hW.len
 refine zR (zA (zN (X_seq (zR ?_))))
 refine zM ?_
 refine zQ slt_31 ?_
 refine zC (zN ?_)
 refine zI ?_ ?_ <;> intro hc6
 ·
  have h5 : ¬ ws.length ≤ 5 := by have h := hc6; simp at h; omega
  refine zR (zA (zN (X_ret (at_then_r ?_))))
  first
  | exact at_ret1 rfl rfl (fun w hw => ⟨by unfold fewW; rw [decide_eq_false h5]; rfl, hw.drop⟩)
 have h5 : ws.length ≤ 5 := by have h := hc6; simp at h; omega
 refine X_skip (at_then (X_seq (zR (zA (zN (X_block ?_))))))
 refine X_loopT [(0, _)] (.cons rfl .nil) (fun T L0 mz E I' loc' => ∃ (k : Nat), mz = n - k ∧ E = (3, .int .i64 k) :: T ∧ I = I' ∧ L0 = loc' ∧ k ≤ n ∧ (ws.take k).all (fun w => decide (w.n ≤ 8)) = true) _ _ _ _ ⟨0, rfl, rfl, rfl, rfl, Nat.zero_le _, rfl⟩ (.cons rfl (.cons rfl .nil)) (HLe.refl _) rfl ?_
 rintro mz E I' loc' ⟨k, rfl, rfl, rfl, rfl, hk, hall⟩
 refine X_seq (zR (zM ?_))
 refine zM ?_
 refine zQ slt_31 ?_
 refine zC (zN ?_)
 refine zI ?_ ?_ <;> intro hc10
 ·
  have hlt_k : k < n := by have h := hc10; simp at h; omega
  obtain ⟨x, hx⟩ := hW.at hlt_k
  refine X_skip (at_then (X_seq (X_block (zR (zM ?_)))))
  refine zM ?_
  refine zV (zX slt_31 hW) ?_
  refine zF fld_54_2 ?_
  refine zV (ev_load rfl sct_52 (fun hg => by exact Sl.get hW hx rfl)) ?_
  refine zQ slt_52 ?_
  refine zC (zN ?_)
  refine zI ?_ ?_ <;> intro hc19
  ·
   have h8 : decide (x.n ≤ 8) = false := by have h := hc19; simp at h; simp; omega
   refine zR (zA (zN (X_ret (at_block_r (at_then_r (at_then_r (at_block_r ?_)))))))
   refine at_then_r ?_
   first
   | exact at_ret1 rfl rfl (fun w hw => ⟨by unfold fewW; rw [List.all_eq_false.2 ⟨x, List.mem_of_getElem? hx, by rw [h8]; decide⟩, Bool.and_false], hw.drop⟩)
  have h8 : decide (x.n ≤ 8) = true := by have h := hc19; simp at h; simp; omega
  refine X_skip (at_block_n (at_then (X_region (zM ?_))))
  refine zB ?_
  refine zA (XO_nil ?_)
  exact at_met2 _ _ ⟨n - (k + 1), by omega, k + 1, rfl, rfl, rfl, rfl, by omega, by rw [take_snoc hx, List.all_append, hall]; simpa using h8⟩ (.cons rfl (.cons rfl .nil)) (by repeat (first | exact .refl | exact subL_left | refine subL_app ?_ | refine .drop ?_ | refine subL_add ?_))
 have hge_k : n ≤ k := by have h := hc10; simp at h; omega
 rw [List.take_of_length_le (by omega)] at hall
 refine X_exit (at_then_e (at_then_e (at_block_hit (at_then (zR (zA (zN ?_)))))))
 refine X_ret ?_
 first
 | exact at_ret1 rfl rfl (fun w hw => ⟨by unfold fewW; rw [hall, decide_eq_true h5]; rfl, hw.drop⟩)
end
section
open Go Go.Kn Go.Proofs
def zeroG : Sg := zeroS
def within (n lo hi : Int) : Bool := decide (n ≥ lo) && decide (n ≤ hi)
/-! ### Ratios -/
def magI (n : Int) : Int := if n < 0 then 0 - n else n
def gcdI (a b : Int) : Int := (Int.gcd a b : Int)
def ratF (n d : Int) : Bool := !(((((decide (d < 1) || decide (d > 1073741824)) || decide (n < -1073741824)) || decide (n > 1073741824)) || (gcdI n d != 1)))
def spanF (fn fd tn td : Int) : Bool := (ratF fn fd && ratF tn td) && (decide (fn * td < tn * fd) && (decide (fn ≥ 0) && decide (tn ≤ td)))
/-! ### Signs -/
def frmL (k : Sg) : Bool := within k.id 0 1048576 && within k.role 0 63 && within k.bar 0 4095 && within k.kind 1 9 && within k.mark 1 3 && within k.side 0 2 && within k.dir 0 8 && within k.level 0 3 && within k.size 0 255 && within k.wth 0 64
def frm (k : Sg) : Bool := frmL k && spanF k.fn k.fd k.tn k.td
def skP (xs : List Sg) (i : Nat) : Bool := !(!frm (xs.getD i zeroG) || (decide ((i : Int) > 0) && decide ((xs.getD ((i : Int) - 1).toNat zeroG).id ≥ (xs.getD i zeroG).id)))
def skB (xs : List Sg) : Bool := (List.range xs.length).all (skP xs)
def chkG (xs : List Sg) : Int := if xs.length > 4096 then 2 else if skB xs then 0 else 360
def encR2 (n d : Int) : List Value := [.int .i64 n, .int .i64 d]
def encRA (n d : Int) : Value := .agg (encR2 n d).toArray
theorem u64_id {n : Int} (h : 0 ≤ n ∧ n ≤ 9223372036854775807) : IntKind.u64.wrap n = n := by
 unfold IntKind.wrap IntKind.signed IntKind.bits
 simp
 omega
theorem mag_pos {n : Int} (hn : -1073741824 ≤ n ∧ n ≤ 1073741824) (h : ¬ n < 0) : IntKind.u64.wrap n = magI n := by
 rw [u64_id (by omega)]
 unfold magI; rw [if_neg h]
theorem mag_neg {n : Int} (hn : -1073741824 ≤ n ∧ n ≤ 1073741824) (h : n < 0) : IntKind.u64.wrap (0 - IntKind.u64.wrap n) = magI n := by
 unfold magI; rw [if_pos h]
 unfold IntKind.wrap IntKind.signed IntKind.bits
 simp
 omega
def remL (t b1 b2 : Nat) (a b : Int) : Go.Kn.Loc := [(b2, .cells #[.int .u64 b] t (0, 0)), (b1, .cells #[.int .u64 a] t (0, 0))]
def remN (a b : Nat) : List Nat := if a = 0 then [] else if b = 0 then [a, 0] else if a % b = 0 then [a, b] else a :: remN b (a % b)
termination_by b
decreasing_by exact Nat.mod_lt _ (by omega)
theorem remN_zero (b : Nat) : remN 0 b = [] := by rw [remN]; rfl
theorem remN_end {a b : Nat} (ha : a ≠ 0) (hb : b ≠ 0) (h : a % b = 0) : remN a b = [a, b] := by rw [remN, if_neg ha, if_neg hb, if_pos h]
theorem remN_step {a b : Nat} (ha : a ≠ 0) (hb : b ≠ 0) (h : a % b ≠ 0) : remN a b = a :: remN b (a % b) := by rw [remN, if_neg ha, if_neg hb, if_neg h]
theorem remN_gcd : ∀ (m : Nat) {a b d : Nat}, b ≤ m → b ≠ 0 → (a = 0 → d = b) → (remN a b).getLastD d = Nat.gcd a b := by
 intro m
 induction m with
 | zero => intro a b d h1 h2; omega
 | succ m ih =>
  intro a b d h1 h2 hd
  by_cases ha : a = 0
  ·
   subst ha; rw [remN_zero, Nat.gcd_zero_left, hd rfl]; rfl
  ·
   by_cases h : a % b = 0
   ·
    rw [remN_end ha h2 h]
    show b = _
    rw [Nat.gcd_comm, Nat.gcd_rec, h, Nat.gcd_zero_left]
   ·
    rw [remN_step ha h2 h, List.getLastD_cons, ih (by have := Nat.mod_lt a (show 0 < b by omega); omega) h (fun e => absurd e h2)]
    rw [Nat.gcd_comm b, ← Nat.gcd_rec, Nat.gcd_comm]
theorem tmod_nat (a b : Nat) : ((a : Int)).tmod (b : Int) = ((a % b : Nat) : Int) := by
 rw [Int.tmod_eq_emod_of_nonneg (by omega)]; rfl
theorem mul_b {a b : Int} (ha : -1073741824 ≤ a ∧ a ≤ 1073741824) (hb : -1073741824 ≤ b ∧ b ≤ 1073741824) : -9223372036854775808 ≤ a * b ∧ a * b ≤ 9223372036854775807 := by
 have h1 : (a * b).natAbs ≤ 1073741824 * 1073741824 := by
  rw [Int.natAbs_mul]
  exact Nat.mul_le_mul (by omega) (by omega)
 omega
def ratE (n d : Int) : Int := if ratF n d then 0 else 120
theorem ratF_in {n d : Int} (h : ratF n d = true) : (1 ≤ d ∧ d ≤ 1073741824) ∧ -1073741824 ≤ n ∧ n ≤ 1073741824 := by
 unfold ratF at h
 simp at h
 omega
theorem mag_gcd (n d : Int) : Nat.gcd (magI n).toNat d.toNat = Int.gcd n d.toNat := by
 unfold Int.gcd magI
 congr 1
 split <;> omega
theorem maxI_one {b : Nat} (h : 0 < b) : maxI (b : Int) 1 = (b : Int) := by
 unfold maxI
 split <;> omega
theorem rem_pre {a0 b0 a b : Nat} {pre : List Nat} (h : remN a0 b0 = pre ++ remN a b) (ha : a ≠ 0) : pre ++ [a] <+: remN a0 b0 := by
 rw [h, remN, if_neg ha]
 have key : ∀ l : List Nat, pre ++ [a] <+: pre ++ a :: l := fun l => ⟨l, by simp⟩
 split
 ·
  exact key _
 ·
  split <;> exact key _
theorem last_snoc {l : List Nat} {x d : Nat} : (l ++ [x]).getLastD d = x := by simp [List.getLastD_eq_getLast?]
theorem rat_bad {n d : Int} (h : ((((decide (d < 1) || decide (d > 1073741824)) || decide (n < -1073741824)) || decide (n > 1073741824)) || (gcdI n d != 1)) = true) : ratF n d = false := by unfold ratF; rw [h]; rfl
theorem rat_good {n d : Int} (h : ((((decide (d < 1) || decide (d > 1073741824)) || decide (n < -1073741824)) || decide (n > 1073741824)) || (gcdI n d != 1)) = false) : ratF n d = true := by unfold ratF; rw [h]; rfl
theorem span_eq {fn fd tn td : Int} : (ratE fn fd != 0 || ratE tn td != 0) = !(ratF fn fd && ratF tn td) := by
 unfold ratE
 cases ratF fn fd <;> cases ratF tn td <;> rfl
def cmpE (an ad bn bd : Int) : Int := if ratF an ad && ratF bn bd then 0 else 120
def cmpV (an ad bn bd : Int) : Int := if ratF an ad && ratF bn bd then cmpI (an * bd) (bn * ad) else 0
theorem fine_eq {fn fd tn td : Int} : (((cmpE fn fd tn td == 0) && decide (cmpV fn fd tn td < 0)) && decide (fn ≥ 0) && decide (tn ≤ td)) = spanF fn fd tn td := by
 unfold cmpE cmpV spanF cmpI
 cases h : (ratF fn fd && ratF tn td) with
 | false => rfl
 | true =>
  simp only [if_true, Bool.true_and]
  by_cases h2 : fn * td < tn * fd
  ·
   simp [h2, Bool.and_assoc]
  ·
   by_cases h3 : fn * td > tn * fd <;> simp [h2, h3]
theorem skP_at {xs : List Sg} {k : Nat} {x : Sg} (hx : xs[k]? = some x) : skP xs k = !(!frm x || (decide ((k : Int) > 0) && decide ((xs.getD ((k : Int) - 1).toNat zeroG).id ≥ x.id))) := by unfold skP; rw [getD_of hx]
end
end Go.Proofs.YthcffaheamikgaaGreatDoor
namespace Go.Kn
section
open Go
structure Kp (p : Prop) : Prop where
 out : p
theorem cutD {p q : Prop} (h1 : Kp p → q) (h2 : p) : q := h1 ⟨h2⟩
theorem at_sub {C : Cx} {Q : Exit → Act → World → Prop} {e : Exit} {E E' : Env} {I : HMap} {loc : Loc} (h : Kp (At C Q e E' I loc)) (hE : Sub E' E := by repeat (first | exact Sub.nil | refine Sub.cons rfl ?_)) : At C Q e E I loc :=
 fun a w ha hw => h.out a w (ha.sub hE) hw
end
end Go.Kn
