/- rehearseTogether_holds, part D of the proof: what its theorems say holds without further conditions. -/
import Derived.Shelf.SlSortCmp.Whole1
import Derived.Test.YtehkiccapbkhnaaGreatRTC
section
namespace Go.Proofs.YtehkiccapbkhnaaGreat
open Go Go.Kn Go.Proofs
/-- What a person has, by the patches whose sessions were. -/
def stP (tg v dn : List Int) (id : Int) : Bool := if dn.contains id then tg.contains id else v.contains id
/-- With a session, the sessions that it needs were. -/
def DnOK (tg : List Int) (ks : List Pt) (dn : List Int) : Prop := ∀ q ∈ ks, ∀ q' ∈ ks, befP tg q q' → q'.id ∈ dn → (if tg.contains q'.id then q'.needs.contains q.id else q.needs.contains q'.id) = true → q.id ∈ dn
theorem cont_iff {l : List Int} {x : Int} : l.contains x = true ↔ x ∈ l := by simp
theorem cont_no {l : List Int} {x : Int} : l.contains x = false ↔ x ∉ l := by simp
theorem stP_closed {ps : List Pt} (hL : Lst ps) {tg : List Int} {has : List (List Int)} (hT : Ver ps tg) {v : List Int} {i : Nat} (hi : has[i]? = some v) (hV : Ver ps v) {dn : List Int} (hsub : ∀ x ∈ dn, ∃ q ∈ keptP ps tg has, q.id = x) (hD : DnOK tg (keptP ps tg has) dn) :
    ∀ q ∈ ps, stP tg v dn q.id = true → ∀ n ∈ q.needs, stP tg v dn n = true := by
  intro q hq hs n hn
  obtain ⟨hlt, r, hr, hrn⟩ := hL.has q hq n hn
  subst hrn
  cases e : stP tg v dn r.id with
  | true => rfl
  | false =>
    exfalso
    have kept : ∀ x ∈ ps, (x.id ∈ v ∧ x.id ∉ tg) ∨ (x.id ∉ v ∧ x.id ∈ tg) → x ∈ keptP ps tg has := fun x hx h => by
      refine mem_keptP.2 ⟨hx, i, v, hi, ?_⟩
      rcases h with ⟨h1, h2⟩ | ⟨h1, h2⟩
      · rw [cont_iff.2 h1, cont_no.2 h2]; decide
      · rw [cont_no.2 h1, cont_iff.2 h2]; decide
    unfold stP at hs e
    by_cases hqt : q.id ∈ tg
    · have hrt := hT.need q hq hqt r.id hn
      split at e
      · rw [cont_iff.2 hrt] at e; cases e
      · rename_i hrd
        have hrv := cont_no.1 e
        have hqv : q.id ∉ v := fun g => hrv (hV.need q hq g r.id hn)
        split at hs
        · rename_i hqd
          refine hrd (cont_iff.2 (hD r (kept r hr (.inr ⟨hrv, hrt⟩)) q (kept q hq (.inr ⟨hqv, hqt⟩)) (.inr ⟨cont_iff.2 hrt, cont_iff.2 hqt, hlt⟩) (cont_iff.1 hqd) ?_))
          rw [if_pos (cont_iff.2 hqt)]; exact cont_iff.2 hn
        · exact hqv (cont_iff.1 hs)
    · split at hs
      · exact hqt (cont_iff.1 hs)
      · rename_i hqd
        have hqv := cont_iff.1 hs
        have hrv := hV.need q hq hqv r.id hn
        split at e
        · rename_i hrd
          have hrt := cont_no.1 e
          refine hqd (cont_iff.2 (hD q (kept q hq (.inl ⟨hqv, hqt⟩)) r (kept r hr (.inl ⟨hrv, hrt⟩)) (.inl ⟨cont_no.2 hqt, .inr hlt⟩) (cont_iff.1 hrd) ?_))
          rw [if_neg (by rw [cont_no.2 hrt]; decide)]; exact cont_iff.2 hn
        · exact cont_no.1 e hrv
/-- A person who is not at a session has what it is about already. -/
theorem stP_other {tg v dn : List Int} {id : Int} (h : v.contains id = tg.contains id) (x : Int) : stP tg v (dn ++ [id]) x = stP tg v dn x := by
  unfold stP
  by_cases e : x = id
  · subst e
    rw [if_pos (by simp), h]
    split <;> rfl
  · have : (dn ++ [id]).contains x = dn.contains x := by
      rw [Bool.eq_iff_iff, cont_iff, cont_iff]; simp [e]
    rw [this]
theorem stP_new {tg v dn : List Int} {id : Int} (x : Int) : stP tg v (dn ++ [id]) x = if id = x then tg.contains x else stP tg v dn x := by
  unfold stP
  by_cases e : id = x
  · subst e; rw [if_pos (by simp), if_pos rfl]
  · have : (dn ++ [id]).contains x = dn.contains x := by
      have e' : ¬ x = id := fun q => e q.symm
      rw [Bool.eq_iff_iff, cont_iff, cont_iff]; simp [e']
    rw [this, if_neg e]
theorem stP_all {ps : List Pt} {tg : List Int} {has : List (List Int)} {v : List Int} {i : Nat} (hi : has[i]? = some v) {dn : List Int} (hall : ∀ q ∈ keptP ps tg has, q.id ∈ dn) {p : Pt} (hp : p ∈ ps) : stP tg v dn p.id = tg.contains p.id := by
  unfold stP
  split
  · rfl
  · rename_i h
    by_cases e : v.contains p.id = tg.contains p.id
    · exact e
    · exact absurd (cont_iff.2 (hall p (mem_keptP.2 ⟨hp, i, v, hi, e⟩))) h
theorem ver_list {ps : List Pt} (hL : Lst ps) {tg : List Int} (hT : Ver ps tg) : (ps.filter fun p => tg.contains p.id).map (·.id) = tg :=
  sorted_ext (ids_sorted hL _) hT.inc fun a => by
    rw [mem_ids]
    constructor
    · rintro ⟨p, _, h, rfl⟩; exact cont_iff.1 h
    · intro h
      obtain ⟨p, hp, e⟩ := hT.sub a h
      exact ⟨p, hp, by rw [e]; exact cont_iff.2 h, e⟩
/-- The sessions' needs, by their places: what is needed comes on an earlier day of a plan that breaks nothing. -/
theorem needs_day {c : Cr} (h8 : c.ss.length ≤ 8) {pl : List Int} (hin : InR c pl) (hb : brkL c pl = []) {i : Nat} {d k : Int} {s : Ses} (hd : pl[i]? = some d) (hs : c.ss[i]? = some s) (hk : k ∈ s.needs) (hkr : 0 ≤ k ∧ k < 64) : pl.getD k.toNat 0 < d := by
  by_cases e : pl.getD k.toNat 0 < d
  · exact e
  · have : (⟨1, d, k⟩ : Br) ∈ brkL c pl := by
      refine mem_brkL.2 ⟨⟨⟨by show (1 : Int) ≤ 1; omega, by show (1 : Int) ≤ 5; omega⟩, hin d (List.mem_of_getElem? hd), hkr⟩, ?_⟩
      unfold brk needF
      rw [if_pos rfl]
      refine List.any_eq_true.2 ⟨(d, s), zip_mem hd hs, ?_⟩
      simp only [Bool.and_eq_true, beq_self_eq_true, true_and, decide_eq_true_eq]
      exact ⟨cont_iff.2 hk, by omega⟩
    rw [hb] at this; cases this
/-- What was done: all days before d, and some sessions of the day d; one more session of this day. -/
theorem dn_more {ps : List Pt} (hL : Lst ps) {tg : List Int} {has : List (List Int)} {c : Cr} (hc : c.ss = fromL ps tg has) (h8 : c.ss.length ≤ 8) {pl : List Int} (hl : pl.length = c.ss.length) (hin : InR c pl) (hb : brkL c pl = []) {dn : List Int} {d : Int} {k : Nat} {q : Pt}
    (hlow : ∀ (i : Nat) (e : Int) (r : Pt), pl[i]? = some e → (keptP ps tg has)[i]? = some r → e < d → r.id ∈ dn) (hD : DnOK tg (keptP ps tg has) dn) (hk : pl[k]? = some d) (hq : (keptP ps tg has)[k]? = some q) : DnOK tg (keptP ps tg has) (dn ++ [q.id]) := by
  intro r hr r' hr' hbef hin' hcond
  rw [List.mem_append, List.mem_singleton] at hin' ⊢
  rcases hin' with h | h
  · exact .inl (hD r hr r' hr' hbef h hcond)
  · left
    have hnd := keptP_nodup hL tg has
    obtain ⟨a, ha⟩ := List.mem_iff_getElem?.1 hr
    have hrq : r' = q := by
      obtain ⟨b, hb'⟩ := List.mem_iff_getElem?.1 hr'
      have hb1 := (List.getElem?_eq_some_iff.1 hb').1
      have hk1 := (List.getElem?_eq_some_iff.1 hq).1
      have hord := keptP_bef hL tg has
      have e : b = k := by
        rcases Nat.lt_trichotomy b k with g | g | g
        · have := bef_ne (List.pairwise_iff_getElem.1 hord b k hb1 hk1 g)
          rw [(List.getElem?_eq_some_iff.1 hb').2, (List.getElem?_eq_some_iff.1 hq).2] at this
          exact absurd h this
        · exact g
        · have := bef_ne (List.pairwise_iff_getElem.1 hord k b hk1 hb1 g)
          rw [(List.getElem?_eq_some_iff.1 hb').2, (List.getElem?_eq_some_iff.1 hq).2] at this
          exact absurd h.symm this
      subst e; rw [hb'] at hq; cases hq; rfl
    subst hrq
    have hord := keptP_bef hL tg has
    have ha1 := (List.getElem?_eq_some_iff.1 ha).1
    have hk1 := (List.getElem?_eq_some_iff.1 hq).1
    have hak : a < k := by
      rcases Nat.lt_trichotomy a k with g | g | g
      · exact g
      · subst g; rw [ha] at hq; cases hq; exact absurd rfl (bef_ne hbef)
      · have := List.pairwise_iff_getElem.1 hord k a hk1 ha1 g
        rw [(List.getElem?_eq_some_iff.1 hq).2, (List.getElem?_eq_some_iff.1 ha).2] at this
        unfold befP at this hbef
        rcases hbef with ⟨h1, h2 | h2⟩ | ⟨h1, h2, h3⟩ <;> rcases this with ⟨g1, g2 | g2⟩ | ⟨g1, g2, g3⟩ <;> first | omega | (rw [h1] at *; simp_all)
    have hs : c.ss[k]? = some (sesP1 tg has ((keptP ps tg has).take k) r') := by rw [hc]; exact sesL_at hq
    have hm : (a : Int) ∈ (sesP1 tg has ((keptP ps tg has).take k) r').needs := mem_ndW.2 ⟨a, r, rfl, by rw [List.getElem?_take_of_lt hak]; exact ha, hcond⟩
    have hkl : (keptP ps tg has).length = c.ss.length := by rw [hc]; exact (sesL_len _ _ _).symm
    have hday := needs_day h8 hin hb hk hs hm (by omega)
    have ha2 : pl[a]? = some (pl[a]'(by omega)) := List.getElem?_eq_getElem (by omega)
    refine hlow a _ r ha2 ha ?_
    rw [Int.toNat_natCast, List.getD_eq_getElem?_getD, ha2] at hday
    exact hday
end Go.Proofs.YtehkiccapbkhnaaGreat
end
section
namespace Go.Kn
open Go
section
variable {g : World} {I I' H : HMap} {loc loc' L K A B : Loc} {w w' : World}
theorem St.permL (h : St g I H loc w) (hp : loc'.Perm loc) : St g I H loc' w := h.perm (fun p => hp.mem_iff) ((hp.map (·.1)).nodup_iff.2 h.nodup)
end
section
variable {α : Type} {C : Cx} {Q : Exit → Act → World → Prop} {E E' : Env} {I I' : HMap} {loc loc' L Z R : Loc}
variable {Jc : List α → HMap → HMap → Loc → Prop} {Jx : Code → List α → HMap → HMap → Loc → Prop} {pre : List α}
end
section
variable {α : Type} {P : Program} {N : Nat} {g : World} {p : Nat} {assign body : Code} {f : FuncId} {cap : List Value} {rel : Value → α → HMap → Prop} {xs : List α} {E : Env} {I H : HMap} {L B : Loc}
end
section
variable {α : Type} {P : Program} {N : Nat} {g : World} {H : HMap} {Q : Exit → Act → World → Prop} {gop : Operand} {p : Nat} {assign body : Code} {f : FuncId} {cap : List Value} {rel : Value → α → HMap → Prop} {xs : List α} {E : Env} {I : HMap} {L : Loc}
end
/-! ### A loop whose rounds may leave marks and turn the frame -/
section
variable {P : Program} {r : Option Nat} {N : Nat} {g : World} {H : HMap} {Q : Exit → Act → World → Prop} {E E' : Env} {I I' : HMap} {loc loc' L R : Loc} {ms : List Nat}
end
end Go.Kn
end
section
namespace Go.Kn
open Go
section
variable {C : Cx} {Q : Exit → Act → World → Prop} {E G : Env} {I I' I0 : HMap} {loc loc' loc0 L R : Loc} {ops : Array Oper} {rest : List Oper} {S : GS}
variable {dst : Option Nat} {d : Nat} {ty : TypeId} {pos : String} {af : Array Edge} {gd : Option (Nat × Bool)} {x y z : Operand} {a b c : Int}
/-- Does a guard's value say no? One that was not reckoned says no. -/
def sayNo (u : Value) (want : Bool) : Bool := match u with | .bool b => b != want | _ => true
theorem wanted_no {j dj : Nat} {want : Bool} {oj o : Oper} {u : Value} {N : Nat} {D : List Deferred} {a : Act} (hg : o.guard = some (j, want)) (hj : ops[j]? = some oj) (hd : oj.dst = some dj) (ha : Fits N D E a) (hl : look E dj = some u) (hu : sayNo u want = true) : Region.wanted o (yielded ops a.tmps) = false := by
  have h := ha.env _ _ hl
  simp only [Region.wanted, hg]
  cases u with
  | bool b0 =>
    rw [yielded_bool hj hd h]
    cases b0 <;> cases want <;> first | rfl | cases hu
  | _ =>
    have hy : yielded ops a.tmps j = none := by
      unfold yielded
      simp only [hj, Option.bind_some, hd]
      cases e : a.tmps[dj]? with
      | none => rfl
      | some v =>
        simp [e] at h; rw [h]
    rw [hy]; rfl
theorem XD_skipW (i : Nat) {j dj fuel : Nat} {want : Bool} {oj : Oper} {listed : Array Bool} {op : Op} {u : Value} (hi : ops[i]? = some ⟨some d, op, ty, pos, af, some (j, want)⟩) (hj : ops[j]? = some oj) (hd : oj.dst = some dj) (hlk : look E dj = some u) (hu : sayNo u want = true)
    (hdf : ∀ c, op ≠ .defer c) (hN : Nat.blt d C.N = true)
    (hs : Region.noSelect ops = true) (hfr : Region.free .any ops listed i = true) (hr : (Region.ready .any ops listed).contains i = true) (hQ : NoPanic Q) (hI : HLe I0 I) (hl : SubL loc0 loc)
    (h : XD C Q ops I0 loc0 fuel (listed.setIfInBounds i true) [] ((d, undef) :: E) I loc) : XD C Q ops I0 loc0 (fuel + 1) listed [] E I loc := by
  intro a w ha hg hw
  have hp := ha.put hN undef
  refine wpAnyS_first (v := undef) hi hdf (Region.noSelect_spec hs) (fun c a w => hQ c a d _ w) fuel listed a w (Region.free_spec hi hfr) (by simpa using hr) ?_ ((hw.mono hI).subL hl) (h _ _ hp trivial hw)
  exact .inr ⟨by rw [wanted_no (o := ⟨some d, op, ty, pos, af, some (j, want)⟩) rfl hj hd ha hlk hu], rfl⟩
end
end Go.Kn
end
section
namespace Go.Kn
open Go
/-- An iterator that hands on two values, with blocks of its own; they are gone behind it. -/
def SeqL2 {α : Type} (P : Program) (f : FuncId) (cap : List Value) (I : HMap) (K : Loc) (en1 en2 : α → Value) (xs : List α) : Prop :=
  ∀ g l (J Jx : List α → HMap → HMap → Prop),
    (∀ pre x I' H', pre ++ [x] <+: xs → HLe I I' → J pre I' H' → YieldOK P g l [en1 x, en2 x] I' H' fun b I2 H2 => if b then J (pre ++ [x]) I2 H2 else Jx (pre ++ [x]) I2 H2) →
    ∀ I0 H w, HLe I I0 → J [] I0 H → St g I0 H K w → Calls P f ((.func (.yield l) #[] #[] : Value) :: cap).toArray w fun e w' => ∃ v I' H', e = .returned v ∧ HLe I0 I' ∧ St g I' H' [] w' ∧ (J xs I' H' ∨ ∃ pre, pre <+: xs ∧ Jx pre I' H')
section
variable {α : Type} {C : Cx} {Q : Exit → Act → World → Prop} {E E' : Env} {I I' : HMap} {loc loc' L R : Loc} {ops : Array Oper} {rest : List Oper} {S : GS}
variable {Jc : List α → HMap → Loc → Prop} {Jx : Code → List α → HMap → Loc → Prop} {pre : List α}
theorem X_rangeFuncD2 {P : Program} {N : Nat} {D : List Deferred} {K : Loc} {g : World} {H : HMap} {gop : Operand} {p q : Nat} {assign body : Code} {f : FuncId} {cap : List Value} {en1 en2 : α → Value} {xs : List α}
    (Jc : List α → HMap → Loc → Prop) (Jx : Code → List α → HMap → Loc → Prop) (Ja : List α → α → Env → HMap → Loc → Prop)
    (hg : evalS [] E gop = some (.func (.func f) #[] cap.toArray)) (hF : Fun P f) (hseq : SeqL2 P f cap I K en1 en2 xs) (hp : Nat.blt p N = true) (hq9 : Nat.blt q N = true) (h0 : Jc [] I loc)
    (hass : ∀ l pre x I' loc' H1, pre ++ [x] <+: xs → HLe I I' → Jc pre I' loc' → X ⟨P, some l, N, [], g, H1⟩ (Exit.then (Met ⟨P, some l, N, [], g, H1⟩ fun E2 I2 loc2 => HLe I' I2 ∧ Ja pre x E2 I2 loc2) (fun _ _ _ => False)) assign ((q, en2 x) :: (p, en1 x) :: E) I' loc')
    (hbody : ∀ l pre x E2 I2 loc2 H2, pre ++ [x] <+: xs → HLe I I2 → Ja pre x E2 I2 loc2 → X ⟨P, some l, N, [], g, H2⟩ (RoundQ g H2 (fun q0 I3 loc3 => HLe I2 I3 ∧ Jc q0 I3 loc3) (fun c q0 I3 loc3 => HLe I2 I3 ∧ Jx c q0 I3 loc3) (pre ++ [x])) body E2 I2 loc2)
    (hdone : ∀ bd I' loc', HLe I I' → Jc xs I' loc' → At ⟨P, none, N, { target := .collected bd, args := #[] } :: D, g, H⟩ Q .normal E I' (loc' ++ [(bd, .deferred (some []))]))
    (hstop : ∀ c bd pre I' loc', HLe I I' → pre <+: xs → Jx c pre I' loc' → X ⟨P, none, N, { target := .collected bd, args := #[] } :: D, g, H⟩ Q c E I' (loc' ++ [(bd, .deferred (some []))])) :
    X ⟨P, none, N, D, g, H⟩ Q (.rangeFunc gop #[p, q] assign body) E I (K ++ loc) := by
  intro a w ha hw
  refine wpIn_rangeFunc fun fn _ => ?_
  have hen := run_enterLoop_outer (P := P) (w := w) fn a.tmps #[p, q] assign body
  generalize hbd : w.heap.size = bd at hen
  let rec_ : LoopState → Option Code → Obj := fun st pd => .loop { state := st, pending := pd, fn, tmps := a.tmps, params := #[p, q], assign, body, defers := bd }
  have hw1 : St g I H ((bd + 1, rec_ .ready none) :: (bd, .deferred (some [])) :: (K ++ loc)) ((w.alloc (.deferred (some []))).alloc (rec_ .ready none)) := by
    have h1 := hw.alloc (.deferred (some []))
    have h2 := h1.alloc (rec_ .ready none)
    rw [World.size_alloc, hbd] at h2
    exact h2
  have hev := evalS_sound (S := []) ha trivial rfl hg
  refine ⟨bd + 1, [{ target := .collected bd, args := #[] }], _, { target := .fn (.func f) cap.toArray, args := #[.func (.yield (bd + 1)) #[] #[]] }, (w.alloc (.deferred (some []))).alloc (rec_ .ready none), f, ((.func (.yield (bd + 1)) #[] #[] : Value) :: cap).toArray, (w.alloc (.deferred (some []))).alloc (rec_ .ready none), hen, ?_, fun _ _ => trivial, ?_, by simp [FR], callsFR.2 ?_⟩
  · have e2 : a.eval (.const (.func (.yield (bd + 1)) #[] #[])) = .func (.yield (bd + 1)) #[] #[] := rfl
    simp only [resolve, List.map_toArray, List.map_cons, List.map_nil, e2, hev, Deferred.ofValue]
    rfl
  · simp only [invoke, run_callFunc hF]
    simp
  -- the caller's blocks, between two rounds
  let Lr : LoopState → Option Code → Loc → Loc := fun st pd l' => l' ++ [(bd + 1, rec_ st pd), (bd, .deferred (some []))]
  have okL : ∀ {I' H1 l' W st pd}, St g I' H1 (Lr st pd l') W → ((Lr st pd l').map (·.1)).Nodup := fun h => h.nodup
  let J : List α → HMap → HMap → Prop := fun pre I' H' => ∃ l', Jc pre I' l' ∧ HLe I I' ∧ H' = addL H (Lr .ready none l') ∧ ((Lr .ready none l').map (·.1)).Nodup ∧ ∀ b o, (b, o) ∈ Lr .ready none l' → H b = none
  let Jy : List α → HMap → HMap → Prop := fun pre I' H' => ∃ c l', Jx c pre I' l' ∧ HLe I I' ∧ H' = addL H (Lr .done (some c) l') ∧ ((Lr .done (some c) l').map (·.1)).Nodup ∧ ∀ b o, (b, o) ∈ Lr .done (some c) l' → H b = none
  have hw2 : St g I H (K ++ Lr .ready none loc) ((w.alloc (.deferred (some []))).alloc (rec_ .ready none)) := by
    have hp : (K ++ Lr .ready none loc).Perm ((bd + 1, rec_ .ready none) :: (bd, .deferred (some [])) :: (K ++ loc)) := by
      show (K ++ (loc ++ [(bd + 1, rec_ .ready none), (bd, .deferred (some []))])).Perm _
      rw [← List.append_assoc]
      exact List.perm_append_comm
    exact hw1.perm (fun q => hp.mem_iff) ((hp.map (·.1)).nodup_iff.2 hw1.nodup)
  have hw2r := hw2.rest split_app
  have hJ0 : J [] I (addL H (Lr .ready none loc)) := ⟨loc, h0, HLe.refl I, rfl, hw2r.nodup, fun b o hm => (hw2r.sepIL b o hm).2⟩
  refine (hseq g (bd + 1) J Jy ?_ I _ _ (HLe.refl I) hJ0 hw2.hideR).mono ?_
  · -- a round
    intro pre x I' H' hpre hI ⟨l', hJc, _, hH, hnd, hdj⟩ lit W hW
    subst hH
    have hS1 := hW.swap hnd hdj
    have hrec : W.heap[bd + 1]? = some (rec_ .ready none) := hS1.own _ _ (by simp [Lr])
    refine ⟨fn, _, assign, body, run_yield (P := P) hrec (by simp), ?_⟩
    have hfit : Fits N [] ((q, en2 x) :: (p, en1 x) :: E) { tmps := (a.tmps.setIfInBounds p (en1 x)).setIfInBounds q (en2 x), defers := [] } := by
      have h1 := (ha.put hp (en1 x)).put hq9 (en2 x)
      exact ⟨h1.size, rfl, h1.env⟩
    have hdjK : ∀ b o, (b, o) ∈ lit → H b = none := fun b o hm => (addL_none (hW.sepIL b o hm).2).1
    refine roundIn_of_wpIn (F := Fence.wide) trivial ?_
    have htm : ((#[p, q] : Array Tmp).zip #[en1 x, en2 x]).foldl (fun tmps (t, v) => tmps.setIfInBounds t v) a.tmps = (a.tmps.setIfInBounds p (en1 x)).setIfInBounds q (en2 x) := by simp
    show Code.wpIn _ _ _ _ _ { tmps := ((#[p, q] : Array Tmp).zip #[en1 x, en2 x]).foldl (fun tmps (t, v) => tmps.setIfInBounds t v) a.tmps, defers := [] } _
    rw [htm]
    have hA := hass (bd + 1) pre x I' l' (addL (addL H lit) [(bd + 1, rec_ .ready none), (bd, .deferred (some []))]) hpre hI hJc _ W hfit hS1.hideR
    refine wpIn_mono (F := Fence.wide.inRound (bd + 1)) (n := 0) (P := P) (show assign.wpIn (Fence.wide.inRound (bd + 1)) 0 P _ _ _ from hA) ?_
    intro e a1 W1 hq
    cases e with
    | normal =>
      obtain ⟨E2, I2, loc2, ⟨hI2, hJa⟩, hf2, hs2⟩ := hq
      have hs3 : St g I2 (addL H lit) (loc2 ++ [(bd + 1, rec_ .ready none), (bd, .deferred (some []))]) W1 := St.unhide (hS1.rest split_app) hs2
      have hrec1 : W1.heap[bd + 1]? = some (rec_ .ready none) := hs3.own _ _ (by simp)
      have hs4 := hs3.putObj (o' := rec_ .busy none) (b := bd + 1) (upd_app .here)
      refine ⟨_, run_beginRound (P := P) hrec1 rfl, ?_⟩
      have hB := hbody (bd + 1) pre x E2 I2 loc2 (addL (addL H lit) [(bd + 1, rec_ .busy none), (bd, .deferred (some []))]) hpre (hI.trans hI2) hJa a1 _ hf2 hs4.hideR
      refine wpIn_mono (F := Fence.wide.inRound (bd + 1)) (n := 0) (P := P) (show body.wpIn (Fence.wide.inRound (bd + 1)) 0 P _ _ _ from hB) ?_
      have fin : ∀ (W3 : World) (I3 : HMap) (loc3 : Loc) (jump : Option Code) (st : LoopState), St g I3 (addL (addL H lit) [(bd + 1, rec_ .busy none), (bd, .deferred (some []))]) loc3 W3 →
          (st = if jump.isNone then .ready else .done) →
          ∃ W4, (Instr.endRound (bd + 1) jump).run P W3 = .ok (.bool jump.isNone) W4 ∧ St g I3 (addL H (Lr st jump loc3)) lit W4 ∧ ((Lr st jump loc3).map (·.1)).Nodup ∧ ∀ b o, (b, o) ∈ Lr st jump loc3 → H b = none := by
        intro W3 I3 loc3 jump st hs hst
        have hs5 : St g I3 (addL H lit) (loc3 ++ [(bd + 1, rec_ .busy none), (bd, .deferred (some []))]) W3 := St.unhide (hs4.rest split_app) hs
        have hrec3 : W3.heap[bd + 1]? = some (rec_ .busy none) := hs5.own _ _ (by simp)
        have hs6 := hs5.putObj (o' := rec_ st jump) (b := bd + 1) (upd_app .here)
        refine ⟨_, run_endRound (P := P) jump hrec3, ?_, hs6.nodup, fun b o hm => (addL_none (hs6.sepIL b o hm).2).1⟩
        rw [← hst]
        exact hs6.swap hW.nodup hdjK
      intro e a3 W3 hq
      cases e with
      | normal =>
        obtain ⟨I3, loc3, ⟨hI3, hJ3⟩, hs⟩ := hq
        obtain ⟨W4, h1, h2, h3, h4⟩ := fin W3 I3 loc3 none .ready hs rfl
        exact ⟨_, W4, h1, true, I3, _, rfl, hI2.trans hI3, h2, loc3, hJ3, (hI.trans hI2).trans hI3, rfl, h3, h4⟩
      | ret =>
        obtain ⟨I3, loc3, ⟨hI3, hJ3⟩, hs⟩ := hq
        obtain ⟨W4, h1, h2, h3, h4⟩ := fin W3 I3 loc3 (some .ret) .done hs rfl
        exact ⟨_, W4, h1, false, I3, _, rfl, hI2.trans hI3, h2, .ret, loc3, hJ3, (hI.trans hI2).trans hI3, rfl, h3, h4⟩
      | exit id =>
        obtain ⟨I3, loc3, ⟨hI3, hJ3⟩, hs⟩ := hq
        obtain ⟨W4, h1, h2, h3, h4⟩ := fin W3 I3 loc3 (some (.exit id)) .done hs rfl
        exact ⟨_, W4, h1, false, I3, _, rfl, hI2.trans hI3, h2, .exit id, loc3, hJ3, (hI.trans hI2).trans hI3, rfl, h3, h4⟩
      | goto t => exact hq.elim
      | panic c => exact hq.elim
      | outgrown => exact hq.elim
    | _ => exact hq.elim
  · -- behind the call
    rintro e w' ⟨v, I', H', rfl, hI, hs, hJ | ⟨pre, hpre, hJ⟩⟩
    · obtain ⟨l', hJc, hI1, rfl, hnd, hdj⟩ := hJ
      have hs1 := hs.swap hnd hdj
      have hrec : w'.heap[bd + 1]? = some (rec_ .ready none) := hs1.own _ _ (by simp [Lr])
      have hs2 := hs1.putObj (o' := rec_ .exhausted none) (b := bd + 1) (upd_app .here)
      refine ⟨none, _, run_endLoop (P := P) hrec (by simp), ?_⟩
      refine hdone bd I' l' hI1 hJc _ _ ⟨ha.size, by simp [ha.defers], ha.env⟩ ?_
      refine hs2.rest (L := [(bd + 1, rec_ .exhausted none)]) ?_
      have : Split (l' ++ [(bd + 1, rec_ .exhausted none), (bd, .deferred (some []))]) [(bd + 1, rec_ .exhausted none)] (l' ++ [(bd, .deferred (some []))]) := by
        refine .cons ?_ .nil
        clear hdj hnd hs2 hs1 hs hJc hrec
        induction l' with
        | nil => exact .here
        | cons q l ih => exact .there ih
      exact this
    · obtain ⟨c, l', hJc, hI1, rfl, hnd, hdj⟩ := hJ
      have hs1 := hs.swap hnd hdj
      have hrec : w'.heap[bd + 1]? = some (rec_ .done (some c)) := hs1.own _ _ (by simp [Lr])
      have hs2 := hs1.putObj (o' := rec_ .exhausted (some c)) (b := bd + 1) (upd_app .here)
      refine ⟨some c, _, run_endLoop (P := P) hrec (by simp), ?_⟩
      refine hstop c bd pre I' l' hI1 hpre hJc _ _ ⟨ha.size, by simp [ha.defers], ha.env⟩ ?_
      refine hs2.rest (L := [(bd + 1, rec_ .exhausted (some c))]) ?_
      have : Split (l' ++ [(bd + 1, rec_ .exhausted (some c)), (bd, .deferred (some []))]) [(bd + 1, rec_ .exhausted (some c))] (l' ++ [(bd, .deferred (some []))]) := by
        refine .cons ?_ .nil
        clear hdj hnd hs2 hs1 hs hJc hrec
        induction l' with
        | nil => exact .here
        | cons q l ih => exact .there ih
      exact this
end
section
variable {P : Program} {r : Option Nat} {N : Nat} {g : World} {H : HMap} {Q : Exit → Act → World → Prop} {E E' : Env} {I I' : HMap} {loc loc' L R : Loc} {ms : List Nat}
theorem X_rangeFuncM2 {α : Type} {gop : Operand} {p q : Nat} {assign body : Code} {f : FuncId} {cap : List Value} {K : Loc} {en1 en2 : α → Value} {xs : List α}
    (Jc : List α → HMap → Loc → Prop) (Jx : Code → List α → HMap → Loc → Prop) (Ja : List α → α → Env → HMap → Loc → Prop)
    (hg : evalS [] E gop = some (.func (.func f) #[] cap.toArray)) (hF : Fun P f) (hseq : SeqL2 P f cap I K en1 en2 xs) (hp : Nat.blt p N = true) (hq9 : Nat.blt q N = true) (h0 : Jc [] I L)
    (hass : ∀ l pre x I' loc' H1, pre ++ [x] <+: xs → HLe I I' → Jc pre I' loc' → X ⟨P, some l, N, [], g, H1⟩ (Exit.then (Met ⟨P, some l, N, [], g, H1⟩ fun E2 I2 loc2 => HLe I' I2 ∧ Ja pre x E2 I2 loc2) (fun _ _ _ => False)) assign ((q, en2 x) :: (p, en1 x) :: E) I' loc')
    (hbody : ∀ l pre x E2 I2 loc2 H2, pre ++ [x] <+: xs → HLe I I2 → Ja pre x E2 I2 loc2 → X ⟨P, some l, N, [], g, H2⟩ (RoundQ g H2 (fun q0 I3 loc3 => HLe I2 I3 ∧ Jc q0 I3 loc3) (fun c q0 I3 loc3 => HLe I2 I3 ∧ Jx c q0 I3 loc3) (pre ++ [x])) body E2 I2 loc2)
    (hdone : ∀ bd I' loc', HLe I I' → Jc xs I' loc' → At ⟨P, none, N, mk (bd :: ms), g, H⟩ Q .normal E I' (loc' ++ MB (bd :: ms)))
    (hstop : ∀ c bd pre I' loc', HLe I I' → pre <+: xs → Jx c pre I' loc' → X ⟨P, none, N, mk (bd :: ms), g, H⟩ Q c E I' (loc' ++ MB (bd :: ms))) :
    X ⟨P, none, N, mk ms, g, H⟩ Q (.rangeFunc gop #[p, q] assign body) E I (K ++ (L ++ MB ms)) := by
  intro a w ha hw
  have back : ∀ {I' : HMap} {loc' : Loc} {bd : Nat} {w' : World}, St g I' (addL H (MB ms)) (loc' ++ [(bd, .deferred (some []))]) w' → St g I' H (loc' ++ MB (bd :: ms)) w' := fun {I' loc' bd w'} h => by
    have h1 := St.unhide ((hw.rest split_app).rest split_app) h
    refine h1.perm (fun p => ?_) ?_
    · simp only [MB, List.mem_append]
      constructor
      · rintro (h | h | h)
        · exact .inl (.inl h)
        · exact .inr h
        · exact .inl (.inr h)
      · rintro ((h | h) | h)
        · exact .inl h
        · exact .inr (.inr h)
        · exact .inr (.inl h)
    · have hn := h1.nodup
      have hpm : (loc' ++ MB (bd :: ms)).Perm (loc' ++ [(bd, .deferred (some []))] ++ MB ms) := by
        rw [List.append_assoc]
        exact (List.Perm.refl loc').append List.perm_append_comm
      exact (hpm.map (·.1)).nodup_iff.2 hn
  refine X_rangeFuncD2 (K := K) (P := P) (N := N) (D := mk ms) (g := g) (H := addL H (MB ms)) (Q := Q) Jc Jx Ja hg hF hseq hp hq9 h0 hass hbody ?_ ?_ a w ha (show St g I (addL H (MB ms)) (K ++ L) w from (show St g I H ((K ++ L) ++ MB ms) w by rw [List.append_assoc]; exact hw).hideR)
  · intro bd I' loc' hI hJ a' w' ha' hw'
    exact hdone bd I' loc' hI hJ a' w' ha' (back hw')
  · intro c bd pre I' loc' hI hpre hJ a' w' ha' hw'
    exact hstop c bd pre I' loc' hI hpre hJ a' w' ha' (back hw')
end
end Go.Kn
namespace Go.Kn
open Go
section
variable {C : Cx} {Q : Exit → Act → World → Prop} {E E' : Env} {I I' I0 : HMap} {loc loc' loc0 L R : Loc} {ops : Array Oper} {rest : List Oper} {S : GS}
theorem X_locEq {c : Code} (h : loc = loc') (hx : X C Q c E I loc') : X C Q c E I loc := h ▸ hx
end
end Go.Kn
end
section
namespace Go.Kn
open Go
/-- An iterator's contract: what it hands on is right (Ok) at each time, and whole (Fin) where no round says no. -/
def SeqG {α : Type} (P : Program) (f : FuncId) (cap : List Value) (I : HMap) (K : Loc) (enc : α → Value) (Ok Fin : List α → Prop) : Prop :=
  ∀ g l (J Jx : List α → HMap → HMap → Prop),
    (∀ pre x I' H', Ok (pre ++ [x]) → HLe I I' → J pre I' H' → YieldOK P g l [enc x] I' H' fun b I2 H2 => if b then J (pre ++ [x]) I2 H2 else Jx (pre ++ [x]) I2 H2) →
    ∀ I0 H w, HLe I I0 → J [] I0 H → St g I0 H K w → Calls P f ((.func (.yield l) #[] #[] : Value) :: cap).toArray w fun e w' => ∃ v I' H', e = .returned v ∧ HLe I0 I' ∧ St g I' H' [] w' ∧ ((∃ xs, Fin xs ∧ J xs I' H') ∨ ∃ pre, Jx pre I' H')
section
variable {α : Type} {C : Cx} {Q : Exit → Act → World → Prop} {E E' : Env} {I I' : HMap} {loc loc' L R : Loc} {ops : Array Oper} {rest : List Oper} {S : GS}
variable {Jc : List α → HMap → Loc → Prop} {Jx : Code → List α → HMap → Loc → Prop} {pre : List α}
/-- 'for x := range f { .. }' at a function's own level. -/
theorem X_rangeFuncGD {P : Program} {N : Nat} {D : List Deferred} {K : Loc} {g : World} {H : HMap} {gop : Operand} {p : Nat} {assign body : Code} {f : FuncId} {cap : List Value} {enc : α → Value} {Ok Fin : List α → Prop}
    (Jc : List α → HMap → Loc → Prop) (Jx : Code → List α → HMap → Loc → Prop) (Ja : List α → α → Env → HMap → Loc → Prop)
    (hg : evalS [] E gop = some (.func (.func f) #[] cap.toArray)) (hF : Fun P f) (hseq : SeqG P f cap I K enc Ok Fin) (hp : Nat.blt p N = true) (h0 : Jc [] I loc)
    (hass : ∀ l pre x I' loc' H1, Ok (pre ++ [x]) → HLe I I' → Jc pre I' loc' → X ⟨P, some l, N, [], g, H1⟩ (Exit.then (Met ⟨P, some l, N, [], g, H1⟩ fun E2 I2 loc2 => HLe I' I2 ∧ Ja pre x E2 I2 loc2) (fun _ _ _ => False)) assign ((p, enc x) :: E) I' loc')
    (hbody : ∀ l pre x E2 I2 loc2 H2, Ok (pre ++ [x]) → HLe I I2 → Ja pre x E2 I2 loc2 → X ⟨P, some l, N, [], g, H2⟩ (RoundQ g H2 (fun q I3 loc3 => HLe I2 I3 ∧ Jc q I3 loc3) (fun c q I3 loc3 => HLe I2 I3 ∧ Jx c q I3 loc3) (pre ++ [x])) body E2 I2 loc2)
    (hdone : ∀ bd I' loc' xs, Fin xs → HLe I I' → Jc xs I' loc' → At ⟨P, none, N, { target := .collected bd, args := #[] } :: D, g, H⟩ Q .normal E I' (loc' ++ [(bd, .deferred (some []))]))
    (hstop : ∀ c bd pre I' loc', HLe I I' → Jx c pre I' loc' → X ⟨P, none, N, { target := .collected bd, args := #[] } :: D, g, H⟩ Q c E I' (loc' ++ [(bd, .deferred (some []))])) :
    X ⟨P, none, N, D, g, H⟩ Q (.rangeFunc gop #[p] assign body) E I (K ++ loc) := by
  intro a w ha hw
  refine wpIn_rangeFunc fun fn _ => ?_
  have hen := run_enterLoop_outer (P := P) (w := w) fn a.tmps #[p] assign body
  generalize hbd : w.heap.size = bd at hen
  let rec_ : LoopState → Option Code → Obj := fun st pd => .loop { state := st, pending := pd, fn, tmps := a.tmps, params := #[p], assign, body, defers := bd }
  have hw1 : St g I H ((bd + 1, rec_ .ready none) :: (bd, .deferred (some [])) :: (K ++ loc)) ((w.alloc (.deferred (some []))).alloc (rec_ .ready none)) := by
    have h1 := hw.alloc (.deferred (some []))
    have h2 := h1.alloc (rec_ .ready none)
    rw [World.size_alloc, hbd] at h2
    exact h2
  have hev := evalS_sound (S := []) ha trivial rfl hg
  refine ⟨bd + 1, [{ target := .collected bd, args := #[] }], _, { target := .fn (.func f) cap.toArray, args := #[.func (.yield (bd + 1)) #[] #[]] }, (w.alloc (.deferred (some []))).alloc (rec_ .ready none), f, ((.func (.yield (bd + 1)) #[] #[] : Value) :: cap).toArray, (w.alloc (.deferred (some []))).alloc (rec_ .ready none), hen, ?_, fun _ _ => trivial, ?_, by simp [FR], callsFR.2 ?_⟩
  · have e2 : a.eval (.const (.func (.yield (bd + 1)) #[] #[])) = .func (.yield (bd + 1)) #[] #[] := rfl
    simp only [resolve, List.map_toArray, List.map_cons, List.map_nil, e2, hev, Deferred.ofValue]
    rfl
  · simp only [invoke, run_callFunc hF]
    simp
  -- the caller's blocks, between two rounds
  let Lr : LoopState → Option Code → Loc → Loc := fun st pd l' => l' ++ [(bd + 1, rec_ st pd), (bd, .deferred (some []))]
  have okL : ∀ {I' H1 l' W st pd}, St g I' H1 (Lr st pd l') W → ((Lr st pd l').map (·.1)).Nodup := fun h => h.nodup
  let J : List α → HMap → HMap → Prop := fun pre I' H' => ∃ l', Jc pre I' l' ∧ HLe I I' ∧ H' = addL H (Lr .ready none l') ∧ ((Lr .ready none l').map (·.1)).Nodup ∧ ∀ b o, (b, o) ∈ Lr .ready none l' → H b = none
  let Jy : List α → HMap → HMap → Prop := fun pre I' H' => ∃ c l', Jx c pre I' l' ∧ HLe I I' ∧ H' = addL H (Lr .done (some c) l') ∧ ((Lr .done (some c) l').map (·.1)).Nodup ∧ ∀ b o, (b, o) ∈ Lr .done (some c) l' → H b = none
  have hw2 : St g I H (K ++ Lr .ready none loc) ((w.alloc (.deferred (some []))).alloc (rec_ .ready none)) := by
    have hp : (K ++ Lr .ready none loc).Perm ((bd + 1, rec_ .ready none) :: (bd, .deferred (some [])) :: (K ++ loc)) := by
      show (K ++ (loc ++ [(bd + 1, rec_ .ready none), (bd, .deferred (some []))])).Perm _
      rw [← List.append_assoc]
      exact List.perm_append_comm
    exact hw1.perm (fun q => hp.mem_iff) ((hp.map (·.1)).nodup_iff.2 hw1.nodup)
  have hw2r := hw2.rest split_app
  have hJ0 : J [] I (addL H (Lr .ready none loc)) := ⟨loc, h0, HLe.refl I, rfl, hw2r.nodup, fun b o hm => (hw2r.sepIL b o hm).2⟩
  refine (hseq g (bd + 1) J Jy ?_ I _ _ (HLe.refl I) hJ0 hw2.hideR).mono ?_
  · -- a round
    intro pre x I' H' hpre hI ⟨l', hJc, _, hH, hnd, hdj⟩ lit W hW
    subst hH
    have hS1 := hW.swap hnd hdj
    have hrec : W.heap[bd + 1]? = some (rec_ .ready none) := hS1.own _ _ (by simp [Lr])
    refine ⟨fn, _, assign, body, run_yield (P := P) hrec (by simp), ?_⟩
    have hfit : Fits N [] ((p, enc x) :: E) { tmps := a.tmps.setIfInBounds p (enc x), defers := [] } := by
      have h1 := ha.put hp (enc x)
      exact ⟨h1.size, rfl, h1.env⟩
    have hdjK : ∀ b o, (b, o) ∈ lit → H b = none := fun b o hm => (addL_none (hW.sepIL b o hm).2).1
    refine roundIn_of_wpIn (F := Fence.wide) trivial ?_
    have htm : ((#[p] : Array Tmp).zip #[enc x]).foldl (fun tmps (t, v) => tmps.setIfInBounds t v) a.tmps = a.tmps.setIfInBounds p (enc x) := by simp
    show Code.wpIn _ _ _ _ _ { tmps := ((#[p] : Array Tmp).zip #[enc x]).foldl (fun tmps (t, v) => tmps.setIfInBounds t v) a.tmps, defers := [] } _
    rw [htm]
    have hA := hass (bd + 1) pre x I' l' (addL (addL H lit) [(bd + 1, rec_ .ready none), (bd, .deferred (some []))]) hpre hI hJc _ W hfit hS1.hideR
    refine wpIn_mono (F := Fence.wide.inRound (bd + 1)) (n := 0) (P := P) (show assign.wpIn (Fence.wide.inRound (bd + 1)) 0 P _ _ _ from hA) ?_
    intro e a1 W1 hq
    cases e with
    | normal =>
      obtain ⟨E2, I2, loc2, ⟨hI2, hJa⟩, hf2, hs2⟩ := hq
      have hs3 : St g I2 (addL H lit) (loc2 ++ [(bd + 1, rec_ .ready none), (bd, .deferred (some []))]) W1 := St.unhide (hS1.rest split_app) hs2
      have hrec1 : W1.heap[bd + 1]? = some (rec_ .ready none) := hs3.own _ _ (by simp)
      have hs4 := hs3.putObj (o' := rec_ .busy none) (b := bd + 1) (upd_app .here)
      refine ⟨_, run_beginRound (P := P) hrec1 rfl, ?_⟩
      have hB := hbody (bd + 1) pre x E2 I2 loc2 (addL (addL H lit) [(bd + 1, rec_ .busy none), (bd, .deferred (some []))]) hpre (hI.trans hI2) hJa a1 _ hf2 hs4.hideR
      refine wpIn_mono (F := Fence.wide.inRound (bd + 1)) (n := 0) (P := P) (show body.wpIn (Fence.wide.inRound (bd + 1)) 0 P _ _ _ from hB) ?_
      have fin : ∀ (W3 : World) (I3 : HMap) (loc3 : Loc) (jump : Option Code) (st : LoopState), St g I3 (addL (addL H lit) [(bd + 1, rec_ .busy none), (bd, .deferred (some []))]) loc3 W3 →
          (st = if jump.isNone then .ready else .done) →
          ∃ W4, (Instr.endRound (bd + 1) jump).run P W3 = .ok (.bool jump.isNone) W4 ∧ St g I3 (addL H (Lr st jump loc3)) lit W4 ∧ ((Lr st jump loc3).map (·.1)).Nodup ∧ ∀ b o, (b, o) ∈ Lr st jump loc3 → H b = none := by
        intro W3 I3 loc3 jump st hs hst
        have hs5 : St g I3 (addL H lit) (loc3 ++ [(bd + 1, rec_ .busy none), (bd, .deferred (some []))]) W3 := St.unhide (hs4.rest split_app) hs
        have hrec3 : W3.heap[bd + 1]? = some (rec_ .busy none) := hs5.own _ _ (by simp)
        have hs6 := hs5.putObj (o' := rec_ st jump) (b := bd + 1) (upd_app .here)
        refine ⟨_, run_endRound (P := P) jump hrec3, ?_, hs6.nodup, fun b o hm => (addL_none (hs6.sepIL b o hm).2).1⟩
        rw [← hst]
        exact hs6.swap hW.nodup hdjK
      intro e a3 W3 hq
      cases e with
      | normal =>
        obtain ⟨I3, loc3, ⟨hI3, hJ3⟩, hs⟩ := hq
        obtain ⟨W4, h1, h2, h3, h4⟩ := fin W3 I3 loc3 none .ready hs rfl
        exact ⟨_, W4, h1, true, I3, _, rfl, hI2.trans hI3, h2, loc3, hJ3, (hI.trans hI2).trans hI3, rfl, h3, h4⟩
      | ret =>
        obtain ⟨I3, loc3, ⟨hI3, hJ3⟩, hs⟩ := hq
        obtain ⟨W4, h1, h2, h3, h4⟩ := fin W3 I3 loc3 (some .ret) .done hs rfl
        exact ⟨_, W4, h1, false, I3, _, rfl, hI2.trans hI3, h2, .ret, loc3, hJ3, (hI.trans hI2).trans hI3, rfl, h3, h4⟩
      | exit id =>
        obtain ⟨I3, loc3, ⟨hI3, hJ3⟩, hs⟩ := hq
        obtain ⟨W4, h1, h2, h3, h4⟩ := fin W3 I3 loc3 (some (.exit id)) .done hs rfl
        exact ⟨_, W4, h1, false, I3, _, rfl, hI2.trans hI3, h2, .exit id, loc3, hJ3, (hI.trans hI2).trans hI3, rfl, h3, h4⟩
      | goto t => exact hq.elim
      | panic c => exact hq.elim
      | outgrown => exact hq.elim
    | _ => exact hq.elim
  · -- behind the call
    rintro e w' ⟨v, I', H', rfl, hI, hs, ⟨xs, hfin, hJ⟩ | ⟨pre, hJ⟩⟩
    · obtain ⟨l', hJc, hI1, rfl, hnd, hdj⟩ := hJ
      have hs1 := hs.swap hnd hdj
      have hrec : w'.heap[bd + 1]? = some (rec_ .ready none) := hs1.own _ _ (by simp [Lr])
      have hs2 := hs1.putObj (o' := rec_ .exhausted none) (b := bd + 1) (upd_app .here)
      refine ⟨none, _, run_endLoop (P := P) hrec (by simp), ?_⟩
      refine hdone bd I' l' xs hfin hI1 hJc _ _ ⟨ha.size, by simp [ha.defers], ha.env⟩ ?_
      refine hs2.rest (L := [(bd + 1, rec_ .exhausted none)]) ?_
      have : Split (l' ++ [(bd + 1, rec_ .exhausted none), (bd, .deferred (some []))]) [(bd + 1, rec_ .exhausted none)] (l' ++ [(bd, .deferred (some []))]) := by
        refine .cons ?_ .nil
        clear hdj hnd hs2 hs1 hs hJc hrec
        induction l' with
        | nil => exact .here
        | cons q l ih => exact .there ih
      exact this
    · obtain ⟨c, l', hJc, hI1, rfl, hnd, hdj⟩ := hJ
      have hs1 := hs.swap hnd hdj
      have hrec : w'.heap[bd + 1]? = some (rec_ .done (some c)) := hs1.own _ _ (by simp [Lr])
      have hs2 := hs1.putObj (o' := rec_ .exhausted (some c)) (b := bd + 1) (upd_app .here)
      refine ⟨some c, _, run_endLoop (P := P) hrec (by simp), ?_⟩
      refine hstop c bd pre I' l' hI1 hJc _ _ ⟨ha.size, by simp [ha.defers], ha.env⟩ ?_
      refine hs2.rest (L := [(bd + 1, rec_ .exhausted (some c))]) ?_
      have : Split (l' ++ [(bd + 1, rec_ .exhausted (some c)), (bd, .deferred (some []))]) [(bd + 1, rec_ .exhausted (some c))] (l' ++ [(bd, .deferred (some []))]) := by
        refine .cons ?_ .nil
        clear hdj hnd hs2 hs1 hs hJc hrec
        induction l' with
        | nil => exact .here
        | cons q l ih => exact .there ih
      exact this
end
section
variable {P : Program} {r : Option Nat} {N : Nat} {g : World} {H : HMap} {Q : Exit → Act → World → Prop} {E E' : Env} {I I' : HMap} {loc loc' L R : Loc} {ms : List Nat}
/-- 'for x := range f { .. }' where marks lie already. -/
theorem X_rangeFuncGM {α : Type} {gop : Operand} {p : Nat} {assign body : Code} {f : FuncId} {cap : List Value} {K : Loc} {enc : α → Value} {Ok Fin : List α → Prop}
    (Jc : List α → HMap → Loc → Prop) (Jx : Code → List α → HMap → Loc → Prop) (Ja : List α → α → Env → HMap → Loc → Prop)
    (hg : evalS [] E gop = some (.func (.func f) #[] cap.toArray)) (hF : Fun P f) (hseq : SeqG P f cap I K enc Ok Fin) (hp : Nat.blt p N = true) (h0 : Jc [] I L)
    (hass : ∀ l pre x I' loc' H1, Ok (pre ++ [x]) → HLe I I' → Jc pre I' loc' → X ⟨P, some l, N, [], g, H1⟩ (Exit.then (Met ⟨P, some l, N, [], g, H1⟩ fun E2 I2 loc2 => HLe I' I2 ∧ Ja pre x E2 I2 loc2) (fun _ _ _ => False)) assign ((p, enc x) :: E) I' loc')
    (hbody : ∀ l pre x E2 I2 loc2 H2, Ok (pre ++ [x]) → HLe I I2 → Ja pre x E2 I2 loc2 → X ⟨P, some l, N, [], g, H2⟩ (RoundQ g H2 (fun q I3 loc3 => HLe I2 I3 ∧ Jc q I3 loc3) (fun c q I3 loc3 => HLe I2 I3 ∧ Jx c q I3 loc3) (pre ++ [x])) body E2 I2 loc2)
    (hdone : ∀ bd I' loc' xs, Fin xs → HLe I I' → Jc xs I' loc' → At ⟨P, none, N, mk (bd :: ms), g, H⟩ Q .normal E I' (loc' ++ MB (bd :: ms)))
    (hstop : ∀ c bd pre I' loc', HLe I I' → Jx c pre I' loc' → X ⟨P, none, N, mk (bd :: ms), g, H⟩ Q c E I' (loc' ++ MB (bd :: ms))) :
    X ⟨P, none, N, mk ms, g, H⟩ Q (.rangeFunc gop #[p] assign body) E I (K ++ (L ++ MB ms)) := by
  intro a w ha hw
  have back : ∀ {I' : HMap} {loc' : Loc} {bd : Nat} {w' : World}, St g I' (addL H (MB ms)) (loc' ++ [(bd, .deferred (some []))]) w' → St g I' H (loc' ++ MB (bd :: ms)) w' := fun {I' loc' bd w'} h => by
    have h1 := St.unhide ((hw.rest split_app).rest split_app) h
    refine h1.perm (fun p => ?_) ?_
    · simp only [MB, List.mem_append]
      constructor
      · rintro (h | h | h)
        · exact .inl (.inl h)
        · exact .inr h
        · exact .inl (.inr h)
      · rintro ((h | h) | h)
        · exact .inl h
        · exact .inr (.inr h)
        · exact .inr (.inl h)
    · have hn := h1.nodup
      have hpm : (loc' ++ MB (bd :: ms)).Perm (loc' ++ [(bd, .deferred (some []))] ++ MB ms) := by
        rw [List.append_assoc]
        exact (List.Perm.refl loc').append List.perm_append_comm
      exact (hpm.map (·.1)).nodup_iff.2 hn
  refine X_rangeFuncGD (K := K) (P := P) (N := N) (D := mk ms) (g := g) (H := addL H (MB ms)) (Q := Q) Jc Jx Ja hg hF hseq hp h0 hass hbody ?_ ?_ a w ha (show St g I (addL H (MB ms)) (K ++ L) w from (show St g I H ((K ++ L) ++ MB ms) w by rw [List.append_assoc]; exact hw).hideR)
  · intro bd I' loc' xs hfin hI hJ a' w' ha' hw'
    exact hdone bd I' loc' xs hfin hI hJ a' w' ha' (back hw')
  · intro c bd pre I' loc' hI hJ a' w' ha' hw'
    exact hstop c bd pre I' loc' hI hJ a' w' ha' (back hw')
end
end Go.Kn
end
section
namespace Go.Kn
open Go Go.Sort Go.Shelf Go.Lib Go.Proofs
section
variable {C : Cx} {Q : Exit → Act → World → Prop} {E : Env} {I : HMap} {loc : Loc} {ops : Array Oper} {rest : List Oper} {d : Nat} {ty : TypeId} {pos : String} {af : Array Edge} {gd : Option (Nat × Bool)} {x y : Operand}
/-- 'append(nil, make([]T, k)...)': a new block. -/
theorem XO_appendZ0 {t tn e size bytes : Nat} {k : Int} (hx : evalS [] E x = some (.slice none 0 0)) (hy : evalS [] E y = some (.int .i64 k)) (hT : ElT C.P t e size bytes) (htn : C.P.underlying tn = some (.int .i64))
    (hk : 0 < k) (hsz : 0 < size) (hB : k.toNat * (bytes + 1) ≤ 70368744177664) (hG : gd = none) (hN : Nat.blt d C.N = true)
    (h : ∀ b' c' zs, k.toNat ≤ c' → c' ≤ maxLen → (zs : List Value).length = c' * size → XO C Q ops rest [] ((d, .slice (some ⟨b', 0, none⟩) k.toNat c') :: E) I ((b', .cells zs.toArray e (0, 0)) :: loc)) :
    XO C Q ops (⟨some d, .call ⟨.builtin .append, #[x, y], #[t, tn]⟩, ty, pos, af, gd⟩ :: rest) [] E I loc :=
  XO_world hG (by intro c e; cases e) fun a w ha hw => by
    obtain ⟨ht, inf, zz, hi, hz, hss, hb, hzs⟩ := hT
    obtain ⟨q, rfl⟩ : ∃ q : Nat, k = q := ⟨k.toNat, by omega⟩
    rw [Int.toNat_natCast] at hB h
    have hnm : q ≤ 70368744177664 := by
      have : q * 1 ≤ q * (bytes + 1) := Nat.mul_le_mul_left _ (by omega)
      omega
    have hbytes : q * bytes ≤ 140737488355328 := by
      have : q * bytes ≤ q * (bytes + 1) := Nat.mul_le_mul_left _ (by omega)
      omega
    have hold : (Builtin.firstCells inf.size 0 (.slice none 0 0)).run C.P w.drew = .ok (([] : List Value).toArray) w.drew := rfl
    have hrun := Lib.run_append_grow_zeros (P := C.P) w t tn ty e inf zz .i64 .i64 ht htn hi hz none 0 0 _ hold q (by omega) (by omega) (by omega) (by omega) (by rw [hb]; omega) (by rw [hb]; exact growslice_fits (by omega) (by rw [Nat.zero_add]; exact hbytes))
    have hge := grownCap_ge w (0 + q) 0 e
    have hcm : grownCap w (0 + q) 0 e ≤ maxLen := grownCap_le_maxLen w (0 + q) 0 e (by simp only [maxLen]; omega)
    simp only [execOp, resolve, List.map_toArray, List.map_cons, List.map_nil, evalS_sound (S := []) ha trivial rfl hx, evalS_sound (S := []) ha trivial rfl hy, Sem.run_bind, Sem.run_pure, Result.andThen, invoke, builtin, hrun, Oper.uponIn_value]
    have e1 : ([] : List Value).toArray ++ Builtin.zeroCells zz.cells q ++ Builtin.zeroCells zz.cells (grownCap w (0 + q) 0 e - (0 + q)) = (((Builtin.zeroCells zz.cells q).toList ++ (Builtin.zeroCells zz.cells (grownCap w (0 + q) 0 e - (0 + q))).toList)).toArray := by
      apply Array.ext'
      simp
    rw [e1]
    simp only [Nat.zero_add] at hge hcm ⊢
    refine h _ _ _ hge hcm ?_ _ _ (ha.put hN _) trivial (hw.drew'.alloc _)
    simp only [List.length_append, Array.length_toList, size_zeroCells', hzs]
    rw [← Nat.add_mul]
    congr 1; omega
end
end Go.Kn
end
section
namespace Go.Kn
open Go
theorem X_perm {C : Cx} {Q : Exit → Act → World → Prop} {E : Env} {I : HMap} {loc : Loc} (loc' : Loc) {c : Code} (hp : loc'.Perm loc) (h : X C Q c E I loc') : X C Q c E I loc := fun a w ha hw => h a w ha (hw.permL hp)
/-- A set: its members in the order in which they came. -/
def kmap {α : Type} (ks : List α) : List (α × Bool) := ks.map fun k => (k, true)
def insS {α : Type} [DecidableEq α] (ks : List α) (a : α) : List α := if a ∈ ks then ks else ks ++ [a]
theorem mem_insS {α : Type} [DecidableEq α] {ks : List α} {a x : α} : x ∈ insS ks a ↔ x ∈ ks ∨ x = a := by
  unfold insS
  split
  · rename_i h; exact ⟨.inl, fun g => g.elim id (fun e => e ▸ h)⟩
  · simp
theorem insS_nodup {α : Type} [DecidableEq α] {ks : List α} {a : α} (h : ks.Nodup) : (insS ks a).Nodup := by
  unfold insS
  split
  · exact h
  · rename_i g; exact List.nodup_append.2 ⟨h, by simp, fun x hx y hy e => by simp at hy; subst hy; subst e; exact g hx⟩
theorem mset_kmap {α : Type} [DecidableEq α] : ∀ (ks : List α) (a : α), mset (kmap ks) a true = kmap (insS ks a)
  | [], a => by simp [kmap, mset, insS]
  | k :: ks, a => by
    have ih := mset_kmap ks a
    unfold kmap insS at *
    simp only [List.map_cons, mset]
    by_cases e : k = a
    · subst e; simp
    · have e' : ¬ a = k := fun q => e q.symm
      rw [if_neg e, ih]
      by_cases g : a ∈ ks
      · simp [g]
      · simp [g, e']
/-! ### Maps of sets: m has the blocks, f the sets -/
def setIB (s : List (Int × Bool)) : Obj := mapO (Value.int .i64) Value.bool s
def dL : List (Int × Nat) → (Int → List (Int × Bool)) → Loc
  | [], _ => []
  | q :: m, f => dL m f ++ [(q.2, setIB (f q.1))]
theorem dL_snoc (f : Int → List (Int × Bool)) (q : Int × Nat) : ∀ m, dL (m ++ [q]) f = (q.2, setIB (f q.1)) :: dL m f
  | [] => rfl
  | a :: m => by simp only [List.cons_append, dL]; rw [dL_snoc f q m]; rfl
theorem dL_congr {f g : Int → List (Int × Bool)} : ∀ {m : List (Int × Nat)}, (∀ q ∈ m, f q.1 = g q.1) → dL m f = dL m g
  | [], _ => rfl
  | q :: m, h => by simp only [dL]; rw [dL_congr fun x hx => h x (by simp [hx]), h q (by simp)]
def updF (f : Int → List (Int × Bool)) (p : Int) (s : List (Int × Bool)) : Int → List (Int × Bool) := fun y => if y = p then s else f y
theorem dL_upd {f : Int → List (Int × Bool)} {p : Int} {b : Nat} {s : List (Int × Bool)} : ∀ {m : List (Int × Nat)} {R : Loc}, (m.map (·.1)).Nodup → mget m p = some b → Upd (dL m f ++ R) b (setIB (f p)) (setIB s) (dL m (updF f p s) ++ R)
  | [], _, _, h => by cases h
  | q :: m, R, hn, h => by
    rw [List.map_cons, List.nodup_cons] at hn
    simp only [dL, List.append_assoc, List.singleton_append]
    unfold mget at h
    split at h
    · rename_i e
      cases h
      have e1 : dL m (updF f p s) = dL m f := dL_congr fun x hx => by
        unfold updF
        rw [if_neg]
        intro e2
        exact hn.1 (e ▸ e2 ▸ List.mem_map_of_mem hx)
      rw [e1]
      have e3 : updF f p s q.1 = s := by unfold updF; rw [if_pos e]
      rw [e3, e]
      exact upd_app .here
    · rename_i e
      have e3 : updF f p s q.1 = f q.1 := by unfold updF; rw [if_neg e]
      rw [e3]
      exact dL_upd hn.2 h
theorem dL_mem {f : Int → List (Int × Bool)} {p : Int} {b : Nat} : ∀ {m : List (Int × Nat)}, mget m p = some b → (b, setIB (f p)) ∈ dL m f
  | [], h => by cases h
  | q :: m, h => by
    unfold mget at h
    simp only [dL, List.mem_append, List.mem_singleton]
    split at h
    · rename_i e; cases h; exact .inr (by rw [e])
    · exact .inl (dL_mem h)
end Go.Kn
namespace Go.Proofs.YtehkiccapbkhnaaGreat
open Go Go.Kn Go.Proofs
theorem mset_add {β : Type} : ∀ {m : List (Int × β)} {p : Int} {b : β}, mget m p = none → mset m p b = m ++ [(p, b)]
  | [], _, _, _ => rfl
  | q :: m, p, b, h => by
    unfold mget at h
    split at h
    · cases h
    · rename_i e; unfold mset; rw [if_neg e, mset_add h]; rfl
/-- The people of a day, with their efforts. -/
def peoK (c : Cr) (pl : List Int) (d : Int) (k : Nat) : List (Int × Int) := (((pl.zip c.ss).drop k).filter fun q => q.1 == d).flatMap fun q => q.2.who.map fun p => (p, q.2.ef)
def peoL (c : Cr) (pl : List Int) (d : Int) : List (Int × Int) := peoK c pl d 0
def en1P (x : Int × Int) : Value := .int .i64 x.1
def en2P (x : Int × Int) : Value := .int .i64 x.2
theorem zip_at {α β : Type} {a : List α} {b : List β} {i : Nat} {x : α} {y : β} (h : a[i]? = some x) (g : b[i]? = some y) : (a.zip b).drop i = (x, y) :: (a.zip b).drop (i + 1) := drop_cons (List.getElem?_zip_eq_some.2 ⟨h, g⟩)
theorem peo_skip {c : Cr} {pl : List Int} {d e : Int} {k : Nat} {s : Ses} (h : pl[k]? = some e) (hs : c.ss[k]? = some s) (hne : e ≠ d) : peoK c pl d k = peoK c pl d (k + 1) := by
  unfold peoK; rw [zip_at h hs]; simp [hne]
theorem peo_in {c : Cr} {pl : List Int} {d e : Int} {k : Nat} {s : Ses} (h : pl[k]? = some e) (hs : c.ss[k]? = some s) (he : e = d) : peoK c pl d k = ((s.who.drop 0).map fun p => (p, s.ef)) ++ peoK c pl d (k + 1) := by
  subst he; unfold peoK; rw [zip_at h hs]; simp
theorem peo_end {c : Cr} {pl : List Int} {d : Int} {k : Nat} (h : pl.length ≤ k) : peoK c pl d k = [] := by
  unfold peoK; rw [List.drop_eq_nil_of_le (by rw [List.length_zip]; omega)]; rfl
theorem who_step {s : Ses} {j : Nat} {p : Int} {l : List (Int × Int)} (h : s.who[j]? = some p) : ((s.who.drop j).map fun p => (p, s.ef)) ++ l = (p, s.ef) :: (((s.who.drop (j + 1)).map fun p => (p, s.ef)) ++ l) := by rw [drop_cons h]; rfl
theorem who_end {s : Ses} {j : Nat} {l : List (Int × Int)} (h : s.who.length ≤ j) : ((s.who.drop j).map fun p => (p, s.ef)) ++ l = l := by rw [List.drop_eq_nil_of_le h]; rfl
theorem peo_pre {X pre l : List (Int × Int)} {x : Int × Int} (h : X = pre ++ x :: l) : pre ++ [x] <+: X := ⟨l, by rw [h]; simp⟩
theorem mem_peo {c : Cr} {pl : List Int} {d : Int} {e : Int × Int} : e ∈ peoL c pl d ↔ ∃ q ∈ pl.zip c.ss, q.1 = d ∧ e.1 ∈ q.2.who ∧ e.2 = q.2.ef := by
  unfold peoL peoK
  rw [List.drop_zero]
  simp only [List.mem_flatMap, List.mem_filter, List.mem_map, beq_iff_eq]
  constructor
  · rintro ⟨q, ⟨h1, h2⟩, p, hp, rfl⟩; exact ⟨q, h1, h2, hp, rfl⟩
  · rintro ⟨q, h1, h2, h3, h4⟩; exact ⟨q, ⟨h1, h2⟩, e.1, h3, by rw [← h4]⟩
theorem peo_cnt {c : Cr} (hc : rightF c = true) {pl : List Int} {d p : Int} : cntE (peoL c pl d) p = cntF c pl d p ∧ sumE (peoL c pl d) p = effF c pl d p := by
  have key : ∀ zs : List (Int × Ses), (∀ q ∈ zs, q.2.who.Pairwise (· < ·)) →
      cntE ((zs.filter fun q => q.1 == d).flatMap fun q => q.2.who.map fun p => (p, q.2.ef)) p = (((((zs.filter fun q => q.1 == d).map (·.2)).filter fun s => s.who.contains p).length : Nat) : Int)
      ∧ sumE ((zs.filter fun q => q.1 == d).flatMap fun q => q.2.who.map fun p => (p, q.2.ef)) p = ((((zs.filter fun q => q.1 == d).map (·.2)).filter fun s => s.who.contains p).map (·.ef)).sum := by
    intro zs
    induction zs with
    | nil => intro _; exact ⟨rfl, rfl⟩
    | cons q zs ih =>
      intro h
      obtain ⟨ih1, ih2⟩ := ih fun x hx => h x (by simp [hx])
      have hw := h q (by simp)
      rw [List.filter_cons]
      split
      · simp only [List.flatMap_cons, List.map_cons]
        rw [cntE_app, sumE_app, ih1, ih2]
        have e1 : cntE (q.2.who.map fun p => (p, q.2.ef)) p = if p ∈ q.2.who then 1 else 0 := by
          unfold cntE
          rw [List.filter_map, List.length_map]
          have : ((fun e : Int × Int => decide (e.1 = p)) ∘ fun p => (p, q.2.ef)) = fun x => x == p := by funext x; rw [Bool.eq_iff_iff]; simp
          rw [this, who_one hw]
          by_cases g : p ∈ q.2.who <;> simp [g]
        have e2 : sumE (q.2.who.map fun p => (p, q.2.ef)) p = if p ∈ q.2.who then q.2.ef else 0 := by
          unfold sumE
          rw [List.filter_map, List.map_map]
          have : ((fun e : Int × Int => decide (e.1 = p)) ∘ fun p => (p, q.2.ef)) = fun x => x == p := by funext x; rw [Bool.eq_iff_iff]; simp
          rw [this, who_one hw]
          by_cases g : p ∈ q.2.who <;> simp [g]
        rw [e1, e2, List.filter_cons]
        by_cases g : p ∈ q.2.who
        · simp [g]; omega
        · simp [g]
      · exact ⟨ih1, ih2⟩
  unfold peoL peoK cntF effF onD
  rw [List.drop_zero]
  exact key _ fun q hq => by obtain ⟨i, _, h2⟩ := mem_zip hq; exact (right_ses hc h2).inc
/-! ### The dates on which people are busy, so far -/
def bsyK (c : Cr) (pl : List Int) (k : Nat) (p x : Int) : Bool := (pl.zip c.ss).any fun q => decide (q.1 < (k : Int)) && (dayF c q.1 == x && q.2.who.contains p)
def bsyP (c : Cr) (pl : List Int) (k : Nat) (pre : List (Int × Int)) (p x : Int) : Bool := bsyK c pl k p x || (dayF c k == x && pre.any fun e => e.1 == p)
structure DOK (m : List (Int × Nat)) (f : Int → List (Int × Bool)) (F : Int → Int → Bool) : Prop where
  nd : (m.map (·.1)).Nodup
  no : ∀ p, mget m p = none → f p = []
  is : ∀ p x, setM (f p) x = F p x
theorem DOK.congr {m : List (Int × Nat)} {f : Int → List (Int × Bool)} {F G : Int → Int → Bool} (h : DOK m f F) (e : ∀ p x, F p x = G p x) : DOK m f G := ⟨h.nd, h.no, fun p x => (h.is p x).trans (e p x)⟩
theorem DOK.nil {F : Int → Int → Bool} (h : ∀ p x, F p x = false) : DOK [] (fun _ => []) F := ⟨List.nodup_nil, fun _ _ => rfl, fun p x => (h p x).symm⟩
theorem DOK.add {m : List (Int × Nat)} {f : Int → List (Int × Bool)} {F : Int → Int → Bool} (h : DOK m f F) {p : Int} {r : Nat} (hn : mget m p = none) : DOK (m ++ [(p, r)]) f F := by
  refine ⟨?_, fun q hq => ?_, h.is⟩
  · rw [← mset_add hn]; exact mset_nodup _ _ h.nd
  · rw [← mset_add hn, mget_mset] at hq
    split at hq
    · cases hq
    · exact h.no q hq
theorem DOK.put {m : List (Int × Nat)} {f : Int → List (Int × Bool)} {F : Int → Int → Bool} (h : DOK m f F) {p x : Int} {r : Nat} (hn : mget m p = some r) : DOK m (updF f p (mset (f p) x true)) (fun q y => F q y || (decide (q = p) && decide (x = y))) := by
  refine ⟨h.nd, fun q hq => ?_, fun q y => ?_⟩
  · unfold updF
    rw [if_neg (fun e => by subst e; rw [hn] at hq; cases hq)]
    exact h.no q hq
  · unfold updF
    by_cases e : q = p
    · subst e; rw [if_pos rfl, setM_put, h.is]; simp [Bool.or_comm]
    · rw [if_neg e, h.is]; simp [e]
theorem DOK.has {m : List (Int × Nat)} {f : Int → List (Int × Bool)} {F : Int → Int → Bool} (h : DOK m f F) {p x : Int} (hF : F p x = true) : ∃ r, mget m p = some r := by
  cases e : mget m p with
  | some r => exact ⟨r, rfl⟩
  | none => have := h.is p x; rw [h.no p e, hF] at this; cases this
theorem bsyP_nil (c : Cr) (pl : List Int) (k : Nat) (p x : Int) : bsyP c pl k [] p x = bsyK c pl k p x := by unfold bsyP; simp
theorem bsyP_snoc (c : Cr) (pl : List Int) (k : Nat) (pre : List (Int × Int)) (e : Int × Int) (q y : Int) : (bsyP c pl k pre q y || (decide (q = e.1) && decide (dayF c k = y))) = bsyP c pl k (pre ++ [e]) q y := by
  unfold bsyP
  rw [List.any_append, List.any_cons, List.any_nil, Bool.or_false]
  cases bsyK c pl k q y
  · have e2 : (decide (q = e.1)) = (e.1 == q) := by rw [Bool.eq_iff_iff, decide_eq_true_eq, beq_iff_eq]; exact eq_comm
    have e3 : (decide (dayF c k = y)) = (dayF c k == y) := by rw [Bool.eq_iff_iff, decide_eq_true_eq, beq_iff_eq]
    rw [e2, e3]
    cases (dayF c k == y) <;> cases (pre.any fun e => e.1 == q) <;> cases (e.1 == q) <;> rfl
  · rfl
theorem bsyK_0 {c : Cr} {pl : List Int} (hin : InR c pl) (p x : Int) : bsyK c pl 0 p x = false := by
  unfold bsyK
  rw [List.any_eq_false]
  intro q hq h
  simp only [Bool.and_eq_true, decide_eq_true_eq] at h
  obtain ⟨i, h1, _⟩ := mem_zip hq
  have := hin _ (List.mem_of_getElem? h1)
  omega
theorem bsyP_all {c : Cr} {pl : List Int} (k : Nat) (p x : Int) : bsyP c pl k (peoL c pl k) p x = bsyK c pl (k + 1) p x := by
  unfold bsyP bsyK
  rw [Bool.eq_iff_iff]
  simp only [Bool.or_eq_true, List.any_eq_true, Bool.and_eq_true, decide_eq_true_eq, beq_iff_eq, cont_iff]
  constructor
  · rintro (⟨q, hq, h1, h2, h3⟩ | ⟨h1, e, he, rfl⟩)
    · exact ⟨q, hq, by omega, h2, h3⟩
    · obtain ⟨q, hq, h2, h3, _⟩ := mem_peo.1 he
      exact ⟨q, hq, by omega, by rw [h2]; exact h1, h3⟩
  · rintro ⟨q, hq, h1, h2, h3⟩
    by_cases e : q.1 < (k : Int)
    · exact .inl ⟨q, hq, e, h2, h3⟩
    · have e2 : q.1 = (k : Int) := by omega
      exact .inr ⟨by rw [← e2]; exact h2, (p, q.2.ef), mem_peo.2 ⟨q, hq, e2, h3, rfl⟩, rfl⟩
/-- On days before a day, one is busy as in the whole beginning. -/
theorem bsyK_busy {c : Cr} (hc : rightF c = true) {pl : List Int} (hin : InR c pl) {k : Nat} (hk : k < c.days.length) {p j : Int} (hj : 0 ≤ j) : bsyK c pl (k + 1) p (dayF c k - j) = busyF c pl (dayF c k - j) p := by
  unfold bsyK busyF
  refine any_congr' fun q hq => ?_
  obtain ⟨i, h1, _⟩ := mem_zip hq
  have hr := hin _ (List.mem_of_getElem? h1)
  by_cases e : dayF c q.1 = dayF c k - j
  · have : q.1 < ((k + 1 : Nat) : Int) := by
      by_cases g : q.1 ≤ (k : Int)
      · omega
      · have := days_lt (head_ok hc) (d := (k : Int)) (e := q.1) (by omega) hr.2 (by omega); omega
    rw [decide_eq_true this, Bool.true_and]
  · simp [e]
theorem bsyK_pos {c : Cr} (hc : rightF c = true) {pl : List Int} (hin : InR c pl) {k : Nat} {p x : Int} (h : bsyK c pl k p x = true) : 0 ≤ x := by
  unfold bsyK at h
  obtain ⟨q, hq, hp⟩ := List.any_eq_true.1 h
  simp only [Bool.and_eq_true, beq_iff_eq] at hp
  obtain ⟨i, h1, _⟩ := mem_zip hq
  have hr := hin _ (List.mem_of_getElem? h1)
  have hl : q.1.toNat < c.days.length := by omega
  have := (head_ok hc).day _ (List.getElem_mem hl)
  have e : dayF c q.1 = c.days[q.1.toNat] := by unfold dayF; rw [List.getD_eq_getElem?_getD, List.getElem?_eq_getElem hl]; rfl
  omega
theorem dayF_at {c : Cr} {k : Nat} {x : Int} (h : c.days[k]? = some x) : dayF c k = x := by
  unfold dayF; rw [Int.toNat_natCast, List.getD_eq_getElem?_getD, h]; rfl
end Go.Proofs.YtehkiccapbkhnaaGreat
end
section
namespace Go.Proofs.YtehkiccapbkhnaaGreat
open Go Go.Kn Go.Proofs
def pkS {α : Type} (ks : List α) (seen : List Nat) : List α := seen.filterMap fun i => ks[i]?
theorem kmap_at {α : Type} {ks : List α} {i : Nat} {q : α × Bool} (h : (kmap ks)[i]? = some q) : ks[i]? = some q.1 ∧ q.2 = true := by
  unfold kmap at h
  rw [List.getElem?_map, Option.map_eq_some_iff] at h
  obtain ⟨a, h1, rfl⟩ := h
  exact ⟨h1, rfl⟩
theorem kmap_len {α : Type} (ks : List α) : (kmap ks).length = ks.length := by unfold kmap; simp
theorem pkS_snoc {α : Type} {ks : List α} {seen : List Nat} {i : Nat} {q : α × Bool} (h : (kmap ks)[i]? = some q) : pkS ks (seen ++ [i]) = pkS ks seen ++ [q.1] := by
  unfold pkS; rw [List.filterMap_append]; simp [(kmap_at h).1]
theorem pkS_len {α : Type} {ks : List α} {seen : List Nat} (hnd : seen.Nodup) (hlt : ∀ i ∈ seen, i < (kmap ks).length) : (pkS ks seen).length ≤ ks.length := by
  have := seen_lt (m := kmap ks) hnd hlt
  rw [kmap_len] at this
  exact Nat.le_trans (List.length_filterMap_le _ _) this
theorem pkS_all {α : Type} {ks : List α} {seen : List Nat} (hnd : seen.Nodup) (hlt : ∀ i ∈ seen, i < (kmap ks).length) (hall : ∀ (i : Nat) (p : α × Bool), (kmap ks)[i]? = some p → i ∈ seen) : (pkS ks seen).Perm ks := by
  have h1 := seen_perm hnd hlt hall
  rw [kmap_len] at h1
  have h2 := h1.filterMap fun i => ks[i]?
  rw [range_all] at h2
  exact h2
theorem seen_more {seen : List Nat} {i n : Nat} (hnd : seen.Nodup) (hlt : ∀ j ∈ seen, j < n) (hns : i ∉ seen) (hi : i < n) : (seen ++ [i]).Nodup ∧ ∀ j ∈ seen ++ [i], j < n :=
  ⟨List.nodup_append.2 ⟨hnd, by simp, fun a ha b hb e => hns (by simp at hb; subst hb; subst e; exact ha)⟩, fun j hj => (List.mem_append.1 hj).elim (hlt j) fun h => by simp at h; subst h; exact hi⟩
/-- Sorted keys of a set: what is broken, in order. -/
theorem sorted_brk {c : Cr} {pl : List Int} {ks zs : List Br} (hnd : ks.Nodup) (hm : ∀ b, b ∈ ks ↔ b ∈ brkL c pl) (hp : zs.Perm ks) (hs : zs.Pairwise fun x y => ¬ cmpB y x < 0) : zs = brkL c pl := by
  refine lex_one ?_ (brkL_lt c pl) fun b => (hp.mem_iff).trans (hm b)
  have hn := hp.nodup_iff.2 hnd
  refine List.Pairwise.imp (R := fun x y => ¬ cmpB y x < 0 ∧ x ≠ y) (fun {a b} h => ?_) (List.Pairwise.and hs hn)
  rcases ltB_tri a b with g | g | g
  · exact g
  · exact absurd g h.2
  · exact absurd ((cmpB_lt b a).2 g) h.1
instance : Inhabited Br := ⟨⟨0, 0, 0⟩⟩
theorem swoB : Go.Sort.SWO (Go.Proofs.ltOf cmpB) := by
  have nt : ∀ a b : Br, ¬ cmpB a b < 0 ↔ ¬ ltB a b := fun a b => not_congr (cmpB_lt a b)
  refine ⟨fun x => ?_, fun x y z h1 h2 => ?_, fun x y z h1 h2 => ?_⟩
  · unfold Go.Proofs.ltOf; exact decide_eq_false ((nt x x).2 (ltB_irr x))
  · unfold Go.Proofs.ltOf at *
    exact decide_eq_true ((cmpB_lt _ _).2 (ltB_trans ((cmpB_lt _ _).1 (of_decide_eq_true h1)) ((cmpB_lt _ _).1 (of_decide_eq_true h2))))
  · unfold Go.Proofs.ltOf at *
    refine decide_eq_false ((nt _ _).2 fun h => ?_)
    have h1 := (nt _ _).1 (of_decide_eq_false h1)
    have h2 := (nt _ _).1 (of_decide_eq_false h2)
    unfold ltB at *
    omega
end Go.Proofs.YtehkiccapbkhnaaGreat
end
section
namespace Go.Proofs.YtehkiccapbkhnaaGreat
open Go Go.Kn Go.Proofs
theorem agt_91 : AgT Tryz.prog 91 3 := .of (by kernel_rfl)
theorem elt_88 : ElT Tryz.prog 88 91 3 24 := .of (by kernel_rfl)
theorem eqt2_91 : EqT2 Tryz.prog 91 [.int, .int, .int] := ⟨by kernel_rfl, by kernel_rfl, by kernel_rfl, by kernel_rfl⟩
theorem fun_128 : Fun Tryz.prog 128 := .of Tryz.func128 (by kernel_rfl) (by kernel_rfl)
theorem fun_145 : Fun Tryz.prog 145 := .of Tryz.func145 (by kernel_rfl) (by kernel_rfl)
theorem mpt_130 : MpT Tryz.prog 130 91 4 (.bool false) := ⟨by kernel_rfl, .of (by kernel_rfl)⟩
theorem sct_130 : ScT Tryz.prog 130 := .of (by kernel_rfl)
theorem sct_88 : ScT Tryz.prog 88 := .of (by kernel_rfl)
theorem szt_88 : SzT Tryz.prog 88 1 := .of (by kernel_rfl)
theorem szt_91 : SzT Tryz.prog 91 3 := .of (by kernel_rfl)
theorem zt_91 : ZeroT Tryz.prog 91 (.agg #[(.int .i64 0), (.int .i64 0), (.int .i64 0)]) := .of (by kernel_rfl)
theorem key_91 : KeyOK (α := Br) Tryz.prog 91 encBrA := key_flat2 (enc := encBr) eqt2_91 (fun _ => rfl) (fun a b => (show eqKs _ (encBr a) (encBr b) = some (a.r == b.r && (a.d == b.d && (a.w == b.w && true))) from rfl).trans (congrArg some (by rw [Bool.eq_iff_iff, decide_eq_true_eq]; obtain ⟨r, d, w⟩ := a; obtain ⟨r', d', w'⟩ := b; simp))) (fun a => by simp [encBr, Instr.sameBits])
theorem w_keys (I : HMap) (r : Nat) : RetM Tryz.prog 91 [.map (some r)] I [] (fun v I' L => L = [] ∧ ∃ b1, v = .func (.func 128) #[] [capP b1].toArray ∧ I' b1 = some (.cells #[.map (some r)] 130 (0, 0))) := by
 intro g H w hw
 refine enter Tryz.func91 rfl Tryz.ntmps91 rfl hw ?_
 have hIc := HLe.refl I
 refine zR ?_
 refine XO_box rfl rfl rfl (fun b_1 => ?_)
 refine zA ?_
 refine zN ?_
 refine X_seq ?_
 refine X_freeze .here (fun I1 hI1 hb1 => ?_)
 have hIc := hIc.trans hI1
 have h1 := hb1
 refine X_region ?_
 refine XO_v0 (ev_makeFunc (us := []) (vs := [_]) rfl rfl) rfl rfl rfl ?_
 refine zA ?_
 refine zN ?_
 refine X_ret ?_
 exact at_ret1 rfl rfl (fun w hw => ⟨_, I1, [], rfl, hIc, hw.drop, rfl, b_1, rfl, h1⟩)
theorem w_keysIt (I : HMap) {r : Nat} {ks : List Br} (hm : I r = some (mapO encBrA Value.bool (kmap ks))) (hk9 : ks.length ≤ 100000) {b1 : Nat} (h1 : I b1 = some (.cells #[.map (some r)] 130 (0, 0))) : SeqG Tryz.prog 128 [capP b1] I [] encBrA (fun l => l.length ≤ ks.length) (fun l => l.Perm ks) := by
 intro g y J Jx hY I0 H w h0 hJ hw
 have hm := h0 _ _ hm
 have h1 := h0 _ _ h1
 refine enter Tryz.func128 rfl Tryz.ntmps128 rfl hw ?_
 refine zR ?_
 refine XO_v0 (ev_load rfl sct_130 (fun hg => by first | exact Cell.imm h1 rfl | (repeat (first | exact Cell.here rfl | apply Cell.there | apply Cell.app)))) rfl rfl rfl ?_
 refine XO_range (ek := encBrA) (ev := Value.bool) (m := kmap ks) rfl mpt_130 rfl rfl (.inl hm) (fun b_5 => ?_)
 refine zN ?_
 refine X_block ?_
 refine X_loopH (fun m E I' H' loc' => ∃ (seen : List Nat) (pre : List Br), m = ks.length - seen.length ∧ E = [(0, .func (.yield y) #[] #[]), (1, capP b1), (5, capP b_5)] ∧ loc' = [(b_5, iterO r (kmap ks).length seen)] ∧ HLe I0 I' ∧ seen.Nodup ∧ (∀ i ∈ seen, i < (kmap ks).length) ∧ pre = pkS ks seen ∧ J pre I' H') _ _ _ ⟨[], [], rfl, rfl, rfl, HLe.refl _, .nil, (fun i h => by cases h), rfl, hJ⟩ (.cons rfl (.cons rfl (.cons rfl .nil))) rfl ?_
 rintro m E I' H' loc' ⟨seen, pre, rfl, rfl, rfl, hI1, hnd, hlt, hpre, hJk⟩
 have hm := hI1 _ _ hm
 have h1 := hI1 _ _ h1
 have hI0 := h0.trans hI1
 have hsl := seen_lt hnd hlt
 rw [kmap_len] at hsl
 refine zR ?_
 refine XO_next2 (ek := encBrA) (ev := Value.bool) (m := kmap ks) (fun s' => [(b_5, iterO r (kmap ks).length s')]) rfl (fun s' => .here) rfl rfl rfl rfl rfl (.inl hm) (by simp) ?_
 intro t tv s' hno hyes
 refine zN ?_
 refine X_seq ?_
 refine X_cond rfl (fun hc7 => ?_) (fun hc7 => ?_)
 ·
  obtain ⟨i, q, hq, hns, rfl⟩ := hyes hc7
  obtain ⟨hnd2, hlt2⟩ := seen_more hnd hlt hns (List.getElem?_eq_some_iff.1 hq).1
  have hok : (pre ++ [q.1]).length ≤ ks.length := by rw [hpre, ← pkS_snoc hq]; exact pkS_len hnd2 hlt2
  refine X_skip ?_
  refine at_then ?_
  refine X_block ?_
  refine zR ?_
  refine XO_v0 (ev_entry (ek := encBrA) (ev := Value.bool) (m := kmap ks) (p := q) (seen := seen) (i := i) rfl (.inl hm) (.inr (by simp)) hq) rfl rfl rfl ?_
  refine XO_v0 (ev_extract rfl rfl) rfl rfl rfl ?_
  refine XO_alloc zt_91 rfl rfl (fun b_3 => ?_)
  refine XO_storeA rfl rfl szt_91 rfl rfl rfl rfl (by repeat (first | exact Upd.here | apply Upd.there | apply upd_app)) ?_
  refine zN (zR ?_)
  refine zM ?_
  refine XO_v0 (ev_loadA rfl agt_91 (fun hg => by first | (repeat (first | exact Cells.here | exact Cells.s0 (vs := [_, _, _]) rfl | apply Cells.there | apply Cells.app))) rfl) rfl rfl rfl ?_
  refine XO_yield0 (vs := [_]) (Post := fun b I2 H2 => if b then J (pre ++ [q.1]) I2 H2 else Jx (pre ++ [q.1]) I2 H2) rfl rfl rfl rfl (hY pre q.1 _ _ hok hI0 hJk) ?_
  rintro t_12 I2 H2 hI2 hP2
  refine XO_v0 (ev_not rfl) rfl rfl rfl ?_
  refine zN ?_
  refine X_cond rfl (fun hc13 => ?_) (fun hc13 => ?_)
  ·
   have ht : t_12 = false := by simpa using hc13
   subst ht
   have hJ2 : Jx (pre ++ [q.1]) I2 H2 := hP2
   refine X_ret ?_
   refine at_block_r ?_
   refine at_then_r ?_
   refine at_block_r ?_
   exact at_ret0 rfl (fun w hw => ⟨_, I2, H2, rfl, hI1.trans hI2, hw.drop, .inr ⟨_, hJ2⟩⟩)
  have ht : t_12 = true := by simpa using hc13
  subst ht
  have hJ2 : J (pre ++ [q.1]) I2 H2 := hP2
  refine X_skip ?_
  refine at_block_n ?_
  exact at_metH2 rfl rfl rfl _ [(b_5, iterO r (kmap ks).length (seen ++ [i]))] ⟨ks.length - (seen ++ [i]).length, by have := seen_lt hnd2 hlt2; rw [kmap_len] at this; rw [List.length_append, List.length_singleton] at *; omega, seen ++ [i], pre ++ [q.1], rfl, rfl, rfl, hI1.trans hI2, hnd2, hlt2, by rw [hpre, pkS_snoc hq], hJ2⟩ (.cons rfl (.cons rfl (.cons rfl .nil))) (.drop .refl)
 obtain ⟨rfl, hall⟩ := hno hc7
 refine X_exit ?_
 refine at_then_e ?_
 refine at_then_e ?_
 refine at_block_hit ?_
 first
 | exact at_norm (at_ret0 rfl (fun w hw => ⟨_, I', H', rfl, hI1, hw.drop, .inl ⟨_, by rw [hpre]; exact pkS_all hnd hlt hall, hJk⟩⟩))
theorem w_appendSeqB {I : HMap} {f : Nat} {cap : List Value} {ks : List Br} (hF : Fun Tryz.prog f) (hseq : SeqG Tryz.prog f cap I [] encBrA (fun l => l.length ≤ ks.length) (fun l => l.Perm ks)) (hk9 : ks.length ≤ 100000) : RetM Tryz.prog 145 [.slice none 0 0, .func (.func f) #[] cap.toArray] I [] ((fun v I' L => ∃ zs : List Br, zs.Perm ks ∧ OwnS 91 3 v ks.length (zs.flatMap encBr) L)) := by
 intro g H w hw
 refine enterMs Tryz.func145 rfl Tryz.ntmps145 rfl hw ?_
 refine zR ?_
 refine XO_box rfl rfl rfl (fun b_2 => ?_)
 refine zA ?_
 refine zN ?_
 refine X_seq ?_
 refine zR ?_
 refine zM ?_
 refine zN ?_
 refine X_block ?_
 refine X_rangeFuncGM (ms := []) (K := []) (L := [(b_2, .cells #[.slice none 0 0] 88 (0, 0))]) (enc := encBrA) (fun pre I' loc' => ∃ (v : Value) (q : Nat) (L : Go.Kn.Loc), loc' = L ++ [(b_2, .cells #[v] 88 (0, 0))] ∧ OwnS 91 3 v q (pre.flatMap encBr) L ∧ q = pre.length) (fun _ _ _ _ => False) (fun pre x E2 I2 loc2 => ∃ (v : Value) (q : Nat) (L : Go.Kn.Loc) (b5 : Nat), E2 = [(2, capP b_2), (5, capP b5)] ∧ loc2 = (b5, .cells (encBr x).toArray 91 (0, 0)) :: (L ++ [(b_2, .cells #[v] 88 (0, 0))]) ∧ OwnS 91 3 v q (pre.flatMap encBr) L ∧ q = pre.length) rfl hF hseq rfl ⟨_, 0, [], rfl, OwnS.nil, rfl⟩ ?_ ?_ ?_ ?_
 ·
  rintro l9 pre x I1 loc1 H1 hpre hI1 ⟨v, q, L, rfl, hO, hq⟩
  refine X_region ?_
  refine XO_alloc zt_91 rfl rfl (fun b_5 => ?_)
  refine XO_storeA rfl rfl szt_91 rfl rfl rfl rfl (by repeat (first | exact Upd.here | apply Upd.there | apply upd_app)) ?_
  refine XO_nil ?_
  exact at_met' _ ⟨HLe.refl _, v, q, L, b_5, rfl, rfl, hO, hq⟩ (.cons rfl (.cons rfl .nil))
 ·
  rintro l9 pre x E2 I2 loc2 H2 hpre hI2 ⟨v, q, L, b5, rfl, rfl, hO, hq⟩
  simp only [List.length_append, List.length_singleton] at hpre
  refine X_block ?_
  refine X_region ?_
  refine XO_v0 (ev_load rfl sct_88 (fun hg => by first | exact Cell.app (Cell.here rfl) | exact Cell.there (Cell.app (Cell.here rfl)) | exact (Cell.app (Cell.here rfl)).any | exact Cell.lft (Cell.app (Cell.here rfl)) | (repeat (first | exact Cell.here rfl | apply Cell.there | apply Cell.app)))) rfl rfl rfl ?_
  refine XO_v0 (ev_loadA rfl agt_91 (fun hg => by first | (repeat (first | exact Cells.here | exact Cells.s0 (vs := [_, _, _]) rfl | apply Cells.there | apply Cells.app))) rfl) rfl rfl rfl ?_
  refine XO_buildSlice (ps := [(0, _)]) (m := [encBr x]) elt_88 rfl (.cons rfl (.nil)) rfl (by simp [encBr_len]) (by decide) (by decide) rfl rfl (fun b_10 => ?_)
  refine XO_append (v := _) (ys := [x].flatMap encBr) (L := L) rfl rfl elt_88 hO (by repeat (first | exact .cons .here .nil | exact split_all | exact split_app | apply split_cons | apply split_skip)) ⟨rfl, fun _ => rfl, by repeat (first | exact Cells.here | apply Cells.there | apply Cells.app)⟩ (one_Br _) (by omega) rfl rfl ?_
  intro v9 L9 hO9 _; rw [← List.flatMap_append] at hO9
  refine XO_store rfl rfl szt_88 hO9.one rfl (by repeat (first | exact Upd.here | apply Upd.there | apply upd_app)) rfl ?_
  refine XO_nil ?_
  refine at_block_n ?_
  exact at_round2 (loc' := L9 ++ [(b_2, _)]) ⟨HLe.refl _, v9, q + 1, L9, rfl, hO9, by rw [List.length_append, List.length_singleton]; omega⟩ (by repeat (first | exact .refl | exact subL_left | refine subL_app ?_ | refine .drop ?_ | refine .keep ?_ | refine subL_add ?_))
 ·
  rintro bd I1 loc1 xs hfin hI1 ⟨v, q, L, rfl, hO, hq⟩
  refine at_block_n ?_
  refine at_then ?_
  refine zR ?_
  refine XO_v0 (ev_load rfl sct_88 (fun hg => by first | exact Cell.app (Cell.here rfl) | exact Cell.there (Cell.app (Cell.here rfl)) | exact (Cell.app (Cell.here rfl)).any | exact Cell.lft (Cell.app (Cell.here rfl)) | (repeat (first | exact Cell.here rfl | apply Cell.there | apply Cell.app)))) rfl rfl rfl ?_
  refine zA ?_
  refine zN ?_
  refine X_ret ?_
  exact at_retMs (L := L ++ [(b_2, _)]) (ms := [bd]) (fun a ha w hw => res1 rfl rfl a ha w) (fun w hw => ⟨_, I1, L, rfl, hI1, hw.subL subL_left, xs, hfin, by rw [← hfin.length_eq, ← hq]; exact hO⟩)
 rintro cd bd pre I1 loc1 hI1 hF; exact hF.elim
theorem w_collectB {I : HMap} {f : Nat} {cap : List Value} {ks : List Br} (hF : Fun Tryz.prog f) (hseq : SeqG Tryz.prog f cap I [] encBrA (fun l => l.length ≤ ks.length) (fun l => l.Perm ks)) (hk9 : ks.length ≤ 100000) : RetM Tryz.prog 126 [.func (.func f) #[] cap.toArray] I [] ((fun v I' L => ∃ zs : List Br, zs.Perm ks ∧ OwnS 91 3 v ks.length (zs.flatMap encBr) L)) := by
 intro g H w hw
 refine enter Tryz.func126 rfl Tryz.ntmps126 rfl hw ?_
 have hIc := HLe.refl I
 refine zR ?_
 refine zA ?_
 refine zN (zR ?_)
 refine zM ?_
 refine XO_callM (cap := []) (vs := [_, _]) rfl rfl fun_145 .nil (w_appendSeqB hF hseq hk9) rfl rfl ?_
 rintro vv1 I1 L1 hI1 ⟨zs, hz, hO⟩
 have hIc := hIc.trans hI1
 rw [List.append_nil]
 refine zA ?_
 refine zN ?_
 refine X_ret ?_
 exact at_ret1 rfl rfl (fun w hw => ⟨_, _, _, rfl, hIc, hw, zs, hz, hO⟩)
end Go.Proofs.YtehkiccapbkhnaaGreat
end
section
namespace Go.Kn
open Go
section
variable {C : Cx} {E : Env} {I : HMap} {loc : Loc} {S : GS} {dst : Option Tmp} {ty : TypeId} {pos : String} {af : Array Edge} {gd : Option (Nat × Bool)} {x y : Operand}
variable {α : Type} [DecidableEq α] {ek : α → Value} {a : α}
/-- A look-up of a number: 0 where there is none. -/
theorem ev_lookupI {m : List (α × Int)} {t k e r : Nat} {ik : IntKind} (hT : MpT C.P t k e (.int ik 0)) (hK : KeyOK C.P k ek) (hx : evalS S E x = some (.map (some r))) (hy : evalS S E y = some (ek a)) (hm : conj S = true → Mem I loc r (mapO ek (Value.int ik) m)) :
    EvalOp C S E I loc ⟨dst, .lookup t x y false, ty, pos, af, gd⟩ (.int ik ((mget m a).getD 0)) := by
  have := ev_lookup (C := C) (S := S) (dst := dst) (ty := ty) (pos := pos) (af := af) (gd := gd) hT hK hx hy hm
  cases h : mget m a with
  | none => rw [h] at this; exact this
  | some b => rw [h] at this; exact this
end
def ImmC (I : HMap) (b : Nat) (o : Obj) : Prop := I b = some o
theorem ImmC.of {I : HMap} {b : Nat} {o : Obj} (h : I b = some o) : ImmC I b o := h
theorem ImmC.mono {I I' : HMap} {b : Nat} {o : Obj} (h : ImmC I b o) (hI : HLe I I') : ImmC I' b o := hI _ _ h
theorem Cells.immC {I : HMap} {loc : Loc} {b : Nat} {vs : List Value} {t : TypeId} {fz : Nat × Nat} (h : ImmC I b (.cells vs.toArray t fz)) : Cells I loc b 0 vs := fun j u hu => Cell.imm h (by rw [Nat.zero_add, lget_eq]; simpa using hu)
end Go.Kn
namespace Go.Proofs.YtehkiccapbkhnaaGreat
open Go Go.Kn Go.Proofs
structure SetI {α : Type} (ks : List α) (P : α → Prop) : Prop where
  nd : ks.Nodup
  is : ∀ b, b ∈ ks ↔ P b
theorem SetI.congr {α : Type} {ks : List α} {P Q : α → Prop} (h : SetI ks P) (e : ∀ b, P b ↔ Q b) : SetI ks Q := ⟨h.nd, fun b => (h.is b).trans (e b)⟩
theorem SetI.nil {α : Type} {P : α → Prop} (h : ∀ b, ¬ P b) : SetI ([] : List α) P := ⟨List.nodup_nil, fun b => ⟨(fun g => by cases g), fun g => (h b g).elim⟩⟩
theorem SetI.put {α : Type} [DecidableEq α] {ks : List α} {P Q : α → Prop} (h : SetI ks P) {a : α} (e : ∀ b, (P b ∨ b = a) ↔ Q b) : SetI (insS ks a) Q := ⟨insS_nodup h.nd, fun b => by rw [mem_insS, h.is]; exact e b⟩
/-! ### Needs -/
def NdK (c : Cr) (pl : List Int) (k : Nat) (b : Br) : Prop := b.r = 1 ∧ ∃ q ∈ (pl.zip c.ss).take k, q.1 = b.d ∧ b.w ∈ q.2.needs ∧ pl.getD b.w.toNat 0 ≥ b.d
def NdJ (c : Cr) (pl : List Int) (k : Nat) (d : Int) (s : Ses) (j : Nat) (b : Br) : Prop := NdK c pl k b ∨ (b.r = 1 ∧ b.d = d ∧ b.w ∈ s.needs.take j ∧ pl.getD b.w.toNat 0 ≥ d)
theorem ndK_0 {c : Cr} {pl : List Int} (b : Br) : ¬ NdK c pl 0 b := by rintro ⟨_, q, hq, _⟩; simp at hq
theorem ndJ_0 {c : Cr} {pl : List Int} {k : Nat} {d : Int} {s : Ses} (b : Br) : NdK c pl k b ↔ NdJ c pl k d s 0 b := by unfold NdJ; simp
theorem ndJ_end {c : Cr} {pl : List Int} {k j : Nat} {d : Int} {s : Ses} (h : pl[k]? = some d) (hs : c.ss[k]? = some s) (hj : s.needs.length ≤ j) (b : Br) : NdJ c pl k d s j b ↔ NdK c pl (k + 1) b := by
  unfold NdJ NdK
  rw [List.take_of_length_le hj, List.take_add_one, show (pl.zip c.ss)[k]? = some (d, s) from List.getElem?_zip_eq_some.2 ⟨h, hs⟩]
  simp only [Option.toList_some, List.mem_append, List.mem_singleton]
  constructor
  · rintro (⟨h1, q, hq, h2⟩ | ⟨h1, h2, h3, h4⟩)
    · exact ⟨h1, q, .inl hq, h2⟩
    · exact ⟨h1, (d, s), .inr rfl, h2.symm, h3, by rw [h2]; exact h4⟩
  · rintro ⟨h1, q, hq | rfl, h2⟩
    · exact .inl ⟨h1, q, hq, h2⟩
    · have e : d = b.d := h2.1
      exact .inr ⟨h1, e.symm, h2.2.1, by rw [e]; exact h2.2.2⟩
theorem ndJ_yes {c : Cr} {pl : List Int} {k j : Nat} {d n : Int} {s : Ses} (hn : s.needs[j]? = some n) (h : pl.getD n.toNat 0 ≥ d) (b : Br) : (NdJ c pl k d s j b ∨ b = ⟨1, d, n⟩) ↔ NdJ c pl k d s (j + 1) b := by
  unfold NdJ
  rw [List.take_add_one, hn]
  simp only [Option.toList_some, List.mem_append, List.mem_singleton]
  constructor
  · rintro ((h1 | ⟨h1, h2, h3, h4⟩) | rfl)
    · exact .inl h1
    · exact .inr ⟨h1, h2, .inl h3, h4⟩
    · exact .inr ⟨rfl, rfl, .inr rfl, h⟩
  · rintro (h1 | ⟨h1, h2, h3 | h3, h4⟩)
    · exact .inl (.inl h1)
    · exact .inl (.inr ⟨h1, h2, h3, h4⟩)
    · obtain ⟨r, e, w⟩ := b; simp only at h1 h2 h3; subst h1 h2 h3; exact .inr rfl
theorem ndJ_no {c : Cr} {pl : List Int} {k j : Nat} {d n : Int} {s : Ses} (hn : s.needs[j]? = some n) (h : ¬ pl.getD n.toNat 0 ≥ d) (b : Br) : NdJ c pl k d s j b ↔ NdJ c pl k d s (j + 1) b := by
  unfold NdJ
  rw [List.take_add_one, hn]
  simp only [Option.toList_some, List.mem_append, List.mem_singleton]
  constructor
  · rintro (h1 | ⟨h1, h2, h3, h4⟩)
    · exact .inl h1
    · exact .inr ⟨h1, h2, .inl h3, h4⟩
  · rintro (h1 | ⟨h1, h2, h3 | h3, h4⟩)
    · exact .inl h1
    · exact .inr ⟨h1, h2, h3, h4⟩
    · rw [h3] at h4; exact absurd h4 h
/-! ### Day by day -/
def InB (c : Cr) (pl : List Int) (k : Nat) (b : Br) : Prop := b ∈ brkL c pl ∧ (b.r = 1 ∨ b.d < (k : Int))
def InC (c : Cr) (pl : List Int) (k : Nat) (b : Br) : Prop := InB c pl k b ∨ (b = ⟨2, k, 0⟩ ∧ brk c pl b = true)
def SeenK (m : List (Int × Int)) (seen : List Nat) (p : Int) : Prop := ∃ i ∈ seen, ∃ q, m[i]? = some q ∧ q.1 = p
def InD (c : Cr) (pl : List Int) (k : Nat) (m : List (Int × Int)) (seen : List Nat) (b : Br) : Prop := InC c pl k b ∨ ((3 ≤ b.r ∧ b.r ≤ 5) ∧ b.d = (k : Int) ∧ SeenK m seen b.w ∧ brk c pl b = true)
def InE (c : Cr) (pl : List Int) (k : Nat) (m : List (Int × Int)) (seen : List Nat) (p : Int) (j : Int) (b : Br) : Prop := InD c pl k m seen b ∨ ((3 ≤ b.r ∧ b.r < 3 + j) ∧ b.d = (k : Int) ∧ b.w = p ∧ brk c pl b = true)
theorem ndK_all {c : Cr} (hc : rightF c = true) (h8 : c.ss.length ≤ 8) {pl : List Int} (hin : InR c pl) {k : Nat} (hk : pl.length ≤ k) (b : Br) : NdK c pl k b ↔ InB c pl 0 b := by
  unfold NdK InB
  rw [List.take_of_length_le (by rw [List.length_zip]; omega), mem_brkL]
  constructor
  · rintro ⟨h1, q, hq, h2, h3, h4⟩
    obtain ⟨i, g1, g2⟩ := mem_zip hq
    have hr := hin _ (List.mem_of_getElem? g1)
    have hn := (right_ses hc g2).needs _ h3
    have hi := (List.getElem?_eq_some_iff.1 g2).1
    refine ⟨⟨⟨⟨by omega, by omega⟩, by omega, by omega⟩, ?_⟩, .inl h1⟩
    unfold brk needF
    rw [if_pos h1]
    refine List.any_eq_true.2 ⟨q, hq, ?_⟩
    simp only [Bool.and_eq_true, beq_iff_eq, decide_eq_true_eq]
    exact ⟨⟨h2, cont_iff.2 h3⟩, h4⟩
  · rintro ⟨⟨⟨h1, h2, h3⟩, hb⟩, h4⟩
    have hr : b.r = 1 := by omega
    refine ⟨hr, ?_⟩
    unfold brk needF at hb
    rw [if_pos hr] at hb
    obtain ⟨q, hq, hp⟩ := List.any_eq_true.1 hb
    simp only [Bool.and_eq_true, beq_iff_eq, decide_eq_true_eq] at hp
    exact ⟨q, hq, hp.1.1, cont_iff.1 hp.1.2, hp.2⟩
theorem inB_all {c : Cr} {pl : List Int} {k : Nat} (hk : c.days.length ≤ k) (b : Br) : InB c pl k b ↔ b ∈ brkL c pl := by
  unfold InB
  constructor
  · exact fun h => h.1
  · intro h; have := (mem_brkL.1 h).1; exact ⟨h, .inr (by omega)⟩
theorem inC_yes {c : Cr} {pl : List Int} {k : Nat} (h : brk c pl ⟨2, k, 0⟩ = true) (b : Br) : (InB c pl k b ∨ b = ⟨2, k, 0⟩) ↔ InC c pl k b := by
  unfold InC
  constructor
  · rintro (h1 | rfl)
    · exact .inl h1
    · exact .inr ⟨rfl, h⟩
  · rintro (h1 | ⟨h1, _⟩)
    · exact .inl h1
    · exact .inr h1
theorem inC_no {c : Cr} {pl : List Int} {k : Nat} (h : brk c pl ⟨2, k, 0⟩ = false) (b : Br) : InB c pl k b ↔ InC c pl k b := by
  unfold InC
  constructor
  · exact .inl
  · rintro (h1 | ⟨rfl, h2⟩)
    · exact h1
    · rw [h] at h2; cases h2
theorem inD_0 {c : Cr} {pl : List Int} {k : Nat} {m : List (Int × Int)} (b : Br) : InC c pl k b ↔ InD c pl k m [] b := by
  unfold InD SeenK; simp
theorem inE_0 {c : Cr} {pl : List Int} {k : Nat} {m : List (Int × Int)} {seen : List Nat} {p : Int} (b : Br) : InD c pl k m seen b ↔ InE c pl k m seen p 0 b := by
  unfold InE
  constructor
  · exact .inl
  · rintro (h | ⟨h, _⟩)
    · exact h
    · omega
theorem inE_yes {c : Cr} {pl : List Int} {k : Nat} {m : List (Int × Int)} {seen : List Nat} {p r j j' : Int} (h1 : r = 3 + j) (h2 : j' = j + 1) (hj : 0 ≤ j) (h : brk c pl ⟨r, k, p⟩ = true) (b : Br) : (InE c pl k m seen p j b ∨ b = ⟨r, k, p⟩) ↔ InE c pl k m seen p j' b := by
  subst h1 h2
  unfold InE
  constructor
  · rintro ((h1 | ⟨h1, h2⟩) | rfl)
    · exact .inl h1
    · exact .inr ⟨by omega, h2⟩
    · exact .inr ⟨⟨by show 3 ≤ 3 + j; omega, by show 3 + j < 3 + (j + 1); omega⟩, rfl, rfl, h⟩
  · rintro (h1 | ⟨h1, h2, h3, h4⟩)
    · exact .inl (.inl h1)
    · by_cases e : b.r = 3 + j
      · obtain ⟨r, d, w⟩ := b; simp only at e h2 h3; subst e h2 h3; exact .inr rfl
      · exact .inl (.inr ⟨by omega, h2, h3, h4⟩)
theorem inE_no {c : Cr} {pl : List Int} {k : Nat} {m : List (Int × Int)} {seen : List Nat} {p r j j' : Int} (h1 : r = 3 + j) (h2 : j' = j + 1) (h : brk c pl ⟨r, k, p⟩ = false) (b : Br) : InE c pl k m seen p j b ↔ InE c pl k m seen p j' b := by
  subst h1 h2
  unfold InE
  constructor
  · rintro (h1 | ⟨h1, h2⟩)
    · exact .inl h1
    · exact .inr ⟨by omega, h2⟩
  · rintro (h1 | ⟨h1, h2, h3, h4⟩)
    · exact .inl h1
    · by_cases e : b.r = 3 + j
      · obtain ⟨r, d, w⟩ := b; simp only at e h2 h3; subst e h2 h3; rw [h] at h4; cases h4
      · exact .inr ⟨by omega, h2, h3, h4⟩
theorem inE_end {c : Cr} {pl : List Int} {k : Nat} {m : List (Int × Int)} {seen : List Nat} {i : Nat} {q : Int × Int} (hq : m[i]? = some q) (b : Br) : InE c pl k m seen q.1 3 b ↔ InD c pl k m (seen ++ [i]) b := by
  unfold InE InD
  have hs : SeenK m (seen ++ [i]) b.w ↔ SeenK m seen b.w ∨ b.w = q.1 := by
    unfold SeenK
    constructor
    · rintro ⟨x, hx, r, h1, h2⟩
      rcases List.mem_append.1 hx with hx | hx
      · exact .inl ⟨x, hx, r, h1, h2⟩
      · simp at hx; subst hx; rw [hq] at h1; cases h1; exact .inr h2.symm
    · rintro (⟨x, hx, r, h1, h2⟩ | h)
      · exact ⟨x, by simp [hx], r, h1, h2⟩
      · exact ⟨i, by simp, q, hq, h.symm⟩
  rw [hs]
  constructor
  · rintro ((h1 | ⟨h1, h2, h3, h4⟩) | ⟨h1, h2, h3, h4⟩)
    · exact .inl h1
    · exact .inr ⟨h1, h2, .inl h3, h4⟩
    · exact .inr ⟨by omega, h2, .inr h3, h4⟩
  · rintro (h1 | ⟨h1, h2, h3 | h3, h4⟩)
    · exact .inl (.inl h1)
    · exact .inl (.inr ⟨h1, h2, h3, h4⟩)
    · exact .inr ⟨by omega, h2, h3, h4⟩
/-- A day is done. -/
theorem inD_end {c : Cr} (hc : rightF c = true) {pl : List Int} (hin : InR c pl) {k : Nat} (hk : k < c.days.length) {seen : List Nat} (hall : ∀ (i : Nat) (p : Int × Int), (cntM (peoL c pl k))[i]? = some p → i ∈ seen) (b : Br) : InD c pl k (cntM (peoL c pl k)) seen b ↔ InB c pl (k + 1) b := by
  have hh := head_ok hc
  have hda := hh.da
  have hlo := hh.lo
  unfold InD InC InB
  constructor
  · rintro ((⟨h1, h2⟩ | ⟨rfl, h2⟩) | ⟨h1, h2, ⟨i, hi, q, hq, hq2⟩, h4⟩)
    · exact ⟨h1, by omega⟩
    · exact ⟨mem_brkL.2 ⟨⟨⟨by show (1 : Int) ≤ 2; omega, by show (2 : Int) ≤ 5; omega⟩, ⟨by show (0 : Int) ≤ k; omega, by show (k : Int) < c.days.length; omega⟩, by show (0 : Int) ≤ 0 ∧ (0 : Int) < 64; omega⟩, h2⟩, .inr (by show (k : Int) < ((k + 1 : Nat) : Int); omega)⟩
    · have hkey := (cntM_key _ _).1 (List.mem_map_of_mem (f := (·.1)) (List.mem_of_getElem? hq))
      obtain ⟨e, he, he2⟩ := cntE_pos.1 hkey
      obtain ⟨z, hz, g1, g2, g3⟩ := mem_peo.1 he
      obtain ⟨i', g4, g5⟩ := mem_zip hz
      have hw := (right_ses hc g5).who _ g2
      rw [he2, hq2] at hw
      exact ⟨mem_brkL.2 ⟨⟨by omega, by omega, by omega⟩, h4⟩, .inr (by omega)⟩
  · rintro ⟨h1, h2⟩
    by_cases e1 : b.r = 1 ∨ b.d < (k : Int)
    · exact .inl (.inl ⟨h1, e1⟩)
    · have hd : b.d = (k : Int) := by omega
      obtain ⟨⟨hr, hd2, hw⟩, hb⟩ := mem_brkL.1 h1
      by_cases e2 : b.r = 2
      · refine .inl (.inr ⟨?_, hb⟩)
        have hb' := hb
        unfold brk at hb'
        rw [if_neg (by omega), if_pos e2] at hb'
        simp only [Bool.and_eq_true, beq_iff_eq] at hb'
        obtain ⟨r, d, w⟩ := b
        simp only at e2 hd hb'
        rw [e2, hd, hb'.1]
      · refine .inr ⟨by omega, hd, ?_, hb⟩
        have hpos : 0 < cntE (peoL c pl k) b.w := by
          rw [(peo_cnt hc).1, ← hd]
          have hb' := hb
          unfold brk at hb'
          rw [if_neg (by omega), if_neg e2] at hb'
          split at hb'
          · simp only [decide_eq_true_eq] at hb'; omega
          split at hb'
          · simp only [decide_eq_true_eq] at hb'
            unfold cntF
            by_cases e : (onD c pl b.d).filter (fun s => s.who.contains b.w) = []
            · unfold effF at hb'; rw [e] at hb'; simp at hb'; omega
            · have := List.length_pos_iff.2 e; omega
          split at hb'
          · rw [run_rows hc, Bool.and_eq_true] at hb'
            rw [← (evs_cnt hc hin hd2).1]
            rw [← evs_busy] at hb'
            have := of_decide_eq_true hb'.1
            exact this
          · cases hb'
        have := (cntM_key _ _).2 hpos
        obtain ⟨q, hq, e⟩ := List.mem_map.1 this
        obtain ⟨i, hi⟩ := List.mem_iff_getElem?.1 hq
        exact ⟨i, hall i q hi, q, hi, e⟩
theorem brk_2 {c : Cr} {pl : List Int} {k : Int} : brk c pl ⟨2, k, 0⟩ = decide (manyF pl k > c.st) := by unfold brk; simp
theorem brk_3 {c : Cr} (hc : rightF c = true) {pl : List Int} {k p : Int} : brk c pl ⟨3, k, p⟩ = decide (cntE (peoL c pl k) p > c.da) := by rw [(peo_cnt hc).1]; unfold brk; simp
theorem brk_4 {c : Cr} (hc : rightF c = true) {pl : List Int} {k p : Int} : brk c pl ⟨4, k, p⟩ = decide (sumE (peoL c pl k) p > c.lo) := by rw [(peo_cnt hc).2]; unfold brk; simp
theorem brk_5 {c : Cr} (hc : rightF c = true) {pl : List Int} (hin : InR c pl) {k : Nat} (hk : k < c.days.length) {p row : Int} (hp : bsyK c pl (k + 1) p (dayF c k) = true) (h1 : 1 ≤ row) (h0 : ∀ j : Int, 1 ≤ j → j < row → bsyK c pl (k + 1) p (dayF c k - j) = true) (he : bsyK c pl (k + 1) p (dayF c k - row) = false) : brk c pl ⟨5, k, p⟩ = decide (row > c.ru) := by
  have e : brk c pl ⟨5, k, p⟩ = runF c pl k p := by unfold brk; simp
  have hb := bsyK_busy hc hin hk (p := p) (j := 0) (by omega)
  rw [Int.sub_zero, hp] at hb
  rw [e, run_rows hc, ← hb, Bool.true_and]
  refine (row_end (f := fun j => busyF c pl (dayF c k - j) p) (fun j g1 g2 => ?_) h1 ?_).symm
  · show busyF c pl (dayF c k - j) p = true
    rw [← bsyK_busy hc hin hk (by omega)]; exact h0 j g1 g2
  · show busyF c pl (dayF c k - row) p = false
    rw [← bsyK_busy hc hin hk (by omega)]; exact he
theorem peo_len {c : Cr} (h8 : c.ss.length ≤ 8) (hw : ∀ s ∈ c.ss, s.who.length ≤ 6) {pl : List Int} {d : Int} : (peoL c pl d).length ≤ 48 := by
  have key : ∀ zs : List (Int × Ses), (∀ q ∈ zs, q.2.who.length ≤ 6) → ((zs.filter fun q => q.1 == d).flatMap fun q => q.2.who.map fun p => (p, q.2.ef)).length ≤ 6 * zs.length := by
    intro zs
    induction zs with
    | nil => intro _; simp
    | cons q zs ih =>
      intro h
      have h1 := ih fun x hx => h x (by simp [hx])
      have h2 := h q (by simp)
      rw [List.filter_cons]
      split
      · simp only [List.flatMap_cons, List.length_append, List.length_map, List.length_cons]; omega
      · simp only [List.length_cons]; omega
  unfold peoL peoK
  rw [List.drop_zero]
  have := key (pl.zip c.ss) fun q hq => by obtain ⟨i, _, h2⟩ := mem_zip hq; exact hw _ (List.mem_of_getElem? h2)
  have h2 : (pl.zip c.ss).length ≤ 8 := by rw [List.length_zip]; omega
  omega
theorem peo_ef {c : Cr} (hc : rightF c = true) {pl : List Int} {d : Int} : ∀ e ∈ peoL c pl d, 0 ≤ e.2 ∧ e.2 ≤ 16 := fun e he => by
  obtain ⟨q, hq, _, _, h3⟩ := mem_peo.1 he
  obtain ⟨i, _, h2⟩ := mem_zip hq
  have := (right_ses hc h2).ef
  omega
theorem brkL_len {c : Cr} (h16 : c.days.length ≤ 16) (pl : List Int) : (brkL c pl).length ≤ 5120 := by
  unfold brkL
  refine Nat.le_trans (List.length_filter_le _ _) ?_
  unfold cands
  simp only [List.length_flatMap, List.length_map, List.length_range, List.map_cons, List.map_nil, List.sum_cons, List.sum_nil, List.map_const', List.sum_replicate_nat]
  omega
theorem many_le (pl : List Int) (d : Int) : 0 ≤ manyF pl d ∧ manyF pl d ≤ pl.length := by
  unfold manyF; have := List.length_filter_le (· == d) pl; omega
theorem bsy_of_cnt {c : Cr} {pl : List Int} {k : Nat} {p : Int} (h : 0 < cntE (peoL c pl k) p) : bsyK c pl (k + 1) p (dayF c k) = true := by
  rw [← bsyP_all]
  unfold bsyP
  obtain ⟨e, he, e2⟩ := cntE_pos.1 h
  rw [Bool.or_eq_true, Bool.and_eq_true]
  exact .inr ⟨by simp, List.any_eq_true.2 ⟨e, he, by simpa using e2⟩⟩
theorem set_len {ks ls : List Br} (hs : SetI ks (fun b => b ∈ ls)) (hl : ls.Nodup) : ks.length = ls.length := ((List.perm_ext_iff_of_nodup hs.nd hl).2 hs.is).length_eq
theorem brkL_nodup (c : Cr) (pl : List Int) : (brkL c pl).Nodup := (brkL_lt c pl).imp (S := (· ≠ ·)) fun h e => by subst e; exact ltB_irr _ h
end Go.Proofs.YtehkiccapbkhnaaGreat
end
section
namespace Go.Proofs.YtehkiccapbkhnaaGreat
open Go Go.Kn Go.Proofs
theorem fun_125 : Fun Tryz.prog 125 := .of Tryz.func125 (by kernel_rfl) (by kernel_rfl)
theorem fun_126 : Fun Tryz.prog 126 := .of Tryz.func126 (by kernel_rfl) (by kernel_rfl)
theorem fun_127 : Fun Tryz.prog 127 := .of Tryz.func127 (by kernel_rfl) (by kernel_rfl)
theorem fun_89 : Fun Tryz.prog 89 := .of Tryz.func89 (by kernel_rfl) (by kernel_rfl)
theorem fun_92 : Fun Tryz.prog 92 := .of Tryz.func92 (by kernel_rfl) (by kernel_rfl)
theorem w_sortB (zs : List Br) {v : Value} {n : Nat} {L : Go.Kn.Loc} (hO : OwnS 91 3 v n (zs.flatMap encBr) L) (hn : n ≤ 1000000) (I : HMap) :
  RetM Tryz.prog 127 [v, .func (.func 92) #[] #[]] I L (fun u I' L' => u = .tuple #[] ∧ I' = I ∧ ∃ zs' : List Br, zs'.Perm zs ∧ zs'.Pairwise (fun x y => ¬ cmpB y x < 0) ∧ OwnS 91 3 v n (zs'.flatMap encBr) L') :=
 (retSortK encBr_len (by decide) (fun blk off cap d w hC hH hb hs => Tryz.slices_SortFunc 3 (fun w => run_isAgg_ag agt_91) (fun w => by obtain ⟨i, hi, hz⟩ := szt_91; rw [← hz]; exact Go.Kn.run_sizeOf hi) encBr encBr_len (fun x => allOne_iff (by rfl)) cmpB swoB 92 #[] blk off cap d w (fun args w => run_callFunc fun_92 args w) hC hH hb hs)
  (Tryz.slices_SortFunc_none (α := Br)) (fun I x y => w_cmpB I x y) zs hO hn I).mono fun v I' L' hI ⟨h1, h2, zs', h3, h4, h5⟩ => ⟨h1, h2, zs', h3, h4.imp fun h => of_decide_eq_false h, h5⟩
theorem w_sortedB {I : HMap} {f : Nat} {cap : List Value} {ks : List Br} (hF : Fun Tryz.prog f) (hseq : SeqG Tryz.prog f cap I [] encBrA (fun l => l.length ≤ ks.length) (fun l => l.Perm ks)) (hk9 : ks.length ≤ 100000) : RetM Tryz.prog 90 [.func (.func f) #[] cap.toArray, .func (.func 92) #[] #[]] I [] ((fun v I' L => ∃ zs : List Br, zs.Perm ks ∧ zs.Pairwise (fun x y => ¬ cmpB y x < 0) ∧ OwnS 91 3 v ks.length (zs.flatMap encBr) L)) := by
 intro g H w hw
 refine enter Tryz.func90 rfl Tryz.ntmps90 rfl hw ?_
 have hIc := HLe.refl I
 refine zR ?_
 refine zA ?_
 refine zN (zR ?_)
 refine zM ?_
 refine XO_callM (cap := []) (vs := [_]) rfl rfl fun_126 .nil (w_collectB hF hseq hk9) rfl rfl ?_
 rintro vv1 I1 L1 hI1 ⟨zs, hz, hO⟩
 have hIc := hIc.trans hI1
 rw [List.append_nil]
 refine zA ?_
 refine zN (zR ?_)
 refine zM ?_
 refine zM ?_
 refine XO_callM (cap := []) (vs := [_, _]) rfl rfl fun_127 split_all (w_sortB zs hO (by omega) _) rfl rfl ?_
 rintro vv2 I2 L2 hI2 ⟨rfl, rfl, zs2, hz2, hp2, hO2⟩
 have hIc := hIc.trans hI2
 rw [List.append_nil]
 refine zN (zR ?_)
 refine zM ?_
 refine zA ?_
 refine zN ?_
 refine X_ret ?_
 exact at_ret1 rfl rfl (fun w hw => ⟨_, _, _, rfl, hIc, hw, zs2, hz2.trans hz, hp2, hO2⟩)
theorem w_people (I : HMap) (x : CH) (av : Option Addr) (n c : Nat) (d : Int) : RetM Tryz.prog 89 [encCHA x, .slice av n c, .int .i64 d] I [] (fun v I' L => L = [] ∧ ∃ b1 b2 b3, v = .func (.func 125) #[] [capP b1, capP b2, capP b3].toArray ∧ I' b1 = some (.cells #[.slice av n c] 23 (0, 0)) ∧ I' b2 = some (.cells #[.int .i64 d] 3 (0, 0)) ∧ I' b3 = some (.cells (encCH x).toArray 33 (0, 0))) := by
 intro g H w hw
 refine enter Tryz.func89 rfl Tryz.ntmps89 rfl hw ?_
 have hIc := HLe.refl I
 refine zR ?_
 refine XO_box rfl rfl rfl (fun b_3 => ?_)
 refine XO_box rfl rfl rfl (fun b_4 => ?_)
 refine XO_box rfl rfl rfl (fun b_5 => ?_)
 refine zA ?_
 refine zN ?_
 refine X_seq ?_
 refine X_freeze .here (fun I1 hI1 hb1 => ?_)
 have hIc := hIc.trans hI1
 have h2 := hb1
 refine X_freeze .here (fun I2 hI2 hb2 => ?_)
 have hIc := hIc.trans hI2
 have h1 := hb2
 have h2 := hI2 _ _ h2
 refine X_freeze .here (fun I3 hI3 hb3 => ?_)
 have hIc := hIc.trans hI3
 have h3 := hb3
 have h2 := hI3 _ _ h2
 have h1 := hI3 _ _ h1
 refine X_region ?_
 refine XO_v0 (ev_makeFunc (us := []) (vs := [_, _, _]) rfl rfl) rfl rfl rfl ?_
 refine zA ?_
 refine zN ?_
 refine X_ret ?_
 exact at_ret1 rfl rfl (fun w hw => ⟨_, I3, [], rfl, hIc, hw.drop, rfl, b_4, b_5, b_3, rfl, h1, h2, h3⟩)
theorem w_peopleIt {I : HMap} {x : CH} {cr : Cr} (hC : CrAt I x cr) {av : Option Addr} {n c : Nat} {pl : List Int} (hS : Sl I 1 encI av n c pl) (hn : n ≤ 100000) (hl : pl.length ≤ cr.ss.length) (hwh : ∀ s ∈ cr.ss, s.who.length ≤ 100000) {d : Int} {b1 b2 b3 : Nat} (h1 : I b1 = some (.cells #[.slice av n c] 23 (0, 0))) (h2 : I b2 = some (.cells #[.int .i64 d] 3 (0, 0))) (h3 : I b3 = some (.cells (encCH x).toArray 33 (0, 0))) : SeqL2 Tryz.prog 125 [capP b1, capP b2, capP b3] I [] en1P en2P (peoL cr pl d) := by
 intro g y J Jx hY I0 H w h0 hJ hw
 have hC := hC.mono h0; have hS := hS.mono h0
 have h1 := h0 _ _ h1
 have h2 := h0 _ _ h2
 have h3 := h0 _ _ h3
 refine enter Tryz.func125 rfl Tryz.ntmps125 rfl hw ?_
 have hlP := hS.len
 obtain ⟨hD, e1, e2, e3, e4, hss⟩ := id hC
 obtain ⟨hs, hH⟩ := hss
 have hSs := hH.1
 have hlD := hD.len
 have hlS := hH.len
 have hSs0 := hSs
 have hS0 := hS
 have hH0 := hH
 have h10 := h1
 have h20 := h2
 have h30 := h3
 refine zR ?_
 refine XO_v0 (ev_load rfl sct_23 (fun hg => by first | exact Cell.imm h1 rfl | exact Cell.imm h2 rfl | exact Cell.imm h3 rfl | exact Sl.get0 hS hx rfl | exact Sl.get hSs hy (j := 2) rfl | exact Sl.get hSs hy (j := 1) rfl | exact Sl.get0 hW hp rfl | (repeat (first | exact Cell.here rfl | apply Cell.there | apply Cell.app)))) rfl rfl rfl ?_
 refine XO_v0 (ev_lenS rfl slt_23) rfl rfl rfl ?_
 refine zM ?_
 refine zN ?_
 refine X_block ?_
 refine X_loopH (fun m E I' H' loc' => ∃ (k : Nat) (pre : List (Int × Int)), m = n - k ∧ E = [(0, .func (.yield y) #[] #[]), (1, capP b1), (2, capP b2), (3, capP b3), (9, .slice av n c), (10, .int .i64 n), (11, .int .i64 k)] ∧ loc' = [] ∧ HLe I0 I' ∧ k ≤ n ∧ J pre I' H' ∧ peoL cr pl d = pre ++ peoK cr pl d k) _ _ _ ⟨0, [], rfl, rfl, rfl, HLe.refl _, Nat.zero_le _, hJ, rfl⟩ (.cons rfl (.cons rfl (.cons rfl (.cons rfl (.cons rfl (.cons rfl (.cons rfl .nil))))))) rfl ?_
 rintro m E I' H' loc' ⟨k, pre, rfl, rfl, rfl, hI1, hk, hJk, hal⟩
 have hS := hS.mono hI1; have hSs := hSs.mono hI1; have hH := hH.mono hI1
 have h1 := hI1 _ _ h1
 have h2 := hI1 _ _ h2
 have h3 := hI1 _ _ h3
 have hI0 := h0.trans hI1
 refine zR ?_
 refine zC ?_
 refine zN ?_
 refine X_seq ?_
 refine X_cond rfl (fun hc12 => ?_) (fun hc12 => ?_)
 ·
  have hlt : k < n := by have h := hc12; simp at h; omega
  obtain ⟨x0, hx⟩ := hS.at hlt
  obtain ⟨z, s, hy, hy2, q1, q2, hW, hN⟩ := hH.at (show k < x.n2 by omega)
  have hzn := hwh s (List.mem_of_getElem? hy2)
  have hlZ := hW.len
  refine X_skip ?_
  refine at_then ?_
  refine X_seq ?_
  refine X_block ?_
  refine zR ?_
  refine zM ?_
  refine XO_v0 (ev_indexSl rfl rfl slt_23 (by assumption) (fun hg => by first | omega | (simp [conj] at hg; omega))) rfl rfl rfl ?_
  refine XO_v0 (ev_load rfl sct_3 (fun hg => by first | exact Cell.imm h1 rfl | exact Cell.imm h2 rfl | exact Cell.imm h3 rfl | exact Sl.get0 hS hx rfl | exact Sl.get hSs hy (j := 2) rfl | exact Sl.get hSs hy (j := 1) rfl | exact Sl.get0 hW hp rfl | (repeat (first | exact Cell.here rfl | apply Cell.there | apply Cell.app)))) rfl rfl rfl ?_
  refine zA ?_
  refine zA ?_
  refine zN ?_
  refine X_seq ?_
  refine zR ?_
  refine zM ?_
  refine XO_v0 (ev_load rfl sct_3 (fun hg => by first | exact Cell.imm h1 rfl | exact Cell.imm h2 rfl | exact Cell.imm h3 rfl | exact Sl.get0 hS hx rfl | exact Sl.get hSs hy (j := 2) rfl | exact Sl.get hSs hy (j := 1) rfl | exact Sl.get0 hW hp rfl | (repeat (first | exact Cell.here rfl | apply Cell.there | apply Cell.app)))) rfl rfl rfl ?_
  refine zC ?_
  refine zN ?_
  refine X_cond rfl (fun hc18 => ?_) (fun hc18 => ?_)
  ·
   have hne : x0 ≠ d := by simpa using hc18
   refine X_exit ?_
   refine at_then_e ?_
   refine at_block_hit ?_
   refine at_then ?_
   refine X_region ?_
   refine zB ?_
   refine zM ?_
   refine XO_nil ?_
   exact at_metH2 rfl rfl rfl _ [] ⟨n - (k + 1), by omega, k + 1, pre, rfl, rfl, rfl, hI1, by omega, hJk, by rw [hal, peo_skip hx hy2 hne]⟩ (.cons rfl (.cons rfl (.cons rfl (.cons rfl (.cons rfl (.cons rfl (.cons rfl .nil))))))) (by repeat (first | exact .refl | exact subL_nil | refine .drop ?_))
  have hne : x0 = d := by simpa using hc18
  refine X_skip ?_
  refine at_then ?_
  refine zR ?_
  refine XO_v0 (ev_fieldAddr rfl fld_33_5) rfl rfl rfl ?_
  refine XO_v0 (ev_load rfl sct_27 (fun hg => by first | exact Cell.imm h1 rfl | exact Cell.imm h2 rfl | exact Cell.imm h3 rfl | exact Sl.get0 hS hx rfl | exact Sl.get hSs hy (j := 2) rfl | exact Sl.get hSs hy (j := 1) rfl | exact Sl.get0 hW hp rfl | (repeat (first | exact Cell.here rfl | apply Cell.there | apply Cell.app)))) rfl rfl rfl ?_
  refine zM ?_
  refine XO_v0 (ev_indexSl rfl rfl slt_27 (by assumption) (fun hg => by first | omega | (simp [conj] at hg; omega))) rfl rfl rfl ?_
  refine XO_v0 (ev_fieldAddr rfl fld_58_2) rfl rfl rfl ?_
  refine XO_v0 (ev_load rfl sct_23 (fun hg => by first | exact Cell.imm h1 rfl | exact Cell.imm h2 rfl | exact Cell.imm h3 rfl | exact Sl.get0 hS hx rfl | exact Sl.get hSs hy (j := 2) rfl | exact Sl.get hSs hy (j := 1) rfl | exact Sl.get0 hW hp rfl | (repeat (first | exact Cell.here rfl | apply Cell.there | apply Cell.app)))) rfl rfl rfl ?_
  refine XO_v0 (ev_lenS rfl slt_23) rfl rfl rfl ?_
  refine zM ?_
  refine zN ?_
  refine X_block ?_
  refine X_loopH (fun m E I' H' loc' => ∃ (j : Nat) (pre : List (Int × Int)), m = z.n - j ∧ E = [(0, .func (.yield y) #[] #[]), (1, capP b1), (2, capP b2), (3, capP b3), (5, .int .i64 k), (9, .slice av n c), (10, .int .i64 n), (11, .int .i64 k), (24, .slice z.a z.n z.c), (25, .int .i64 z.n), (26, .int .i64 j)] ∧ loc' = [] ∧ HLe I0 I' ∧ j ≤ z.n ∧ J pre I' H' ∧ peoL cr pl d = pre ++ (((s.who.drop j).map fun p => (p, s.ef)) ++ peoK cr pl d (k + 1))) _ _ _ ⟨0, pre, rfl, rfl, rfl, hI1, Nat.zero_le _, hJk, by rw [hal, peo_in hx hy2 hne]⟩ (.cons rfl (.cons rfl (.cons rfl (.cons rfl (.cons rfl (.cons rfl (.cons rfl (.cons rfl (.cons rfl (.cons rfl (.cons rfl .nil))))))))))) rfl ?_
  rintro m E I' H' loc' ⟨j, pre2, rfl, rfl, rfl, hI1b, hj, hJk2, hal2⟩
  have hSs := hSs0.mono hI1b; have hS := hS0.mono hI1b; have hH := hH0.mono hI1b
  have hW := (hH.2.2 k z s hy hy2).2.2.1
  have h1 := hI1b _ _ h10
  have h2 := hI1b _ _ h20
  have h3 := hI1b _ _ h30
  have hI0 := h0.trans hI1b
  have hJk := hJk2
  refine zR ?_
  refine zC ?_
  refine zN ?_
  refine X_seq ?_
  refine X_cond rfl (fun hc27 => ?_) (fun hc27 => ?_)
  ·
   have hlt2 : j < z.n := by have h := hc27; simp at h; omega
   obtain ⟨pp, hp⟩ := hW.at hlt2
   have hpre2 := peo_pre (hal2.trans (by rw [who_step hp]))
   refine X_skip ?_
   refine at_then ?_
   refine X_seq ?_
   refine X_block ?_
   refine zR ?_
   refine XO_v0 (ev_indexSl rfl rfl slt_23 (by assumption) (fun hg => by first | omega | (simp [conj] at hg; omega))) rfl rfl rfl ?_
   refine XO_v0 (ev_load rfl sct_3 (fun hg => by first | exact Cell.imm h1 rfl | exact Cell.imm h2 rfl | exact Cell.imm h3 rfl | exact Sl.get0 hS hx rfl | exact Sl.get hSs hy (j := 2) rfl | exact Sl.get hSs hy (j := 1) rfl | exact Sl.get0 hW hp rfl | (repeat (first | exact Cell.here rfl | apply Cell.there | apply Cell.app)))) rfl rfl rfl ?_
   refine zA ?_
   refine zN (zR ?_)
   refine zM ?_
   refine zM ?_
   refine XO_v0 (ev_fieldAddr rfl fld_33_5) rfl rfl rfl ?_
   refine XO_v0 (ev_load rfl sct_27 (fun hg => by first | exact Cell.imm h1 rfl | exact Cell.imm h2 rfl | exact Cell.imm h3 rfl | exact Sl.get0 hS hx rfl | exact Sl.get hSs hy (j := 2) rfl | exact Sl.get hSs hy (j := 1) rfl | exact Sl.get0 hW hp rfl | (repeat (first | exact Cell.here rfl | apply Cell.there | apply Cell.app)))) rfl rfl rfl ?_
   refine zM ?_
   refine XO_v0 (ev_indexSl rfl rfl slt_27 (by assumption) (fun hg => by first | omega | (simp [conj] at hg; omega))) rfl rfl rfl ?_
   refine XO_v0 (ev_fieldAddr rfl fld_58_1) rfl rfl rfl ?_
   refine XO_v0 (ev_load rfl sct_3 (fun hg => by first | exact Cell.imm h1 rfl | exact Cell.imm h2 rfl | exact Cell.imm h3 rfl | exact Sl.get0 hS hx rfl | exact Sl.get hSs hy (j := 2) rfl | exact Sl.get hSs hy (j := 1) rfl | exact Sl.get0 hW hp rfl | (repeat (first | exact Cell.here rfl | apply Cell.there | apply Cell.app)))) rfl rfl rfl ?_
   refine XO_yield0 (vs := [_, _]) (Post := fun b I2 H2 => if b then J (pre2 ++ [(pp, s.ef)]) I2 H2 else Jx (pre2 ++ [(pp, s.ef)]) I2 H2) rfl rfl rfl rfl (by rw [q2]; exact hY pre2 (pp, s.ef) _ _ hpre2 hI0 hJk) ?_
   rintro t_38 I2 H2 hI2 hP2
   refine XO_v0 (ev_not rfl) rfl rfl rfl ?_
   refine zN ?_
   refine X_cond rfl (fun hc39 => ?_) (fun hc39 => ?_)
   ·
    have ht : t_38 = false := by simpa using hc39
    subst ht
    have hJ2 : Jx (pre2 ++ [(pp, s.ef)]) I2 H2 := hP2
    refine X_ret ?_
    refine at_block_r ?_
    refine at_then_r ?_
    refine at_then_r ?_
    refine at_block_r ?_
    refine at_block_r ?_
    refine at_then_r ?_
    refine at_then_r ?_
    refine at_block_r ?_
    exact at_ret0 rfl (fun w hw => ⟨_, I2, H2, rfl, hI1b.trans hI2, hw.drop, .inr ⟨_, hpre2, hJ2⟩⟩)
   have ht : t_38 = true := by simpa using hc39
   subst ht
   have hJ2 : J (pre2 ++ [(pp, s.ef)]) I2 H2 := hP2
   refine X_skip ?_
   refine at_block_n ?_
   refine at_then ?_
   refine X_region ?_
   refine zB ?_
   refine zM ?_
   refine XO_nil ?_
   exact at_metH2 rfl rfl rfl _ [] ⟨z.n - (j + 1), by omega, j + 1, pre2 ++ [(pp, s.ef)], rfl, rfl, rfl, hI1b.trans hI2, by omega, hJ2, by rw [hal2, who_step hp, List.append_assoc]; rfl⟩ (.cons rfl (.cons rfl (.cons rfl (.cons rfl (.cons rfl (.cons rfl (.cons rfl (.cons rfl (.cons rfl (.cons rfl (.cons rfl .nil))))))))))) (by repeat (first | exact .refl | exact subL_nil | refine .drop ?_))
  have hge2 : z.n ≤ j := by have h := hc27; simp at h; omega
  have hlW := hW.len
  refine X_exit ?_
  refine at_then_e ?_
  refine at_then_e ?_
  refine at_block_hit ?_
  refine at_block_n ?_
  refine at_then ?_
  refine X_region ?_
  refine zB ?_
  refine zM ?_
  refine XO_nil ?_
  exact at_metH2 rfl rfl rfl _ [] ⟨n - (k + 1), by omega, k + 1, pre2, rfl, rfl, rfl, hI1b, by omega, hJk2, by rw [hal2, who_end (by omega)]⟩ (.cons rfl (.cons rfl (.cons rfl (.cons rfl (.cons rfl (.cons rfl (.cons rfl .nil))))))) (by repeat (first | exact .refl | exact subL_nil | refine .drop ?_))
 have hge : n ≤ k := by have h := hc12; simp at h; omega
 refine X_exit ?_
 refine at_then_e ?_
 refine at_then_e ?_
 refine at_block_hit ?_
 first
 | exact at_norm (at_ret0 rfl (fun w hw => ⟨_, I', H', rfl, hI1, hw, .inl (by rw [hal, peo_end (by omega), List.append_nil]; exact hJk)⟩))
end Go.Proofs.YtehkiccapbkhnaaGreat
end
section
namespace Go
def Exit.straight (Q : Exit → Act → World → Prop) : Exit → Act → World → Prop
  | .goto _, _, _ => False
  | .normal, a, w => Q .normal a w
  | .exit i, a, w => Q (.exit i) a w
  | .ret, a, w => Q .ret a w
  | .panic c, a, w => Q (.panic c) a w
  | .outgrown, a, w => Q .outgrown a w
section
variable {P : Program} {F : Fence} {n : Nat} {b : Frame} {a : Act} {k : List Item} {cs : List Frame} {w : World} {Q : Exit → Act → World → Prop}
theorem stepR_scope {c : Code} : step P (lone (b.atR a (.code (.scope c) :: k)) cs w) = .next (lone (b.atR a (.code c :: .inScope c :: k)) cs w) :=
  step_lone_go (by simp [stepG, stepG.exec, Frame.atR])
theorem stepR_inScope {c : Code} : step P (lone (b.atR a (.inScope c :: k)) cs w) = .next (lone (b.atR a k) cs w) :=
  step_lone_go (by simp [stepG, stepG.exec, Frame.atR])
theorem wpIn_scope_straight {c : Code} (h : c.wpIn F n P (Exit.straight Q) a w) : (Code.scope c).wpIn F n P Q a w := by
  intro b k cs hro hb hr
  have h0 : (lone (b.atR a (.code (.scope c) :: k)) cs w).fenced P F := fenced_calm hb hr rfl
  obtain ⟨e, a₁, w₁, hq, harr⟩ := h b (.inScope c :: k) cs hro hb hr
  cases e with
  | normal => exact ⟨.normal, a₁, w₁, hq, .head h0 stepR_scope (StepsIn.trans harr (.one (fenced_calm hb hr rfl) stepR_inScope))⟩
  | exit id =>
    have hx : exitTo id (.inScope c :: k) = exitTo id k := by simp [exitTo]
    exact ⟨_, a₁, w₁, hq, fun k' hk => .head h0 stepR_scope (harr.1 k' (by rw [hx]; exact hk)),
      fun hr' hk => let ⟨k₁, h1, h2⟩ := harr.2 hr' (by rw [hx]; exact hk); ⟨k₁, h1, .head h0 stepR_scope h2⟩⟩
  | goto l => exact hq.elim
  | ret => exact ⟨_, a₁, w₁, hq, .of_steps (.one h0 stepR_scope) harr⟩
  | panic ch => exact ⟨_, a₁, w₁, hq, .of_steps (.one h0 stepR_scope) harr⟩
  | outgrown => exact ⟨_, a₁, w₁, hq, .of_steps (.one h0 stepR_scope) harr⟩
end
end Go
namespace Go.Kn
open Go
section
variable {C : Cx} {Q : Exit → Act → World → Prop} {E : Env} {I : HMap} {loc : Loc}
theorem X_scope {c : Code} (h : X C (Exit.straight Q) c E I loc) : X C Q (.scope c) E I loc := fun a w ha hw => wpIn_scope_straight (h a w ha hw)
theorem X_label {l : Nat} (h : At C Q .normal E I loc) : X C Q (.label l) E I loc := fun a w ha hw => wpIn_label (h a w ha hw)
theorem at_scope_r (h : At C Q .ret E I loc) : At C (Exit.straight Q) .ret E I loc := h
theorem at_locEq {e : Exit} {loc' : Loc} (h : loc = loc') (hx : At C Q e E I loc') : At C Q e E I loc := h ▸ hx
variable {S : GS} {dst : Option Nat} {ty : TypeId} {pos : String} {af : Array Edge} {gd : Option (Nat × Bool)} {x y : Operand}
end
end Go.Kn
end
section
namespace Go.Proofs.YtehkiccapbkhnaaGreat
open Go Go.Kn Go.Proofs
theorem fun_90 : Fun Tryz.prog 90 := .of Tryz.func90 (by kernel_rfl) (by kernel_rfl)
theorem fun_91 : Fun Tryz.prog 91 := .of Tryz.func91 (by kernel_rfl) (by kernel_rfl)
theorem mpt_131 : MpT Tryz.prog 131 3 56 (.map none) := ⟨by kernel_rfl, .of (by kernel_rfl)⟩
theorem mpt_56 : MpT Tryz.prog 56 3 4 (.bool false) := ⟨by kernel_rfl, .of (by kernel_rfl)⟩
theorem plt_91 : PlT Tryz.prog 91 #[(0, 1), (1, 1), (2, 1)] (.agg #[(.int .i64 0), (.int .i64 0), (.int .i64 0)]) := ⟨.of (by kernel_rfl), by kernel_rfl, fun w => by kernel_rfl⟩
theorem sct_131 : ScT Tryz.prog 131 := .of (by kernel_rfl)
theorem sct_79 : ScT Tryz.prog 79 := .of (by kernel_rfl)
theorem szt_131 : SzT Tryz.prog 131 1 := .of (by kernel_rfl)
theorem szt_79 : SzT Tryz.prog 79 1 := .of (by kernel_rfl)
theorem und_56 : Tryz.prog.underlying 56 = some (.map 3 4) := by kernel_rfl
theorem zt_131 : ZeroT Tryz.prog 131 (.map none) := .of (by kernel_rfl)
theorem zt_3 : ZeroT Tryz.prog 3 (.int .i64 0) := .of (by kernel_rfl)
theorem zt_79 : ZeroT Tryz.prog 79 (.map none) := .of (by kernel_rfl)
theorem w_broken {I : HMap} {x : CH} {cr : Cr} (hC : CrAt I x cr) (hr : rightF cr = true) (h16 : cr.days.length ≤ 16) (h8 : cr.ss.length ≤ 8) (hwh : ∀ s ∈ cr.ss, s.who.length ≤ 6) (hnd : ∀ s ∈ cr.ss, s.needs.length ≤ 100000) {av : Option Addr} {n c : Nat} {pl : List Int} (hS : Sl I 1 encI av n c pl) (hl : pl.length ≤ cr.ss.length) (hin : InR cr pl) : RetM Tryz.prog 55 [encCHA x, .slice av n c] I [] (SlRes 3 encBr (brkL cr pl)) := by
 intro g H w hw
 refine enterMs Tryz.func55 rfl Tryz.ntmps55 rfl hw ?_
 have hIc := HLe.refl I
 obtain ⟨hD, e1, e2, e3, e4, hss⟩ := id hC
 obtain ⟨hs, hH⟩ := hss
 have hSs := hH.1
 have hlD := hD.len
 have hlS := hH.len
 have hlP := hS.len
 have hn : n ≤ 100000 := by omega
 refine zR ?_
 refine XO_box rfl rfl rfl (fun b_2 => ?_)
 refine zA ?_
 refine zN ?_
 refine X_seq ?_
 refine X_freeze .here (fun I1 hI1 hb1 => ?_)
 have hC := hC.mono hI1; have hS := hS.mono hI1; have hSs := hSs.mono hI1; have hD := hD.mono hI1; have hH := hH.mono hI1; have hIc := hIc.trans hI1
 have h2 := ImmC.of hb1
 refine X_region ?_
 refine XO_makeMap rfl rfl (fun r_23 => ?_)
 refine zA ?_
 refine zN ?_
 refine X_seq ?_
 refine zR ?_
 refine zM ?_
 refine XO_v0 (ev_lenS rfl slt_23) rfl rfl rfl ?_
 refine zM ?_
 refine zN ?_
 refine X_block ?_
 refine X_loopM [(1, _), (2, _), (5, _), (24, _), (25, _)] (.cons rfl (.cons rfl (.cons rfl (.cons rfl (.cons rfl .nil))))) (fun T L0 mz ms E I' loc' => ∃ (k : Nat) (ks : List Br), mz = n - k ∧ E = (26, .int .i64 k) :: T ∧ I1 = I' ∧ (r_23, mapO encBrA Value.bool (kmap ks)) :: MB ms = loc' ∧ k ≤ n ∧ SetI ks (NdK cr pl k)) _ _ _ _ ⟨0, [], rfl, rfl, rfl, rfl, Nat.zero_le _, SetI.nil ndK_0⟩ (.cons rfl (.cons rfl (.cons rfl (.cons rfl (.cons rfl (.cons rfl .nil)))))) (HLe.refl _) rfl ?_
 rintro mz ms E I' loc' ⟨k, ks, rfl, rfl, rfl, rfl, hk, hK⟩
 refine zR ?_
 refine zC ?_
 refine zN ?_
 refine X_seq ?_
 refine X_cond rfl (fun hc27 => ?_) (fun hc27 => ?_)
 ·
  have hlt_k : k < n := by have h := hc27; simp at h; omega
  obtain ⟨d0, hx⟩ := hS.at hlt_k
  obtain ⟨z, s, hy, hy2, q1, q2, hW, hN⟩ := hH.at (show k < x.n2 by omega)
  have hlN := hN.len
  have hnn := hnd s (List.mem_of_getElem? hy2)
  refine X_skip ?_
  refine at_then ?_
  refine X_seq ?_
  refine X_block ?_
  refine zR ?_
  refine zM ?_
  refine XO_v0 (ev_indexSl rfl rfl slt_23 (by assumption) (fun hg => by first | omega | (simp [conj] at hg; omega))) rfl rfl rfl ?_
  refine XO_v0 (ev_load rfl sct_3 (fun hg => by first | exact Cell.imm h2 rfl | exact Cell.imm h10 rfl | exact Cell.imm h12 rfl | exact Cell.imm h13 rfl | exact Cell.imm h14 rfl | exact Sl.get0 hS hx rfl | exact Sl.get0 hS hw0 rfl | exact Sl.get hSs hy (j := 3) rfl | exact Sl.get0 hN hp rfl | exact Sl.get0 hD hdt rfl | (repeat (first | exact Cell.here rfl | apply Cell.there | apply Cell.app)))) rfl rfl rfl ?_
  refine zA ?_
  refine zA ?_
  refine zN (zR ?_)
  refine XO_v0 (ev_fieldAddr rfl fld_33_5) rfl rfl rfl ?_
  refine XO_v0 (ev_load rfl sct_27 (fun hg => by first | exact Cell.imm h2 rfl | exact Cell.imm h10 rfl | exact Cell.imm h12 rfl | exact Cell.imm h13 rfl | exact Cell.imm h14 rfl | exact Sl.get0 hS hx rfl | exact Sl.get0 hS hw0 rfl | exact Sl.get hSs hy (j := 3) rfl | exact Sl.get0 hN hp rfl | exact Sl.get0 hD hdt rfl | (repeat (first | exact Cell.here rfl | apply Cell.there | apply Cell.app)))) rfl rfl rfl ?_
  refine zM ?_
  refine XO_v0 (ev_indexSl rfl rfl slt_27 (by assumption) (fun hg => by first | omega | (simp [conj] at hg; omega))) rfl rfl rfl ?_
  refine XO_v0 (ev_fieldAddr rfl fld_58_3) rfl rfl rfl ?_
  refine XO_v0 (ev_load rfl sct_23 (fun hg => by first | exact Cell.imm h2 rfl | exact Cell.imm h10 rfl | exact Cell.imm h12 rfl | exact Cell.imm h13 rfl | exact Cell.imm h14 rfl | exact Sl.get0 hS hx rfl | exact Sl.get0 hS hw0 rfl | exact Sl.get hSs hy (j := 3) rfl | exact Sl.get0 hN hp rfl | exact Sl.get0 hD hdt rfl | (repeat (first | exact Cell.here rfl | apply Cell.there | apply Cell.app)))) rfl rfl rfl ?_
  refine XO_v0 (ev_lenS rfl slt_23) rfl rfl rfl ?_
  refine zM ?_
  refine zN ?_
  refine X_block ?_
  refine X_loopM [(1, _), (2, _), (5, _), (7, _), (24, _), (25, _), (26, _), (36, _), (37, _)] (.cons rfl (.cons rfl (.cons rfl (.cons rfl (.cons rfl (.cons rfl (.cons rfl (.cons rfl (.cons rfl .nil))))))))) (fun T L0 mz ms E I' loc' => ∃ (j : Nat) (ks2 : List Br), mz = z.n2 - j ∧ E = (38, .int .i64 j) :: T ∧ I1 = I' ∧ (r_23, mapO encBrA Value.bool (kmap ks2)) :: MB ms = loc' ∧ j ≤ z.n2 ∧ SetI ks2 (NdJ cr pl k d0 s j)) _ _ _ _ ⟨0, ks, rfl, rfl, rfl, rfl, Nat.zero_le _, hK.congr ndJ_0⟩ (.cons rfl (.cons rfl (.cons rfl (.cons rfl (.cons rfl (.cons rfl (.cons rfl (.cons rfl (.cons rfl (.cons rfl .nil)))))))))) (HLe.refl _) rfl ?_
  rintro mz ms E I' loc' ⟨j, ks2, rfl, rfl, rfl, rfl, hj, hK2⟩
  refine zR ?_
  refine zC ?_
  refine zN ?_
  refine X_seq ?_
  refine X_cond rfl (fun hc39 => ?_) (fun hc39 => ?_)
  ·
   have hlt_j : j < z.n2 := by have h := hc39; simp at h; omega
   obtain ⟨kk, hp⟩ := hN.at hlt_j
   have hkr := (right_ses hr hy2).needs kk (List.mem_of_getElem? hp)
   obtain ⟨w0, hw0⟩ := hS.at (show kk.toNat < n by omega)
   have hgd : pl.getD kk.toNat 0 = w0 := by rw [List.getD_eq_getElem?_getD, hw0]; rfl
   refine X_skip ?_
   refine at_then ?_
   refine X_seq ?_
   refine X_block ?_
   refine zR ?_
   refine XO_v0 (ev_indexSl rfl rfl slt_23 (by assumption) (fun hg => by first | omega | (simp [conj] at hg; omega))) rfl rfl rfl ?_
   refine XO_v0 (ev_load rfl sct_3 (fun hg => by first | exact Cell.imm h2 rfl | exact Cell.imm h10 rfl | exact Cell.imm h12 rfl | exact Cell.imm h13 rfl | exact Cell.imm h14 rfl | exact Sl.get0 hS hx rfl | exact Sl.get0 hS hw0 rfl | exact Sl.get hSs hy (j := 3) rfl | exact Sl.get0 hN hp rfl | exact Sl.get0 hD hdt rfl | (repeat (first | exact Cell.here rfl | apply Cell.there | apply Cell.app)))) rfl rfl rfl ?_
   refine zA ?_
   refine zN (zR ?_)
   refine zM ?_
   refine zM ?_
   refine XO_v0 (ev_indexSl rfl rfl slt_23 (by assumption) (fun hg => by first | omega | (simp [conj] at hg; omega))) rfl rfl rfl ?_
   refine XO_v0 (ev_load rfl sct_3 (fun hg => by first | exact Cell.imm h2 rfl | exact Cell.imm h10 rfl | exact Cell.imm h12 rfl | exact Cell.imm h13 rfl | exact Cell.imm h14 rfl | exact Sl.get0 hS hx rfl | exact Sl.get0 hS hw0 rfl | exact Sl.get hSs hy (j := 3) rfl | exact Sl.get0 hN hp rfl | exact Sl.get0 hD hdt rfl | (repeat (first | exact Cell.here rfl | apply Cell.there | apply Cell.app)))) rfl rfl rfl ?_
   refine zM ?_
   refine zC ?_
   refine zN ?_
   refine X_cond rfl (fun hc47 => ?_) (fun hc47 => ?_)
   ·
    have hge9 : pl.getD kk.toNat 0 ≥ d0 := by rw [hgd]; simpa using hc47
    refine X_region ?_
    refine zM ?_
    refine zM ?_
    refine zM ?_
    refine XO_v0 (ev_buildL (ps := [(0, _), (1, _), (2, _)]) [_, _, _] plt_91 rfl rfl) rfl rfl rfl ?_
    refine XO_mapUpdate (m := kmap ks2) (ek := encBrA) (ev := Value.bool) (a := ⟨1, d0, kk⟩) true mpt_130 key_91 rfl rfl rfl rfl (by first | exact dL_upd hd2.nd hr2 | exact Upd.u0 | exact Upd.u1 | exact Upd.u2 | exact Upd.u3 | exact Upd.u4 | exact Upd.u5 | (repeat (first | exact Upd.here | apply Upd.there | apply upd_app))) ?_
    rw [mset_kmap]
    refine XO_nil ?_
    refine at_block_n ?_
    refine at_then ?_
    refine X_region ?_
    refine zB ?_
    refine zM ?_
    refine XO_nil ?_
    exact at_metM rfl rfl rfl _ _ ⟨z.n2 - (j + 1), by omega, j + 1, _, rfl, rfl, rfl, rfl, by omega, hK2.put (ndJ_yes hp hge9)⟩ (.cons rfl (.cons rfl (.cons rfl (.cons rfl (.cons rfl (.cons rfl (.cons rfl (.cons rfl (.cons rfl (.cons rfl .nil)))))))))) (by repeat (first | exact .refl | exact subL_left | refine subL_app ?_ | refine .drop ?_ | refine subL_add ?_))
   have hge9 : ¬ pl.getD kk.toNat 0 ≥ d0 := by rw [hgd]; simpa using hc47
   refine X_skip ?_
   refine at_block_n ?_
   refine at_then ?_
   refine X_region ?_
   refine zB ?_
   refine zM ?_
   refine XO_nil ?_
   exact at_metM rfl rfl rfl _ _ ⟨z.n2 - (j + 1), by omega, j + 1, _, rfl, rfl, rfl, rfl, by omega, hK2.congr (ndJ_no hp hge9)⟩ (.cons rfl (.cons rfl (.cons rfl (.cons rfl (.cons rfl (.cons rfl (.cons rfl (.cons rfl (.cons rfl (.cons rfl .nil)))))))))) (by repeat (first | exact .refl | exact subL_left | refine subL_app ?_ | refine .drop ?_ | refine subL_add ?_))
  have hge_j : z.n2 ≤ j := by have h := hc39; simp at h; omega
  refine X_exit ?_
  refine at_then_e ?_
  refine at_then_e ?_
  refine at_block_hit ?_
  refine at_block_n ?_
  refine at_then ?_
  refine X_region ?_
  refine zB ?_
  refine zM ?_
  refine XO_nil ?_
  exact at_metM rfl rfl rfl _ _ ⟨n - (k + 1), by omega, k + 1, _, rfl, rfl, rfl, rfl, by omega, hK2.congr (ndJ_end hx hy2 (by omega))⟩ (.cons rfl (.cons rfl (.cons rfl (.cons rfl (.cons rfl (.cons rfl .nil)))))) (by repeat (first | exact .refl | exact subL_left | refine subL_app ?_ | refine .drop ?_ | refine subL_add ?_))
 have hge_k : n ≤ k := by have h := hc27; simp at h; omega
 have hB0 := hK.congr (ndK_all hr h8 hin (by omega))
 refine X_exit ?_
 refine at_then_e ?_
 refine at_then_e ?_
 refine at_block_hit ?_
 refine at_then ?_
 refine zR ?_
 refine XO_makeMap rfl rfl (fun r_54 => ?_)
 refine XO_alloc zt_131 rfl rfl (fun b_10 => ?_)
 refine XO_store rfl rfl szt_131 rfl rfl (by first | exact dL_upd hd2.nd hr2 | exact Upd.u0 | exact Upd.u1 | exact Upd.u2 | exact Upd.u3 | exact Upd.u4 | exact Upd.u5 | (repeat (first | exact Upd.here | apply Upd.there | apply upd_app))) rfl ?_
 refine zN ?_
 refine X_seq ?_
 refine X_seq ?_
 refine X_freeze .here (fun I4 hI4 hb4 => ?_)
 have hC := hC.mono hI4; have hS := hS.mono hI4; have hSs := hSs.mono hI4; have hD := hD.mono hI4; have hH := hH.mono hI4; have h2 := h2.mono hI4; have hIc := hIc.trans hI4
 have h10 := ImmC.of hb4
 refine X_region ?_
 refine XO_v0 (ev_fieldAddr rfl fld_33_0) rfl rfl rfl ?_
 refine XO_v0 (ev_load rfl sct_23 (fun hg => by first | exact Cell.imm h2 rfl | exact Cell.imm h10 rfl | exact Cell.imm h12 rfl | exact Cell.imm h13 rfl | exact Cell.imm h14 rfl | exact Sl.get0 hS hx rfl | exact Sl.get0 hS hw0 rfl | exact Sl.get hSs hy (j := 3) rfl | exact Sl.get0 hN hp rfl | exact Sl.get0 hD hdt rfl | (repeat (first | exact Cell.here rfl | apply Cell.there | apply Cell.app)))) rfl rfl rfl ?_
 refine XO_v0 (ev_lenS rfl slt_23) rfl rfl rfl ?_
 refine zM ?_
 refine zN ?_
 refine X_block ?_
 refine X_loopM [(1, _), (2, _), (5, _), (10, _), (56, _), (57, _)] (.cons rfl (.cons rfl (.cons rfl (.cons rfl (.cons rfl (.cons rfl .nil)))))) (fun T L0 mz ms E I' loc' => ∃ (d : Nat) (ks : List Br) (dm : List (Int × Nat)) (f : Int → List (Int × Bool)), mz = x.n - d ∧ E = (58, .int .i64 d) :: T ∧ HLe I4 I' ∧ dL dm f ++ ((r_54, mapO (Value.int .i64) mapV dm) :: (r_23, mapO encBrA Value.bool (kmap ks)) :: MB ms) = loc' ∧ d ≤ x.n ∧ SetI ks (InB cr pl d) ∧ DOK dm f (bsyK cr pl d)) _ _ _ _ ⟨0, ks, [], fun _ => [], rfl, rfl, HLe.refl _, rfl, Nat.zero_le _, hB0, DOK.nil (bsyK_0 hin)⟩ (.cons rfl (.cons rfl (.cons rfl (.cons rfl (.cons rfl (.cons rfl (.cons rfl .nil))))))) (HLe.refl _) rfl ?_
 rintro mz ms E J5 loc' ⟨d, ks, dm, f, rfl, rfl, hJ, rfl, hd, hB, hDk⟩
 have hC := hC.mono hJ; have hS := hS.mono hJ; have hSs := hSs.mono hJ; have hD := hD.mono hJ; have hH := hH.mono hJ; have h2 := h2.mono hJ; have h10 := h10.mono hJ; have hIc := hIc.trans hJ
 have hB4 := hJ
 refine zR ?_
 refine zC ?_
 refine zN ?_
 refine X_seq ?_
 refine X_cond rfl (fun hc59 => ?_) (fun hc59 => ?_)
 ·
  have hlt_d : d < x.n := by have h := hc59; simp at h; omega
  obtain ⟨date, hdt⟩ := hD.at hlt_d
  have hdf := dayF_at hdt
  have hdl : d < cr.days.length := by omega
  have hd0 := (head_ok hr).day date (List.mem_of_getElem? hdt)
  refine X_skip ?_
  refine at_then ?_
  refine X_seq ?_
  refine X_block ?_
  refine zR ?_
  refine zM ?_
  refine XO_v0 (ev_indexSl rfl rfl slt_23 (by assumption) (fun hg => by first | omega | (simp [conj] at hg; omega))) rfl rfl rfl ?_
  refine XO_v0 (ev_load rfl sct_3 (fun hg => by first | exact Cell.imm h2 rfl | exact Cell.imm h10 rfl | exact Cell.imm h12 rfl | exact Cell.imm h13 rfl | exact Cell.imm h14 rfl | exact Sl.get0 hS hx rfl | exact Sl.get0 hS hw0 rfl | exact Sl.get hSs hy (j := 3) rfl | exact Sl.get0 hN hp rfl | exact Sl.get0 hD hdt rfl | (repeat (first | exact Cell.here rfl | apply Cell.there | apply Cell.app)))) rfl rfl rfl ?_
  refine XO_alloc zt_3 rfl rfl (fun b_12 => ?_)
  refine zA ?_
  refine XO_store rfl rfl szt_3 rfl rfl (by first | exact dL_upd hd2.nd hr2 | exact Upd.u0 | exact Upd.u1 | exact Upd.u2 | exact Upd.u3 | exact Upd.u4 | exact Upd.u5 | (repeat (first | exact Upd.here | apply Upd.there | apply upd_app))) rfl ?_
  refine zN ?_
  refine X_seq ?_
  refine X_freeze .here (fun I6 hI6 hb6 => ?_)
  have hC := hC.mono hI6; have hS := hS.mono hI6; have hSs := hSs.mono hI6; have hD := hD.mono hI6; have hH := hH.mono hI6; have h2 := h2.mono hI6; have h10 := h10.mono hI6; have hIc := hIc.trans hI6; have hB4 := hB4.trans hI6
  have h12 := ImmC.of hb6
  refine X_region ?_
  refine XO_makeMap rfl rfl (fun r_63 => ?_)
  refine XO_makeMap rfl rfl (fun r_64 => ?_)
  refine XO_alloc zt_79 rfl rfl (fun b_13 => ?_)
  refine XO_alloc zt_79 rfl rfl (fun b_14 => ?_)
  refine XO_store rfl rfl szt_79 rfl rfl (by first | exact dL_upd hd2.nd hr2 | exact Upd.u0 | exact Upd.u1 | exact Upd.u2 | exact Upd.u3 | exact Upd.u4 | exact Upd.u5 | (repeat (first | exact Upd.here | apply Upd.there | apply upd_app))) rfl ?_
  refine XO_store rfl rfl szt_79 rfl rfl (by first | exact dL_upd hd2.nd hr2 | exact Upd.u0 | exact Upd.u1 | exact Upd.u2 | exact Upd.u3 | exact Upd.u4 | exact Upd.u5 | (repeat (first | exact Upd.here | apply Upd.there | apply upd_app))) rfl ?_
  refine zN ?_
  refine X_seq ?_
  refine X_seq ?_
  refine X_freeze .here (fun I7 hI7 hb7 => ?_)
  have hC := hC.mono hI7; have hS := hS.mono hI7; have hSs := hSs.mono hI7; have hD := hD.mono hI7; have hH := hH.mono hI7; have h2 := h2.mono hI7; have h10 := h10.mono hI7; have h12 := h12.mono hI7; have hIc := hIc.trans hI7; have hB4 := hB4.trans hI7
  have h14 := ImmC.of hb7
  refine X_freeze .here (fun I8 hI8 hb8 => ?_)
  have hC := hC.mono hI8; have hS := hS.mono hI8; have hSs := hSs.mono hI8; have hD := hD.mono hI8; have hH := hH.mono hI8; have h2 := h2.mono hI8; have h10 := h10.mono hI8; have h12 := h12.mono hI8; have h14 := h14.mono hI8; have hIc := hIc.trans hI8; have hB4 := hB4.trans hI8
  have h13 := ImmC.of hb8
  refine X_perm (dL dm f ++ ((r_64, .map #[] 0) :: (r_63, .map #[] 0) :: (r_54, mapO (Value.int .i64) mapV dm) :: (r_23, mapO encBrA Value.bool (kmap ks)) :: MB ms)) (List.perm_middle.trans (List.Perm.cons _ List.perm_middle)) ?_
  refine X_region ?_
  refine XO_v0 (ev_loadA rfl agt_33 (fun hg => by first | exact Cells.immC h2 | (repeat (first | exact Cells.here | exact Cells.s0 (vs := [_, _, _, _, _, _]) rfl | apply Cells.there | apply Cells.app))) rfl) rfl rfl rfl ?_
  refine zM ?_
  refine zM ?_
  refine XO_callM (cap := []) (vs := [_, _, _]) rfl rfl fun_89 .nil (w_people I8 x av n c d) rfl rfl ?_
  rintro vv9 I9 L9 hI9 ⟨rfl, bp1, bp2, bp3, rfl, hp1, hp2, hp3⟩
  have hC := hC.mono hI9; have hS := hS.mono hI9; have hSs := hSs.mono hI9; have hD := hD.mono hI9; have hH := hH.mono hI9; have h2 := h2.mono hI9; have h10 := h10.mono hI9; have h12 := h12.mono hI9; have h14 := h14.mono hI9; have h13 := h13.mono hI9; have hIc := hIc.trans hI9; have hB4 := hB4.trans hI9
  have hp1 := ImmC.of hp1
  have hp2 := ImmC.of hp2
  have hp3 := ImmC.of hp3
  rw [List.nil_append]
  refine zN ?_
  refine X_block ?_
  refine X_locEq (loc' := [] ++ ((dL dm f ++ [(r_64, mapO (Value.int .i64) (Value.int .i64) (sumM [])), (r_63, mapO (Value.int .i64) (Value.int .i64) (cntM [])), (r_54, mapO (Value.int .i64) mapV dm), (r_23, mapO encBrA Value.bool (kmap ks))]) ++ MB ms)) (by simp [cntM_nil, sumM_nil, mapO, entriesO]) ?_
  refine X_rangeFuncM2 (K := []) (L := dL dm f ++ [(r_64, mapO (Value.int .i64) (Value.int .i64) (sumM [])), (r_63, mapO (Value.int .i64) (Value.int .i64) (cntM [])), (r_54, mapO (Value.int .i64) mapV dm), (r_23, mapO encBrA Value.bool (kmap ks))]) (en1 := en1P) (en2 := en2P) (xs := (peoL cr pl (d : Int))) (fun pre I' loc' => ∃ (dm : List (Int × Nat)) (f : Int → List (Int × Bool)), loc' = dL dm f ++ [(r_64, mapO (Value.int .i64) (Value.int .i64) (sumM pre)), (r_63, mapO (Value.int .i64) (Value.int .i64) (cntM pre)), (r_54, mapO (Value.int .i64) mapV dm), (r_23, mapO encBrA Value.bool (kmap ks))] ∧ DOK dm f (bsyP cr pl d pre)) (fun _ _ _ _ => False) (fun pre x0 E2 I2 loc2 => ∃ (dm : List (Int × Nat)) (f : Int → List (Int × Bool)), E2 = [(10, capP b_10), (12, capP b_12), (13, capP b_13), (14, capP b_14), (15, .int .i64 x0.1), (16, .int .i64 x0.2)] ∧ loc2 = dL dm f ++ [(r_64, mapO (Value.int .i64) (Value.int .i64) (sumM pre)), (r_63, mapO (Value.int .i64) (Value.int .i64) (cntM pre)), (r_54, mapO (Value.int .i64) mapV dm), (r_23, mapO encBrA Value.bool (kmap ks))] ∧ DOK dm f (bsyP cr pl d pre)) rfl fun_125 (w_peopleIt hC hS hn hl (fun s hs => by have := hwh s hs; omega) hp1 hp2 hp3) rfl rfl ⟨dm, f, rfl, hDk.congr (fun q y => (bsyP_nil cr pl d q y).symm)⟩ ?_ ?_ ?_ ?_
  ·
   rintro l9 pre x0 I1 loc1 H1 hpre hI1 ⟨dm1, f1, rfl, hd1⟩
   refine zR ?_
   refine zA ?_
   refine zN ?_
   refine X_region ?_
   refine zA ?_
   refine XO_nil ?_
   exact at_met' _ ⟨HLe.refl _, dm1, f1, rfl, rfl, hd1⟩ (.cons rfl (.cons rfl (.cons rfl (.cons rfl (.cons rfl (.cons rfl .nil))))))
  ·
   rintro l9 pre x0 E2 I2 loc2 H2 hpre hI2 ⟨dm1, f1, rfl, rfl, hd1⟩
   have hC := hC.mono hI2; have hS := hS.mono hI2; have hSs := hSs.mono hI2; have hD := hD.mono hI2; have hH := hH.mono hI2; have h2 := h2.mono hI2; have h10 := h10.mono hI2; have h12 := h12.mono hI2; have h14 := h14.mono hI2; have h13 := h13.mono hI2
   have hpl := hpre.length_le
   rw [List.length_append, List.length_singleton] at hpl
   have hpb := peo_len h8 hwh (pl := pl) (d := (d : Int))
   have hcg := cntM_get pre x0.1
   have hcb := cntE_le pre x0.1
   have hc0 := cntE_nonneg pre x0.1
   have hsg := sumM_get pre x0.1
   have hsb := sumE_bd (es := pre) (fun e he => peo_ef hr e (hpre.subset (by simp [he]))) x0.1
   have hxe := peo_ef hr x0 (hpre.subset (by simp))
   refine X_block ?_
   refine zR ?_
   refine XO_v0 (ev_load rfl sct_79 (fun hg => by first | exact Cell.imm h2 rfl | exact Cell.imm h10 rfl | exact Cell.imm h12 rfl | exact Cell.imm h13 rfl | exact Cell.imm h14 rfl | exact Sl.get0 hS hx rfl | exact Sl.get0 hS hw0 rfl | exact Sl.get hSs hy (j := 3) rfl | exact Sl.get0 hN hp rfl | exact Sl.get0 hD hdt rfl | (repeat (first | exact Cell.here rfl | apply Cell.there | apply Cell.app)))) rfl rfl rfl ?_
   refine zM ?_
   refine XO_v0 (ev_lookupI (m := cntM pre) (ek := Value.int .i64) (a := x0.1) mpt_79 key_3 rfl rfl (fun _ => (by first | exact Mem.m0 | exact Mem.m1 | exact Mem.m2 | exact Mem.m3 | exact Mem.m4 | exact Mem.m5 | (repeat (first | exact Mem.m0 | apply Mem.there | apply Mem.app))))) rfl rfl rfl ?_
   refine zB ?_
   refine XO_mapUpdate (m := cntM pre) (ek := Value.int .i64) (ev := Value.int .i64) (a := x0.1) ((mget (cntM pre) x0.1).getD 0 + 1) mpt_79 key_3 rfl rfl rfl rfl (by first | exact dL_upd hd2.nd hr2 | exact Upd.u0 | exact Upd.u1 | exact Upd.u2 | exact Upd.u3 | exact Upd.u4 | exact Upd.u5 | (repeat (first | exact Upd.here | apply Upd.there | apply upd_app))) ?_
   rw [← cntM_snoc pre x0]
   refine zN (zR ?_)
   refine XO_v0 (ev_load rfl sct_79 (fun hg => by first | exact Cell.imm h2 rfl | exact Cell.imm h10 rfl | exact Cell.imm h12 rfl | exact Cell.imm h13 rfl | exact Cell.imm h14 rfl | exact Sl.get0 hS hx rfl | exact Sl.get0 hS hw0 rfl | exact Sl.get hSs hy (j := 3) rfl | exact Sl.get0 hN hp rfl | exact Sl.get0 hD hdt rfl | (repeat (first | exact Cell.here rfl | apply Cell.there | apply Cell.app)))) rfl rfl rfl ?_
   refine zM ?_
   refine XO_v0 (ev_lookupI (m := sumM pre) (ek := Value.int .i64) (a := x0.1) mpt_79 key_3 rfl rfl (fun _ => (by first | exact Mem.m0 | exact Mem.m1 | exact Mem.m2 | exact Mem.m3 | exact Mem.m4 | exact Mem.m5 | (repeat (first | exact Mem.m0 | apply Mem.there | apply Mem.app))))) rfl rfl rfl ?_
   refine zM ?_
   refine zB ?_
   refine XO_mapUpdate (m := sumM pre) (ek := Value.int .i64) (ev := Value.int .i64) (a := x0.1) ((mget (sumM pre) x0.1).getD 0 + x0.2) mpt_79 key_3 rfl rfl rfl rfl (by first | exact dL_upd hd2.nd hr2 | exact Upd.u0 | exact Upd.u1 | exact Upd.u2 | exact Upd.u3 | exact Upd.u4 | exact Upd.u5 | (repeat (first | exact Upd.here | apply Upd.there | apply upd_app))) ?_
   rw [← sumM_snoc pre x0]
   refine zN ?_
   refine X_cutT [(10, _), (12, _), (15, _)] (.cons rfl (.cons rfl (.cons rfl .nil))) (fun T L0 E I' loc' => ∃ (dm : List (Int × Nat)) (r : Nat), E = T ∧ I2 = I' ∧ dL dm f1 ++ [(r_64, mapO (Value.int .i64) (Value.int .i64) (sumM (pre ++ [x0]))), (r_63, mapO (Value.int .i64) (Value.int .i64) (cntM (pre ++ [x0]))), (r_54, mapO (Value.int .i64) mapV dm), (r_23, mapO encBrA Value.bool (kmap ks))] = loc' ∧ DOK dm f1 (bsyP cr pl d pre) ∧ mget dm x0.1 = some r) ?_ ?_
   ·
    refine zR ?_
    refine XO_v0 (ev_load rfl sct_131 (fun hg => by first | exact Cell.imm h2 rfl | exact Cell.imm h10 rfl | exact Cell.imm h12 rfl | exact Cell.imm h13 rfl | exact Cell.imm h14 rfl | exact Sl.get0 hS hx rfl | exact Sl.get0 hS hw0 rfl | exact Sl.get hSs hy (j := 3) rfl | exact Sl.get0 hN hp rfl | exact Sl.get0 hD hdt rfl | (repeat (first | exact Cell.here rfl | apply Cell.there | apply Cell.app)))) rfl rfl rfl ?_
    refine zM ?_
    refine XO_v0 (ev_lookupM (m := dm1) (ek := Value.int .i64) (a := x0.1) mpt_131 key_3 rfl rfl (fun _ => (by first | exact Mem.m0 | exact Mem.m1 | exact Mem.m2 | exact Mem.m3 | exact Mem.m4 | exact Mem.m5 | (repeat (first | exact Mem.m0 | apply Mem.there | apply Mem.app))))) rfl rfl rfl ?_
    refine XO_v0 (ev_mapNil rfl rfl und_56) rfl rfl rfl ?_
    refine zN ?_
    refine X_cond rfl (fun hc83 => ?_) (fun hc83 => ?_)
    ·
     have hn1 : mget dm1 x0.1 = none := Option.isNone_iff_eq_none.1 hc83
     refine X_region ?_
     refine XO_v0 (ev_load rfl sct_131 (fun hg => by first | exact Cell.imm h2 rfl | exact Cell.imm h10 rfl | exact Cell.imm h12 rfl | exact Cell.imm h13 rfl | exact Cell.imm h14 rfl | exact Sl.get0 hS hx rfl | exact Sl.get0 hS hw0 rfl | exact Sl.get hSs hy (j := 3) rfl | exact Sl.get0 hN hp rfl | exact Sl.get0 hD hdt rfl | (repeat (first | exact Cell.here rfl | apply Cell.there | apply Cell.app)))) rfl rfl rfl ?_
     refine zM ?_
     refine XO_makeMap rfl rfl (fun r_86 => ?_)
     refine XO_mapUpdate (m := dm1) (ek := Value.int .i64) (ev := mapV) (a := x0.1) r_86 mpt_131 key_3 rfl rfl rfl rfl (by first | exact dL_upd hd2.nd hr2 | exact Upd.u0 | exact Upd.u1 | exact Upd.u2 | exact Upd.u3 | exact Upd.u4 | exact Upd.u5 | (repeat (first | exact Upd.here | apply Upd.there | apply upd_app))) ?_
     rw [mset_add hn1]
     refine XO_nil ?_
     first
     | exact at_met2 _ _ ⟨_, r_86, rfl, rfl, rfl, hd1.add hn1, by rw [← mset_add hn1, mget_mset, if_pos rfl]⟩ (.cons rfl (.cons rfl (.cons rfl .nil))) (by rw [dL_snoc, hd1.no _ hn1]; exact .refl)
    obtain ⟨r9, hr9⟩ : ∃ r, mget dm1 x0.1 = some r := by cases e9 : mget dm1 x0.1 with | none => rw [e9] at hc83; cases hc83 | some r => exact ⟨r, rfl⟩
    refine X_skip ?_
    exact at_met2 _ _ ⟨dm1, r9, rfl, rfl, rfl, hd1, hr9⟩ (.cons rfl (.cons rfl (.cons rfl .nil))) .refl
   rintro E I' loc' ⟨dm2, r2, rfl, rfl, rfl, hd2, hr2⟩
   refine X_region ?_
   refine XO_v0 (ev_load rfl sct_131 (fun hg => by first | exact Cell.imm h2 rfl | exact Cell.imm h10 rfl | exact Cell.imm h12 rfl | exact Cell.imm h13 rfl | exact Cell.imm h14 rfl | exact Sl.get0 hS hx rfl | exact Sl.get0 hS hw0 rfl | exact Sl.get hSs hy (j := 3) rfl | exact Sl.get0 hN hp rfl | exact Sl.get0 hD hdt rfl | (repeat (first | exact Cell.here rfl | apply Cell.there | apply Cell.app)))) rfl rfl rfl ?_
   refine zM ?_
   refine XO_v0 (ev_lookupG (m := dm2) (ek := Value.int .i64) (ev := mapV) (a := x0.1) hr2 mpt_131 key_3 rfl rfl (fun _ => (by first | exact Mem.m0 | exact Mem.m1 | exact Mem.m2 | exact Mem.m3 | exact Mem.m4 | exact Mem.m5 | (repeat (first | exact Mem.m0 | apply Mem.there | apply Mem.app))))) rfl rfl rfl ?_
   refine XO_v0 (ev_load rfl sct_3 (fun hg => by first | exact Cell.imm h2 rfl | exact Cell.imm h10 rfl | exact Cell.imm h12 rfl | exact Cell.imm h13 rfl | exact Cell.imm h14 rfl | exact Sl.get0 hS hx rfl | exact Sl.get0 hS hw0 rfl | exact Sl.get hSs hy (j := 3) rfl | exact Sl.get0 hN hp rfl | exact Sl.get0 hD hdt rfl | (repeat (first | exact Cell.here rfl | apply Cell.there | apply Cell.app)))) rfl rfl rfl ?_
   refine XO_mapUpdate (m := f1 x0.1) (ek := Value.int .i64) (ev := Value.bool) (a := date) true mpt_56 key_3 rfl rfl rfl rfl (by first | exact dL_upd hd2.nd hr2 | exact Upd.u0 | exact Upd.u1 | exact Upd.u2 | exact Upd.u3 | exact Upd.u4 | exact Upd.u5 | (repeat (first | exact Upd.here | apply Upd.there | apply upd_app))) ?_
   refine XO_nil ?_
   refine at_block_n ?_
   exact at_round2 ⟨HLe.refl _, dm2, _, rfl, (hd2.put hr2).congr (fun q y => by rw [← hdf]; exact bsyP_snoc cr pl d pre x0 q y)⟩ .refl
  ·
   rintro bd I1 loc1 hI1 ⟨dm1, f1, rfl, hd1⟩
   have hC := hC.mono hI1; have hS := hS.mono hI1; have hSs := hSs.mono hI1; have hD := hD.mono hI1; have hH := hH.mono hI1; have h2 := h2.mono hI1; have h10 := h10.mono hI1; have h12 := h12.mono hI1; have h14 := h14.mono hI1; have h13 := h13.mono hI1; have hIc := hIc.trans hI1; have hB4 := hB4.trans hI1
   have hd1 := hd1.congr (fun q y => bsyP_all d q y)
   refine at_locEq (loc' := dL dm1 f1 ++ ((r_64, mapO (Value.int .i64) (Value.int .i64) (sumM (peoL cr pl (d : Int)))) :: (r_63, mapO (Value.int .i64) (Value.int .i64) (cntM (peoL cr pl (d : Int)))) :: (r_54, mapO (Value.int .i64) mapV dm1) :: (r_23, mapO encBrA Value.bool (kmap ks)) :: MB (bd :: ms))) (by rw [List.append_assoc]; rfl) ?_
   refine at_block_n ?_
   refine at_then ?_
   refine zR ?_
   refine zA ?_
   refine zN ?_
   refine X_seq ?_
   refine zR ?_
   refine zM ?_
   refine XO_v0 (ev_lenS rfl slt_23) rfl rfl rfl ?_
   refine zM ?_
   refine zN ?_
   refine X_block ?_
   refine X_loopM [(1, _), (2, _), (5, _), (10, _), (11, _), (12, _), (13, _), (14, _), (56, _), (57, _), (58, _), (91, _), (92, _)] (.cons rfl (.cons rfl (.cons rfl (.cons rfl (.cons rfl (.cons rfl (.cons rfl (.cons rfl (.cons rfl (.cons rfl (.cons rfl (.cons rfl (.cons rfl .nil))))))))))))) (fun T L0 mz ms E I' loc' => ∃ (j : Nat) (mn : Int), mz = n - j ∧ E = (17, .int .i64 mn) :: (93, .int .i64 j) :: T ∧ I1 = I' ∧ dL dm1 f1 ++ ((r_64, mapO (Value.int .i64) (Value.int .i64) (sumM (peoL cr pl (d : Int)))) :: (r_63, mapO (Value.int .i64) (Value.int .i64) (cntM (peoL cr pl (d : Int)))) :: (r_54, mapO (Value.int .i64) mapV dm1) :: (r_23, mapO encBrA Value.bool (kmap ks)) :: MB ms) = loc' ∧ j ≤ n ∧ mn = manyF (pl.take j) (d : Int)) _ _ _ _ ⟨0, 0, rfl, rfl, rfl, rfl, Nat.zero_le _, by simp [manyF]⟩ (.cons rfl (.cons rfl (.cons rfl (.cons rfl (.cons rfl (.cons rfl (.cons rfl (.cons rfl (.cons rfl (.cons rfl (.cons rfl (.cons rfl (.cons rfl (.cons rfl (.cons rfl .nil))))))))))))))) (HLe.refl _) rfl ?_
   rintro mz ms E I' loc' ⟨j, mn, rfl, rfl, rfl, rfl, hj, hmn⟩
   refine zR ?_
   refine zC ?_
   refine zN ?_
   refine X_seq ?_
   refine X_cond rfl (fun hc94 => ?_) (fun hc94 => ?_)
   ·
    have hlt_j : j < n := by have h := hc94; simp at h; omega
    obtain ⟨w0, hw0⟩ := hS.at hlt_j
    have hmb := many_le (pl.take j) (d : Int)
    rw [List.length_take] at hmb
    refine X_skip ?_
    refine at_then ?_
    refine X_seq ?_
    refine X_block ?_
    refine zR ?_
    refine XO_v0 (ev_indexSl rfl rfl slt_23 (by assumption) (fun hg => by first | omega | (simp [conj] at hg; omega))) rfl rfl rfl ?_
    refine XO_v0 (ev_load rfl sct_3 (fun hg => by first | exact Cell.imm h2 rfl | exact Cell.imm h10 rfl | exact Cell.imm h12 rfl | exact Cell.imm h13 rfl | exact Cell.imm h14 rfl | exact Sl.get0 hS hx rfl | exact Sl.get0 hS hw0 rfl | exact Sl.get hSs hy (j := 3) rfl | exact Sl.get0 hN hp rfl | exact Sl.get0 hD hdt rfl | (repeat (first | exact Cell.here rfl | apply Cell.there | apply Cell.app)))) rfl rfl rfl ?_
    refine zA ?_
    refine zN (zR ?_)
    refine zM ?_
    refine zM ?_
    refine zC ?_
    refine zN ?_
    refine X_cond rfl (fun hc99 => ?_) (fun hc99 => ?_)
    ·
     have he9 : w0 = (d : Int) := by simpa using hc99
     refine X_region ?_
     refine zM ?_
     refine zB ?_
     refine zA ?_
     refine XO_nil ?_
     refine at_block_n ?_
     refine at_then ?_
     refine X_region ?_
     refine zB ?_
     refine zM ?_
     refine XO_nil ?_
     exact at_metM rfl rfl rfl _ _ ⟨n - (j + 1), by omega, j + 1, _, rfl, rfl, rfl, rfl, by omega, by rw [many_snoc hw0 _, if_pos he9, hmn]⟩ (.cons rfl (.cons rfl (.cons rfl (.cons rfl (.cons rfl (.cons rfl (.cons rfl (.cons rfl (.cons rfl (.cons rfl (.cons rfl (.cons rfl (.cons rfl (.cons rfl (.cons rfl .nil))))))))))))))) (by repeat (first | exact .refl | exact subL_left | refine subL_app ?_ | refine .drop ?_ | refine subL_add ?_))
    have he9 : ¬ w0 = (d : Int) := by simpa using hc99
    refine X_skip ?_
    refine at_block_n ?_
    refine at_then ?_
    refine X_region ?_
    refine zB ?_
    refine zM ?_
    refine XO_nil ?_
    exact at_metM rfl rfl rfl _ _ ⟨n - (j + 1), by omega, j + 1, _, rfl, rfl, rfl, rfl, by omega, by rw [many_snoc hw0 _, if_neg he9, hmn, Int.add_zero]⟩ (.cons rfl (.cons rfl (.cons rfl (.cons rfl (.cons rfl (.cons rfl (.cons rfl (.cons rfl (.cons rfl (.cons rfl (.cons rfl (.cons rfl (.cons rfl (.cons rfl (.cons rfl .nil))))))))))))))) (by repeat (first | exact .refl | exact subL_left | refine subL_app ?_ | refine .drop ?_ | refine subL_add ?_))
   have hge_j : n ≤ j := by have h := hc94; simp at h; omega
   rw [take_all hS.len hge_j] at hmn
   refine X_exit ?_
   refine at_then_e ?_
   refine at_then_e ?_
   refine at_block_hit ?_
   refine at_then ?_
   refine X_cutM [(1, _), (2, _), (5, _), (10, _), (11, _), (12, _), (13, _), (14, _), (56, _), (57, _), (58, _)] (.cons rfl (.cons rfl (.cons rfl (.cons rfl (.cons rfl (.cons rfl (.cons rfl (.cons rfl (.cons rfl (.cons rfl (.cons rfl .nil))))))))))) (fun T L0 ms E I' loc' => ∃ (ks : List Br), E = T ∧ I1 = I' ∧ dL dm1 f1 ++ ((r_64, mapO (Value.int .i64) (Value.int .i64) (sumM (peoL cr pl (d : Int)))) :: (r_63, mapO (Value.int .i64) (Value.int .i64) (cntM (peoL cr pl (d : Int)))) :: (r_54, mapO (Value.int .i64) mapV dm1) :: (r_23, mapO encBrA Value.bool (kmap ks)) :: MB ms) = loc' ∧ SetI ks (InC cr pl d)) ?_ ?_
   ·
    refine zR ?_
    refine zM ?_
    refine XO_v0 (ev_fieldAddr rfl fld_33_1) rfl rfl rfl ?_
    refine XO_v0 (ev_load rfl sct_3 (fun hg => by first | exact Cell.imm h2 rfl | exact Cell.imm h10 rfl | exact Cell.imm h12 rfl | exact Cell.imm h13 rfl | exact Cell.imm h14 rfl | exact Sl.get0 hS hx rfl | exact Sl.get0 hS hw0 rfl | exact Sl.get hSs hy (j := 3) rfl | exact Sl.get0 hN hp rfl | exact Sl.get0 hD hdt rfl | (repeat (first | exact Cell.here rfl | apply Cell.there | apply Cell.app)))) rfl rfl rfl ?_
    refine zC ?_
    refine zN ?_
    refine X_cond rfl (fun hc106 => ?_) (fun hc106 => ?_)
    ·
     have hb2 : brk cr pl ⟨2, d, 0⟩ = true := by rw [brk_2, ← hmn, ← e1]; exact hc106
     refine X_region ?_
     refine zM ?_
     refine zM ?_
     refine XO_v0 (ev_buildL (ps := [(0, _), (1, _)]) [_, _, _] plt_91 rfl rfl) rfl rfl rfl ?_
     refine XO_mapUpdate (m := kmap ks) (ek := encBrA) (ev := Value.bool) (a := ⟨2, (d : Int), 0⟩) true mpt_130 key_91 rfl rfl rfl rfl (by first | exact dL_upd hd2.nd hr2 | exact Upd.u0 | exact Upd.u1 | exact Upd.u2 | exact Upd.u3 | exact Upd.u4 | exact Upd.u5 | (repeat (first | exact Upd.here | apply Upd.there | apply upd_app))) ?_
     rw [mset_kmap]
     refine XO_nil ?_
     exact at_metM rfl rfl rfl _ _ ⟨_, rfl, rfl, rfl, hB.put (inC_yes hb2)⟩ (.cons rfl (.cons rfl (.cons rfl (.cons rfl (.cons rfl (.cons rfl (.cons rfl (.cons rfl (.cons rfl (.cons rfl (.cons rfl .nil))))))))))) .refl
    have hb2 : brk cr pl ⟨2, d, 0⟩ = false := by rw [brk_2, ← hmn, ← e1]; exact hc106
    refine X_skip ?_
    exact at_metM rfl rfl rfl _ _ ⟨_, rfl, rfl, rfl, hB.congr (inC_no hb2)⟩ (.cons rfl (.cons rfl (.cons rfl (.cons rfl (.cons rfl (.cons rfl (.cons rfl (.cons rfl (.cons rfl (.cons rfl (.cons rfl .nil))))))))))) .refl
   rintro ms E I' loc' ⟨ks3, rfl, rfl, rfl, hC3⟩
   refine zR ?_
   refine XO_v0 (ev_load rfl sct_79 (fun hg => by first | exact Cell.imm h2 rfl | exact Cell.imm h10 rfl | exact Cell.imm h12 rfl | exact Cell.imm h13 rfl | exact Cell.imm h14 rfl | exact Sl.get0 hS hx rfl | exact Sl.get0 hS hw0 rfl | exact Sl.get hSs hy (j := 3) rfl | exact Sl.get0 hN hp rfl | exact Sl.get0 hD hdt rfl | (repeat (first | exact Cell.here rfl | apply Cell.there | apply Cell.app)))) rfl rfl rfl ?_
   refine XO_range (ek := Value.int .i64) (ev := Value.int .i64) (m := cntM (peoL cr pl (d : Int))) rfl mpt_79 rfl rfl (.inr (by simp)) (fun b_111 => ?_)
   refine zN ?_
   refine X_block ?_
   refine X_loopM [(1, _), (2, _), (5, _), (10, _), (11, _), (12, _), (14, _), (56, _), (57, _), (58, _), (111, _)] (.cons rfl (.cons rfl (.cons rfl (.cons rfl (.cons rfl (.cons rfl (.cons rfl (.cons rfl (.cons rfl (.cons rfl (.cons rfl .nil))))))))))) (fun T L0 mz ms E I' loc' => ∃ (seen : List Nat) (ks : List Br), mz = (cntM (peoL cr pl (d : Int))).length - seen.length ∧ E = T ∧ I1 = I' ∧ (b_111, iterO r_63 (cntM (peoL cr pl (d : Int))).length seen) :: (dL dm1 f1 ++ ((r_64, mapO (Value.int .i64) (Value.int .i64) (sumM (peoL cr pl (d : Int)))) :: (r_63, mapO (Value.int .i64) (Value.int .i64) (cntM (peoL cr pl (d : Int)))) :: (r_54, mapO (Value.int .i64) mapV dm1) :: (r_23, mapO encBrA Value.bool (kmap ks)) :: MB ms)) = loc' ∧ SetI ks (InD cr pl d (cntM (peoL cr pl (d : Int))) seen) ∧ seen.Nodup ∧ ∀ i ∈ seen, i < (cntM (peoL cr pl (d : Int))).length) _ _ _ _ ⟨[], ks3, rfl, rfl, rfl, rfl, hC3.congr inD_0, .nil, fun i h => by cases h⟩ (.cons rfl (.cons rfl (.cons rfl (.cons rfl (.cons rfl (.cons rfl (.cons rfl (.cons rfl (.cons rfl (.cons rfl (.cons rfl .nil))))))))))) (HLe.refl _) rfl ?_
   rintro mz ms E I' loc' ⟨seen, ks4, rfl, rfl, rfl, rfl, hC4, hnd2, hlt2⟩
   have hsl := seen_lt hnd2 hlt2
   refine zR ?_
   refine XO_next2 (ek := Value.int .i64) (ev := Value.int .i64) (m := cntM (peoL cr pl (d : Int))) (fun s' => (b_111, iterO r_63 (cntM (peoL cr pl (d : Int))).length s') :: (dL dm1 f1 ++ ((r_64, mapO (Value.int .i64) (Value.int .i64) (sumM (peoL cr pl (d : Int)))) :: (r_63, mapO (Value.int .i64) (Value.int .i64) (cntM (peoL cr pl (d : Int)))) :: (r_54, mapO (Value.int .i64) mapV dm1) :: (r_23, mapO encBrA Value.bool (kmap ks4)) :: MB ms))) rfl (fun s' => .here) rfl rfl rfl rfl rfl (.inr (by simp)) (by simp) ?_
   intro t tv s' hno hyes
   refine zN ?_
   refine X_seq ?_
   refine X_cond rfl (fun hc113 => ?_) (fun hc113 => ?_)
   ·
    obtain ⟨i, q, hq, hns, rfl⟩ := hyes hc113
    obtain ⟨hnd3, hlt3⟩ := seen_more hnd2 hlt2 hns (List.getElem?_eq_some_iff.1 hq).1
    have hsl2 := seen_lt hnd3 hlt3
    rw [List.length_append, List.length_singleton] at hsl2
    have hqv := cntM_val (List.mem_of_getElem? hq)
    have hky := (cntM_key (peoL cr pl (d : Int)) q.1).1 (List.mem_map_of_mem (f := (·.1)) (List.mem_of_getElem? hq))
    have hbz := bsy_of_cnt hky
    obtain ⟨r9, hr9⟩ := hd1.has hbz
    refine X_skip ?_
    refine at_then ?_
    refine X_block ?_
    refine zR ?_
    refine XO_v0 (ev_entry (ek := Value.int .i64) (ev := Value.int .i64) (m := cntM (peoL cr pl (d : Int))) (r := r_63) (b := b_111) (p := q) (seen := seen) (i := i) rfl (.inr (by simp)) (.inr (by simp)) hq) rfl rfl rfl ?_
    refine XO_v0 (ev_extract rfl rfl) rfl rfl rfl ?_
    refine XO_v0 (ev_extract rfl rfl) rfl rfl rfl ?_
    refine zA ?_
    refine zA ?_
    refine zN ?_
    refine X_cutM [(1, _), (2, _), (5, _), (10, _), (11, _), (12, _), (14, _), (20, _), (56, _), (57, _), (58, _), (111, _)] (.cons rfl (.cons rfl (.cons rfl (.cons rfl (.cons rfl (.cons rfl (.cons rfl (.cons rfl (.cons rfl (.cons rfl (.cons rfl (.cons rfl .nil)))))))))))) (fun T L0 ms E I' loc' => ∃ (ks : List Br), E = T ∧ I1 = I' ∧ (b_111, iterO r_63 (cntM (peoL cr pl (d : Int))).length (seen ++ [i])) :: (dL dm1 f1 ++ ((r_64, mapO (Value.int .i64) (Value.int .i64) (sumM (peoL cr pl (d : Int)))) :: (r_63, mapO (Value.int .i64) (Value.int .i64) (cntM (peoL cr pl (d : Int)))) :: (r_54, mapO (Value.int .i64) mapV dm1) :: (r_23, mapO encBrA Value.bool (kmap ks)) :: MB ms)) = loc' ∧ SetI ks (InE cr pl d (cntM (peoL cr pl (d : Int))) seen q.1 1)) ?_ ?_
    ·
     refine zR ?_
     refine zM ?_
     refine XO_v0 (ev_fieldAddr rfl fld_33_2) rfl rfl rfl ?_
     refine XO_v0 (ev_load rfl sct_3 (fun hg => by first | exact Cell.imm h2 rfl | exact Cell.imm h10 rfl | exact Cell.imm h12 rfl | exact Cell.imm h13 rfl | exact Cell.imm h14 rfl | exact Sl.get0 hS hx rfl | exact Sl.get0 hS hw0 rfl | exact Sl.get hSs hy (j := 3) rfl | exact Sl.get0 hN hp rfl | exact Sl.get0 hD hdt rfl | (repeat (first | exact Cell.here rfl | apply Cell.there | apply Cell.app)))) rfl rfl rfl ?_
     refine zC ?_
     refine zN ?_
     refine X_cond rfl (fun hc120 => ?_) (fun hc120 => ?_)
     ·
      have hb3 : brk cr pl ⟨3, d, q.1⟩ = true := by rw [brk_3 hr, ← hqv, ← e2]; exact hc120
      refine X_region ?_
      refine zM ?_
      refine zM ?_
      refine zM ?_
      refine XO_v0 (ev_buildL (ps := [(0, _), (1, _), (2, _)]) [_, _, _] plt_91 rfl rfl) rfl rfl rfl ?_
      refine XO_mapUpdate (m := kmap ks4) (ek := encBrA) (ev := Value.bool) (a := ⟨3, (d : Int), q.1⟩) true mpt_130 key_91 rfl rfl rfl rfl (by first | exact dL_upd hd2.nd hr2 | exact Upd.u0 | exact Upd.u1 | exact Upd.u2 | exact Upd.u3 | exact Upd.u4 | exact Upd.u5 | (repeat (first | exact Upd.here | apply Upd.there | apply upd_app))) ?_
      rw [mset_kmap]
      refine XO_nil ?_
      exact at_metM rfl rfl rfl _ _ ⟨_, rfl, rfl, rfl, (hC4.congr inE_0).put (inE_yes rfl rfl (by decide) hb3)⟩ (.cons rfl (.cons rfl (.cons rfl (.cons rfl (.cons rfl (.cons rfl (.cons rfl (.cons rfl (.cons rfl (.cons rfl (.cons rfl (.cons rfl .nil)))))))))))) .refl
     have hb3 : brk cr pl ⟨3, d, q.1⟩ = false := by rw [brk_3 hr, ← hqv, ← e2]; exact hc120
     refine X_skip ?_
     exact at_metM rfl rfl rfl _ _ ⟨_, rfl, rfl, rfl, (hC4.congr inE_0).congr (inE_no rfl rfl hb3)⟩ (.cons rfl (.cons rfl (.cons rfl (.cons rfl (.cons rfl (.cons rfl (.cons rfl (.cons rfl (.cons rfl (.cons rfl (.cons rfl (.cons rfl .nil)))))))))))) .refl
    rintro ms E I' loc' ⟨ks5, rfl, rfl, rfl, hC5⟩
    refine X_cutM [(1, _), (2, _), (5, _), (10, _), (11, _), (12, _), (14, _), (20, _), (56, _), (57, _), (58, _), (111, _)] (.cons rfl (.cons rfl (.cons rfl (.cons rfl (.cons rfl (.cons rfl (.cons rfl (.cons rfl (.cons rfl (.cons rfl (.cons rfl (.cons rfl .nil)))))))))))) (fun T L0 ms E I' loc' => ∃ (ks : List Br), E = T ∧ I1 = I' ∧ (b_111, iterO r_63 (cntM (peoL cr pl (d : Int))).length (seen ++ [i])) :: (dL dm1 f1 ++ ((r_64, mapO (Value.int .i64) (Value.int .i64) (sumM (peoL cr pl (d : Int)))) :: (r_63, mapO (Value.int .i64) (Value.int .i64) (cntM (peoL cr pl (d : Int)))) :: (r_54, mapO (Value.int .i64) mapV dm1) :: (r_23, mapO encBrA Value.bool (kmap ks)) :: MB ms)) = loc' ∧ SetI ks (InE cr pl d (cntM (peoL cr pl (d : Int))) seen q.1 2)) ?_ ?_
    ·
     refine zR ?_
     refine XO_v0 (ev_load rfl sct_79 (fun hg => by first | exact Cell.imm h2 rfl | exact Cell.imm h10 rfl | exact Cell.imm h12 rfl | exact Cell.imm h13 rfl | exact Cell.imm h14 rfl | exact Sl.get0 hS hx rfl | exact Sl.get0 hS hw0 rfl | exact Sl.get hSs hy (j := 3) rfl | exact Sl.get0 hN hp rfl | exact Sl.get0 hD hdt rfl | (repeat (first | exact Cell.here rfl | apply Cell.there | apply Cell.app)))) rfl rfl rfl ?_
     refine zM ?_
     refine XO_v0 (ev_lookupI (m := sumM (peoL cr pl (d : Int))) (ek := Value.int .i64) (a := q.1) mpt_79 key_3 rfl rfl (fun _ => (by first | exact Mem.m0 | exact Mem.m1 | exact Mem.m2 | exact Mem.m3 | exact Mem.m4 | exact Mem.m5 | (repeat (first | exact Mem.m0 | apply Mem.there | apply Mem.app))))) rfl rfl rfl ?_
     refine XO_v0 (ev_fieldAddr rfl fld_33_3) rfl rfl rfl ?_
     refine XO_v0 (ev_load rfl sct_3 (fun hg => by first | exact Cell.imm h2 rfl | exact Cell.imm h10 rfl | exact Cell.imm h12 rfl | exact Cell.imm h13 rfl | exact Cell.imm h14 rfl | exact Sl.get0 hS hx rfl | exact Sl.get0 hS hw0 rfl | exact Sl.get hSs hy (j := 3) rfl | exact Sl.get0 hN hp rfl | exact Sl.get0 hD hdt rfl | (repeat (first | exact Cell.here rfl | apply Cell.there | apply Cell.app)))) rfl rfl rfl ?_
     refine zC ?_
     refine zN ?_
     refine X_cond rfl (fun hc130 => ?_) (fun hc130 => ?_)
     ·
      have hb4 : brk cr pl ⟨4, d, q.1⟩ = true := by rw [brk_4 hr, ← sumM_get, ← e3]; exact hc130
      refine X_region ?_
      refine zM ?_
      refine zM ?_
      refine zM ?_
      refine XO_v0 (ev_buildL (ps := [(0, _), (1, _), (2, _)]) [_, _, _] plt_91 rfl rfl) rfl rfl rfl ?_
      refine XO_mapUpdate (m := kmap ks5) (ek := encBrA) (ev := Value.bool) (a := ⟨4, (d : Int), q.1⟩) true mpt_130 key_91 rfl rfl rfl rfl (by first | exact dL_upd hd2.nd hr2 | exact Upd.u0 | exact Upd.u1 | exact Upd.u2 | exact Upd.u3 | exact Upd.u4 | exact Upd.u5 | (repeat (first | exact Upd.here | apply Upd.there | apply upd_app))) ?_
      rw [mset_kmap]
      refine XO_nil ?_
      exact at_metM rfl rfl rfl _ _ ⟨_, rfl, rfl, rfl, hC5.put (inE_yes rfl rfl (by decide) hb4)⟩ (.cons rfl (.cons rfl (.cons rfl (.cons rfl (.cons rfl (.cons rfl (.cons rfl (.cons rfl (.cons rfl (.cons rfl (.cons rfl (.cons rfl .nil)))))))))))) .refl
     have hb4 : brk cr pl ⟨4, d, q.1⟩ = false := by rw [brk_4 hr, ← sumM_get, ← e3]; exact hc130
     refine X_skip ?_
     exact at_metM rfl rfl rfl _ _ ⟨_, rfl, rfl, rfl, hC5.congr (inE_no rfl rfl hb4)⟩ (.cons rfl (.cons rfl (.cons rfl (.cons rfl (.cons rfl (.cons rfl (.cons rfl (.cons rfl (.cons rfl (.cons rfl (.cons rfl (.cons rfl .nil)))))))))))) .refl
    rintro ms E I' loc' ⟨ks6, rfl, rfl, rfl, hC6⟩
    refine zR ?_
    refine zA ?_
    refine zN ?_
    refine X_seq ?_
    refine X_block ?_
    refine X_loopM [(1, _), (2, _), (5, _), (10, _), (11, _), (12, _), (14, _), (20, _), (56, _), (57, _), (58, _), (111, _)] (.cons rfl (.cons rfl (.cons rfl (.cons rfl (.cons rfl (.cons rfl (.cons rfl (.cons rfl (.cons rfl (.cons rfl (.cons rfl (.cons rfl .nil)))))))))))) (fun T L0 mz ms E I' loc' => ∃ (row : Int), mz = (date + 2 - row).toNat ∧ E = (22, .int .i64 row) :: T ∧ I1 = I' ∧ (b_111, iterO r_63 (cntM (peoL cr pl (d : Int))).length (seen ++ [i])) :: (dL dm1 f1 ++ ((r_64, mapO (Value.int .i64) (Value.int .i64) (sumM (peoL cr pl (d : Int)))) :: (r_63, mapO (Value.int .i64) (Value.int .i64) (cntM (peoL cr pl (d : Int)))) :: (r_54, mapO (Value.int .i64) mapV dm1) :: (r_23, mapO encBrA Value.bool (kmap ks6)) :: MB ms)) = loc' ∧ 1 ≤ row ∧ row ≤ date + 1 ∧ ∀ j : Int, 1 ≤ j → j < row → bsyK cr pl (d + 1) q.1 (dayF cr d - j) = true) _ _ _ _ ⟨1, rfl, rfl, rfl, rfl, Int.le_refl _, by omega, fun j a b => by omega⟩ (.cons rfl (.cons rfl (.cons rfl (.cons rfl (.cons rfl (.cons rfl (.cons rfl (.cons rfl (.cons rfl (.cons rfl (.cons rfl (.cons rfl (.cons rfl .nil))))))))))))) (HLe.refl _) rfl ?_
    rintro mz ms E I' loc' ⟨row, rfl, rfl, rfl, rfl, hw1, hw2, hw3⟩
    refine X_seq ?_
    refine zR ?_
    refine XO_v0 (ev_load rfl sct_131 (fun hg => by first | exact Cell.imm h2 rfl | exact Cell.imm h10 rfl | exact Cell.imm h12 rfl | exact Cell.imm h13 rfl | exact Cell.imm h14 rfl | exact Sl.get0 hS hx rfl | exact Sl.get0 hS hw0 rfl | exact Sl.get hSs hy (j := 3) rfl | exact Sl.get0 hN hp rfl | exact Sl.get0 hD hdt rfl | (repeat (first | exact Cell.here rfl | apply Cell.there | apply Cell.app)))) rfl rfl rfl ?_
    refine zM ?_
    refine XO_v0 (ev_lookupG (m := dm1) (ek := Value.int .i64) (ev := mapV) (a := q.1) hr9 mpt_131 key_3 rfl rfl (fun _ => (by first | exact Mem.m0 | exact Mem.m1 | exact Mem.m2 | exact Mem.m3 | exact Mem.m4 | exact Mem.m5 | (repeat (first | exact Mem.m0 | apply Mem.there | apply Mem.app))))) rfl rfl rfl ?_
    refine XO_v0 (ev_load rfl sct_3 (fun hg => by first | exact Cell.imm h2 rfl | exact Cell.imm h10 rfl | exact Cell.imm h12 rfl | exact Cell.imm h13 rfl | exact Cell.imm h14 rfl | exact Sl.get0 hS hx rfl | exact Sl.get0 hS hw0 rfl | exact Sl.get hSs hy (j := 3) rfl | exact Sl.get0 hN hp rfl | exact Sl.get0 hD hdt rfl | (repeat (first | exact Cell.here rfl | apply Cell.there | apply Cell.app)))) rfl rfl rfl ?_
    refine zM ?_
    refine zB ?_
    refine XO_v0 (ev_lookupBool (m := f1 q.1) (ek := Value.int .i64) (a := date - row) mpt_56 key_3 rfl rfl (fun _ => .inr (List.mem_cons_of_mem _ (List.mem_append_left _ (dL_mem hr9))))) rfl rfl rfl ?_
    refine zN ?_
    refine X_cond rfl (fun hc141 => ?_) (fun hc141 => ?_)
    ·
     have hbt : bsyK cr pl (d + 1) q.1 (dayF cr d - row) = true := by rw [hdf, ← hd1.is]; exact hc141
     have hx0 := bsyK_pos hr hin hbt
     rw [hdf] at hx0
     refine X_skip ?_
     refine at_then ?_
     refine X_block ?_
     refine X_region ?_
     refine zM ?_
     refine zB ?_
     refine zA ?_
     refine XO_nil ?_
     refine at_block_n ?_
     exact at_metM rfl rfl rfl _ _ ⟨(date + 2 - (row + 1)).toNat, by omega, row + 1, rfl, rfl, rfl, rfl, by omega, by omega, fun j a b => by by_cases hj : j < row; exact hw3 j a hj; obtain rfl : j = row := (by omega); exact hbt⟩ (.cons rfl (.cons rfl (.cons rfl (.cons rfl (.cons rfl (.cons rfl (.cons rfl (.cons rfl (.cons rfl (.cons rfl (.cons rfl (.cons rfl (.cons rfl .nil))))))))))))) .refl
    have hbf : bsyK cr pl (d + 1) q.1 (dayF cr d - row) = false := by rw [hdf, ← hd1.is]; exact hc141
    have hb5 := brk_5 hr hin hdl hbz hw1 hw3 hbf
    refine X_exit ?_
    refine at_then_e ?_
    refine at_then_e ?_
    refine at_block_hit ?_
    refine at_then ?_
    refine zR ?_
    refine zM ?_
    refine XO_v0 (ev_fieldAddr rfl fld_33_4) rfl rfl rfl ?_
    refine XO_v0 (ev_load rfl sct_3 (fun hg => by first | exact Cell.imm h2 rfl | exact Cell.imm h10 rfl | exact Cell.imm h12 rfl | exact Cell.imm h13 rfl | exact Cell.imm h14 rfl | exact Sl.get0 hS hx rfl | exact Sl.get0 hS hw0 rfl | exact Sl.get hSs hy (j := 3) rfl | exact Sl.get0 hN hp rfl | exact Sl.get0 hD hdt rfl | (repeat (first | exact Cell.here rfl | apply Cell.there | apply Cell.app)))) rfl rfl rfl ?_
    refine zC ?_
    refine zN ?_
    refine X_cond rfl (fun hc147 => ?_) (fun hc147 => ?_)
    ·
     have hb6 : brk cr pl ⟨5, d, q.1⟩ = true := by rw [hb5, ← e4]; exact hc147
     refine X_region ?_
     refine zM ?_
     refine zM ?_
     refine zM ?_
     refine XO_v0 (ev_buildL (ps := [(0, _), (1, _), (2, _)]) [_, _, _] plt_91 rfl rfl) rfl rfl rfl ?_
     refine XO_mapUpdate (m := kmap ks6) (ek := encBrA) (ev := Value.bool) (a := ⟨5, (d : Int), q.1⟩) true mpt_130 key_91 rfl rfl rfl rfl (by first | exact dL_upd hd2.nd hr2 | exact Upd.u0 | exact Upd.u1 | exact Upd.u2 | exact Upd.u3 | exact Upd.u4 | exact Upd.u5 | (repeat (first | exact Upd.here | apply Upd.there | apply upd_app))) ?_
     rw [mset_kmap]
     refine XO_nil ?_
     refine at_block_n ?_
     first
     | exact at_metM rfl rfl rfl _ _ ⟨(cntM (peoL cr pl (d : Int))).length - (seen ++ [i]).length, by rw [List.length_append, List.length_singleton]; omega, seen ++ [i], _, rfl, rfl, rfl, rfl, (hC6.put (inE_yes rfl rfl (by decide) hb6)).congr (inE_end hq), hnd3, hlt3⟩ (.cons rfl (.cons rfl (.cons rfl (.cons rfl (.cons rfl (.cons rfl (.cons rfl (.cons rfl (.cons rfl (.cons rfl (.cons rfl .nil))))))))))) .refl
    have hb6 : brk cr pl ⟨5, d, q.1⟩ = false := by rw [hb5, ← e4]; exact hc147
    refine X_skip ?_
    refine at_block_n ?_
    first
    | exact at_metM rfl rfl rfl _ _ ⟨(cntM (peoL cr pl (d : Int))).length - (seen ++ [i]).length, by rw [List.length_append, List.length_singleton]; omega, seen ++ [i], _, rfl, rfl, rfl, rfl, (hC6.congr (inE_no rfl rfl hb6)).congr (inE_end hq), hnd3, hlt3⟩ (.cons rfl (.cons rfl (.cons rfl (.cons rfl (.cons rfl (.cons rfl (.cons rfl (.cons rfl (.cons rfl (.cons rfl (.cons rfl .nil))))))))))) .refl
   obtain ⟨rfl, hall⟩ := hno hc113
   refine X_exit ?_
   refine at_then_e ?_
   refine at_then_e ?_
   refine at_block_hit ?_
   refine at_block_n ?_
   refine at_then ?_
   refine X_region ?_
   refine zB ?_
   refine zM ?_
   refine XO_nil ?_
   exact at_metM rfl rfl rfl _ _ ⟨x.n - (d + 1), by omega, d + 1, ks4, dm1, f1, rfl, rfl, hB4, rfl, by omega, hC4.congr (inD_end hr hin hdl hall), hd1⟩ (.cons rfl (.cons rfl (.cons rfl (.cons rfl (.cons rfl (.cons rfl (.cons rfl .nil))))))) (by repeat (first | exact .refl | exact subL_left | refine subL_app ?_ | refine .drop ?_ | refine subL_add ?_))
  rintro c9 bd pre I1 loc1 hI1 hpre hF; exact hF.elim
 have hge_d : x.n ≤ d := by have h := hc59; simp at h; omega
 have hA := hB.congr (inB_all (by omega))
 have hk9 : ks.length ≤ 100000 := by rw [set_len hA (brkL_nodup cr pl)]; have := brkL_len h16 pl; omega
 refine X_exit ?_
 refine at_then_e ?_
 refine at_then_e ?_
 refine at_block_hit ?_
 refine at_then ?_
 refine X_seq ?_
 refine X_freeze (take_skip (.there .here)) (fun I17 hI17 hb17 => ?_)
 have hC := hC.mono hI17; have hS := hS.mono hI17; have hSs := hSs.mono hI17; have hD := hD.mono hI17; have hH := hH.mono hI17; have h2 := h2.mono hI17; have h10 := h10.mono hI17; have hIc := hIc.trans hI17; have hB4 := hB4.trans hI17
 have hset := ImmC.of hb17
 refine X_region ?_
 refine zM ?_
 refine XO_callM (cap := []) (vs := [_]) rfl rfl fun_91 .nil (w_keys I17 r_23) rfl rfl ?_
 rintro vv18 I18 L18 hI18 ⟨rfl, b91, rfl, h91⟩
 have hC := hC.mono hI18; have hS := hS.mono hI18; have hSs := hSs.mono hI18; have hD := hD.mono hI18; have hH := hH.mono hI18; have h2 := h2.mono hI18; have h10 := h10.mono hI18; have hset := hset.mono hI18; have hIc := hIc.trans hI18; have hB4 := hB4.trans hI18
 rw [List.nil_append]
 refine XO_callM (cap := []) (vs := [_, _]) rfl rfl fun_90 .nil (w_sortedB fun_128 (w_keysIt I18 hset hk9 h91) hk9) rfl rfl ?_
 rintro vv19 I19 L19 hI19 ⟨zs, hz, hzp, hO⟩
 have hC := hC.mono hI19; have hS := hS.mono hI19; have hSs := hSs.mono hI19; have hD := hD.mono hI19; have hH := hH.mono hI19; have h2 := h2.mono hI19; have h10 := h10.mono hI19; have hset := hset.mono hI19; have hIc := hIc.trans hI19; have hB4 := hB4.trans hI19
 obtain ⟨L9, hL9⟩ : ∃ L9, L9 = L19 := ⟨_, rfl⟩
 subst hL9
 refine zA ?_
 refine zN ?_
 refine X_ret ?_
 refine at_locEq (loc' := (L9 ++ (dL dm f ++ [(r_54, mapO (Value.int .i64) mapV dm)])) ++ MB ms) (by simp) ?_
 exact at_retMs (fun a ha w hw => res1 rfl rfl a ha w) (fun w hw => by obtain ⟨I9, h91, h92, h93⟩ := hw.freezeAll; obtain ⟨a9, c9, rfl, hS9⟩ := hO.sl encBr_len (by decide) (fun b o hb => h93 b o (List.mem_append_left _ hb)); exact ⟨_, I9, [], rfl, hIc.trans h91, h92, SlRes.good (sorted_brk hA.nd hA.is hz hzp).symm hS9⟩)
end Go.Proofs.YtehkiccapbkhnaaGreat
end
section
namespace Go.Kn
open Go
section
variable {C : Cx} {E : Env} {I : HMap} {loc : Loc} {S : GS} {dst : Option Tmp} {ty : TypeId} {pos : String} {af : Array Edge} {gd : Option (Nat × Bool)} {x y z : Operand}
theorem ev_sliceM {t e size n c : Nat} {av : Option Addr} {k k' : IntKind} {i : Int} (hx : evalS S E x = some (.slice av n c)) (hy : evalS S E y = some (.int k i)) (hz : evalS S E z = some (.int k' i)) (hT : SlT C.P t e size) (hb : conj S = true → 0 ≤ i ∧ i ≤ (c : Int)) :
    EvalOp C S E I loc ⟨dst, .slice t x none (some y) (some z), ty, pos, af, gd⟩ (.slice av i.toNat i.toNat) :=
  .of (by intro c e; cases e) fun a w ha hg hc _ => by
    obtain ⟨h1, j, h2, h3⟩ := hT
    have hav : (if i.toNat = 0 then av else av.map (·.add (0 * j.size))) = av := by
      split
      · rfl
      · cases av <;> simp [Addr.add]
    have hi : 0 ≤ i ∧ i ≤ ((i.toNat : Nat) : Int) := by have := hb hc; omega
    simp only [execOp, Option.map_none, Option.map_some, evalS_sound ha hg hc hx, evalS_sound ha hg hc hy, evalS_sound ha hg hc hz, Instr.sliceAt, Instr.slice, Instr.sliceBounds, Instr.sliceBound, asIntOf, Sem.run_bind, Sem.run_pure, run_underlying h1, Result.andThen, if_pos (hb hc), if_pos hi, run_sizeOf h2, hav, Nat.sub_zero]
end
end Go.Kn
namespace Go.Kn
open Go
section
variable {g : World} {I I' H : HMap} {loc loc' L R : Loc} {w w' : World}
/-- 'append' onto a slice that is only read and has no room. -/
theorem run_append_cut {P : Program} (t ty e : TypeId) (i : TypeInfo) (z : Value) {size bytes : Nat} (ht : P.underlying t = some (.slice e)) (hi : P.info? e = some i) (hz : i.zero = some z)
    (hsize : i.size = size) (hby : i.bytes = bytes) (hzs : z.cells.size = size)
    {bv : Option Addr} {n : Nat} {xs : List Value} {av : Option Addr} {m c : Nat} {ys : List Value} (hX : Src I loc bv n size xs) (hw : St g I H loc w) (hS : Src I loc av m size ys)
    (hB : (n + m) * (bytes + 1) ≤ 70368744177664) :
    ∃ v' w' L', (Builtin.append_ #[t, t] ty #[.slice bv n n, .slice av m c]).run P w = .ok v' w' ∧ St g I H (L' ++ loc) w' ∧ ((m = 0 ∧ v' = .slice bv n n ∧ L' = []) ∨ OwnS e size v' (n + m) (xs ++ ys) L') := by
  subst hsize
  subst hby
  have hnm : n + m ≤ 70368744177664 := by
    have : (n + m) * 1 ≤ (n + m) * (i.bytes + 1) := Nat.mul_le_mul_left _ (by omega)
    omega
  have hbytes : (n + m) * i.bytes ≤ 140737488355328 := by
    have : (n + m) * i.bytes ≤ (n + m) * (i.bytes + 1) := Nat.mul_le_mul_left _ (by omega)
    omega
  have hmL : n + m ≤ maxLen := by simp only [maxLen]; omega
  have hlen : (xs ++ ys).length = (n + m) * i.size := by rw [List.length_append, hX.len, hS.len, Nat.add_mul]
  by_cases hm : m = 0
  · subst hm
    refine ⟨.slice bv n n, w, [], ?_, hw, .inl ⟨rfl, rfl, rfl⟩⟩
    cases av <;> cases bv <;> simp [Builtin.append_, run_underlying ht, sizeOf, typeInfo, hi, Builtin.lenOf, Builtin.firstCells, loadCells, loadCellsFrom, storeCells]
  · have hav := hS.base hm
    have hnews : ∀ j u, ys[j]? = some u → w.cell? ((⟨Ab av, Ao av, none⟩ : Addr).add j) = some u := fun j u hj => by rw [add_plain]; exact (hS.cells j u hj).get hw
    rw [hav]
    have grown : ∀ (old : Nat), old < n + m → ∃ L', OwnS e i.size (.slice (some ⟨w.heap.size, 0, none⟩) (n + m) (grownCap w (n + m) old e)) (n + m) (xs ++ ys) L' ∧
        St g I H (L' ++ loc) (w.drew.alloc (.cells (xs.toArray ++ ys.toArray ++ Builtin.zeroCells z.cells (grownCap w (n + m) old e - (n + m))) e)) := by
      intro old ho
      have hge := grownCap_ge w (n + m) old e
      have hcm : grownCap w (n + m) old e ≤ maxLen := grownCap_le_maxLen w (n + m) old e hmL
      refine ⟨_, ⟨hlen, .inr ⟨w.heap.size, _, xs.toArray ++ ys.toArray ++ Builtin.zeroCells z.cells (grownCap w (n + m) old e - (n + m)), rfl, rfl, hge, hcm, ?_, ?_⟩⟩, ?_⟩
      · simp only [Array.size_append, List.size_toArray, size_zeroCells', hzs, hX.len, hS.len, ← Nat.add_mul]
        congr 1
        omega
      · simp only [Array.toList_append, List.append_assoc]
        rw [← List.append_assoc, ← hlen]
        exact List.take_left
      · exact hw.drew'.alloc _
    obtain ⟨L', h1', h2'⟩ := grown n (by omega)
    cases bv with
    | none =>
      have hn0 : n = 0 := Decidable.byContradiction fun h => by have := hX.base h; cases this
      subst hn0
      have hx : xs = [] := List.eq_nil_of_length_eq_zero (by simpa using hX.len)
      subst hx
      have hr := run_append_nil (P := P) w t ty e i z ht hi hz ⟨Ab av, Ao av, none⟩ m c ys hS.len hnews (by omega) (by omega) (by simp only [Nat.zero_add] at hbytes; omega)
      simp only [Nat.zero_add, List.nil_append, Array.empty_append] at h1' h2' ⊢
      exact ⟨_, _, L', hr, h2', .inr h1'⟩
    | some q =>
      have holds : ∀ j u, xs[j]? = some u → w.cell? (q.add j) = some u := fun j u hj => by
        by_cases hn0 : n = 0
        · subst hn0
          have hx : xs = [] := List.eq_nil_of_length_eq_zero (by simpa using hX.len)
          subst hx; simp at hj
        · have hq := hX.base hn0
          have hq2 : q = ⟨Ab (some q), Ao (some q), none⟩ := Option.some.inj hq
          rw [hq2, add_plain]
          exact (hX.cells j u hj).get hw
      have hr := run_append_grow (P := P) w t ty e i z ht hi hz q n n xs hX.len holds ⟨Ab av, Ao av, none⟩ m c ys hS.len hnews (by omega) (by omega) (growslice_fits (by omega) hbytes)
      exact ⟨_, _, L', hr, h2', .inr h1'⟩
end
end Go.Kn
namespace Go.Kn
open Go
section
variable {C : Cx} {Q : Exit → Act → World → Prop} {E : Env} {I : HMap} {loc : Loc} {ops : Array Oper} {rest : List Oper} {d : Nat} {ty : TypeId} {pos : String} {af : Array Edge} {gd : Option (Nat × Bool)} {x y : Operand}
/-- 'append' onto a slice that is only read and has no room; what comes is read from now on. -/
theorem XO_appendCut {α : Type} {enc : α → List Value} {t e size bytes n m c : Nat} {av bv : Option Addr} {xs ys : List α} (hs : ∀ x, (enc x).length = size) (hsz : 0 < size) (hx : evalS [] E x = some (.slice bv n n)) (hy : evalS [] E y = some (.slice av m c)) (hT : ElT C.P t e size bytes)
    (hX : Sl I size enc bv n n xs) (hS : Sl I size enc av m c ys) (hB : (n + m) * (bytes + 1) ≤ 70368744177664) (hG : gd = none) (hN : Nat.blt d C.N = true)
    (h : ∀ I' a' c', HLe I I' → Sl I' size enc a' (n + m) c' (xs ++ ys) → XO C Q ops rest [] ((d, .slice a' (n + m) c') :: E) I' loc) :
    XO C Q ops (⟨some d, .call ⟨.builtin .append, #[x, y], #[t, t]⟩, ty, pos, af, gd⟩ :: rest) [] E I loc :=
  XO_world hG (by intro c e; cases e) fun a w ha hw => by
    obtain ⟨ht, i, zz, hi, hz, hs', hb, hzs⟩ := hT
    obtain ⟨v', w', L', hr, hw', hm⟩ := run_append_cut (P := C.P) t ty e i zz ht hi hz hs' hb hzs (c := c) (hX.src hs) hw (hS.src hs) hB
    simp only [execOp, resolve, List.map_toArray, List.map_cons, List.map_nil, evalS_sound (S := []) ha trivial rfl hx, evalS_sound (S := []) ha trivial rfl hy, Sem.run_bind, Sem.run_pure, Result.andThen, invoke, builtin, hr, Oper.uponIn_value]
    rcases hm with ⟨hm0, rfl, rfl⟩ | hO
    · subst hm0
      have hy0 : ys = [] := List.eq_nil_of_length_eq_zero hS.len
      subst hy0
      exact h I bv n (HLe.refl I) (by rw [List.append_nil]; exact hX) _ _ (ha.put hN _) trivial hw'
    · rw [← List.flatMap_append] at hO
      obtain ⟨I', a', c', h1, h2, rfl, h4⟩ := OwnS.freeze (R := loc) hO hs hsz hw'
      exact h I' a' c' h1 h4 _ _ (ha.put hN _) trivial h2
end
end Go.Kn
namespace Go.Kn
open Go
section
variable {C : Cx} {Q : Exit → Act → World → Prop} {E : Env} {I : HMap} {loc : Loc} {ops : Array Oper} {rest : List Oper} {d : Nat} {ty : TypeId} {pos : String} {af : Array Edge} {gd : Option (Nat × Bool)} {x y : Operand}
end
section
variable {C : Cx} {S : GS} {E : Env} {I : HMap} {loc : Loc} {dst : Option Tmp} {ty : TypeId} {pos : String} {af : Array Edge} {gd : Option (Nat × Bool)} {x y : Operand}
end
theorem Sl.cut {α : Type} {I : HMap} {size : Nat} {enc : α → List Value} {av : Option Addr} {n c : Nat} {xs : List α} (h : Sl I size enc av n c xs) : Sl I size enc av n n xs := ⟨h.len, Nat.le_refl _, h.base, h.cells⟩
theorem at_freezeO {C : Cx} {Q : Exit → Act → World → Prop} {E : Env} {I : HMap} {loc L R : Loc} {α : Type} {e size n : Nat} {enc : α → List Value} {v : Value} {xs : List α} {ex : Exit} (hO : OwnS e size v n (xs.flatMap enc) L) (hs : ∀ x, (enc x).length = size) (hsz : 0 < size) (hsp : Split loc L R)
    (h : ∀ I', HLe I I' → ∀ av c0, v = .slice av n c0 → Sl I' size enc av n c0 xs → At C Q ex E I' R) : At C Q ex E I loc := fun a w ha hw =>
  let ⟨I', av, c0, h1, h2, h3, h4⟩ := OwnS.freeze (R := R) hO hs hsz (hw.unsplit hsp)
  h I' h1 av c0 h3 h4 a w ha h2
end Go.Kn
end
section
namespace Go.Kn
open Go
/-- What a block's variable holds. -/
def LdV (P : Program) (I : HMap) (loc : Loc) (tt b : Nat) (v : Value) : Prop := ∀ (g : World) (H : HMap) (w : World), St g I H loc w → (loadVar tt ⟨b, 0, none⟩).run P w = .ok v w
theorem LdV.sc {P : Program} {I : HMap} {loc : Loc} {tt b : Nat} {v : Value} (hT : ScT P tt) (hc : Cell I loc b 0 v) : LdV P I loc tt b v := fun g H w hw => by
  simp only [loadVar, Sem.run_bind, run_isAgg_sc hT, Result.andThen, Bool.false_eq_true, if_false, run_load, hc.get hw]
theorem LdV.ag {P : Program} {I : HMap} {loc : Loc} {tt b n : Nat} {vs : List Value} (hA : AgT P tt n) (hc : Cells I loc b 0 vs) (hn : vs.length = n) : LdV P I loc tt b (.agg vs.toArray) := fun g H w hw => by
  have h1 : (loadCells ⟨b, 0, none⟩ n).run P w = .ok vs.toArray w := by
    rw [← hn]
    exact run_loadCells_list w _ _ fun j v hj => by rw [add_plain]; exact (hc j v hj).get hw
  have hA' := hA
  obtain ⟨_, i, h2, h3⟩ := hA'
  simp only [loadVar, Sem.run_bind, Sem.run_pure, run_isAgg_ag hA, Result.andThen, if_true, run_sizeOf h2, h3, h1]
section
variable {P : Program} {fn : Func} {R : Ending → World → Prop} {N : Nat} {g : World} {I H : HMap} {loc : Loc} {E : Env} {r : Option Nat}
theorem at_ret1L {t tt b : Nat} {v : Value} (hr : fn.results = #[.cell t tt]) (hv : look E t = some (.pointer (some ⟨b, 0, none⟩))) (hl : LdV P I loc tt b v)
    (h : ∀ w, St g I H loc w → R (.returned v) w) : At ⟨P, r, N, [], g, H⟩ (bodyPost P fn R) .ret E I loc := fun a w ha hw =>
  ⟨ha.defers, v, by
    have e1 := ha.env _ _ hv
    rw [Array.getD_eq_getD_getElem?] at e1
    have l1 := hl _ _ _ hw
    simp only [results, hr]
    simp [List.mapM_cons, e1, asAddr, l1], h w hw⟩
theorem at_ret3L {t u s tt b : Nat} {v v' v'' : Value} (hr : fn.results = #[.cell t tt, .tmp u, .tmp s]) (hv : look E t = some (.pointer (some ⟨b, 0, none⟩))) (hv' : look E u = some v') (hv'' : look E s = some v'') (hl : LdV P I loc tt b v)
    (h : ∀ w, St g I H loc w → R (.returned (.tuple #[v, v', v''])) w) : At ⟨P, r, N, [], g, H⟩ (bodyPost P fn R) .ret E I loc := fun a w ha hw =>
  ⟨ha.defers, .tuple #[v, v', v''], by
    have e1 := ha.env _ _ hv
    have e2 := ha.env _ _ hv'
    have e3 := ha.env _ _ hv''
    rw [Array.getD_eq_getD_getElem?] at e1 e2 e3
    have l1 := hl _ _ _ hw
    simp only [results, hr]
    simp [List.mapM_cons, e1, e2, e3, asAddr, l1], h w hw⟩
theorem at_ret3LL {t u s tt tt' b b' : Nat} {v v' v'' : Value} (hr : fn.results = #[.cell t tt, .cell u tt', .tmp s]) (hv : look E t = some (.pointer (some ⟨b, 0, none⟩))) (hv' : look E u = some (.pointer (some ⟨b', 0, none⟩))) (hv'' : look E s = some v'') (hl : LdV P I loc tt b v) (hl' : LdV P I loc tt' b' v')
    (h : ∀ w, St g I H loc w → R (.returned (.tuple #[v, v', v''])) w) : At ⟨P, r, N, [], g, H⟩ (bodyPost P fn R) .ret E I loc := fun a w ha hw =>
  ⟨ha.defers, .tuple #[v, v', v''], by
    have e1 := ha.env _ _ hv
    have e2 := ha.env _ _ hv'
    have e3 := ha.env _ _ hv''
    rw [Array.getD_eq_getD_getElem?] at e1 e2 e3
    have l1 := hl _ _ _ hw
    have l2 := hl' _ _ _ hw
    simp only [results, hr]
    simp [List.mapM_cons, e1, e2, e3, asAddr, l1, l2], h w hw⟩
end
end Go.Kn
end
section
namespace Go.Proofs.YtehkiccapbkhnaaGreat
open Go Go.Kn Go.Proofs
/-- A proof with the head of its kids. -/
structure PH where
  r : Int
  d : Int
  w : Int
  a : Option Addr
  n : Nat
  c : Nat
def encPH (h : PH) : List Value := [.int .i64 h.r, .int .i64 h.d, .int .i64 h.w, .slice h.a h.n h.c]
theorem encPH_len (h : PH) : (encPH h).length = 4 := rfl
theorem one_PH (xs : List PH) : allOne (xs.flatMap encPH) = true := allOne_flat (fun _ => rfl) xs
def encPHA (h : PH) : Value := .agg (encPH h).toArray
mutual
def PrAt (I : HMap) : PH → Pr → Prop
  | h, .mk r d w ks => h.r = r ∧ h.d = d ∧ h.w = w ∧ ∃ hs, Sl I 4 encPH h.a h.n h.c hs ∧ PrsAt I hs ks
def PrsAt (I : HMap) : List PH → List Pr → Prop
  | [], [] => True
  | h :: hs, k :: ks => PrAt I h k ∧ PrsAt I hs ks
  | _, _ => False
end
mutual
theorem PrAt.monoX {I I' : HMap} (hI : HLe I I') : ∀ {p : Pr} {h : PH}, PrAt I h p → PrAt I' h p
  | .mk r d w ks, h, H => by
    unfold PrAt at *
    obtain ⟨h1, h2, h3, hs, h4, h5⟩ := H
    exact ⟨h1, h2, h3, hs, h4.mono hI, PrsAt.monoX hI h5⟩
theorem PrsAt.monoX {I I' : HMap} (hI : HLe I I') : ∀ {ks : List Pr} {hs : List PH}, PrsAt I hs ks → PrsAt I' hs ks
  | [], [], _ => trivial
  | [], _ :: _, H => H.elim
  | _ :: _, [], H => H.elim
  | k :: ks, h :: hs, H => ⟨PrAt.monoX hI H.1, PrsAt.monoX hI H.2⟩
end
theorem PrAt.mono {I I' : HMap} {p : Pr} {h : PH} (H : PrAt I h p) (hI : HLe I I') : PrAt I' h p := PrAt.monoX hI H
theorem PrsAt.mono {I I' : HMap} {ks : List Pr} {hs : List PH} (H : PrsAt I hs ks) (hI : HLe I I') : PrsAt I' hs ks := PrsAt.monoX hI H
theorem PrsAt.nil {I : HMap} : PrsAt I [] [] := trivial
theorem PrsAt.snoc {I : HMap} : ∀ {hs : List PH} {ks : List Pr} {h : PH} {k : Pr}, PrsAt I hs ks → PrAt I h k → PrsAt I (hs ++ [h]) (ks ++ [k])
  | [], [], _, _, _, H => ⟨H, trivial⟩
  | [], _ :: _, _, _, H, _ => H.elim
  | _ :: _, [], _, _, H, _ => H.elim
  | _ :: _, _ :: _, _, _, H, G => ⟨H.1, H.2.snoc G⟩
theorem PrsAt.len {I : HMap} : ∀ {hs : List PH} {ks : List Pr}, PrsAt I hs ks → hs.length = ks.length
  | [], [], _ => rfl
  | [], _ :: _, H => H.elim
  | _ :: _, [], H => H.elim
  | _ :: _, _ :: _, H => by simp [H.2.len]
theorem PrsAt.at {I : HMap} : ∀ {hs : List PH} {ks : List Pr}, PrsAt I hs ks → ∀ (i : Nat) (h : PH), hs[i]? = some h → ∃ k, ks[i]? = some k ∧ PrAt I h k
  | [], [], _, i, h, e => by simp at e
  | [], _ :: _, H, _, _, _ => H.elim
  | _ :: _, [], H, _, _, _ => H.elim
  | a :: hs, k :: ks, H, i, h, e => by
    cases i with
    | zero => simp at e; subst e; exact ⟨k, rfl, H.1⟩
    | succ i => simpa using H.2.at i h (by simpa using e)
theorem PrAt.node {I : HMap} {r d w : Int} {av : Option Addr} {n c : Nat} {hs : List PH} {ks : List Pr} (hS : Sl I 4 encPH av n c hs) (hP : PrsAt I hs ks) : PrAt I ⟨r, d, w, av, n, c⟩ (.mk r d w ks) := by
  unfold PrAt; exact ⟨rfl, rfl, rfl, hs, hS, hP⟩
theorem PrAt.leaf {I : HMap} (b : Br) : PrAt I ⟨b.r, b.d, b.w, none, 0, 0⟩ (leafP b) := PrAt.node Sl.nil PrsAt.nil
/-- What a search from a beginning hands back. -/
def SrQ (c : Cr) (last f : Nat) (pl : List Int) (bp tt : Nat) (pv : Value) : Value → HMap → Go.Kn.Loc → Prop := fun v I' L' => ∃ (h : PH) (pv' : Value) (fd : Bool), v = .tuple #[encPHA h, .bool fd] ∧ L' = [(bp, .cells #[pv'] tt (0, 0))] ∧ PrAt I' h (srch c last f pl).1 ∧
  ((fd = false ∧ (srch c last f pl).2 = none ∧ pv' = pv) ∨ (fd = true ∧ ∃ x a cc, (srch c last f pl).2 = some x ∧ pv' = .slice a x.length cc ∧ Sl I' 1 encI a x.length cc x))
/-- What a day's search has left in the plan's block. -/
def KidQ (c : Cr) (last f : Nat) (pl : List Int) (fd : Bool) (pv' pv : Value) (I' : HMap) : Prop :=
  (fd = false ∧ (srch c last f pl).2 = none ∧ pv' = pv) ∨ (fd = true ∧ ∃ x a cc, (srch c last f pl).2 = some x ∧ pv' = .slice a x.length cc ∧ Sl I' 1 encI a x.length cc x)
theorem KidQ.no {c : Cr} {last f : Nat} {pl : List Int} {pv' pv : Value} {I : HMap} (h : KidQ c last f pl false pv' pv I) : (srch c last f pl).2 = none ∧ pv' = pv := by
  rcases h with h | ⟨h1, _⟩
  · exact h.2
  · cases h1
theorem KidQ.yes {c : Cr} {last f : Nat} {pl : List Int} {pv' pv : Value} {I : HMap} (h : KidQ c last f pl true pv' pv I) : ∃ x a cc, (srch c last f pl).2 = some x ∧ pv' = .slice a x.length cc ∧ Sl I 1 encI a x.length cc x := by
  rcases h with h | ⟨_, h⟩
  · cases h.1
  · exact h
/-- The days so far: none gave a plan. -/
def GoQ (c : Cr) (last f : Nat) (pl : List Int) (d : Nat) (ks : List Pr) : Prop := srch c last (f + 1) pl = goS (fun d => srch c last f (pl ++ [(d : Int)])) (last - d) d ks
theorem goQ_0 {c : Cr} {last f : Nat} {pl : List Int} (h : brkL c pl = []) : GoQ c last f pl 0 [] := by unfold GoQ; rw [srch_step h, Nat.sub_zero]
theorem goQ_no {c : Cr} {last f : Nat} {pl : List Int} {d : Nat} {ks : List Pr} (h : GoQ c last f pl d ks) (hd : d < last) (hn : (srch c last f (pl ++ [(d : Int)])).2 = none) : GoQ c last f pl (d + 1) (ks ++ [(srch c last f (pl ++ [(d : Int)])).1]) := by
  unfold GoQ at *
  rw [h, show last - d = (last - (d + 1)) + 1 by omega, goS_none (g := fun d => srch c last f (pl ++ [(d : Int)])) hn]
theorem goQ_yes {c : Cr} {last f : Nat} {pl : List Int} {d : Nat} {ks : List Pr} {x : List Int} (h : GoQ c last f pl d ks) (hd : d < last) (hn : (srch c last f (pl ++ [(d : Int)])).2 = some x) : srch c last (f + 1) pl = (.mk 0 0 0 ks, some x) := by
  unfold GoQ at h
  rw [h, show last - d = (last - (d + 1)) + 1 by omega, goS_some (g := fun d => srch c last f (pl ++ [(d : Int)])) hn]
theorem goQ_end {c : Cr} {last f : Nat} {pl : List Int} {d : Nat} {ks : List Pr} (h : GoQ c last f pl d ks) (hd : last ≤ d) : srch c last (f + 1) pl = (.mk 0 0 0 ks, none) := by
  unfold GoQ at h
  rw [h, show last - d = 0 by omega]; rfl
end Go.Proofs.YtehkiccapbkhnaaGreat
end
section
namespace Go.Proofs.YtehkiccapbkhnaaGreat
open Go Go.Kn Go.Proofs
theorem agt_45 : AgT Tryz.prog 45 4 := .of (by kernel_rfl)
theorem elt_35 : ElT Tryz.prog 35 45 4 48 := .of (by kernel_rfl)
theorem fld_45_3 : FieldAt Tryz.prog 45 3 3 := .of (by kernel_rfl)
theorem fun_55 : Fun Tryz.prog 55 := .of Tryz.func55 (by kernel_rfl) (by kernel_rfl)
theorem fun_56 : Fun Tryz.prog 56 := .of Tryz.func56 (by kernel_rfl) (by kernel_rfl)
theorem fun_96 : Fun Tryz.prog 96 := .of Tryz.func96 (by kernel_rfl) (by kernel_rfl)
theorem plt_45 : PlT Tryz.prog 45 #[(0, 1), (1, 1), (2, 1), (3, 1)] (.agg #[(.int .i64 0), (.int .i64 0), (.int .i64 0), (.slice none 0 0)]) := ⟨.of (by kernel_rfl), by kernel_rfl, fun w => by kernel_rfl⟩
theorem sct_142 : ScT Tryz.prog 142 := .of (by kernel_rfl)
theorem sct_35 : ScT Tryz.prog 35 := .of (by kernel_rfl)
theorem slt_35 : SlT Tryz.prog 35 45 4 := .of (by kernel_rfl)
theorem slt_88 : SlT Tryz.prog 88 91 3 := .of (by kernel_rfl)
theorem szt_23 : SzT Tryz.prog 23 1 := .of (by kernel_rfl)
theorem szt_35 : SzT Tryz.prog 35 1 := .of (by kernel_rfl)
theorem szt_45 : SzT Tryz.prog 45 4 := .of (by kernel_rfl)
theorem zt_45 : ZeroT Tryz.prog 45 (.agg #[(.int .i64 0), (.int .i64 0), (.int .i64 0), (.slice none 0 0)]) := .of (by kernel_rfl)
theorem w_leaf (I : HMap) (b : Br) : RetV Tryz.prog 56 [encBrA b] I (encPHA ⟨b.r, b.d, b.w, none, 0, 0⟩) := by
 intro g H w hw
 refine enter Tryz.func56 rfl Tryz.ntmps56 rfl hw ?_
 refine zR ?_
 refine XO_box rfl rfl rfl (fun b_1 => ?_)
 refine XO_alloc zt_45 rfl rfl (fun b_2 => ?_)
 refine zN (zR ?_)
 refine XO_v0 (ev_fieldAddr rfl fld_91_0) rfl rfl rfl ?_
 refine zL sct_3 ?_
 refine XO_v0 (ev_fieldAddr rfl fld_91_1) rfl rfl rfl ?_
 refine zL sct_3 ?_
 refine XO_v0 (ev_fieldAddr rfl fld_91_2) rfl rfl rfl ?_
 refine zL sct_3 ?_
 refine XO_v0 (ev_buildL (ps := [(0, _), (1, _), (2, _)]) [_, _, _, _] plt_45 rfl rfl) rfl rfl rfl ?_
 refine XO_storeA rfl rfl szt_45 rfl rfl rfl rfl (by repeat (first | exact Upd.here | apply Upd.there | apply upd_app)) ?_
 refine zN ?_
 refine X_ret ?_
 exact at_ret1L rfl rfl (.ag agt_45 (Cells.here (vs := encPH ⟨b.r, b.d, b.w, none, 0, 0⟩)) rfl) (fun w hw => ⟨rfl, hw.drop⟩)
theorem w_bk1 {I : HMap} {x : CH} {b : Nat} (hb : ImmC I b (.cells (encCH x).toArray 33 (0, 0))) (d : Int) : RetV Tryz.prog 54 [.int .i64 d, capP b] I (.bool (decide (d < 0) || decide (d ≥ (x.n : Int)))) := by
 intro g H w hw
 refine enter Tryz.func54 rfl Tryz.ntmps54 rfl hw ?_
 refine zR ?_
 refine zA ?_
 refine zN (zR ?_)
 refine zM ?_
 refine zC ?_
 refine zM ?_
 refine XO_pushF 2 rfl rfl rfl ?_
 refine XO_v1 (ev_move rfl) (.some rfl rfl rfl rfl gbf) rfl rfl rfl ?_
 refine XO_v1 (ev_fieldAddr rfl fld_33_0) (.some rfl rfl rfl rfl gbf) rfl rfl rfl ?_
 refine XO_v1 (ev_load rfl sct_23 (fun hg => by first | exact Cell.imm hb rfl | (repeat (first | exact Cell.here rfl | apply Cell.there | apply Cell.app)))) (.some rfl rfl rfl rfl gbf) rfl rfl rfl ?_
 refine XO_v1 (ev_lenS rfl slt_23) (.some rfl rfl rfl rfl gbf) rfl rfl rfl ?_
 refine XO_v1 (ev_cmp rfl rfl rfl) (.some rfl rfl rfl rfl gbf) rfl rfl rfl ?_
 refine XO_or0 rfl rfl rfl rfl rfl ?_
 refine zA ?_
 refine zN ?_
 refine X_ret ?_
 exact at_ret1 rfl rfl (fun w hw => ⟨by rfl, hw.drop⟩)
theorem w_from_step {I : HMap} {x : CH} {cr : Cr} (hC : CrAt I x cr) (hr : rightF cr = true) (h16 : cr.days.length ≤ 16) (h8 : cr.ss.length ≤ 8) (hwh : ∀ s ∈ cr.ss, s.who.length ≤ 6) (hnd : ∀ s ∈ cr.ss, s.needs.length ≤ 100000) {bc bp bl bf last f : Nat} (hl9 : last ≤ cr.days.length) (hbc : ImmC I bc (.cells (encCH x).toArray 33 (0, 0))) (hbl : ImmC I bl (.cells #[.int .i64 last] 3 (0, 0))) (hbf : ImmC I bf (.cells #[.func (.func 96) #[] [capP bc, capP bp, capP bl, capP bf].toArray] 142 (0, 0))) {av : Option Addr} {n c : Nat} {pl : List Int} (hS : Sl I 1 encI av n c pl) (hlen : pl.length + f = cr.ss.length) (hin : InR cr pl) (pv : Value) (ih : ∀ f', f = f' + 1 → ∀ (I' : HMap), HLe I I' → ∀ (av' : Option Addr) (n' c' : Nat) (pl' : List Int), Sl I' 1 encI av' n' c' pl' → pl'.length + f' = cr.ss.length → InR cr pl' → ∀ (pv' : Value), RetM Tryz.prog 96 ([.slice av' n' c'] ++ [capP bc, capP bp, capP bl, capP bf]) I' [(bp, .cells #[pv'] 23 (0, 0))] (SrQ cr last f' pl' bp 23 pv')) : RetM Tryz.prog 96 [.slice av n c, capP bc, capP bp, capP bl, capP bf] I [(bp, .cells #[pv] 23 (0, 0))] (SrQ cr last f pl bp 23 pv) := by
 intro g H w hw
 refine enter Tryz.func96 rfl Tryz.ntmps96 rfl hw ?_
 have hIc := HLe.refl I
 have hlP := hS.len
 have hlS : cr.ss.length = x.n2 := hC.2.2.2.2.2.len
 refine zR ?_
 refine XO_alloc zt_45 rfl rfl (fun b_6 => ?_)
 refine zA ?_
 refine zN ?_
 refine X_scope ?_
 refine X_seq ?_
 refine zR ?_
 refine XO_v0 (ev_loadA rfl agt_33 (fun hg => by first | exact Cells.immC hbc | exact Sl.getA hB9 hb0 | (repeat (first | exact Cells.here | exact Cells.s0 (vs := [_, _, _, _, _, _]) rfl | apply Cells.there | apply Cells.app))) rfl) rfl rfl rfl ?_
 refine zM ?_
 refine XO_callM (cap := []) (vs := [_, _]) rfl rfl fun_55 .nil (w_broken hC hr h16 h8 hwh hnd hS (by omega) hin) rfl rfl ?_
 rintro vv1 I1 L1 hI1 ⟨rfl, ab9, cb9, rfl, hB9⟩
 have hC := hC.mono hI1; have hS := hS.mono hI1; have hbc := hbc.mono hI1; have hbl := hbl.mono hI1; have hbf := hbf.mono hI1; have hIc := hIc.trans hI1
 rw [List.nil_append]
 refine zA ?_
 refine zN (zR ?_)
 refine zM ?_
 refine XO_v0 (ev_lenS rfl slt_88) rfl rfl rfl ?_
 refine zC ?_
 refine zN ?_
 refine X_cond rfl (fun hc17 => ?_) (fun hc17 => ?_)
 ·
  obtain ⟨b0, l0, hbl0⟩ : ∃ b l, brkL cr pl = b :: l := by cases e9 : brkL cr pl with | nil => rw [e9] at hc17; simp at hc17 | cons b l => exact ⟨b, l, rfl⟩
  have hb0 : (brkL cr pl)[0]? = some b0 := by rw [hbl0]; rfl
  have hbn : 0 < (brkL cr pl).length := by rw [hbl0]; simp
  refine zR ?_
  refine zM ?_
  refine XO_v0 (ev_indexSl rfl rfl slt_88 (by assumption) (fun hg => by first | omega | (simp [conj] at hg; omega))) rfl rfl rfl ?_
  refine XO_v0 (ev_loadA rfl agt_91 (fun hg => by first | exact Cells.immC hbc | exact Sl.getA hB9 hb0 | (repeat (first | exact Cells.here | exact Cells.s0 (vs := [_, _, _]) rfl | apply Cells.there | apply Cells.app))) rfl) rfl rfl rfl ?_
  refine XO_callV0 (cap := []) (vs := [_]) rfl rfl fun_56 (w_leaf _ _) rfl rfl ?_
  refine XO_storeA rfl rfl szt_45 rfl rfl rfl rfl (by repeat (first | exact Upd.here | apply Upd.there | apply upd_app)) ?_
  refine zA ?_
  refine zN ?_
  refine X_ret ?_
  refine at_then_r ?_
  refine at_scope_r ?_
  first
  | exact at_ret2A rfl rfl rfl agt_45 (Cells.here (vs := encPH ⟨b0.r, b0.d, b0.w, none, 0, 0⟩)) rfl (fun w hw => ⟨_, I1, _, rfl, hIc, hw.subL (.drop .refl), ⟨b0.r, b0.d, b0.w, none, 0, 0⟩, pv, false, rfl, rfl, by rw [srch_leaf hbl0]; exact PrAt.leaf b0, .inl ⟨rfl, by rw [srch_leaf hbl0], rfl⟩⟩)
 have hnil : brkL cr pl = [] := by cases e9 : brkL cr pl with | nil => rfl | cons b l => rw [e9] at hc17; simp at hc17
 refine X_skip ?_
 refine at_then ?_
 refine X_seq ?_
 refine zR ?_
 refine zM ?_
 refine XO_v0 (ev_lenS rfl slt_23) rfl rfl rfl ?_
 refine XO_v0 (ev_fieldAddr rfl fld_33_5) rfl rfl rfl ?_
 refine XO_v0 (ev_load rfl sct_27 (fun hg => by first | exact Cell.imm hbc rfl | exact Cell.imm hbl rfl | exact Cell.imm hbf rfl | (repeat (first | exact Cell.here rfl | apply Cell.there | apply Cell.app)))) rfl rfl rfl ?_
 refine XO_v0 (ev_lenS rfl slt_27) rfl rfl rfl ?_
 refine zC ?_
 refine zN ?_
 refine X_cond rfl (fun hc27 => ?_) (fun hc27 => ?_)
 ·
  obtain rfl : f = 0 := by have h := hc27; simp at h; omega
  refine zR ?_
  refine zM ?_
  refine XO_callM (cap := []) (vs := [_]) rfl rfl fun_97 .nil (w_cloneI hS (by omega)) rfl rfl ?_
  rintro vv2 I2 L2 hI2 ⟨rfl, hO9⟩
  have hC := hC.mono hI2; have hS := hS.mono hI2; have hbc := hbc.mono hI2; have hbl := hbl.mono hI2; have hbf := hbf.mono hI2; have hB9 := hB9.mono hI2; have hIc := hIc.trans hI2
  obtain ⟨L9, hL9⟩ : ∃ L9, L9 = L2 := ⟨_, rfl⟩
  subst hL9
  obtain ⟨v8, hv8⟩ : ∃ v8, v8 = vv2 := ⟨_, rfl⟩
  subst hv8
  refine XO_store rfl rfl szt_23 hO9.one rfl (by repeat (first | exact Upd.here | apply Upd.there | apply upd_app)) rfl ?_
  refine zN (zR ?_)
  refine XO_v0 (ev_loadA rfl agt_45 (fun hg => by first | exact Cells.immC hbc | exact Sl.getA hB9 hb0 | (repeat (first | exact Cells.here | exact Cells.s0 (vs := [_, _, _, _]) rfl | apply Cells.there | apply Cells.app))) rfl) rfl rfl rfl ?_
  refine XO_storeA rfl rfl szt_45 rfl rfl rfl rfl (by repeat (first | exact Upd.here | apply Upd.there | apply upd_app)) ?_
  refine zA ?_
  refine zN ?_
  refine X_ret ?_
  refine at_then_r ?_
  refine at_scope_r ?_
  first
  | exact at_freezeO hO9 encI_len (by decide) (by repeat (first | exact .cons .here .nil | exact split_all | exact split_app | apply split_cons | apply split_skip)) (fun I7 hI7 a7 c7 e7 hS7 => by subst e7; exact at_ret2A rfl rfl rfl agt_45 (Cells.here (vs := encPH ⟨0, 0, 0, none, 0, 0⟩)) rfl (fun w hw => ⟨_, I7, _, rfl, hIc.trans hI7, hw.subL (.drop .refl), ⟨0, 0, 0, none, 0, 0⟩, _, true, rfl, rfl, by rw [srch_full hnil]; exact PrAt.node Sl.nil PrsAt.nil, .inr ⟨rfl, pl, a7, c7, by rw [srch_full hnil], by rw [hlP], by rw [hlP]; exact hS7⟩⟩))
 obtain ⟨f', rfl⟩ : ∃ f', f = f' + 1 := ⟨f - 1, by have h := hc27; simp at h; omega⟩
 refine X_skip ?_
 refine at_then ?_
 refine X_seq ?_
 refine X_label ?_
 refine at_then ?_
 refine X_seq ?_
 refine X_seq ?_
 refine X_perm [(bp, .cells #[pv] 23 (0, 0)), (b_6, .cells #[.int .i64 0, .int .i64 0, .int .i64 0, .slice none 0 0] 45 (0, 0))] (List.Perm.swap _ _ _) ?_
 refine X_region ?_
 refine XO_v0 (ev_load rfl sct_3 (fun hg => by first | exact Cell.imm hbc rfl | exact Cell.imm hbl rfl | exact Cell.imm hbf rfl | (repeat (first | exact Cell.here rfl | apply Cell.there | apply Cell.app)))) rfl rfl rfl ?_
 refine zM ?_
 refine zN ?_
 refine X_block ?_
 refine X_loopT [(0, _), (4, _), (6, _), (31, _)] (.cons rfl (.cons rfl (.cons rfl (.cons rfl .nil)))) (fun T L0 mz E I' loc' => ∃ (d : Nat) (v : Value) (q : Nat) (L : Go.Kn.Loc) (hs : List PH) (ks : List Pr), mz = last - d ∧ E = (7, .bool false) :: (32, .int .i64 d) :: T ∧ HLe I1 I' ∧ L ++ [(bp, .cells #[pv] 23 (0, 0)), (b_6, .cells #[.int .i64 0, .int .i64 0, .int .i64 0, v] 45 (0, 0))] = loc' ∧ d ≤ last ∧ OwnS 45 4 v q (hs.flatMap encPH) L ∧ q ≤ d ∧ PrsAt I' hs ks ∧ GoQ cr last f' pl d ks) _ _ _ _ ⟨0, _, 0, [], [], [], rfl, rfl, HLe.refl _, rfl, Nat.zero_le _, OwnS.nil, Nat.le_refl _, PrsAt.nil, goQ_0 hnil⟩ (.cons rfl (.cons rfl (.cons rfl (.cons rfl (.cons rfl (.cons rfl .nil)))))) (HLe.refl _) rfl ?_
 rintro mz E J3 loc' ⟨d, v, q, L, hs, ks, rfl, rfl, hJ, rfl, hd, hO, hq, hks, hgo⟩
 have hC := hC.mono hJ; have hS := hS.mono hJ; have hbc := hbc.mono hJ; have hbl := hbl.mono hJ; have hbf := hbf.mono hJ; have hB9 := hB9.mono hJ; have hIc := hIc.trans hJ
 have hB0 := hJ
 refine zR ?_
 refine zC ?_
 refine zN ?_
 refine X_seq ?_
 refine X_cond rfl (fun hc33 => ?_) (fun hc33 => ?_)
 ·
  have hlt_d : d < last := by have h := hc33; simp at h; omega
  refine X_skip ?_
  refine at_then ?_
  refine X_seq ?_
  refine X_block ?_
  refine zR ?_
  refine zM ?_
  refine zA ?_
  refine zN ?_
  refine X_cutT [(0, _), (4, _), (6, _), (7, _), (31, _), (32, _)] (.cons rfl (.cons rfl (.cons rfl (.cons rfl (.cons rfl (.cons rfl .nil)))))) (fun T L0 E I' loc' => ∃ (b10 : Nat) (kh : PH) (kpv : Value) (kfd : Bool), E = (10, capP b10) :: (11, .bool kfd) :: T ∧ HLe J3 I' ∧ (b10, .cells (encPH kh).toArray 45 (0, 0)) :: (bp, .cells #[kpv] 23 (0, 0)) :: (L ++ [(b_6, .cells #[.int .i64 0, .int .i64 0, .int .i64 0, v] 45 (0, 0))]) = loc' ∧ PrAt I' kh (srch cr last f' (pl ++ [(d : Int)])).1 ∧ KidQ cr last f' (pl ++ [(d : Int)]) kfd kpv pv I') ?_ ?_
  ·
   have hKc10 := HLe.refl J3
   have hD := HLe.refl J3
   refine X_noP ?_
   refine X_drawS J3 [] mixed ?_
   refine zT 0 rfl (ev_load rfl sct_142 (fun hg => by first | exact Cell.imm hbc rfl | exact Cell.imm hbl rfl | exact Cell.imm hbf rfl | (repeat (first | exact Cell.here rfl | apply Cell.there | apply Cell.app)))) hD ?_
   refine zT 1 rfl (ev_move rfl) hD ?_
   refine zT 2 rfl (ev_move rfl) hD ?_
   refine zT 3 rfl (ev_lenS rfl slt_23) hD ?_
   refine zT 4 rfl (ev_move rfl) hD ?_
   refine zT 5 rfl (ev_lenS rfl slt_23) hD ?_
   refine zT 6 rfl (ev_sliceM rfl rfl rfl slt_23 (fun _ => by have := hS.cap; omega)) hD ?_
   refine zT 7 rfl (ev_move rfl) hD ?_
   refine XD_two 8 14 rfl rfl (by kernel_rfl) ?_ ?_
   ·
    refine XO_buildSlice (ps := [(0, _)]) (m := [encI (d : Int)]) elt_23 rfl (.cons rfl (.nil)) rfl (by simp [encI_len]) (by decide) (by decide) rfl rfl (fun b_44 => ?_)
    refine XO_freeze (by repeat (first | exact Take.here | apply Take.there)) (fun I4 hI4 hb4 => ?_)
    have hC := hC.mono hI4; have hS := hS.mono hI4; have hbc := hbc.mono hI4; have hbl := hbl.mono hI4; have hbf := hbf.mono hI4; have hB9 := hB9.mono hI4; have hks := hks.mono hI4; have hIc := hIc.trans hI4; have hB0 := hB0.trans hI4; have hKc10 := hKc10.trans hI4; have hD := hD.trans hI4
    have hY := Sl.lit [(d : Int)] rfl encI_len (show I4 _ = some (Obj.cells (([(d : Int)] : List Int).flatMap encI).toArray 3 (0, 0)) from hb4)
    refine XO_nil ?_
    refine zD hD ?_
    refine XD_two 9 14 rfl rfl (by kernel_rfl) ?_ ?_
    ·
     refine XO_appendCut encI_len (by decide) rfl rfl elt_23 hS.cut hY (by omega) rfl rfl ?_
     intro I5 ac cc hI5 hZ
     have hC := hC.mono hI5; have hS := hS.mono hI5; have hbc := hbc.mono hI5; have hbl := hbl.mono hI5; have hbf := hbf.mono hI5; have hB9 := hB9.mono hI5; have hks := hks.mono hI5; have hY := hY.mono hI5; have hIc := hIc.trans hI5; have hB0 := hB0.trans hI5; have hKc10 := hKc10.trans hI5; have hD := hD.trans hI5
     refine XO_nil ?_
     refine zD hD ?_
     refine XD_two 10 14 rfl rfl (by kernel_rfl) ?_ ?_
     ·
      refine XO_callM (cap := [capP bc, capP bp, capP bl, capP bf]) (vs := [_]) rfl rfl fun_96 (by repeat (first | exact .cons .here .nil | exact split_all | exact split_app | apply split_cons | apply split_skip)) (ih f' rfl I5 hIc ac (n + 1) cc _ hZ (by rw [List.length_append, List.length_singleton]; omega) (fun e he => by rcases List.mem_append.1 he with he | he; exact hin e he; (rw [List.mem_singleton] at he; subst he; exact ⟨by omega, by omega⟩)) _) rfl rfl ?_
      rintro vv6 I6 L6 hI6 ⟨kh, kpv, kfd, rfl, rfl, hkp, hkq⟩
      have hC := hC.mono hI6; have hS := hS.mono hI6; have hbc := hbc.mono hI6; have hbl := hbl.mono hI6; have hbf := hbf.mono hI6; have hB9 := hB9.mono hI6; have hks := hks.mono hI6; have hY := hY.mono hI6; have hZ := hZ.mono hI6; have hIc := hIc.trans hI6; have hB0 := hB0.trans hI6; have hKc10 := hKc10.trans hI6
      have hD := hD.trans hI6
      have hkq := show KidQ cr last f' (pl ++ [(d : Int)]) kfd kpv pv _ from hkq
      refine XO_nil ?_
      refine zD hD ?_
      refine zT 11 rfl (ev_move rfl) hD ?_
      refine zT 12 rfl (ev_extract rfl rfl) hD ?_
      refine zT 13 rfl (ev_extract rfl rfl) hD ?_
      refine XD_one 14 rfl (by kernel_rfl) ?_
      refine XO_alloc zt_45 rfl rfl (fun b_10 => ?_)
      refine XO_nil ?_
      refine zD hD ?_
      refine XD_one 15 rfl (by kernel_rfl) ?_
      refine XO_storeA rfl rfl szt_45 rfl rfl rfl rfl (by repeat (first | exact Upd.here | apply Upd.there | apply upd_app)) ?_
      refine XO_nil ?_
      refine zD hD ?_
      refine zT 16 rfl (ev_assign rfl) hD ?_
      refine XD_done (by kernel_rfl) ?_
      refine at_noP ?_
      exact at_met2 _ _ ⟨b_10, kh, kpv, kfd, rfl, hKc10, rfl, hkp, hkq⟩ (.cons rfl (.cons rfl (.cons rfl (.cons rfl (.cons rfl (.cons rfl (.cons rfl (.cons rfl .nil)))))))) .refl
     refine XO_alloc zt_45 rfl rfl (fun b_10 => ?_)
     refine XO_nil ?_
     refine zD hD ?_
     refine XD_one 10 rfl (by kernel_rfl) ?_
     refine XO_callM (cap := [capP bc, capP bp, capP bl, capP bf]) (vs := [_]) rfl rfl fun_96 (by repeat (first | exact .cons .here .nil | exact split_all | exact split_app | apply split_cons | apply split_skip)) (ih f' rfl I5 hIc ac (n + 1) cc _ hZ (by rw [List.length_append, List.length_singleton]; omega) (fun e he => by rcases List.mem_append.1 he with he | he; exact hin e he; (rw [List.mem_singleton] at he; subst he; exact ⟨by omega, by omega⟩)) _) rfl rfl ?_
     rintro vv7 I7 L7 hI7 ⟨kh, kpv, kfd, rfl, rfl, hkp, hkq⟩
     have hC := hC.mono hI7; have hS := hS.mono hI7; have hbc := hbc.mono hI7; have hbl := hbl.mono hI7; have hbf := hbf.mono hI7; have hB9 := hB9.mono hI7; have hks := hks.mono hI7; have hY := hY.mono hI7; have hZ := hZ.mono hI7; have hIc := hIc.trans hI7; have hB0 := hB0.trans hI7; have hKc10 := hKc10.trans hI7
     have hD := hD.trans hI7
     have hkq := show KidQ cr last f' (pl ++ [(d : Int)]) kfd kpv pv _ from hkq
     refine XO_nil ?_
     refine zD hD ?_
     refine zT 11 rfl (ev_move rfl) hD ?_
     refine zT 12 rfl (ev_extract rfl rfl) hD ?_
     refine zT 13 rfl (ev_extract rfl rfl) hD ?_
     refine XD_one 15 rfl (by kernel_rfl) ?_
     refine XO_storeA rfl rfl szt_45 rfl rfl rfl rfl (by repeat (first | exact Upd.here | apply Upd.there | apply upd_app)) ?_
     refine XO_nil ?_
     refine zD hD ?_
     refine zT 16 rfl (ev_assign rfl) hD ?_
     refine XD_done (by kernel_rfl) ?_
     refine at_noP ?_
     exact at_metP _ _ _ ⟨b_10, kh, kpv, kfd, rfl, hKc10, rfl, hkp, hkq⟩ (.cons rfl (.cons rfl (.cons rfl (.cons rfl (.cons rfl (.cons rfl (.cons rfl (.cons rfl .nil)))))))) (List.Perm.swap _ _ _) .refl
    refine XO_alloc zt_45 rfl rfl (fun b_10 => ?_)
    refine XO_nil ?_
    refine zD hD ?_
    refine XD_one 9 rfl (by kernel_rfl) ?_
    refine XO_appendCut encI_len (by decide) rfl rfl elt_23 hS.cut hY (by omega) rfl rfl ?_
    intro I8 ac cc hI8 hZ
    have hC := hC.mono hI8; have hS := hS.mono hI8; have hbc := hbc.mono hI8; have hbl := hbl.mono hI8; have hbf := hbf.mono hI8; have hB9 := hB9.mono hI8; have hks := hks.mono hI8; have hY := hY.mono hI8; have hIc := hIc.trans hI8; have hB0 := hB0.trans hI8; have hKc10 := hKc10.trans hI8; have hD := hD.trans hI8
    refine XO_nil ?_
    refine zD hD ?_
    refine XD_one 10 rfl (by kernel_rfl) ?_
    refine XO_callM (cap := [capP bc, capP bp, capP bl, capP bf]) (vs := [_]) rfl rfl fun_96 (by repeat (first | exact .cons .here .nil | exact split_all | exact split_app | apply split_cons | apply split_skip)) (ih f' rfl I8 hIc ac (n + 1) cc _ hZ (by rw [List.length_append, List.length_singleton]; omega) (fun e he => by rcases List.mem_append.1 he with he | he; exact hin e he; (rw [List.mem_singleton] at he; subst he; exact ⟨by omega, by omega⟩)) _) rfl rfl ?_
    rintro vv9 I9 L9 hI9 ⟨kh, kpv, kfd, rfl, rfl, hkp, hkq⟩
    have hC := hC.mono hI9; have hS := hS.mono hI9; have hbc := hbc.mono hI9; have hbl := hbl.mono hI9; have hbf := hbf.mono hI9; have hB9 := hB9.mono hI9; have hks := hks.mono hI9; have hY := hY.mono hI9; have hZ := hZ.mono hI9; have hIc := hIc.trans hI9; have hB0 := hB0.trans hI9; have hKc10 := hKc10.trans hI9
    have hD := hD.trans hI9
    have hkq := show KidQ cr last f' (pl ++ [(d : Int)]) kfd kpv pv _ from hkq
    refine XO_nil ?_
    refine zD hD ?_
    refine zT 11 rfl (ev_move rfl) hD ?_
    refine zT 12 rfl (ev_extract rfl rfl) hD ?_
    refine zT 13 rfl (ev_extract rfl rfl) hD ?_
    refine XD_one 15 rfl (by kernel_rfl) ?_
    refine XO_storeA rfl rfl szt_45 rfl rfl rfl rfl (by repeat (first | exact Upd.here | apply Upd.there | apply upd_app)) ?_
    refine XO_nil ?_
    refine zD hD ?_
    refine zT 16 rfl (ev_assign rfl) hD ?_
    refine XD_done (by kernel_rfl) ?_
    refine at_noP ?_
    exact at_metP _ _ _ ⟨b_10, kh, kpv, kfd, rfl, hKc10, rfl, hkp, hkq⟩ (.cons rfl (.cons rfl (.cons rfl (.cons rfl (.cons rfl (.cons rfl (.cons rfl (.cons rfl .nil)))))))) (List.Perm.swap _ _ _) .refl
   refine XO_alloc zt_45 rfl rfl (fun b_10 => ?_)
   refine XO_nil ?_
   refine zD hD ?_
   refine XD_one 8 rfl (by kernel_rfl) ?_
   refine XO_buildSlice (ps := [(0, _)]) (m := [encI (d : Int)]) elt_23 rfl (.cons rfl (.nil)) rfl (by simp [encI_len]) (by decide) (by decide) rfl rfl (fun b_44 => ?_)
   refine XO_freeze (by repeat (first | exact Take.here | apply Take.there)) (fun I10 hI10 hb10 => ?_)
   have hC := hC.mono hI10; have hS := hS.mono hI10; have hbc := hbc.mono hI10; have hbl := hbl.mono hI10; have hbf := hbf.mono hI10; have hB9 := hB9.mono hI10; have hks := hks.mono hI10; have hIc := hIc.trans hI10; have hB0 := hB0.trans hI10; have hKc10 := hKc10.trans hI10; have hD := hD.trans hI10
   have hY := Sl.lit [(d : Int)] rfl encI_len (show I10 _ = some (Obj.cells (([(d : Int)] : List Int).flatMap encI).toArray 3 (0, 0)) from hb10)
   refine XO_nil ?_
   refine zD hD ?_
   refine XD_one 9 rfl (by kernel_rfl) ?_
   refine XO_appendCut encI_len (by decide) rfl rfl elt_23 hS.cut hY (by omega) rfl rfl ?_
   intro I11 ac cc hI11 hZ
   have hC := hC.mono hI11; have hS := hS.mono hI11; have hbc := hbc.mono hI11; have hbl := hbl.mono hI11; have hbf := hbf.mono hI11; have hB9 := hB9.mono hI11; have hks := hks.mono hI11; have hY := hY.mono hI11; have hIc := hIc.trans hI11; have hB0 := hB0.trans hI11; have hKc10 := hKc10.trans hI11; have hD := hD.trans hI11
   refine XO_nil ?_
   refine zD hD ?_
   refine XD_one 10 rfl (by kernel_rfl) ?_
   refine XO_callM (cap := [capP bc, capP bp, capP bl, capP bf]) (vs := [_]) rfl rfl fun_96 (by repeat (first | exact .cons .here .nil | exact split_all | exact split_app | apply split_cons | apply split_skip)) (ih f' rfl I11 hIc ac (n + 1) cc _ hZ (by rw [List.length_append, List.length_singleton]; omega) (fun e he => by rcases List.mem_append.1 he with he | he; exact hin e he; (rw [List.mem_singleton] at he; subst he; exact ⟨by omega, by omega⟩)) _) rfl rfl ?_
   rintro vv12 I12 L12 hI12 ⟨kh, kpv, kfd, rfl, rfl, hkp, hkq⟩
   have hC := hC.mono hI12; have hS := hS.mono hI12; have hbc := hbc.mono hI12; have hbl := hbl.mono hI12; have hbf := hbf.mono hI12; have hB9 := hB9.mono hI12; have hks := hks.mono hI12; have hY := hY.mono hI12; have hZ := hZ.mono hI12; have hIc := hIc.trans hI12; have hB0 := hB0.trans hI12; have hKc10 := hKc10.trans hI12
   have hD := hD.trans hI12
   have hkq := show KidQ cr last f' (pl ++ [(d : Int)]) kfd kpv pv _ from hkq
   refine XO_nil ?_
   refine zD hD ?_
   refine zT 11 rfl (ev_move rfl) hD ?_
   refine zT 12 rfl (ev_extract rfl rfl) hD ?_
   refine zT 13 rfl (ev_extract rfl rfl) hD ?_
   refine XD_one 15 rfl (by kernel_rfl) ?_
   refine XO_storeA rfl rfl szt_45 rfl rfl rfl rfl (by repeat (first | exact Upd.here | apply Upd.there | apply upd_app)) ?_
   refine XO_nil ?_
   refine zD hD ?_
   refine zT 16 rfl (ev_assign rfl) hD ?_
   refine XD_done (by kernel_rfl) ?_
   refine at_noP ?_
   exact at_metP _ _ _ ⟨b_10, kh, kpv, kfd, rfl, hKc10, rfl, hkp, hkq⟩ (.cons rfl (.cons rfl (.cons rfl (.cons rfl (.cons rfl (.cons rfl (.cons rfl (.cons rfl .nil)))))))) (List.Perm.swap _ _ _) .refl
  rintro E J13 loc' ⟨b10, kh, kpv, kfd, rfl, hJ, rfl, hkp, hkq⟩
  have hC := hC.mono hJ; have hS := hS.mono hJ; have hbc := hbc.mono hJ; have hbl := hbl.mono hJ; have hbf := hbf.mono hJ; have hB9 := hB9.mono hJ; have hks := hks.mono hJ; have hIc := hIc.trans hJ; have hB0 := hB0.trans hJ
  refine X_seq ?_
  refine zR ?_
  refine zM ?_
  refine zN ?_
  refine X_cond rfl (fun hc49 => ?_) (fun hc49 => ?_)
  ·
   have hkf : kfd = true := hc49
   subst hkf
   obtain ⟨x9, a9, c9, hx9, rfl, hsx⟩ := hkq.yes
   refine zR ?_
   refine zA ?_
   refine zN ?_
   refine X_exit ?_
   refine at_then_e ?_
   refine at_block_miss rfl ?_
   refine at_then_e ?_
   refine at_then_e ?_
   refine at_block_hit ?_
   refine at_then ?_
   refine zR ?_
   refine XO_v0 (ev_loadA rfl agt_45 (fun hg => by first | exact Cells.immC hbc | exact Sl.getA hB9 hb0 | (repeat (first | exact Cells.here | exact Cells.s0 (vs := [_, _, _, _]) rfl | apply Cells.there | apply Cells.app))) rfl) rfl rfl rfl ?_
   refine zM ?_
   refine XO_storeA rfl rfl szt_45 rfl rfl (show allOne [.int .i64 0, .int .i64 0, .int .i64 0, v] = true from by obtain ⟨va, vm, vc, hv⟩ := hO.val; rw [hv]; rfl) rfl (by repeat (first | exact Upd.here | apply Upd.there | apply upd_app)) ?_
   refine zA ?_
   refine zN ?_
   refine X_ret ?_
   refine at_scope_r ?_
   first
   | exact at_freezeO hO encPH_len (by decide) (by repeat (first | exact .cons .here .nil | exact split_all | exact split_app | apply split_cons | apply split_skip)) (fun I7 hI7 a7 c7 e7 hS7 => by subst e7; exact at_ret2A rfl rfl rfl agt_45 (vs := encPH ⟨0, 0, 0, a7, q, c7⟩) (by repeat (first | exact Cells.here | apply Cells.there | apply Cells.app)) rfl (fun w hw => ⟨_, I7, _, rfl, hIc.trans hI7, hw.subL (.drop (.keep subL_nil)), ⟨0, 0, 0, a7, q, c7⟩, _, true, rfl, rfl, by rw [goQ_yes hgo hlt_d hx9]; exact PrAt.node hS7 (hks.mono hI7), .inr ⟨rfl, x9, a9, c9, by rw [goQ_yes hgo hlt_d hx9], rfl, hsx.mono hI7⟩⟩))
  have hkf : kfd = false := hc49
  subst hkf
  have hkn := hkq.no
  obtain rfl := hkn.2
  refine X_skip ?_
  refine at_then ?_
  refine X_region ?_
  refine XO_v0 (ev_fieldAddr rfl fld_45_3) rfl rfl rfl ?_
  refine XO_v0 (ev_load rfl sct_35 (fun hg => by first | exact Cell.imm hbc rfl | exact Cell.imm hbl rfl | exact Cell.imm hbf rfl | (repeat (first | exact Cell.here rfl | apply Cell.there | apply Cell.app)))) rfl rfl rfl ?_
  refine XO_v0 (ev_loadA rfl agt_45 (fun hg => by first | exact Cells.immC hbc | exact Sl.getA hB9 hb0 | (repeat (first | exact Cells.here | exact Cells.s0 (vs := [_, _, _, _]) rfl | apply Cells.there | apply Cells.app))) rfl) rfl rfl rfl ?_
  refine XO_buildSlice (ps := [(0, _)]) (m := [encPH kh]) elt_35 rfl (.cons rfl (.nil)) rfl (by simp [encPH_len]) (by decide) (by decide) rfl rfl (fun b_53 => ?_)
  refine XO_append (v := _) (ys := [kh].flatMap encPH) (L := L) rfl rfl elt_35 hO (by repeat (first | exact .cons .here .nil | exact split_all | exact split_app | apply split_cons | apply split_skip)) ⟨rfl, fun _ => rfl, by repeat (first | exact Cells.here | apply Cells.there | apply Cells.app)⟩ (one_PH _) (by omega) rfl rfl ?_
  intro v9 L9 hO9 _; rw [← List.flatMap_append] at hO9
  refine XO_v0 (ev_fieldAddr rfl fld_45_3) rfl rfl rfl ?_
  refine XO_store rfl rfl szt_35 hO9.one rfl (by repeat (first | exact Upd.here | apply Upd.there | apply upd_app)) rfl ?_
  refine XO_nil ?_
  refine at_block_n ?_
  refine at_then ?_
  refine X_region ?_
  refine zB ?_
  refine zM ?_
  refine XO_nil ?_
  exact at_met2 _ _ ⟨last - (d + 1), by omega, d + 1, v9, q + 1, L9, _, _, rfl, rfl, hB0, rfl, by omega, hO9, by omega, hks.snoc hkp, goQ_no hgo hlt_d hkn.1⟩ (.cons rfl (.cons rfl (.cons rfl (.cons rfl (.cons rfl (.cons rfl .nil)))))) (by repeat (first | exact .refl | exact subL_left | refine subL_app ?_ | refine .drop ?_ | refine subL_add ?_))
 have hge_d : last ≤ d := by have h := hc33; simp at h; omega
 refine X_exit ?_
 refine at_then_e ?_
 refine at_then_e ?_
 refine at_block_hit ?_
 refine at_then ?_
 refine zR ?_
 refine XO_v0 (ev_loadA rfl agt_45 (fun hg => by first | exact Cells.immC hbc | exact Sl.getA hB9 hb0 | (repeat (first | exact Cells.here | exact Cells.s0 (vs := [_, _, _, _]) rfl | apply Cells.there | apply Cells.app))) rfl) rfl rfl rfl ?_
 refine zM ?_
 refine XO_storeA rfl rfl szt_45 rfl rfl (show allOne [.int .i64 0, .int .i64 0, .int .i64 0, v] = true from by obtain ⟨va, vm, vc, hv⟩ := hO.val; rw [hv]; rfl) rfl (by repeat (first | exact Upd.here | apply Upd.there | apply upd_app)) ?_
 refine zA ?_
 refine zN ?_
 refine X_ret ?_
 refine at_scope_r ?_
 first
 | exact at_freezeO hO encPH_len (by decide) (by repeat (first | exact .cons .here .nil | exact split_all | exact split_app | apply split_cons | apply split_skip)) (fun I7 hI7 a7 c7 e7 hS7 => by subst e7; exact at_ret2A rfl rfl rfl agt_45 (vs := encPH ⟨0, 0, 0, a7, q, c7⟩) (by repeat (first | exact Cells.here | apply Cells.there | apply Cells.app)) rfl (fun w hw => ⟨_, I7, _, rfl, hIc.trans hI7, hw.subL (.keep subL_nil), ⟨0, 0, 0, a7, q, c7⟩, pv, false, rfl, rfl, by rw [goQ_end hgo hge_d]; exact PrAt.node hS7 (hks.mono hI7), .inl ⟨rfl, by rw [goQ_end hgo hge_d], rfl⟩⟩))
end Go.Proofs.YtehkiccapbkhnaaGreat
end
section
namespace Go.Proofs.YtehkiccapbkhnaaGreat
open Go Go.Kn Go.Proofs
/-- What a call of search hands back. -/
def SchQ (c : Cr) (last : Nat) : Value → HMap → Go.Kn.Loc → Prop := fun v I' L' => L' = [] ∧ ∃ (pv : Value) (h : PH) (fd : Bool), v = .tuple #[pv, encPHA h, .bool fd] ∧ PrAt I' h (srch c last c.ss.length []).1 ∧ KidQ c last c.ss.length [] fd pv (.slice none 0 0) I'
def planO (c : Cr) : Bool := decide (chkC c = 0) && (planF c).isSome
def planL (c : Cr) : List Int := if chkC c = 0 then (match planF c with | some (_, x) => x | none => []) else []
def PlaQ (c : Cr) : Value → HMap → Go.Kn.Loc → Prop := fun v I' L' => L' = [] ∧ ∃ a cc, v = .tuple #[.slice a (planL c).length cc, .bool (planO c), .int .i64 (chkC c)] ∧ Sl I' 1 encI a (planL c).length cc (planL c)
theorem PlaQ.bad {c : Cr} {I : HMap} (h : chkC c ≠ 0) : PlaQ c (.tuple #[.slice none 0 0, .bool false, .int .i64 (chkC c)]) I [] := by
  have e1 : planL c = [] := by unfold planL; rw [if_neg h]
  have e2 : planO c = false := by unfold planO; rw [decide_eq_false h]; rfl
  refine ⟨rfl, none, 0, ?_, ?_⟩
  · rw [e1, e2]; rfl
  · rw [e1]; exact Sl.nil
theorem PlaQ.none {c : Cr} {I : HMap} (h : chkC c = 0) (hp : planF c = none) : PlaQ c (.tuple #[.slice none 0 0, .bool false, .int .i64 0]) I [] := by
  have e1 : planL c = [] := by unfold planL; rw [if_pos h, hp]
  have e2 : planO c = false := by unfold planO; rw [hp]; simp
  refine ⟨rfl, .none, 0, ?_, ?_⟩
  · rw [e1, e2, h]; rfl
  · rw [e1]; exact Sl.nil
theorem PlaQ.some {c : Cr} {I : HMap} {k : Nat} {x : List Int} {a : Option Addr} {cc : Nat} (h : chkC c = 0) (hp : planF c = .some (k, x)) (hS : Sl I 1 encI a x.length cc x) : PlaQ c (.tuple #[.slice a x.length cc, .bool true, .int .i64 0]) I [] := by
  have e1 : planL c = x := by unfold planL; rw [if_pos h, hp]
  have e2 : planO c = true := by unfold planO; rw [hp]; simp [h]
  refine ⟨rfl, a, cc, ?_, ?_⟩
  · rw [e1, e2, h]
  · rw [e1]; exact hS
/-- The errors of Refute and Accepts. -/
def lastE (c : Cr) (last : Int) : Int := if chkC c ≠ 0 then chkC c else if (decide (last < 0) || decide (last > (c.days.length : Int))) = true then 1 else 0
def refO (c : Cr) (last : Int) : Bool := decide (lastE c last = 0) && (srch c last.toNat c.ss.length []).2.isNone
def refP (c : Cr) (last : Int) : Pr := if refO c last = true then (srch c last.toNat c.ss.length []).1 else .mk 0 0 0 []
def accO (c : Cr) (last : Int) (p : Pr) : Bool := decide (lastE c last = 0) && provesF c last p []
def RefQ (c : Cr) (last : Int) : Value → HMap → Go.Kn.Loc → Prop := fun v I' L' => L' = [] ∧ ∃ h, v = .tuple #[encPHA h, .bool (refO c last), .int .i64 (lastE c last)] ∧ PrAt I' h (refP c last)
theorem lastE_1 {c : Cr} {last : Int} (h : chkC c ≠ 0) : lastE c last = chkC c := by unfold lastE; rw [if_pos h]
theorem lastE_2 {c : Cr} {last : Int} (h : chkC c = 0) (g : (decide (last < 0) || decide (last > (c.days.length : Int))) = true) : lastE c last = 1 := by unfold lastE; rw [if_neg (by omega), if_pos g]
theorem lastE_3 {c : Cr} {last : Int} (h : chkC c = 0) (g : (decide (last < 0) || decide (last > (c.days.length : Int))) = false) : lastE c last = 0 := by unfold lastE; rw [if_neg (by omega), if_neg (by rw [g]; decide)]
theorem RefQ.bad {c : Cr} {last e : Int} {I : HMap} (h : lastE c last = e) (he : e ≠ 0) : RefQ c last (.tuple #[encPHA ⟨0, 0, 0, none, 0, 0⟩, .bool false, .int .i64 e]) I [] := by
  have e1 : refO c last = false := by unfold refO; rw [h, decide_eq_false he]; rfl
  refine ⟨rfl, _, by rw [e1, h], ?_⟩
  unfold refP; rw [e1]; exact PrAt.node Sl.nil PrsAt.nil
theorem RefQ.found {c : Cr} {last : Int} {x : List Int} {I : HMap} (h : lastE c last = 0) (hx : (srch c last.toNat c.ss.length []).2 = some x) : RefQ c last (.tuple #[encPHA ⟨0, 0, 0, none, 0, 0⟩, .bool false, .int .i64 0]) I [] := by
  have e1 : refO c last = false := by unfold refO; rw [hx]; simp
  refine ⟨rfl, _, by rw [e1, h], ?_⟩
  unfold refP; rw [e1]; exact PrAt.node Sl.nil PrsAt.nil
theorem RefQ.good {c : Cr} {last : Int} {I : HMap} {k : PH} (h : lastE c last = 0) (hx : (srch c last.toNat c.ss.length []).2 = none) (hk : PrAt I k (srch c last.toNat c.ss.length []).1) : RefQ c last (.tuple #[encPHA k, .bool true, .int .i64 0]) I [] := by
  have e1 : refO c last = true := by unfold refO; rw [hx, h]; rfl
  refine ⟨rfl, k, by rw [e1, h], ?_⟩
  unfold refP; rw [e1]; exact hk
/-- What Broken gives. -/
def brokE (c : Cr) (pl : List Int) : Int := if chkC c ≠ 0 then chkC c else if (decide ((pl.length : Int) > (c.ss.length : Int)) || pl.any fun d => decide (d < 0) || decide (d ≥ (c.days.length : Int))) = true then 400 else 0
def brokL (c : Cr) (pl : List Int) : List Br := if brokE c pl = 0 then brkL c pl else []
def lfH (b : Br) : PH := ⟨b.r, b.d, b.w, none, 0, 0⟩
def BroQ (c : Cr) (pl : List Int) : Value → HMap → Go.Kn.Loc → Prop := fun v I' L' => L' = [] ∧ ∃ a cc, v = .tuple #[.slice a (brokL c pl).length cc, .int .i64 (brokE c pl)] ∧ Sl I' 4 encPH a (brokL c pl).length cc ((brokL c pl).map lfH)
theorem brokE_1 {c : Cr} {pl : List Int} (h : chkC c ≠ 0) : brokE c pl = chkC c := by unfold brokE; rw [if_pos h]
theorem brokE_2 {c : Cr} {pl : List Int} (h : chkC c = 0) (g : (decide ((pl.length : Int) > (c.ss.length : Int)) || pl.any fun d => decide (d < 0) || decide (d ≥ (c.days.length : Int))) = true) : brokE c pl = 400 := by unfold brokE; rw [if_neg (by omega), if_pos g]
theorem brokE_3 {c : Cr} {pl : List Int} (h : chkC c = 0) (g : (decide ((pl.length : Int) > (c.ss.length : Int)) || pl.any fun d => decide (d < 0) || decide (d ≥ (c.days.length : Int))) = false) : brokE c pl = 0 ∧ pl.length ≤ c.ss.length ∧ InR c pl := by
  refine ⟨by unfold brokE; rw [if_neg (by omega), if_neg (by rw [g]; decide)], ?_, ?_⟩
  · simp only [Bool.or_eq_false_iff, decide_eq_false_iff_not] at g; omega
  · intro d hd
    simp only [Bool.or_eq_false_iff, List.any_eq_false] at g
    have := g.2 d hd
    simp at this; omega
theorem BroQ.bad {c : Cr} {pl : List Int} {e : Int} {I : HMap} (h : brokE c pl = e) (he : e ≠ 0) : BroQ c pl (.tuple #[.slice none 0 0, .int .i64 e]) I [] := by
  have e1 : brokL c pl = [] := by unfold brokL; rw [if_neg (by omega)]
  refine ⟨rfl, none, 0, ?_, ?_⟩
  · rw [e1, h]; rfl
  · rw [e1]; exact Sl.nil
theorem BroQ.good {c : Cr} {pl : List Int} {I : HMap} {a : Option Addr} {n cc : Nat} (h : brokE c pl = 0) (hS : Sl I 4 encPH a n cc ((brkL c pl).map lfH)) : BroQ c pl (.tuple #[.slice a n cc, .int .i64 0]) I [] := by
  have e1 : brokL c pl = brkL c pl := by unfold brokL; rw [if_pos h]
  have e2 : (brkL c pl).length = n := by rw [← hS.len, List.length_map]
  refine ⟨rfl, a, cc, ?_, ?_⟩
  · rw [e1, h, e2]
  · rw [e1, e2]; exact hS
theorem chkC_0 {c : Cr} (h : chkC c = 0) : rightF c = true ∧ c.days.length ≤ 16 ∧ c.ss.length ≤ 8 ∧ (∀ s ∈ c.ss, s.who.length ≤ 6) ∧ plansF c ≤ 65536 := by
  unfold chkC at h
  split at h
  · cases h
  · rename_i h1
    have h1 : ((decide ((c.days.length : Int) > 16) || decide ((c.ss.length : Int) > 8)) || c.ss.any (fun s => decide ((s.who.length : Int) > 6))) = false := by simpa using h1
    obtain ⟨g1, g2, g3⟩ := chk_small h1
    split at h
    · rename_i h2
      split at h
      · cases h
      · exact ⟨h2, g1, g2, g3, by omega⟩
    · cases h
theorem provesL_bad {c : Cr} {last : Int} {ks : List Pr} {k : Nat} {pl : List Int} {p : Pr} (h : ks[k]? = some p) (hb : provesF c last p (pl ++ [(k : Int)]) = false) : provesL c last (ks.drop k) k pl = false := by rw [drop_cons h, provesL, hb]; rfl
theorem provesL_step {c : Cr} {last : Int} {ks : List Pr} {k : Nat} {pl : List Int} {p : Pr} (h : ks[k]? = some p) (hb : provesF c last p (pl ++ [(k : Int)]) = true) : provesL c last (ks.drop k) k pl = provesL c last (ks.drop (k + 1)) (k + 1) pl := by rw [drop_cons h, provesL, hb, Bool.true_and]
theorem provesL_end {c : Cr} {last : Int} {ks : List Pr} {k : Nat} {pl : List Int} (h : ks.length ≤ k) : provesL c last (ks.drop k) k pl = true := by rw [List.drop_eq_nil_of_le h, provesL]
theorem find_0 (c : Cr) : planF c = findL c (c.days.length + 1 - 0) 0 := rfl
theorem find_no {c : Cr} {k : Nat} (h : planF c = findL c (c.days.length + 1 - k) k) (hk : k < c.days.length + 1) (hn : (srch c k c.ss.length []).2 = none) : planF c = findL c (c.days.length + 1 - (k + 1)) (k + 1) := by
  rw [h, show c.days.length + 1 - k = (c.days.length + 1 - (k + 1)) + 1 by omega, findL_none hn]
theorem find_yes {c : Cr} {k : Nat} {x : List Int} (h : planF c = findL c (c.days.length + 1 - k) k) (hk : k < c.days.length + 1) (hn : (srch c k c.ss.length []).2 = some x) : planF c = some (k, x) := by
  rw [h, show c.days.length + 1 - k = (c.days.length + 1 - (k + 1)) + 1 by omega, findL_some hn]
theorem find_end {c : Cr} {k : Nat} (h : planF c = findL c (c.days.length + 1 - k) k) (hk : c.days.length + 1 ≤ k) : planF c = none := by
  rw [h, show c.days.length + 1 - k = 0 by omega]; rfl
end Go.Proofs.YtehkiccapbkhnaaGreat
end
