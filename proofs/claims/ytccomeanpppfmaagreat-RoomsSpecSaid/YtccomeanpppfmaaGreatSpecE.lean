/- roomsSpec_holds, part E of the proof: what its theorems say holds without further conditions. -/
import Derived.Test.YtccomeanpppfmaaGreatSpecD
section
namespace Go.Proofs.YtccomeanpppfmaaGreat
open Go Go.Kn Go.Proofs
abbrev Trip := Value × Nat × List Value
theorem verL_no {ps : List Pt} {ws : List Int} {k : Nat} {p : Pt} (hp : ps[k]? = some p) (h : (ws.any fun x => x == p.id) = false) : verL (ps.take (k + 1)) ws = verL (ps.take k) ws := by
  unfold verL
  rw [take_snoc hp, List.filter_append, List.filter_cons, h]; simp
theorem verL_yes {ps : List Pt} {ws : List Int} {k : Nat} {p : Pt} (hp : ps[k]? = some p) (h : (ws.any fun x => x == p.id) = true) : verL (ps.take (k + 1)) ws = verL (ps.take k) ws ++ [p] := by
  unfold verL
  rw [take_snoc hp, List.filter_append, List.filter_cons, h]; rfl
/-! ### Removes -/
theorem RemM.start : RemM [] [] := fun s => rfl
theorem RemM.put' {mr : List (Int × Trip)} {l : List Pt} {n : Nat} {p : Pt} {v : Value} (h : RemM mr l) (hk : p.kind = 3) : RemM (mset mr p.sign (v, n, ((mget mr p.sign).getD nilT).2.2 ++ [p.id].flatMap encI)) (l ++ [p]) := by
  have h1 : RemM mr ((l ++ [p]).take l.length) := by simpa using h
  have := RemM.put (v := v) (n := n) h1 (show (l ++ [p])[l.length]? = some p by simp) hk
  rw [show (l ++ [p]).take (l.length + 1) = l ++ [p] from List.take_of_length_le (by simp)] at this
  exact this
theorem RemM.skip' {mr : List (Int × Trip)} {l : List Pt} {p : Pt} (h : RemM mr l) (hk : p.kind ≠ 3) : RemM mr (l ++ [p]) := by
  have h1 : RemM mr ((l ++ [p]).take l.length) := by simpa using h
  have := RemM.skip h1 (show (l ++ [p])[l.length]? = some p by simp) hk
  rw [show (l ++ [p]).take (l.length + 1) = l ++ [p] from List.take_of_length_le (by simp)] at this
  exact this
/-! ### Sets -/
def SetM (ms : List ((Int × Int) × Trip)) (l : List Pt) : Prop := ∀ q : Int × Int, ((mget ms q).getD nilT).2.2 = (stF l q.1 q.2).flatMap encP
theorem SetM.start : SetM [] [] := fun q => rfl
theorem stF_snoc (l : List Pt) (p : Pt) (s f : Int) : stF (l ++ [p]) s f = stF l s f ++ (if p.kind = 1 ∧ p.sign = s ∧ p.field = f then [p] else []) := by
  unfold stF
  rw [List.filter_append]
  congr 1
  by_cases h : p.kind = 1 ∧ p.sign = s ∧ p.field = f
  · rw [if_pos h]; simp [h.1, h.2.1, h.2.2]
  · rw [if_neg h]
    have : (p.kind == 1 && (p.sign == s && p.field == f)) = false := by
      rw [Bool.eq_false_iff]; intro hc; simp at hc; exact h hc
    simp [this]
theorem SetM.put {ms : List ((Int × Int) × Trip)} {l : List Pt} {n : Nat} {p : Pt} {v : Value} (h : SetM ms l) (hk : p.kind = 1) : SetM (mset ms (p.sign, p.field) (v, n, ((mget ms (p.sign, p.field)).getD nilT).2.2 ++ [p].flatMap encP)) (l ++ [p]) := fun q => by
  rw [stF_snoc, mget_mset]
  by_cases e : (p.sign, p.field) = q
  · subst e; rw [if_pos rfl, if_pos ⟨hk, rfl, rfl⟩, List.flatMap_append, ← h]; rfl
  · rw [if_neg e, if_neg (fun h2 => e (Prod.ext h2.2.1 h2.2.2)), List.append_nil, h q]
theorem SetM.skip {ms : List ((Int × Int) × Trip)} {l : List Pt} {p : Pt} (h : SetM ms l) (hk : p.kind ≠ 1) : SetM ms (l ++ [p]) := fun q => by
  rw [stF_snoc, if_neg (fun h2 => hk h2.1), List.append_nil, h q]
theorem stF_len {l : List Pt} {s f : Int} : (stF l s f).length ≤ l.length := List.length_filter_le _ _
theorem set_le {e : Nat} {ms : List ((Int × Int) × Trip)} {l : List Pt} {q : Int × Int} {L : Go.Kn.Loc} (h : SetM ms l) (hO : OwnS e 19 ((mget ms q).getD nilT).1 ((mget ms q).getD nilT).2.1 ((mget ms q).getD nilT).2.2 L) : ((mget ms q).getD nilT).2.1 ≤ l.length := by
  have h1 := hO.1
  rw [h q, flat_len encP_len] at h1
  have h2 := stF_len (l := l) (s := q.1) (f := q.2)
  omega
theorem set_sl {I : HMap} {e : Nat} {ms : List ((Int × Int) × Trip)} {l : List Pt} {L : Go.Kn.Loc} (h : SetM ms l) (hA : OwnAll e 19 (ms.map (·.2)) L) (hI : ∀ b o, (b, o) ∈ L → I b = some o) (q : Int × Int) :
    ∃ av c, ((mget ms q).getD nilT).1 = .slice av (stF l q.1 q.2).length c ∧ Sl I 19 encP av (stF l q.1 q.2).length c (stF l q.1 q.2) := by
  obtain ⟨A, Lt, B, rfl, hO, _⟩ := hA.at q
  rw [h q] at hO
  obtain ⟨av, c, e1, e2⟩ := hO.sl encP_len (by decide) (fun b o hb => hI b o (by simp [hb]))
  have hn := e2.len
  rw [← hn] at e1 e2
  exact ⟨av, c, e1, e2⟩
/-! ### Signs that are known -/
def KnowM (s : List (Int × Bool)) (bs : List Sg) (l : List Pt) : Prop := ∀ x, setM s x = (hasS bs x || insB l x)
theorem hasS_snoc {bs : List Sg} {k : Nat} {b : Sg} (hb : bs[k]? = some b) (x : Int) : hasS (bs.take (k + 1)) x = (decide (b.id = x) || hasS (bs.take k) x) := by
  unfold hasS
  rw [take_snoc hb, List.any_append, Bool.eq_iff_iff]
  simp [or_comm]
theorem insB_snoc (l : List Pt) (p : Pt) (x : Int) : insB (l ++ [p]) x = (insB l x || (p.kind == 2 && p.sign == x)) := by
  unfold insB
  rw [List.any_append]; simp
theorem KnowM.put {s : List (Int × Bool)} {bs : List Sg} {l : List Pt} {p : Pt} (h : KnowM s bs l) (hk : p.kind = 2) : KnowM (mset s p.sign true) bs (l ++ [p]) := fun x => by
  rw [setM_put, h x, insB_snoc, hk, Bool.eq_iff_iff]
  simp only [Bool.or_eq_true, decide_eq_true_eq, Bool.and_eq_true, beq_iff_eq, true_and]
  constructor
  · rintro (h | h | h)
    · exact .inr (.inr h)
    · exact .inl h
    · exact .inr (.inl h)
  · rintro (h | h | h)
    · exact .inr (.inl h)
    · exact .inr (.inr h)
    · exact .inl h
theorem KnowM.skip {s : List (Int × Bool)} {bs : List Sg} {l : List Pt} {p : Pt} (h : KnowM s bs l) (hk : p.kind ≠ 2) : KnowM s bs (l ++ [p]) := fun x => by
  rw [h x, insB_snoc, show (p.kind == 2) = false by simpa using hk, Bool.false_and, Bool.or_false]
theorem know_start {s : List (Int × Bool)} {bs : List Sg} {n : Nat} (h : ∀ x, setM s x = hasS (bs.take n) x) (hn : bs.length ≤ n) : KnowM s bs [] := fun x => by
  rw [h x, List.take_of_length_le hn]; simp [insB]
theorem lt_take {ps : List Pt} (hL : Lst ps) {k : Nat} {p q : Pt} (hp : ps[k]? = some p) (hq : q ∈ ps) (h : q.id < p.id) : q ∈ ps.take k := by
  obtain ⟨j, hj⟩ := List.getElem?_of_mem hq
  obtain ⟨hj1, hj2⟩ := List.getElem?_eq_some_iff.1 hj
  obtain ⟨hk1, hk2⟩ := List.getElem?_eq_some_iff.1 hp
  rw [List.mem_take_iff_getElem]
  refine ⟨j, ?_, hj2⟩
  have hjk : j < k := by
    rcases Nat.lt_or_ge j k with h3 | h3
    · exact h3
    · exfalso
      by_cases e : k = j
      · subst e; rw [hp] at hj; cases hj; omega
      · have := List.pairwise_iff_getElem.1 hL.inc k j hk1 hj1 (by omega)
        rw [hj2, hk2] at this; omega
  omega
theorem insB_iff {l : List Pt} {s : Int} : insB l s = true ↔ ∃ q ∈ l, q.kind = 2 ∧ q.sign = s := by
  unfold insB
  rw [List.any_eq_true]; simp
theorem fit_step {ps : List Pt} {ws : List Int} {bs : List Sg} {k : Nat} {p : Pt} {kn : Bool} (hS : Sto ps) (hp : ps[k]? = some p) (hin : (ws.any fun x => x == p.id) = true) (hkn : kn = (hasS bs p.sign || insB (verL (ps.take k) ws) p.sign)) :
    (kn == (p.kind == 2)) = !fitP bs (verL ps ws) p := by
  subst hkn
  have hpm := List.mem_of_getElem? hp
  unfold fitP
  by_cases hk : p.kind = 2
  · have h1 : insB (verL (ps.take k) ws) p.sign = false := by
      rw [Bool.eq_false_iff]
      intro hc
      obtain ⟨q, hq, hq2, hqs⟩ := insB_iff.1 hc
      obtain ⟨hq1, _⟩ := mem_verL.1 hq
      have hlt := hS.lst.fresh hp q hq1
      rcases hS.ins hpm (List.mem_of_mem_take hq1) hqs.symm hq2 with rfl | ⟨h, _⟩
      · omega
      · exact h hk
    rw [h1, hk]; simp
  · have h1 : insB (verL (ps.take k) ws) p.sign = insB (verL ps ws) p.sign := by
      rw [Bool.eq_iff_iff, insB_iff, insB_iff]
      constructor
      · rintro ⟨q, hq, h⟩
        obtain ⟨hq1, hq2⟩ := mem_verL.1 hq
        exact ⟨q, mem_verL.2 ⟨List.mem_of_mem_take hq1, hq2⟩, h⟩
      · rintro ⟨q, hq, h2, hs⟩
        obtain ⟨hq1, hq2⟩ := mem_verL.1 hq
        rcases hS.ins hpm hq1 hs.symm h2 with rfl | ⟨_, h⟩
        · exact absurd h2 hk
        · exact ⟨q, mem_verL.2 ⟨lt_take hS.lst hp hq1 (hS.lst.on_lt h).1, hq2⟩, h2, hs⟩
    rw [h1, show (p.kind == 2) = false by simpa using hk]
    have : (p.kind != 2) = true := by simpa using hk
    rw [this]
    cases hasS bs p.sign <;> cases insB (verL ps ws) p.sign <;> rfl
/-! ### Signs that are inserted -/
def insS (l : List Pt) : List Sg := (l.filter fun p => p.kind == 2).map (·.nw)
theorem insS_yes {l : List Pt} {p : Pt} (h : p.kind = 2) : insS (l ++ [p]) = insS l ++ [p.nw] := by
  unfold insS; rw [List.filter_append]; simp [h]
theorem insS_no {l : List Pt} {p : Pt} (h : p.kind ≠ 2) : insS (l ++ [p]) = insS l := by
  unfold insS; rw [List.filter_append]; simp [h]
theorem put_perm (xs : List Sg) (k : Sg) : (putF xs k).Perm (k :: xs) := by
  unfold putF
  refine List.perm_middle.trans (List.Perm.cons _ ?_)
  rw [List.takeWhile_append_dropWhile]
theorem all_perm : ∀ (l : List Pt) (bs : List Sg), (allG bs l).Perm (bs ++ insS l)
  | [], bs => by unfold allG insS; simp
  | p :: l, bs => by
    have h := all_perm l (if p.kind = 2 then putF bs p.nw else bs)
    have e : allG bs (p :: l) = allG (if p.kind = 2 then putF bs p.nw else bs) l := rfl
    rw [e]
    refine h.trans ?_
    by_cases hk : p.kind = 2
    · rw [if_pos hk]
      have e2 : insS (p :: l) = p.nw :: insS l := by unfold insS; simp [hk]
      rw [e2]
      exact ((put_perm bs p.nw).append_right _).trans List.perm_middle.symm
    · rw [if_neg hk]
      have e2 : insS (p :: l) = insS l := by unfold insS; simp [hk]
      rw [e2]
theorem look_perm {xs ys : List Sg} (h1 : Srt xs) (h2 : Srt ys) (hp : ∀ a, a ∈ xs ↔ a ∈ ys) : xs = ys := by
  have key : ∀ {xs ys : List Sg}, Srt ys → (∀ a ∈ xs, a ∈ ys) → ∀ s x, lookG xs s = some x → lookG ys s = some x := fun h hm s x hx => by
    have := look_of h (hm x (look_mem hx))
    rw [look_id hx] at this
    exact this
  refine srt_ext h1 h2 fun s => ?_
  cases hx : lookG xs s with
  | some x => exact (key h2 (fun a ha => (hp a).1 ha) s x hx).symm
  | none =>
    cases hy : lookG ys s with
    | none => rfl
    | some y => rw [key h1 (fun a ha => (hp a).2 ha) s y hy] at hx; cases hx
theorem all_made {bs zs : List Sg} {l : List Pt} (hb : Srt bs) (hS : Sto l) (hf : fitB bs l = true) (hp : zs.Perm (bs ++ insS l)) (hs : zs.Pairwise (fun x y => Go.Proofs.ltOf cmpG y x = false)) : zs = allG bs l := by
  have h1 := (all_look hb hS hf).1
  have hp2 := all_perm l bs
  have hnd : ((allG bs l).map (·.id)).Nodup := by
    rw [List.nodup_iff_pairwise_ne, List.pairwise_map]
    exact List.Pairwise.imp (fun {a b} h => by omega) h1
  have hnd2 : ((bs ++ insS l).map (·.id)).Nodup := (hp2.map (·.id)).nodup_iff.1 hnd
  exact look_perm (perm_srt hp hs hnd2) h1 fun a => (hp.trans hp2.symm).mem_iff
/-! ### The state -/
def SetR (I : HMap) (r : Nat) (l : List Pt) : Prop := ∃ ms : List ((Int × Int) × Trip), I r = some (mapO encK2 fstT ms) ∧ ∀ q : Int × Int, ∃ av c, ((mget ms q).getD nilT).1 = .slice av (stF l q.1 q.2).length c ∧ Sl I 19 encP av (stF l q.1 q.2).length c (stF l q.1 q.2)
theorem SetR.mono {I I' : HMap} {r : Nat} {l : List Pt} (h : SetR I r l) (hI : HLe I I') : SetR I' r l := by
  obtain ⟨ms, h1, h2⟩ := h
  exact ⟨ms, hI _ _ h1, fun q => by obtain ⟨av, c, h3, h4⟩ := h2 q; exact ⟨av, c, h3, h4.mono hI⟩⟩
def RemR (I : HMap) (r : Nat) (l : List Pt) : Prop := ∃ mr : List (Int × Trip), I r = some (mapO (Value.int .i64) fstT mr) ∧ ∀ s, ∃ av c, ((mget mr s).getD nilT).1 = .slice av (rmF l s).length c ∧ Sl I 1 encI av (rmF l s).length c (rmF l s)
theorem RemR.mono {I I' : HMap} {r : Nat} {l : List Pt} (h : RemR I r l) (hI : HLe I I') : RemR I' r l := by
  obtain ⟨mr, h1, h2⟩ := h
  exact ⟨mr, hI _ _ h1, fun s => by obtain ⟨av, c, h3, h4⟩ := h2 s; exact ⟨av, c, h3, h4.mono hI⟩⟩
/-- A state: a version l of the store ps, over signs bs. -/
structure StQ (I : HMap) (ps l : List Pt) (xs : List Sg) (r1 r2 r3 : Nat) (av : Option Addr) (n c : Nat) : Prop where
  on : OnM I r1 ps
  set : SetR I r2 l
  rem : RemR I r3 l
  sg : Sl I 14 encG av n c xs
  sub : ∀ p ∈ l, p ∈ ps
  nd : ∀ p ∈ ps, Nd I p
  lst : Lst ps
  few : ps.length ≤ 512
  fewl : l.length ≤ 512
theorem StQ.mono {I I' : HMap} {ps l : List Pt} {xs : List Sg} {r1 r2 r3 : Nat} {av : Option Addr} {n c : Nat} (h : StQ I ps l xs r1 r2 r3 av n c) (hI : HLe I I') : StQ I' ps l xs r1 r2 r3 av n c :=
  ⟨h.on.mono hI, h.set.mono hI, h.rem.mono hI, h.sg.mono hI, h.sub, fun p hp => (h.nd p hp).mono hI, h.lst, h.few, h.fewl⟩
def stA (r1 r2 r3 : Nat) (av : Option Addr) (n c : Nat) : Value := .agg #[.map (some r1), .map (some r2), .map (some r3), .slice av n c]
/-- What a reading of the state comes to. -/
def RdQ (e : Int) (ps l : List Pt) (xs : List Sg) : Value → HMap → Go.Kn.Loc → Prop := fun v I' L => L = [] ∧ ∃ m1 m2 m3 av n c, v = .tuple #[.agg #[.map m1, .map m2, .map m3, .slice av n c], .int .i64 e] ∧ (e = 0 → ∃ r1 r2 r3, m1 = some r1 ∧ m2 = some r2 ∧ m3 = some r3 ∧ StQ I' ps l xs r1 r2 r3 av n c)
theorem pat_1 {ps : List Pt} {bs : List Sg} {ws : List Int} (h : chkR ps ≠ 0) : patE ps bs ws = chkR ps := by unfold patE; rw [if_pos h]
theorem pat_2 {ps : List Pt} {bs : List Sg} {ws : List Int} (h : chkR ps = 0) (h2 : chkG bs ≠ 0) : patE ps bs ws = chkG bs := by unfold patE; rw [if_neg (by omega), if_pos h2]
theorem pat_3 {ps : List Pt} {bs : List Sg} {ws : List Int} (h : chkR ps = 0) (h2 : chkG bs = 0) (h3 : vrE ps ws ≠ 0) : patE ps bs ws = vrE ps ws := by
  unfold patE; rw [if_neg (by omega), if_neg (by omega)]
  unfold vrE at *
  split
  · rfl
  · rename_i h4
    rw [if_neg h4] at h3
    cases hv : verB ps ws with
    | true => rw [hv] at h3; exact absurd rfl h3
    | false => rfl
theorem vr_len {ps : List Pt} {ws : List Int} (h : vrE ps ws = 0) : ¬ ws.length > 512 := fun h2 => by unfold vrE at h; rw [if_pos h2] at h; cases h
theorem pat_4 {ps : List Pt} {bs : List Sg} {ws : List Int} (h : chkR ps = 0) (h2 : chkG bs = 0) (h3 : vrE ps ws = 0) (h4 : fitB bs (verL ps ws) = false) : patE ps bs ws = 380 := by
  unfold patE; rw [if_neg (by omega), if_neg (by omega), if_neg (vr_len h3), h4, Bool.and_false]; rfl
theorem pat_5 {ps : List Pt} {bs : List Sg} {ws : List Int} (h : chkR ps = 0) (h2 : chkG bs = 0) (h3 : vrE ps ws = 0) (h4 : fitB bs (verL ps ws) = true) : patE ps bs ws = 0 := by
  unfold patE; rw [if_neg (by omega), if_neg (by omega), if_neg (vr_len h3), h4, vr_ver h3]; rfl
theorem fit_bad {ps : List Pt} {bs : List Sg} {ws : List Int} {p : Pt} (hp : p ∈ ps) (hin : (ws.any fun x => x == p.id) = true) (h : fitP bs (verL ps ws) p = false) : fitB bs (verL ps ws) = false := by
  unfold fitB
  exact List.all_eq_false.2 ⟨p, List.mem_filter.2 ⟨hp, hin⟩, by rw [h]; exact Bool.false_ne_true⟩
theorem perm_a {x a b c : Nat × Obj} {Lg Ls Lr : Go.Kn.Loc} : (x :: (Lg ++ (a :: b :: c :: (Ls ++ Lr)))).Perm (Lg ++ (x :: a :: b :: c :: (Ls ++ Lr))) := List.perm_middle.symm
theorem perm_b {x a b c : Nat × Obj} {Lg A L B Lr : Go.Kn.Loc} : (x :: (Lg ++ (a :: b :: c :: ((A ++ (L ++ B)) ++ Lr)))).Perm (L ++ (x :: (Lg ++ (a :: b :: c :: (A ++ (B ++ Lr)))))) := by
  have h1 : ((A ++ (L ++ B)) ++ Lr).Perm (L ++ (A ++ (B ++ Lr))) := by
    rw [List.append_assoc, List.append_assoc]; exact List.perm_append_comm_assoc A L _
  have h2 : (x :: (Lg ++ (a :: b :: c :: ((A ++ (L ++ B)) ++ Lr)))).Perm (x :: (Lg ++ (a :: b :: c :: (L ++ (A ++ (B ++ Lr)))))) := ((h1.cons c |>.cons b |>.cons a).append_left Lg).cons x
  refine h2.trans ?_
  have h3 : (a :: b :: c :: (L ++ (A ++ (B ++ Lr)))).Perm (L ++ (a :: b :: c :: (A ++ (B ++ Lr)))) := List.perm_append_comm_assoc [a, b, c] L _
  refine ((h3.append_left Lg).cons x).trans ?_
  exact List.perm_append_comm_assoc (x :: Lg) L _
theorem perm_c {x a b c : Nat × Obj} {Lg A L B Ls : Go.Kn.Loc} : (x :: (Lg ++ (a :: b :: c :: (Ls ++ (A ++ (L ++ B)))))).Perm (L ++ (x :: (Lg ++ (a :: b :: c :: (Ls ++ (A ++ B)))))) := by
  have h1 : (Ls ++ (A ++ (L ++ B))).Perm (L ++ (Ls ++ (A ++ B))) := by
    refine ((List.perm_append_comm_assoc A L B).append_left Ls).trans (List.perm_append_comm_assoc Ls L _)
  have h2 := ((h1.cons c |>.cons b |>.cons a).append_left Lg).cons x
  refine h2.trans ?_
  have h3 : (a :: b :: c :: (L ++ (Ls ++ (A ++ B)))).Perm (L ++ (a :: b :: c :: (Ls ++ (A ++ B)))) := List.perm_append_comm_assoc [a, b, c] L _
  refine ((h3.append_left Lg).cons x).trans ?_
  exact List.perm_append_comm_assoc (x :: Lg) L _
end Go.Proofs.YtccomeanpppfmaaGreat
end
section
namespace Go.Proofs.YtccomeanpppfmaaGreat
open Go Go.Kn Go.Proofs
theorem w_read {I : HMap} {av : Option Addr} {n c : Nat} {ps : List Pt} (hP : SlP I av n c ps) (hn : n ≤ 100000) {bv : Option Addr} {n2 c2 : Nat} {bs : List Sg} (hB : Sl I 14 encG bv n2 c2 bs) (hn2 : n2 ≤ 100000) {dv : Option Addr} {n3 c3 : Nat} {ws : List Int} (hV : Sl I 1 encI dv n3 c3 ws) (hn3 : n3 ≤ 100000) : RetM Tryz.prog 43 [.slice av n c, .slice bv n2 c2, .slice dv n3 c3] I [] (RdQ (patE ps bs ws) ps (verL ps ws) (allG bs (verL ps ws))) := by
  intro g H w hw
  refine enter Tryz.func43 rfl Tryz.ntmps43 rfl hw ?_
  have hIc := HLe.refl I
  refine X_seq ?_
  refine X_region ?_
  refine XO_alloc zt_85 rfl rfl (fun b_6 => ?_)
  refine XO_v0 (ev_assign rfl) rfl rfl rfl ?_
  refine XO_nil ?_
  refine at_then ?_
  refine X_seq ?_
  refine X_seq ?_
  refine X_region ?_
  refine XO_v0 (ev_move rfl) rfl rfl rfl ?_
  refine XO_callV0 (cap := []) (vs := [_]) rfl rfl fun_12 (w_chkR hP hn) rfl rfl ?_
  refine XO_v0 (ev_assign rfl) rfl rfl rfl ?_
  refine XO_nil ?_
  refine at_then ?_
  refine X_seq ?_
  refine X_region ?_
  refine XO_v0 (ev_move rfl) rfl rfl rfl ?_
  refine XO_v0 (ev_cmp rfl rfl rfl) rfl rfl rfl ?_
  refine XO_nil ?_
  refine at_then ?_
  refine X_cond rfl (fun hc19 => ?_) (fun hc19 => ?_)
  · skip
    have hck : chkR ps ≠ 0 := by simpa using hc19
    refine X_seq ?_
    refine X_region ?_
    refine XO_v0 (ev_loadA rfl agt_85 (fun hg => by first | exact Sl.getA hB hb | exact Sl.getA hP1 hp | exact Cells.g0 | exact Cells.g1 | exact Cells.g2 | exact Cells.g3 | exact Cells.g4 | exact Cells.g5 | exact Cells.s0 (vs := [_, _, _, _]) rfl | exact Cells.s1 (vs := [_, _, _, _]) rfl | exact Cells.s2 (vs := [_, _, _, _]) rfl | exact Cells.s3 (vs := [_, _, _, _]) rfl | exact Cells.s4 (vs := [_, _, _, _]) rfl | exact Cells.s5 (vs := [_, _, _, _]) rfl | (repeat (first | exact Cells.here | apply Cells.there | apply Cells.app))) rfl) rfl rfl rfl ?_
    refine XO_v0 (ev_move rfl) rfl rfl rfl ?_
    refine XO_storeA rfl rfl szt_85 rfl rfl rfl rfl (by first | exact Upd.u0 | exact Upd.u1 | exact Upd.u2 | exact Upd.u3 | exact Upd.u4 | exact Upd.u5 | (repeat (first | exact Upd.here | apply Upd.there | apply upd_app))) ?_
    refine XO_v0 (ev_assign rfl) rfl rfl rfl ?_
    refine XO_nil ?_
    refine at_then ?_
    refine X_ret ?_
    refine at_then_r ?_
    first
    | exact at_ret2A rfl rfl rfl agt_85 (by repeat (first | exact Cells.here | apply Cells.there | apply Cells.app)) rfl (fun w hw => ⟨_, I, [], rfl, hIc, hw.drop, rfl, _, _, _, _, _, _, by rw [pat_1 hck], fun h0 => absurd h0 (by rw [pat_1 hck]; exact hck)⟩)
    | exact at_ret2A rfl rfl rfl agt_85 (by repeat (first | exact Cells.here | apply Cells.there | apply Cells.app)) rfl (fun w hw => ⟨_, I, [], rfl, hIc, hw.drop, rfl, _, _, _, _, _, _, by rw [pat_2 hck hcg], fun h0 => absurd h0 (by rw [pat_2 hck hcg]; exact hcg)⟩)
    | exact at_ret2A rfl rfl rfl agt_85 (by repeat (first | exact Cells.here | apply Cells.there | apply Cells.app)) rfl (fun w hw => ⟨_, I, [], rfl, hIc, hw.drop, rfl, _, _, _, _, _, _, by rw [pat_3 hck hcg hcv], fun h0 => absurd h0 (by rw [pat_3 hck hcg hcv]; exact hcv)⟩)
    | exact at_ret2A rfl rfl rfl agt_85 (by repeat (first | exact Cells.here | apply Cells.there | apply Cells.app)) rfl (fun w hw => ⟨_, I, [], rfl, hIc, hw.drop, rfl, _, _, _, _, _, _, by rw [pat_4 hck hcg hcv hfb], fun h0 => absurd h0 (by rw [pat_4 hck hcg hcv hfb]; exact (by decide))⟩)
    | exact at_ret2A rfl rfl rfl agt_85 (by repeat (first | exact Cells.here | apply Cells.there | apply Cells.app)) rfl (fun w hw => by obtain ⟨I9, h91, h92, h93⟩ := hw.freezeAll; obtain ⟨av9, c9, hv9, hS9⟩ := hO2.sl encG_len (by decide) (fun b o hb => h93 b o (by simp [hb])); cases hv9; exact ⟨_, I9, [], rfl, hIc.trans h91, h92, rfl, _, _, _, _, _, _, by rw [pat_5 hck hcg hcv hfitB], fun _ => ⟨_, _, _, rfl, rfl, rfl, ⟨hOn.mono h91, ⟨ms, h93 r_37 _ (by simp), set_sl hsm hAllS (fun b o hb => h93 b o (by simp [hb]))⟩, ⟨mr, h93 r_38 _ (by simp), rem_sl hrm hAllR (fun b o hb => h93 b o (by simp [hb]))⟩, hS9, fun p hp => (mem_verL.1 hp).1, fun p hp => (hP.2 p hp).mono h91, hL, by rw [hP.len]; exact hn5, Nat.le_trans (List.length_filter_le ..) (by rw [hP.len]; exact hn5)⟩⟩⟩)
  · skip
    have hck : chkR ps = 0 := by simpa using hc19
    have hn5 : n ≤ 512 := by have := (chkR_ok hck).1; rw [hP.len] at this; omega
    have hL := chkR_lst hck
    have hnd := nd_chk hP hck
    have hSto := chkR_sto hck
    refine X_skip ?_
    refine at_then ?_
    refine X_seq ?_
    refine X_seq ?_
    refine X_region ?_
    refine XO_v0 (ev_move rfl) rfl rfl rfl ?_
    refine XO_callV0 (cap := []) (vs := [_]) rfl rfl fun_58 (w_chkG hB hn2) rfl rfl ?_
    refine XO_v0 (ev_assign rfl) rfl rfl rfl ?_
    refine XO_nil ?_
    refine at_then ?_
    refine X_seq ?_
    refine X_region ?_
    refine XO_v0 (ev_move rfl) rfl rfl rfl ?_
    refine XO_v0 (ev_cmp rfl rfl rfl) rfl rfl rfl ?_
    refine XO_nil ?_
    refine at_then ?_
    refine X_cond rfl (fun hc25 => ?_) (fun hc25 => ?_)
    · skip
      have hcg : chkG bs ≠ 0 := by simpa using hc25
      refine X_seq ?_
      refine X_region ?_
      refine XO_v0 (ev_loadA rfl agt_85 (fun hg => by first | exact Sl.getA hB hb | exact Sl.getA hP1 hp | exact Cells.g0 | exact Cells.g1 | exact Cells.g2 | exact Cells.g3 | exact Cells.g4 | exact Cells.g5 | exact Cells.s0 (vs := [_, _, _, _]) rfl | exact Cells.s1 (vs := [_, _, _, _]) rfl | exact Cells.s2 (vs := [_, _, _, _]) rfl | exact Cells.s3 (vs := [_, _, _, _]) rfl | exact Cells.s4 (vs := [_, _, _, _]) rfl | exact Cells.s5 (vs := [_, _, _, _]) rfl | (repeat (first | exact Cells.here | apply Cells.there | apply Cells.app))) rfl) rfl rfl rfl ?_
      refine XO_v0 (ev_move rfl) rfl rfl rfl ?_
      refine XO_storeA rfl rfl szt_85 rfl rfl rfl rfl (by first | exact Upd.u0 | exact Upd.u1 | exact Upd.u2 | exact Upd.u3 | exact Upd.u4 | exact Upd.u5 | (repeat (first | exact Upd.here | apply Upd.there | apply upd_app))) ?_
      refine XO_v0 (ev_assign rfl) rfl rfl rfl ?_
      refine XO_nil ?_
      refine at_then ?_
      refine X_ret ?_
      refine at_then_r ?_
      first
      | exact at_ret2A rfl rfl rfl agt_85 (by repeat (first | exact Cells.here | apply Cells.there | apply Cells.app)) rfl (fun w hw => ⟨_, I, [], rfl, hIc, hw.drop, rfl, _, _, _, _, _, _, by rw [pat_1 hck], fun h0 => absurd h0 (by rw [pat_1 hck]; exact hck)⟩)
      | exact at_ret2A rfl rfl rfl agt_85 (by repeat (first | exact Cells.here | apply Cells.there | apply Cells.app)) rfl (fun w hw => ⟨_, I, [], rfl, hIc, hw.drop, rfl, _, _, _, _, _, _, by rw [pat_2 hck hcg], fun h0 => absurd h0 (by rw [pat_2 hck hcg]; exact hcg)⟩)
      | exact at_ret2A rfl rfl rfl agt_85 (by repeat (first | exact Cells.here | apply Cells.there | apply Cells.app)) rfl (fun w hw => ⟨_, I, [], rfl, hIc, hw.drop, rfl, _, _, _, _, _, _, by rw [pat_3 hck hcg hcv], fun h0 => absurd h0 (by rw [pat_3 hck hcg hcv]; exact hcv)⟩)
      | exact at_ret2A rfl rfl rfl agt_85 (by repeat (first | exact Cells.here | apply Cells.there | apply Cells.app)) rfl (fun w hw => ⟨_, I, [], rfl, hIc, hw.drop, rfl, _, _, _, _, _, _, by rw [pat_4 hck hcg hcv hfb], fun h0 => absurd h0 (by rw [pat_4 hck hcg hcv hfb]; exact (by decide))⟩)
      | exact at_ret2A rfl rfl rfl agt_85 (by repeat (first | exact Cells.here | apply Cells.there | apply Cells.app)) rfl (fun w hw => by obtain ⟨I9, h91, h92, h93⟩ := hw.freezeAll; obtain ⟨av9, c9, hv9, hS9⟩ := hO2.sl encG_len (by decide) (fun b o hb => h93 b o (by simp [hb])); cases hv9; exact ⟨_, I9, [], rfl, hIc.trans h91, h92, rfl, _, _, _, _, _, _, by rw [pat_5 hck hcg hcv hfitB], fun _ => ⟨_, _, _, rfl, rfl, rfl, ⟨hOn.mono h91, ⟨ms, h93 r_37 _ (by simp), set_sl hsm hAllS (fun b o hb => h93 b o (by simp [hb]))⟩, ⟨mr, h93 r_38 _ (by simp), rem_sl hrm hAllR (fun b o hb => h93 b o (by simp [hb]))⟩, hS9, fun p hp => (mem_verL.1 hp).1, fun p hp => (hP.2 p hp).mono h91, hL, by rw [hP.len]; exact hn5, Nat.le_trans (List.length_filter_le ..) (by rw [hP.len]; exact hn5)⟩⟩⟩)
    · skip
      have hcg : chkG bs = 0 := by simpa using hc25
      refine X_skip ?_
      refine at_then ?_
      refine X_seq ?_
      refine X_seq ?_
      refine X_region ?_
      refine XO_v0 (ev_move rfl) rfl rfl rfl ?_
      refine XO_v0 (ev_move rfl) rfl rfl rfl ?_
      refine XO_callV0 (cap := []) (vs := [_, _]) rfl rfl fun_32 (w_version hP hn5 hL hnd hV hn3) rfl rfl ?_
      refine XO_v0 (ev_assign rfl) rfl rfl rfl ?_
      refine XO_nil ?_
      refine at_then ?_
      refine X_seq ?_
      refine X_region ?_
      refine XO_v0 (ev_move rfl) rfl rfl rfl ?_
      refine XO_v0 (ev_cmp rfl rfl rfl) rfl rfl rfl ?_
      refine XO_nil ?_
      refine at_then ?_
      refine X_cond rfl (fun hc32 => ?_) (fun hc32 => ?_)
      · skip
        have hcv : vrE ps ws ≠ 0 := by simpa using hc32
        refine X_seq ?_
        refine X_region ?_
        refine XO_v0 (ev_loadA rfl agt_85 (fun hg => by first | exact Sl.getA hB hb | exact Sl.getA hP1 hp | exact Cells.g0 | exact Cells.g1 | exact Cells.g2 | exact Cells.g3 | exact Cells.g4 | exact Cells.g5 | exact Cells.s0 (vs := [_, _, _, _]) rfl | exact Cells.s1 (vs := [_, _, _, _]) rfl | exact Cells.s2 (vs := [_, _, _, _]) rfl | exact Cells.s3 (vs := [_, _, _, _]) rfl | exact Cells.s4 (vs := [_, _, _, _]) rfl | exact Cells.s5 (vs := [_, _, _, _]) rfl | (repeat (first | exact Cells.here | apply Cells.there | apply Cells.app))) rfl) rfl rfl rfl ?_
        refine XO_v0 (ev_move rfl) rfl rfl rfl ?_
        refine XO_storeA rfl rfl szt_85 rfl rfl rfl rfl (by first | exact Upd.u0 | exact Upd.u1 | exact Upd.u2 | exact Upd.u3 | exact Upd.u4 | exact Upd.u5 | (repeat (first | exact Upd.here | apply Upd.there | apply upd_app))) ?_
        refine XO_v0 (ev_assign rfl) rfl rfl rfl ?_
        refine XO_nil ?_
        refine at_then ?_
        refine X_ret ?_
        refine at_then_r ?_
        first
        | exact at_ret2A rfl rfl rfl agt_85 (by repeat (first | exact Cells.here | apply Cells.there | apply Cells.app)) rfl (fun w hw => ⟨_, I, [], rfl, hIc, hw.drop, rfl, _, _, _, _, _, _, by rw [pat_1 hck], fun h0 => absurd h0 (by rw [pat_1 hck]; exact hck)⟩)
        | exact at_ret2A rfl rfl rfl agt_85 (by repeat (first | exact Cells.here | apply Cells.there | apply Cells.app)) rfl (fun w hw => ⟨_, I, [], rfl, hIc, hw.drop, rfl, _, _, _, _, _, _, by rw [pat_2 hck hcg], fun h0 => absurd h0 (by rw [pat_2 hck hcg]; exact hcg)⟩)
        | exact at_ret2A rfl rfl rfl agt_85 (by repeat (first | exact Cells.here | apply Cells.there | apply Cells.app)) rfl (fun w hw => ⟨_, I, [], rfl, hIc, hw.drop, rfl, _, _, _, _, _, _, by rw [pat_3 hck hcg hcv], fun h0 => absurd h0 (by rw [pat_3 hck hcg hcv]; exact hcv)⟩)
        | exact at_ret2A rfl rfl rfl agt_85 (by repeat (first | exact Cells.here | apply Cells.there | apply Cells.app)) rfl (fun w hw => ⟨_, I, [], rfl, hIc, hw.drop, rfl, _, _, _, _, _, _, by rw [pat_4 hck hcg hcv hfb], fun h0 => absurd h0 (by rw [pat_4 hck hcg hcv hfb]; exact (by decide))⟩)
        | exact at_ret2A rfl rfl rfl agt_85 (by repeat (first | exact Cells.here | apply Cells.there | apply Cells.app)) rfl (fun w hw => by obtain ⟨I9, h91, h92, h93⟩ := hw.freezeAll; obtain ⟨av9, c9, hv9, hS9⟩ := hO2.sl encG_len (by decide) (fun b o hb => h93 b o (by simp [hb])); cases hv9; exact ⟨_, I9, [], rfl, hIc.trans h91, h92, rfl, _, _, _, _, _, _, by rw [pat_5 hck hcg hcv hfitB], fun _ => ⟨_, _, _, rfl, rfl, rfl, ⟨hOn.mono h91, ⟨ms, h93 r_37 _ (by simp), set_sl hsm hAllS (fun b o hb => h93 b o (by simp [hb]))⟩, ⟨mr, h93 r_38 _ (by simp), rem_sl hrm hAllR (fun b o hb => h93 b o (by simp [hb]))⟩, hS9, fun p hp => (mem_verL.1 hp).1, fun p hp => (hP.2 p hp).mono h91, hL, by rw [hP.len]; exact hn5, Nat.le_trans (List.length_filter_le ..) (by rw [hP.len]; exact hn5)⟩⟩⟩)
      · skip
        have hcv : vrE ps ws = 0 := by simpa using hc32
        have hVer := (verB_iff hL).1 (vr_ver hcv)
        refine X_skip ?_
        refine at_then ?_
        refine X_seq ?_
        refine X_region ?_
        refine XO_v0 (ev_move rfl) rfl rfl rfl ?_
        refine XO_callM (cap := []) (vs := [_]) rfl rfl fun_38 .nil (w_stands hP hn hL hnd) rfl rfl ?_
        rintro vv1 I1 L1 hI1 ⟨rfl, r9, rfl, hOn⟩
        have hP := hP.mono hI1
        have hB := hB.mono hI1
        have hV := hV.mono hI1
        have hIc := hIc.trans hI1
        refine XO_makeMap rfl rfl (fun r_37 => ?_)
        refine XO_makeMap rfl rfl (fun r_38 => ?_)
        refine XO_v0 (ev_move rfl) rfl rfl rfl ?_
        refine XO_callM (cap := []) (vs := [_]) rfl rfl fun_78 .nil (w_cloneG hB (by omega)) rfl rfl ?_
        rintro vv2 I2 L2 hI2 ⟨rfl, hO⟩
        have hP := hP.mono hI2
        have hB := hB.mono hI2
        have hV := hV.mono hI2
        have hOn := hOn.mono hI2
        have hIc := hIc.trans hI2
        obtain ⟨Lg, hLg⟩ : ∃ Lg, Lg = L2 := ⟨_, rfl⟩
        subst hLg
        obtain ⟨vg, hvg⟩ : ∃ z, z = vv2 := ⟨_, rfl⟩
        subst hvg
        obtain ⟨va, vn, vc, rfl⟩ := hO.val
        refine XO_v0 (ev_buildL (ps := [(0, _), (1, _), (2, _), (3, _)]) [_, _, _, _] plt_85 rfl rfl) rfl rfl rfl ?_
        refine XO_storeA rfl rfl szt_85 rfl rfl rfl rfl (by first | exact Upd.u0 | exact Upd.u1 | exact Upd.u2 | exact Upd.u3 | exact Upd.u4 | exact Upd.u5 | (repeat (first | exact Upd.here | apply Upd.there | apply upd_app))) ?_
        refine XO_nil ?_
        refine at_then ?_
        refine X_seq ?_
        refine X_region ?_
        refine XO_makeMap rfl rfl (fun r_42 => ?_)
        refine XO_v0 (ev_assign rfl) rfl rfl rfl ?_
        refine XO_nil ?_
        refine at_then ?_
        refine X_seq ?_
        refine X_seq ?_
        refine X_region ?_
        refine XO_v0 (ev_move rfl) rfl rfl rfl ?_
        refine XO_v0 (ev_lenS rfl slt_33) rfl rfl rfl ?_
        refine XO_v0 (ev_move rfl) rfl rfl rfl ?_
        refine XO_nil ?_
        refine at_then ?_
        refine X_block ?_
        refine X_loopT [(0, _), (2, _), (6, _), (8, _), (43, _), (44, _)] (.cons rfl (.cons rfl (.cons rfl (.cons rfl (.cons rfl (.cons rfl .nil)))))) (fun T L0 mz E I' loc' => ∃ (k : Nat) (s : List (Int × Bool)), mz = n2 - k ∧ E = (45, .int .i64 k) :: T ∧ I2 = I' ∧ (r_42, mapO (Value.int .i64) Value.bool s) :: (Lg ++ [(r_38, mapO (Value.int .i64) fstT []), (r_37, mapO encK2 fstT []), (b_6, .cells #[.map (some r9), .map (some r_37), .map (some r_38), .slice va vn vc] 85 (0, 0))]) = loc' ∧ k ≤ n2 ∧ ∀ x, setM s x = hasS (bs.take k) x) _ _ _ _ ⟨0, [], rfl, rfl, rfl, rfl, Nat.zero_le _, fun x => rfl⟩ (.cons rfl (.cons rfl (.cons rfl (.cons rfl (.cons rfl (.cons rfl (.cons rfl .nil))))))) (HLe.refl _) rfl ?_
        rintro mz E I' loc' ⟨k, s, rfl, rfl, rfl, rfl, hk, hs⟩
        refine X_seq ?_
        refine X_region ?_
        refine XO_v0 (ev_cmp rfl rfl rfl) rfl rfl rfl ?_
        refine XO_nil ?_
        refine at_then ?_
        refine X_seq ?_
        refine X_cond rfl (fun hc46 => ?_) (fun hc46 => ?_)
        · skip
          have hlt_k : k < n2 := by have h := hc46; simp at h; omega
          obtain ⟨b, hb⟩ := hB.at hlt_k
          refine X_skip ?_
          refine at_then ?_
          refine X_seq ?_
          refine X_block ?_
          refine X_seq ?_
          refine X_region ?_
          refine XO_v0 (ev_indexSl rfl rfl slt_33 (by assumption) (fun hg => by first | omega | (simp [conj] at hg; omega))) rfl rfl rfl ?_
          refine XO_v0 (ev_loadA rfl agt_45 (fun hg => by first | exact Sl.getA hB hb | exact Sl.getA hP1 hp | exact Cells.g0 | exact Cells.g1 | exact Cells.g2 | exact Cells.g3 | exact Cells.g4 | exact Cells.g5 | exact Cells.s0 (vs := [_, _, _, _, _, _, _, _, _, _, _, _, _, _]) rfl | exact Cells.s1 (vs := [_, _, _, _, _, _, _, _, _, _, _, _, _, _]) rfl | exact Cells.s2 (vs := [_, _, _, _, _, _, _, _, _, _, _, _, _, _]) rfl | exact Cells.s3 (vs := [_, _, _, _, _, _, _, _, _, _, _, _, _, _]) rfl | exact Cells.s4 (vs := [_, _, _, _, _, _, _, _, _, _, _, _, _, _]) rfl | exact Cells.s5 (vs := [_, _, _, _, _, _, _, _, _, _, _, _, _, _]) rfl | (repeat (first | exact Cells.here | apply Cells.there | apply Cells.app))) rfl) rfl rfl rfl ?_
          refine XO_alloc zt_45 rfl rfl (fun b_10 => ?_)
          refine XO_storeA rfl rfl szt_45 rfl rfl rfl rfl (by first | exact Upd.u0 | exact Upd.u1 | exact Upd.u2 | exact Upd.u3 | exact Upd.u4 | exact Upd.u5 | (repeat (first | exact Upd.here | apply Upd.there | apply upd_app))) ?_
          refine XO_nil ?_
          refine at_then ?_
          refine X_region ?_
          refine XO_v0 (ev_move rfl) rfl rfl rfl ?_
          refine XO_v0 (ev_fieldAddr rfl fld_45_0) rfl rfl rfl ?_
          refine XO_v0 (ev_load rfl sct_3 (fun hg => by first | exact Cell.h0 rfl | exact Cell.h1 rfl | exact Cell.h2 rfl | exact Cell.h3 rfl | exact Cell.h4 rfl | exact Cell.h5 rfl | (repeat (first | exact Cell.here rfl | apply Cell.there | apply Cell.app)))) rfl rfl rfl ?_
          refine XO_mapUpdate (m := s) (ek := Value.int .i64) (ev := Value.bool) (a := b.id)  true mpt_71 key_3 rfl rfl rfl rfl (by first | exact Upd.u0 | exact Upd.u1 | exact Upd.u2 | exact Upd.u3 | exact Upd.u4 | exact Upd.u5 | (repeat (first | exact Upd.here | apply Upd.there | apply upd_app))) ?_
          refine XO_nil ?_
          refine at_block_n ?_
          refine at_then ?_
          refine X_region ?_
          refine XO_v0 (ev_arB rfl rfl rfl (fun _ => by omega)) rfl rfl rfl ?_
          refine XO_v0 (ev_move rfl) rfl rfl rfl ?_
          refine XO_nil ?_
          exact at_met2 _ _ ⟨n2 - (k + 1), by omega, k + 1, _, rfl, rfl, rfl, rfl, by omega, fun x => by rw [setM_put, hs, hasS_snoc hb]⟩ (.cons rfl (.cons rfl (.cons rfl (.cons rfl (.cons rfl (.cons rfl (.cons rfl .nil))))))) (by repeat (first | exact .refl | exact subL_left | refine subL_app ?_ | refine .drop ?_ | refine subL_add ?_))
        · skip
          have hge_k : n2 ≤ k := by have h := hc46; simp at h; omega
          have hkn := know_start hs (by rw [hB.len]; exact hge_k)
          refine X_exit ?_
          refine at_then_e ?_
          refine at_then_e ?_
          refine at_block_hit ?_
          refine at_then ?_
          refine X_seq ?_
          refine X_seq ?_
          refine X_region ?_
          refine XO_v0 (ev_move rfl) rfl rfl rfl ?_
          refine XO_v0 (ev_lenS rfl slt_22) rfl rfl rfl ?_
          refine XO_v0 (ev_move rfl) rfl rfl rfl ?_
          refine XO_nil ?_
          refine at_then ?_
          refine X_block ?_
          refine X_loopT [(2, _), (6, _), (8, _), (53, _), (54, _)] (.cons rfl (.cons rfl (.cons rfl (.cons rfl (.cons rfl .nil))))) (fun T L0 mz E I' loc' => ∃ (k : Nat) (s : List (Int × Bool)) (vg : Value) (q : Nat) (Lg : Go.Kn.Loc) (ms : List ((Int × Int) × Trip)) (Ls : Go.Kn.Loc) (mr : List (Int × Trip)) (Lr : Go.Kn.Loc), mz = n - k ∧ E = (55, .int .i64 k) :: T ∧ I2 = I' ∧ (r_42, mapO (Value.int .i64) Value.bool s) :: (Lg ++ ((r_38, mapO (Value.int .i64) fstT mr) :: (r_37, mapO encK2 fstT ms) :: (b_6, .cells #[.map (some r9), .map (some r_37), .map (some r_38), vg] 85 (0, 0)) :: (Ls ++ Lr))) = loc' ∧ k ≤ n ∧ KnowM s bs (verL (ps.take k) ws) ∧ OwnS 45 14 vg q ((bs ++ insS (verL (ps.take k) ws)).flatMap encG) Lg ∧ q ≤ n2 + k ∧ SetM ms (verL (ps.take k) ws) ∧ OwnAll 53 19 (ms.map (·.2)) Ls ∧ RemM mr (verL (ps.take k) ws) ∧ OwnAll 3 1 (mr.map (·.2)) Lr ∧ (verL (ps.take k) ws).all (fitP bs (verL ps ws)) = true) _ _ _ _ ⟨0, s, _, n2, Lg, [], [], [], [], rfl, rfl, rfl, rfl, Nat.zero_le _, hkn, by rw [show bs ++ insS (verL (ps.take 0) ws) = bs from List.append_nil _]; exact hO, Nat.le_refl _, SetM.start, OwnAll.nil, RemM.start, OwnAll.nil, rfl⟩ (.cons rfl (.cons rfl (.cons rfl (.cons rfl (.cons rfl (.cons rfl .nil)))))) (HLe.refl _) rfl ?_
          rintro mz E I' loc' ⟨k, s, vg, q, Lg, ms, Ls, mr, Lr, rfl, rfl, rfl, rfl, hk, hkn, hO, hq, hsm, hAllS, hrm, hAllR, hfit⟩
          obtain ⟨va, vn, vc, rfl⟩ := hO.val
          refine X_seq ?_
          refine X_region ?_
          refine XO_v0 (ev_cmp rfl rfl rfl) rfl rfl rfl ?_
          refine XO_nil ?_
          refine at_then ?_
          refine X_seq ?_
          refine X_cond rfl (fun hc56 => ?_) (fun hc56 => ?_)
          · skip
            have hlt_k : k < n := by have h := hc56; simp at h; omega
            have hP1 := hP.1
            obtain ⟨p, hp, hN⟩ := hP.at hlt_k
            have hpm := List.mem_of_getElem? hp
            have hN : Sl I2 1 encI p.a p.n p.c p.needs := hN
            have hpn := hnd p hpm
            refine X_skip ?_
            refine at_then ?_
            refine X_seq ?_
            refine X_block ?_
            refine X_seq ?_
            refine X_region ?_
            refine XO_v0 (ev_indexSl rfl rfl slt_22 (by assumption) (fun hg => by first | omega | (simp [conj] at hg; omega))) rfl rfl rfl ?_
            refine XO_v0 (ev_loadA rfl agt_53 (fun hg => by first | exact Sl.getA hB hb | exact Sl.getA hP1 hp | exact Cells.g0 | exact Cells.g1 | exact Cells.g2 | exact Cells.g3 | exact Cells.g4 | exact Cells.g5 | exact Cells.s0 (vs := [_, _, _, _, _, _, _, _, _, _, _, _, _, _, _, _, _, _, _]) rfl | exact Cells.s1 (vs := [_, _, _, _, _, _, _, _, _, _, _, _, _, _, _, _, _, _, _]) rfl | exact Cells.s2 (vs := [_, _, _, _, _, _, _, _, _, _, _, _, _, _, _, _, _, _, _]) rfl | exact Cells.s3 (vs := [_, _, _, _, _, _, _, _, _, _, _, _, _, _, _, _, _, _, _]) rfl | exact Cells.s4 (vs := [_, _, _, _, _, _, _, _, _, _, _, _, _, _, _, _, _, _, _]) rfl | exact Cells.s5 (vs := [_, _, _, _, _, _, _, _, _, _, _, _, _, _, _, _, _, _, _]) rfl | (repeat (first | exact Cells.here | apply Cells.there | apply Cells.app))) rfl) rfl rfl rfl ?_
            refine XO_alloc zt_53 rfl rfl (fun b_12 => ?_)
            refine XO_storeA rfl rfl szt_53 rfl rfl rfl rfl (by first | exact Upd.u0 | exact Upd.u1 | exact Upd.u2 | exact Upd.u3 | exact Upd.u4 | exact Upd.u5 | (repeat (first | exact Upd.here | apply Upd.there | apply upd_app))) ?_
            refine XO_nil ?_
            refine at_then ?_
            refine X_seq ?_
            refine X_seq ?_
            refine X_region ?_
            refine XO_v0 (ev_move rfl) rfl rfl rfl ?_
            refine XO_v0 (ev_fieldAddr rfl fld_53_0) rfl rfl rfl ?_
            refine XO_v0 (ev_load rfl sct_3 (fun hg => by first | exact Cell.h0 rfl | exact Cell.h1 rfl | exact Cell.h2 rfl | exact Cell.h3 rfl | exact Cell.h4 rfl | exact Cell.h5 rfl | (repeat (first | exact Cell.here rfl | apply Cell.there | apply Cell.app)))) rfl rfl rfl ?_
            refine XO_callV0 (cap := []) (vs := [_, _]) rfl rfl fun_79 (w_bsI hV hn3 hVer.inc _) rfl rfl ?_
            refine XO_v0 (ev_move rfl) rfl rfl rfl ?_
            refine XO_v0 (ev_extract rfl rfl) rfl rfl rfl ?_
            refine XO_v0 (ev_extract rfl rfl) rfl rfl rfl ?_
            refine XO_v0 (ev_assign rfl) rfl rfl rfl ?_
            refine XO_v0 (ev_assign rfl) rfl rfl rfl ?_
            refine XO_nil ?_
            refine at_then ?_
            refine X_seq ?_
            refine X_region ?_
            refine XO_v0 (ev_move rfl) rfl rfl rfl ?_
            refine XO_v0 (ev_not rfl) rfl rfl rfl ?_
            refine XO_nil ?_
            refine at_then ?_
            refine X_cond rfl (fun hc67 => ?_) (fun hc67 => ?_)
            · skip
              have hin : (ws.any fun x => x == p.id) = false := (Bool.not_eq_true' _).mp hc67
              have hT := verL_no hp hin
              refine X_exit ?_
              refine at_then_e ?_
              refine at_block_hit ?_
              refine at_then ?_
              refine X_region ?_
              refine XO_v0 (ev_arB rfl rfl rfl (fun _ => by omega)) rfl rfl rfl ?_
              refine XO_v0 (ev_move rfl) rfl rfl rfl ?_
              refine XO_nil ?_
              first
              | exact at_met2 _ _ ⟨n - (k + 1), by omega, k + 1, _, _, _, _, _, _, _, _, rfl, rfl, rfl, rfl, by omega, by rw [hT]; exact hkn, by rw [hT]; exact hO, by omega, by rw [hT]; exact hsm, hAllS, by rw [hT]; exact hrm, hAllR, by rw [hT]; exact hfit⟩ (.cons rfl (.cons rfl (.cons rfl (.cons rfl (.cons rfl (.cons rfl .nil)))))) (by repeat (first | exact .refl | exact subL_left | refine subL_app ?_ | refine .drop ?_ | refine subL_add ?_))
              | exact at_met2 _ _ ⟨n - (k + 1), by omega, k + 1, _, _, _, _, _, _, _, _, rfl, rfl, rfl, rfl, by omega, by rw [hT]; exact hkn.skip hk2n, by rw [hT, insS_no hk2n]; exact hO, by omega, by rw [hT]; exact hsm.skip hk1n, hAllS, by rw [hT]; exact hrm.skip' hk3n, hAllR, by rw [hT, List.all_append, hfit]; simp [hfp]⟩ (.cons rfl (.cons rfl (.cons rfl (.cons rfl (.cons rfl (.cons rfl .nil)))))) (by repeat (first | exact .refl | exact subL_left | refine subL_app ?_ | refine .drop ?_ | refine subL_add ?_))
              | exact at_metP _ _ (L9 ++ ((r_42, _) :: (r_38, _) :: (r_37, _) :: (b_6, _) :: (Ls ++ Lr))) ⟨n - (k + 1), by omega, k + 1, _, _, _, L9, ms, Ls, mr, Lr, rfl, rfl, rfl, rfl, by omega, by rw [hT]; exact hkn.put hk2, by rw [hT, insS_yes hk2, ← List.append_assoc]; exact hO9, by omega, by rw [hT]; exact hsm.skip (by omega), hAllS, by rw [hT]; exact hrm.skip' (by omega), hAllR, by rw [hT, List.all_append, hfit]; simp [hfp]⟩ (.cons rfl (.cons rfl (.cons rfl (.cons rfl (.cons rfl (.cons rfl .nil)))))) perm_a (by repeat (first | exact .refl | exact subL_left | refine subL_app ?_ | refine .drop ?_ | refine subL_add ?_))
              | exact at_metP _ _ (L9 ++ ((r_42, _) :: (Lg ++ ((r_38, _) :: (r_37, _) :: (b_6, _) :: (A ++ (B ++ Lr)))))) ⟨n - (k + 1), by omega, k + 1, s, _, q, Lg, _, A ++ (L9 ++ B), mr, Lr, rfl, rfl, rfl, rfl, by omega, by rw [hT]; exact hkn.skip (by omega), by rw [hT, insS_no (by omega)]; exact hO, by omega, by rw [hT]; exact hsm.put hk1, hset (v9, _, _) L9 hO9, by rw [hT]; exact hrm.skip' (by omega), hAllR, by rw [hT, List.all_append, hfit]; simp [hfp]⟩ (.cons rfl (.cons rfl (.cons rfl (.cons rfl (.cons rfl (.cons rfl .nil)))))) perm_b (by repeat (first | exact .refl | exact subL_left | refine subL_app ?_ | refine .drop ?_ | refine subL_add ?_))
              | exact at_metP _ _ (L9 ++ ((r_42, _) :: (Lg ++ ((r_38, _) :: (r_37, _) :: (b_6, _) :: (Ls ++ (A ++ B)))))) ⟨n - (k + 1), by omega, k + 1, s, _, q, Lg, ms, Ls, _, A ++ (L9 ++ B), rfl, rfl, rfl, rfl, by omega, by rw [hT]; exact hkn.skip (by omega), by rw [hT, insS_no (by omega)]; exact hO, by omega, by rw [hT]; exact hsm.skip (by omega), hAllS, by rw [hT]; exact hrm.put' hk3, hset (v9, _, _) L9 hO9, by rw [hT, List.all_append, hfit]; simp [hfp]⟩ (.cons rfl (.cons rfl (.cons rfl (.cons rfl (.cons rfl (.cons rfl .nil)))))) perm_c (by repeat (first | exact .refl | exact subL_left | refine subL_app ?_ | refine .drop ?_ | refine subL_add ?_))
            · skip
              have hin : (ws.any fun x => x == p.id) = true := (Bool.not_eq_false' _).mp hc67
              have hT := verL_yes hp hin
              refine X_skip ?_
              refine at_then ?_
              refine X_seq ?_
              refine X_seq ?_
              refine X_region ?_
              refine XO_v0 (ev_move rfl) rfl rfl rfl ?_
              refine XO_v0 (ev_fieldAddr rfl fld_53_2) rfl rfl rfl ?_
              refine XO_v0 (ev_load rfl sct_3 (fun hg => by first | exact Cell.h0 rfl | exact Cell.h1 rfl | exact Cell.h2 rfl | exact Cell.h3 rfl | exact Cell.h4 rfl | exact Cell.h5 rfl | (repeat (first | exact Cell.here rfl | apply Cell.there | apply Cell.app)))) rfl rfl rfl ?_
              refine XO_v0 (ev_lookupBool (m := s) mpt_71 key_3 rfl rfl (fun _ => (by first | exact Mem.m0 | exact Mem.m1 | exact Mem.m2 | exact Mem.m3 | exact Mem.m4 | exact Mem.m5 | (repeat (first | exact Mem.m0 | apply Mem.there | apply Mem.app))))) rfl rfl rfl ?_
              refine XO_v0 (ev_fieldAddr rfl fld_53_1) rfl rfl rfl ?_
              refine XO_v0 (ev_load rfl sct_3 (fun hg => by first | exact Cell.h0 rfl | exact Cell.h1 rfl | exact Cell.h2 rfl | exact Cell.h3 rfl | exact Cell.h4 rfl | exact Cell.h5 rfl | (repeat (first | exact Cell.here rfl | apply Cell.there | apply Cell.app)))) rfl rfl rfl ?_
              refine XO_v0 (ev_cmp rfl rfl rfl) rfl rfl rfl ?_
              refine XO_v0 (ev_boolR rfl rfl und_4) rfl rfl rfl ?_
              refine XO_nil ?_
              refine at_then ?_
              refine X_cond rfl (fun hc75 => ?_) (fun hc75 => ?_)
              · skip
                have h75 : (setM s p.sign == (p.kind == 2)) = true := hc75
                rw [fit_step hSto hp hin (hkn p.sign)] at h75
                have hfp := (Bool.not_eq_true' _).mp h75
                have hfb := fit_bad hpm hin hfp
                refine X_seq ?_
                refine X_region ?_
                refine XO_v0 (ev_loadA rfl agt_85 (fun hg => by first | exact Sl.getA hB hb | exact Sl.getA hP1 hp | exact Cells.g0 | exact Cells.g1 | exact Cells.g2 | exact Cells.g3 | exact Cells.g4 | exact Cells.g5 | exact Cells.s0 (vs := [_, _, _, _]) rfl | exact Cells.s1 (vs := [_, _, _, _]) rfl | exact Cells.s2 (vs := [_, _, _, _]) rfl | exact Cells.s3 (vs := [_, _, _, _]) rfl | exact Cells.s4 (vs := [_, _, _, _]) rfl | exact Cells.s5 (vs := [_, _, _, _]) rfl | (repeat (first | exact Cells.here | apply Cells.there | apply Cells.app))) rfl) rfl rfl rfl ?_
                refine XO_storeA rfl rfl szt_85 rfl rfl rfl rfl (by first | exact Upd.u0 | exact Upd.u1 | exact Upd.u2 | exact Upd.u3 | exact Upd.u4 | exact Upd.u5 | (repeat (first | exact Upd.here | apply Upd.there | apply upd_app))) ?_
                refine XO_v0 (ev_assign rfl) rfl rfl rfl ?_
                refine XO_nil ?_
                refine at_then ?_
                refine X_ret ?_
                refine at_then_r ?_
                refine at_block_r ?_
                refine at_then_r ?_
                refine at_then_r ?_
                refine at_block_r ?_
                refine at_then_r ?_
                first
                | exact at_ret2A rfl rfl rfl agt_85 (by repeat (first | exact Cells.here | apply Cells.there | apply Cells.app)) rfl (fun w hw => ⟨_, I2, [], rfl, hIc, hw.drop, rfl, _, _, _, _, _, _, by rw [pat_1 hck], fun h0 => absurd h0 (by rw [pat_1 hck]; exact hck)⟩)
                | exact at_ret2A rfl rfl rfl agt_85 (by repeat (first | exact Cells.here | apply Cells.there | apply Cells.app)) rfl (fun w hw => ⟨_, I2, [], rfl, hIc, hw.drop, rfl, _, _, _, _, _, _, by rw [pat_2 hck hcg], fun h0 => absurd h0 (by rw [pat_2 hck hcg]; exact hcg)⟩)
                | exact at_ret2A rfl rfl rfl agt_85 (by repeat (first | exact Cells.here | apply Cells.there | apply Cells.app)) rfl (fun w hw => ⟨_, I2, [], rfl, hIc, hw.drop, rfl, _, _, _, _, _, _, by rw [pat_3 hck hcg hcv], fun h0 => absurd h0 (by rw [pat_3 hck hcg hcv]; exact hcv)⟩)
                | exact at_ret2A rfl rfl rfl agt_85 (by repeat (first | exact Cells.here | apply Cells.there | apply Cells.app)) rfl (fun w hw => ⟨_, I2, [], rfl, hIc, hw.drop, rfl, _, _, _, _, _, _, by rw [pat_4 hck hcg hcv hfb], fun h0 => absurd h0 (by rw [pat_4 hck hcg hcv hfb]; exact (by decide))⟩)
                | exact at_ret2A rfl rfl rfl agt_85 (by repeat (first | exact Cells.here | apply Cells.there | apply Cells.app)) rfl (fun w hw => by obtain ⟨I9, h91, h92, h93⟩ := hw.freezeAll; obtain ⟨av9, c9, hv9, hS9⟩ := hO2.sl encG_len (by decide) (fun b o hb => h93 b o (by simp [hb])); cases hv9; exact ⟨_, I9, [], rfl, hIc.trans h91, h92, rfl, _, _, _, _, _, _, by rw [pat_5 hck hcg hcv hfitB], fun _ => ⟨_, _, _, rfl, rfl, rfl, ⟨hOn.mono h91, ⟨ms, h93 r_37 _ (by simp), set_sl hsm hAllS (fun b o hb => h93 b o (by simp [hb]))⟩, ⟨mr, h93 r_38 _ (by simp), rem_sl hrm hAllR (fun b o hb => h93 b o (by simp [hb]))⟩, hS9, fun p hp => (mem_verL.1 hp).1, fun p hp => (hP.2 p hp).mono h91, hL, by rw [hP.len]; exact hn5, Nat.le_trans (List.length_filter_le ..) (by rw [hP.len]; exact hn5)⟩⟩⟩)
              · skip
                have h75 : (setM s p.sign == (p.kind == 2)) = false := hc75
                rw [fit_step hSto hp hin (hkn p.sign)] at h75
                have hfp := (Bool.not_eq_false' _).mp h75
                refine X_skip ?_
                refine at_then ?_
                refine X_seq ?_
                refine X_region ?_
                refine XO_v0 (ev_fieldAddr rfl fld_53_1) rfl rfl rfl ?_
                refine XO_v0 (ev_load rfl sct_3 (fun hg => by first | exact Cell.h0 rfl | exact Cell.h1 rfl | exact Cell.h2 rfl | exact Cell.h3 rfl | exact Cell.h4 rfl | exact Cell.h5 rfl | (repeat (first | exact Cell.here rfl | apply Cell.there | apply Cell.app)))) rfl rfl rfl ?_
                refine XO_nil ?_
                refine at_then ?_
                refine X_block ?_
                refine X_seq ?_
                refine X_region ?_
                refine XO_v0 (ev_cmp rfl rfl rfl) rfl rfl rfl ?_
                refine XO_v0 (ev_assign rfl) rfl rfl rfl ?_
                refine XO_nil ?_
                refine at_then ?_
                refine X_cond rfl (fun hc79 => ?_) (fun hc79 => ?_)
                · skip
                  have hk2 : p.kind = 2 := by simpa using hc79
                  refine X_seq ?_
                  refine X_region ?_
                  refine XO_v0 (ev_move rfl) rfl rfl rfl ?_
                  refine XO_v0 (ev_fieldAddr rfl fld_53_2) rfl rfl rfl ?_
                  refine XO_v0 (ev_load rfl sct_3 (fun hg => by first | exact Cell.h0 rfl | exact Cell.h1 rfl | exact Cell.h2 rfl | exact Cell.h3 rfl | exact Cell.h4 rfl | exact Cell.h5 rfl | (repeat (first | exact Cell.here rfl | apply Cell.there | apply Cell.app)))) rfl rfl rfl ?_
                  refine XO_mapUpdate (m := s) (ek := Value.int .i64) (ev := Value.bool) (a := p.sign)  true mpt_71 key_3 rfl rfl rfl rfl (by first | exact Upd.u0 | exact Upd.u1 | exact Upd.u2 | exact Upd.u3 | exact Upd.u4 | exact Upd.u5 | (repeat (first | exact Upd.here | apply Upd.there | apply upd_app))) ?_
                  refine XO_nil ?_
                  refine at_then ?_
                  refine X_region ?_
                  refine XO_v0 (ev_fieldAddr rfl fld_85_3) rfl rfl rfl ?_
                  refine XO_v0 (ev_load rfl sct_33 (fun hg => by first | exact Cell.h0 rfl | exact Cell.h1 rfl | exact Cell.h2 rfl | exact Cell.h3 rfl | exact Cell.h4 rfl | exact Cell.h5 rfl | (repeat (first | exact Cell.here rfl | apply Cell.there | apply Cell.app)))) rfl rfl rfl ?_
                  refine XO_v0 (ev_fieldAddr rfl fld_53_4) rfl rfl rfl ?_
                  refine XO_v0 (ev_loadA rfl agt_45 (fun hg => by first | exact Sl.getA hB hb | exact Sl.getA hP1 hp | exact Cells.g0 | exact Cells.g1 | exact Cells.g2 | exact Cells.g3 | exact Cells.g4 | exact Cells.g5 | exact Cells.s0 (vs := [_, _, _, _, _, _, _, _, _, _, _, _, _, _]) rfl | exact Cells.s1 (vs := [_, _, _, _, _, _, _, _, _, _, _, _, _, _]) rfl | exact Cells.s2 (vs := [_, _, _, _, _, _, _, _, _, _, _, _, _, _]) rfl | exact Cells.s3 (vs := [_, _, _, _, _, _, _, _, _, _, _, _, _, _]) rfl | exact Cells.s4 (vs := [_, _, _, _, _, _, _, _, _, _, _, _, _, _]) rfl | exact Cells.s5 (vs := [_, _, _, _, _, _, _, _, _, _, _, _, _, _]) rfl | (repeat (first | exact Cells.here | apply Cells.there | apply Cells.app))) rfl) rfl rfl rfl ?_
                  refine XO_buildSlice (ps := [(0, _)]) (m := [encG p.nw]) elt_33 rfl (.cons rfl (.nil)) rfl (by simp [encI_len, encP_len, encG_len]) (by decide) (by decide) rfl rfl (fun b_88 => ?_)
                  refine XO_append (v := _) (ys := [p.nw].flatMap encG) (L := Lg) rfl rfl elt_33 hO (by repeat (first | exact .cons .here .nil | exact split_all | exact split_app | apply split_cons | apply split_skip)) ⟨rfl, fun _ => rfl, Cells.here⟩ (one_G [p.nw]) (by omega) rfl rfl ?_
                  intro v9 L9 hO9 _; rw [← List.flatMap_append] at hO9; obtain ⟨va9, vn9, vc9, rfl⟩ := hO9.val
                  refine XO_v0 (ev_fieldAddr rfl fld_85_3) rfl rfl rfl ?_
                  refine XO_store rfl rfl szt_33 rfl rfl (by first | exact Upd.u0 | exact Upd.u1 | exact Upd.u2 | exact Upd.u3 | exact Upd.u4 | exact Upd.u5 | (repeat (first | exact Upd.here | apply Upd.there | apply upd_app))) rfl ?_
                  refine XO_nil ?_
                  refine at_block_n ?_
                  refine at_block_n ?_
                  refine at_then ?_
                  refine X_region ?_
                  refine XO_v0 (ev_arB rfl rfl rfl (fun _ => by omega)) rfl rfl rfl ?_
                  refine XO_v0 (ev_move rfl) rfl rfl rfl ?_
                  refine XO_nil ?_
                  first
                  | exact at_met2 _ _ ⟨n - (k + 1), by omega, k + 1, _, _, _, _, _, _, _, _, rfl, rfl, rfl, rfl, by omega, by rw [hT]; exact hkn, by rw [hT]; exact hO, by omega, by rw [hT]; exact hsm, hAllS, by rw [hT]; exact hrm, hAllR, by rw [hT]; exact hfit⟩ (.cons rfl (.cons rfl (.cons rfl (.cons rfl (.cons rfl (.cons rfl .nil)))))) (by repeat (first | exact .refl | exact subL_left | refine subL_app ?_ | refine .drop ?_ | refine subL_add ?_))
                  | exact at_met2 _ _ ⟨n - (k + 1), by omega, k + 1, _, _, _, _, _, _, _, _, rfl, rfl, rfl, rfl, by omega, by rw [hT]; exact hkn.skip hk2n, by rw [hT, insS_no hk2n]; exact hO, by omega, by rw [hT]; exact hsm.skip hk1n, hAllS, by rw [hT]; exact hrm.skip' hk3n, hAllR, by rw [hT, List.all_append, hfit]; simp [hfp]⟩ (.cons rfl (.cons rfl (.cons rfl (.cons rfl (.cons rfl (.cons rfl .nil)))))) (by repeat (first | exact .refl | exact subL_left | refine subL_app ?_ | refine .drop ?_ | refine subL_add ?_))
                  | exact at_metP _ _ (L9 ++ ((r_42, _) :: (r_38, _) :: (r_37, _) :: (b_6, _) :: (Ls ++ Lr))) ⟨n - (k + 1), by omega, k + 1, _, _, _, L9, ms, Ls, mr, Lr, rfl, rfl, rfl, rfl, by omega, by rw [hT]; exact hkn.put hk2, by rw [hT, insS_yes hk2, ← List.append_assoc]; exact hO9, by omega, by rw [hT]; exact hsm.skip (by omega), hAllS, by rw [hT]; exact hrm.skip' (by omega), hAllR, by rw [hT, List.all_append, hfit]; simp [hfp]⟩ (.cons rfl (.cons rfl (.cons rfl (.cons rfl (.cons rfl (.cons rfl .nil)))))) perm_a (by repeat (first | exact .refl | exact subL_left | refine subL_app ?_ | refine .drop ?_ | refine subL_add ?_))
                  | exact at_metP _ _ (L9 ++ ((r_42, _) :: (Lg ++ ((r_38, _) :: (r_37, _) :: (b_6, _) :: (A ++ (B ++ Lr)))))) ⟨n - (k + 1), by omega, k + 1, s, _, q, Lg, _, A ++ (L9 ++ B), mr, Lr, rfl, rfl, rfl, rfl, by omega, by rw [hT]; exact hkn.skip (by omega), by rw [hT, insS_no (by omega)]; exact hO, by omega, by rw [hT]; exact hsm.put hk1, hset (v9, _, _) L9 hO9, by rw [hT]; exact hrm.skip' (by omega), hAllR, by rw [hT, List.all_append, hfit]; simp [hfp]⟩ (.cons rfl (.cons rfl (.cons rfl (.cons rfl (.cons rfl (.cons rfl .nil)))))) perm_b (by repeat (first | exact .refl | exact subL_left | refine subL_app ?_ | refine .drop ?_ | refine subL_add ?_))
                  | exact at_metP _ _ (L9 ++ ((r_42, _) :: (Lg ++ ((r_38, _) :: (r_37, _) :: (b_6, _) :: (Ls ++ (A ++ B)))))) ⟨n - (k + 1), by omega, k + 1, s, _, q, Lg, ms, Ls, _, A ++ (L9 ++ B), rfl, rfl, rfl, rfl, by omega, by rw [hT]; exact hkn.skip (by omega), by rw [hT, insS_no (by omega)]; exact hO, by omega, by rw [hT]; exact hsm.skip (by omega), hAllS, by rw [hT]; exact hrm.put' hk3, hset (v9, _, _) L9 hO9, by rw [hT, List.all_append, hfit]; simp [hfp]⟩ (.cons rfl (.cons rfl (.cons rfl (.cons rfl (.cons rfl (.cons rfl .nil)))))) perm_c (by repeat (first | exact .refl | exact subL_left | refine subL_app ?_ | refine .drop ?_ | refine subL_add ?_))
                · skip
                  have hk2n : p.kind ≠ 2 := by simpa using hc79
                  refine X_seq ?_
                  refine X_region ?_
                  refine XO_v0 (ev_cmp rfl rfl rfl) rfl rfl rfl ?_
                  refine XO_v0 (ev_assign rfl) rfl rfl rfl ?_
                  refine XO_nil ?_
                  refine at_then ?_
                  refine X_cond rfl (fun hc91 => ?_) (fun hc91 => ?_)
                  · skip
                    have hk1 : p.kind = 1 := by simpa using hc91
                    refine X_seq ?_
                    refine X_region ?_
                    refine XO_v0 (ev_fieldAddr rfl fld_53_2) rfl rfl rfl ?_
                    refine XO_v0 (ev_load rfl sct_3 (fun hg => by first | exact Cell.h0 rfl | exact Cell.h1 rfl | exact Cell.h2 rfl | exact Cell.h3 rfl | exact Cell.h4 rfl | exact Cell.h5 rfl | (repeat (first | exact Cell.here rfl | apply Cell.there | apply Cell.app)))) rfl rfl rfl ?_
                    refine XO_v0 (ev_fieldAddr rfl fld_53_3) rfl rfl rfl ?_
                    refine XO_v0 (ev_load rfl sct_3 (fun hg => by first | exact Cell.h0 rfl | exact Cell.h1 rfl | exact Cell.h2 rfl | exact Cell.h3 rfl | exact Cell.h4 rfl | exact Cell.h5 rfl | (repeat (first | exact Cell.here rfl | apply Cell.there | apply Cell.app)))) rfl rfl rfl ?_
                    refine XO_v0 (ev_buildArr (ps := [(0, _), (1, _)]) [_, _] art_133 zt_133 rfl rfl) rfl rfl rfl ?_
                    refine XO_alloc zt_133 rfl rfl (fun b_15 => ?_)
                    refine XO_storeA rfl rfl szt_133 rfl rfl rfl rfl (by first | exact Upd.u0 | exact Upd.u1 | exact Upd.u2 | exact Upd.u3 | exact Upd.u4 | exact Upd.u5 | (repeat (first | exact Upd.here | apply Upd.there | apply upd_app))) ?_
                    refine XO_nil ?_
                    refine at_then ?_
                    obtain ⟨A, Lt, B, hLs, hOt, hset⟩ := hAllS.at (p.sign, p.field)
                    subst hLs
                    rw [List.append_assoc A, List.append_assoc Lt]
                    have hq0 := set_le hsm hOt
                    have hq2 : (verL (ps.take k) ws).length ≤ k := Nat.le_trans (List.length_filter_le ..) (List.length_take_le k ps)
                    refine X_region ?_
                    refine XO_v0 (ev_fieldAddr rfl fld_85_1) rfl rfl rfl ?_
                    refine XO_v0 (ev_load rfl sct_83 (fun hg => by first | exact Cell.h0 rfl | exact Cell.h1 rfl | exact Cell.h2 rfl | exact Cell.h3 rfl | exact Cell.h4 rfl | exact Cell.h5 rfl | (repeat (first | exact Cell.here rfl | apply Cell.there | apply Cell.app)))) rfl rfl rfl ?_
                    refine XO_v0 (ev_loadA rfl agt_133 (fun hg => by first | exact Sl.getA hB hb | exact Sl.getA hP1 hp | exact Cells.g0 | exact Cells.g1 | exact Cells.g2 | exact Cells.g3 | exact Cells.g4 | exact Cells.g5 | exact Cells.s0 (vs := [_, _]) rfl | exact Cells.s1 (vs := [_, _]) rfl | exact Cells.s2 (vs := [_, _]) rfl | exact Cells.s3 (vs := [_, _]) rfl | exact Cells.s4 (vs := [_, _]) rfl | exact Cells.s5 (vs := [_, _]) rfl | (repeat (first | exact Cells.here | apply Cells.there | apply Cells.app))) rfl) rfl rfl rfl ?_
                    refine XO_v0 (ev_loadA rfl agt_53 (fun hg => by first | exact Sl.getA hB hb | exact Sl.getA hP1 hp | exact Cells.g0 | exact Cells.g1 | exact Cells.g2 | exact Cells.g3 | exact Cells.g4 | exact Cells.g5 | exact Cells.s0 (vs := [_, _, _, _, _, _, _, _, _, _, _, _, _, _, _, _, _, _, _]) rfl | exact Cells.s1 (vs := [_, _, _, _, _, _, _, _, _, _, _, _, _, _, _, _, _, _, _]) rfl | exact Cells.s2 (vs := [_, _, _, _, _, _, _, _, _, _, _, _, _, _, _, _, _, _, _]) rfl | exact Cells.s3 (vs := [_, _, _, _, _, _, _, _, _, _, _, _, _, _, _, _, _, _, _]) rfl | exact Cells.s4 (vs := [_, _, _, _, _, _, _, _, _, _, _, _, _, _, _, _, _, _, _]) rfl | exact Cells.s5 (vs := [_, _, _, _, _, _, _, _, _, _, _, _, _, _, _, _, _, _, _]) rfl | (repeat (first | exact Cells.here | apply Cells.there | apply Cells.app))) rfl) rfl rfl rfl ?_
                    refine XO_buildSlice (ps := [(0, _)]) (m := [encP p]) elt_22 rfl (.cons rfl (.nil)) rfl (by simp [encI_len, encP_len, encG_len]) (by decide) (by decide) rfl rfl (fun b_103 => ?_)
                    refine XO_mapEntry (m := ms) (ek := encK2) (ev := fstT) (a := (p.sign, p.field)) nilT rfl mpt_83 key_133 rfl rfl rfl rfl (by first | exact Upd.u0 | exact Upd.u1 | exact Upd.u2 | exact Upd.u3 | exact Upd.u4 | exact Upd.u5 | (repeat (first | exact Upd.here | apply Upd.there | apply upd_app))) ?_
                    refine XO_v0 (ev_extract rfl rfl) rfl rfl rfl ?_
                    refine XO_append (v := _) (ys := [p].flatMap encP) (L := Lt) rfl rfl elt_22 hOt (by repeat (first | exact .cons .here .nil | exact split_all | exact split_app | apply split_cons | apply split_skip)) ⟨rfl, fun _ => rfl, Cells.here⟩ (one_P [p]) (by omega) rfl rfl ?_
                    intro v9 L9 hO9 _
                    refine XO_v0 (ev_extract rfl rfl) rfl rfl rfl ?_
                    refine XO_entryStore (ek := encK2) (ev := fstT) (m := mset ms (p.sign, p.field) ((mget ms (p.sign, p.field)).getD nilT)) (a := (p.sign, p.field)) (v9, ((mget ms (p.sign, p.field)).getD nilT).2.1 + 1, ((mget ms (p.sign, p.field)).getD nilT).2.2 ++ [p].flatMap encP) ((mget ms (p.sign, p.field)).getD nilT) (by rw [mget_mset, if_pos rfl]) rfl (by rw [mpos_mset]; exact rfl) rfl rfl (by repeat (first | exact Upd.here | apply Upd.there | apply upd_app)) ?_
                    rw [mset_mset]
                    refine XO_nil ?_
                    refine at_block_n ?_
                    refine at_block_n ?_
                    refine at_then ?_
                    refine X_region ?_
                    refine XO_v0 (ev_arB rfl rfl rfl (fun _ => by omega)) rfl rfl rfl ?_
                    refine XO_v0 (ev_move rfl) rfl rfl rfl ?_
                    refine XO_nil ?_
                    first
                    | exact at_met2 _ _ ⟨n - (k + 1), by omega, k + 1, _, _, _, _, _, _, _, _, rfl, rfl, rfl, rfl, by omega, by rw [hT]; exact hkn, by rw [hT]; exact hO, by omega, by rw [hT]; exact hsm, hAllS, by rw [hT]; exact hrm, hAllR, by rw [hT]; exact hfit⟩ (.cons rfl (.cons rfl (.cons rfl (.cons rfl (.cons rfl (.cons rfl .nil)))))) (by repeat (first | exact .refl | exact subL_left | refine subL_app ?_ | refine .drop ?_ | refine subL_add ?_))
                    | exact at_met2 _ _ ⟨n - (k + 1), by omega, k + 1, _, _, _, _, _, _, _, _, rfl, rfl, rfl, rfl, by omega, by rw [hT]; exact hkn.skip hk2n, by rw [hT, insS_no hk2n]; exact hO, by omega, by rw [hT]; exact hsm.skip hk1n, hAllS, by rw [hT]; exact hrm.skip' hk3n, hAllR, by rw [hT, List.all_append, hfit]; simp [hfp]⟩ (.cons rfl (.cons rfl (.cons rfl (.cons rfl (.cons rfl (.cons rfl .nil)))))) (by repeat (first | exact .refl | exact subL_left | refine subL_app ?_ | refine .drop ?_ | refine subL_add ?_))
                    | exact at_metP _ _ (L9 ++ ((r_42, _) :: (r_38, _) :: (r_37, _) :: (b_6, _) :: (Ls ++ Lr))) ⟨n - (k + 1), by omega, k + 1, _, _, _, L9, ms, Ls, mr, Lr, rfl, rfl, rfl, rfl, by omega, by rw [hT]; exact hkn.put hk2, by rw [hT, insS_yes hk2, ← List.append_assoc]; exact hO9, by omega, by rw [hT]; exact hsm.skip (by omega), hAllS, by rw [hT]; exact hrm.skip' (by omega), hAllR, by rw [hT, List.all_append, hfit]; simp [hfp]⟩ (.cons rfl (.cons rfl (.cons rfl (.cons rfl (.cons rfl (.cons rfl .nil)))))) perm_a (by repeat (first | exact .refl | exact subL_left | refine subL_app ?_ | refine .drop ?_ | refine subL_add ?_))
                    | exact at_metP _ _ (L9 ++ ((r_42, _) :: (Lg ++ ((r_38, _) :: (r_37, _) :: (b_6, _) :: (A ++ (B ++ Lr)))))) ⟨n - (k + 1), by omega, k + 1, s, _, q, Lg, _, A ++ (L9 ++ B), mr, Lr, rfl, rfl, rfl, rfl, by omega, by rw [hT]; exact hkn.skip (by omega), by rw [hT, insS_no (by omega)]; exact hO, by omega, by rw [hT]; exact hsm.put hk1, hset (v9, _, _) L9 hO9, by rw [hT]; exact hrm.skip' (by omega), hAllR, by rw [hT, List.all_append, hfit]; simp [hfp]⟩ (.cons rfl (.cons rfl (.cons rfl (.cons rfl (.cons rfl (.cons rfl .nil)))))) perm_b (by repeat (first | exact .refl | exact subL_left | refine subL_app ?_ | refine .drop ?_ | refine subL_add ?_))
                    | exact at_metP _ _ (L9 ++ ((r_42, _) :: (Lg ++ ((r_38, _) :: (r_37, _) :: (b_6, _) :: (Ls ++ (A ++ B)))))) ⟨n - (k + 1), by omega, k + 1, s, _, q, Lg, ms, Ls, _, A ++ (L9 ++ B), rfl, rfl, rfl, rfl, by omega, by rw [hT]; exact hkn.skip (by omega), by rw [hT, insS_no (by omega)]; exact hO, by omega, by rw [hT]; exact hsm.skip (by omega), hAllS, by rw [hT]; exact hrm.put' hk3, hset (v9, _, _) L9 hO9, by rw [hT, List.all_append, hfit]; simp [hfp]⟩ (.cons rfl (.cons rfl (.cons rfl (.cons rfl (.cons rfl (.cons rfl .nil)))))) perm_c (by repeat (first | exact .refl | exact subL_left | refine subL_app ?_ | refine .drop ?_ | refine subL_add ?_))
                  · skip
                    have hk1n : p.kind ≠ 1 := by simpa using hc91
                    refine X_seq ?_
                    refine X_region ?_
                    refine XO_v0 (ev_cmp rfl rfl rfl) rfl rfl rfl ?_
                    refine XO_v0 (ev_assign rfl) rfl rfl rfl ?_
                    refine XO_nil ?_
                    refine at_then ?_
                    refine X_cond rfl (fun hc107 => ?_) (fun hc107 => ?_)
                    · skip
                      have hk3 : p.kind = 3 := by simpa using hc107
                      obtain ⟨A, Lt, B, hLr, hOt, hset⟩ := hAllR.at p.sign
                      subst hLr
                      have hq0 := rem_le hrm hOt
                      have hq2 : (verL (ps.take k) ws).length ≤ k := Nat.le_trans (List.length_filter_le ..) (List.length_take_le k ps)
                      have hD := HLe.refl I2
                      refine X_noP ?_
                      refine X_drawS I2 [(b_12, .cells (encP p).toArray 53 (0, 0)), (b_6, .cells #[.map (some r9), .map (some r_37), .map (some r_38), .slice va vn vc] 85 (0, 0))] mixed ?_
                      refine XD_take 0 rfl (ev_fieldAddr rfl fld_85_2) (.none rfl) rfl rfl rfl (by kernel_rfl) (by kernel_rfl) (by kernel_rfl) noP_ok hD (by repeat (first | exact .refl | exact subL_nil | refine .keep ?_ | refine .drop ?_ | refine subL_add ?_)) ?_
                      refine XD_take 1 rfl (ev_load rfl sct_77 (fun hg => by first | exact Cell.h0 rfl | exact Cell.h1 rfl | exact Cell.h2 rfl | exact Cell.h3 rfl | exact Cell.h4 rfl | exact Cell.h5 rfl | (repeat (first | exact Cell.here rfl | apply Cell.there | apply Cell.app)))) (.none rfl) rfl rfl rfl (by kernel_rfl) (by kernel_rfl) (by kernel_rfl) noP_ok hD (by repeat (first | exact .refl | exact subL_nil | refine .keep ?_ | refine .drop ?_ | refine subL_add ?_)) ?_
                      refine XD_take 2 rfl (ev_fieldAddr rfl fld_53_2) (.none rfl) rfl rfl rfl (by kernel_rfl) (by kernel_rfl) (by kernel_rfl) noP_ok hD (by repeat (first | exact .refl | exact subL_nil | refine .keep ?_ | refine .drop ?_ | refine subL_add ?_)) ?_
                      refine XD_take 3 rfl (ev_load rfl sct_3 (fun hg => by first | exact Cell.h0 rfl | exact Cell.h1 rfl | exact Cell.h2 rfl | exact Cell.h3 rfl | exact Cell.h4 rfl | exact Cell.h5 rfl | (repeat (first | exact Cell.here rfl | apply Cell.there | apply Cell.app)))) (.none rfl) rfl rfl rfl (by kernel_rfl) (by kernel_rfl) (by kernel_rfl) noP_ok hD (by repeat (first | exact .refl | exact subL_nil | refine .keep ?_ | refine .drop ?_ | refine subL_add ?_)) ?_
                      refine XD_take 4 rfl (ev_fieldAddr rfl fld_85_2) (.none rfl) rfl rfl rfl (by kernel_rfl) (by kernel_rfl) (by kernel_rfl) noP_ok hD (by repeat (first | exact .refl | exact subL_nil | refine .keep ?_ | refine .drop ?_ | refine subL_add ?_)) ?_
                      refine XD_take 5 rfl (ev_load rfl sct_77 (fun hg => by first | exact Cell.h0 rfl | exact Cell.h1 rfl | exact Cell.h2 rfl | exact Cell.h3 rfl | exact Cell.h4 rfl | exact Cell.h5 rfl | (repeat (first | exact Cell.here rfl | apply Cell.there | apply Cell.app)))) (.none rfl) rfl rfl rfl (by kernel_rfl) (by kernel_rfl) (by kernel_rfl) noP_ok hD (by repeat (first | exact .refl | exact subL_nil | refine .keep ?_ | refine .drop ?_ | refine subL_add ?_)) ?_
                      refine XD_take 6 rfl (ev_fieldAddr rfl fld_53_2) (.none rfl) rfl rfl rfl (by kernel_rfl) (by kernel_rfl) (by kernel_rfl) noP_ok hD (by repeat (first | exact .refl | exact subL_nil | refine .keep ?_ | refine .drop ?_ | refine subL_add ?_)) ?_
                      refine XD_take 7 rfl (ev_load rfl sct_3 (fun hg => by first | exact Cell.h0 rfl | exact Cell.h1 rfl | exact Cell.h2 rfl | exact Cell.h3 rfl | exact Cell.h4 rfl | exact Cell.h5 rfl | (repeat (first | exact Cell.here rfl | apply Cell.there | apply Cell.app)))) (.none rfl) rfl rfl rfl (by kernel_rfl) (by kernel_rfl) (by kernel_rfl) noP_ok hD (by repeat (first | exact .refl | exact subL_nil | refine .keep ?_ | refine .drop ?_ | refine subL_add ?_)) ?_
                      refine XD_take 9 rfl (ev_fieldAddr rfl fld_53_0) (.none rfl) rfl rfl rfl (by kernel_rfl) (by kernel_rfl) (by kernel_rfl) noP_ok hD (by repeat (first | exact .refl | exact subL_nil | refine .keep ?_ | refine .drop ?_ | refine subL_add ?_)) ?_
                      refine XD_take 10 rfl (ev_load rfl sct_3 (fun hg => by first | exact Cell.h0 rfl | exact Cell.h1 rfl | exact Cell.h2 rfl | exact Cell.h3 rfl | exact Cell.h4 rfl | exact Cell.h5 rfl | (repeat (first | exact Cell.here rfl | apply Cell.there | apply Cell.app)))) (.none rfl) rfl rfl rfl (by kernel_rfl) (by kernel_rfl) (by kernel_rfl) noP_ok hD (by repeat (first | exact .refl | exact subL_nil | refine .keep ?_ | refine .drop ?_ | refine subL_add ?_)) ?_
                      refine XD_two 8 11 rfl rfl (by kernel_rfl) ?_ ?_
                      · skip
                        refine XO_v0 (ev_lookupT (m := mr) (ek := Value.int .i64) (a := p.sign)  mpt_77 key_3 rfl rfl (fun _ => .inr (by simp))) rfl rfl rfl ?_
                        refine XO_nil ?_
                        refine at_D hD (by repeat (first | exact .refl | exact subL_nil | refine .keep ?_ | refine .drop ?_ | refine subL_add ?_)) ?_
                        refine XD_one 11 rfl (by kernel_rfl) ?_
                        refine XO_buildSlice (ps := [(0, _)]) (m := [encI p.id]) elt_23 rfl (.cons rfl (.nil)) rfl (by simp [encI_len, encP_len, encG_len]) (by decide) (by decide) rfl rfl (fun b_120 => ?_)
                        refine XO_nil ?_
                        refine at_D hD (by repeat (first | exact .refl | exact subL_nil | refine .keep ?_ | refine .drop ?_ | refine subL_add ?_)) ?_
                        refine XD_one 12 rfl (by kernel_rfl) ?_
                        refine XO_append (v := _) (ys := [p.id].flatMap encI) (L := Lt) rfl rfl elt_23 hOt (by repeat (first | exact .cons .here .nil | exact split_all | exact split_app | apply split_cons | apply split_skip)) ⟨rfl, fun _ => rfl, Cells.here⟩ (one_I [p.id]) (by omega) rfl rfl ?_
                        intro v9 L9 hO9 _
                        refine XO_nil ?_
                        refine at_D hD (by repeat (first | exact .refl | exact subL_nil | refine .keep ?_ | refine .drop ?_ | refine subL_add ?_)) ?_
                        refine XD_one 13 rfl (by kernel_rfl) ?_
                        refine XO_mapUpdate (m := mr) (ek := Value.int .i64) (ev := fstT) (a := p.sign)  (v9, ((mget mr p.sign).getD nilT).2.1 + 1, ((mget mr p.sign).getD nilT).2.2 ++ [p.id].flatMap encI) mpt_77 key_3 rfl rfl rfl rfl (by first | exact Upd.u0 | exact Upd.u1 | exact Upd.u2 | exact Upd.u3 | exact Upd.u4 | exact Upd.u5 | (repeat (first | exact Upd.here | apply Upd.there | apply upd_app))) ?_
                        refine XO_nil ?_
                        refine at_D hD (by repeat (first | exact .refl | exact subL_nil | refine .keep ?_ | refine .drop ?_ | refine subL_add ?_)) ?_
                        refine XD_done (by kernel_rfl) ?_
                        refine at_noP ?_
                        refine at_block_n ?_
                        refine at_block_n ?_
                        refine at_then ?_
                        refine X_region ?_
                        refine XO_v0 (ev_arB rfl rfl rfl (fun _ => by omega)) rfl rfl rfl ?_
                        refine XO_v0 (ev_move rfl) rfl rfl rfl ?_
                        refine XO_nil ?_
                        first
                        | exact at_met2 _ _ ⟨n - (k + 1), by omega, k + 1, _, _, _, _, _, _, _, _, rfl, rfl, rfl, rfl, by omega, by rw [hT]; exact hkn, by rw [hT]; exact hO, by omega, by rw [hT]; exact hsm, hAllS, by rw [hT]; exact hrm, hAllR, by rw [hT]; exact hfit⟩ (.cons rfl (.cons rfl (.cons rfl (.cons rfl (.cons rfl (.cons rfl .nil)))))) (by repeat (first | exact .refl | exact subL_left | refine subL_app ?_ | refine .drop ?_ | refine subL_add ?_))
                        | exact at_met2 _ _ ⟨n - (k + 1), by omega, k + 1, _, _, _, _, _, _, _, _, rfl, rfl, rfl, rfl, by omega, by rw [hT]; exact hkn.skip hk2n, by rw [hT, insS_no hk2n]; exact hO, by omega, by rw [hT]; exact hsm.skip hk1n, hAllS, by rw [hT]; exact hrm.skip' hk3n, hAllR, by rw [hT, List.all_append, hfit]; simp [hfp]⟩ (.cons rfl (.cons rfl (.cons rfl (.cons rfl (.cons rfl (.cons rfl .nil)))))) (by repeat (first | exact .refl | exact subL_left | refine subL_app ?_ | refine .drop ?_ | refine subL_add ?_))
                        | exact at_metP _ _ (L9 ++ ((r_42, _) :: (r_38, _) :: (r_37, _) :: (b_6, _) :: (Ls ++ Lr))) ⟨n - (k + 1), by omega, k + 1, _, _, _, L9, ms, Ls, mr, Lr, rfl, rfl, rfl, rfl, by omega, by rw [hT]; exact hkn.put hk2, by rw [hT, insS_yes hk2, ← List.append_assoc]; exact hO9, by omega, by rw [hT]; exact hsm.skip (by omega), hAllS, by rw [hT]; exact hrm.skip' (by omega), hAllR, by rw [hT, List.all_append, hfit]; simp [hfp]⟩ (.cons rfl (.cons rfl (.cons rfl (.cons rfl (.cons rfl (.cons rfl .nil)))))) perm_a (by repeat (first | exact .refl | exact subL_left | refine subL_app ?_ | refine .drop ?_ | refine subL_add ?_))
                        | exact at_metP _ _ (L9 ++ ((r_42, _) :: (Lg ++ ((r_38, _) :: (r_37, _) :: (b_6, _) :: (A ++ (B ++ Lr)))))) ⟨n - (k + 1), by omega, k + 1, s, _, q, Lg, _, A ++ (L9 ++ B), mr, Lr, rfl, rfl, rfl, rfl, by omega, by rw [hT]; exact hkn.skip (by omega), by rw [hT, insS_no (by omega)]; exact hO, by omega, by rw [hT]; exact hsm.put hk1, hset (v9, _, _) L9 hO9, by rw [hT]; exact hrm.skip' (by omega), hAllR, by rw [hT, List.all_append, hfit]; simp [hfp]⟩ (.cons rfl (.cons rfl (.cons rfl (.cons rfl (.cons rfl (.cons rfl .nil)))))) perm_b (by repeat (first | exact .refl | exact subL_left | refine subL_app ?_ | refine .drop ?_ | refine subL_add ?_))
                        | exact at_metP _ _ (L9 ++ ((r_42, _) :: (Lg ++ ((r_38, _) :: (r_37, _) :: (b_6, _) :: (Ls ++ (A ++ B)))))) ⟨n - (k + 1), by omega, k + 1, s, _, q, Lg, ms, Ls, _, A ++ (L9 ++ B), rfl, rfl, rfl, rfl, by omega, by rw [hT]; exact hkn.skip (by omega), by rw [hT, insS_no (by omega)]; exact hO, by omega, by rw [hT]; exact hsm.skip (by omega), hAllS, by rw [hT]; exact hrm.put' hk3, hset (v9, _, _) L9 hO9, by rw [hT, List.all_append, hfit]; simp [hfp]⟩ (.cons rfl (.cons rfl (.cons rfl (.cons rfl (.cons rfl (.cons rfl .nil)))))) perm_c (by repeat (first | exact .refl | exact subL_left | refine subL_app ?_ | refine .drop ?_ | refine subL_add ?_))
                      · skip
                        refine XO_buildSlice (ps := [(0, _)]) (m := [encI p.id]) elt_23 rfl (.cons rfl (.nil)) rfl (by simp [encI_len, encP_len, encG_len]) (by decide) (by decide) rfl rfl (fun b_120 => ?_)
                        refine XO_nil ?_
                        refine at_D hD (by repeat (first | exact .refl | exact subL_nil | refine .keep ?_ | refine .drop ?_ | refine subL_add ?_)) ?_
                        refine XD_one 8 rfl (by kernel_rfl) ?_
                        refine XO_v0 (ev_lookupT (m := mr) (ek := Value.int .i64) (a := p.sign)  mpt_77 key_3 rfl rfl (fun _ => .inr (by simp))) rfl rfl rfl ?_
                        refine XO_nil ?_
                        refine at_D hD (by repeat (first | exact .refl | exact subL_nil | refine .keep ?_ | refine .drop ?_ | refine subL_add ?_)) ?_
                        refine XD_one 12 rfl (by kernel_rfl) ?_
                        refine XO_append (v := _) (ys := [p.id].flatMap encI) (L := Lt) rfl rfl elt_23 hOt (by repeat (first | exact .cons .here .nil | exact split_all | exact split_app | apply split_cons | apply split_skip)) ⟨rfl, fun _ => rfl, Cells.here⟩ (one_I [p.id]) (by omega) rfl rfl ?_
                        intro v9 L9 hO9 _
                        refine XO_nil ?_
                        refine at_D hD (by repeat (first | exact .refl | exact subL_nil | refine .keep ?_ | refine .drop ?_ | refine subL_add ?_)) ?_
                        refine XD_one 13 rfl (by kernel_rfl) ?_
                        refine XO_mapUpdate (m := mr) (ek := Value.int .i64) (ev := fstT) (a := p.sign)  (v9, ((mget mr p.sign).getD nilT).2.1 + 1, ((mget mr p.sign).getD nilT).2.2 ++ [p.id].flatMap encI) mpt_77 key_3 rfl rfl rfl rfl (by first | exact Upd.u0 | exact Upd.u1 | exact Upd.u2 | exact Upd.u3 | exact Upd.u4 | exact Upd.u5 | (repeat (first | exact Upd.here | apply Upd.there | apply upd_app))) ?_
                        refine XO_nil ?_
                        refine at_D hD (by repeat (first | exact .refl | exact subL_nil | refine .keep ?_ | refine .drop ?_ | refine subL_add ?_)) ?_
                        refine XD_done (by kernel_rfl) ?_
                        refine at_noP ?_
                        refine at_block_n ?_
                        refine at_block_n ?_
                        refine at_then ?_
                        refine X_region ?_
                        refine XO_v0 (ev_arB rfl rfl rfl (fun _ => by omega)) rfl rfl rfl ?_
                        refine XO_v0 (ev_move rfl) rfl rfl rfl ?_
                        refine XO_nil ?_
                        first
                        | exact at_met2 _ _ ⟨n - (k + 1), by omega, k + 1, _, _, _, _, _, _, _, _, rfl, rfl, rfl, rfl, by omega, by rw [hT]; exact hkn, by rw [hT]; exact hO, by omega, by rw [hT]; exact hsm, hAllS, by rw [hT]; exact hrm, hAllR, by rw [hT]; exact hfit⟩ (.cons rfl (.cons rfl (.cons rfl (.cons rfl (.cons rfl (.cons rfl .nil)))))) (by repeat (first | exact .refl | exact subL_left | refine subL_app ?_ | refine .drop ?_ | refine subL_add ?_))
                        | exact at_met2 _ _ ⟨n - (k + 1), by omega, k + 1, _, _, _, _, _, _, _, _, rfl, rfl, rfl, rfl, by omega, by rw [hT]; exact hkn.skip hk2n, by rw [hT, insS_no hk2n]; exact hO, by omega, by rw [hT]; exact hsm.skip hk1n, hAllS, by rw [hT]; exact hrm.skip' hk3n, hAllR, by rw [hT, List.all_append, hfit]; simp [hfp]⟩ (.cons rfl (.cons rfl (.cons rfl (.cons rfl (.cons rfl (.cons rfl .nil)))))) (by repeat (first | exact .refl | exact subL_left | refine subL_app ?_ | refine .drop ?_ | refine subL_add ?_))
                        | exact at_metP _ _ (L9 ++ ((r_42, _) :: (r_38, _) :: (r_37, _) :: (b_6, _) :: (Ls ++ Lr))) ⟨n - (k + 1), by omega, k + 1, _, _, _, L9, ms, Ls, mr, Lr, rfl, rfl, rfl, rfl, by omega, by rw [hT]; exact hkn.put hk2, by rw [hT, insS_yes hk2, ← List.append_assoc]; exact hO9, by omega, by rw [hT]; exact hsm.skip (by omega), hAllS, by rw [hT]; exact hrm.skip' (by omega), hAllR, by rw [hT, List.all_append, hfit]; simp [hfp]⟩ (.cons rfl (.cons rfl (.cons rfl (.cons rfl (.cons rfl (.cons rfl .nil)))))) perm_a (by repeat (first | exact .refl | exact subL_left | refine subL_app ?_ | refine .drop ?_ | refine subL_add ?_))
                        | exact at_metP _ _ (L9 ++ ((r_42, _) :: (Lg ++ ((r_38, _) :: (r_37, _) :: (b_6, _) :: (A ++ (B ++ Lr)))))) ⟨n - (k + 1), by omega, k + 1, s, _, q, Lg, _, A ++ (L9 ++ B), mr, Lr, rfl, rfl, rfl, rfl, by omega, by rw [hT]; exact hkn.skip (by omega), by rw [hT, insS_no (by omega)]; exact hO, by omega, by rw [hT]; exact hsm.put hk1, hset (v9, _, _) L9 hO9, by rw [hT]; exact hrm.skip' (by omega), hAllR, by rw [hT, List.all_append, hfit]; simp [hfp]⟩ (.cons rfl (.cons rfl (.cons rfl (.cons rfl (.cons rfl (.cons rfl .nil)))))) perm_b (by repeat (first | exact .refl | exact subL_left | refine subL_app ?_ | refine .drop ?_ | refine subL_add ?_))
                        | exact at_metP _ _ (L9 ++ ((r_42, _) :: (Lg ++ ((r_38, _) :: (r_37, _) :: (b_6, _) :: (Ls ++ (A ++ B)))))) ⟨n - (k + 1), by omega, k + 1, s, _, q, Lg, ms, Ls, _, A ++ (L9 ++ B), rfl, rfl, rfl, rfl, by omega, by rw [hT]; exact hkn.skip (by omega), by rw [hT, insS_no (by omega)]; exact hO, by omega, by rw [hT]; exact hsm.skip (by omega), hAllS, by rw [hT]; exact hrm.put' hk3, hset (v9, _, _) L9 hO9, by rw [hT, List.all_append, hfit]; simp [hfp]⟩ (.cons rfl (.cons rfl (.cons rfl (.cons rfl (.cons rfl (.cons rfl .nil)))))) perm_c (by repeat (first | exact .refl | exact subL_left | refine subL_app ?_ | refine .drop ?_ | refine subL_add ?_))
                    · skip
                      have hk3n : p.kind ≠ 3 := by simpa using hc107
                      refine X_skip ?_
                      refine at_block_n ?_
                      refine at_block_n ?_
                      refine at_then ?_
                      refine X_region ?_
                      refine XO_v0 (ev_arB rfl rfl rfl (fun _ => by omega)) rfl rfl rfl ?_
                      refine XO_v0 (ev_move rfl) rfl rfl rfl ?_
                      refine XO_nil ?_
                      first
                      | exact at_met2 _ _ ⟨n - (k + 1), by omega, k + 1, _, _, _, _, _, _, _, _, rfl, rfl, rfl, rfl, by omega, by rw [hT]; exact hkn, by rw [hT]; exact hO, by omega, by rw [hT]; exact hsm, hAllS, by rw [hT]; exact hrm, hAllR, by rw [hT]; exact hfit⟩ (.cons rfl (.cons rfl (.cons rfl (.cons rfl (.cons rfl (.cons rfl .nil)))))) (by repeat (first | exact .refl | exact subL_left | refine subL_app ?_ | refine .drop ?_ | refine subL_add ?_))
                      | exact at_met2 _ _ ⟨n - (k + 1), by omega, k + 1, _, _, _, _, _, _, _, _, rfl, rfl, rfl, rfl, by omega, by rw [hT]; exact hkn.skip hk2n, by rw [hT, insS_no hk2n]; exact hO, by omega, by rw [hT]; exact hsm.skip hk1n, hAllS, by rw [hT]; exact hrm.skip' hk3n, hAllR, by rw [hT, List.all_append, hfit]; simp [hfp]⟩ (.cons rfl (.cons rfl (.cons rfl (.cons rfl (.cons rfl (.cons rfl .nil)))))) (by repeat (first | exact .refl | exact subL_left | refine subL_app ?_ | refine .drop ?_ | refine subL_add ?_))
                      | exact at_metP _ _ (L9 ++ ((r_42, _) :: (r_38, _) :: (r_37, _) :: (b_6, _) :: (Ls ++ Lr))) ⟨n - (k + 1), by omega, k + 1, _, _, _, L9, ms, Ls, mr, Lr, rfl, rfl, rfl, rfl, by omega, by rw [hT]; exact hkn.put hk2, by rw [hT, insS_yes hk2, ← List.append_assoc]; exact hO9, by omega, by rw [hT]; exact hsm.skip (by omega), hAllS, by rw [hT]; exact hrm.skip' (by omega), hAllR, by rw [hT, List.all_append, hfit]; simp [hfp]⟩ (.cons rfl (.cons rfl (.cons rfl (.cons rfl (.cons rfl (.cons rfl .nil)))))) perm_a (by repeat (first | exact .refl | exact subL_left | refine subL_app ?_ | refine .drop ?_ | refine subL_add ?_))
                      | exact at_metP _ _ (L9 ++ ((r_42, _) :: (Lg ++ ((r_38, _) :: (r_37, _) :: (b_6, _) :: (A ++ (B ++ Lr)))))) ⟨n - (k + 1), by omega, k + 1, s, _, q, Lg, _, A ++ (L9 ++ B), mr, Lr, rfl, rfl, rfl, rfl, by omega, by rw [hT]; exact hkn.skip (by omega), by rw [hT, insS_no (by omega)]; exact hO, by omega, by rw [hT]; exact hsm.put hk1, hset (v9, _, _) L9 hO9, by rw [hT]; exact hrm.skip' (by omega), hAllR, by rw [hT, List.all_append, hfit]; simp [hfp]⟩ (.cons rfl (.cons rfl (.cons rfl (.cons rfl (.cons rfl (.cons rfl .nil)))))) perm_b (by repeat (first | exact .refl | exact subL_left | refine subL_app ?_ | refine .drop ?_ | refine subL_add ?_))
                      | exact at_metP _ _ (L9 ++ ((r_42, _) :: (Lg ++ ((r_38, _) :: (r_37, _) :: (b_6, _) :: (Ls ++ (A ++ B)))))) ⟨n - (k + 1), by omega, k + 1, s, _, q, Lg, ms, Ls, _, A ++ (L9 ++ B), rfl, rfl, rfl, rfl, by omega, by rw [hT]; exact hkn.skip (by omega), by rw [hT, insS_no (by omega)]; exact hO, by omega, by rw [hT]; exact hsm.skip (by omega), hAllS, by rw [hT]; exact hrm.put' hk3, hset (v9, _, _) L9 hO9, by rw [hT, List.all_append, hfit]; simp [hfp]⟩ (.cons rfl (.cons rfl (.cons rfl (.cons rfl (.cons rfl (.cons rfl .nil)))))) perm_c (by repeat (first | exact .refl | exact subL_left | refine subL_app ?_ | refine .drop ?_ | refine subL_add ?_))
          · skip
            have hge_k : n ≤ k := by have h := hc56; simp at h; omega
            have hTn : verL (ps.take k) ws = verL ps ws := by rw [take_all hP.len hge_k]
            rw [hTn] at hkn hO hsm hrm hfit
            have hfitB : fitB bs (verL ps ws) = true := hfit
            refine X_exit ?_
            refine at_then_e ?_
            refine at_then_e ?_
            refine at_block_hit ?_
            refine at_then ?_
            refine X_seq ?_
            refine X_region ?_
            refine XO_v0 (ev_fieldAddr rfl fld_85_3) rfl rfl rfl ?_
            refine XO_v0 (ev_load rfl sct_33 (fun hg => by first | exact Cell.h0 rfl | exact Cell.h1 rfl | exact Cell.h2 rfl | exact Cell.h3 rfl | exact Cell.h4 rfl | exact Cell.h5 rfl | (repeat (first | exact Cell.here rfl | apply Cell.there | apply Cell.app)))) rfl rfl rfl ?_
            refine XO_callM (cap := []) (vs := [_, _]) rfl rfl fun_80 (by repeat (first | exact .cons .here .nil | exact split_all | exact split_app | apply split_cons | apply split_skip)) (w_sortG 45 _ hO (by omega) _) rfl rfl ?_
            rintro vv5 I5 L5 hI5 ⟨rfl, rfl, zs2, hperm, hsort, hO2⟩
            have hP := hP.mono hI5
            have hB := hB.mono hI5
            have hV := hV.mono hI5
            have hOn := hOn.mono hI5
            have hIc := hIc.trans hI5
            refine XO_nil ?_
            have hz2 : zs2 = allG bs (verL ps ws) := all_made (skB_srt (chkG_ok hcg).2) (verL_sto hSto hVer) hfitB hperm hsort
            rw [hz2] at hO2
            refine at_then ?_
            refine X_seq ?_
            refine X_region ?_
            refine XO_v0 (ev_loadA rfl agt_85 (fun hg => by first | exact Sl.getA hB hb | exact Sl.getA hP1 hp | exact Cells.g0 | exact Cells.g1 | exact Cells.g2 | exact Cells.g3 | exact Cells.g4 | exact Cells.g5 | exact Cells.s0 (vs := [_, _, _, _]) rfl | exact Cells.s1 (vs := [_, _, _, _]) rfl | exact Cells.s2 (vs := [_, _, _, _]) rfl | exact Cells.s3 (vs := [_, _, _, _]) rfl | exact Cells.s4 (vs := [_, _, _, _]) rfl | exact Cells.s5 (vs := [_, _, _, _]) rfl | (repeat (first | exact Cells.here | apply Cells.there | apply Cells.app))) rfl) rfl rfl rfl ?_
            refine XO_storeA rfl rfl szt_85 rfl rfl rfl rfl (by first | exact Upd.u0 | exact Upd.u1 | exact Upd.u2 | exact Upd.u3 | exact Upd.u4 | exact Upd.u5 | (repeat (first | exact Upd.here | apply Upd.there | apply upd_app))) ?_
            refine XO_v0 (ev_assign rfl) rfl rfl rfl ?_
            refine XO_nil ?_
            refine at_then ?_
            refine X_ret ?_
            first
            | exact at_ret2A rfl rfl rfl agt_85 (by repeat (first | exact Cells.here | apply Cells.there | apply Cells.app)) rfl (fun w hw => ⟨_, I5, [], rfl, hIc, hw.drop, rfl, _, _, _, _, _, _, by rw [pat_1 hck], fun h0 => absurd h0 (by rw [pat_1 hck]; exact hck)⟩)
            | exact at_ret2A rfl rfl rfl agt_85 (by repeat (first | exact Cells.here | apply Cells.there | apply Cells.app)) rfl (fun w hw => ⟨_, I5, [], rfl, hIc, hw.drop, rfl, _, _, _, _, _, _, by rw [pat_2 hck hcg], fun h0 => absurd h0 (by rw [pat_2 hck hcg]; exact hcg)⟩)
            | exact at_ret2A rfl rfl rfl agt_85 (by repeat (first | exact Cells.here | apply Cells.there | apply Cells.app)) rfl (fun w hw => ⟨_, I5, [], rfl, hIc, hw.drop, rfl, _, _, _, _, _, _, by rw [pat_3 hck hcg hcv], fun h0 => absurd h0 (by rw [pat_3 hck hcg hcv]; exact hcv)⟩)
            | exact at_ret2A rfl rfl rfl agt_85 (by repeat (first | exact Cells.here | apply Cells.there | apply Cells.app)) rfl (fun w hw => ⟨_, I5, [], rfl, hIc, hw.drop, rfl, _, _, _, _, _, _, by rw [pat_4 hck hcg hcv hfb], fun h0 => absurd h0 (by rw [pat_4 hck hcg hcv hfb]; exact (by decide))⟩)
            | exact at_ret2A rfl rfl rfl agt_85 (by repeat (first | exact Cells.here | apply Cells.there | apply Cells.app)) rfl (fun w hw => by obtain ⟨I9, h91, h92, h93⟩ := hw.freezeAll; obtain ⟨av9, c9, hv9, hS9⟩ := hO2.sl encG_len (by decide) (fun b o hb => h93 b o (by simp [hb])); cases hv9; exact ⟨_, I9, [], rfl, hIc.trans h91, h92, rfl, _, _, _, _, _, _, by rw [pat_5 hck hcg hcv hfitB], fun _ => ⟨_, _, _, rfl, rfl, rfl, ⟨hOn.mono h91, ⟨ms, h93 r_37 _ (by simp), set_sl hsm hAllS (fun b o hb => h93 b o (by simp [hb]))⟩, ⟨mr, h93 r_38 _ (by simp), rem_sl hrm hAllR (fun b o hb => h93 b o (by simp [hb]))⟩, hS9, fun p hp => (mem_verL.1 hp).1, fun p hp => (hP.2 p hp).mono h91, hL, by rw [hP.len]; exact hn5, Nat.le_trans (List.length_filter_le ..) (by rw [hP.len]; exact hn5)⟩⟩⟩)
end Go.Proofs.YtccomeanpppfmaaGreat
end
section
namespace Go.Proofs.YtccomeanpppfmaaGreat
open Go Go.Kn Go.Proofs
def filI (P : Pt → Bool) (xs : List Pt) : List Int := (xs.filter P).map (·.id)
theorem filI_zero {P : Pt → Bool} {xs : List Pt} : filI P (xs.take 0) = [] := by unfold filI; simp
theorem filI_yes {P : Pt → Bool} {xs : List Pt} {k : Nat} {p : Pt} (hp : xs[k]? = some p) (h : P p = true) : filI P (xs.take (k + 1)) = filI P (xs.take k) ++ [p.id] := by
  unfold filI
  rw [take_snoc hp, List.filter_append, List.filter_cons, if_pos h]; simp
theorem filI_no {P : Pt → Bool} {xs : List Pt} {k : Nat} {p : Pt} (hp : xs[k]? = some p) (h : P p = false) : filI P (xs.take (k + 1)) = filI P (xs.take k) := by
  unfold filI
  rw [take_snoc hp, List.filter_append, List.filter_cons, if_neg (by rw [h]; exact Bool.false_ne_true)]; simp
def unP1 (on : Int → Int → Bool) (l : List Pt) (s : Int) (p : Pt) : Bool := (rmF l s).any fun i => !on i p.id
def unL (on : Int → Int → Bool) (l : List Pt) (s f : Int) : List Int := filI (unP1 on l s) (stF l s f)
/-- The sets of a sign that some remove has not seen, by fields. -/
def unK (on : Int → Int → Bool) (l : List Pt) (s : Int) (k : Nat) : List Int := (List.range k).flatMap fun (j : Nat) => unL on l s ((j : Int) + 1)
theorem unK_next (on : Int → Int → Bool) (l : List Pt) (s : Int) (k : Nat) : unK on l s (k + 1) = unK on l s k ++ unL on l s ((k : Int) + 1) := by
  unfold unK
  rw [List.range_succ, List.flatMap_append]; simp
theorem unK_len {on : Int → Int → Bool} {l : List Pt} {s : Int} (k : Nat) : (unK on l s k).length ≤ k * l.length := by
  induction k with
  | zero => simp [unK]
  | succ k ih =>
    rw [unK_next, List.length_append, Nat.succ_mul]
    have h1 : (unL on l s ((k : Int) + 1)).length ≤ l.length := by
      unfold unL filI
      rw [List.length_map]
      exact Nat.le_trans (List.length_filter_le ..) stF_len
    omega
theorem un_bound {on : Int → Int → Bool} {l xs : List Pt} {s : Int} {k j e q : Nat} {v : Value} {P : Pt → Bool} {L : Go.Kn.Loc} (hO : OwnS e 1 v q ((unK on l s k ++ filI P (xs.take j)).flatMap encI) L) (hk : k ≤ 9) (hl : l.length ≤ 512) (hx : xs.length ≤ 512) : q ≤ 10000 := by
  have h1 := hO.1
  rw [lenI, List.length_append] at h1
  have h2 : (unK on l s k).length ≤ 9 * 512 := Nat.le_trans (unK_len k) (Nat.mul_le_mul hk hl)
  have h3 : (filI P (xs.take j)).length ≤ xs.length := by
    unfold filI
    rw [List.length_map]
    refine Nat.le_trans (List.length_filter_le ..) ?_
    rw [List.length_take]; omega
  omega
theorem mem_unK {on : Int → Int → Bool} {l : List Pt} {s : Int} (hok : ∀ p ∈ l, PtOK p) {x : Int} : x ∈ unK on l s 9 ↔ x ∈ (unF on l s).map (·.id) := by
  unfold unK unL filI unF unB
  rw [List.mem_flatMap]
  simp only [List.mem_map, List.mem_filter, List.mem_range, mem_stF, Bool.and_eq_true, beq_iff_eq]
  constructor
  · rintro ⟨j, hj, p, ⟨⟨hp, hk, hs, hf⟩, hu⟩, rfl⟩
    exact ⟨p, ⟨hp, hs, hk, by rw [hs]; exact hu⟩, rfl⟩
  · rintro ⟨p, ⟨hp, hs, hk, hu⟩, rfl⟩
    have hf := ((hok p hp).set hk).1
    unfold isF at hf
    refine ⟨(p.field - 1).toNat, by omega, p, ⟨⟨hp, hk, hs, by omega⟩, by rw [hs] at hu; exact hu⟩, rfl⟩
theorem ex_eq {on : Int → Int → Bool} {l : List Pt} {s : Int} (hok : ∀ p ∈ l, PtOK p) : ((((rmF l s).length : Int) == 0) || decide (((unK on l s 9).length : Int) > 0)) = exB on l s := by
  unfold exB
  have h1 : (unK on l s 9).length = 0 ↔ unF on l s = [] := by
    constructor
    · intro h
      have h2 := List.length_eq_zero_iff.1 h
      cases hu : unF on l s with
      | nil => rfl
      | cons p us =>
        have : p.id ∈ unK on l s 9 := (mem_unK hok).2 (by rw [hu]; simp)
        rw [h2] at this; cases this
    · intro h
      cases hu : unK on l s 9 with
      | nil => rfl
      | cons x us =>
        have : x ∈ (unF on l s).map (·.id) := (mem_unK hok).1 (by rw [hu]; simp)
        rw [h] at this; cases this
  congr 1
  · cases rmF l s with
    | nil => rfl
    | cons x us => simp; omega
  · cases hu : unF on l s with
    | nil => rw [h1.2 hu]; rfl
    | cons p us =>
      have : (unK on l s 9).length ≠ 0 := fun h => by rw [h1.1 h] at hu; cases hu
      simp; omega
theorem rm_has {ps l : List Pt} (hsub : ∀ p ∈ l, p ∈ ps) {s i : Int} (h : i ∈ rmF l s) : ∃ q ∈ ps, q.id = i := by
  obtain ⟨q, hq, _, _, e⟩ := mem_rmF.1 h
  exact ⟨q, hsub q hq, e⟩
theorem rm_len {l : List Pt} {s : Int} : (rmF l s).length ≤ l.length := kindL_len (c := 3)
/-- Does no set of the list stand on p? -/
def latB (on : Int → Int → Bool) (xs : List Pt) (p : Pt) : Bool := !xs.any fun q => on q.id p.id
theorem lat_eq (on : Int → Int → Bool) (l : List Pt) (s f : Int) : latF on l s f = (stF l s f).filter (latB on (stF l s f)) := rfl
theorem fil_yes {P : Pt → Bool} {xs : List Pt} {k : Nat} {p : Pt} (hp : xs[k]? = some p) (h : P p = true) : (xs.take (k + 1)).filter P = (xs.take k).filter P ++ [p] := by
  rw [take_snoc hp, List.filter_append, List.filter_cons, if_pos h]; simp
theorem fil_no {P : Pt → Bool} {xs : List Pt} {k : Nat} {p : Pt} (hp : xs[k]? = some p) (h : P p = false) : (xs.take (k + 1)).filter P = (xs.take k).filter P := by
  rw [take_snoc hp, List.filter_append, List.filter_cons, if_neg (by rw [h]; exact Bool.false_ne_true)]; simp
theorem fil_pre {P : Pt → Bool} {xs : List Pt} {k : Nat} {p : Pt} (hp : xs[k]? = some p) (h : P p = true) : (xs.take k).filter P ++ [p] <+: xs.filter P := by
  rw [← fil_yes hp h]
  exact ⟨(xs.drop (k + 1)).filter P, by rw [← List.filter_append, List.take_append_drop]⟩
end Go.Proofs.YtccomeanpppfmaaGreat
end
section
namespace Go.Proofs.YtccomeanpppfmaaGreat
open Go Go.Kn Go.Proofs
theorem w_un1 {I : HMap} {b1 b2 r1 r2 r3 : Nat} {av : Option Addr} {n c : Nat} {p : Pt} {ps : List Pt} (h1 : I b1 = some (.cells #[.map (some r1), .map (some r2), .map (some r3), .slice av n c] 85 (0, 0))) (h2 : I b2 = some (.cells (encP p).toArray 53 (0, 0))) (hOn : OnM I r1 ps) (id : Int) (hid : ∃ q ∈ ps, q.id = id) : RetV Tryz.prog 87 [.int .i64 id, .pointer (some ⟨b1, 0, none⟩), .pointer (some ⟨b2, 0, none⟩)] I (.bool (!onF ps id p.id)) := by
  intro g H w hw
  refine enter Tryz.func87 rfl Tryz.ntmps87 rfl hw ?_
  obtain ⟨m, hm1, hm2⟩ := hOn
  obtain ⟨ref, hget, sn, hsn, hsq⟩ := hm2.get hid
  refine X_seq ?_
  refine X_region ?_
  refine XO_v0 (ev_assign rfl) rfl rfl rfl ?_
  refine XO_nil ?_
  refine at_then ?_
  refine X_seq ?_
  refine X_region ?_
  refine XO_v0 (ev_fieldAddr rfl fld_85_0) rfl rfl rfl ?_
  refine XO_v0 (ev_load rfl sct_74 (fun hg => by first | exact .imm h1 rfl | exact .imm h2 rfl | exact Cell.h0 rfl | exact Cell.h1 rfl | exact Cell.h2 rfl | exact Cell.h3 rfl | exact Cell.h4 rfl | exact Cell.h5 rfl | (repeat (first | exact Cell.here rfl | apply Cell.there | apply Cell.app)))) rfl rfl rfl ?_
  refine XO_v0 (ev_move rfl) rfl rfl rfl ?_
  refine XO_v0 (ev_lookupG (m := m) (ek := Value.int .i64) (ev := refV) (a := id) hget mpt_74 key_3 rfl rfl (fun _ => .inl hm1)) rfl rfl rfl ?_
  refine XO_v0 (ev_fieldAddr rfl fld_53_0) rfl rfl rfl ?_
  refine XO_v0 (ev_load rfl sct_3 (fun hg => by first | exact .imm h1 rfl | exact .imm h2 rfl | exact Cell.h0 rfl | exact Cell.h1 rfl | exact Cell.h2 rfl | exact Cell.h3 rfl | exact Cell.h4 rfl | exact Cell.h5 rfl | (repeat (first | exact Cell.here rfl | apply Cell.there | apply Cell.app)))) rfl rfl rfl ?_
  refine XO_v0 (ev_lookupBool (m := sn) mpt_71 key_3 rfl rfl (fun _ => .inl hsn)) rfl rfl rfl ?_
  refine XO_v0 (ev_not rfl) rfl rfl rfl ?_
  refine XO_v0 (ev_assign rfl) rfl rfl rfl ?_
  refine XO_nil ?_
  refine at_then ?_
  refine X_ret ?_
  exact at_ret1 rfl rfl (fun w hw => ⟨by rw [show (mget sn p.id).getD false = onF ps id p.id from hsq.mem _], hw.drop⟩)
theorem w_unseen {I : HMap} {ps l : List Pt} {xs : List Sg} {r1 r2 r3 : Nat} {av : Option Addr} {n c : Nat} (hx : StQ I ps l xs r1 r2 r3 av n c) (s : Int) : RetM Tryz.prog 49 [stA r1 r2 r3 av n c, .int .i64 s] I [] (SlRes 1 encI (unK (onF ps) l s 9)) := by
  intro g H w hw
  refine enter Tryz.func49 rfl Tryz.ntmps49 rfl hw ?_
  have hIc := HLe.refl I
  obtain ⟨ms, hms, hset⟩ := hx.set
  obtain ⟨mr, hmr, hrem⟩ := hx.rem
  obtain ⟨av3, c3, hv3, hS3⟩ := hrem s
  have hfl := hx.fewl
  have hrl := rm_len (l := l) (s := s)
  refine X_seq ?_
  refine X_region ?_
  refine XO_box rfl rfl rfl (fun b_2 => ?_)
  refine XO_v0 (ev_assign rfl) rfl rfl rfl ?_
  refine XO_nil ?_
  refine at_then ?_
  refine X_seq ?_
  refine X_seq ?_
  refine X_dropTo ((b_2, .cells #[.map (some r1), .map (some r2), .map (some r3), .slice av n c] 85 (0, 0)) :: []) .refl ?_
  refine X_region ?_
  refine XO_v0 (ev_assign rfl) rfl rfl rfl ?_
  refine XO_nil ?_
  refine at_then ?_
  refine X_block ?_
  refine X_loopT [(1, _), (2, _)] (.cons rfl (.cons rfl .nil)) (fun T L0 mz E I' loc' => ∃ (k : Nat) (v : Value) (q : Nat) (L : Go.Kn.Loc), mz = 9 - k ∧ E = (4, v) :: (5, .int .i64 ((k : Int) + 1)) :: T ∧ I = I' ∧ (b_2, .cells #[.map (some r1), .map (some r2), .map (some r3), .slice av n c] 85 (0, 0)) :: L = loc' ∧ k ≤ 9 ∧ OwnS 3 1 v q ((unK (onF ps) l s k).flatMap encI) L ∧ True) _ _ _ _ ⟨0, _, 0, [], rfl, rfl, rfl, rfl, Nat.zero_le _, OwnS.nil, trivial⟩ (.cons rfl (.cons rfl (.cons rfl (.cons rfl .nil)))) (HLe.refl _) rfl ?_
  rintro mz E I' loc' ⟨k, v, q, L, rfl, rfl, rfl, rfl, hk, hO, _⟩
  refine X_seq ?_
  refine X_seq ?_
  refine X_region ?_
  refine XO_v0 (ev_move rfl) rfl rfl rfl ?_
  refine XO_v0 (ev_cmp rfl rfl rfl) rfl rfl rfl ?_
  refine XO_nil ?_
  refine at_then ?_
  refine X_cond rfl (fun hc9 => ?_) (fun hc9 => ?_)
  · skip
    have hlt_k : k < 9 := by have h := hc9; simp at h; omega
    refine X_skip ?_
    refine at_then ?_
    refine X_seq ?_
    refine X_block ?_
    refine X_seq ?_
    obtain ⟨av2, c2, hv2, hS2⟩ := hset (s, (k : Int) + 1)
    dsimp only at hv2 hS2
    have hstl := stF_len (l := l) (s := s) (f := (k : Int) + 1)
    refine X_region ?_
    refine XO_v0 (ev_fieldAddr rfl fld_85_1) rfl rfl rfl ?_
    refine XO_v0 (ev_load rfl sct_83 (fun hg => by first | exact Cell.h0 rfl | exact Cell.h1 rfl | exact Cell.h2 rfl | exact Cell.h3 rfl | exact Cell.h4 rfl | exact Cell.h5 rfl | (repeat (first | exact Cell.here rfl | apply Cell.there | apply Cell.app)))) rfl rfl rfl ?_
    refine XO_v0 (ev_move rfl) rfl rfl rfl ?_
    refine XO_v0 (ev_move rfl) rfl rfl rfl ?_
    refine XO_v0 (ev_buildArr (ps := [(0, _), (1, _)]) [_, _] art_133 zt_133 rfl rfl) rfl rfl rfl ?_
    refine XO_v0 (ev_lookupTE (m := ms) (ek := encK2) (a := (s, (k : Int) + 1)) hv2 mpt_83 key_133 rfl rfl (fun _ => .inl hms)) rfl rfl rfl ?_
    refine XO_v0 (ev_lenS rfl slt_22) rfl rfl rfl ?_
    refine XO_v0 (ev_move rfl) rfl rfl rfl ?_
    refine XO_nil ?_
    refine at_then ?_
    refine X_block ?_
    refine X_loopT [(1, _), (2, _), (5, _), (17, _), (18, _)] (.cons rfl (.cons rfl (.cons rfl (.cons rfl (.cons rfl .nil))))) (fun T L0 mz E I' loc' => ∃ (j : Nat) (v : Value) (q : Nat) (L : Go.Kn.Loc), mz = (stF l s ((k : Int) + 1)).length - j ∧ E = (4, v) :: (19, .int .i64 j) :: T ∧ I = I' ∧ (b_2, .cells #[.map (some r1), .map (some r2), .map (some r3), .slice av n c] 85 (0, 0)) :: L = loc' ∧ j ≤ (stF l s ((k : Int) + 1)).length ∧ OwnS 3 1 v q ((unK (onF ps) l s k ++ filI (unP1 (onF ps) l s) ((stF l s ((k : Int) + 1)).take j)).flatMap encI) L ∧ True) _ _ _ _ ⟨0, v, q, L, rfl, rfl, rfl, rfl, Nat.zero_le _, by rw [filI_zero, List.append_nil]; exact hO, trivial⟩ (.cons rfl (.cons rfl (.cons rfl (.cons rfl (.cons rfl (.cons rfl (.cons rfl .nil))))))) (HLe.refl _) rfl ?_
    rintro mz E I' loc' ⟨j, v, q, L, rfl, rfl, rfl, rfl, hj, hO, _⟩
    refine X_seq ?_
    refine X_region ?_
    refine XO_v0 (ev_cmp rfl rfl rfl) rfl rfl rfl ?_
    refine XO_nil ?_
    refine at_then ?_
    refine X_seq ?_
    refine X_cond rfl (fun hc20 => ?_) (fun hc20 => ?_)
    · skip
      have hlt_j : j < (stF l s ((k : Int) + 1)).length := by have h := hc20; simp at h; omega
      obtain ⟨p, hp⟩ := hS2.at hlt_j
      refine X_skip ?_
      refine at_then ?_
      refine X_seq ?_
      refine X_block ?_
      refine X_seq ?_
      refine X_region ?_
      refine XO_v0 (ev_indexSl rfl rfl slt_22 (by assumption) (fun hg => by first | omega | (simp [conj] at hg; omega))) rfl rfl rfl ?_
      refine XO_v0 (ev_loadA rfl agt_53 (fun hg => by first | exact Sl.getA hS2 hp | exact Cells.g0 | exact Cells.g1 | exact Cells.g2 | exact Cells.g3 | exact Cells.g4 | exact Cells.g5 | exact Cells.s0 (vs := [_, _, _, _, _, _, _, _, _, _, _, _, _, _, _, _, _, _, _]) rfl | exact Cells.s1 (vs := [_, _, _, _, _, _, _, _, _, _, _, _, _, _, _, _, _, _, _]) rfl | exact Cells.s2 (vs := [_, _, _, _, _, _, _, _, _, _, _, _, _, _, _, _, _, _, _]) rfl | exact Cells.s3 (vs := [_, _, _, _, _, _, _, _, _, _, _, _, _, _, _, _, _, _, _]) rfl | exact Cells.s4 (vs := [_, _, _, _, _, _, _, _, _, _, _, _, _, _, _, _, _, _, _]) rfl | exact Cells.s5 (vs := [_, _, _, _, _, _, _, _, _, _, _, _, _, _, _, _, _, _, _]) rfl | (repeat (first | exact Cells.here | apply Cells.there | apply Cells.app))) rfl) rfl rfl rfl ?_
      refine XO_alloc zt_53 rfl rfl (fun b_7 => ?_)
      refine XO_storeA rfl rfl szt_53 rfl rfl rfl rfl (by first | exact Upd.u0 | exact Upd.u1 | exact Upd.u2 | exact Upd.u3 | exact Upd.u4 | exact Upd.u5 | (repeat (first | exact Upd.here | apply Upd.there | apply upd_app))) ?_
      refine XO_nil ?_
      refine at_then ?_
      refine X_seq ?_
      refine X_region ?_
      refine XO_v0 (ev_fieldAddr rfl fld_85_2) rfl rfl rfl ?_
      refine XO_v0 (ev_load rfl sct_77 (fun hg => by first | exact Cell.h0 rfl | exact Cell.h1 rfl | exact Cell.h2 rfl | exact Cell.h3 rfl | exact Cell.h4 rfl | exact Cell.h5 rfl | (repeat (first | exact Cell.here rfl | apply Cell.there | apply Cell.app)))) rfl rfl rfl ?_
      refine XO_v0 (ev_move rfl) rfl rfl rfl ?_
      refine XO_v0 (ev_lookupTE (m := mr) (ek := Value.int .i64) (a := s) hv3 mpt_77 key_3 rfl rfl (fun _ => .inl hmr)) rfl rfl rfl ?_
      refine XO_v0 (ev_makeFunc (us := []) (vs := [_, _]) rfl rfl) rfl rfl rfl ?_
      refine XO_callK0 (cap := []) (vs := [_, _]) rfl rfl fun_36 split_all (RetK.ofV fun I' hI' hL' => w_cnI (cap := [.pointer (some ⟨b_2, 0, none⟩), .pointer (some ⟨b_7, 0, none⟩)]) (hS3.mono hI') (by omega) fun_87 (fun i hi => w_un1 (b1 := b_2) (b2 := b_7) (r1 := r1) (r2 := r2) (r3 := r3) (av := av) (n := n) (c := c) (p := p) (hL' b_2 _ (by simp)) (hL' b_7 _ (by simp)) (hx.on.mono hI') i (rm_has hx.sub hi))) rfl rfl ?_
      refine XO_nil ?_
      refine at_then ?_
      refine X_cond rfl (fun hc28 => ?_) (fun hc28 => ?_)
      · skip
        have hq := un_bound hO (by omega) hfl (by omega)
        refine X_region ?_
        refine XO_v0 (ev_move rfl) rfl rfl rfl ?_
        refine XO_v0 (ev_fieldAddr rfl fld_53_0) rfl rfl rfl ?_
        refine XO_v0 (ev_load rfl sct_3 (fun hg => by first | exact Cell.h0 rfl | exact Cell.h1 rfl | exact Cell.h2 rfl | exact Cell.h3 rfl | exact Cell.h4 rfl | exact Cell.h5 rfl | (repeat (first | exact Cell.here rfl | apply Cell.there | apply Cell.app)))) rfl rfl rfl ?_
        refine XO_buildSlice (ps := [(0, _)]) (m := [encI p.id]) elt_23 rfl (.cons rfl (.nil)) rfl (by simp [encI_len]) (by decide) (by decide) rfl rfl (fun b_32 => ?_)
        refine XO_append (v := _) (ys := [p.id].flatMap encI) (L := L) rfl rfl elt_23 hO (by repeat (first | exact .cons .here .nil | exact split_all | exact split_app | apply split_cons | apply split_skip)) ⟨rfl, fun _ => rfl, Cells.here⟩ (one_I [p.id]) (by omega) rfl rfl ?_
        intro v9 L9 hO9 _; rw [← List.flatMap_append, List.append_assoc] at hO9
        refine XO_v0 (ev_assign rfl) rfl rfl rfl ?_
        refine XO_nil ?_
        refine at_block_n ?_
        refine at_then ?_
        refine X_region ?_
        refine XO_v0 (ev_arB rfl rfl rfl (fun _ => by omega)) rfl rfl rfl ?_
        refine XO_v0 (ev_move rfl) rfl rfl rfl ?_
        refine XO_nil ?_
        first
        | exact at_met2 _ _ ⟨(stF l s ((k : Int) + 1)).length - (j + 1), by omega, j + 1, _, _, _, rfl, rfl, rfl, rfl, by omega, by rw [filI_no (P := unP1 (onF ps) l s) hp hc28]; exact hO, trivial⟩ (.cons rfl (.cons rfl (.cons rfl (.cons rfl (.cons rfl (.cons rfl (.cons rfl .nil))))))) (by repeat (first | exact .refl | exact subL_left | refine subL_app ?_ | refine .drop ?_ | refine subL_add ?_))
        | exact at_metP _ _ (L9 ++ [(b_2, _)]) ⟨(stF l s ((k : Int) + 1)).length - (j + 1), by omega, j + 1, _, _, L9, rfl, rfl, rfl, rfl, by omega, by rw [filI_yes (P := unP1 (onF ps) l s) hp hc28]; exact hO9, trivial⟩ (.cons rfl (.cons rfl (.cons rfl (.cons rfl (.cons rfl (.cons rfl (.cons rfl .nil))))))) (perm_snoc _ _) (by repeat (first | exact .refl | exact subL_left | refine subL_app ?_ | refine .drop ?_ | refine subL_add ?_))
      · skip
        refine X_skip ?_
        refine at_block_n ?_
        refine at_then ?_
        refine X_region ?_
        refine XO_v0 (ev_arB rfl rfl rfl (fun _ => by omega)) rfl rfl rfl ?_
        refine XO_v0 (ev_move rfl) rfl rfl rfl ?_
        refine XO_nil ?_
        first
        | exact at_met2 _ _ ⟨(stF l s ((k : Int) + 1)).length - (j + 1), by omega, j + 1, _, _, _, rfl, rfl, rfl, rfl, by omega, by rw [filI_no (P := unP1 (onF ps) l s) hp hc28]; exact hO, trivial⟩ (.cons rfl (.cons rfl (.cons rfl (.cons rfl (.cons rfl (.cons rfl (.cons rfl .nil))))))) (by repeat (first | exact .refl | exact subL_left | refine subL_app ?_ | refine .drop ?_ | refine subL_add ?_))
        | exact at_metP _ _ (L9 ++ [(b_2, _)]) ⟨(stF l s ((k : Int) + 1)).length - (j + 1), by omega, j + 1, _, _, L9, rfl, rfl, rfl, rfl, by omega, by rw [filI_yes (P := unP1 (onF ps) l s) hp hc28]; exact hO9, trivial⟩ (.cons rfl (.cons rfl (.cons rfl (.cons rfl (.cons rfl (.cons rfl (.cons rfl .nil))))))) (perm_snoc _ _) (by repeat (first | exact .refl | exact subL_left | refine subL_app ?_ | refine .drop ?_ | refine subL_add ?_))
    · skip
      have hge_j : (stF l s ((k : Int) + 1)).length ≤ j := by have h := hc20; simp at h; omega
      rw [take_all rfl hge_j] at hO
      refine X_exit ?_
      refine at_then_e ?_
      refine at_then_e ?_
      refine at_block_hit ?_
      refine at_block_n ?_
      refine at_then ?_
      refine X_region ?_
      refine XO_v0 (ev_move rfl) rfl rfl rfl ?_
      refine XO_v0 (ev_arB rfl rfl rfl (fun _ => by omega)) rfl rfl rfl ?_
      refine XO_v0 (ev_assign rfl) rfl rfl rfl ?_
      refine XO_nil ?_
      exact at_met2 _ _ ⟨9 - (k + 1), by omega, k + 1, _, _, _, rfl, rfl, rfl, rfl, by omega, by rw [unK_next]; exact hO, trivial⟩ (.cons rfl (.cons rfl (.cons rfl (.cons rfl .nil)))) (by repeat (first | exact .refl | exact subL_left | refine subL_app ?_ | refine .drop ?_ | refine subL_add ?_))
  · skip
    have hge_k : 9 ≤ k := by have h := hc9; simp at h; omega
    have hk9 : k = 9 := by omega
    subst hk9
    refine X_exit ?_
    refine at_then_e ?_
    refine at_then_e ?_
    refine at_block_hit ?_
    refine at_then ?_
    refine X_seq ?_
    refine X_region ?_
    refine XO_v0 (ev_move rfl) rfl rfl rfl ?_
    refine XO_v0 (ev_assign rfl) rfl rfl rfl ?_
    refine XO_nil ?_
    refine at_then ?_
    refine X_ret ?_
    exact at_ret1 rfl rfl (fun w hw => by obtain ⟨I9, h91, h92, h93⟩ := OwnS.res hO encI_len (by decide) (hw.subL (by repeat (first | exact .refl | refine .drop ?_))); exact ⟨_, I9, [], rfl, hIc.trans h91, h92, h93⟩)
theorem w_unseenL {I : HMap} {ps l : List Pt} {xs : List Sg} {r1 r2 r3 : Nat} {av : Option Addr} {n c : Nat} (hx : StQ I ps l xs r1 r2 r3 av n c) (s : Int) : RetM Tryz.prog 49 [stA r1 r2 r3 av n c, .int .i64 s] I [] (fun u I9 L9 => L9 = [] ∧ ∃ a9 c9, u = .slice a9 (unK (onF ps) l s 9).length c9) :=
  (w_unseen hx s).mono fun v I' L' _ h => by
    obtain ⟨h1, a9, c9, h2, _⟩ := h
    exact ⟨h1, a9, c9, h2⟩
theorem w_exists {I : HMap} {ps l : List Pt} {xs : List Sg} {r1 r2 r3 : Nat} {av : Option Addr} {n c : Nat} (hx : StQ I ps l xs r1 r2 r3 av n c) (hok : ∀ p ∈ l, PtOK p) (s : Int) : RetV Tryz.prog 50 [stA r1 r2 r3 av n c, .int .i64 s] I (.bool (exB (onF ps) l s)) := by
  intro g H w hw
  refine enter Tryz.func50 rfl Tryz.ntmps50 rfl hw ?_
  have hIc := HLe.refl I
  obtain ⟨mr, hmr, hrem⟩ := hx.rem
  obtain ⟨av3, c3, hv3, hS3⟩ := hrem s
  refine X_seq ?_
  refine X_region ?_
  refine XO_box rfl rfl rfl (fun b_2 => ?_)
  refine XO_v0 (ev_assign rfl) rfl rfl rfl ?_
  refine XO_nil ?_
  refine at_then ?_
  refine X_seq ?_
  refine X_region ?_
  refine XO_v0 (ev_fieldAddr rfl fld_85_2) rfl rfl rfl ?_
  refine XO_v0 (ev_load rfl sct_77 (fun hg => by first | exact Cell.h0 rfl | exact Cell.h1 rfl | exact Cell.h2 rfl | exact Cell.h3 rfl | exact Cell.h4 rfl | exact Cell.h5 rfl | (repeat (first | exact Cell.here rfl | apply Cell.there | apply Cell.app)))) rfl rfl rfl ?_
  refine XO_v0 (ev_move rfl) rfl rfl rfl ?_
  refine XO_v0 (ev_lookupTE (m := mr) (ek := Value.int .i64) (a := s) hv3 mpt_77 key_3 rfl rfl (fun _ => .inl hmr)) rfl rfl rfl ?_
  refine XO_v0 (ev_lenS rfl slt_23) rfl rfl rfl ?_
  refine XO_v0 (ev_cmp rfl rfl rfl) rfl rfl rfl ?_
  refine XO_v0 (ev_move rfl) rfl rfl rfl ?_
  refine XO_pushF 6 rfl rfl rfl ?_
  refine XO_v1 (ev_loadA rfl agt_85 (fun hg => by first | exact Cells.g0 | exact Cells.g1 | exact Cells.g2 | exact Cells.g3 | exact Cells.g4 | exact Cells.g5 | exact Cells.s0 (vs := [_, _, _, _]) rfl | exact Cells.s1 (vs := [_, _, _, _]) rfl | exact Cells.s2 (vs := [_, _, _, _]) rfl | exact Cells.s3 (vs := [_, _, _, _]) rfl | exact Cells.s4 (vs := [_, _, _, _]) rfl | exact Cells.s5 (vs := [_, _, _, _]) rfl | (repeat (first | exact Cells.here | apply Cells.there | apply Cells.app))) rfl) (.some rfl rfl rfl rfl gbf) rfl rfl rfl ?_
  refine XO_v1 (ev_move rfl) (.some rfl rfl rfl rfl gbf) rfl rfl rfl ?_
  refine XO_callM1 (cap := []) (vs := [_, _]) rfl rfl fun_49 (fun hg => w_unseenL hx s) ⟨_, rfl, none, 0, rfl⟩ (.some rfl rfl rfl rfl gbf) rfl rfl ?_
  rintro vv I9 L9 hI9 ⟨rfl, a9, c9, rfl⟩
  have hIc := hIc.trans hI9
  refine XO_v1 (ev_lenS rfl slt_23) (.some rfl rfl rfl rfl gbf) rfl rfl rfl ?_
  refine XO_v1 (ev_cmp rfl rfl rfl) (.some rfl rfl rfl rfl gbf) rfl rfl rfl ?_
  refine XO_or0 rfl rfl rfl rfl rfl ?_
  refine XO_v0 (ev_assign rfl) rfl rfl rfl ?_
  refine XO_nil ?_
  refine at_then ?_
  refine X_ret ?_
  exact at_ret1 rfl rfl (fun w hw => ⟨by rw [← ex_eq hok], (hw.mono hIc).drop⟩)
end Go.Proofs.YtccomeanpppfmaaGreat
end
section
namespace Go.Proofs.YtccomeanpppfmaaGreat
open Go Go.Kn Go.Proofs
theorem w_lat11 {I : HMap} {b1 b2 r1 r2 r3 : Nat} {av : Option Addr} {n c : Nat} {p : Pt} {ps : List Pt} (h1 : I b1 = some (.cells #[.map (some r1), .map (some r2), .map (some r3), .slice av n c] 85 (0, 0))) (h2 : I b2 = some (.cells (encP p).toArray 53 (0, 0))) (hOn : OnM I r1 ps) (q : Pt) (hid : ∃ z ∈ ps, z.id = q.id) : RetV Tryz.prog 90 [encPA q, .pointer (some ⟨b1, 0, none⟩), .pointer (some ⟨b2, 0, none⟩)] I (.bool (onF ps q.id p.id)) := by
  intro g H w hw
  refine enter Tryz.func90 rfl Tryz.ntmps90 rfl hw ?_
  obtain ⟨m, hm1, hm2⟩ := hOn
  obtain ⟨ref, hget, sn, hsn, hsq⟩ := hm2.get hid
  refine X_seq ?_
  refine X_region ?_
  refine XO_box rfl rfl rfl (fun b_3 => ?_)
  refine XO_v0 (ev_assign rfl) rfl rfl rfl ?_
  refine XO_nil ?_
  refine at_then ?_
  refine X_seq ?_
  refine X_region ?_
  refine XO_v0 (ev_fieldAddr rfl fld_85_0) rfl rfl rfl ?_
  refine XO_v0 (ev_load rfl sct_74 (fun hg => by first | exact .imm h1 rfl | exact .imm h2 rfl | exact Cell.h0 rfl | exact Cell.h1 rfl | exact Cell.h2 rfl | exact Cell.h3 rfl | exact Cell.h4 rfl | exact Cell.h5 rfl | (repeat (first | exact Cell.here rfl | apply Cell.there | apply Cell.app)))) rfl rfl rfl ?_
  refine XO_v0 (ev_fieldAddr rfl fld_53_0) rfl rfl rfl ?_
  refine XO_v0 (ev_load rfl sct_3 (fun hg => by first | exact .imm h1 rfl | exact .imm h2 rfl | exact Cell.h0 rfl | exact Cell.h1 rfl | exact Cell.h2 rfl | exact Cell.h3 rfl | exact Cell.h4 rfl | exact Cell.h5 rfl | (repeat (first | exact Cell.here rfl | apply Cell.there | apply Cell.app)))) rfl rfl rfl ?_
  refine XO_v0 (ev_lookupG (m := m) (ek := Value.int .i64) (ev := refV) (a := q.id) hget mpt_74 key_3 rfl rfl (fun _ => .inl hm1)) rfl rfl rfl ?_
  refine XO_v0 (ev_fieldAddr rfl fld_53_0) rfl rfl rfl ?_
  refine XO_v0 (ev_load rfl sct_3 (fun hg => by first | exact .imm h1 rfl | exact .imm h2 rfl | exact Cell.h0 rfl | exact Cell.h1 rfl | exact Cell.h2 rfl | exact Cell.h3 rfl | exact Cell.h4 rfl | exact Cell.h5 rfl | (repeat (first | exact Cell.here rfl | apply Cell.there | apply Cell.app)))) rfl rfl rfl ?_
  refine XO_v0 (ev_lookupBool (m := sn) mpt_71 key_3 rfl rfl (fun _ => .inl hsn)) rfl rfl rfl ?_
  refine XO_v0 (ev_assign rfl) rfl rfl rfl ?_
  refine XO_nil ?_
  refine at_then ?_
  refine X_ret ?_
  exact at_ret1 rfl rfl (fun w hw => ⟨by rw [show (mget sn p.id).getD false = onF ps q.id p.id from hsq.mem _], hw.drop⟩)
/-- What the iterator of 'latest' has taken in. -/
def LCap (I : HMap) (r1 r2 r3 : Nat) (av : Option Addr) (n c : Nat) (s f : Int) (b1 b2 b3 : Nat) : Prop := I b1 = some (.cells #[.map (some r1), .map (some r2), .map (some r3), .slice av n c] 85 (0, 0)) ∧ I b2 = some (.cells #[.int .i64 s] 3 (0, 0)) ∧ I b3 = some (.cells #[.int .i64 f] 3 (0, 0))
theorem w_latest (I : HMap) (r1 r2 r3 : Nat) (av : Option Addr) (n c : Nat) (s f : Int) : RetM Tryz.prog 51 [stA r1 r2 r3 av n c, .int .i64 s, .int .i64 f] I [] (fun v I' L => L = [] ∧ ∃ b1 b2 b3, v = .func (.func 88) #[] [capP b1, capP b2, capP b3].toArray ∧ LCap I' r1 r2 r3 av n c s f b1 b2 b3) := by
  intro g H w hw
  refine enter Tryz.func51 rfl Tryz.ntmps51 rfl hw ?_
  have hIc := HLe.refl I
  refine X_seq ?_
  refine X_region ?_
  refine XO_box rfl rfl rfl (fun b_3 => ?_)
  refine XO_box rfl rfl rfl (fun b_4 => ?_)
  refine XO_box rfl rfl rfl (fun b_5 => ?_)
  refine XO_v0 (ev_assign rfl) rfl rfl rfl ?_
  refine XO_nil ?_
  refine at_then ?_
  refine X_seq ?_
  refine X_freeze .here (fun I1 hI1 hb1 => ?_)
  have hIc := hIc.trans hI1
  have h3 := hb1
  refine X_freeze .here (fun I2 hI2 hb2 => ?_)
  have hIc := hIc.trans hI2
  have h2 := hb2
  have h3 := hI2 _ _ h3
  refine X_freeze .here (fun I3 hI3 hb3 => ?_)
  have hIc := hIc.trans hI3
  have h1 := hb3
  have h3 := hI3 _ _ h3; have h2 := hI3 _ _ h2
  refine X_region ?_
  refine XO_v0 (ev_makeFunc (us := []) (vs := [_, _, _]) rfl rfl) rfl rfl rfl ?_
  refine XO_v0 (ev_assign rfl) rfl rfl rfl ?_
  refine XO_nil ?_
  refine at_then ?_
  refine X_ret ?_
  exact at_ret1 rfl rfl (fun w hw => ⟨_, I3, [], rfl, hIc, hw.drop, rfl, b_3, b_4, b_5, rfl, h1, h2, h3⟩)
theorem w_latit {I : HMap} {ps l : List Pt} {xs : List Sg} {r1 r2 r3 : Nat} {av : Option Addr} {n c : Nat} (hx : StQ I ps l xs r1 r2 r3 av n c) {s f : Int} {b1 b2 b3 : Nat} (hcap : LCap I r1 r2 r3 av n c s f b1 b2 b3) : SeqC Tryz.prog 88 [capP b1, capP b2, capP b3] I encPA (latF (onF ps) l s f) := by
  rw [lat_eq]
  intro g y J Jx hY I0 H w h0 hJ hw
  obtain ⟨h1, h2, h3⟩ := hcap
  have hx := hx.mono h0
  have h1 := h0 _ _ h1; have h2 := h0 _ _ h2; have h3 := h0 _ _ h3
  refine enter Tryz.func88 rfl Tryz.ntmps88 rfl hw ?_
  obtain ⟨ms, hms, hset⟩ := hx.set
  obtain ⟨av2, c2, hv2, hS2⟩ := hset (s, f)
  dsimp only at hv2 hS2
  have hln := Nat.le_trans (stF_len (l := l) (s := s) (f := f)) hx.fewl
  refine X_seq ?_
  refine X_region ?_
  refine XO_v0 (ev_fieldAddr rfl fld_85_1) rfl rfl rfl ?_
  refine XO_v0 (ev_load rfl sct_83 (fun hg => by first | exact Cell.imm h1 rfl | exact Cell.imm h2 rfl | exact Cell.imm h3 rfl | exact Cell.h0 rfl | exact Cell.h1 rfl | exact Cell.h2 rfl | exact Cell.h3 rfl | exact Cell.h4 rfl | exact Cell.h5 rfl | (repeat (first | exact Cell.here rfl | apply Cell.there | apply Cell.app)))) rfl rfl rfl ?_
  refine XO_v0 (ev_load rfl sct_3 (fun hg => by first | exact Cell.imm h1 rfl | exact Cell.imm h2 rfl | exact Cell.imm h3 rfl | exact Cell.h0 rfl | exact Cell.h1 rfl | exact Cell.h2 rfl | exact Cell.h3 rfl | exact Cell.h4 rfl | exact Cell.h5 rfl | (repeat (first | exact Cell.here rfl | apply Cell.there | apply Cell.app)))) rfl rfl rfl ?_
  refine XO_v0 (ev_load rfl sct_3 (fun hg => by first | exact Cell.imm h1 rfl | exact Cell.imm h2 rfl | exact Cell.imm h3 rfl | exact Cell.h0 rfl | exact Cell.h1 rfl | exact Cell.h2 rfl | exact Cell.h3 rfl | exact Cell.h4 rfl | exact Cell.h5 rfl | (repeat (first | exact Cell.here rfl | apply Cell.there | apply Cell.app)))) rfl rfl rfl ?_
  refine XO_v0 (ev_buildArr (ps := [(0, _), (1, _)]) [_, _] art_133 zt_133 rfl rfl) rfl rfl rfl ?_
  refine XO_v0 (ev_lookupTE (m := ms) (ek := encK2) (a := (s, f)) hv2 mpt_83 key_133 rfl rfl (fun _ => .inl hms)) rfl rfl rfl ?_
  refine XO_v0 (ev_assign rfl) rfl rfl rfl ?_
  refine XO_nil ?_
  refine at_then ?_
  refine X_seq ?_
  refine X_region ?_
  refine XO_v0 (ev_move rfl) rfl rfl rfl ?_
  refine XO_v0 (ev_lenS rfl slt_22) rfl rfl rfl ?_
  refine XO_v0 (ev_move rfl) rfl rfl rfl ?_
  refine XO_nil ?_
  refine at_then ?_
  refine X_block ?_
  refine X_loopH (fun m E I' H' loc' => ∃ (k : Nat), m = (stF l s f).length - k ∧ E = [(0, .func (.yield y) #[] #[]), (1, capP b1), (5, .slice av2 (stF l s f).length c2), (14, .slice av2 (stF l s f).length c2), (15, .int .i64 (stF l s f).length), (16, .int .i64 k)] ∧ loc' = [] ∧ HLe I0 I' ∧ k ≤ (stF l s f).length ∧ J (((stF l s f).take k).filter (latB (onF ps) (stF l s f))) I' H') _ _ _ ⟨0, rfl, rfl, rfl, HLe.refl _, Nat.zero_le _, hJ⟩ (.cons rfl (.cons rfl (.cons rfl (.cons rfl (.cons rfl (.cons rfl .nil)))))) rfl ?_
  rintro m E I' H' loc' ⟨k, rfl, rfl, rfl, hI1, hk, hJk⟩
  have hS2 := hS2.mono hI1
  have hx := hx.mono hI1
  have h1 := hI1 _ _ h1
  have hI0 := h0.trans hI1
  refine X_seq ?_
  refine X_region ?_
  refine XO_v0 (ev_cmp rfl rfl rfl) rfl rfl rfl ?_
  refine XO_nil ?_
  refine at_then ?_
  refine X_seq ?_
  refine X_cond rfl (fun hc17 => ?_) (fun hc17 => ?_)
  · skip
    have hlt : k < (stF l s f).length := by simpa using hc17
    obtain ⟨p, hp⟩ := hS2.at hlt
    refine X_skip ?_
    refine at_then ?_
    refine X_seq ?_
    refine X_block ?_
    refine X_seq ?_
    refine X_region ?_
    refine XO_v0 (ev_indexSl rfl rfl slt_22 (by assumption) (fun hg => by omega)) rfl rfl rfl ?_
    refine XO_v0 (ev_loadA rfl agt_53 (fun hg => by first | exact Sl.getA hS2 hp | exact Cells.g0 | exact Cells.g1 | exact Cells.g2 | exact Cells.g3 | exact Cells.g4 | exact Cells.g5 | exact Cells.s0 (vs := [_, _, _, _, _, _, _, _, _, _, _, _, _, _, _, _, _, _, _]) rfl | exact Cells.s1 (vs := [_, _, _, _, _, _, _, _, _, _, _, _, _, _, _, _, _, _, _]) rfl | exact Cells.s2 (vs := [_, _, _, _, _, _, _, _, _, _, _, _, _, _, _, _, _, _, _]) rfl | exact Cells.s3 (vs := [_, _, _, _, _, _, _, _, _, _, _, _, _, _, _, _, _, _, _]) rfl | exact Cells.s4 (vs := [_, _, _, _, _, _, _, _, _, _, _, _, _, _, _, _, _, _, _]) rfl | exact Cells.s5 (vs := [_, _, _, _, _, _, _, _, _, _, _, _, _, _, _, _, _, _, _]) rfl | (repeat (first | exact Cells.here | apply Cells.there | apply Cells.app))) rfl) rfl rfl rfl ?_
    refine XO_alloc zt_53 rfl rfl (fun b_7 => ?_)
    refine XO_storeA rfl rfl szt_53 rfl rfl rfl rfl (by first | exact Upd.u0 | exact Upd.u1 | exact Upd.u2 | exact Upd.u3 | exact Upd.u4 | exact Upd.u5 | (repeat (first | exact Upd.here | apply Upd.there | apply upd_app))) ?_
    refine XO_nil ?_
    refine at_then ?_
    refine X_seq ?_
    have hpc : ∀ {b : Bool} {G : Env}, conj [(b, G)] = true → b = latB (onF ps) (stF l s f) p → latB (onF ps) (stF l s f) p = true := fun h e => by rw [← e]; simpa [conj] using h
    refine X_region ?_
    refine XO_v0 (ev_move rfl) rfl rfl rfl ?_
    refine XO_v0 (ev_makeFunc (us := []) (vs := [_, _]) rfl rfl) rfl rfl rfl ?_
    refine XO_callK0 (cap := []) (vs := [_, _]) rfl rfl fun_89 split_all (RetK.ofV fun I' hI' hL' => w_cnP (cap := [.pointer (some ⟨b1, 0, none⟩), .pointer (some ⟨b_7, 0, none⟩)]) (SlP.mono ⟨hS2, fun p hp => hx.nd p (hx.sub p (mem_stF.1 hp).1)⟩ hI') (by omega) fun_90 (fun q hq => w_lat11 (b1 := b1) (b2 := b_7) (r1 := r1) (r2 := r2) (r3 := r3) (av := av) (n := n) (c := c) (p := p) (hI' _ _ h1) (hL' b_7 _ (by simp)) (hx.on.mono hI') q ⟨q, hx.sub q (mem_stF.1 hq).1, rfl⟩)) rfl rfl ?_
    refine XO_v0 (ev_not rfl) rfl rfl rfl ?_
    refine XO_v0 (ev_move rfl) rfl rfl rfl ?_
    refine XO_pushT 4 rfl rfl rfl ?_
    refine XO_v1 (ev_move rfl) (.some rfl rfl rfl rfl gbt) rfl rfl rfl ?_
    refine XO_v1 (ev_loadA rfl agt_53 (fun hg => by first | exact Sl.getA hS2 hp | exact Cells.g0 | exact Cells.g1 | exact Cells.g2 | exact Cells.g3 | exact Cells.g4 | exact Cells.g5 | exact Cells.s0 (vs := [_, _, _, _, _, _, _, _, _, _, _, _, _, _, _, _, _, _, _]) rfl | exact Cells.s1 (vs := [_, _, _, _, _, _, _, _, _, _, _, _, _, _, _, _, _, _, _]) rfl | exact Cells.s2 (vs := [_, _, _, _, _, _, _, _, _, _, _, _, _, _, _, _, _, _, _]) rfl | exact Cells.s3 (vs := [_, _, _, _, _, _, _, _, _, _, _, _, _, _, _, _, _, _, _]) rfl | exact Cells.s4 (vs := [_, _, _, _, _, _, _, _, _, _, _, _, _, _, _, _, _, _, _]) rfl | exact Cells.s5 (vs := [_, _, _, _, _, _, _, _, _, _, _, _, _, _, _, _, _, _, _]) rfl | (repeat (first | exact Cells.here | apply Cells.there | apply Cells.app))) rfl) (.some rfl rfl rfl rfl gbt) rfl rfl rfl ?_
    refine XO_yield1 (vs := [_]) (Post := fun b I2 H2 => if b then J (((stF l s f).take k).filter (latB (onF ps) (stF l s f)) ++ [p]) I2 H2 else Jx (((stF l s f).take k).filter (latB (onF ps) (stF l s f)) ++ [p]) I2 H2) rfl rfl (.some rfl rfl rfl rfl gbt) rfl rfl (fun hcj => hY _ p _ _ (fil_pre hp (hpc hcj rfl)) hI0 hJk) ?_
    rintro b I2 H2 hI2 hyes hno
    refine XO_v1 (ev_not rfl) (.some rfl rfl rfl rfl gbt) rfl rfl rfl ?_
    refine XO_and0 rfl rfl rfl rfl rfl ?_
    refine XO_nil ?_
    refine at_then ?_
    refine X_cond rfl (fun hc29 => ?_) (fun hc29 => ?_)
    · skip
      refine X_ret ?_
      refine at_block_r ?_
      refine at_then_r ?_
      refine at_then_r ?_
      refine at_block_r ?_
      first
      | (exact at_ret0 rfl (fun w hw => ⟨_, I2, H2, rfl, hI1.trans hI2, hw.drop, .inr ⟨_, fil_pre hp (show latB (onF ps) (stF l s f) p = true from ((Bool.and_eq_true _ _).mp (show (latB (onF ps) (stF l s f) p && !b) = true from hc29)).1), by have hc : (latB (onF ps) (stF l s f) p && !b) = true := hc29; rw [Bool.and_eq_true, Bool.not_eq_true'] at hc; have h9 := hyes (show conj [(latB (onF ps) (stF l s f) p, _)] = true from by rw [hc.1]; rfl); rw [hc.2] at h9; exact h9⟩⟩))
      | (exact at_norm (at_ret0 rfl (fun w hw => ⟨_, I', H', rfl, hI1, hw, .inl (by rw [take_all rfl hge] at hJk; exact hJk)⟩)))
    · skip
      refine X_skip ?_
      refine at_block_n ?_
      refine at_then ?_
      refine X_region ?_
      refine XO_v0 (ev_arB rfl rfl rfl (fun _ => by omega)) rfl rfl rfl ?_
      refine XO_v0 (ev_move rfl) rfl rfl rfl ?_
      refine XO_nil ?_
      have hyes := fun (e : latB (onF ps) (stF l s f) p = true) => hyes (show conj [(latB (onF ps) (stF l s f) p, _)] = true from by rw [e]; rfl)
      have hno := fun (e : latB (onF ps) (stF l s f) p = false) => hno (show conj [(latB (onF ps) (stF l s f) p, _)] = false from by rw [e]; rfl)
      have hc : (latB (onF ps) (stF l s f) p && !b) = false := hc29
      have hJ2 : J (((stF l s f).take (k + 1)).filter (latB (onF ps) (stF l s f))) I2 H2 := by
        cases hA : latB (onF ps) (stF l s f) p with
        | true => rw [fil_yes hp hA]; rw [hA] at hc; have hb : b = true := by simpa using hc
                  subst hb; exact hyes hA
        | false => rw [fil_no hp hA]; obtain ⟨e1, e2⟩ := hno hA; rw [e1, e2]; exact hJk
      exact at_metH2 rfl rfl rfl _ [] ⟨(stF l s f).length - (k + 1), by omega, k + 1, rfl, rfl, rfl, hI1.trans hI2, by omega, hJ2⟩ (.cons rfl (.cons rfl (.cons rfl (.cons rfl (.cons rfl (.cons rfl .nil)))))) (.drop .refl)
  · skip
    have hge : (stF l s f).length ≤ k := by simpa using hc17
    refine X_exit ?_
    refine at_then_e ?_
    refine at_then_e ?_
    refine at_block_hit ?_
    first
    | (exact at_ret0 rfl (fun w hw => ⟨_, I2, H2, rfl, hI1.trans hI2, hw.drop, .inr ⟨_, fil_pre hp (show latB (onF ps) (stF l s f) p = true from ((Bool.and_eq_true _ _).mp (show (latB (onF ps) (stF l s f) p && !b) = true from hc29)).1), by have hc : (latB (onF ps) (stF l s f) p && !b) = true := hc29; rw [Bool.and_eq_true, Bool.not_eq_true'] at hc; have h9 := hyes (show conj [(latB (onF ps) (stF l s f) p, _)] = true from by rw [hc.1]; rfl); rw [hc.2] at h9; exact h9⟩⟩))
    | (exact at_norm (at_ret0 rfl (fun w hw => ⟨_, I', H', rfl, hI1, hw, .inl (by rw [take_all rfl hge] at hJk; exact hJk)⟩)))
end Go.Proofs.YtccomeanpppfmaaGreat
end
section
namespace Go.Proofs.YtccomeanpppfmaaGreat
open Go Go.Kn Go.Proofs
theorem at_round_exit2 {α : Type} {C : Cx} {E : Env} {I : HMap} {loc loc' : Go.Kn.Loc} {Jc : List α → HMap → Go.Kn.Loc → Prop} {Jx : Code → List α → HMap → Go.Kn.Loc → Prop} {pre : List α} {id : Nat} (h : Jx (.exit id) pre I loc') (hs : SubL loc' loc) : At C (RoundQ C.g C.H Jc Jx pre) (.exit id) E I loc := fun _ _ _ hw => ⟨I, loc', h, hw.subL hs⟩
theorem w_put (I : HMap) (b : Nat) (x : Sg) (f : Int) (y : Sg) (hf : isF f) : RetM Tryz.prog 82 [capP b, .int .i64 f, encGA y] I [(b, .cells (encG x).toArray 45 (0, 0))] (fun v I' L => v = .tuple #[] ∧ I' = I ∧ L = [(b, .cells (encG (setG x f y)).toArray 45 (0, 0))]) := by
  intro g H w hw
  refine enter Tryz.func82 rfl Tryz.ntmps82 rfl hw ?_
  refine X_seq ?_
  refine X_region ?_
  refine XO_box rfl rfl rfl (fun b_5 => ?_)
  refine XO_nil ?_
  refine at_then ?_
  refine X_seq ?_
  refine X_region ?_
  refine XO_v0 (ev_move rfl) rfl rfl rfl ?_
  refine XO_nil ?_
  refine at_then ?_
  refine X_block ?_
  refine X_seq ?_
  refine X_region ?_
  refine XO_v0 (ev_cmp rfl rfl rfl) rfl rfl rfl ?_
  refine XO_v0 (ev_assign rfl) rfl rfl rfl ?_
  refine XO_nil ?_
  refine at_then ?_
  refine X_cond rfl (fun hc7 => ?_) (fun hc7 => ?_)
  · skip
    have hfk : f = 1 := by simpa using hc7
    subst hfk
    refine X_region ?_
    refine XO_v0 (ev_move rfl) rfl rfl rfl ?_
    refine XO_v0 (ev_fieldAddr rfl fld_45_1) rfl rfl rfl ?_
    refine XO_v0 (ev_load rfl sct_3 (fun hg => by first | exact Cell.h0 rfl | exact Cell.h1 rfl | exact Cell.h2 rfl | exact Cell.h3 rfl | exact Cell.h4 rfl | exact Cell.h5 rfl | (repeat (first | exact Cell.here rfl | apply Cell.there | apply Cell.app)))) rfl rfl rfl ?_
    refine XO_v0 (ev_nilCheck rfl) rfl rfl rfl ?_
    refine XO_v0 (ev_fieldAddr rfl fld_45_1) rfl rfl rfl ?_
    refine XO_store rfl rfl szt_3 rfl rfl (by first | exact Upd.u0 | exact Upd.u1 | exact Upd.u2 | exact Upd.u3 | exact Upd.u4 | exact Upd.u5 | (repeat (first | exact Upd.here | apply Upd.there | apply upd_app))) rfl ?_
    refine XO_nil ?_
    refine at_block_n ?_
    first
    | exact at_norm (at_ret0 rfl (fun w hw => ⟨_, I, _, rfl, HLe.refl _, hw.subL (.drop .refl), rfl, rfl, rfl⟩))
    | (exfalso; unfold isF at hf; omega)
  · skip
    have hg1 : f ≠ 1 := by simpa using hc7
    refine X_seq ?_
    refine X_region ?_
    refine XO_v0 (ev_cmp rfl rfl rfl) rfl rfl rfl ?_
    refine XO_v0 (ev_assign rfl) rfl rfl rfl ?_
    refine XO_nil ?_
    refine at_then ?_
    refine X_cond rfl (fun hc14 => ?_) (fun hc14 => ?_)
    · skip
      have hfk : f = 2 := by simpa using hc14
      subst hfk
      refine X_region ?_
      refine XO_v0 (ev_move rfl) rfl rfl rfl ?_
      refine XO_v0 (ev_fieldAddr rfl fld_45_2) rfl rfl rfl ?_
      refine XO_v0 (ev_load rfl sct_3 (fun hg => by first | exact Cell.h0 rfl | exact Cell.h1 rfl | exact Cell.h2 rfl | exact Cell.h3 rfl | exact Cell.h4 rfl | exact Cell.h5 rfl | (repeat (first | exact Cell.here rfl | apply Cell.there | apply Cell.app)))) rfl rfl rfl ?_
      refine XO_v0 (ev_nilCheck rfl) rfl rfl rfl ?_
      refine XO_v0 (ev_fieldAddr rfl fld_45_2) rfl rfl rfl ?_
      refine XO_store rfl rfl szt_3 rfl rfl (by first | exact Upd.u0 | exact Upd.u1 | exact Upd.u2 | exact Upd.u3 | exact Upd.u4 | exact Upd.u5 | (repeat (first | exact Upd.here | apply Upd.there | apply upd_app))) rfl ?_
      refine XO_nil ?_
      refine at_block_n ?_
      first
      | exact at_norm (at_ret0 rfl (fun w hw => ⟨_, I, _, rfl, HLe.refl _, hw.subL (.drop .refl), rfl, rfl, rfl⟩))
      | (exfalso; unfold isF at hf; omega)
    · skip
      have hg2 : f ≠ 2 := by simpa using hc14
      refine X_seq ?_
      refine X_region ?_
      refine XO_v0 (ev_cmp rfl rfl rfl) rfl rfl rfl ?_
      refine XO_v0 (ev_assign rfl) rfl rfl rfl ?_
      refine XO_nil ?_
      refine at_then ?_
      refine X_cond rfl (fun hc21 => ?_) (fun hc21 => ?_)
      · skip
        have hfk : f = 3 := by simpa using hc21
        subst hfk
        refine X_region ?_
        refine XO_v0 (ev_move rfl) rfl rfl rfl ?_
        refine XO_v0 (ev_fieldAddr rfl fld_45_3) rfl rfl rfl ?_
        refine XO_v0 (ev_load rfl sct_3 (fun hg => by first | exact Cell.h0 rfl | exact Cell.h1 rfl | exact Cell.h2 rfl | exact Cell.h3 rfl | exact Cell.h4 rfl | exact Cell.h5 rfl | (repeat (first | exact Cell.here rfl | apply Cell.there | apply Cell.app)))) rfl rfl rfl ?_
        refine XO_v0 (ev_nilCheck rfl) rfl rfl rfl ?_
        refine XO_v0 (ev_fieldAddr rfl fld_45_3) rfl rfl rfl ?_
        refine XO_store rfl rfl szt_3 rfl rfl (by first | exact Upd.u0 | exact Upd.u1 | exact Upd.u2 | exact Upd.u3 | exact Upd.u4 | exact Upd.u5 | (repeat (first | exact Upd.here | apply Upd.there | apply upd_app))) rfl ?_
        refine XO_nil ?_
        refine at_block_n ?_
        first
        | exact at_norm (at_ret0 rfl (fun w hw => ⟨_, I, _, rfl, HLe.refl _, hw.subL (.drop .refl), rfl, rfl, rfl⟩))
        | (exfalso; unfold isF at hf; omega)
      · skip
        have hg3 : f ≠ 3 := by simpa using hc21
        refine X_seq ?_
        refine X_region ?_
        refine XO_v0 (ev_cmp rfl rfl rfl) rfl rfl rfl ?_
        refine XO_v0 (ev_assign rfl) rfl rfl rfl ?_
        refine XO_nil ?_
        refine at_then ?_
        refine X_cond rfl (fun hc28 => ?_) (fun hc28 => ?_)
        · skip
          have hfk : f = 4 := by simpa using hc28
          subst hfk
          refine X_region ?_
          refine XO_v0 (ev_move rfl) rfl rfl rfl ?_
          refine XO_v0 (ev_fieldAddr rfl fld_45_5) rfl rfl rfl ?_
          refine XO_v0 (ev_load rfl sct_3 (fun hg => by first | exact Cell.h0 rfl | exact Cell.h1 rfl | exact Cell.h2 rfl | exact Cell.h3 rfl | exact Cell.h4 rfl | exact Cell.h5 rfl | (repeat (first | exact Cell.here rfl | apply Cell.there | apply Cell.app)))) rfl rfl rfl ?_
          refine XO_v0 (ev_nilCheck rfl) rfl rfl rfl ?_
          refine XO_v0 (ev_fieldAddr rfl fld_45_5) rfl rfl rfl ?_
          refine XO_store rfl rfl szt_3 rfl rfl (by first | exact Upd.u0 | exact Upd.u1 | exact Upd.u2 | exact Upd.u3 | exact Upd.u4 | exact Upd.u5 | (repeat (first | exact Upd.here | apply Upd.there | apply upd_app))) rfl ?_
          refine XO_nil ?_
          refine at_block_n ?_
          first
          | exact at_norm (at_ret0 rfl (fun w hw => ⟨_, I, _, rfl, HLe.refl _, hw.subL (.drop .refl), rfl, rfl, rfl⟩))
          | (exfalso; unfold isF at hf; omega)
        · skip
          have hg4 : f ≠ 4 := by simpa using hc28
          refine X_seq ?_
          refine X_region ?_
          refine XO_v0 (ev_cmp rfl rfl rfl) rfl rfl rfl ?_
          refine XO_v0 (ev_assign rfl) rfl rfl rfl ?_
          refine XO_nil ?_
          refine at_then ?_
          refine X_cond rfl (fun hc35 => ?_) (fun hc35 => ?_)
          · skip
            have hfk : f = 5 := by simpa using hc35
            subst hfk
            refine X_region ?_
            refine XO_v0 (ev_move rfl) rfl rfl rfl ?_
            refine XO_v0 (ev_fieldAddr rfl fld_45_6) rfl rfl rfl ?_
            refine XO_v0 (ev_load rfl sct_3 (fun hg => by first | exact Cell.h0 rfl | exact Cell.h1 rfl | exact Cell.h2 rfl | exact Cell.h3 rfl | exact Cell.h4 rfl | exact Cell.h5 rfl | (repeat (first | exact Cell.here rfl | apply Cell.there | apply Cell.app)))) rfl rfl rfl ?_
            refine XO_v0 (ev_nilCheck rfl) rfl rfl rfl ?_
            refine XO_v0 (ev_fieldAddr rfl fld_45_6) rfl rfl rfl ?_
            refine XO_store rfl rfl szt_3 rfl rfl (by first | exact Upd.u0 | exact Upd.u1 | exact Upd.u2 | exact Upd.u3 | exact Upd.u4 | exact Upd.u5 | (repeat (first | exact Upd.here | apply Upd.there | apply upd_app))) rfl ?_
            refine XO_nil ?_
            refine at_block_n ?_
            first
            | exact at_norm (at_ret0 rfl (fun w hw => ⟨_, I, _, rfl, HLe.refl _, hw.subL (.drop .refl), rfl, rfl, rfl⟩))
            | (exfalso; unfold isF at hf; omega)
          · skip
            have hg5 : f ≠ 5 := by simpa using hc35
            refine X_seq ?_
            refine X_region ?_
            refine XO_v0 (ev_cmp rfl rfl rfl) rfl rfl rfl ?_
            refine XO_v0 (ev_assign rfl) rfl rfl rfl ?_
            refine XO_nil ?_
            refine at_then ?_
            refine X_cond rfl (fun hc42 => ?_) (fun hc42 => ?_)
            · skip
              have hfk : f = 6 := by simpa using hc42
              subst hfk
              refine X_region ?_
              refine XO_v0 (ev_move rfl) rfl rfl rfl ?_
              refine XO_v0 (ev_fieldAddr rfl fld_45_7) rfl rfl rfl ?_
              refine XO_v0 (ev_load rfl sct_3 (fun hg => by first | exact Cell.h0 rfl | exact Cell.h1 rfl | exact Cell.h2 rfl | exact Cell.h3 rfl | exact Cell.h4 rfl | exact Cell.h5 rfl | (repeat (first | exact Cell.here rfl | apply Cell.there | apply Cell.app)))) rfl rfl rfl ?_
              refine XO_v0 (ev_nilCheck rfl) rfl rfl rfl ?_
              refine XO_v0 (ev_fieldAddr rfl fld_45_7) rfl rfl rfl ?_
              refine XO_store rfl rfl szt_3 rfl rfl (by first | exact Upd.u0 | exact Upd.u1 | exact Upd.u2 | exact Upd.u3 | exact Upd.u4 | exact Upd.u5 | (repeat (first | exact Upd.here | apply Upd.there | apply upd_app))) rfl ?_
              refine XO_nil ?_
              refine at_block_n ?_
              first
              | exact at_norm (at_ret0 rfl (fun w hw => ⟨_, I, _, rfl, HLe.refl _, hw.subL (.drop .refl), rfl, rfl, rfl⟩))
              | (exfalso; unfold isF at hf; omega)
            · skip
              have hg6 : f ≠ 6 := by simpa using hc42
              refine X_seq ?_
              refine X_region ?_
              refine XO_v0 (ev_cmp rfl rfl rfl) rfl rfl rfl ?_
              refine XO_v0 (ev_assign rfl) rfl rfl rfl ?_
              refine XO_nil ?_
              refine at_then ?_
              refine X_cond rfl (fun hc49 => ?_) (fun hc49 => ?_)
              · skip
                have hfk : f = 7 := by simpa using hc49
                subst hfk
                refine X_region ?_
                refine XO_v0 (ev_move rfl) rfl rfl rfl ?_
                refine XO_v0 (ev_fieldAddr rfl fld_45_8) rfl rfl rfl ?_
                refine XO_v0 (ev_load rfl sct_3 (fun hg => by first | exact Cell.h0 rfl | exact Cell.h1 rfl | exact Cell.h2 rfl | exact Cell.h3 rfl | exact Cell.h4 rfl | exact Cell.h5 rfl | (repeat (first | exact Cell.here rfl | apply Cell.there | apply Cell.app)))) rfl rfl rfl ?_
                refine XO_v0 (ev_nilCheck rfl) rfl rfl rfl ?_
                refine XO_v0 (ev_fieldAddr rfl fld_45_8) rfl rfl rfl ?_
                refine XO_store rfl rfl szt_3 rfl rfl (by first | exact Upd.u0 | exact Upd.u1 | exact Upd.u2 | exact Upd.u3 | exact Upd.u4 | exact Upd.u5 | (repeat (first | exact Upd.here | apply Upd.there | apply upd_app))) rfl ?_
                refine XO_nil ?_
                refine at_block_n ?_
                first
                | exact at_norm (at_ret0 rfl (fun w hw => ⟨_, I, _, rfl, HLe.refl _, hw.subL (.drop .refl), rfl, rfl, rfl⟩))
                | (exfalso; unfold isF at hf; omega)
              · skip
                have hg7 : f ≠ 7 := by simpa using hc49
                refine X_seq ?_
                refine X_region ?_
                refine XO_v0 (ev_cmp rfl rfl rfl) rfl rfl rfl ?_
                refine XO_v0 (ev_assign rfl) rfl rfl rfl ?_
                refine XO_nil ?_
                refine at_then ?_
                refine X_cond rfl (fun hc56 => ?_) (fun hc56 => ?_)
                · skip
                  have hfk : f = 8 := by simpa using hc56
                  subst hfk
                  refine X_region ?_
                  refine XO_v0 (ev_move rfl) rfl rfl rfl ?_
                  refine XO_v0 (ev_fieldAddr rfl fld_45_9) rfl rfl rfl ?_
                  refine XO_v0 (ev_load rfl sct_3 (fun hg => by first | exact Cell.h0 rfl | exact Cell.h1 rfl | exact Cell.h2 rfl | exact Cell.h3 rfl | exact Cell.h4 rfl | exact Cell.h5 rfl | (repeat (first | exact Cell.here rfl | apply Cell.there | apply Cell.app)))) rfl rfl rfl ?_
                  refine XO_v0 (ev_nilCheck rfl) rfl rfl rfl ?_
                  refine XO_v0 (ev_fieldAddr rfl fld_45_9) rfl rfl rfl ?_
                  refine XO_store rfl rfl szt_3 rfl rfl (by first | exact Upd.u0 | exact Upd.u1 | exact Upd.u2 | exact Upd.u3 | exact Upd.u4 | exact Upd.u5 | (repeat (first | exact Upd.here | apply Upd.there | apply upd_app))) rfl ?_
                  refine XO_nil ?_
                  refine at_block_n ?_
                  first
                  | exact at_norm (at_ret0 rfl (fun w hw => ⟨_, I, _, rfl, HLe.refl _, hw.subL (.drop .refl), rfl, rfl, rfl⟩))
                  | (exfalso; unfold isF at hf; omega)
                · skip
                  have hg8 : f ≠ 8 := by simpa using hc56
                  refine X_seq ?_
                  refine X_region ?_
                  refine XO_v0 (ev_cmp rfl rfl rfl) rfl rfl rfl ?_
                  refine XO_v0 (ev_assign rfl) rfl rfl rfl ?_
                  refine XO_nil ?_
                  refine at_then ?_
                  refine X_cond rfl (fun hc63 => ?_) (fun hc63 => ?_)
                  · skip
                    have hfk : f = 9 := by simpa using hc63
                    subst hfk
                    have hD := HLe.refl I
                    refine X_noP ?_
                    refine X_drawS I [(b_5, .cells (encGA y).cells 45 (0, 0))] mixed ?_
                    refine XD_take 0 rfl (ev_move rfl) (.none rfl) rfl rfl rfl (by kernel_rfl) (by kernel_rfl) (by kernel_rfl) noP_ok hD (by repeat (first | exact .refl | exact subL_nil | refine .keep ?_ | refine .drop ?_ | refine subL_add ?_)) ?_
                    refine XD_take 1 rfl (ev_move rfl) (.none rfl) rfl rfl rfl (by kernel_rfl) (by kernel_rfl) (by kernel_rfl) noP_ok hD (by repeat (first | exact .refl | exact subL_nil | refine .keep ?_ | refine .drop ?_ | refine subL_add ?_)) ?_
                    refine XD_take 2 rfl (ev_fieldAddr rfl fld_45_10) (.none rfl) rfl rfl rfl (by kernel_rfl) (by kernel_rfl) (by kernel_rfl) noP_ok hD (by repeat (first | exact .refl | exact subL_nil | refine .keep ?_ | refine .drop ?_ | refine subL_add ?_)) ?_
                    refine XD_take 3 rfl (ev_loadA rfl agt_43 (fun hg => by first | exact Cells.g0 | exact Cells.g1 | exact Cells.g2 | exact Cells.g3 | exact Cells.g4 | exact Cells.g5 | exact Cells.s0 (vs := [_, _]) rfl | exact Cells.s1 (vs := [_, _]) rfl | exact Cells.s2 (vs := [_, _]) rfl | exact Cells.s3 (vs := [_, _]) rfl | exact Cells.s4 (vs := [_, _]) rfl | exact Cells.s5 (vs := [_, _]) rfl | (repeat (first | exact Cells.here | apply Cells.there | apply Cells.app))) rfl) (.none rfl) rfl rfl rfl (by kernel_rfl) (by kernel_rfl) (by kernel_rfl) noP_ok hD (by repeat (first | exact .refl | exact subL_nil | refine .keep ?_ | refine .drop ?_ | refine subL_add ?_)) ?_
                    refine XD_take 4 rfl (ev_fieldAddr rfl fld_45_11) (.none rfl) rfl rfl rfl (by kernel_rfl) (by kernel_rfl) (by kernel_rfl) noP_ok hD (by repeat (first | exact .refl | exact subL_nil | refine .keep ?_ | refine .drop ?_ | refine subL_add ?_)) ?_
                    refine XD_take 5 rfl (ev_loadA rfl agt_43 (fun hg => by first | exact Cells.g0 | exact Cells.g1 | exact Cells.g2 | exact Cells.g3 | exact Cells.g4 | exact Cells.g5 | exact Cells.s0 (vs := [_, _]) rfl | exact Cells.s1 (vs := [_, _]) rfl | exact Cells.s2 (vs := [_, _]) rfl | exact Cells.s3 (vs := [_, _]) rfl | exact Cells.s4 (vs := [_, _]) rfl | exact Cells.s5 (vs := [_, _]) rfl | (repeat (first | exact Cells.here | apply Cells.there | apply Cells.app))) rfl) (.none rfl) rfl rfl rfl (by kernel_rfl) (by kernel_rfl) (by kernel_rfl) noP_ok hD (by repeat (first | exact .refl | exact subL_nil | refine .keep ?_ | refine .drop ?_ | refine subL_add ?_)) ?_
                    refine XD_take 6 rfl (ev_nilCheck rfl) (.none rfl) rfl rfl rfl (by kernel_rfl) (by kernel_rfl) (by kernel_rfl) noP_ok hD (by repeat (first | exact .refl | exact subL_nil | refine .keep ?_ | refine .drop ?_ | refine subL_add ?_)) ?_
                    refine XD_take 7 rfl (ev_fieldAddr rfl fld_45_10) (.none rfl) rfl rfl rfl (by kernel_rfl) (by kernel_rfl) (by kernel_rfl) noP_ok hD (by repeat (first | exact .refl | exact subL_nil | refine .keep ?_ | refine .drop ?_ | refine subL_add ?_)) ?_
                    refine XD_one 8 rfl (by kernel_rfl) ?_
                    refine XO_storeP rfl rfl szt_43 rfl rfl rfl rfl (by first | exact Upd.u0 | exact Upd.u1 | exact Upd.u2 | exact Upd.u3 | exact Upd.u4 | exact Upd.u5 | (repeat (first | exact Upd.here | apply Upd.there | apply upd_app))) ?_
                    refine XO_nil ?_
                    refine at_D hD (by repeat (first | exact .refl | exact subL_nil | refine .keep ?_ | refine .drop ?_ | refine subL_add ?_)) ?_
                    refine XD_take 9 rfl (ev_nilCheck rfl) (.none rfl) rfl rfl rfl (by kernel_rfl) (by kernel_rfl) (by kernel_rfl) noP_ok hD (by repeat (first | exact .refl | exact subL_nil | refine .keep ?_ | refine .drop ?_ | refine subL_add ?_)) ?_
                    refine XD_take 10 rfl (ev_fieldAddr rfl fld_45_11) (.none rfl) rfl rfl rfl (by kernel_rfl) (by kernel_rfl) (by kernel_rfl) noP_ok hD (by repeat (first | exact .refl | exact subL_nil | refine .keep ?_ | refine .drop ?_ | refine subL_add ?_)) ?_
                    refine XD_one 11 rfl (by kernel_rfl) ?_
                    refine XO_storeP rfl rfl szt_43 rfl rfl rfl rfl (by first | exact Upd.u0 | exact Upd.u1 | exact Upd.u2 | exact Upd.u3 | exact Upd.u4 | exact Upd.u5 | (repeat (first | exact Upd.here | apply Upd.there | apply upd_app))) ?_
                    refine XO_nil ?_
                    refine at_D hD (by repeat (first | exact .refl | exact subL_nil | refine .keep ?_ | refine .drop ?_ | refine subL_add ?_)) ?_
                    refine XD_done (by kernel_rfl) ?_
                    refine at_noP ?_
                    refine at_block_n ?_
                    first
                    | exact at_norm (at_ret0 rfl (fun w hw => ⟨_, I, _, rfl, HLe.refl _, hw.subL (.drop .refl), rfl, rfl, rfl⟩))
                    | (exfalso; unfold isF at hf; omega)
                  · skip
                    have hg9 : f ≠ 9 := by simpa using hc63
                    refine X_skip ?_
                    refine at_block_n ?_
                    first
                    | exact at_norm (at_ret0 rfl (fun w hw => ⟨_, I, _, rfl, HLe.refl _, hw.subL (.drop .refl), rfl, rfl, rfl⟩))
                    | (exfalso; unfold isF at hf; omega)
end Go.Proofs.YtccomeanpppfmaaGreat
end
section
namespace Go.Proofs.YtccomeanpppfmaaGreat
open Go Go.Kn Go.Proofs
/-- The signs that exist, with the latest values. -/
def exL (on : Int → Int → Bool) (l : List Pt) (xs : List Sg) : List Sg := (xs.filter fun x => exB on l x.id).map (curF on l)
theorem ex_yes {on : Int → Int → Bool} {l : List Pt} {xs : List Sg} {k : Nat} {x : Sg} (hx : xs[k]? = some x) (h : exB on l x.id = true) : exL on l (xs.take (k + 1)) = exL on l (xs.take k) ++ [curF on l x] := by
  unfold exL
  rw [take_snoc hx, List.filter_append, List.filter_cons, if_pos h]; simp
theorem ex_no {on : Int → Int → Bool} {l : List Pt} {xs : List Sg} {k : Nat} {x : Sg} (hx : xs[k]? = some x) (h : exB on l x.id = false) : exL on l (xs.take (k + 1)) = exL on l (xs.take k) := by
  unfold exL
  rw [take_snoc hx, List.filter_append, List.filter_cons, if_neg (by rw [h]; exact Bool.false_ne_true)]; simp
theorem ex_zero {on : Int → Int → Bool} {l : List Pt} {xs : List Sg} : exL on l (xs.take 0) = [] := by unfold exL; simp
def exE (on : Int → Int → Bool) (l : List Pt) (xs : List Sg) : Int := if (exL on l xs).length > 4096 then 2 else 0
/-- Signs and an error. -/
def ResG (e : Int) (xs : List Sg) : Value → HMap → Go.Kn.Loc → Prop := fun v I' L => L = [] ∧ ∃ av c, v = .tuple #[.slice av xs.length c, .int .i64 e] ∧ Sl I' 14 encG av xs.length c xs
theorem ResG.empty {e : Int} {xs : List Sg} {I : HMap} (h : xs = []) : ResG e xs (.tuple #[.slice none 0 0, .int .i64 e]) I [] := by
  subst h
  exact ⟨rfl, none, 0, rfl, .nil⟩
theorem ResG.good {e e' : Int} {xs ys : List Sg} {I : HMap} {av : Option Addr} {n c : Nat} (h : e = e') (hx : ys = xs) (hS : Sl I 14 encG av n c ys) : ResG e' xs (.tuple #[.slice av n c, .int .i64 e]) I [] := by
  subst h; subst hx
  have hn := hS.len
  subst hn
  exact ⟨rfl, av, c, rfl, hS⟩
theorem valn {e size n : Nat} {v : Value} {xs : List Value} {L : Go.Kn.Loc} (h : OwnS e size v n xs L) : ∃ a c, v = .slice a n c := by
  rcases h.2 with ⟨h1, h2, _⟩ | ⟨b, c, cur, h1, _⟩
  · subst h2; exact ⟨_, _, h1⟩
  · exact ⟨_, _, h1⟩
theorem setO_nil {x : Sg} {f : Int} {l : List Pt} (h : l = []) : setO x f l = x := by subst h; rfl
theorem setO_pre {x : Sg} {f : Int} {l : List Pt} {p : Pt} (h : [p] <+: l) : setO x f l = setG x f p.nw := by
  obtain ⟨t, rfl⟩ := h; rfl
theorem cur_next {on : Int → Int → Bool} {l : List Pt} {x y : Sg} {k : Nat} (hy : y = curK on l x k) : setO y ((k : Int) + 1) (latF on l y.id ((k : Int) + 1)) = curK on l x (k + 1) := by
  subst hy
  rw [curK_step, (curK_id k).1]
theorem isF_k {k : Nat} (h : k < 9) : isF ((k : Int) + 1) := by unfold isF; omega
theorem cur_start {on : Int → Int → Bool} {l : List Pt} {x : Sg} : x = curK on l x 0 := rfl
theorem sgn_bad {ps : List Pt} {bs : List Sg} {ws : List Int} (h : patE ps bs ws ≠ 0) : sgnE ps bs ws = patE ps bs ws := by unfold sgnE; rw [if_pos h]
theorem sgn_ok {ps : List Pt} {bs : List Sg} {ws : List Int} (h : patE ps bs ws = 0) : sgnE ps bs ws = exE (onF ps) (verL ps ws) (allG bs (verL ps ws)) := by unfold sgnE; rw [if_neg (by omega)]; rfl
theorem pat_chk {ps : List Pt} {bs : List Sg} {ws : List Int} (h : patE ps bs ws = 0) : chkR ps = 0 := by
  by_cases h2 : chkR ps = 0
  · exact h2
  · rw [pat_1 h2] at h; exact h
theorem pat_g {ps : List Pt} {bs : List Sg} {ws : List Int} (h : patE ps bs ws = 0) : chkG bs = 0 := by
  by_cases h2 : chkG bs = 0
  · exact h2
  · rw [pat_2 (pat_chk h) h2] at h; exact h
theorem pat_v {ps : List Pt} {bs : List Sg} {ws : List Int} (h : patE ps bs ws = 0) : Ver ps ws := by
  by_cases h2 : vrE ps ws = 0
  · exact (verB_iff (chkR_lst (pat_chk h))).1 (vr_ver h2)
  · rw [pat_3 (pat_chk h) (pat_g h) h2] at h; exact absurd h h2
theorem pat_ok {ps : List Pt} {bs : List Sg} {ws : List Int} (h : patE ps bs ws = 0) : ∀ p ∈ verL ps ws, PtOK p := fun p hp => (chkR_sto (pat_chk h)).ok p (mem_verL.1 hp).1
theorem allG_len (bs : List Sg) (l : List Pt) : (allG bs l).length ≤ bs.length + l.length := by
  have h := (all_perm l bs).length_eq
  rw [h, List.length_append]
  unfold insS
  rw [List.length_map]
  have := List.length_filter_le (fun p : Pt => p.kind == 2) l
  omega
end Go.Proofs.YtccomeanpppfmaaGreat
end
section
namespace Go.Proofs.YtccomeanpppfmaaGreat
open Go Go.Kn Go.Proofs
theorem w_current {I : HMap} {ps l : List Pt} {xs : List Sg} {r1 r2 r3 : Nat} {av : Option Addr} {n c : Nat} (hx : StQ I ps l xs r1 r2 r3 av n c) (hn : n ≤ 100000) (hok : ∀ p ∈ l, PtOK p) : RetM Tryz.prog 44 [stA r1 r2 r3 av n c] I [] (ResG (exE (onF ps) l xs) (resF (exE (onF ps) l xs) (exL (onF ps) l xs))) := by
  intro g H w hw
  refine enterMs Tryz.func44 rfl Tryz.ntmps44 rfl hw ?_
  have hIc := HLe.refl I
  refine X_seq ?_
  refine X_region ?_
  refine XO_box rfl rfl rfl (fun b_1 => ?_)
  refine XO_v0 (ev_assign rfl) rfl rfl rfl ?_
  refine XO_v0 (ev_assign rfl) rfl rfl rfl ?_
  refine XO_nil ?_
  refine at_then ?_
  refine X_seq ?_
  refine X_seq ?_
  refine X_dropTo ((b_1, .cells #[.map (some r1), .map (some r2), .map (some r3), .slice av n c] 85 (0, 0)) :: ([] ++ MB _)) .refl ?_
  refine X_region ?_
  refine XO_v0 (ev_fieldAddr rfl fld_85_3) rfl rfl rfl ?_
  refine XO_v0 (ev_load rfl sct_33 (fun hg => by first | exact Cell.h0 rfl | exact Cell.h1 rfl | exact Cell.h2 rfl | exact Cell.h3 rfl | exact Cell.h4 rfl | exact Cell.h5 rfl | (repeat (first | exact Cell.here rfl | apply Cell.there | apply Cell.app)))) rfl rfl rfl ?_
  refine XO_v0 (ev_lenS rfl slt_33) rfl rfl rfl ?_
  refine XO_v0 (ev_move rfl) rfl rfl rfl ?_
  refine XO_nil ?_
  refine at_then ?_
  refine X_block ?_
  refine X_loopM [(1, _), (9, _), (10, _)] (.cons rfl (.cons rfl (.cons rfl .nil))) (fun T L0 mz ms E I' loc' => ∃ (j : Nat) (v : Value) (q : Nat) (L : Go.Kn.Loc), mz = n - j ∧ E = (2, v) :: (11, .int .i64 j) :: T ∧ HLe I I' ∧ (b_1, .cells #[.map (some r1), .map (some r2), .map (some r3), .slice av n c] 85 (0, 0)) :: (L ++ MB ms) = loc' ∧ j ≤ n ∧ OwnS 45 14 v q ((exL (onF ps) l (xs.take j)).flatMap encG) L ∧ q ≤ j) _ _ _ _ ⟨0, _, 0, [], rfl, rfl, HLe.refl _, rfl, Nat.zero_le _, by rw [ex_zero]; exact OwnS.nil, Nat.le_refl _⟩ (.cons rfl (.cons rfl (.cons rfl (.cons rfl (.cons rfl .nil))))) (HLe.refl _) rfl ?_
  rintro mz ms E J1 loc' ⟨j, v, q, L, rfl, rfl, hJ, rfl, hj, hO, hq⟩
  have hx := hx.mono hJ
  have hIc := hIc.trans hJ
  have hB0 := hJ
  refine X_seq ?_
  refine X_region ?_
  refine XO_v0 (ev_cmp rfl rfl rfl) rfl rfl rfl ?_
  refine XO_nil ?_
  refine at_then ?_
  refine X_seq ?_
  refine X_cond rfl (fun hc12 => ?_) (fun hc12 => ?_)
  · skip
    have hlt_j : j < n := by have h := hc12; simp at h; omega
    have hS := hx.sg
    obtain ⟨x, hxx⟩ := hS.at hlt_j
    refine X_skip ?_
    refine at_then ?_
    refine X_seq ?_
    refine X_block ?_
    refine X_seq ?_
    refine X_region ?_
    refine XO_v0 (ev_indexSl rfl rfl slt_33 (by assumption) (fun hg => by first | omega | (simp [conj] at hg; omega))) rfl rfl rfl ?_
    refine XO_v0 (ev_loadA rfl agt_45 (fun hg => by first | exact Sl.getA hS hxx | exact Cells.g0 | exact Cells.g1 | exact Cells.g2 | exact Cells.g3 | exact Cells.g4 | exact Cells.g5 | exact Cells.s0 (vs := [_, _, _, _, _, _, _, _, _, _, _, _, _, _]) rfl | exact Cells.s1 (vs := [_, _, _, _, _, _, _, _, _, _, _, _, _, _]) rfl | exact Cells.s2 (vs := [_, _, _, _, _, _, _, _, _, _, _, _, _, _]) rfl | exact Cells.s3 (vs := [_, _, _, _, _, _, _, _, _, _, _, _, _, _]) rfl | exact Cells.s4 (vs := [_, _, _, _, _, _, _, _, _, _, _, _, _, _]) rfl | exact Cells.s5 (vs := [_, _, _, _, _, _, _, _, _, _, _, _, _, _]) rfl | (repeat (first | exact Cells.here | apply Cells.there | apply Cells.app))) rfl) rfl rfl rfl ?_
    refine XO_alloc zt_45 rfl rfl (fun b_5 => ?_)
    refine XO_storeA rfl rfl szt_45 rfl rfl rfl rfl (by first | exact Upd.u0 | exact Upd.u1 | exact Upd.u2 | exact Upd.u3 | exact Upd.u4 | exact Upd.u5 | (repeat (first | exact Upd.here | apply Upd.there | apply upd_app))) ?_
    refine XO_nil ?_
    refine at_then ?_
    refine X_seq ?_
    refine X_seq ?_
    refine X_region ?_
    refine XO_v0 (ev_loadA rfl agt_85 (fun hg => by first | exact Sl.getA hS hxx | exact Cells.g0 | exact Cells.g1 | exact Cells.g2 | exact Cells.g3 | exact Cells.g4 | exact Cells.g5 | exact Cells.s0 (vs := [_, _, _, _]) rfl | exact Cells.s1 (vs := [_, _, _, _]) rfl | exact Cells.s2 (vs := [_, _, _, _]) rfl | exact Cells.s3 (vs := [_, _, _, _]) rfl | exact Cells.s4 (vs := [_, _, _, _]) rfl | exact Cells.s5 (vs := [_, _, _, _]) rfl | (repeat (first | exact Cells.here | apply Cells.there | apply Cells.app))) rfl) rfl rfl rfl ?_
    refine XO_v0 (ev_fieldAddr rfl fld_45_0) rfl rfl rfl ?_
    refine XO_v0 (ev_load rfl sct_3 (fun hg => by first | exact Cell.h0 rfl | exact Cell.h1 rfl | exact Cell.h2 rfl | exact Cell.h3 rfl | exact Cell.h4 rfl | exact Cell.h5 rfl | (repeat (first | exact Cell.here rfl | apply Cell.there | apply Cell.app)))) rfl rfl rfl ?_
    refine XO_callV0 (cap := []) (vs := [_, _]) rfl rfl fun_50 (w_exists hx hok _) rfl rfl ?_
    refine XO_v0 (ev_not rfl) rfl rfl rfl ?_
    refine XO_nil ?_
    refine at_then ?_
    refine X_cond rfl (fun hc19 => ?_) (fun hc19 => ?_)
    · skip
      have hex := (Bool.not_eq_true' _).mp hc19
      refine X_exit ?_
      refine at_then_e ?_
      refine at_block_hit ?_
      refine at_then ?_
      refine X_region ?_
      refine XO_v0 (ev_arB rfl rfl rfl (fun _ => by omega)) rfl rfl rfl ?_
      refine XO_v0 (ev_move rfl) rfl rfl rfl ?_
      refine XO_nil ?_
      first
      | exact at_metM rfl rfl rfl _ _ ⟨n - (j + 1), by omega, j + 1, _, _, _, rfl, rfl, hB0, rfl, by omega, by rw [ex_no hxx hex]; exact hO, by omega⟩ (.cons rfl (.cons rfl (.cons rfl (.cons rfl (.cons rfl .nil))))) (by repeat (first | exact .refl | exact subL_left | refine subL_app ?_ | refine .drop ?_ | refine subL_add ?_))
      | exact at_metMP rfl rfl rfl _ _ (L9 ++ ((b_1, _) :: MB _)) ⟨n - (j + 1), by omega, j + 1, v9, _, L9, rfl, rfl, hB0, rfl, by omega, by rw [ex_yes hxx hex]; exact hO9, by omega⟩ (.cons rfl (.cons rfl (.cons rfl (.cons rfl (.cons rfl .nil))))) List.perm_middle.symm (by repeat (first | exact .refl | exact subL_left | refine subL_app ?_ | refine .drop ?_ | refine subL_add ?_))
    · skip
      have hex := (Bool.not_eq_false' _).mp hc19
      refine X_skip ?_
      refine at_then ?_
      refine X_seq ?_
      refine X_seq ?_
      refine X_region ?_
      refine XO_alloc zt_3 rfl rfl (fun b_6 => ?_)
      refine XO_store rfl rfl szt_3 rfl rfl (by first | exact Upd.u0 | exact Upd.u1 | exact Upd.u2 | exact Upd.u3 | exact Upd.u4 | exact Upd.u5 | (repeat (first | exact Upd.here | apply Upd.there | apply upd_app))) rfl ?_
      refine XO_nil ?_
      refine at_then ?_
      refine X_block ?_
      refine X_loopM [(1, _), (2, _), (5, _), (9, _), (10, _), (11, _)] (.cons rfl (.cons rfl (.cons rfl (.cons rfl (.cons rfl (.cons rfl .nil)))))) (fun T L0 mz ms E I' loc' => ∃ (k : Nat) (b6 : Nat) (y : Sg), mz = 9 - k ∧ E = (6, capP b6) :: T ∧ HLe J1 I' ∧ (b6, .cells #[.int .i64 ((k : Int) + 1)] 3 (0, 0)) :: (b_5, .cells (encG y).toArray 45 (0, 0)) :: (b_1, .cells #[.map (some r1), .map (some r2), .map (some r3), .slice av n c] 85 (0, 0)) :: (L ++ MB ms) = loc' ∧ k ≤ 9 ∧ y = curK (onF ps) l x k) _ _ _ _ ⟨0, b_6, x, rfl, rfl, HLe.refl _, rfl, Nat.zero_le _, cur_start⟩ (.cons rfl (.cons rfl (.cons rfl (.cons rfl (.cons rfl (.cons rfl (.cons rfl .nil))))))) (HLe.refl _) rfl ?_
      rintro mz ms E J2 loc' ⟨k, b6, y, rfl, rfl, hJ, rfl, hk, hy⟩
      have hx := hx.mono hJ
      have hIc := hIc.trans hJ
      have hB0 := hB0.trans hJ
      have hB2 := hJ
      refine X_seq ?_
      refine X_seq ?_
      refine X_region ?_
      refine XO_v0 (ev_load rfl sct_3 (fun hg => by first | exact Cell.h0 rfl | exact Cell.h1 rfl | exact Cell.h2 rfl | exact Cell.h3 rfl | exact Cell.h4 rfl | exact Cell.h5 rfl | (repeat (first | exact Cell.here rfl | apply Cell.there | apply Cell.app)))) rfl rfl rfl ?_
      refine XO_v0 (ev_cmp rfl rfl rfl) rfl rfl rfl ?_
      refine XO_nil ?_
      refine at_then ?_
      refine X_cond rfl (fun hc21 => ?_) (fun hc21 => ?_)
      · skip
        have hlt_k : k < 9 := by have h := hc21; simp at h; omega
        refine X_skip ?_
        refine at_then ?_
        refine X_seq ?_
        refine X_block ?_
        refine X_seq ?_
        refine X_region ?_
        refine XO_v0 (ev_loadA rfl agt_85 (fun hg => by first | exact Sl.getA hS hxx | exact Cells.g0 | exact Cells.g1 | exact Cells.g2 | exact Cells.g3 | exact Cells.g4 | exact Cells.g5 | exact Cells.s0 (vs := [_, _, _, _]) rfl | exact Cells.s1 (vs := [_, _, _, _]) rfl | exact Cells.s2 (vs := [_, _, _, _]) rfl | exact Cells.s3 (vs := [_, _, _, _]) rfl | exact Cells.s4 (vs := [_, _, _, _]) rfl | exact Cells.s5 (vs := [_, _, _, _]) rfl | (repeat (first | exact Cells.here | apply Cells.there | apply Cells.app))) rfl) rfl rfl rfl ?_
        refine XO_v0 (ev_fieldAddr rfl fld_45_0) rfl rfl rfl ?_
        refine XO_v0 (ev_load rfl sct_3 (fun hg => by first | exact Cell.h0 rfl | exact Cell.h1 rfl | exact Cell.h2 rfl | exact Cell.h3 rfl | exact Cell.h4 rfl | exact Cell.h5 rfl | (repeat (first | exact Cell.here rfl | apply Cell.there | apply Cell.app)))) rfl rfl rfl ?_
        refine XO_v0 (ev_load rfl sct_3 (fun hg => by first | exact Cell.h0 rfl | exact Cell.h1 rfl | exact Cell.h2 rfl | exact Cell.h3 rfl | exact Cell.h4 rfl | exact Cell.h5 rfl | (repeat (first | exact Cell.here rfl | apply Cell.there | apply Cell.app)))) rfl rfl rfl ?_
        refine XO_callM (cap := []) (vs := [_, _, _]) rfl rfl fun_51 .nil (w_latest _ _ _ _ _ _ _ _ _) rfl rfl ?_
        rintro vv3 I3 L3 hI3 ⟨rfl, c1, c2, c3, rfl, hcap⟩
        have hx := hx.mono hI3
        have hIc := hIc.trans hI3
        have hB0 := hB0.trans hI3
        have hB2 := hB2.trans hI3
        refine XO_nil ?_
        refine at_then ?_
        refine X_block ?_
        refine X_rangeFuncM (K := []) (L := (b6, .cells #[.int .i64 ((k : Int) + 1)] 3 (0, 0)) :: (b_5, .cells (encG y).toArray 45 (0, 0)) :: (b_1, .cells #[.map (some r1), .map (some r2), .map (some r3), .slice av n c] 85 (0, 0)) :: L) (enc := encPA) (xs := latF (onF ps) l y.id ((k : Int) + 1)) (fun pre I' loc' => pre = [] ∧ loc' = (b6, .cells #[.int .i64 ((k : Int) + 1)] 3 (0, 0)) :: (b_5, .cells (encG y).toArray 45 (0, 0)) :: (b_1, .cells #[.map (some r1), .map (some r2), .map (some r3), .slice av n c] 85 (0, 0)) :: L) (fun cd pre I' loc' => cd = .exit 4 ∧ ∃ p, pre = [p] ∧ loc' = (b_5, .cells (encG (setG y ((k : Int) + 1) p.nw)).toArray 45 (0, 0)) :: (b6, .cells #[.int .i64 ((k : Int) + 1)] 3 (0, 0)) :: (b_1, .cells #[.map (some r1), .map (some r2), .map (some r3), .slice av n c] 85 (0, 0)) :: L) (fun pre p E2 I2 loc2 => ∃ b7 : Nat, E2 = [(5, capP b_5), (6, capP b6), (7, capP b7)] ∧ pre = [] ∧ loc2 = (b7, .cells (encP p).toArray 53 (0, 0)) :: (b6, .cells #[.int .i64 ((k : Int) + 1)] 3 (0, 0)) :: (b_5, .cells (encG y).toArray 45 (0, 0)) :: (b_1, .cells #[.map (some r1), .map (some r2), .map (some r3), .slice av n c] 85 (0, 0)) :: L) rfl fun_88 (w_latit hx hcap) rfl ⟨rfl, rfl⟩ ?_ ?_ ?_ ?_
        · rintro l9 pre p I1 loc1 H1 hpre hI1 ⟨rfl, rfl⟩
          refine X_region ?_
          refine XO_alloc zt_53 rfl rfl (fun b_7 => ?_)
          refine XO_storeA rfl rfl szt_53 rfl rfl rfl rfl (by first | exact Upd.u0 | exact Upd.u1 | exact Upd.u2 | exact Upd.u3 | exact Upd.u4 | exact Upd.u5 | (repeat (first | exact Upd.here | apply Upd.there | apply upd_app))) ?_
          refine XO_nil ?_
          exact at_met' _ ⟨HLe.refl _, b_7, rfl, rfl, rfl⟩ (.cons rfl (.cons rfl (.cons rfl .nil)))
        · rintro l9 pre p E2 I2 loc2 H2 hpre hI2 ⟨b7, rfl, rfl, rfl⟩
          refine X_block ?_
          refine X_seq ?_
          refine X_region ?_
          refine XO_v0 (ev_load rfl sct_3 (fun hg => by first | exact Cell.h0 rfl | exact Cell.h1 rfl | exact Cell.h2 rfl | exact Cell.h3 rfl | exact Cell.h4 rfl | exact Cell.h5 rfl | (repeat (first | exact Cell.here rfl | apply Cell.there | apply Cell.app)))) rfl rfl rfl ?_
          refine XO_v0 (ev_fieldAddr rfl fld_53_4) rfl rfl rfl ?_
          refine XO_v0 (ev_loadA rfl agt_45 (fun hg => by first | exact Sl.getA hS hxx | exact Cells.g0 | exact Cells.g1 | exact Cells.g2 | exact Cells.g3 | exact Cells.g4 | exact Cells.g5 | exact Cells.s0 (vs := [_, _, _, _, _, _, _, _, _, _, _, _, _, _]) rfl | exact Cells.s1 (vs := [_, _, _, _, _, _, _, _, _, _, _, _, _, _]) rfl | exact Cells.s2 (vs := [_, _, _, _, _, _, _, _, _, _, _, _, _, _]) rfl | exact Cells.s3 (vs := [_, _, _, _, _, _, _, _, _, _, _, _, _, _]) rfl | exact Cells.s4 (vs := [_, _, _, _, _, _, _, _, _, _, _, _, _, _]) rfl | exact Cells.s5 (vs := [_, _, _, _, _, _, _, _, _, _, _, _, _, _]) rfl | (repeat (first | exact Cells.here | apply Cells.there | apply Cells.app))) rfl) rfl rfl rfl ?_
          refine XO_callM (cap := []) (vs := [_, _, _]) rfl rfl fun_82 (by repeat (first | exact .cons .here .nil | exact split_all | exact split_app | apply split_cons | apply split_skip)) (w_put _ b_5 y _ p.nw (isF_k hlt_k)) rfl rfl ?_
          rintro vv4 I4 L4 hI4 ⟨rfl, rfl, rfl⟩
          refine XO_nil ?_
          refine at_then ?_
          refine X_exit ?_
          refine at_block_miss rfl ?_
          exact at_round_exit2 ⟨HLe.refl _, rfl, p, rfl, rfl⟩ (by repeat (first | exact .refl | refine .keep ?_ | refine .drop ?_))
        · rintro bd I1 loc1 hI1 ⟨hnil, rfl⟩
          have hx := hx.mono hI1
          have hIc := hIc.trans hI1
          have hB0 := hB0.trans hI1
          have hB2 := hB2.trans hI1
          have hy2 : y = curK (onF ps) l x (k + 1) := by rw [← cur_next hy, setO_nil hnil]
          refine at_block_n ?_
          refine at_block_n ?_
          refine at_then ?_
          refine X_seq ?_
          refine X_seq ?_
          refine X_region ?_
          refine XO_v0 (ev_load rfl sct_3 (fun hg => by first | exact Cell.h0 rfl | exact Cell.h1 rfl | exact Cell.h2 rfl | exact Cell.h3 rfl | exact Cell.h4 rfl | exact Cell.h5 rfl | (repeat (first | exact Cell.here rfl | apply Cell.there | apply Cell.app)))) rfl rfl rfl ?_
          refine XO_nil ?_
          refine at_then ?_
          refine X_region ?_
          refine XO_alloc zt_3 rfl rfl (fun b_6 => ?_)
          refine XO_store rfl rfl szt_3 rfl rfl (by first | exact Upd.u0 | exact Upd.u1 | exact Upd.u2 | exact Upd.u3 | exact Upd.u4 | exact Upd.u5 | (repeat (first | exact Upd.here | apply Upd.there | apply upd_app))) rfl ?_
          refine XO_nil ?_
          refine at_then ?_
          refine X_region ?_
          refine XO_v0 (ev_load rfl sct_3 (fun hg => by first | exact Cell.h0 rfl | exact Cell.h1 rfl | exact Cell.h2 rfl | exact Cell.h3 rfl | exact Cell.h4 rfl | exact Cell.h5 rfl | (repeat (first | exact Cell.here rfl | apply Cell.there | apply Cell.app)))) rfl rfl rfl ?_
          refine XO_v0 (ev_arB rfl rfl rfl (fun _ => by omega)) rfl rfl rfl ?_
          refine XO_store rfl rfl szt_3 rfl rfl (by first | exact Upd.u0 | exact Upd.u1 | exact Upd.u2 | exact Upd.u3 | exact Upd.u4 | exact Upd.u5 | (repeat (first | exact Upd.here | apply Upd.there | apply upd_app))) rfl ?_
          refine XO_nil ?_
          exact at_metM rfl rfl rfl _ _ ⟨9 - (k + 1), by omega, k + 1, _, _, rfl, rfl, hB2, rfl, by omega, hy2⟩ (.cons rfl (.cons rfl (.cons rfl (.cons rfl (.cons rfl (.cons rfl (.cons rfl .nil))))))) (by repeat (first | exact .refl | refine .keep ?_ | refine .drop ?_))
        · rintro cd bd pre I1 loc1 hI1 hpre ⟨rfl, p, rfl, rfl⟩
          have hx := hx.mono hI1
          have hIc := hIc.trans hI1
          have hB0 := hB0.trans hI1
          have hB2 := hB2.trans hI1
          have hy2 : (setG y ((k : Int) + 1) p.nw) = curK (onF ps) l x (k + 1) := by rw [← cur_next hy, setO_pre hpre]
          refine X_exit ?_
          refine at_block_hit ?_
          refine at_block_n ?_
          refine at_then ?_
          refine X_seq ?_
          refine X_seq ?_
          refine X_region ?_
          refine XO_v0 (ev_load rfl sct_3 (fun hg => by first | exact Cell.h0 rfl | exact Cell.h1 rfl | exact Cell.h2 rfl | exact Cell.h3 rfl | exact Cell.h4 rfl | exact Cell.h5 rfl | (repeat (first | exact Cell.here rfl | apply Cell.there | apply Cell.app)))) rfl rfl rfl ?_
          refine XO_nil ?_
          refine at_then ?_
          refine X_region ?_
          refine XO_alloc zt_3 rfl rfl (fun b_6 => ?_)
          refine XO_store rfl rfl szt_3 rfl rfl (by first | exact Upd.u0 | exact Upd.u1 | exact Upd.u2 | exact Upd.u3 | exact Upd.u4 | exact Upd.u5 | (repeat (first | exact Upd.here | apply Upd.there | apply upd_app))) rfl ?_
          refine XO_nil ?_
          refine at_then ?_
          refine X_region ?_
          refine XO_v0 (ev_load rfl sct_3 (fun hg => by first | exact Cell.h0 rfl | exact Cell.h1 rfl | exact Cell.h2 rfl | exact Cell.h3 rfl | exact Cell.h4 rfl | exact Cell.h5 rfl | (repeat (first | exact Cell.here rfl | apply Cell.there | apply Cell.app)))) rfl rfl rfl ?_
          refine XO_v0 (ev_arB rfl rfl rfl (fun _ => by omega)) rfl rfl rfl ?_
          refine XO_store rfl rfl szt_3 rfl rfl (by first | exact Upd.u0 | exact Upd.u1 | exact Upd.u2 | exact Upd.u3 | exact Upd.u4 | exact Upd.u5 | (repeat (first | exact Upd.here | apply Upd.there | apply upd_app))) rfl ?_
          refine XO_nil ?_
          exact at_metM rfl rfl rfl _ _ ⟨9 - (k + 1), by omega, k + 1, _, _, rfl, rfl, hB2, rfl, by omega, hy2⟩ (.cons rfl (.cons rfl (.cons rfl (.cons rfl (.cons rfl (.cons rfl (.cons rfl .nil))))))) (by repeat (first | exact .refl | refine .keep ?_ | refine .drop ?_))
      · skip
        have hge_k : 9 ≤ k := by have h := hc21; simp at h; omega
        have hk9 : k = 9 := by omega
        subst hk9
        have hy : y = curF (onF ps) l x := hy
        subst hy
        refine X_exit ?_
        refine at_then_e ?_
        refine at_then_e ?_
        refine at_block_hit ?_
        refine at_then ?_
        refine X_region ?_
        refine XO_v0 (ev_move rfl) rfl rfl rfl ?_
        refine XO_v0 (ev_loadA rfl agt_45 (fun hg => by first | exact Sl.getA hS hxx | exact Cells.g0 | exact Cells.g1 | exact Cells.g2 | exact Cells.g3 | exact Cells.g4 | exact Cells.g5 | exact Cells.s0 (vs := [_, _, _, _, _, _, _, _, _, _, _, _, _, _]) rfl | exact Cells.s1 (vs := [_, _, _, _, _, _, _, _, _, _, _, _, _, _]) rfl | exact Cells.s2 (vs := [_, _, _, _, _, _, _, _, _, _, _, _, _, _]) rfl | exact Cells.s3 (vs := [_, _, _, _, _, _, _, _, _, _, _, _, _, _]) rfl | exact Cells.s4 (vs := [_, _, _, _, _, _, _, _, _, _, _, _, _, _]) rfl | exact Cells.s5 (vs := [_, _, _, _, _, _, _, _, _, _, _, _, _, _]) rfl | (repeat (first | exact Cells.here | apply Cells.there | apply Cells.app))) rfl) rfl rfl rfl ?_
        refine XO_buildSlice (ps := [(0, _)]) (m := [encG (curF (onF ps) l x)]) elt_33 rfl (.cons rfl (.nil)) rfl (by simp [encG_len]) (by decide) (by decide) rfl rfl (fun b_37 => ?_)
        refine XO_append (v := _) (ys := [curF (onF ps) l x].flatMap encG) (L := L) rfl rfl elt_33 hO (by repeat (first | exact .cons .here .nil | exact split_all | exact split_app | apply split_cons | apply split_skip)) ⟨rfl, fun _ => rfl, Cells.here⟩ (one_G [curF (onF ps) l x]) (by omega) rfl rfl ?_
        intro v9 L9 hO9 _; rw [← List.flatMap_append] at hO9
        refine XO_v0 (ev_assign rfl) rfl rfl rfl ?_
        refine XO_nil ?_
        refine at_block_n ?_
        refine at_then ?_
        refine X_region ?_
        refine XO_v0 (ev_arB rfl rfl rfl (fun _ => by omega)) rfl rfl rfl ?_
        refine XO_v0 (ev_move rfl) rfl rfl rfl ?_
        refine XO_nil ?_
        first
        | exact at_metM rfl rfl rfl _ _ ⟨n - (j + 1), by omega, j + 1, _, _, _, rfl, rfl, hB0, rfl, by omega, by rw [ex_no hxx hex]; exact hO, by omega⟩ (.cons rfl (.cons rfl (.cons rfl (.cons rfl (.cons rfl .nil))))) (by repeat (first | exact .refl | exact subL_left | refine subL_app ?_ | refine .drop ?_ | refine subL_add ?_))
        | exact at_metMP rfl rfl rfl _ _ (L9 ++ ((b_1, _) :: MB _)) ⟨n - (j + 1), by omega, j + 1, v9, _, L9, rfl, rfl, hB0, rfl, by omega, by rw [ex_yes hxx hex]; exact hO9, by omega⟩ (.cons rfl (.cons rfl (.cons rfl (.cons rfl (.cons rfl .nil))))) List.perm_middle.symm (by repeat (first | exact .refl | exact subL_left | refine subL_app ?_ | refine .drop ?_ | refine subL_add ?_))
  · skip
    have hge_j : n ≤ j := by have h := hc12; simp at h; omega
    obtain ⟨va, vc, rfl⟩ := valn hO
    rw [List.take_of_length_le (by rw [hx.sg.len]; exact hge_j)] at hO
    refine X_exit ?_
    refine at_then_e ?_
    refine at_then_e ?_
    refine at_block_hit ?_
    refine at_then ?_
    refine X_seq ?_
    refine X_seq ?_
    refine X_region ?_
    refine XO_v0 (ev_move rfl) rfl rfl rfl ?_
    refine XO_v0 (ev_lenS rfl slt_33) rfl rfl rfl ?_
    refine XO_v0 (ev_cmp rfl rfl rfl) rfl rfl rfl ?_
    refine XO_nil ?_
    refine at_then ?_
    refine X_cond rfl (fun hc42 => ?_) (fun hc42 => ?_)
    · skip
      have hbig : exE (onF ps) l xs = 2 := by unfold exE; rw [if_pos]; have h1 := hO.1; rw [flat_len encG_len] at h1; simp at hc42; omega
      refine X_seq ?_
      refine X_region ?_
      refine XO_v0 (ev_assign rfl) rfl rfl rfl ?_
      refine XO_v0 (ev_assign rfl) rfl rfl rfl ?_
      refine XO_nil ?_
      refine at_then ?_
      refine X_ret ?_
      refine at_then_r ?_
      first
      | exact at_retMs (L := _ :: L) (fun a ha w hw => res2 rfl rfl rfl a ha w) (fun w hw => ⟨_, J1, [], rfl, hIc, hw.drop, by rw [hbig]; exact ResG.empty rfl⟩)
      | exact at_retMs (L := _ :: L) (fun a ha w hw => res2 rfl rfl rfl a ha w) (fun w hw => by obtain ⟨I9, h91, h92, h93⟩ := OwnS.res hO encG_len (by decide) (hw.subL (.drop .refl)); obtain ⟨_, a9, c9, e9, h94⟩ := h93; cases e9; exact ⟨_, I9, [], rfl, hIc.trans h91, h92, by rw [hbig]; exact ResG.good rfl rfl h94⟩)
    · skip
      have hbig : exE (onF ps) l xs = 0 := by unfold exE; rw [if_neg]; have h1 := hO.1; rw [flat_len encG_len] at h1; simp at hc42; omega
      refine X_skip ?_
      refine at_then ?_
      refine X_seq ?_
      refine X_region ?_
      refine XO_v0 (ev_move rfl) rfl rfl rfl ?_
      refine XO_v0 (ev_assign rfl) rfl rfl rfl ?_
      refine XO_v0 (ev_assign rfl) rfl rfl rfl ?_
      refine XO_nil ?_
      refine at_then ?_
      refine X_ret ?_
      first
      | exact at_retMs (L := _ :: L) (fun a ha w hw => res2 rfl rfl rfl a ha w) (fun w hw => ⟨_, J1, [], rfl, hIc, hw.drop, by rw [hbig]; exact ResG.empty rfl⟩)
      | exact at_retMs (L := _ :: L) (fun a ha w hw => res2 rfl rfl rfl a ha w) (fun w hw => by obtain ⟨I9, h91, h92, h93⟩ := OwnS.res hO encG_len (by decide) (hw.subL (.drop .refl)); obtain ⟨_, a9, c9, e9, h94⟩ := h93; cases e9; exact ⟨_, I9, [], rfl, hIc.trans h91, h92, by rw [hbig]; exact ResG.good rfl rfl h94⟩)
end Go.Proofs.YtccomeanpppfmaaGreat
end
section
namespace Go.Proofs.YtccomeanpppfmaaGreat
open Go Go.Kn Go.Proofs
theorem w_Signs {I : HMap} {av : Option Addr} {n c : Nat} {ps : List Pt} (hP : SlP I av n c ps) (hn : n ≤ 100000) {bv : Option Addr} {n2 c2 : Nat} {bs : List Sg} (hB : Sl I 14 encG bv n2 c2 bs) (hn2 : n2 ≤ 100000) {dv : Option Addr} {n3 c3 : Nat} {ws : List Int} (hV : Sl I 1 encI dv n3 c3 ws) (hn3 : n3 ≤ 100000) : RetM Tryz.prog 15 [.slice av n c, .slice bv n2 c2, .slice dv n3 c3] I [] (ResG (sgnE ps bs ws) (sgnF ps bs ws)) := by
  intro g H w hw
  refine enter Tryz.func15 rfl Tryz.ntmps15 rfl hw ?_
  have hIc := HLe.refl I
  refine X_seq ?_
  refine X_region ?_
  refine XO_v0 (ev_assign rfl) rfl rfl rfl ?_
  refine XO_v0 (ev_assign rfl) rfl rfl rfl ?_
  refine XO_nil ?_
  refine at_then ?_
  refine X_seq ?_
  refine X_region ?_
  refine XO_v0 (ev_move rfl) rfl rfl rfl ?_
  refine XO_v0 (ev_move rfl) rfl rfl rfl ?_
  refine XO_v0 (ev_move rfl) rfl rfl rfl ?_
  refine XO_callM (cap := []) (vs := [_, _, _]) rfl rfl fun_43 .nil (w_read hP hn hB hn2 hV hn3) rfl rfl ?_
  rintro vv1 I1 L1 hI1 ⟨rfl, m1, m2, m3, a9, n9, c9, rfl, hst⟩
  have hIc := hIc.trans hI1
  refine XO_v0 (ev_move rfl) rfl rfl rfl ?_
  refine XO_v0 (ev_extract rfl rfl) rfl rfl rfl ?_
  refine XO_v0 (ev_extract rfl rfl) rfl rfl rfl ?_
  refine XO_alloc zt_85 rfl rfl (fun b_8 => ?_)
  refine XO_storeA rfl rfl szt_85 rfl rfl rfl rfl (by first | exact Upd.u0 | exact Upd.u1 | exact Upd.u2 | exact Upd.u3 | exact Upd.u4 | exact Upd.u5 | (repeat (first | exact Upd.here | apply Upd.there | apply upd_app))) ?_
  refine XO_v0 (ev_assign rfl) rfl rfl rfl ?_
  refine XO_nil ?_
  refine at_then ?_
  refine X_seq ?_
  refine X_seq ?_
  refine X_region ?_
  refine XO_v0 (ev_move rfl) rfl rfl rfl ?_
  refine XO_v0 (ev_cmp rfl rfl rfl) rfl rfl rfl ?_
  refine XO_nil ?_
  refine at_then ?_
  refine X_cond rfl (fun hc17 => ?_) (fun hc17 => ?_)
  · skip
    have he : patE ps bs ws ≠ 0 := by simpa using hc17
    refine X_seq ?_
    refine X_region ?_
    refine XO_v0 (ev_move rfl) rfl rfl rfl ?_
    refine XO_v0 (ev_assign rfl) rfl rfl rfl ?_
    refine XO_v0 (ev_assign rfl) rfl rfl rfl ?_
    refine XO_nil ?_
    refine at_then ?_
    refine X_ret ?_
    refine at_then_r ?_
    first
    | exact at_ret2 rfl rfl rfl (fun w hw => ⟨_, I1, [], rfl, hIc, hw.drop, by unfold sgnF; rw [sgn_bad he]; exact ResG.empty (resF_bad he)⟩)
    | exact at_ret2 rfl rfl rfl (fun w hw => ⟨_, I1, [], rfl, hIc, hw.drop, ResG.good (sgn_ok he).symm (by unfold sgnF; rw [sgn_ok he]; rfl) hR⟩)
  · skip
    have he : patE ps bs ws = 0 := by simpa using hc17
    obtain ⟨r1, r2, r3, rfl, rfl, rfl, hx⟩ := hst he
    have hn9 : n9 ≤ 5000 := by have h1 := hx.sg.len; have h2 := allG_len bs (verL ps ws); have h3 := hx.fewl; have h4 := (chkG_ok (pat_g he)).1; omega
    refine X_skip ?_
    refine at_then ?_
    refine X_seq ?_
    refine X_region ?_
    refine XO_v0 (ev_loadA rfl agt_85 (fun hg => by first | exact Cells.g0 | exact Cells.g1 | exact Cells.g2 | exact Cells.g3 | exact Cells.g4 | exact Cells.g5 | exact Cells.s0 (vs := [_, _, _, _]) rfl | exact Cells.s1 (vs := [_, _, _, _]) rfl | exact Cells.s2 (vs := [_, _, _, _]) rfl | exact Cells.s3 (vs := [_, _, _, _]) rfl | exact Cells.s4 (vs := [_, _, _, _]) rfl | exact Cells.s5 (vs := [_, _, _, _]) rfl | (repeat (first | exact Cells.here | apply Cells.there | apply Cells.app))) rfl) rfl rfl rfl ?_
    refine XO_callM (cap := []) (vs := [_]) rfl rfl fun_44 .nil (w_current hx (by omega) (pat_ok he)) rfl rfl ?_
    rintro vv2 I2 L2 hI2 ⟨rfl, av8, c8, rfl, hR⟩
    have hIc := hIc.trans hI2
    refine XO_v0 (ev_extract rfl rfl) rfl rfl rfl ?_
    refine XO_v0 (ev_extract rfl rfl) rfl rfl rfl ?_
    refine XO_v0 (ev_assign rfl) rfl rfl rfl ?_
    refine XO_v0 (ev_assign rfl) rfl rfl rfl ?_
    refine XO_nil ?_
    refine at_then ?_
    refine X_ret ?_
    first
    | exact at_ret2 rfl rfl rfl (fun w hw => ⟨_, I2, [], rfl, hIc, hw.drop, by unfold sgnF; rw [sgn_bad he]; exact ResG.empty (resF_bad he)⟩)
    | exact at_ret2 rfl rfl rfl (fun w hw => ⟨_, I2, [], rfl, hIc, hw.drop, ResG.good (sgn_ok he).symm (by unfold sgnF; rw [sgn_ok he]; rfl) hR⟩)
end Go.Proofs.YtccomeanpppfmaaGreat
end
section
namespace Go.Proofs.YtccomeanpppfmaaGreat
open Go Go.Kn Go.Proofs
/-- Conflicts in memory. -/
def CsQ (I : HMap) (cs : List Cf) (K : List Ck) : Prop := (∀ z ∈ cs, Sl I 1 encI z.a z.n z.c z.ids) ∧ cs.map Cf.key = K
theorem CsQ.mono {I I' : HMap} {cs : List Cf} {K : List Ck} (h : CsQ I cs K) (hI : HLe I I') : CsQ I' cs K := ⟨fun z hz => (h.1 z hz).mono hI, h.2⟩
theorem CsQ.nil {I : HMap} : CsQ I [] [] := ⟨fun z hz => (by cases hz), rfl⟩
theorem CsQ.snoc {I : HMap} {cs : List Cf} {K : List Ck} (h : CsQ I cs K) {z : Cf} (hz : Sl I 1 encI z.a z.n z.c z.ids) : CsQ I (cs ++ [z]) (K ++ [z.key]) := by
  refine ⟨fun y hy => ?_, by rw [List.map_append, h.2]; rfl⟩
  rcases List.mem_append.1 hy with hy | hy
  · exact h.1 y hy
  · simp at hy; subst hy; exact hz
theorem CsQ.congr {I : HMap} {cs : List Cf} {K K' : List Ck} (h : CsQ I cs K) (e : K = K') : CsQ I cs K' := e ▸ h
/-- The conflict of removes: which sets and removes it names. -/
theorem cf0_made {on : Int → Int → Bool} {l : List Pt} {s : Int} (hL : Lst l) (hok : ∀ p ∈ l, PtOK p) : Lib.compact (sortI (unK on l s 9 ++ rmF l s)) = (l.filter fun p => p.sign == s && (unB on l p || p.kind == 3)).map (·.id) := by
  refine comp_sort_eq (ids_sorted hL _) fun x => ?_
  rw [List.mem_append, mem_unK hok, mem_ids, mem_rmF]
  unfold unF
  rw [mem_ids]
  constructor
  · rintro (⟨p, hp, h, e⟩ | ⟨p, hp, hk, hs, e⟩)
    · refine ⟨p, hp, ?_, e⟩
      rw [Bool.and_eq_true] at h ⊢
      exact ⟨h.1, by rw [h.2]; rfl⟩
    · exact ⟨p, hp, by simp [hk, hs], e⟩
  · rintro ⟨p, hp, h, e⟩
    simp only [Bool.and_eq_true, Bool.or_eq_true, beq_iff_eq] at h
    rcases h.2 with h2 | h2
    · exact .inl ⟨p, hp, by simp [h.1, h2], e⟩
    · exact .inr ⟨p, hp, h2, h.1, e⟩
theorem un_nil {on : Int → Int → Bool} {l : List Pt} {s : Int} (hok : ∀ p ∈ l, PtOK p) : (unF on l s).isEmpty = !decide (((unK on l s 9).length : Int) > 0) := by
  cases hu : unF on l s with
  | nil =>
    have : unK on l s 9 = [] := by
      cases hk : unK on l s 9 with
      | nil => rfl
      | cons x us =>
        have : x ∈ (unF on l s).map (·.id) := (mem_unK hok).1 (by rw [hk]; simp)
        rw [hu] at this; cases this
    rw [this]; rfl
  | cons p us =>
    have : p.id ∈ unK on l s 9 := (mem_unK hok).2 (by rw [hu]; simp)
    have h2 : (unK on l s 9).length ≠ 0 := fun h => by rw [List.length_eq_zero_iff.1 h] at this; cases this
    simp; omega
theorem cf0_yes {on : Int → Int → Bool} {l : List Pt} {s : Int} (hL : Lst l) (hok : ∀ p ∈ l, PtOK p) (h : decide (((unK on l s 9).length : Int) > 0) = true) : cf0 on l s = [(s, 0, Lib.compact (sortI (unK on l s 9 ++ rmF l s)))] := by
  unfold cf0; rw [un_nil hok, h, cf0_made hL hok]; rfl
theorem cf0_no {on : Int → Int → Bool} {l : List Pt} {s : Int} (hok : ∀ p ∈ l, PtOK p) (h : decide (((unK on l s 9).length : Int) > 0) = false) : cf0 on l s = [] := by
  unfold cf0; rw [un_nil hok, h]; rfl
/-- Values seen. -/
structure MvQ (m : List (Sg × Bool)) (pre : List Pt) : Prop where
  nodup : (m.map (·.1)).Nodup
  mem : ∀ x, x ∈ m.map (·.1) ↔ ∃ p ∈ pre, p.nw = x
theorem MvQ.nil : MvQ [] [] := ⟨.nil, fun x => by simp⟩
theorem MvQ.put {m : List (Sg × Bool)} {pre : List Pt} (h : MvQ m pre) (p : Pt) : MvQ (mset m p.nw true) (pre ++ [p]) := by
  refine ⟨mset_nodup _ _ h.nodup, fun x => ?_⟩
  rw [mset_keys]
  split
  · rename_i h2
    rw [h.mem]
    constructor
    · rintro ⟨q, hq, e⟩; exact ⟨q, by simp [hq], e⟩
    · rintro ⟨q, hq, e⟩
      rcases List.mem_append.1 hq with hq | hq
      · exact ⟨q, hq, e⟩
      · simp at hq; subst hq; rw [h.mem] at h2; rw [e] at h2; exact h2
  · rw [List.mem_append, h.mem]
    constructor
    · rintro (⟨q, hq, e⟩ | h3)
      · exact ⟨q, by simp [hq], e⟩
      · simp at h3; exact ⟨p, by simp, h3.symm⟩
    · rintro ⟨q, hq, e⟩
      rcases List.mem_append.1 hq with hq | hq
      · exact .inl ⟨q, hq, e⟩
      · simp at hq; subst hq; exact .inr (by simp [e])
theorem dif_eq {m : List (Sg × Bool)} {xs : List Pt} (h : MvQ m xs) : decide (((m.length : Nat) : Int) > 1) = difB xs := by
  rw [Bool.eq_iff_iff, decide_eq_true_eq]
  cases xs with
  | nil =>
    have : m = [] := by
      cases m with
      | nil => rfl
      | cons q m => have := (h.mem q.1).1 (by simp); simp at this
    subst this; simp [difB]
  | cons p ps =>
    unfold difB
    rw [List.any_eq_true]
    constructor
    · intro hl
      match m, h with
      | a :: b :: m, h =>
        have hnd := h.nodup
        simp only [List.map_cons, List.nodup_cons, List.mem_cons, not_or] at hnd
        obtain ⟨qa, hqa, ea⟩ := (h.mem a.1).1 (by simp)
        obtain ⟨qb, hqb, eb⟩ := (h.mem b.1).1 (by simp)
        have hne : qa.nw ≠ qb.nw := by rw [ea, eb]; exact hnd.1.1
        by_cases hp : qa.nw = p.nw
        · rcases List.mem_cons.1 hqb with rfl | hqb
          · exact absurd hp hne
          · refine ⟨qb, hqb, ?_⟩
            rw [Bool.not_eq_true']
            cases hs : sgEq qb.nw p.nw with
            | false => rfl
            | true => exact absurd (by rw [hp]; exact (sgEq_iff.1 hs).symm) hne
        · rcases List.mem_cons.1 hqa with rfl | hqa
          · exact absurd rfl hp
          · refine ⟨qa, hqa, ?_⟩
            rw [Bool.not_eq_true']
            cases hs : sgEq qa.nw p.nw with
            | false => rfl
            | true => exact absurd (sgEq_iff.1 hs) hp
      | [a], _ => simp at hl
      | [], _ => simp at hl
    · rintro ⟨q, hq, hs⟩
      rw [Bool.not_eq_true'] at hs
      have hne := sgEq_no hs
      have h1 : p.nw ∈ m.map (·.1) := (h.mem _).2 ⟨p, by simp, rfl⟩
      have h2 : q.nw ∈ m.map (·.1) := (h.mem _).2 ⟨q, by simp [hq], rfl⟩
      match m, h1, h2 with
      | a :: b :: m, _, _ => simp; omega
      | [a], h1, h2 =>
        simp at h1 h2
        exact absurd (by rw [h1, h2]) hne
      | [], h1, _ => simp at h1
def cfR (on : Int → Int → Bool) (l : List Pt) (s : Int) (k : Nat) : List Ck := (List.range k).flatMap fun (j : Nat) => cfK on l s ((j : Int) + 1)
theorem cfR_next (on : Int → Int → Bool) (l : List Pt) (s : Int) (k : Nat) : cfR on l s (k + 1) = cfR on l s k ++ cfK on l s ((k : Int) + 1) := by
  unfold cfR
  rw [List.range_succ, List.flatMap_append]; simp
theorem cfK_yes {on : Int → Int → Bool} {l : List Pt} {s f : Int} (h : exB on l s = true) (h2 : difB (latF on l s f) = true) : cfK on l s f = [(s, f, (latF on l s f).map (·.id))] := by unfold cfK; rw [h, h2]; rfl
theorem cfK_no {on : Int → Int → Bool} {l : List Pt} {s f : Int} (h2 : difB (latF on l s f) = false) : cfK on l s f = [] := by unfold cfK; rw [h2, Bool.and_false]; rfl
theorem cfS_end {on : Int → Int → Bool} {l : List Pt} {s : Int} {k : Nat} (hk : k ≤ 9) (h : (decide ((k : Int) + 1 ≤ 9) && exB on l s) = false) : cf0 on l s ++ cfR on l s k = cfS on l s := by
  unfold cfS cfR
  congr 1
  rw [Bool.and_eq_false_iff] at h
  rcases h with h | h
  · simp at h
    rw [show k = 9 by omega]
  · have e : ∀ j, cfK on l s j = [] := fun j => by unfold cfK; rw [h]; rfl
    have e2 : ∀ r : List Nat, (r.flatMap fun (j : Nat) => cfK on l s ((j : Int) + 1)) = [] := fun r => by
      rw [List.flatMap_eq_nil_iff]; exact fun j _ => e _
    rw [e2, e2]
theorem perm_two {x y : Nat × Obj} {L M : Go.Kn.Loc} : (x :: y :: (L ++ M)).Perm (L ++ (x :: y :: M)) := List.perm_append_comm_assoc [x, y] L M
theorem pre_next {xs : List Sg} {j : Nat} {x : Sg} (hx : xs[j]? = some x) (f : Sg → List Ck) : (xs.take (j + 1)).flatMap f = (xs.take j).flatMap f ++ f x := by
  rw [take_snoc hx, List.flatMap_append]; simp
theorem lat_bound {on : Int → Int → Bool} {l pre : List Pt} {s f : Int} {p : Pt} {e q : Nat} {v : Value} {L : Go.Kn.Loc} (h : pre ++ [p] <+: latF on l s f) (hO : OwnS e 1 v q ((pre.map (·.id)).flatMap encI) L) (hl : l.length ≤ 512) : q ≤ 512 := by
  have h1 := hO.1
  rw [lenI, List.length_map] at h1
  have h2 := h.length_le
  rw [List.length_append] at h2
  have h3 : (latF on l s f).length ≤ (stF l s f).length := List.length_filter_le ..
  have h4 := stF_len (l := l) (s := s) (f := f)
  omega
theorem un_len {on : Int → Int → Bool} {l : List Pt} {s : Int} (hl : l.length ≤ 512) : (unK on l s 9).length ≤ 5000 := by
  have h1 := unK_len (on := on) (l := l) (s := s) 9
  have h2 : 9 * l.length ≤ 9 * 512 := Nat.mul_le_mul_left 9 hl
  omega
/-- Conflicts and an error. -/
def ResC (e : Int) (K : List Ck) : Value → HMap → Go.Kn.Loc → Prop := fun v I' L => L = [] ∧ ∃ cs av c, v = .tuple #[.slice av cs.length c, .int .i64 e] ∧ SlC I' av cs.length c cs ∧ cs.map Cf.key = K
theorem ResC.empty {e : Int} {K : List Ck} {I : HMap} (h : K = []) : ResC e K (.tuple #[.slice none 0 0, .int .i64 e]) I [] := by
  subst h
  exact ⟨rfl, [], none, 0, rfl, ⟨.nil, fun z hz => by cases hz⟩, rfl⟩
end Go.Proofs.YtccomeanpppfmaaGreat
end
section
namespace Go.Proofs.YtccomeanpppfmaaGreat
open Go Go.Kn Go.Proofs
theorem key_45 : KeyOK (α := Sg) Tryz.prog 45 encGA := key_flat2 (enc := encG) eqt2_45 (fun _ => rfl) (fun a b => (show eqKs _ (encG a) (encG b) = some (sgEq a b) from rfl).trans (congrArg some (by rw [Bool.eq_iff_iff, decide_eq_true_eq]; exact sgEq_iff))) (fun a => by simp [encG, Instr.sameBits])
theorem w_Conflicts {I : HMap} {av : Option Addr} {n c : Nat} {ps : List Pt} (hP : SlP I av n c ps) (hn : n ≤ 100000) {bv : Option Addr} {n2 c2 : Nat} {bs : List Sg} (hB : Sl I 14 encG bv n2 c2 bs) (hn2 : n2 ≤ 100000) {dv : Option Addr} {n3 c3 : Nat} {ws : List Int} (hV : Sl I 1 encI dv n3 c3 ws) (hn3 : n3 ≤ 100000) : RetM Tryz.prog 17 [.slice av n c, .slice bv n2 c2, .slice dv n3 c3] I [] (ResC (sgnE ps bs ws) (cflF ps bs ws)) := by
  intro g H w hw
  refine enterMs Tryz.func17 rfl Tryz.ntmps17 rfl hw ?_
  have hIc := HLe.refl I
  refine X_seq ?_
  refine X_region ?_
  refine XO_v0 (ev_assign rfl) rfl rfl rfl ?_
  refine XO_v0 (ev_assign rfl) rfl rfl rfl ?_
  refine XO_nil ?_
  refine at_then ?_
  refine X_seq ?_
  refine X_region ?_
  refine XO_v0 (ev_move rfl) rfl rfl rfl ?_
  refine XO_v0 (ev_move rfl) rfl rfl rfl ?_
  refine XO_v0 (ev_move rfl) rfl rfl rfl ?_
  refine XO_callM (cap := []) (vs := [_, _, _]) rfl rfl fun_43 .nil (w_read hP hn hB hn2 hV hn3) rfl rfl ?_
  rintro vv1 I1 L1 hI1 ⟨rfl, m1, m2, m3, a9, n9, c9, rfl, hst⟩
  have hIc := hIc.trans hI1
  refine XO_v0 (ev_move rfl) rfl rfl rfl ?_
  refine XO_v0 (ev_extract rfl rfl) rfl rfl rfl ?_
  refine XO_v0 (ev_extract rfl rfl) rfl rfl rfl ?_
  refine XO_alloc zt_85 rfl rfl (fun b_8 => ?_)
  refine XO_storeA rfl rfl szt_85 rfl rfl rfl rfl (by first | exact Upd.u0 | exact Upd.u1 | exact Upd.u2 | exact Upd.u3 | exact Upd.u4 | exact Upd.u5 | (repeat (first | exact Upd.here | apply Upd.there | apply upd_app))) ?_
  refine XO_v0 (ev_assign rfl) rfl rfl rfl ?_
  refine XO_nil ?_
  refine at_then ?_
  refine X_seq ?_
  refine X_seq ?_
  refine X_region ?_
  refine XO_v0 (ev_move rfl) rfl rfl rfl ?_
  refine XO_v0 (ev_cmp rfl rfl rfl) rfl rfl rfl ?_
  refine XO_nil ?_
  refine at_then ?_
  refine X_cond rfl (fun hc24 => ?_) (fun hc24 => ?_)
  · skip
    have he : patE ps bs ws ≠ 0 := by simpa using hc24
    refine X_seq ?_
    refine X_region ?_
    refine XO_v0 (ev_move rfl) rfl rfl rfl ?_
    refine XO_v0 (ev_assign rfl) rfl rfl rfl ?_
    refine XO_v0 (ev_assign rfl) rfl rfl rfl ?_
    refine XO_nil ?_
    refine at_then ?_
    refine X_ret ?_
    refine at_then_r ?_
    first
    | exact at_retMs (L := [_]) (fun a ha w hw => res2 rfl rfl rfl a ha w) (fun w hw => ⟨_, I1, [], rfl, hIc, hw.drop, by unfold cflF; rw [sgn_bad he]; exact ResC.empty (resF_bad he)⟩)
    | exact at_retMs (L := [_]) (fun a ha w hw => res2 rfl rfl rfl a ha w) (fun w hw => ⟨_, I1, [], rfl, hIc, hw.drop, by unfold cflF; rw [sgn_ok he]; exact ResC.empty (resF_bad hx2)⟩)
    | exact at_retMs (L := _ :: L) (fun a ha w hw => res2 rfl rfl rfl a ha w) (fun w hw => by obtain ⟨I9, h91, h92, h93⟩ := OwnS.res hO encC_len (by decide) (hw.subL (.drop .refl)); obtain ⟨_, a9, c9, e9, h94⟩ := h93; subst e9; exact ⟨_, I9, [], rfl, hIc.trans h91, h92, rfl, cs, a9, c9, by rw [sgn_ok he, hx2], ⟨h94, fun z hz => (hcs.1 z hz).mono h91⟩, by unfold cflF; rw [sgn_ok he, resF_ok hx2]; exact hcs.2⟩)
  · skip
    have he : patE ps bs ws = 0 := by simpa using hc24
    obtain ⟨r1, r2, r3, rfl, rfl, rfl, hx⟩ := hst he
    have hn9 : n9 ≤ 5000 := by have h1 := hx.sg.len; have h2 := allG_len bs (verL ps ws); have h3 := hx.fewl; have h4 := (chkG_ok (pat_g he)).1; omega
    have hok := pat_ok he
    have hL := verL_lst (chkR_lst (pat_chk he)) (pat_v he)
    refine X_skip ?_
    refine at_then ?_
    refine X_seq ?_
    refine X_seq ?_
    refine X_region ?_
    refine XO_v0 (ev_loadA rfl agt_85 (fun hg => by first | exact Sl.getA hS hxx | exact Cells.g0 | exact Cells.g1 | exact Cells.g2 | exact Cells.g3 | exact Cells.g4 | exact Cells.g5 | exact Cells.s0 (vs := [_, _, _, _]) rfl | exact Cells.s1 (vs := [_, _, _, _]) rfl | exact Cells.s2 (vs := [_, _, _, _]) rfl | exact Cells.s3 (vs := [_, _, _, _]) rfl | exact Cells.s4 (vs := [_, _, _, _]) rfl | exact Cells.s5 (vs := [_, _, _, _]) rfl | (repeat (first | exact Cells.here | apply Cells.there | apply Cells.app))) rfl) rfl rfl rfl ?_
    refine XO_callM (cap := []) (vs := [_]) rfl rfl fun_44 .nil (w_current hx (by omega) (pat_ok he)) rfl rfl ?_
    rintro vv2 I2 L2 hI2 ⟨rfl, av8, c8, rfl, hR⟩
    have hx := hx.mono hI2
    have hIc := hIc.trans hI2
    refine XO_v0 (ev_move rfl) rfl rfl rfl ?_
    refine XO_v0 (ev_extract rfl rfl) rfl rfl rfl ?_
    refine XO_v0 (ev_extract rfl rfl) rfl rfl rfl ?_
    refine XO_v0 (ev_assign rfl) rfl rfl rfl ?_
    refine XO_nil ?_
    refine at_then ?_
    refine X_seq ?_
    refine X_region ?_
    refine XO_v0 (ev_move rfl) rfl rfl rfl ?_
    refine XO_v0 (ev_cmp rfl rfl rfl) rfl rfl rfl ?_
    refine XO_nil ?_
    refine at_then ?_
    refine X_cond rfl (fun hc32 => ?_) (fun hc32 => ?_)
    · skip
      have hx2 : exE (onF ps) (verL ps ws) (allG bs (verL ps ws)) ≠ 0 := by simpa using hc32
      refine X_seq ?_
      refine X_region ?_
      refine XO_v0 (ev_move rfl) rfl rfl rfl ?_
      refine XO_v0 (ev_assign rfl) rfl rfl rfl ?_
      refine XO_v0 (ev_assign rfl) rfl rfl rfl ?_
      refine XO_nil ?_
      refine at_then ?_
      refine X_ret ?_
      refine at_then_r ?_
      first
      | exact at_retMs (L := [_]) (fun a ha w hw => res2 rfl rfl rfl a ha w) (fun w hw => ⟨_, I2, [], rfl, hIc, hw.drop, by unfold cflF; rw [sgn_bad he]; exact ResC.empty (resF_bad he)⟩)
      | exact at_retMs (L := [_]) (fun a ha w hw => res2 rfl rfl rfl a ha w) (fun w hw => ⟨_, I2, [], rfl, hIc, hw.drop, by unfold cflF; rw [sgn_ok he]; exact ResC.empty (resF_bad hx2)⟩)
      | exact at_retMs (L := _ :: L) (fun a ha w hw => res2 rfl rfl rfl a ha w) (fun w hw => by obtain ⟨I9, h91, h92, h93⟩ := OwnS.res hO encC_len (by decide) (hw.subL (.drop .refl)); obtain ⟨_, a9, c9, e9, h94⟩ := h93; subst e9; exact ⟨_, I9, [], rfl, hIc.trans h91, h92, rfl, cs, a9, c9, by rw [sgn_ok he, hx2], ⟨h94, fun z hz => (hcs.1 z hz).mono h91⟩, by unfold cflF; rw [sgn_ok he, resF_ok hx2]; exact hcs.2⟩)
    · skip
      have hx2 : exE (onF ps) (verL ps ws) (allG bs (verL ps ws)) = 0 := by simpa using hc32
      refine X_skip ?_
      refine at_then ?_
      refine X_seq ?_
      refine X_seq ?_
      refine X_dropTo ((b_8, .cells #[.map (some r1), .map (some r2), .map (some r3), .slice a9 n9 c9] 85 (0, 0)) :: ([] ++ MB _)) .refl ?_
      refine X_region ?_
      refine XO_v0 (ev_fieldAddr rfl fld_85_3) rfl rfl rfl ?_
      refine XO_v0 (ev_load rfl sct_33 (fun hg => by first | exact Cell.h0 rfl | exact Cell.h1 rfl | exact Cell.h2 rfl | exact Cell.h3 rfl | exact Cell.h4 rfl | exact Cell.h5 rfl | (repeat (first | exact Cell.here rfl | apply Cell.there | apply Cell.app)))) rfl rfl rfl ?_
      refine XO_v0 (ev_lenS rfl slt_33) rfl rfl rfl ?_
      refine XO_v0 (ev_move rfl) rfl rfl rfl ?_
      refine XO_nil ?_
      refine at_then ?_
      refine X_block ?_
      refine X_loopM [(8, _), (35, _), (36, _)] (.cons rfl (.cons rfl (.cons rfl .nil))) (fun T L0 mz ms E I' loc' => ∃ (j : Nat) (v : Value) (q : Nat) (cs : List Cf) (L : Go.Kn.Loc), mz = n9 - j ∧ E = (6, v) :: (37, .int .i64 j) :: T ∧ HLe I2 I' ∧ (b_8, .cells #[.map (some r1), .map (some r2), .map (some r3), .slice a9 n9 c9] 85 (0, 0)) :: (L ++ MB ms) = loc' ∧ j ≤ n9 ∧ OwnS 60 3 v q (cs.flatMap encC) L ∧ q ≤ j * 10 ∧ CsQ I' cs (((allG bs (verL ps ws)).take j).flatMap (fun x => cfS (onF ps) (verL ps ws) x.id))) _ _ _ _ ⟨0, _, 0, [], [], rfl, rfl, HLe.refl _, rfl, Nat.zero_le _, OwnS.nil, Nat.zero_le _, CsQ.nil⟩ (.cons rfl (.cons rfl (.cons rfl (.cons rfl (.cons rfl .nil))))) (HLe.refl _) rfl ?_
      rintro mz ms E J3 loc' ⟨j, v, q, cs, L, rfl, rfl, hJ, rfl, hj, hO, hq, hcs⟩
      have hx := hx.mono hJ
      have hIc := hIc.trans hJ
      have hB0 := hJ
      refine X_seq ?_
      refine X_region ?_
      refine XO_v0 (ev_cmp rfl rfl rfl) rfl rfl rfl ?_
      refine XO_nil ?_
      refine at_then ?_
      refine X_seq ?_
      refine X_cond rfl (fun hc38 => ?_) (fun hc38 => ?_)
      · skip
        have hlt_j : j < n9 := by have h := hc38; simp at h; omega
        have hS := hx.sg
        obtain ⟨x, hxx⟩ := hS.at hlt_j
        refine X_skip ?_
        refine at_then ?_
        refine X_seq ?_
        refine X_block ?_
        refine X_seq ?_
        refine X_region ?_
        refine XO_v0 (ev_indexSl rfl rfl slt_33 (by assumption) (fun hg => by first | omega | (simp [conj] at hg; omega))) rfl rfl rfl ?_
        refine XO_v0 (ev_loadA rfl agt_45 (fun hg => by first | exact Sl.getA hS hxx | exact Cells.g0 | exact Cells.g1 | exact Cells.g2 | exact Cells.g3 | exact Cells.g4 | exact Cells.g5 | exact Cells.s0 (vs := [_, _, _, _, _, _, _, _, _, _, _, _, _, _]) rfl | exact Cells.s1 (vs := [_, _, _, _, _, _, _, _, _, _, _, _, _, _]) rfl | exact Cells.s2 (vs := [_, _, _, _, _, _, _, _, _, _, _, _, _, _]) rfl | exact Cells.s3 (vs := [_, _, _, _, _, _, _, _, _, _, _, _, _, _]) rfl | exact Cells.s4 (vs := [_, _, _, _, _, _, _, _, _, _, _, _, _, _]) rfl | exact Cells.s5 (vs := [_, _, _, _, _, _, _, _, _, _, _, _, _, _]) rfl | (repeat (first | exact Cells.here | apply Cells.there | apply Cells.app))) rfl) rfl rfl rfl ?_
        refine XO_alloc zt_45 rfl rfl (fun b_10 => ?_)
        refine XO_storeA rfl rfl szt_45 rfl rfl rfl rfl (by first | exact Upd.u0 | exact Upd.u1 | exact Upd.u2 | exact Upd.u3 | exact Upd.u4 | exact Upd.u5 | (repeat (first | exact Upd.here | apply Upd.there | apply upd_app))) ?_
        refine XO_nil ?_
        refine at_then ?_
        refine X_cutM [(8, _), (10, _), (35, _), (36, _), (37, _)] (.cons rfl (.cons rfl (.cons rfl (.cons rfl (.cons rfl .nil))))) (fun T L0 ms E I' loc' => ∃ (v : Value) (q : Nat) (cs : List Cf) (L : Go.Kn.Loc), E = (6, v) :: T ∧ HLe J3 I' ∧ (b_10, .cells (encG x).toArray 45 (0, 0)) :: (b_8, .cells #[.map (some r1), .map (some r2), .map (some r3), .slice a9 n9 c9] 85 (0, 0)) :: (L ++ MB ms) = loc' ∧ OwnS 60 3 v q (cs.flatMap encC) L ∧ q ≤ j * 10 + 1 ∧ CsQ I' cs (((allG bs (verL ps ws)).take j).flatMap (fun x => cfS (onF ps) (verL ps ws) x.id) ++ cf0 (onF ps) (verL ps ws) x.id)) ?_ ?_
        · skip
          have hKc10 := HLe.refl J3
          refine X_seq ?_
          refine X_region ?_
          refine XO_v0 (ev_loadA rfl agt_85 (fun hg => by first | exact Sl.getA hS hxx | exact Cells.g0 | exact Cells.g1 | exact Cells.g2 | exact Cells.g3 | exact Cells.g4 | exact Cells.g5 | exact Cells.s0 (vs := [_, _, _, _]) rfl | exact Cells.s1 (vs := [_, _, _, _]) rfl | exact Cells.s2 (vs := [_, _, _, _]) rfl | exact Cells.s3 (vs := [_, _, _, _]) rfl | exact Cells.s4 (vs := [_, _, _, _]) rfl | exact Cells.s5 (vs := [_, _, _, _]) rfl | (repeat (first | exact Cells.here | apply Cells.there | apply Cells.app))) rfl) rfl rfl rfl ?_
          refine XO_v0 (ev_fieldAddr rfl fld_45_0) rfl rfl rfl ?_
          refine XO_v0 (ev_load rfl sct_3 (fun hg => by first | exact Cell.h0 rfl | exact Cell.h1 rfl | exact Cell.h2 rfl | exact Cell.h3 rfl | exact Cell.h4 rfl | exact Cell.h5 rfl | (repeat (first | exact Cell.here rfl | apply Cell.there | apply Cell.app)))) rfl rfl rfl ?_
          refine XO_callM (cap := []) (vs := [_, _]) rfl rfl fun_49 .nil (w_unseen hx x.id) rfl rfl ?_
          rintro vv4 I4 L4 hI4 ⟨rfl, avk, ck, rfl, hk0⟩
          have hx := hx.mono hI4
          have hcs := hcs.mono hI4
          have hIc := hIc.trans hI4
          have hB0 := hB0.trans hI4
          have hKc10 := hKc10.trans hI4
          refine XO_v0 (ev_assign rfl) rfl rfl rfl ?_
          refine XO_nil ?_
          refine at_then ?_
          refine X_seq ?_
          refine X_region ?_
          refine XO_v0 (ev_move rfl) rfl rfl rfl ?_
          refine XO_v0 (ev_lenS rfl slt_23) rfl rfl rfl ?_
          refine XO_v0 (ev_cmp rfl rfl rfl) rfl rfl rfl ?_
          refine XO_nil ?_
          refine at_then ?_
          refine X_cond rfl (fun hc47 => ?_) (fun hc47 => ?_)
          · skip
            obtain ⟨mr, hmr, hrem⟩ := hx.rem
            obtain ⟨av3, c3, hv3, hS3⟩ := hrem x.id
            have hkl := un_len (on := onF ps) (s := x.id) hx.fewl
            have hrl := Nat.le_trans (rm_len (l := (verL ps ws)) (s := x.id)) hx.fewl
            have hD := HLe.refl I4
            refine X_noP ?_
            refine X_drawS I4 [(b_10, .cells (encG x).toArray 45 (0, 0)), (b_8, .cells #[.map (some r1), .map (some r2), .map (some r3), .slice a9 n9 c9] 85 (0, 0))] mixed ?_
            refine XD_take 0 rfl (ev_move rfl) (.none rfl) rfl rfl rfl (by kernel_rfl) (by kernel_rfl) (by kernel_rfl) noP_ok hD (by repeat (first | exact .refl | exact subL_nil | refine .keep ?_ | refine .drop ?_ | refine subL_add ?_)) ?_
            refine XD_take 1 rfl (ev_fieldAddr rfl fld_45_0) (.none rfl) rfl rfl rfl (by kernel_rfl) (by kernel_rfl) (by kernel_rfl) noP_ok hD (by repeat (first | exact .refl | exact subL_nil | refine .keep ?_ | refine .drop ?_ | refine subL_add ?_)) ?_
            refine XD_take 2 rfl (ev_load rfl sct_3 (fun hg => by first | exact Cell.h0 rfl | exact Cell.h1 rfl | exact Cell.h2 rfl | exact Cell.h3 rfl | exact Cell.h4 rfl | exact Cell.h5 rfl | (repeat (first | exact Cell.here rfl | apply Cell.there | apply Cell.app)))) (.none rfl) rfl rfl rfl (by kernel_rfl) (by kernel_rfl) (by kernel_rfl) noP_ok hD (by repeat (first | exact .refl | exact subL_nil | refine .keep ?_ | refine .drop ?_ | refine subL_add ?_)) ?_
            refine XD_take 3 rfl (ev_move rfl) (.none rfl) rfl rfl rfl (by kernel_rfl) (by kernel_rfl) (by kernel_rfl) noP_ok hD (by repeat (first | exact .refl | exact subL_nil | refine .keep ?_ | refine .drop ?_ | refine subL_add ?_)) ?_
            refine XD_take 4 rfl (ev_fieldAddr rfl fld_85_2) (.none rfl) rfl rfl rfl (by kernel_rfl) (by kernel_rfl) (by kernel_rfl) noP_ok hD (by repeat (first | exact .refl | exact subL_nil | refine .keep ?_ | refine .drop ?_ | refine subL_add ?_)) ?_
            refine XD_take 5 rfl (ev_load rfl sct_77 (fun hg => by first | exact Cell.h0 rfl | exact Cell.h1 rfl | exact Cell.h2 rfl | exact Cell.h3 rfl | exact Cell.h4 rfl | exact Cell.h5 rfl | (repeat (first | exact Cell.here rfl | apply Cell.there | apply Cell.app)))) (.none rfl) rfl rfl rfl (by kernel_rfl) (by kernel_rfl) (by kernel_rfl) noP_ok hD (by repeat (first | exact .refl | exact subL_nil | refine .keep ?_ | refine .drop ?_ | refine subL_add ?_)) ?_
            refine XD_take 6 rfl (ev_fieldAddr rfl fld_45_0) (.none rfl) rfl rfl rfl (by kernel_rfl) (by kernel_rfl) (by kernel_rfl) noP_ok hD (by repeat (first | exact .refl | exact subL_nil | refine .keep ?_ | refine .drop ?_ | refine subL_add ?_)) ?_
            refine XD_take 7 rfl (ev_load rfl sct_3 (fun hg => by first | exact Cell.h0 rfl | exact Cell.h1 rfl | exact Cell.h2 rfl | exact Cell.h3 rfl | exact Cell.h4 rfl | exact Cell.h5 rfl | (repeat (first | exact Cell.here rfl | apply Cell.there | apply Cell.app)))) (.none rfl) rfl rfl rfl (by kernel_rfl) (by kernel_rfl) (by kernel_rfl) noP_ok hD (by repeat (first | exact .refl | exact subL_nil | refine .keep ?_ | refine .drop ?_ | refine subL_add ?_)) ?_
            refine XD_take 8 rfl (ev_lookupTE (m := mr) (ek := Value.int .i64) (a := x.id) hv3 mpt_77 key_3 rfl rfl (fun _ => .inl hmr)) (.none rfl) rfl rfl rfl (by kernel_rfl) (by kernel_rfl) (by kernel_rfl) noP_ok hD (by repeat (first | exact .refl | exact subL_nil | refine .keep ?_ | refine .drop ?_ | refine subL_add ?_)) ?_
            refine XD_one 9 rfl (by kernel_rfl) ?_
            refine XO_callM (cap := []) (vs := [_, _]) rfl rfl fun_33 .nil (w_union hk0 (by omega) hS3 (by omega)) rfl rfl ?_
            rintro vv5 I5 L5 hI5 ⟨rfl, avu, cu, rfl, hU⟩
            have hx := hx.mono hI5
            have hcs := hcs.mono hI5
            have hk0 := hk0.mono hI5
            have hIc := hIc.trans hI5
            have hB0 := hB0.trans hI5
            have hKc10 := hKc10.trans hI5
            have hD := hD.trans hI5
            refine XO_nil ?_
            refine at_D hD (by repeat (first | exact .refl | exact subL_nil | refine .keep ?_ | refine .drop ?_ | refine subL_add ?_)) ?_
            refine XD_take 10 rfl (ev_buildL (ps := [(0, _), (2, _)]) [_, _, _] plt_60 rfl rfl) (.none rfl) rfl rfl rfl (by kernel_rfl) (by kernel_rfl) (by kernel_rfl) noP_ok hD (by repeat (first | exact .refl | exact subL_nil | refine .keep ?_ | refine .drop ?_ | refine subL_add ?_)) ?_
            refine XD_one 11 rfl (by kernel_rfl) ?_
            refine XO_buildSlice (ps := [(0, _)]) (m := [encC (⟨x.id, 0, avu, (Lib.compact (sortI (unK (onF ps) (verL ps ws) x.id 9 ++ rmF (verL ps ws) x.id))).length, cu, (Lib.compact (sortI (unK (onF ps) (verL ps ws) x.id 9 ++ rmF (verL ps ws) x.id)))⟩ : Cf)]) elt_36 rfl (.cons rfl (.nil)) rfl (by simp [encC_len, encI_len]) (by decide) (by decide) rfl rfl (fun b_59 => ?_)
            refine XO_nil ?_
            refine at_D hD (by repeat (first | exact .refl | exact subL_nil | refine .keep ?_ | refine .drop ?_ | refine subL_add ?_)) ?_
            refine XD_one 12 rfl (by kernel_rfl) ?_
            refine XO_append (v := _) (ys := [(⟨x.id, 0, avu, (Lib.compact (sortI (unK (onF ps) (verL ps ws) x.id 9 ++ rmF (verL ps ws) x.id))).length, cu, (Lib.compact (sortI (unK (onF ps) (verL ps ws) x.id 9 ++ rmF (verL ps ws) x.id)))⟩ : Cf)].flatMap encC) (L := L) rfl rfl elt_36 hO (by repeat (first | exact .cons .here .nil | exact split_all | exact split_app | apply split_cons | apply split_skip)) ⟨rfl, fun _ => rfl, Cells.here⟩ (one_C [(⟨x.id, 0, avu, (Lib.compact (sortI (unK (onF ps) (verL ps ws) x.id 9 ++ rmF (verL ps ws) x.id))).length, cu, (Lib.compact (sortI (unK (onF ps) (verL ps ws) x.id 9 ++ rmF (verL ps ws) x.id)))⟩ : Cf)]) (by omega) rfl rfl ?_
            intro v9 L9 hO9 _; rw [← List.flatMap_append] at hO9
            refine XO_nil ?_
            refine at_D hD (by repeat (first | exact .refl | exact subL_nil | refine .keep ?_ | refine .drop ?_ | refine subL_add ?_)) ?_
            refine XD_take 13 rfl (ev_assign rfl) (.none rfl) rfl rfl rfl (by kernel_rfl) (by kernel_rfl) (by kernel_rfl) noP_ok hD (by repeat (first | exact .refl | exact subL_nil | refine .keep ?_ | refine .drop ?_ | refine subL_add ?_)) ?_
            refine XD_done (by kernel_rfl) ?_
            refine at_noP ?_
            first
            | exact at_metM rfl rfl rfl _ _ ⟨_, _, _, _, rfl, hKc10, rfl, hO, by omega, hcs.congr (by rw [cf0_no hok hc47, List.append_nil])⟩ (.cons rfl (.cons rfl (.cons rfl (.cons rfl (.cons rfl (.cons rfl .nil)))))) (by repeat (first | exact .refl | exact subL_left | refine subL_app ?_ | refine .drop ?_ | refine subL_add ?_))
            | exact at_metMP rfl rfl rfl _ _ (L9 ++ ((b_10, _) :: (b_8, _) :: MB _)) ⟨v9, _, _, L9, rfl, hKc10, rfl, hO9, by omega, (hcs.snoc (z := (⟨x.id, 0, avu, (Lib.compact (sortI (unK (onF ps) (verL ps ws) x.id 9 ++ rmF (verL ps ws) x.id))).length, cu, (Lib.compact (sortI (unK (onF ps) (verL ps ws) x.id 9 ++ rmF (verL ps ws) x.id)))⟩ : Cf)) hU).congr (by rw [cf0_yes hL hok hc47]; rfl)⟩ (.cons rfl (.cons rfl (.cons rfl (.cons rfl (.cons rfl (.cons rfl .nil)))))) perm_two (by repeat (first | exact .refl | exact subL_left | refine subL_app ?_ | refine .drop ?_ | refine subL_add ?_))
          · skip
            refine X_skip ?_
            first
            | exact at_metM rfl rfl rfl _ _ ⟨_, _, _, _, rfl, hKc10, rfl, hO, by omega, hcs.congr (by rw [cf0_no hok hc47, List.append_nil])⟩ (.cons rfl (.cons rfl (.cons rfl (.cons rfl (.cons rfl (.cons rfl .nil)))))) (by repeat (first | exact .refl | exact subL_left | refine subL_app ?_ | refine .drop ?_ | refine subL_add ?_))
            | exact at_metMP rfl rfl rfl _ _ (L9 ++ ((b_10, _) :: (b_8, _) :: MB _)) ⟨v9, _, _, L9, rfl, hKc10, rfl, hO9, by omega, (hcs.snoc (z := (⟨x.id, 0, avu, (Lib.compact (sortI (unK (onF ps) (verL ps ws) x.id 9 ++ rmF (verL ps ws) x.id))).length, cu, (Lib.compact (sortI (unK (onF ps) (verL ps ws) x.id 9 ++ rmF (verL ps ws) x.id)))⟩ : Cf)) hU).congr (by rw [cf0_yes hL hok hc47]; rfl)⟩ (.cons rfl (.cons rfl (.cons rfl (.cons rfl (.cons rfl (.cons rfl .nil)))))) perm_two (by repeat (first | exact .refl | exact subL_left | refine subL_app ?_ | refine .drop ?_ | refine subL_add ?_))
        · rintro ms E J6 loc' ⟨v, q, cs, L, rfl, hJc, rfl, hO, hq, hcs1⟩
          have hx := hx.mono hJc
          have hcs := hcs.mono hJc
          have hIc := hIc.trans hJc
          have hB0 := hB0.trans hJc
          refine X_seq ?_
          refine X_region ?_
          refine XO_v0 (ev_assign rfl) rfl rfl rfl ?_
          refine XO_nil ?_
          refine at_then ?_
          refine X_block ?_
          refine X_loopM [(8, _), (10, _), (35, _), (36, _), (37, _)] (.cons rfl (.cons rfl (.cons rfl (.cons rfl (.cons rfl .nil))))) (fun T L0 mz ms E I' loc' => ∃ (k : Nat) (v : Value) (q : Nat) (cs : List Cf) (L : Go.Kn.Loc), mz = 9 - k ∧ E = (6, v) :: (12, .int .i64 ((k : Int) + 1)) :: T ∧ HLe J6 I' ∧ (b_10, .cells (encG x).toArray 45 (0, 0)) :: (b_8, .cells #[.map (some r1), .map (some r2), .map (some r3), .slice a9 n9 c9] 85 (0, 0)) :: (L ++ MB ms) = loc' ∧ k ≤ 9 ∧ OwnS 60 3 v q (cs.flatMap encC) L ∧ q ≤ j * 10 + 1 + k ∧ CsQ I' cs ((((allG bs (verL ps ws)).take j).flatMap (fun x => cfS (onF ps) (verL ps ws) x.id) ++ cf0 (onF ps) (verL ps ws) x.id) ++ cfR (onF ps) (verL ps ws) x.id k)) _ _ _ _ ⟨0, v, q, cs, L, rfl, rfl, HLe.refl _, rfl, Nat.zero_le _, hO, hq, hcs1.congr (by rw [show cfR (onF ps) (verL ps ws) x.id 0 = [] from rfl, List.append_nil])⟩ (.cons rfl (.cons rfl (.cons rfl (.cons rfl (.cons rfl (.cons rfl (.cons rfl .nil))))))) (HLe.refl _) rfl ?_
          rintro mz ms E J7 loc' ⟨k, v, q, cs, L, rfl, rfl, hJ, rfl, hk, hO, hq, hcs2⟩
          have hx := hx.mono hJ
          have hcs := hcs.mono hJ
          have hcs1 := hcs1.mono hJ
          have hIc := hIc.trans hJ
          have hB0 := hB0.trans hJ
          have hB2 := hJ
          refine X_seq ?_
          refine X_seq ?_
          refine X_region ?_
          refine XO_v0 (ev_move rfl) rfl rfl rfl ?_
          refine XO_v0 (ev_cmp rfl rfl rfl) rfl rfl rfl ?_
          refine XO_v0 (ev_move rfl) rfl rfl rfl ?_
          refine XO_pushT 2 rfl rfl rfl ?_
          refine XO_v1 (ev_loadA rfl agt_85 (fun hg => by first | exact Sl.getA hS hxx | exact Cells.g0 | exact Cells.g1 | exact Cells.g2 | exact Cells.g3 | exact Cells.g4 | exact Cells.g5 | exact Cells.s0 (vs := [_, _, _, _]) rfl | exact Cells.s1 (vs := [_, _, _, _]) rfl | exact Cells.s2 (vs := [_, _, _, _]) rfl | exact Cells.s3 (vs := [_, _, _, _]) rfl | exact Cells.s4 (vs := [_, _, _, _]) rfl | exact Cells.s5 (vs := [_, _, _, _]) rfl | (repeat (first | exact Cells.here | apply Cells.there | apply Cells.app))) rfl) (.some rfl rfl rfl rfl gbt) rfl rfl rfl ?_
          refine XO_v1 (ev_fieldAddr rfl fld_45_0) (.some rfl rfl rfl rfl gbt) rfl rfl rfl ?_
          refine XO_v1 (ev_load rfl sct_3 (fun hg => by first | exact Cell.h0 rfl | exact Cell.h1 rfl | exact Cell.h2 rfl | exact Cell.h3 rfl | exact Cell.h4 rfl | exact Cell.h5 rfl | (repeat (first | exact Cell.here rfl | apply Cell.there | apply Cell.app)))) (.some rfl rfl rfl rfl gbt) rfl rfl rfl ?_
          refine XO_callV1 (cap := []) (vs := [_, _]) rfl rfl fun_50 (fun hg => w_exists hx hok _) (.some rfl rfl rfl rfl gbt) rfl rfl ?_
          refine XO_and0 rfl rfl rfl rfl rfl ?_
          refine XO_nil ?_
          refine at_then ?_
          refine X_cond rfl (fun hc68 => ?_) (fun hc68 => ?_)
          · skip
            have hex := ((Bool.and_eq_true _ _).mp hc68).2
            have hlt_k : k < 9 := by have h := ((Bool.and_eq_true _ _).mp hc68).1; simp at h; omega
            refine X_skip ?_
            refine at_then ?_
            refine X_seq ?_
            refine X_block ?_
            refine X_seq ?_
            refine X_region ?_
            refine XO_makeMap rfl rfl (fun r_71 => ?_)
            refine XO_alloc zt_94 rfl rfl (fun b_13 => ?_)
            refine XO_alloc zt_23 rfl rfl (fun b_14 => ?_)
            refine XO_store rfl rfl szt_94 rfl rfl (by first | exact Upd.u0 | exact Upd.u1 | exact Upd.u2 | exact Upd.u3 | exact Upd.u4 | exact Upd.u5 | (repeat (first | exact Upd.here | apply Upd.there | apply upd_app))) rfl ?_
            refine XO_store rfl rfl szt_23 rfl rfl (by first | exact Upd.u0 | exact Upd.u1 | exact Upd.u2 | exact Upd.u3 | exact Upd.u4 | exact Upd.u5 | (repeat (first | exact Upd.here | apply Upd.there | apply upd_app))) rfl ?_
            refine XO_nil ?_
            refine at_then ?_
            refine X_seq ?_
            refine X_seq ?_
            refine X_region ?_
            refine XO_v0 (ev_loadA rfl agt_85 (fun hg => by first | exact Sl.getA hS hxx | exact Cells.g0 | exact Cells.g1 | exact Cells.g2 | exact Cells.g3 | exact Cells.g4 | exact Cells.g5 | exact Cells.s0 (vs := [_, _, _, _]) rfl | exact Cells.s1 (vs := [_, _, _, _]) rfl | exact Cells.s2 (vs := [_, _, _, _]) rfl | exact Cells.s3 (vs := [_, _, _, _]) rfl | exact Cells.s4 (vs := [_, _, _, _]) rfl | exact Cells.s5 (vs := [_, _, _, _]) rfl | (repeat (first | exact Cells.here | apply Cells.there | apply Cells.app))) rfl) rfl rfl rfl ?_
            refine XO_v0 (ev_fieldAddr rfl fld_45_0) rfl rfl rfl ?_
            refine XO_v0 (ev_load rfl sct_3 (fun hg => by first | exact Cell.h0 rfl | exact Cell.h1 rfl | exact Cell.h2 rfl | exact Cell.h3 rfl | exact Cell.h4 rfl | exact Cell.h5 rfl | (repeat (first | exact Cell.here rfl | apply Cell.there | apply Cell.app)))) rfl rfl rfl ?_
            refine XO_v0 (ev_move rfl) rfl rfl rfl ?_
            refine XO_callM (cap := []) (vs := [_, _, _]) rfl rfl fun_51 .nil (w_latest _ _ _ _ _ _ _ _ _) rfl rfl ?_
            rintro vv8 I8 L8 hI8 ⟨rfl, c1, c2, c3, rfl, hcap⟩
            have hx := hx.mono hI8
            have hcs := hcs.mono hI8
            have hcs1 := hcs1.mono hI8
            have hcs2 := hcs2.mono hI8
            have hIc := hIc.trans hI8
            have hB0 := hB0.trans hI8
            have hB2 := hB2.trans hI8
            refine XO_nil ?_
            refine at_then ?_
            refine X_block ?_
            refine X_rangeFuncM (K := []) (L := [] ++ ((b_14, .cells #[.slice none 0 0] 23 (0, 0)) :: (b_13, .cells #[.map (some r_71)] 94 (0, 0)) :: (r_71, mapO encGA Value.bool []) :: (b_10, .cells (encG x).toArray 45 (0, 0)) :: (b_8, .cells #[.map (some r1), .map (some r2), .map (some r3), .slice a9 n9 c9] 85 (0, 0)) :: L)) (enc := encPA) (xs := (latF (onF ps) (verL ps ws) x.id ((k : Int) + 1))) (fun pre I' loc' => ∃ (m9 : List (Sg × Bool)) (v9 : Value) (q9 : Nat) (L9 : Go.Kn.Loc), MvQ m9 pre ∧ OwnS 3 1 v9 q9 ((pre.map (·.id)).flatMap encI) L9 ∧ loc' = L9 ++ ((b_14, .cells #[v9] 23 (0, 0)) :: (b_13, .cells #[.map (some r_71)] 94 (0, 0)) :: (r_71, mapO encGA Value.bool m9) :: (b_10, .cells (encG x).toArray 45 (0, 0)) :: (b_8, .cells #[.map (some r1), .map (some r2), .map (some r3), .slice a9 n9 c9] 85 (0, 0)) :: L)) (fun _ _ _ _ => False) (fun pre p E2 I2 loc2 => ∃ (b15 : Nat) (m9 : List (Sg × Bool)) (v9 : Value) (q9 : Nat) (L9 : Go.Kn.Loc), E2 = [(13, capP b_13), (14, capP b_14), (15, capP b15)] ∧ MvQ m9 pre ∧ OwnS 3 1 v9 q9 ((pre.map (·.id)).flatMap encI) L9 ∧ loc2 = (b15, .cells (encP p).toArray 53 (0, 0)) :: (L9 ++ ((b_14, .cells #[v9] 23 (0, 0)) :: (b_13, .cells #[.map (some r_71)] 94 (0, 0)) :: (r_71, mapO encGA Value.bool m9) :: (b_10, .cells (encG x).toArray 45 (0, 0)) :: (b_8, .cells #[.map (some r1), .map (some r2), .map (some r3), .slice a9 n9 c9] 85 (0, 0)) :: L))) rfl fun_88 (w_latit hx hcap) rfl ⟨[], _, 0, [], MvQ.nil, OwnS.nil, rfl⟩ ?_ ?_ ?_ ?_
            · rintro l9 pre p I1 loc1 H1 hpre hI1 ⟨m9, v9, q9, L9, hmv, hO9, rfl⟩
              refine X_region ?_
              refine XO_alloc zt_53 rfl rfl (fun b_15 => ?_)
              refine XO_storeA rfl rfl szt_53 rfl rfl rfl rfl (by first | exact Upd.u0 | exact Upd.u1 | exact Upd.u2 | exact Upd.u3 | exact Upd.u4 | exact Upd.u5 | (repeat (first | exact Upd.here | apply Upd.there | apply upd_app))) ?_
              refine XO_nil ?_
              exact at_met' _ ⟨HLe.refl _, b_15, m9, v9, q9, L9, rfl, hmv, hO9, rfl⟩ (.cons rfl (.cons rfl (.cons rfl .nil)))
            · rintro l9 pre p E2 I2 loc2 H2 hpre hI2 ⟨b15, m9, v9, q9, L9, rfl, hmv, hO9, rfl⟩
              have hql := lat_bound hpre hO9 hx.fewl
              refine X_block ?_
              have hD := HLe.refl I2
              refine X_noP ?_
              refine X_drawS I2 [(b15, .cells (encP p).toArray 53 (0, 0)), (b_13, .cells #[.map (some r_71)] 94 (0, 0))] mixed ?_
              refine XD_take 0 rfl (ev_load rfl sct_94 (fun hg => by first | exact Cell.h0 rfl | exact Cell.h1 rfl | exact Cell.h2 rfl | exact Cell.h3 rfl | exact Cell.h4 rfl | exact Cell.h5 rfl | (repeat (first | exact Cell.here rfl | apply Cell.there | apply Cell.app)))) (.none rfl) rfl rfl rfl (by kernel_rfl) (by kernel_rfl) (by kernel_rfl) noP_ok hD (by repeat (first | exact .refl | exact subL_nil | refine .keep ?_ | refine .drop ?_ | refine subL_add ?_)) ?_
              refine XD_take 1 rfl (ev_fieldAddr rfl fld_53_4) (.none rfl) rfl rfl rfl (by kernel_rfl) (by kernel_rfl) (by kernel_rfl) noP_ok hD (by repeat (first | exact .refl | exact subL_nil | refine .keep ?_ | refine .drop ?_ | refine subL_add ?_)) ?_
              refine XD_take 2 rfl (ev_loadA rfl agt_45 (fun hg => by first | exact Sl.getA hS hxx | exact Cells.g0 | exact Cells.g1 | exact Cells.g2 | exact Cells.g3 | exact Cells.g4 | exact Cells.g5 | exact Cells.s0 (vs := [_, _, _, _, _, _, _, _, _, _, _, _, _, _]) rfl | exact Cells.s1 (vs := [_, _, _, _, _, _, _, _, _, _, _, _, _, _]) rfl | exact Cells.s2 (vs := [_, _, _, _, _, _, _, _, _, _, _, _, _, _]) rfl | exact Cells.s3 (vs := [_, _, _, _, _, _, _, _, _, _, _, _, _, _]) rfl | exact Cells.s4 (vs := [_, _, _, _, _, _, _, _, _, _, _, _, _, _]) rfl | exact Cells.s5 (vs := [_, _, _, _, _, _, _, _, _, _, _, _, _, _]) rfl | (repeat (first | exact Cells.here | apply Cells.there | apply Cells.app))) rfl) (.none rfl) rfl rfl rfl (by kernel_rfl) (by kernel_rfl) (by kernel_rfl) noP_ok hD (by repeat (first | exact .refl | exact subL_nil | refine .keep ?_ | refine .drop ?_ | refine subL_add ?_)) ?_
              refine XD_take 4 rfl (ev_fieldAddr rfl fld_53_0) (.none rfl) rfl rfl rfl (by kernel_rfl) (by kernel_rfl) (by kernel_rfl) noP_ok hD (by repeat (first | exact .refl | exact subL_nil | refine .keep ?_ | refine .drop ?_ | refine subL_add ?_)) ?_
              refine XD_take 5 rfl (ev_load rfl sct_3 (fun hg => by first | exact Cell.h0 rfl | exact Cell.h1 rfl | exact Cell.h2 rfl | exact Cell.h3 rfl | exact Cell.h4 rfl | exact Cell.h5 rfl | (repeat (first | exact Cell.here rfl | apply Cell.there | apply Cell.app)))) (.none rfl) rfl rfl rfl (by kernel_rfl) (by kernel_rfl) (by kernel_rfl) noP_ok hD (by repeat (first | exact .refl | exact subL_nil | refine .keep ?_ | refine .drop ?_ | refine subL_add ?_)) ?_
              refine XD_two 3 6 rfl rfl (by kernel_rfl) ?_ ?_
              · skip
                refine XO_v0 (ev_load rfl sct_23 (fun hg => by first | exact Cell.h0 rfl | exact Cell.h1 rfl | exact Cell.h2 rfl | exact Cell.h3 rfl | exact Cell.h4 rfl | exact Cell.h5 rfl | (repeat (first | exact Cell.here rfl | apply Cell.there | apply Cell.app)))) rfl rfl rfl ?_
                refine XO_nil ?_
                refine at_D hD (by repeat (first | exact .refl | exact subL_nil | refine .keep ?_ | refine .drop ?_ | refine subL_add ?_)) ?_
                refine XD_one 6 rfl (by kernel_rfl) ?_
                refine XO_buildSlice (ps := [(0, _)]) (m := [encI p.id]) elt_23 rfl (.cons rfl (.nil)) rfl (by simp [encC_len, encI_len]) (by decide) (by decide) rfl rfl (fun b_84 => ?_)
                refine XO_nil ?_
                refine at_D hD (by repeat (first | exact .refl | exact subL_nil | refine .keep ?_ | refine .drop ?_ | refine subL_add ?_)) ?_
                refine XD_one 7 rfl (by kernel_rfl) ?_
                refine XO_append (v := _) (ys := [p.id].flatMap encI) (L := L9) rfl rfl elt_23 hO9 (by repeat (first | exact .cons .here .nil | exact split_all | exact split_app | apply split_cons | apply split_skip)) ⟨rfl, fun _ => rfl, Cells.here⟩ (one_I [p.id]) (by omega) rfl rfl ?_
                intro v8 L8 hO8 _; obtain ⟨va8, vc8, rfl⟩ := valn hO8
                refine XO_nil ?_
                refine at_D hD (by repeat (first | exact .refl | exact subL_nil | refine .keep ?_ | refine .drop ?_ | refine subL_add ?_)) ?_
                refine XD_one 8 rfl (by kernel_rfl) ?_
                refine XO_mapUpdate (m := m9) (ek := encGA) (ev := Value.bool) (a := p.nw)  true mpt_94 key_45 rfl rfl rfl rfl (by first | exact Upd.u0 | exact Upd.u1 | exact Upd.u2 | exact Upd.u3 | exact Upd.u4 | exact Upd.u5 | (repeat (first | exact Upd.here | apply Upd.there | apply upd_app))) ?_
                refine XO_nil ?_
                refine at_D hD (by repeat (first | exact .refl | exact subL_nil | refine .keep ?_ | refine .drop ?_ | refine subL_add ?_)) ?_
                refine XD_one 9 rfl (by kernel_rfl) ?_
                refine XO_store rfl rfl szt_23 rfl rfl (by first | exact Upd.u0 | exact Upd.u1 | exact Upd.u2 | exact Upd.u3 | exact Upd.u4 | exact Upd.u5 | (repeat (first | exact Upd.here | apply Upd.there | apply upd_app))) rfl ?_
                refine XO_nil ?_
                refine at_D hD (by repeat (first | exact .refl | exact subL_nil | refine .keep ?_ | refine .drop ?_ | refine subL_add ?_)) ?_
                refine XD_done (by kernel_rfl) ?_
                refine at_noP ?_
                refine at_block_n ?_
                exact at_round2 ⟨HLe.refl _, mset m9 p.nw true, _, _, L8, hmv.put p, by rw [List.map_append, List.flatMap_append]; exact hO8, rfl⟩ (by repeat (first | exact .refl | refine subL_app ?_ | refine .drop ?_))
              · skip
                refine XO_buildSlice (ps := [(0, _)]) (m := [encI p.id]) elt_23 rfl (.cons rfl (.nil)) rfl (by simp [encC_len, encI_len]) (by decide) (by decide) rfl rfl (fun b_84 => ?_)
                refine XO_nil ?_
                refine at_D hD (by repeat (first | exact .refl | exact subL_nil | refine .keep ?_ | refine .drop ?_ | refine subL_add ?_)) ?_
                refine XD_one 3 rfl (by kernel_rfl) ?_
                refine XO_v0 (ev_load rfl sct_23 (fun hg => by first | exact Cell.h0 rfl | exact Cell.h1 rfl | exact Cell.h2 rfl | exact Cell.h3 rfl | exact Cell.h4 rfl | exact Cell.h5 rfl | (repeat (first | exact Cell.here rfl | apply Cell.there | apply Cell.app)))) rfl rfl rfl ?_
                refine XO_nil ?_
                refine at_D hD (by repeat (first | exact .refl | exact subL_nil | refine .keep ?_ | refine .drop ?_ | refine subL_add ?_)) ?_
                refine XD_one 7 rfl (by kernel_rfl) ?_
                refine XO_append (v := _) (ys := [p.id].flatMap encI) (L := L9) rfl rfl elt_23 hO9 (by repeat (first | exact .cons .here .nil | exact split_all | exact split_app | apply split_cons | apply split_skip)) ⟨rfl, fun _ => rfl, Cells.here⟩ (one_I [p.id]) (by omega) rfl rfl ?_
                intro v8 L8 hO8 _; obtain ⟨va8, vc8, rfl⟩ := valn hO8
                refine XO_nil ?_
                refine at_D hD (by repeat (first | exact .refl | exact subL_nil | refine .keep ?_ | refine .drop ?_ | refine subL_add ?_)) ?_
                refine XD_one 8 rfl (by kernel_rfl) ?_
                refine XO_mapUpdate (m := m9) (ek := encGA) (ev := Value.bool) (a := p.nw)  true mpt_94 key_45 rfl rfl rfl rfl (by first | exact Upd.u0 | exact Upd.u1 | exact Upd.u2 | exact Upd.u3 | exact Upd.u4 | exact Upd.u5 | (repeat (first | exact Upd.here | apply Upd.there | apply upd_app))) ?_
                refine XO_nil ?_
                refine at_D hD (by repeat (first | exact .refl | exact subL_nil | refine .keep ?_ | refine .drop ?_ | refine subL_add ?_)) ?_
                refine XD_one 9 rfl (by kernel_rfl) ?_
                refine XO_store rfl rfl szt_23 rfl rfl (by first | exact Upd.u0 | exact Upd.u1 | exact Upd.u2 | exact Upd.u3 | exact Upd.u4 | exact Upd.u5 | (repeat (first | exact Upd.here | apply Upd.there | apply upd_app))) rfl ?_
                refine XO_nil ?_
                refine at_D hD (by repeat (first | exact .refl | exact subL_nil | refine .keep ?_ | refine .drop ?_ | refine subL_add ?_)) ?_
                refine XD_done (by kernel_rfl) ?_
                refine at_noP ?_
                refine at_block_n ?_
                exact at_round2 ⟨HLe.refl _, mset m9 p.nw true, _, _, L8, hmv.put p, by rw [List.map_append, List.flatMap_append]; exact hO8, rfl⟩ (by repeat (first | exact .refl | refine subL_app ?_ | refine .drop ?_))
            · rintro bd I1 loc1 hI1 ⟨m9, v9, q9, L9, hmv, hO9, rfl⟩
              have hx := hx.mono hI1
              have hcs := hcs.mono hI1
              have hcs1 := hcs1.mono hI1
              have hcs2 := hcs2.mono hI1
              have hIc := hIc.trans hI1
              have hB0 := hB0.trans hI1
              have hB2 := hB2.trans hI1
              simp only [List.append_assoc, List.cons_append]
              refine at_block_n ?_
              refine at_then ?_
              refine X_seq ?_
              refine X_region ?_
              refine XO_v0 (ev_load rfl sct_94 (fun hg => by first | exact Cell.h0 rfl | exact Cell.h1 rfl | exact Cell.h2 rfl | exact Cell.h3 rfl | exact Cell.h4 rfl | exact Cell.h5 rfl | (repeat (first | exact Cell.here rfl | apply Cell.there | apply Cell.app)))) rfl rfl rfl ?_
              refine XO_v0 (ev_lenM (m := m9) (ek := encGA) (ev := Value.bool) rfl mpt_94 (fun _ => .inr (by simp))) rfl rfl rfl ?_
              refine XO_v0 (ev_cmp rfl rfl rfl) rfl rfl rfl ?_
              refine XO_nil ?_
              refine at_then ?_
              refine X_cond rfl (fun hc88 => ?_) (fun hc88 => ?_)
              · skip
                have hdf : difB (latF (onF ps) (verL ps ws) x.id ((k : Int) + 1)) = true := by rw [← dif_eq hmv]; exact hc88
                refine X_freezeO hO9 encI_len (by decide) (by repeat (first | exact .cons .here .nil | exact split_all | exact split_app | apply split_cons | apply split_skip)) (fun I9 hI9 afi cfi efi hIds => ?_)
                subst efi
                have hx := hx.mono hI9
                have hcs := hcs.mono hI9
                have hcs1 := hcs1.mono hI9
                have hcs2 := hcs2.mono hI9
                have hIc := hIc.trans hI9
                have hB0 := hB0.trans hI9
                have hB2 := hB2.trans hI9
                refine X_region ?_
                refine XO_v0 (ev_move rfl) rfl rfl rfl ?_
                refine XO_v0 (ev_fieldAddr rfl fld_45_0) rfl rfl rfl ?_
                refine XO_v0 (ev_load rfl sct_3 (fun hg => by first | exact Cell.h0 rfl | exact Cell.h1 rfl | exact Cell.h2 rfl | exact Cell.h3 rfl | exact Cell.h4 rfl | exact Cell.h5 rfl | (repeat (first | exact Cell.here rfl | apply Cell.there | apply Cell.app)))) rfl rfl rfl ?_
                refine XO_v0 (ev_move rfl) rfl rfl rfl ?_
                refine XO_v0 (ev_load rfl sct_23 (fun hg => by first | exact Cell.h0 rfl | exact Cell.h1 rfl | exact Cell.h2 rfl | exact Cell.h3 rfl | exact Cell.h4 rfl | exact Cell.h5 rfl | (repeat (first | exact Cell.here rfl | apply Cell.there | apply Cell.app)))) rfl rfl rfl ?_
                refine XO_v0 (ev_buildL (ps := [(0, _), (1, _), (2, _)]) [_, _, _] plt_60 rfl rfl) rfl rfl rfl ?_
                refine XO_buildSlice (ps := [(0, _)]) (m := [encC (⟨x.id, (k : Int) + 1, afi, q9, cfi, (latF (onF ps) (verL ps ws) x.id ((k : Int) + 1)).map (·.id)⟩ : Cf)]) elt_36 rfl (.cons rfl (.nil)) rfl (by simp [encC_len, encI_len]) (by decide) (by decide) rfl rfl (fun b_95 => ?_)
                refine XO_append (v := _) (ys := [(⟨x.id, (k : Int) + 1, afi, q9, cfi, (latF (onF ps) (verL ps ws) x.id ((k : Int) + 1)).map (·.id)⟩ : Cf)].flatMap encC) (L := L) rfl rfl elt_36 hO (by repeat (first | exact .cons .here .nil | exact split_all | exact split_app | apply split_cons | apply split_skip)) ⟨rfl, fun _ => rfl, Cells.here⟩ (one_C [(⟨x.id, (k : Int) + 1, afi, q9, cfi, (latF (onF ps) (verL ps ws) x.id ((k : Int) + 1)).map (·.id)⟩ : Cf)]) (by omega) rfl rfl ?_
                intro v7 L7 hO7 _; rw [← List.flatMap_append] at hO7
                refine XO_v0 (ev_assign rfl) rfl rfl rfl ?_
                refine XO_nil ?_
                refine at_block_n ?_
                refine at_then ?_
                refine X_region ?_
                refine XO_v0 (ev_move rfl) rfl rfl rfl ?_
                refine XO_v0 (ev_arB rfl rfl rfl (fun _ => by omega)) rfl rfl rfl ?_
                refine XO_v0 (ev_assign rfl) rfl rfl rfl ?_
                refine XO_nil ?_
                first
                | exact at_metM rfl rfl rfl _ _ ⟨9 - (k + 1), by omega, k + 1, _, _, _, _, rfl, rfl, hB2, rfl, by omega, hO, by omega, hcs2.congr (by rw [cfR_next, cfK_no hdf]; simp)⟩ (.cons rfl (.cons rfl (.cons rfl (.cons rfl (.cons rfl (.cons rfl (.cons rfl .nil))))))) (by repeat (first | exact .refl | exact subL_left | refine subL_app ?_ | refine .drop ?_ | refine subL_add ?_))
                | exact at_metMP rfl rfl rfl _ _ (L7 ++ ((b_10, _) :: (b_8, _) :: MB _)) ⟨9 - (k + 1), by omega, k + 1, v7, _, _, L7, rfl, rfl, hB2, rfl, by omega, hO7, by omega, (hcs2.snoc (z := (⟨x.id, (k : Int) + 1, afi, q9, cfi, (latF (onF ps) (verL ps ws) x.id ((k : Int) + 1)).map (·.id)⟩ : Cf)) hIds).congr (by rw [cfR_next, cfK_yes hex hdf]; simp only [List.append_assoc]; rfl)⟩ (.cons rfl (.cons rfl (.cons rfl (.cons rfl (.cons rfl (.cons rfl (.cons rfl .nil))))))) perm_two (by repeat (first | exact .refl | exact subL_left | refine subL_app ?_ | refine .drop ?_ | refine subL_add ?_))
              · skip
                have hdf : difB (latF (onF ps) (verL ps ws) x.id ((k : Int) + 1)) = false := by rw [← dif_eq hmv]; exact hc88
                refine X_skip ?_
                refine at_block_n ?_
                refine at_then ?_
                refine X_region ?_
                refine XO_v0 (ev_move rfl) rfl rfl rfl ?_
                refine XO_v0 (ev_arB rfl rfl rfl (fun _ => by omega)) rfl rfl rfl ?_
                refine XO_v0 (ev_assign rfl) rfl rfl rfl ?_
                refine XO_nil ?_
                first
                | exact at_metM rfl rfl rfl _ _ ⟨9 - (k + 1), by omega, k + 1, _, _, _, _, rfl, rfl, hB2, rfl, by omega, hO, by omega, hcs2.congr (by rw [cfR_next, cfK_no hdf]; simp)⟩ (.cons rfl (.cons rfl (.cons rfl (.cons rfl (.cons rfl (.cons rfl (.cons rfl .nil))))))) (by repeat (first | exact .refl | exact subL_left | refine subL_app ?_ | refine .drop ?_ | refine subL_add ?_))
                | exact at_metMP rfl rfl rfl _ _ (L7 ++ ((b_10, _) :: (b_8, _) :: MB _)) ⟨9 - (k + 1), by omega, k + 1, v7, _, _, L7, rfl, rfl, hB2, rfl, by omega, hO7, by omega, (hcs2.snoc (z := (⟨x.id, (k : Int) + 1, afi, q9, cfi, (latF (onF ps) (verL ps ws) x.id ((k : Int) + 1)).map (·.id)⟩ : Cf)) hIds).congr (by rw [cfR_next, cfK_yes hex hdf]; simp only [List.append_assoc]; rfl)⟩ (.cons rfl (.cons rfl (.cons rfl (.cons rfl (.cons rfl (.cons rfl (.cons rfl .nil))))))) perm_two (by repeat (first | exact .refl | exact subL_left | refine subL_app ?_ | refine .drop ?_ | refine subL_add ?_))
            · rintro cd bd pre I1 loc1 hI1 hpre hF; exact hF.elim
          · skip
            have hend := hc68
            refine X_exit ?_
            refine at_then_e ?_
            refine at_then_e ?_
            refine at_block_hit ?_
            refine at_block_n ?_
            refine at_then ?_
            refine X_region ?_
            refine XO_v0 (ev_arB rfl rfl rfl (fun _ => by omega)) rfl rfl rfl ?_
            refine XO_v0 (ev_move rfl) rfl rfl rfl ?_
            refine XO_nil ?_
            exact at_metM rfl rfl rfl _ _ ⟨n9 - (j + 1), by omega, j + 1, _, _, _, _, rfl, rfl, hB0, rfl, by omega, hO, by omega, hcs2.congr (by rw [pre_next hxx, ← cfS_end hk hend]; simp only [List.append_assoc])⟩ (.cons rfl (.cons rfl (.cons rfl (.cons rfl (.cons rfl .nil))))) (by repeat (first | exact .refl | exact subL_left | refine subL_app ?_ | refine .drop ?_ | refine subL_add ?_))
      · skip
        have hge_j : n9 ≤ j := by have h := hc38; simp at h; omega
        rw [List.take_of_length_le (by rw [hx.sg.len]; exact hge_j)] at hcs
        refine X_exit ?_
        refine at_then_e ?_
        refine at_then_e ?_
        refine at_block_hit ?_
        refine at_then ?_
        refine X_seq ?_
        refine X_region ?_
        refine XO_v0 (ev_move rfl) rfl rfl rfl ?_
        refine XO_v0 (ev_assign rfl) rfl rfl rfl ?_
        refine XO_v0 (ev_assign rfl) rfl rfl rfl ?_
        refine XO_nil ?_
        refine at_then ?_
        refine X_ret ?_
        first
        | exact at_retMs (L := [_]) (fun a ha w hw => res2 rfl rfl rfl a ha w) (fun w hw => ⟨_, J3, [], rfl, hIc, hw.drop, by unfold cflF; rw [sgn_bad he]; exact ResC.empty (resF_bad he)⟩)
        | exact at_retMs (L := [_]) (fun a ha w hw => res2 rfl rfl rfl a ha w) (fun w hw => ⟨_, J3, [], rfl, hIc, hw.drop, by unfold cflF; rw [sgn_ok he]; exact ResC.empty (resF_bad hx2)⟩)
        | exact at_retMs (L := _ :: L) (fun a ha w hw => res2 rfl rfl rfl a ha w) (fun w hw => by obtain ⟨I9, h91, h92, h93⟩ := OwnS.res hO encC_len (by decide) (hw.subL (.drop .refl)); obtain ⟨_, a9, c9, e9, h94⟩ := h93; subst e9; exact ⟨_, I9, [], rfl, hIc.trans h91, h92, rfl, cs, a9, c9, by rw [sgn_ok he, hx2], ⟨h94, fun z hz => (hcs.1 z hz).mono h91⟩, by unfold cflF; rw [sgn_ok he, resF_ok hx2]; exact hcs.2⟩)
end Go.Proofs.YtccomeanpppfmaaGreat
end
