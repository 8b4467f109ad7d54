/- topRooms_holds, part E of the proof: what its theorems say holds without further conditions. -/
import Derived.Test.YtoicbikdenlioaaGreatTRD
section
namespace Go.Proofs.YtoicbikdenlioaaGreat
open Go Go.Kn Go.Proofs
/-- What an edit may do: only an insertion brings a sign that was not there. -/
structure AppR (base : List Sg) (kind id : Int) (a : List Sg) : Prop where
  cb : chkG base = 0
  ca : chkG a = 0
  new : ∀ s, lookG base s = none → (lookG a s).isSome = true → kind = 5 ∧ s = id
theorem both_ins {base a b : List Sg} {p q : List Pt} {k1 i1 k2 i2 : Int} (ha : AppR base k1 i1 a) (hb : AppR base k2 i2 b) (hp : DifOK base a p) (hq : DifOK base b q) (h : Both p q) : k1 = 5 ∧ k2 = 5 ∧ i1 = i2 := by
  obtain ⟨x, hx, y, hy, kx, ky, hs⟩ := h
  obtain ⟨h1, h2⟩ := hp.ins x hx kx
  obtain ⟨h3, h4⟩ := hq.ins y hy ky
  obtain ⟨g1, g2⟩ := ha.new x.sign h1 (by rw [h2]; rfl)
  obtain ⟨g3, g4⟩ := hb.new y.sign h3 (by rw [h4]; rfl)
  exact ⟨g1, g3, by rw [← g2, ← g4, hs]⟩
/-- A store without needs, and patches that need all of it. -/
structure On2 (store d : List Pt) : Prop where
  lst : Lst (store ++ d)
  plain : ∀ x ∈ store, x.needs = []
  all : ∀ r ∈ d, r.needs = store.map (·.id)
section
variable {store d : List Pt} (h : On2 store d)
include h
theorem On2.lt {x r : Pt} (hx : x ∈ store) (hr : r ∈ d) : x.id < r.id := (List.pairwise_append.1 h.lst.inc).2.2 x hx r hr
theorem On2.on1 {x : Pt} (hx : x ∈ store) (b : Int) : onF (store ++ d) x.id b = false := by
  rw [onF_left fun q hq e => by have := h.lt hx hq; omega]
  exact on_none h.plain _ _
theorem On2.on2 {r x : Pt} (hr : r ∈ d) (hx : x ∈ store) : onF (store ++ d) r.id x.id = true := h.lst.on_need (by simp [hr]) (by rw [h.all r hr]; exact List.mem_map.2 ⟨x, hx, rfl⟩)
theorem On2.on3 {r r' : Pt} (hr : r ∈ d) (hr' : r' ∈ d) : onF (store ++ d) r.id r'.id = false := by
  rw [Bool.eq_false_iff]
  intro g
  obtain ⟨n, hn, e⟩ := (h.lst.on_iff (show r ∈ store ++ d by simp [hr])).1 g
  rw [h.all r hr] at hn
  obtain ⟨x, hx, rfl⟩ := List.mem_map.1 hn
  rcases e with e | e
  · have := h.lt hx hr'; omega
  · rw [h.on1 hx] at e; cases e
omit h in
/-- What the further patches are about, still stands in the store's signs. -/
theorem gone9 {base s c : List Sg} (hst : ∀ x, lookG s x = stS base store x) (hd : DifOK s c d) {y r : Pt} (hy : y ∈ store) (hk : y.kind = 3) (hr : r ∈ d) (hs : r.sign = y.sign) : r.kind = 2 := by
  have hnone : lookG s y.sign = none := by
    rw [hst]
    unfold stS
    rw [if_pos (remB_iff.2 ⟨y, hy, hk, rfl⟩)]
  rcases hd.kind r hr with k | k | k
  · obtain ⟨_, _, g, _⟩ := hd.set r hr k
    rw [hs, hnone] at g; cases g
  · exact k
  · have g := (hd.rem r hr k).1
    rw [hs, hnone] at g; cases g
theorem On2.sto {base s c : List Sg} (hok : ∀ x ∈ store ++ d, pchk x = 0) (hsto : Sto store) (hst : ∀ x, lookG s x = stS base store x) (hd : DifOK s c d) (hno : ∀ r ∈ d, r.kind ≠ 2) : Sto (store ++ d) where
  lst := h.lst
  ok x hx := pchk_ok (hok x hx)
  tog x hx y hy hne := by
    unfold togB
    by_cases hs : x.sign = y.sign
    · rw [if_neg (by simpa using hs)]
      rcases List.mem_append.1 hx with gx | gx <;> rcases List.mem_append.1 hy with gy | gy
      · have h1 := hsto.tog x gx y gy hne
        unfold togB at h1
        rw [if_neg (by simpa using hs), on_none h.plain] at h1
        rw [h.on1 gx]; exact h1
      · rw [if_neg (hno y gy), h.on1 gx]
        split <;> rfl
      · split
        · rename_i hk
          rw [h.on2 gx gy]
          have := hno x gx
          simp [this]
        · split
          · rename_i _ hk
            exact absurd (gone9 hst hd gy hk gx hs) (hno x gx)
          · rfl
      · rw [if_neg (hno y gy), h.on3 gx gy]
        split <;> rfl
    · rw [if_pos hs]
theorem On2.calm {base s c : List Sg} (hst : ∀ x, lookG s x = stS base store x) (hap : Apart store) (hd : DifOK s c d) : cfL (onF (store ++ d)) base (store ++ d) = [] := by
  have hnd := lst_nodup h.lst
  rw [List.map_append, List.nodup_append] at hnd
  have hapd := hd.apart hnd.2.1
  refine cfL_nil (fun p hp hk r hr hk3 hs => ?_) (fun sg f p hp q hq => ?_)
  · rcases List.mem_append.1 hp with gp | gp <;> rcases List.mem_append.1 hr with gr | gr
    · rcases hap r gr p gp hs with ⟨g, _⟩ | g
      · omega
      · subst g; omega
    · exact h.on2 gr gp
    · have := gone9 hst hd gr hk3 gp hs.symm
      omega
    · rcases hapd r gr p gp hs with ⟨g, _⟩ | g
      · omega
      · subst g; omega
  · have key : ∀ p q : Pt, p ∈ latF (onF (store ++ d)) (store ++ d) sg f → q ∈ latF (onF (store ++ d)) (store ++ d) sg f → p ∈ store → q ∈ d → False := fun p q hp hq gp gq => by
      unfold latF at hp
      rw [List.mem_filter] at hp
      have h2 := hp.2
      rw [Bool.not_eq_true', List.any_eq_false] at h2
      obtain ⟨q1, q2, q3, q4⟩ := mem_latF hq
      exact h2 q (mem_stF.2 ⟨q1, q2, q3, q4⟩) (h.on2 gq gp)
    obtain ⟨p1, p2, p3, p4⟩ := mem_latF hp
    obtain ⟨q1, q2, q3, q4⟩ := mem_latF hq
    rcases List.mem_append.1 p1 with gp | gp <;> rcases List.mem_append.1 q1 with gq | gq
    · rcases hap p gp q gq (by rw [p3, q3]) with ⟨_, _, g⟩ | g
      · exact absurd (by rw [p4, q4]) g
      · rw [g]
    · exact (key p q hp hq gp gq).elim
    · exact (key q p hq hp gq gp).elim
    · rcases hapd p gp q gq (by rw [p3, q3]) with ⟨_, _, g⟩ | g
      · exact absurd (by rw [p4, q4]) g
      · rw [g]
theorem On2.fit {base s c : List Sg} (hst : ∀ x, lookG s x = stS base store x) (hfs : fitB base store = true) (hsm : Sto (store ++ d)) (hd : DifOK s c d) : fitB base (store ++ d) = true := by
  unfold fitB
  refine List.all_eq_true.2 fun x hx => ?_
  have hins : ∀ sg, insB store sg = true → insB (store ++ d) sg = true := fun sg g => by
    unfold insB at g ⊢; rw [List.any_append, g]; rfl
  rcases List.mem_append.1 hx with gx | gx
  · unfold fitB at hfs
    have h1 := List.all_eq_true.1 hfs x gx
    unfold fitP at h1 ⊢
    cases e : insB store x.sign with
    | true => rw [hins _ e]; rw [e] at h1; exact h1
    | false =>
      rw [e] at h1
      cases e2 : insB (store ++ d) x.sign with
      | false => exact h1
      | true =>
        cases hb : hasS base x.sign <;> cases hk : (x.kind == 2) <;> simp_all [bne]
  · have hk := hd.kind x gx
    unfold fitP
    rcases hk with k | k | k
    · obtain ⟨y, _, g, _⟩ := hd.set x gx k
      rw [hst] at g
      unfold stS at g
      split at g
      · cases g
      · cases eb : lookG base x.sign with
        | some z =>
          have : hasS base x.sign = true := hasS_some.2 (by rw [eb]; rfl)
          rw [k, this]; rfl
        | none =>
          rw [eb] at g
          have h2 : insB store x.sign = true := by
            rw [insB_O]
            cases ei : insO store x.sign with
            | none => rw [ei] at g; cases g
            | some w => rfl
          rw [k, hins _ h2]; simp
    · have g := (hd.ins x gx k).1
      have hb : hasS base x.sign = false := by
        rw [hasS_look]
        cases eb : lookG base x.sign with
        | none => rfl
        | some z =>
          exfalso
          rw [hst] at g
          unfold stS at g
          split at g
          · rename_i hr
            obtain ⟨w, hw, w1, w2⟩ := remB_iff.1 hr
            have h3 := hsm.tog w (by simp [hw]) x (by simp [gx]) (by have := h.lt hw gx; omega)
            unfold togB at h3
            rw [if_neg (by simpa using w2), if_pos k, h.on1 hw] at h3
            simp at h3
          · rw [eb] at g; cases g
      rw [k, hb]; rfl
    · have g := (hd.rem x gx k).1
      obtain ⟨z, hz⟩ := Option.isSome_iff_exists.1 g
      rw [hst] at hz
      unfold stS at hz
      split at hz
      · cases hz
      · cases eb : lookG base x.sign with
        | some w =>
          have : hasS base x.sign = true := hasS_some.2 (by rw [eb]; rfl)
          rw [k, this]; rfl
        | none =>
          rw [eb] at hz
          have h2 : insB store x.sign = true := by
            rw [insB_O]
            cases ei : insO store x.sign with
            | none => rw [ei] at hz; cases hz
            | some w => rfl
          rw [k, hins _ h2]; simp
end
theorem run_app : ∀ (t u : List Pt) (xs ys : List Sg), runR xs t = (0, ys) → runR xs (t ++ u) = runR ys u
  | [], u, xs, ys, h => by
    unfold runR at h
    have : xs = ys := congrArg Prod.snd h
    subst this; rfl
  | p :: t, u, xs, ys, h => by
    unfold runR at h
    rw [List.cons_append]
    conv => lhs; unfold runR
    split at h
    · rename_i g; exact absurd (congrArg Prod.fst h) g
    · rename_i g
      rw [if_neg g]
      split at h
      · rename_i g2; exact absurd (congrArg Prod.fst h) g2
      · rename_i g2
        rw [if_neg g2]
        exact run_app t u _ ys h
/-- The same patches, without their needs. -/
def bare (p : Pt) : Pt := { p with needs := [], a := none, n := 0, c := 0 }
theorem run_bare : ∀ (t : List Pt) (xs : List Sg), (∀ p ∈ t, pchk p = 0 ∧ pchk (bare p) = 0) → runR xs (t.map bare) = runR xs t
  | [], xs, _ => rfl
  | p :: t, xs, h => by
    obtain ⟨h1, h2⟩ := h p (List.mem_cons_self ..)
    show (if pchk (bare p) ≠ 0 then (pchk (bare p), []) else if apE xs p ≠ 0 then (apE xs p, []) else runR (apG xs p) (t.map bare)) = (if pchk p ≠ 0 then (pchk p, []) else if apE xs p ≠ 0 then (apE xs p, []) else runR (apG xs p) t)
    rw [if_neg (show ¬ pchk (bare p) ≠ 0 by rw [h2]; decide), if_neg (show ¬ pchk p ≠ 0 by rw [h1]; decide)]
    rw [run_bare t _ fun q hq => h q (List.mem_cons_of_mem _ hq)]
theorem bare_dif {a b : List Sg} {ps : List Pt} (h : DifOK a b ps) : DifOK a b (ps.map bare) where
  kind p hp := by obtain ⟨q, hq, rfl⟩ := List.mem_map.1 hp; exact h.kind q hq
  rem p hp := by obtain ⟨q, hq, rfl⟩ := List.mem_map.1 hp; exact h.rem q hq
  ins p hp := by obtain ⟨q, hq, rfl⟩ := List.mem_map.1 hp; exact h.ins q hq
  set p hp := by obtain ⟨q, hq, rfl⟩ := List.mem_map.1 hp; exact h.set q hq
  one p hp p' hp' := by
    obtain ⟨q, hq, rfl⟩ := List.mem_map.1 hp
    obtain ⟨q', hq', rfl⟩ := List.mem_map.1 hp'
    exact h.one q hq q' hq'
  allrem s x h1 h2 := by obtain ⟨p, hp, g1, g2⟩ := h.allrem s x h1 h2; exact ⟨bare p, List.mem_map.2 ⟨p, hp, rfl⟩, g1, g2⟩
  allins s y h1 h2 := by obtain ⟨p, hp, g1, g2⟩ := h.allins s y h1 h2; exact ⟨bare p, List.mem_map.2 ⟨p, hp, rfl⟩, g1, g2⟩
  allset s x y h1 h2 := by
    obtain ⟨g, hall⟩ := h.allset s x y h1 h2
    exact ⟨g, fun f hf hne => by obtain ⟨p, hp, g1, g2, g3⟩ := hall f hf hne; exact ⟨bare p, List.mem_map.2 ⟨p, hp, rfl⟩, g1, g2, g3⟩⟩
theorem bare_chk {p : Pt} (h : pchk p = 0) : pchk (bare p) = 0 := by
  unfold pchk at h ⊢
  split at h
  · cases h
  · split at h
    · rename_i g
      rw [if_neg (by simp [bare]), if_pos]
      rw [Bool.and_eq_true] at g ⊢
      exact ⟨by unfold ndB bare; rfl, g.2⟩
    · cases h
/-- The signs behind the store, then behind the further patches. -/
theorem run_more {s c : List Sg} {d : List Pt} (hs : Srt s) (hc : Srt c) (hok : ∀ r ∈ d, pchk r = 0) (hid : d.Pairwise fun p q => p.id < q.id) (hd : DifOK s c d) (hl : s.length + d.length ≤ 4096) : runR s d = (0, c) := by
  rw [← run_bare d s fun p hp => ⟨hok p hp, bare_chk (hok p hp)⟩]
  have hnn : ∀ p ∈ d.map bare, p.needs = [] := fun p hp => by obtain ⟨q, _, rfl⟩ := List.mem_map.1 hp; rfl
  have hpk : ∀ p ∈ d.map bare, pchk p = 0 := fun p hp => by obtain ⟨q, hq, rfl⟩ := List.mem_map.1 hp; exact bare_chk (hok q hq)
  have hlst : Lst (d.map bare) := {
    pos := fun p hp => (pchk_ok (hpk p hp)).pos.1
    inc := List.pairwise_map.2 hid
    has := fun p hp n hn => by rw [hnn p hp] at hn; cases hn }
  have hd' := bare_dif hd
  have hap := hd'.apart (lst_nodup hlst)
  have hsto : Sto (d.map bare) := {
    lst := hlst
    ok := fun p hp => pchk_ok (hpk p hp)
    tog := fun x hx y hy hne => by
      unfold togB
      rw [on_none hnn]
      by_cases e : x.sign = y.sign
      · rw [if_neg (by simpa using e)]
        rcases hap x hx y hy e with ⟨_, k, _⟩ | g
        · rw [if_neg (by omega), if_neg (by omega)]
        · subst g; exact absurd rfl hne
      · rw [if_pos e] }
  have hfit : fitB s (d.map bare) = true := by
    unfold fitB
    exact List.all_eq_true.2 fun x hx => fit_dif hd' hx
  exact (run_st hs hsto hpk hfit hap.calm (topo_self hlst) (by rw [List.length_map]; omega) hc (dif_st hd')).1
/-- The last part of the law. -/
theorem more_ok {base s c : List Sg} {store d : List Pt} (hc : chkR (store ++ d) = 0) (hb : chkG base = 0) (hcs : chkG s = 0) (hcc : chkG c = 0) (h : On2 store d) (hap : Apart store) (hfs : fitB base store = true) (hrun : runR base store = (0, s)) (hst : ∀ x, lookG s x = stS base store x) (hd : DifOK s c d) (hl1 : base.length + (store ++ d).length ≤ 4096) (hl2 : s.length + d.length ≤ 4096) (hv : Ver (store ++ d) ((store ++ d).map (·.id))) :
    sgnE (store ++ d) base ((store ++ d).map (·.id)) = 0 ∧ sgnF (store ++ d) base ((store ++ d).map (·.id)) = c := by
  have hsm := chkR_sto hc
  have hcf := h.calm hst hap hd
  have hfit := h.fit hst hfs hsm hd
  have hpd : ∀ r ∈ d, pchk r = 0 := fun r hr => chk_all hc (by simp [hr])
  obtain ⟨h1, _, h3, h4⟩ := all_law hc hb hcf hfit hl1 (topo_self hsm.lst) hv
  refine ⟨h1, ?_⟩
  rw [h3]
  rw [run_app store d base s hrun, run_more (skB_srt (chkG_ok hcs).2) (skB_srt (chkG_ok hcc).2) hpd (List.pairwise_append.1 h.lst.inc).2.1 hd hl2] at h4
  exact (congrArg Prod.snd h4).symm
/-- Where the whole is no right store, the third edit inserts. -/
theorem more_no {base s c : List Sg} {store d : List Pt} {k3 i3 : Int} (hc : chkR (store ++ d) ≠ 0) (hlen : (store ++ d).length ≤ 512) (h : On2 store d) (hok : ∀ x ∈ store ++ d, pchk x = 0) (hsto : Sto store) (hst : ∀ x, lookG s x = stS base store x) (hd : DifOK s c d) (ha : AppR s k3 i3 c) : k3 = 5 := by
  by_cases hno : ∀ r ∈ d, r.kind ≠ 2
  · refine absurd (chkR_of hlen ?_ (h.sto hok hsto hst hd hno)) hc
    rw [orF_zero]
    intro x hx
    obtain ⟨p, hp, rfl⟩ := List.mem_map.1 hx
    exact hok p hp
  · obtain ⟨r, hno⟩ := Classical.not_forall.1 hno
    obtain ⟨hr, hk⟩ := Classical.not_imp.1 hno
    have hk : r.kind = 2 := Classical.not_not.1 hk
    obtain ⟨h1, h2⟩ := hd.ins r hr hk
    exact (ha.new r.sign h1 (by rw [h2]; rfl)).1
end Go.Proofs.YtoicbikdenlioaaGreat
end
section
namespace Go.Proofs.YtoicbikdenlioaaGreat
open Go Go.Kn Go.Proofs
/-- What Diff answers. -/
def difE (a b : List Sg) (first : Int) (needs : List Int) : Int :=
  if chkG a ≠ 0 then chkG a else if chkG b ≠ 0 then chkG b else if needs.length > 32 then 2 else if ndB first needs = false then 360 else if within first 1 1048576 = false then 360 else
  match dfL a b with | none => 360 | some l => if l.length > 512 ∨ first + (l.length : Int) - 1 > 1048576 then 2 else 0
theorem difE_range {a b : List Sg} {first : Int} {needs : List Int} (ha : chkG a = 0) (hb : chkG b = 0) : difE a b first needs = 0 ∨ difE a b first needs = 360 ∨ difE a b first needs = 2 := by
  unfold difE
  rw [if_neg (by omega), if_neg (by omega)]
  repeat' split
  all_goals simp
theorem difE_0 {a b : List Sg} {first : Int} {needs : List Int} (h : difE a b first needs = 0) : chkG a = 0 ∧ chkG b = 0 ∧ needs.length ≤ 32 ∧ ndB first needs = true ∧ 1 ≤ first ∧ ∃ l, dfL a b = some l ∧ l.length ≤ 512 ∧ first + (l.length : Int) - 1 ≤ 1048576 := by
  unfold difE at h
  split at h
  · rename_i g; exact absurd h g
  · rename_i g1
    split at h
    · rename_i g; exact absurd h g
    · rename_i g2
      split at h
      · cases h
      · rename_i g3
        split at h
        · cases h
        · rename_i g4
          split at h
          · cases h
          · rename_i g5
            have g5 : within first 1 1048576 = true := by simpa using g5
            unfold within at g5
            simp at g5
            split at h
            · cases h
            · rename_i l e
              split at h
              · cases h
              · rename_i g6
                rw [not_or] at g6
                exact ⟨by omega, by omega, by omega, by simpa using g4, g5.1, l, e, by omega, by omega⟩
/-- The patches that Diff hands back. -/
def DifR (a b : List Sg) (first : Int) (needs : List Int) (ps : List Pt) : Prop := (difE a b first needs ≠ 0 → ps = []) ∧ (difE a b first needs = 0 → ∃ l, dfL a b = some l ∧ Num first needs l ps)
theorem ndB_in {id : Int} {v : List Int} (h : ndB id v = true) : (∀ n ∈ v, 1 ≤ n ∧ n < id) ∧ v.Pairwise (· < ·) := by
  unfold ndB at h
  have h1 : ∀ i, i < v.length → ndP id v i = true := fun i hi => List.all_eq_true.1 h i (List.mem_range.2 hi)
  have hg : ∀ i (hi : i < v.length), v.getD i 0 = v[i] := fun i hi => by rw [List.getD_eq_getElem?_getD, List.getElem?_eq_getElem hi]; rfl
  refine ⟨fun n hn => ?_, pair_of_next (fun a b c h1 h2 => by omega) fun k hk => ?_⟩
  · obtain ⟨i, hi, rfl⟩ := List.mem_iff_getElem.1 hn
    have := h1 i hi
    unfold ndP at this
    rw [hg i hi] at this
    simp at this
    omega
  · have := h1 (k + 1) hk
    unfold ndP at this
    have hj : (((k + 1 : Nat) : Int) - 1).toNat = k := by omega
    rw [hj, hg (k + 1) hk, hg k (by omega)] at this
    simp at this
    have h3 := this.2
    omega
/-- The two rooms' patches. -/
structure Two (base a b : List Sg) (p q : List Pt) : Prop where
  cb : chkG base = 0
  ca : chkG a = 0
  cc : chkG b = 0
  dp : DifOK base a p
  dq : DifOK base b q
  lst : Lst (p ++ q)
  ok : ∀ x ∈ p ++ q, pchk x = 0
  nn : ∀ x ∈ p ++ q, x.needs = []
  l1 : p.length ≤ 30
  l2 : q.length ≤ 30
  l3 : base.length ≤ 40
theorem two_of {base a b : List Sg} {p q : List Pt} (hp : difE base a 1 [] = 0) (hq : difE base b (1 + (p.length : Int)) [] = 0) (rp : DifR base a 1 [] p) (rq : DifR base b (1 + (p.length : Int)) [] q) (l1 : p.length ≤ 30) (l2 : q.length ≤ 30) (l3 : base.length ≤ 40) : Two base a b p q := by
  obtain ⟨cb, ca, _, _, _, lp, ep, _, mp⟩ := difE_0 hp
  obtain ⟨_, cc, _, _, _, lq, eq, _, mq⟩ := difE_0 hq
  obtain ⟨lp', ep', np⟩ := rp.2 hp
  obtain ⟨lq', eq', nq⟩ := rq.2 hq
  rw [ep] at ep'; cases ep'
  rw [eq] at eq'; cases eq'
  have sb := skB_srt (chkG_ok cb).2
  have sa := skB_srt (chkG_ok ca).2
  have sc := skB_srt (chkG_ok cc).2
  have d1 := df_ok _ base a lp (Nat.le_refl _) sb sa ep
  have d2 := df_ok _ base b lq (Nat.le_refl _) sb sc eq
  have nn : ∀ x ∈ p ++ q, x.needs = [] := fun x hx => by
    rcases List.mem_append.1 hx with g | g
    · exact num_needs np x g
    · exact num_needs nq x g
  exact ⟨cb, ca, cc, dif_of d1 np, dif_of d2 nq, lst_plain (Int.le_refl _) (two_id np nq) nn, fun x hx => by
    rcases List.mem_append.1 hx with g | g
    · exact num_pchk d1 np cb ca (Int.le_refl _) mp (by simp) (by simp) .nil g
    · exact num_pchk d2 nq cb cc (by omega) mq (by simp) (by simp) .nil g, nn, l1, l2, l3⟩
section
variable {base a b : List Sg} {p q : List Pt} (h : Two base a b p q)
include h
theorem Two.no (hc : chkR (p ++ q) ≠ 0) : Both p q := by
  by_cases hb : Both p q
  · exact hb
  · refine absurd (chkR_of (by rw [List.length_append]; have := h.l1; have := h.l2; omega) ?_ (sto_two h.lst h.ok h.nn h.dp h.dq hb)) hc
    rw [orF_zero]
    intro x hx
    obtain ⟨y, hy, rfl⟩ := List.mem_map.1 hx
    exact h.ok y hy
theorem Two.own (hc : chkR (p ++ q) = 0) : sgnE (p ++ q) base (p.map (·.id)) = 0 ∧ sgnF (p ++ q) base (p.map (·.id)) = a := by
  have h1 := h.l1; have h3 := h.l3
  exact sgn_dif hc h.cb h.ca (ver_plain h.lst (List.sublist_append_left ..) fun x hx => h.nn x (by simp [hx])) (verL_part h.lst (List.sublist_append_left ..)) (by rw [List.length_map]; omega) (by omega) h.dp
theorem Two.other (hc : chkR (p ++ q) = 0) : sgnE (p ++ q) base (q.map (·.id)) = 0 ∧ sgnF (p ++ q) base (q.map (·.id)) = b := by
  have h1 := h.l2; have h3 := h.l3
  exact sgn_dif hc h.cb h.cc (ver_plain h.lst (List.sublist_append_right ..) fun x hx => h.nn x (by simp [hx])) (verL_part h.lst (List.sublist_append_right ..)) (by rw [List.length_map]; omega) (by omega) h.dq
theorem Two.mrg (hc : chkR (p ++ q) = 0) : mrgE (p ++ q) (p.map (·.id)) (q.map (·.id)) = 0 ∧ mrgF (p ++ q) (p.map (·.id)) (q.map (·.id)) = (p ++ q).map (·.id) := by
  have h1 := h.l1; have h2 := h.l2
  exact mrg_two hc h.nn (by omega) (by omega)
/-- The merged room's signs. -/
def mgS (base : List Sg) (l : List Pt) : List Sg := sgnL (onF l) base l
theorem Two.all (hc : chkR (p ++ q) = 0) (hov : ∀ x ∈ p, ∀ y ∈ q, ¬ (x.sign = y.sign ∧ ((x.kind ≠ 1 ∨ y.kind ≠ 1) ∨ x.field = y.field))) :
    sgnE (p ++ q) base ((p ++ q).map (·.id)) = 0 ∧ cflF (p ++ q) base ((p ++ q).map (·.id)) = [] ∧ sgnF (p ++ q) base ((p ++ q).map (·.id)) = mgS base (p ++ q) ∧ runA base (p ++ q) = (0, mgS base (p ++ q)) ∧ runA base (q ++ p) = (0, mgS base (p ++ q)) := by
  have h1 := h.l1; have h2 := h.l2; have h3 := h.l3
  have hap := apart_two h.lst h.dp h.dq hov
  have hv := ver_plain h.lst (List.Sublist.refl _) h.nn
  have ht1 : Topo (p ++ q) (p ++ q) := topo_self h.lst
  have ht2 : Topo (p ++ q) (q ++ p) := topo_plain List.perm_append_comm h.nn
  obtain ⟨g1, g2, g3, g4⟩ := all_law hc h.cb hap.calm (fit_two h.dp h.dq) (by rw [List.length_append]; omega) ht1 hv
  obtain ⟨_, _, _, g5⟩ := all_law hc h.cb hap.calm (fit_two h.dp h.dq) (by rw [List.length_append]; omega) ht2 hv
  refine ⟨g1, g2, g3, ?_, ?_⟩
  · unfold runA
    rw [if_neg (by rw [h.cb]; decide), if_neg (by rw [List.length_append]; omega)]; exact g4
  · unfold runA
    rw [if_neg (by rw [h.cb]; decide), if_neg (by rw [List.length_append]; omega)]; exact g5
theorem Two.mgst (hc : chkR (p ++ q) = 0) (hov : ∀ x ∈ p, ∀ y ∈ q, ¬ (x.sign = y.sign ∧ ((x.kind ≠ 1 ∨ y.kind ≠ 1) ∨ x.field = y.field))) : runR base (p ++ q) = (0, mgS base (p ++ q)) ∧ (∀ s, lookG (mgS base (p ++ q)) s = stS base (p ++ q) s) ∧ (mgS base (p ++ q)).length ≤ 100 := by
  have h1 := h.l1; have h2 := h.l2; have h3 := h.l3
  have hap := apart_two h.lst h.dp h.dq hov
  have hs := chkR_sto hc
  have hpc : ∀ x ∈ p ++ q, pchk x = 0 := h.ok
  have hfit := fit_two h.dp h.dq
  obtain ⟨ys, e1, _, e3⟩ := run_all hs hpc hfit (calm_of (skB_srt (chkG_ok h.cb).2) hs hfit hap.calm) (topo_self h.lst) (p ++ q) [] base rfl (by rw [List.length_append]; omega) (skB_srt (chkG_ok h.cb).2) (fun s => by
    unfold stS insO remB valS; simp)
  have e4 := run_law (skB_srt (chkG_ok h.cb).2) hs hpc hfit hap.calm (topo_self h.lst) (by rw [List.length_append]; omega)
  have e5 : ys = mgS base (p ++ q) := by rw [e1] at e4; exact congrArg Prod.snd e4
  subst e5
  have e6 := run_len _ _ _ e1
  rw [List.length_append] at e6
  exact ⟨e1, e3, by omega⟩
/-- The third edit's patches. -/
theorem Two.on2 {s c : List Sg} {d : List Pt} (hd : difE s c (1 + ((p ++ q).length : Int)) ((p ++ q).map (·.id)) = 0) (rd : DifR s c (1 + ((p ++ q).length : Int)) ((p ++ q).map (·.id)) d) : On2 (p ++ q) d ∧ DifOK s c d ∧ (∀ x ∈ (p ++ q) ++ d, pchk x = 0) ∧ chkG s = 0 ∧ chkG c = 0 := by
  obtain ⟨cs, cc, hnl, hnd, h1, l, el, _, hmax⟩ := difE_0 hd
  obtain ⟨l', el', nd⟩ := rd.2 hd
  rw [el] at el'; cases el'
  have d1 := df_ok _ s c l (Nat.le_refl _) (skB_srt (chkG_ok cs).2) (skB_srt (chkG_ok cc).2) el
  obtain ⟨hn1, hn2⟩ := ndB_in hnd
  have hpd : ∀ r ∈ d, pchk r = 0 := fun r hr => num_pchk d1 nd cs cc h1 hmax hnl hn1 hn2 hr
  have hall := num_needs nd
  have hidd : ∀ (i : Nat) (x : Pt), d[i]? = some x → x.id = 1 + ((p ++ q).length : Int) + i := fun i x hx => by
    obtain ⟨_, _, e, _⟩ := nd.of hx
    exact e
  have hlt : ∀ x ∈ p ++ q, ∀ r ∈ d, x.id < r.id := fun x hx r hr => by
    have h2 := hn1 x.id (List.mem_map.2 ⟨x, hx, rfl⟩)
    obtain ⟨i, hi⟩ := List.getElem?_of_mem hr
    rw [hidd i r hi]; omega
  have hl : Lst ((p ++ q) ++ d) := {
    pos := fun x hx => by
      rcases List.mem_append.1 hx with g | g
      · exact h.lst.pos x g
      · exact (pchk_ok (hpd x g)).pos.1
    inc := by
      rw [List.pairwise_append]
      refine ⟨h.lst.inc, ?_, hlt⟩
      rw [List.pairwise_iff_getElem]
      intro i j hi hj hij
      rw [hidd i _ (List.getElem?_eq_getElem hi), hidd j _ (List.getElem?_eq_getElem hj)]
      omega
    has := fun x hx n hn => by
      rcases List.mem_append.1 hx with g | g
      · rw [h.nn x g] at hn; cases hn
      · rw [hall x g] at hn
        obtain ⟨y, hy, rfl⟩ := List.mem_map.1 hn
        exact ⟨hlt y hy x g, y, List.mem_append_left _ hy, rfl⟩ }
  refine ⟨⟨hl, h.nn, hall⟩, dif_of d1 nd, fun x hx => ?_, cs, cc⟩
  rcases List.mem_append.1 hx with g | g
  · exact h.ok x g
  · exact hpd x g
end
theorem ver_all {store : List Pt} (hl : Lst store) : Ver store (store.map (·.id)) where
  inc := List.pairwise_map.2 hl.inc
  sub x hx := by obtain ⟨p, hp, rfl⟩ := List.mem_map.1 hx; exact ⟨p, hp, rfl⟩
  need p hp _ n hn := by obtain ⟨_, q, hq, e⟩ := hl.has p hp n hn; exact List.mem_map.2 ⟨q, hq, e⟩
end Go.Proofs.YtoicbikdenlioaaGreat
end
section
namespace Go.Proofs.YtoicbikdenlioaaGreat
open Go Go.Kn Go.Proofs
def ImmC (I : HMap) (b : Nat) (o : Obj) : Prop := I b = some o
theorem ImmC.of {I : HMap} {b : Nat} {o : Obj} (h : I b = some o) : ImmC I b o := h
theorem ImmC.mono {I I' : HMap} {b : Nat} {o : Obj} (h : ImmC I b o) (hI : HLe I I') : ImmC I' b o := hI _ _ h
theorem _root_.Go.Kn.Cells.immC {I : HMap} {loc : Go.Kn.Loc} {b : Nat} {vs : List Value} {t : TypeId} {fz : Nat × Nat} (h : ImmC I b (.cells vs.toArray t fz)) : Cells I loc b 0 vs := fun j u hu => Cell.imm h (by rw [Nat.zero_add, lget_eq]; simpa using hu)
/-- Are two patches about the same? -/
def ovB (p q : Pt) : Bool := (p.sign == q.sign) && (((p.kind != 1) || (q.kind != 1)) || (p.field == q.field))
theorem ovB_no {p q : Pt} (h : ovB p q = false) : ¬ (p.sign = q.sign ∧ ((p.kind ≠ 1 ∨ q.kind ≠ 1) ∨ p.field = q.field)) := fun ⟨h1, h2⟩ => by
  unfold ovB at h
  simp only [Bool.and_eq_false_iff, Bool.or_eq_false_iff, beq_eq_false_iff_ne, bne_eq_false_iff_eq] at h
  rcases h with h | ⟨⟨h3, h4⟩, h5⟩
  · exact h h1
  · rcases h2 with (h2 | h2) | h2
    · exact h2 h3
    · exact h2 h4
    · exact h5 h2
def ovE (p q : Pt) : Int := if pchk p ≠ 0 then pchk p else pchk q
def ovV (p q : Pt) : Bool := if ovE p q ≠ 0 then false else ovB p q
/-- A field: its number, and the function that points at it. -/
abbrev Fd := Int × Nat
def encFd (x : Fd) : List Value := [.int .i64 x.1, .func (.func x.2) #[] #[]]
theorem encFd_len (x : Fd) : (encFd x).length = 2 := rfl
/-- Where a field lies in a sign. -/
def offF (f : Int) : Nat := if f ≤ 3 then f.toNat else f.toNat + 1
/-- One patch for a field. -/
def setPt (x y : Sg) (f : Int) : Pt := ⟨0, 1, x.id, f, setG zeroG f y, none, 0, 0, []⟩
def chP (x y : Sg) (k : Nat) : List Pt := (List.range k).filterMap fun (i : Nat) => if fldG x ((i : Int) + 1) = fldG y ((i : Int) + 1) then none else some (setPt x y ((i : Int) + 1))
theorem chP_step (x y : Sg) (k : Nat) : chP x y (k + 1) = chP x y k ++ (if fldG x ((k : Int) + 1) = fldG y ((k : Int) + 1) then [] else [setPt x y ((k : Int) + 1)]) := by
  unfold chP
  rw [List.range_succ, List.filterMap_append]
  congr 1
  simp only [List.filterMap_cons, List.filterMap_nil]
  split <;> rename_i h <;> split at h <;> simp_all
theorem chP_pre {x y : Sg} {k m : Nat} (h : k ≤ m) : chP x y k <+: chP x y m := by
  induction m with
  | zero => have : k = 0 := by omega
            subst this; exact List.prefix_refl _
  | succ m ih =>
    by_cases e : k = m + 1
    · subst e; exact List.prefix_refl _
    · rw [chP_step]
      exact (ih (by omega)).trans (List.prefix_append ..)
theorem ov_snoc {p q x : Pt} {k : Nat} (hx : ([p, q] : List Pt)[k]? = some x) (h : ∀ j, j < k → ∀ y, ([p, q] : List Pt)[j]? = some y → pchk y = 0) (h0 : pchk x = 0) : ∀ j, j < k + 1 → ∀ y, ([p, q] : List Pt)[j]? = some y → pchk y = 0 := fun j hj y hy => by
  by_cases e : j = k
  · subst e; rw [hx] at hy; cases hy; exact h0
  · exact h j (by omega) y hy
theorem ov_bad {p q x : Pt} {k : Nat} (hx : ([p, q] : List Pt)[k]? = some x) (h : ∀ j, j < k → ∀ y, ([p, q] : List Pt)[j]? = some y → pchk y = 0) (hne : pchk x ≠ 0) : (Value.tuple #[.bool (ovV p q), .int .i64 (ovE p q)]) = .tuple #[.bool false, .int .i64 (pchk x)] := by
  have hE : ovE p q = pchk x := by
    unfold ovE
    match k, hx, h with
    | 0, hx, _ => cases hx; rw [if_pos hne]
    | 1, hx, h => cases hx; rw [if_neg (by rw [h 0 (by omega) p rfl]; decide)]
  unfold ovV
  rw [hE, if_pos hne]
theorem ov_good {p q : Pt} (hp : pchk p = 0) (hq : pchk q = 0) : (Value.tuple #[.bool (ovV p q), .int .i64 (ovE p q)]) = .tuple #[.bool (ovB p q), .int .i64 0] := by
  have hE : ovE p q = 0 := by unfold ovE; rw [if_neg (by rw [hp]; decide), hq]
  unfold ovV
  rw [hE, if_neg (by decide)]
/-- The value of a field that is a number. -/
def fvG (x : Sg) (f : Int) : Int := (fldG x f).1
theorem fv_eq {x y : Sg} {k : Nat} (hk : k < 8) : fldG x ((k : Int) + 1) = fldG y ((k : Int) + 1) ↔ fvG x ((k : Int) + 1) = fvG y ((k : Int) + 1) := by
  have h : k = 0 ∨ k = 1 ∨ k = 2 ∨ k = 3 ∨ k = 4 ∨ k = 5 ∨ k = 6 ∨ k = 7 := by omega
  rcases h with rfl | rfl | rfl | rfl | rfl | rfl | rfl | rfl <;> simp [fvG, fldG]
theorem fld_cell {I : HMap} {loc : Go.Kn.Loc} {b t : Nat} {fz : Nat × Nat} {x : Sg} {k : Nat} (h : I b = some (.cells (encG x).toArray t fz)) (hk : k < 8) : Cell I loc b (0 + offF ((k : Int) + 1)) (.int .i64 (fvG x ((k : Int) + 1))) := by
  have hc : k = 0 ∨ k = 1 ∨ k = 2 ∨ k = 3 ∨ k = 4 ∨ k = 5 ∨ k = 6 ∨ k = 7 := by omega
  rcases hc with rfl | rfl | rfl | rfl | rfl | rfl | rfl | rfl <;> exact Cell.imm h rfl
theorem set_off (x y : Sg) {k : Nat} (hk : k < 8) : (encP ⟨0, 1, x.id, (k : Int) + 1, zeroG, none, 0, 0, []⟩).toArray.setIfInBounds (4 + offF ((k : Int) + 1)) (.int .i64 (fvG y ((k : Int) + 1))) = (encP (setPt x y ((k : Int) + 1))).toArray := by
  have hc : k = 0 ∨ k = 1 ∨ k = 2 ∨ k = 3 ∨ k = 4 ∨ k = 5 ∨ k = 6 ∨ k = 7 := by omega
  rcases hc with rfl | rfl | rfl | rfl | rfl | rfl | rfl | rfl <;> rfl
theorem off_lt {k : Nat} (hk : k < 8) : Nat.blt (4 + offF ((k : Int) + 1)) 19 = true := by
  have hc : k = 0 ∨ k = 1 ∨ k = 2 ∨ k = 3 ∨ k = 4 ∨ k = 5 ∨ k = 6 ∨ k = 7 := by omega
  rcases hc with rfl | rfl | rfl | rfl | rfl | rfl | rfl | rfl <;> rfl
/-- An element of a block of one's own. -/
theorem own_cells {α : Type} {I : HMap} {enc : α → List Value} {size b t k : Nat} {fz : Nat × Nat} {xs : List α} {x : α} (hs : ∀ x, (enc x).length = size) (hx : xs[k]? = some x) (R : Go.Kn.Loc) : Cells I ((b, .cells (xs.flatMap enc).toArray t fz) :: R) b (((k : Nat) : Int).toNat * size) (enc x) := fun j u hu =>
  ⟨_, _, _, .inr (List.mem_cons_self ..), by
    have := flat_at hs xs k x hx j u hu
    rw [show ((k : Int)).toNat = k from by omega]
    simpa using this⟩
theorem span_f {I : HMap} {loc : Go.Kn.Loc} {b t : Nat} {fz : Nat × Nat} {x : Sg} (h : I b = some (.cells (encG x).toArray t fz)) : Cells I loc b (0 + 10) [.int .i64 x.fn, .int .i64 x.fd] := fun j u hu => by
  match j, hu with
  | 0, hu => cases hu; exact Cell.imm h rfl
  | 1, hu => cases hu; exact Cell.imm h rfl
  | j + 2, hu => simp at hu
theorem span_t {I : HMap} {loc : Go.Kn.Loc} {b t : Nat} {fz : Nat × Nat} {x : Sg} (h : I b = some (.cells (encG x).toArray t fz)) : Cells I loc b (0 + 12) [.int .i64 x.tn, .int .i64 x.td] := fun j u hu => by
  match j, hu with
  | 0, hu => cases hu; exact Cell.imm h rfl
  | 1, hu => cases hu; exact Cell.imm h rfl
  | j + 2, hu => simp at hu
theorem chP_no {x y : Sg} {k : Nat} (h : fldG x ((k : Int) + 1) = fldG y ((k : Int) + 1)) : chP x y (k + 1) = chP x y k := by rw [chP_step, if_pos h, List.append_nil]
theorem chP_yes {x y : Sg} {k : Nat} (h : fldG x ((k : Int) + 1) ≠ fldG y ((k : Int) + 1)) : chP x y (k + 1) = chP x y k ++ [setPt x y ((k : Int) + 1)] := by rw [chP_step, if_neg h]
theorem sp_key {x y : Sg} : (!(x.fn == y.fn && (x.fd == y.fd && true)) || !(x.tn == y.tn && (x.td == y.td && true))) = decide (fldG x (((8 : Nat) : Int) + 1) ≠ fldG y (((8 : Nat) : Int) + 1)) := by
  have e : ∀ z : Sg, fldG z (((8 : Nat) : Int) + 1) = (z.fn, z.fd, z.tn, z.td) := fun z => rfl
  rw [e, e, Bool.eq_iff_iff]
  simp [Bool.and_eq_true, Prod.mk.injEq]
  omega
theorem sp_ne {x y : Sg} (h : (!(x.fn == y.fn && (x.fd == y.fd && true)) || !(x.tn == y.tn && (x.td == y.td && true))) = true) : fldG x (((8 : Nat) : Int) + 1) ≠ fldG y (((8 : Nat) : Int) + 1) := by
  rw [sp_key] at h; exact of_decide_eq_true h
theorem sp_eq {x y : Sg} (h : (!(x.fn == y.fn && (x.fd == y.fd && true)) || !(x.tn == y.tn && (x.td == y.td && true))) = false) : fldG x (((8 : Nat) : Int) + 1) = fldG y (((8 : Nat) : Int) + 1) := by
  rw [sp_key] at h; exact Classical.not_not.1 (of_decide_eq_false h)
end Go.Proofs.YtoicbikdenlioaaGreat
end
section
namespace Go.Proofs.YtoicbikdenlioaaGreat
open Go Go.Kn Go.Proofs
theorem elt_112 : ElT Tryz.prog 112 116 2 16 := .of (by kernel_rfl)
theorem fun_100 : Fun Tryz.prog 100 := .of Tryz.func100 (by kernel_rfl) (by kernel_rfl)
theorem fun_101 : Fun Tryz.prog 101 := .of Tryz.func101 (by kernel_rfl) (by kernel_rfl)
theorem fun_102 : Fun Tryz.prog 102 := .of Tryz.func102 (by kernel_rfl) (by kernel_rfl)
theorem fun_103 : Fun Tryz.prog 103 := .of Tryz.func103 (by kernel_rfl) (by kernel_rfl)
theorem fun_104 : Fun Tryz.prog 104 := .of Tryz.func104 (by kernel_rfl) (by kernel_rfl)
theorem fun_105 : Fun Tryz.prog 105 := .of Tryz.func105 (by kernel_rfl) (by kernel_rfl)
theorem fun_106 : Fun Tryz.prog 106 := .of Tryz.func106 (by kernel_rfl) (by kernel_rfl)
theorem fun_99 : Fun Tryz.prog 99 := .of Tryz.func99 (by kernel_rfl) (by kernel_rfl)
theorem plt_116 : PlT Tryz.prog 116 #[(0, 1), (1, 1)] (.agg #[(.int .i64 0), .nilFunc]) := ⟨.of (by kernel_rfl), by kernel_rfl, fun w => by kernel_rfl⟩
theorem w_ids {I : HMap} {av : Option Addr} {n c : Nat} {ps : List Pt} (hP : SlP I av n c ps) (hn : n ≤ 1000) : RetM Tryz.prog 9 [.slice av n c] I [] (SlRes 1 encI (ps.map (·.id))) := by
 intro g H w hw
 refine enter Tryz.func9 rfl Tryz.ntmps9 rfl hw ?_
 have hIc := HLe.refl I
 have hlp := hP.len
 refine zR ?_
 refine zA ?_
 refine zN ?_
 refine X_seq ?_
 refine zR ?_
 refine zM ?_
 refine zQ slt_33 ?_
 refine zM ?_
 refine zN ?_
 refine X_block ?_
 refine X_loopT [(5, _), (6, _)] (.cons rfl (.cons rfl .nil)) (fun T L0 mz E I' loc' => ∃ (k : Nat) (v : Value) (L : Go.Kn.Loc), mz = n - k ∧ E = (2, v) :: (7, .int .i64 k) :: T ∧ I = I' ∧ L = loc' ∧ k ≤ n ∧ OwnS 3 1 v k (((ps.take k).map (·.id)).flatMap encI) L) _ _ _ _ ⟨0, _, [], rfl, rfl, rfl, rfl, Nat.zero_le _, OwnS.nil⟩ (.cons rfl (.cons rfl (.cons rfl (.cons rfl .nil)))) (HLe.refl _) rfl ?_
 rintro mz E I' loc' ⟨k, v, L, rfl, rfl, rfl, rfl, hk, hO⟩
 refine zR ?_
 refine zC ?_
 refine zN ?_
 refine X_seq ?_
 refine zI ?_ ?_ <;> intro hc8
 ·
  have hlt_k : k < n := by have h := hc8; simp at h; omega
  obtain ⟨p, hp, _⟩ := hP.at hlt_k
  refine X_skip ?_
  refine at_then ?_
  refine X_seq ?_
  refine X_block ?_
  refine zR ?_
  refine zV (ev_indexSl rfl rfl slt_33 hP.1 (fun hg => by omega)) ?_
  refine zV (ev_loadA rfl agt_44 (fun hg => by exact Sl.getA hP.1 hp) rfl) ?_
  refine XO_alloc zt_44 rfl rfl (fun b_4 => ?_)
  refine XO_storeA rfl rfl szt_44 rfl rfl rfl rfl (by repeat (first | exact Upd.here | apply Upd.there | apply upd_app)) ?_
  refine zN ?_
  refine X_region ?_
  refine zM ?_
  refine zF fld_44_0 ?_
  refine zL sct_3 ?_
  refine XO_buildSlice (ps := [(0, _)]) (m := [encI p.id]) elt_38 rfl (.cons rfl (.nil)) rfl (by simp [encI_len]) (by decide) (by decide) rfl rfl (fun b_14 => ?_)
  refine XO_append (v := _) (ys := [p.id].flatMap encI) (L := L) rfl rfl elt_38 hO (by repeat (first | exact .cons .here .nil | exact split_all | exact split_app | apply split_cons | apply split_skip)) ⟨rfl, fun _ => rfl, Cells.here⟩ (one_I [p.id]) (by omega) rfl rfl ?_
  intro v9 L9 hO9 _; rw [← List.flatMap_append] at hO9
  refine zA ?_
  refine XO_nil ?_
  refine at_block_n ?_
  refine at_then ?_
  refine X_region ?_
  refine zB ?_
  refine zM ?_
  refine XO_nil ?_
  exact at_met2 _ _ ⟨n - (k + 1), by omega, k + 1, _, _, rfl, rfl, rfl, rfl, by omega, by rw [take_snoc hp, List.map_append]; exact hO9⟩ (.cons rfl (.cons rfl (.cons rfl (.cons rfl .nil)))) (by repeat (first | exact .refl | exact subL_left | refine subL_app ?_ | refine .drop ?_ | refine subL_add ?_))
 have hge_k : n ≤ k := by have h := hc8; simp at h; omega
 have hke : k = n := by omega
 subst hke
 rw [take_all hlp (Nat.le_refl _)] at hO
 refine X_exit ?_
 refine at_then_e ?_
 refine at_then_e ?_
 refine at_block_hit ?_
 refine at_then ?_
 refine zR ?_
 refine zM ?_
 refine zA ?_
 refine zN ?_
 refine X_ret ?_
 exact at_freezeO hO encI_len (by decide) (by repeat (first | exact .cons .here .nil | exact split_all | exact split_app | apply split_cons | apply split_skip)) (fun I7 hI7 a7 c7 e7 hS7 => by cases e7; exact at_ret1 rfl rfl (fun w hw => ⟨_, I7, [], rfl, hIc.trans hI7, hw.drop, rfl, a7, c7, by rw [List.length_map, hlp], by rw [List.length_map, hlp]; exact hS7⟩))
theorem w_over {I : HMap} (p q : Pt) (hNp : Nd I p) (hNq : Nd I q) : RetV Tryz.prog 12 [encPA p, encPA q] I (.tuple #[.bool (ovV p q), .int .i64 (ovE p q)]) := by
 intro g H w hw
 refine enter Tryz.func12 rfl Tryz.ntmps12 rfl hw ?_
 have hIc := HLe.refl I
 refine zR ?_
 refine XO_box rfl rfl rfl (fun b_2 => ?_)
 refine XO_box rfl rfl rfl (fun b_3 => ?_)
 refine zA ?_
 refine zA ?_
 refine zN ?_
 refine X_seq ?_
 refine X_seq ?_
 refine X_freeze .here (fun I1 hI1 hb1 => ?_)
 have hNp := hNp.mono hI1; have hNq := hNq.mono hI1; have hIc := hIc.trans hI1
 have h3 := ImmC.of hb1
 refine X_freeze .here (fun I2 hI2 hb2 => ?_)
 have hNp := hNp.mono hI2; have hNq := hNq.mono hI2; have h3 := h3.mono hI2; have hIc := hIc.trans hI2
 have h2 := ImmC.of hb2
 refine X_region ?_
 refine zV (ev_loadA rfl agt_44 (fun hg => by exact Cells.immC (vs := encP p) h2) rfl) ?_
 refine zV (ev_loadA rfl agt_44 (fun hg => by exact Cells.immC (vs := encP q) h3) rfl) ?_
 refine XO_buildSlice (ps := [(0, _), (1, _)]) (m := [encP p, encP q]) elt_33 rfl (.cons rfl (.cons rfl (.nil))) rfl (by simp [encP_len]) (by decide) (by decide) rfl rfl (fun b_11 => ?_)
 refine XO_freeze (by repeat (first | exact Take.here | apply Take.there)) (fun I3 hI3 hb3 => ?_)
 have hNp := hNp.mono hI3; have hNq := hNq.mono hI3; have h3 := h3.mono hI3; have h2 := h2.mono hI3; have hIc := hIc.trans hI3
 have hS := Sl.lit ([p, q] : List Pt) rfl encP_len (show I3 b_11 = some (Obj.cells (([p, q] : List Pt).flatMap encP).toArray 44 (0, 0)) from hb3)
 refine zQ slt_33 ?_
 refine zM ?_
 refine zN ?_
 refine X_block ?_
 refine X_loopT [(2, _), (3, _), (11, _), (12, _)] (.cons rfl (.cons rfl (.cons rfl (.cons rfl .nil)))) (fun T L0 mz E I' loc' => ∃ (k : Nat), mz = 2 - k ∧ E = (13, .int .i64 k) :: T ∧ I3 = I' ∧ L0 = loc' ∧ k ≤ 2 ∧ (∀ j, j < k → ∀ y, ([p, q] : List Pt)[j]? = some y → pchk y = 0)) _ _ _ _ ⟨0, rfl, rfl, rfl, rfl, Nat.zero_le _, fun j hj => absurd hj (Nat.not_lt_zero _)⟩ (.cons rfl (.cons rfl (.cons rfl (.cons rfl (.cons rfl .nil))))) (HLe.refl _) rfl ?_
 rintro mz E I' loc' ⟨k, rfl, rfl, rfl, rfl, hk, hz⟩
 refine zR ?_
 refine zC ?_
 refine zN ?_
 refine X_seq ?_
 refine zI ?_ ?_ <;> intro hc14
 ·
  have hlt_k : k < 2 := by have h := hc14; simp at h; omega
  obtain ⟨x, hx⟩ := hS.at hlt_k
  have hNd : ∀ y ∈ ([p, q] : List Pt), Nd I3 y := by intro y hy; simp only [List.mem_cons, List.not_mem_nil, or_false] at hy; rcases hy with rfl | rfl <;> assumption
  refine X_skip ?_
  refine at_then ?_
  refine X_seq ?_
  refine X_block ?_
  refine zR ?_
  refine zV (ev_indexSl rfl rfl slt_33 hS (fun hg => by omega)) ?_
  refine zV (ev_loadA rfl agt_44 (fun hg => by exact Sl.getA hS hx) rfl) ?_
  refine XO_alloc zt_44 rfl rfl (fun b_7 => ?_)
  refine XO_storeA rfl rfl szt_44 rfl rfl rfl rfl (by repeat (first | exact Upd.here | apply Upd.there | apply upd_app)) ?_
  refine zN (zR ?_)
  refine zV (ev_loadA rfl agt_44 (fun hg => by (repeat (first | exact Cells.here | exact Cells.s0 (vs := [_, _, _, _, _, _, _, _, _, _, _, _, _, _, _, _, _, _, _]) rfl | apply Cells.there | apply Cells.app))) rfl) ?_
  refine XO_callV0 (cap := []) (vs := [_]) rfl rfl fun_26 (w_pchk x (hNd x (List.mem_of_getElem? hx))) rfl rfl ?_
  refine zA ?_
  refine zN (zR ?_)
  refine zM ?_
  refine zC ?_
  refine zN ?_
  refine zI ?_ ?_ <;> intro hc20
  ·
   have hne : pchk x ≠ 0 := by simpa using hc20
   refine zR ?_
   refine zM ?_
   refine zA ?_
   refine zA ?_
   refine zN ?_
   refine X_ret ?_
   refine at_block_r ?_
   refine at_then_r ?_
   refine at_then_r ?_
   refine at_block_r ?_
   refine at_then_r ?_
   exact at_ret2 rfl rfl rfl (fun w hw => ⟨by rw [ov_bad hx hz hne], (hw.mono hIc).drop⟩)
  refine X_skip ?_
  refine at_block_n ?_
  refine at_then ?_
  refine X_region ?_
  refine zB ?_
  refine zM ?_
  refine XO_nil ?_
  exact at_met2 _ _ ⟨2 - (k + 1), by omega, k + 1, rfl, rfl, rfl, rfl, by omega, ov_snoc hx hz (by simpa using hc20)⟩ (.cons rfl (.cons rfl (.cons rfl (.cons rfl (.cons rfl .nil))))) (by repeat (first | exact .refl | exact subL_left | refine subL_app ?_ | refine .drop ?_ | refine subL_add ?_))
 have hge_k : 2 ≤ k := by have h := hc14; simp at h; omega
 have hp0 := hz 0 (by omega) p rfl
 have hq0 := hz 1 (by omega) q rfl
 refine X_exit ?_
 refine at_then_e ?_
 refine at_then_e ?_
 refine at_block_hit ?_
 refine at_then ?_
 refine zR ?_
 refine zF fld_44_1 ?_
 refine zV (ev_load rfl sct_3 (fun hg => by exact Cell.imm h2 rfl)) ?_
 refine zC ?_
 refine zM ?_
 refine XO_pushF 3 rfl rfl rfl ?_
 refine zJ (ev_fieldAddr rfl fld_44_1) ?_
 refine zJ (ev_load rfl sct_3 (fun hg => by exact Cell.imm h3 rfl)) ?_
 refine zJ (ev_cmp rfl rfl rfl) ?_
 refine XO_or0 rfl rfl rfl rfl rfl ?_
 refine zA ?_
 refine zN (zR ?_)
 refine zF fld_44_2 ?_
 refine zV (ev_load rfl sct_3 (fun hg => by exact Cell.imm h2 rfl)) ?_
 refine zF fld_44_2 ?_
 refine zV (ev_load rfl sct_3 (fun hg => by exact Cell.imm h3 rfl)) ?_
 refine zC ?_
 refine zM ?_
 refine XO_pushT 5 rfl rfl rfl ?_
 refine zK (ev_move rfl) ?_
 refine zK (ev_move rfl) ?_
 refine XO_pushF 7 rfl rfl rfl ?_
 refine zJ (ev_fieldAddr rfl fld_44_3) ?_
 refine zJ (ev_load rfl sct_3 (fun hg => by exact Cell.imm h2 rfl)) ?_
 refine zJ (ev_fieldAddr rfl fld_44_3) ?_
 refine zJ (ev_load rfl sct_3 (fun hg => by exact Cell.imm h3 rfl)) ?_
 refine zJ (ev_cmp rfl rfl rfl) ?_
 refine XO_or1 rfl rfl rfl (.some rfl rfl rfl rfl gbt) rfl rfl ?_
 refine XO_and0 rfl rfl rfl rfl rfl ?_
 refine zA ?_
 refine zA ?_
 refine zN ?_
 refine X_ret ?_
 first
 | exact at_ret2 rfl rfl rfl (fun w hw => ⟨by rw [ov_good hp0 hq0]; rfl, (hw.mono hIc).drop⟩)
theorem w_roleOf (I : HMap) (b o : Nat) : RetV Tryz.prog 99 [.pointer (some ⟨b, o, none⟩)] I (.pointer (some ⟨b, o + 1, none⟩)) := by
 intro g H w hw
 refine enter Tryz.func99 rfl Tryz.ntmps99 rfl hw ?_
 refine zR ?_
 refine zA ?_
 refine zN (zR ?_)
 refine zM ?_
 refine zV (ev_nilCheck rfl) ?_
 refine zF fld_26_1 ?_
 refine zA ?_
 refine zN ?_
 refine X_ret ?_
 exact at_ret1 rfl rfl (fun w hw => ⟨by rfl, hw.drop⟩)
theorem w_barOf (I : HMap) (b o : Nat) : RetV Tryz.prog 100 [.pointer (some ⟨b, o, none⟩)] I (.pointer (some ⟨b, o + 2, none⟩)) := by
 intro g H w hw
 refine enter Tryz.func100 rfl Tryz.ntmps100 rfl hw ?_
 refine zR ?_
 refine zA ?_
 refine zN (zR ?_)
 refine zM ?_
 refine zV (ev_nilCheck rfl) ?_
 refine zF fld_26_2 ?_
 refine zA ?_
 refine zN ?_
 refine X_ret ?_
 exact at_ret1 rfl rfl (fun w hw => ⟨by rfl, hw.drop⟩)
theorem w_markOf (I : HMap) (b o : Nat) : RetV Tryz.prog 101 [.pointer (some ⟨b, o, none⟩)] I (.pointer (some ⟨b, o + 3, none⟩)) := by
 intro g H w hw
 refine enter Tryz.func101 rfl Tryz.ntmps101 rfl hw ?_
 refine zR ?_
 refine zA ?_
 refine zN (zR ?_)
 refine zM ?_
 refine zV (ev_nilCheck rfl) ?_
 refine zF fld_26_3 ?_
 refine zA ?_
 refine zN ?_
 refine X_ret ?_
 exact at_ret1 rfl rfl (fun w hw => ⟨by rfl, hw.drop⟩)
theorem w_sideOf (I : HMap) (b o : Nat) : RetV Tryz.prog 102 [.pointer (some ⟨b, o, none⟩)] I (.pointer (some ⟨b, o + 5, none⟩)) := by
 intro g H w hw
 refine enter Tryz.func102 rfl Tryz.ntmps102 rfl hw ?_
 refine zR ?_
 refine zA ?_
 refine zN (zR ?_)
 refine zM ?_
 refine zV (ev_nilCheck rfl) ?_
 refine zF fld_26_5 ?_
 refine zA ?_
 refine zN ?_
 refine X_ret ?_
 exact at_ret1 rfl rfl (fun w hw => ⟨by rfl, hw.drop⟩)
theorem w_dirOf (I : HMap) (b o : Nat) : RetV Tryz.prog 103 [.pointer (some ⟨b, o, none⟩)] I (.pointer (some ⟨b, o + 6, none⟩)) := by
 intro g H w hw
 refine enter Tryz.func103 rfl Tryz.ntmps103 rfl hw ?_
 refine zR ?_
 refine zA ?_
 refine zN (zR ?_)
 refine zM ?_
 refine zV (ev_nilCheck rfl) ?_
 refine zF fld_26_6 ?_
 refine zA ?_
 refine zN ?_
 refine X_ret ?_
 exact at_ret1 rfl rfl (fun w hw => ⟨by rfl, hw.drop⟩)
theorem w_levelOf (I : HMap) (b o : Nat) : RetV Tryz.prog 104 [.pointer (some ⟨b, o, none⟩)] I (.pointer (some ⟨b, o + 7, none⟩)) := by
 intro g H w hw
 refine enter Tryz.func104 rfl Tryz.ntmps104 rfl hw ?_
 refine zR ?_
 refine zA ?_
 refine zN (zR ?_)
 refine zM ?_
 refine zV (ev_nilCheck rfl) ?_
 refine zF fld_26_7 ?_
 refine zA ?_
 refine zN ?_
 refine X_ret ?_
 exact at_ret1 rfl rfl (fun w hw => ⟨by rfl, hw.drop⟩)
theorem w_sizeOf (I : HMap) (b o : Nat) : RetV Tryz.prog 105 [.pointer (some ⟨b, o, none⟩)] I (.pointer (some ⟨b, o + 8, none⟩)) := by
 intro g H w hw
 refine enter Tryz.func105 rfl Tryz.ntmps105 rfl hw ?_
 refine zR ?_
 refine zA ?_
 refine zN (zR ?_)
 refine zM ?_
 refine zV (ev_nilCheck rfl) ?_
 refine zF fld_26_8 ?_
 refine zA ?_
 refine zN ?_
 refine X_ret ?_
 exact at_ret1 rfl rfl (fun w hw => ⟨by rfl, hw.drop⟩)
theorem w_withOf (I : HMap) (b o : Nat) : RetV Tryz.prog 106 [.pointer (some ⟨b, o, none⟩)] I (.pointer (some ⟨b, o + 9, none⟩)) := by
 intro g H w hw
 refine enter Tryz.func106 rfl Tryz.ntmps106 rfl hw ?_
 refine zR ?_
 refine zA ?_
 refine zN (zR ?_)
 refine zM ?_
 refine zV (ev_nilCheck rfl) ?_
 refine zF fld_26_9 ?_
 refine zA ?_
 refine zN ?_
 refine X_ret ?_
 exact at_ret1 rfl rfl (fun w hw => ⟨by rfl, hw.drop⟩)
end Go.Proofs.YtoicbikdenlioaaGreat
end
section
namespace Go.Proofs.YtoicbikdenlioaaGreat
open Go Go.Kn Go.Proofs
theorem eqt_24 : EqT Tryz.prog 24 [.int, .int] := ⟨by kernel_rfl, by kernel_rfl, by kernel_rfl, by kernel_rfl⟩
theorem fun_24 : Fun Tryz.prog 24 := .of Tryz.func24 (by kernel_rfl) (by kernel_rfl)
theorem fun_74 : Fun Tryz.prog 74 := .of Tryz.func74 (by kernel_rfl) (by kernel_rfl)
theorem fun_75 : Fun Tryz.prog 75 := .of Tryz.func75 (by kernel_rfl) (by kernel_rfl)
theorem plt_44 : PlT Tryz.prog 44 #[(0, 1), (1, 1), (2, 1), (3, 1), (4, 14), (18, 1)] (.agg #[(.int .i64 0), (.int .i64 0), (.int .i64 0), (.int .i64 0), (.int .i64 0), (.int .i64 0), (.int .i64 0), (.int .i64 0), (.int .i64 0), (.int .i64 0), (.int .i64 0), (.int .i64 0), (.int .i64 0), (.int .i64 0), (.int .i64 0), (.int .i64 0), (.int .i64 0), (.int .i64 0), (.slice none 0 0)]) := ⟨.of (by kernel_rfl), by kernel_rfl, fun w => by kernel_rfl⟩
theorem zt_116 : ZeroT Tryz.prog 116 (.agg #[(.int .i64 0), .nilFunc]) := .of (by kernel_rfl)
theorem w_fieldsO (I : HMap) : RetM Tryz.prog 75 [] I [] (fun v I' L => I = I' ∧ ∃ b7, v = .slice (some ⟨b7, 0, none⟩) 8 8 ∧ L = [(b7, .cells (([(1, 99), (2, 100), (3, 101), (4, 102), (5, 103), (6, 104), (7, 105), (8, 106)] : List Fd).flatMap encFd).toArray 116 (0, 0))]) := by
 intro g H w hw
 refine enter Tryz.func75 rfl Tryz.ntmps75 rfl hw ?_
 refine zR ?_
 refine zA ?_
 refine zN (zR ?_)
 refine zV (ev_buildL (ps := [(0, _), (1, _)]) [_, _] plt_116 rfl rfl) ?_
 refine zV (ev_buildL (ps := [(0, _), (1, _)]) [_, _] plt_116 rfl rfl) ?_
 refine zV (ev_buildL (ps := [(0, _), (1, _)]) [_, _] plt_116 rfl rfl) ?_
 refine zV (ev_buildL (ps := [(0, _), (1, _)]) [_, _] plt_116 rfl rfl) ?_
 refine zV (ev_buildL (ps := [(0, _), (1, _)]) [_, _] plt_116 rfl rfl) ?_
 refine zV (ev_buildL (ps := [(0, _), (1, _)]) [_, _] plt_116 rfl rfl) ?_
 refine zV (ev_buildL (ps := [(0, _), (1, _)]) [_, _] plt_116 rfl rfl) ?_
 refine zV (ev_buildL (ps := [(0, _), (1, _)]) [_, _] plt_116 rfl rfl) ?_
 refine XO_buildSlice (ps := [(0, _), (1, _), (2, _), (3, _), (4, _), (5, _), (6, _), (7, _)]) (m := [encFd (1, 99), encFd (2, 100), encFd (3, 101), encFd (4, 102), encFd (5, 103), encFd (6, 104), encFd (7, 105), encFd (8, 106)]) elt_112 rfl (.cons rfl (.cons rfl (.cons rfl (.cons rfl (.cons rfl (.cons rfl (.cons rfl (.cons rfl (.nil))))))))) rfl (by simp [encFd_len]) (by decide) (by decide) rfl rfl (fun b_9 => ?_)
 refine zA ?_
 refine zN ?_
 refine X_ret ?_
 exact at_ret1 rfl rfl (fun w hw => ⟨_, I, _, rfl, HLe.refl _, hw, rfl, b_9, rfl, rfl⟩)
theorem fd_at {k : Nat} {fd : Fd} (h : ([(1, 99), (2, 100), (3, 101), (4, 102), (5, 103), (6, 104), (7, 105), (8, 106)] : List Fd)[k]? = some fd) : ∃ f, fd = ((k : Int) + 1, f) ∧ Fun Tryz.prog f ∧ ∀ (I : HMap) (b o : Nat), RetV Tryz.prog f [.pointer (some ⟨b, o, none⟩)] I (.pointer (some ⟨b, o + offF ((k : Int) + 1), none⟩)) := by
 have hk := (List.getElem?_eq_some_iff.1 h).1
 have hc : k = 0 ∨ k = 1 ∨ k = 2 ∨ k = 3 ∨ k = 4 ∨ k = 5 ∨ k = 6 ∨ k = 7 := by simp at hk; omega
 rcases hc with rfl | rfl | rfl | rfl | rfl | rfl | rfl | rfl <;> cases h
 ·
  exact ⟨99, rfl, fun_99, w_roleOf⟩
 ·
  exact ⟨100, rfl, fun_100, w_barOf⟩
 ·
  exact ⟨101, rfl, fun_101, w_markOf⟩
 ·
  exact ⟨102, rfl, fun_102, w_sideOf⟩
 ·
  exact ⟨103, rfl, fun_103, w_dirOf⟩
 ·
  exact ⟨104, rfl, fun_104, w_levelOf⟩
 ·
  exact ⟨105, rfl, fun_105, w_sizeOf⟩
 exact ⟨106, rfl, fun_106, w_withOf⟩
theorem w_changes (I : HMap) (x y : Sg) : RetM Tryz.prog 24 [encGA x, encGA y] I [] (fun v I' L => L = [] ∧ ∃ b1 b2, v = .func (.func 74) #[] [capP b1, capP b2].toArray ∧ ImmC I' b1 (.cells (encG x).toArray 26 (0, 0)) ∧ ImmC I' b2 (.cells (encG y).toArray 26 (0, 0))) := by
 intro g H w hw
 refine enter Tryz.func24 rfl Tryz.ntmps24 rfl hw ?_
 have hIc := HLe.refl I
 refine zR ?_
 refine XO_box rfl rfl rfl (fun b_2 => ?_)
 refine XO_box rfl rfl rfl (fun b_3 => ?_)
 refine zA ?_
 refine zN ?_
 refine X_seq ?_
 refine X_freeze .here (fun I1 hI1 hb1 => ?_)
 have hIc := hIc.trans hI1
 have h3 := ImmC.of hb1
 refine X_freeze .here (fun I2 hI2 hb2 => ?_)
 have h3 := h3.mono hI2; have hIc := hIc.trans hI2
 have h2 := ImmC.of hb2
 refine X_region ?_
 refine zV (ev_makeFunc (us := []) (vs := [_, _]) rfl rfl) ?_
 refine zA ?_
 refine zN ?_
 refine X_ret ?_
 exact at_ret1 rfl rfl (fun w hw => ⟨_, I2, [], rfl, hIc, hw.drop, rfl, b_2, b_3, rfl, h2, h3⟩)
theorem w_chIt {I : HMap} {x y : Sg} {b1 b2 : Nat} (h1 : I b1 = some (.cells (encG x).toArray 26 (0, 0))) (h2 : I b2 = some (.cells (encG y).toArray 26 (0, 0))) : SeqC Tryz.prog 74 [capP b1, capP b2] I encPA (chP x y 9) := by
 intro g l J Jx hY I0 H w h0 hJ hw
 have h1 := h0 _ _ h1; have h2 := h0 _ _ h2
 refine enter Tryz.func74 rfl Tryz.ntmps74 rfl hw ?_
 refine X_seq ?_
 refine zR ?_
 refine XO_callM (cap := []) (vs := []) rfl rfl fun_75 .nil (w_fieldsO I0) rfl rfl ?_
 rintro vv1 I1 L1 hI1 ⟨rfl, b7, rfl, rfl⟩
 refine zQ slt_112 ?_
 refine zM ?_
 refine zN ?_
 refine X_block ?_
 refine X_loopH (fun m E I' H' loc' => ∃ k : Nat, m = 8 - k ∧ E = [(0, .func (.yield l) #[] #[]), (1, capP b1), (2, capP b2), (7, .slice (some ⟨b7, 0, none⟩) 8 8), (8, .int .i64 8), (9, .int .i64 k)] ∧ loc' = [(b7, .cells (([(1, 99), (2, 100), (3, 101), (4, 102), (5, 103), (6, 104), (7, 105), (8, 106)] : List Fd).flatMap encFd).toArray 116 (0, 0))] ∧ HLe I0 I' ∧ k ≤ 8 ∧ J (chP x y k) I' H') _ _ _ ⟨0, rfl, rfl, rfl, HLe.refl _, Nat.zero_le _, hJ⟩ (.cons rfl (.cons rfl (.cons rfl (.cons rfl (.cons rfl (.cons rfl .nil)))))) rfl ?_
 rintro m E J9 H' loc' ⟨k, rfl, rfl, rfl, hI1, hk, hJk⟩
 have h1 := hI1 _ _ h1
 have h2 := hI1 _ _ h2
 have hI0 := h0.trans hI1
 refine zR ?_
 refine zC ?_
 refine zN ?_
 refine X_seq ?_
 refine zI ?_ ?_ <;> intro hc10
 ·
  have hlt : k < 8 := by have h := hc10; simp at h; omega
  obtain ⟨fd, hfd⟩ : ∃ fd, ([(1, 99), (2, 100), (3, 101), (4, 102), (5, 103), (6, 104), (7, 105), (8, 106)] : List Fd)[k]? = some fd := ⟨_, List.getElem?_eq_getElem hlt⟩
  obtain ⟨fn, rfl, hFn, hfr⟩ := fd_at hfd
  refine X_skip ?_
  refine at_then ?_
  refine X_seq ?_
  refine X_block ?_
  refine zR ?_
  refine zV (ev_indexOwn rfl rfl slt_112 (fun hg => by omega)) ?_
  refine zV (ev_loadA rfl agt_116 (fun hg => by exact (own_cells encFd_len hfd _)) rfl) ?_
  refine XO_alloc zt_116 rfl rfl (fun b_5 => ?_)
  refine XO_storeA rfl rfl szt_116 rfl rfl rfl rfl (by repeat (first | exact Upd.here | apply Upd.there | apply upd_app)) ?_
  refine zN ?_
  refine X_seq ?_
  refine X_cutT [(0, _), (1, _), (2, _), (5, _), (7, _), (8, _), (9, _)] (.cons rfl (.cons rfl (.cons rfl (.cons rfl (.cons rfl (.cons rfl (.cons rfl .nil))))))) (fun T L0 E I' loc' => E = (23, .bool (fvG x ((k : Int) + 1) == fvG y ((k : Int) + 1))) :: T ∧ J9 = I' ∧ [(b_5, .cells (encFd ((k : Int) + 1, fn)).toArray 116 (0, 0)), (b7, .cells (([(1, 99), (2, 100), (3, 101), (4, 102), (5, 103), (6, 104), (7, 105), (8, 106)] : List Fd).flatMap encFd).toArray 116 (0, 0))] = loc' ∧ True) ?_ ?_
  ·
   have hD := HLe.refl J9
   refine X_drawC mixed ?_
   refine zT 0 rfl (ev_fieldAddr rfl fld_116_1) hD ?_
   refine zT 1 rfl (ev_load rfl sct_114 (fun hg => by (repeat (first | exact Cell.here rfl | apply Cell.there | apply Cell.app)))) hD ?_
   refine zT 5 rfl (ev_fieldAddr rfl fld_116_1) hD ?_
   refine zT 6 rfl (ev_load rfl sct_114 (fun hg => by (repeat (first | exact Cell.here rfl | apply Cell.there | apply Cell.app)))) hD ?_
   refine XD_one 2 rfl (by kernel_rfl) ?_
   refine XO_callV0 (cap := []) (vs := [_]) rfl rfl hFn (hfr _ _ _) rfl rfl ?_
   refine XO_nil ?_
   refine zD hD ?_
   refine zT 3 rfl (ev_nilCheck rfl) hD ?_
   refine zT 4 rfl (ev_load rfl sct_3 (fun hg => by exact (fld_cell h1 hlt))) hD ?_
   refine XD_one 7 rfl (by kernel_rfl) ?_
   refine XO_callV0 (cap := []) (vs := [_]) rfl rfl hFn (hfr _ _ _) rfl rfl ?_
   refine XO_nil ?_
   refine zD hD ?_
   refine zT 8 rfl (ev_nilCheck rfl) hD ?_
   refine zT 9 rfl (ev_load rfl sct_3 (fun hg => by exact (fld_cell h2 hlt))) hD ?_
   refine zT 10 rfl (ev_cmp rfl rfl rfl) hD ?_
   refine XD_done (by kernel_rfl) ?_
   refine at_noP ?_
   exact at_met2 _ _ ⟨rfl, rfl, rfl, trivial⟩ (.cons rfl (.cons rfl (.cons rfl (.cons rfl (.cons rfl (.cons rfl (.cons rfl (.cons rfl .nil)))))))) (by repeat (first | exact .refl | exact subL_left | refine subL_app ?_ | refine .drop ?_ | refine subL_add ?_))
  rintro E I' loc' ⟨rfl, rfl, rfl, _⟩
  refine zI ?_ ?_ <;> intro hc23
  ·
   have heq : fldG x ((k : Int) + 1) = fldG y ((k : Int) + 1) := (fv_eq hlt).2 (by simpa using hc23)
   refine X_exit ?_
   refine at_then_e ?_
   refine at_block_hit ?_
   refine at_then ?_
   refine X_region ?_
   refine zB ?_
   refine zM ?_
   refine XO_nil ?_
   first
   | exact at_metH2 rfl rfl rfl _ [(b7, .cells (([(1, 99), (2, 100), (3, 101), (4, 102), (5, 103), (6, 104), (7, 105), (8, 106)] : List Fd).flatMap encFd).toArray 116 (0, 0))] ⟨8 - (k + 1), by omega, k + 1, rfl, rfl, rfl, hI1, by omega, by rw [chP_no heq]; exact hJk⟩ (.cons rfl (.cons rfl (.cons rfl (.cons rfl (.cons rfl (.cons rfl .nil)))))) (by repeat (first | exact .refl | refine .drop ?_))
  have hneq : fldG x ((k : Int) + 1) ≠ fldG y ((k : Int) + 1) := fun e => by have := (fv_eq hlt).1 e; simp [this] at hc23
  have hpre : chP x y k ++ [setPt x y ((k : Int) + 1)] <+: chP x y 9 := by rw [← chP_yes hneq]; exact chP_pre (by omega)
  refine X_skip ?_
  refine at_then ?_
  refine zR ?_
  refine zF fld_26_0 ?_
  refine zV (ev_load rfl sct_3 (fun hg => by exact Cell.imm h1 rfl)) ?_
  refine zF fld_116_0 ?_
  refine zV (ev_load rfl sct_3 (fun hg => by (repeat (first | exact Cell.here rfl | apply Cell.there | apply Cell.app)))) ?_
  refine zV (ev_buildL (ps := [(1, _), (2, _), (3, _)]) [_, _, _, _, _, _, _, _, _, _, _, _, _, _, _, _, _, _, _] plt_44 rfl rfl) ?_
  refine XO_alloc zt_44 rfl rfl (fun b_6 => ?_)
  refine XO_storeA rfl rfl szt_44 rfl rfl rfl rfl (by repeat (first | exact Upd.here | apply Upd.there | apply upd_app)) ?_
  refine zN ?_
  refine X_cutT [(0, _), (1, _), (2, _), (6, _), (7, _), (8, _), (9, _)] (.cons rfl (.cons rfl (.cons rfl (.cons rfl (.cons rfl (.cons rfl (.cons rfl .nil))))))) (fun T L0 E I' loc' => E = T ∧ J9 = I' ∧ [(b_6, .cells (encP (setPt x y ((k : Int) + 1))).toArray 44 (0, 0)), (b_5, .cells (encFd ((k : Int) + 1, fn)).toArray 116 (0, 0)), (b7, .cells (([(1, 99), (2, 100), (3, 101), (4, 102), (5, 103), (6, 104), (7, 105), (8, 106)] : List Fd).flatMap encFd).toArray 116 (0, 0))] = loc' ∧ True) ?_ ?_
  ·
   have hD := HLe.refl J9
   refine X_noP ?_
   refine X_drawS J9 [(b_5, .cells (encFd ((k : Int) + 1, fn)).toArray 116 (0, 0)), (b7, .cells (([(1, 99), (2, 100), (3, 101), (4, 102), (5, 103), (6, 104), (7, 105), (8, 106)] : List Fd).flatMap encFd).toArray 116 (0, 0))] mixed ?_
   refine zT 0 rfl (ev_fieldAddr rfl fld_116_1) hD ?_
   refine zT 1 rfl (ev_load rfl sct_114 (fun hg => by (repeat (first | exact Cell.here rfl | apply Cell.there | apply Cell.app)))) hD ?_
   refine zT 2 rfl (ev_fieldAddr rfl fld_44_4) hD ?_
   refine zT 4 rfl (ev_fieldAddr rfl fld_116_1) hD ?_
   refine zT 5 rfl (ev_load rfl sct_114 (fun hg => by (repeat (first | exact Cell.here rfl | apply Cell.there | apply Cell.app)))) hD ?_
   refine XD_one 3 rfl (by kernel_rfl) ?_
   refine XO_callV0 (cap := []) (vs := [_]) rfl rfl hFn (hfr _ _ _) rfl rfl ?_
   refine XO_nil ?_
   refine zD hD ?_
   refine XD_one 6 rfl (by kernel_rfl) ?_
   refine XO_callV0 (cap := []) (vs := [_]) rfl rfl hFn (hfr _ _ _) rfl rfl ?_
   refine XO_nil ?_
   refine zD hD ?_
   refine zT 7 rfl (ev_nilCheck rfl) hD ?_
   refine zT 8 rfl (ev_load rfl sct_3 (fun hg => by exact (fld_cell h2 hlt))) hD ?_
   refine zT 9 rfl (ev_nilCheck rfl) hD ?_
   refine XD_one 10 rfl (by kernel_rfl) ?_
   refine XO_store rfl rfl szt_3 rfl rfl (by repeat (first | exact Upd.here | apply Upd.there)) (by exact off_lt hlt) ?_
   refine XO_nil ?_
   refine zD hD ?_
   refine XD_done (by kernel_rfl) ?_
   refine at_noP ?_
   exact at_met2 _ _ ⟨rfl, rfl, rfl, trivial⟩ (.cons rfl (.cons rfl (.cons rfl (.cons rfl (.cons rfl (.cons rfl (.cons rfl .nil))))))) (by rw [← set_off x y hlt]; exact .refl)
  rintro E I' loc' ⟨rfl, rfl, rfl, _⟩
  refine zR ?_
  refine zM ?_
  refine zV (ev_loadA rfl agt_44 (fun hg => by (repeat (first | exact Cells.here | exact Cells.s0 (vs := [_, _, _, _, _, _, _, _, _, _, _, _, _, _, _, _, _, _, _]) rfl | apply Cells.there | apply Cells.app))) rfl) ?_
  refine XO_yield0 (vs := [_]) (Post := fun b I2 H2 => if b then J (chP x y k ++ [setPt x y ((k : Int) + 1)]) I2 H2 else Jx (chP x y k ++ [setPt x y ((k : Int) + 1)]) I2 H2) rfl rfl rfl rfl (hY _ (setPt x y ((k : Int) + 1)) _ _ hpre hI0 hJk) ?_
  rintro t_41 I2 H2 hI2 hP2
  refine zO ?_
  refine zN ?_
  refine zI ?_ ?_ <;> intro hc42
  ·
   have ht : t_41 = false := by simpa using hc42
   subst ht
   have hJ2 : Jx (chP x y k ++ [setPt x y ((k : Int) + 1)]) I2 H2 := hP2
   refine X_ret ?_
   refine at_block_r ?_
   refine at_then_r ?_
   refine at_then_r ?_
   refine at_block_r ?_
   refine at_then_r ?_
   exact at_ret0 rfl (fun w hw => ⟨_, I2, H2, rfl, hI1.trans hI2, hw.drop, .inr ⟨_, hpre, hJ2⟩⟩)
  have ht : t_41 = true := by simpa using hc42
  subst ht
  have hJ2 : J (chP x y k ++ [setPt x y ((k : Int) + 1)]) I2 H2 := hP2
  refine X_skip ?_
  refine at_block_n ?_
  refine at_then ?_
  refine X_region ?_
  refine zB ?_
  refine zM ?_
  refine XO_nil ?_
  first
  | exact at_metH2 rfl rfl rfl _ [(b7, .cells (([(1, 99), (2, 100), (3, 101), (4, 102), (5, 103), (6, 104), (7, 105), (8, 106)] : List Fd).flatMap encFd).toArray 116 (0, 0))] ⟨8 - (k + 1), by omega, k + 1, rfl, rfl, rfl, hI1.trans hI2, by omega, by rw [chP_yes hneq]; exact hJ2⟩ (.cons rfl (.cons rfl (.cons rfl (.cons rfl (.cons rfl (.cons rfl .nil)))))) (by repeat (first | exact .refl | refine .drop ?_))
 have hke : k = 8 := by have h := hc10; simp at h; omega
 subst hke
 refine X_exit ?_
 refine at_then_e ?_
 refine at_then_e ?_
 refine at_block_hit ?_
 refine at_then ?_
 refine zR ?_
 refine zF fld_26_10 ?_
 refine zV (ev_loadA rfl agt_24 (fun hg => by exact span_f h1) rfl) ?_
 refine zF fld_26_10 ?_
 refine zV (ev_loadA rfl agt_24 (fun hg => by exact span_f h2) rfl) ?_
 refine zV (ev_neS rfl rfl eqt_24 rfl) ?_
 refine zM ?_
 refine XO_pushF 5 rfl rfl rfl ?_
 refine zJ (ev_fieldAddr rfl fld_26_11) ?_
 refine zJ (ev_loadA rfl agt_24 (fun hg => by exact span_t h1) rfl) ?_
 refine zJ (ev_fieldAddr rfl fld_26_11) ?_
 refine zJ (ev_loadA rfl agt_24 (fun hg => by exact span_t h2) rfl) ?_
 refine zJ (ev_neS rfl rfl eqt_24 rfl) ?_
 refine XO_or0 rfl rfl rfl rfl rfl ?_
 refine zN ?_
 refine zI ?_ ?_ <;> intro hc55
 ·
  have hn9 : fldG x (((8 : Nat) : Int) + 1) ≠ fldG y (((8 : Nat) : Int) + 1) := sp_ne hc55
  have hpre9 : chP x y 8 ++ [setPt x y (((8 : Nat) : Int) + 1)] <+: chP x y 9 := by rw [← chP_yes hn9]; exact List.prefix_refl _
  refine X_region ?_
  refine zM ?_
  refine zF fld_26_0 ?_
  refine zV (ev_load rfl sct_3 (fun hg => by exact Cell.imm h1 rfl)) ?_
  refine zF fld_26_10 ?_
  refine zV (ev_loadA rfl agt_24 (fun hg => by exact span_f h2) rfl) ?_
  refine zF fld_26_11 ?_
  refine zV (ev_loadA rfl agt_24 (fun hg => by exact span_t h2) rfl) ?_
  refine zV (ev_buildL (ps := [(10, _), (11, _)]) [_, _, _, _, _, _, _, _, _, _, _, _, _, _] plt_26 rfl rfl) ?_
  refine zV (ev_buildL (ps := [(1, _), (2, _), (3, _), (4, _)]) [_, _, _, _, _, _, _, _, _, _, _, _, _, _, _, _, _, _, _] plt_44 rfl rfl) ?_
  refine XO_yield0 (vs := [_]) (Post := fun b I2 H2 => if b then J (chP x y 8 ++ [setPt x y (((8 : Nat) : Int) + 1)]) I2 H2 else Jx (chP x y 8 ++ [setPt x y (((8 : Nat) : Int) + 1)]) I2 H2) rfl rfl rfl rfl (hY _ (setPt x y (((8 : Nat) : Int) + 1)) _ _ hpre9 hI0 hJk) ?_
  rintro t_65 I2 H2 hI2 hP2
  refine XO_nil ?_
  first
  | exact at_norm (at_ret0 rfl (fun w hw => ⟨_, I2, H2, rfl, hI1.trans hI2, hw.drop, (by cases t_65 with | true => exact .inl (by rw [chP_yes hn9]; exact hP2) | false => exact .inr ⟨_, hpre9, hP2⟩)⟩))
 have he9 : fldG x (((8 : Nat) : Int) + 1) = fldG y (((8 : Nat) : Int) + 1) := sp_eq hc55
 refine X_skip ?_
 first
 | exact at_norm (at_ret0 rfl (fun w hw => ⟨_, J9, H', rfl, hI1, hw.drop, .inl (by rw [chP_no he9]; exact hJk)⟩))
end Go.Proofs.YtoicbikdenlioaaGreat
end
section
namespace Go.Kn
open Go
section
variable {g : World} {I I' H : HMap} {loc loc' L K A B : Loc} {w w' : World}
theorem St.permL (h : St g I H loc w) (hp : loc'.Perm loc) : St g I H loc' w := h.perm (fun p => hp.mem_iff) ((hp.map (·.1)).nodup_iff.2 h.nodup)
end
section
variable {α : Type} {C : Cx} {Q : Exit → Act → World → Prop} {E E' : Env} {I I' : HMap} {loc loc' L Z R : Loc}
variable {Jc : List α → HMap → HMap → Loc → Prop} {Jx : Code → List α → HMap → HMap → Loc → Prop} {pre : List α}
end
section
variable {α : Type} {P : Program} {N : Nat} {g : World} {p : Nat} {assign body : Code} {f : FuncId} {cap : List Value} {rel : Value → α → HMap → Prop} {xs : List α} {E : Env} {I H : HMap} {L B : Loc}
end
section
variable {α : Type} {P : Program} {N : Nat} {g : World} {H : HMap} {Q : Exit → Act → World → Prop} {gop : Operand} {p : Nat} {assign body : Code} {f : FuncId} {cap : List Value} {rel : Value → α → HMap → Prop} {xs : List α} {E : Env} {I : HMap} {L : Loc}
end
/-! ### A loop whose rounds may leave marks and turn the frame -/
section
variable {P : Program} {r : Option Nat} {N : Nat} {g : World} {H : HMap} {Q : Exit → Act → World → Prop} {E E' : Env} {I I' : HMap} {loc loc' L R : Loc} {ms : List Nat}
end
end Go.Kn
end
section
namespace Go.Kn
open Go
theorem X_perm {C : Cx} {Q : Exit → Act → World → Prop} {E : Env} {I : HMap} {loc : Loc} (loc' : Loc) {c : Code} (hp : loc'.Perm loc) (h : X C Q c E I loc') : X C Q c E I loc := fun a w ha hw => h a w ha (hw.permL hp)
end Go.Kn
namespace Go.Proofs.YtoicbikdenlioaaGreat
open Go Go.Kn Go.Proofs
theorem orF_snoc {xs : List Int} {k : Nat} {x : Int} (hx : xs[k]? = some x) (h : orF (xs.take k) = 0) (h0 : x = 0) : orF (xs.take (k + 1)) = 0 := by
  rw [take_snoc hx, orF_zero]
  intro z hz
  rcases List.mem_append.1 hz with h1 | h1
  · exact orF_zero.1 h z h1
  · simp only [List.mem_singleton] at h1; subst h1; exact h0
end Go.Proofs.YtoicbikdenlioaaGreat
end
section
namespace Go.Proofs.YtoicbikdenlioaaGreat
open Go Go.Kn Go.Proofs
theorem w_appSeqP {I : HMap} {f : Nat} {cap : List Value} {zs : List Pt} (hF : Fun Tryz.prog f) (hseq : SeqC Tryz.prog f cap I encPA zs) {v0 : Value} {n0 : Nat} {xs : List Pt} {L9 : Go.Kn.Loc} (hO0 : OwnS 44 19 v0 n0 (xs.flatMap encP) L9) (hn9 : n0 + zs.length ≤ 10000000) : RetM Tryz.prog 23 [v0, .func (.func f) #[] cap.toArray] I L9 ((fun v I' L => OwnS 44 19 v (n0 + zs.length) ((xs ++ zs).flatMap encP) L)) := by
 intro g H w hw
 refine enterM Tryz.func23 rfl Tryz.ntmps23 rfl hw ?_
 obtain ⟨va, vn, vc, rfl⟩ := hO0.val
 refine zR ?_
 refine XO_box rfl rfl rfl (fun b_2 => ?_)
 refine zA ?_
 refine zN ?_
 refine X_seq ?_
 refine X_seq ?_
 refine X_perm (L9 ++ [(b_2, .cells #[.slice va vn vc] 33 (0, 0))]) (List.perm_append_singleton _ _) ?_
 refine X_region ?_
 refine zM ?_
 refine zN ?_
 refine X_block ?_
 refine X_rangeFunc (enc := encPA) (fun pre I' loc' => ∃ (v : Value) (L : Go.Kn.Loc), loc' = L ++ [(b_2, .cells #[v] 33 (0, 0))] ∧ OwnS 44 19 v (n0 + pre.length) ((xs ++ pre).flatMap encP) L) (fun _ _ _ _ => False) (fun pre x E2 I2 loc2 => ∃ (v : Value) (L : Go.Kn.Loc) (b5 : Nat), E2 = [(2, capP b_2), (5, capP b5)] ∧ loc2 = (b5, .cells (encP x).toArray 44 (0, 0)) :: (L ++ [(b_2, .cells #[v] 33 (0, 0))]) ∧ OwnS 44 19 v (n0 + pre.length) ((xs ++ pre).flatMap encP) L) rfl hF hseq rfl ⟨_, L9, rfl, by rw [List.append_nil]; exact hO0⟩ ?_ ?_ ?_ ?_
 ·
  rintro l pre x I1 loc1 H1 hpre hI1 ⟨v, L, rfl, hO⟩
  refine X_region ?_
  refine XO_alloc zt_44 rfl rfl (fun b_5 => ?_)
  refine XO_storeA rfl rfl szt_44 rfl rfl rfl rfl (by repeat (first | exact Upd.here | apply Upd.there | apply upd_app)) ?_
  refine XO_nil ?_
  exact at_met' _ ⟨HLe.refl _, v, L, b_5, rfl, rfl, hO⟩ (.cons rfl (.cons rfl .nil))
 ·
  rintro l pre x E2 I2 loc2 H2 hpre hI2 ⟨v, L, b5, rfl, rfl, hO⟩
  have hple := hpre.length_le
  simp only [List.length_append, List.length_singleton] at hple
  refine X_block ?_
  refine X_region ?_
  refine zV (ev_load rfl sct_33 (fun hg => by exact Cell.there (Cell.app (Cell.here rfl)))) ?_
  refine zV (ev_loadA rfl agt_44 (fun hg => by first | (repeat (first | exact Cells.here | exact Cells.s0 (vs := [_, _, _, _, _, _, _, _, _, _, _, _, _, _, _, _, _, _, _]) rfl | apply Cells.there | apply Cells.app))) rfl) ?_
  refine XO_buildSlice (ps := [(0, _)]) (m := [encP x]) elt_33 rfl (.cons rfl (.nil)) rfl (by simp [encP_len]) (by decide) (by decide) rfl rfl (fun b_10 => ?_)
  refine XO_append (v := _) (ys := [x].flatMap encP) (L := L) rfl rfl elt_33 hO (by repeat (first | exact .cons .here .nil | exact split_all | exact split_app | apply split_cons | apply split_skip)) ⟨rfl, fun _ => rfl, by repeat (first | exact Cells.here | apply Cells.there | apply Cells.app)⟩ (one_P _) (by omega) rfl rfl ?_
  intro v8 L8 hO8 _; rw [← List.flatMap_append] at hO8
  refine XO_store rfl rfl szt_33 hO8.one rfl (by repeat (first | exact Upd.here | apply Upd.there | apply upd_app)) rfl ?_
  refine XO_nil ?_
  refine at_block_n ?_
  exact at_round2 (loc' := L8 ++ [(b_2, _)]) ⟨HLe.refl _, v8, L8, rfl, by rw [List.length_append, List.length_singleton, ← Nat.add_assoc, ← List.append_assoc]; exact hO8⟩ (by repeat (first | exact .refl | exact subL_left | refine subL_app ?_ | refine .drop ?_ | refine .keep ?_ | refine subL_add ?_))
 ·
  rintro bd I1 loc1 hI1 ⟨v, L, rfl, hO⟩
  refine at_block_n ?_
  refine at_then ?_
  refine zR ?_
  refine zV (ev_load rfl sct_33 (fun hg => by exact Cell.lft (Cell.app (Cell.here rfl)))) ?_
  refine zA ?_
  refine zN ?_
  refine X_ret ?_
  exact at_retM (fun a ha w _ => res1 rfl rfl a ha w) (upd_app (A := L ++ [(b_2, _)]) .here) (fun w hw => ⟨_, I1, L, rfl, hI1, (hw.subL subL_left).subL subL_left, hO⟩)
 rintro cd bd pre I1 loc1 hI1 hpre hF; exact hF.elim
theorem w_orE {I : HMap} {av : Option Addr} {n c : Nat} {xs : List Int} (hS : Sl I 1 encI av n c xs) (hn : n ≤ 100000) : RetV Tryz.prog 22 [.slice av n c] I (.int .i64 (orF xs)) := by
 intro g H w hw
 refine enter Tryz.func22 rfl Tryz.ntmps22 rfl hw ?_
 have hlx := hS.len
 refine zR ?_
 refine zA ?_
 refine zN (zR ?_)
 refine zA ?_
 refine zN ?_
 refine X_seq ?_
 refine zR ?_
 refine zM ?_
 refine zQ slt_110 ?_
 refine zM ?_
 refine zN ?_
 refine X_block ?_
 refine X_loopT [(3, _), (6, _), (7, _)] (.cons rfl (.cons rfl (.cons rfl .nil))) (fun T L0 mz E I' loc' => ∃ (k : Nat), mz = n - k ∧ E = (8, .int .i64 k) :: T ∧ I = I' ∧ L0 = loc' ∧ k ≤ n ∧ orF (xs.take k) = 0) _ _ _ _ ⟨0, rfl, rfl, rfl, rfl, Nat.zero_le _, rfl⟩ (.cons rfl (.cons rfl (.cons rfl (.cons rfl .nil)))) (HLe.refl _) rfl ?_
 rintro mz E I' loc' ⟨k, rfl, rfl, rfl, rfl, hk, hz⟩
 refine zR ?_
 refine zC ?_
 refine zN ?_
 refine X_seq ?_
 refine zI ?_ ?_ <;> intro hc9
 ·
  have hlt_k : k < n := by have h := hc9; simp at h; omega
  obtain ⟨x, hx⟩ := hS.at hlt_k
  refine X_skip ?_
  refine at_then ?_
  refine X_seq ?_
  refine X_block ?_
  refine zR ?_
  refine zV (ev_indexSl rfl rfl slt_110 hS (fun hg => by omega)) ?_
  refine zV (ev_load rfl sct_30 (fun hg => by exact Sl.get0 hS hx rfl)) ?_
  refine zA ?_
  refine zN (zR ?_)
  refine zM ?_
  refine zM ?_
  refine zC ?_
  refine zN ?_
  refine zI ?_ ?_ <;> intro hc14
  ·
   have hne : x ≠ 0 := by simpa using hc14
   refine zR ?_
   refine zM ?_
   refine zA ?_
   refine zN ?_
   refine X_ret ?_
   refine at_block_r ?_
   refine at_then_r ?_
   refine at_then_r ?_
   refine at_block_r ?_
   refine at_then_r ?_
   exact at_ret1 rfl rfl (fun w hw => ⟨by rw [orF_take hx hz hne], hw.drop⟩)
  refine X_skip ?_
  refine at_block_n ?_
  refine at_then ?_
  refine X_region ?_
  refine zV (ev_arB rfl rfl rfl (fun _ => by omega)) ?_
  refine zM ?_
  refine XO_nil ?_
  exact at_met2 _ _ ⟨n - (k + 1), by omega, k + 1, rfl, rfl, rfl, rfl, by omega, orF_snoc hx hz (by simpa using hc14)⟩ (.cons rfl (.cons rfl (.cons rfl (.cons rfl .nil)))) (by repeat (first | exact .refl | exact subL_left | refine subL_app ?_ | refine .drop ?_ | refine subL_add ?_))
 have hge_k : n ≤ k := by have h := hc9; simp at h; omega
 have hke : k = n := by omega
 subst hke
 rw [take_all hlx (Nat.le_refl _)] at hz
 refine X_exit ?_
 refine at_then_e ?_
 refine at_then_e ?_
 refine at_block_hit ?_
 refine at_then ?_
 refine zR ?_
 refine zM ?_
 refine zA ?_
 refine zN ?_
 refine X_ret ?_
 exact at_ret1 rfl rfl (fun w hw => ⟨by rw [hz], hw.drop⟩)
end Go.Proofs.YtoicbikdenlioaaGreat
end
section
namespace Go.Proofs.YtoicbikdenlioaaGreat
open Go Go.Kn Go.Proofs
def hdG (l : List Sg) : Sg := l.headD zeroG
theorem hd_at {I : HMap} {av : Option Addr} {n c : Nat} {l : List Sg} (h : Sl I 14 encG av n c l) (hn : 0 < n) : l[0]? = some (hdG l) := by
  have hl := h.len
  cases l with
  | nil => simp at hl; omega
  | cons x l => rfl
theorem hd_cons {I : HMap} {av : Option Addr} {n c : Nat} {l : List Sg} (h : Sl I 14 encG av n c l) (hn : 0 < n) : ∃ t, l = hdG l :: t := by
  have hl := h.len
  cases l with
  | nil => simp at hl; omega
  | cons x l => exact ⟨l, rfl⟩
theorem sl_tail {I : HMap} {av : Option Addr} {n c : Nat} {x : Sg} {l : List Sg} (h : Sl I 14 encG av n c (x :: l)) : Sl I 14 encG (sub2 av c 1 14) (n - 1) (c - 1) l := by
  have hl := h.len
  have := h.drop (k := 1) (by rw [← hl]; simp)
  simpa using this
/-- A difference's patch, before it has a number. -/
def mkP (c : Pc) : Pt := ⟨0, c.kind, c.sign, c.field, c.nw, none, 0, 0, []⟩
theorem ch_mk (x y : Sg) (k : Nat) : chP x y k = (chC x y k).map mkP := by
  unfold chP chC
  rw [List.map_filterMap]
  congr 1
  funext i
  split <;> rfl
theorem ch_len (x y : Sg) (k : Nat) : (chC x y k).length ≤ k := by
  unfold chC
  exact Nat.le_trans (List.length_filterMap_le _ _) (by rw [List.length_range]; exact Nat.le_refl _)
/-- How far the two lists are read. -/
def DfI (xs ys a b : List Sg) (done : List Pc) : Prop := dfL xs ys = (dfL a b).map (done ++ ·)
theorem DfI.start {xs ys : List Sg} : DfI xs ys xs ys [] := by
  unfold DfI
  cases dfL xs ys <;> rfl
theorem DfI.done {xs ys : List Sg} {l : List Pc} (h : DfI xs ys [] [] l) : dfL xs ys = some l := by
  unfold DfI at h
  rw [h]
  simp [dfL]
theorem map_map9 (o : Option (List Pc)) (d m : List Pc) : (o.map (m ++ ·)).map (d ++ ·) = o.map ((d ++ m) ++ ·) := by
  cases o with
  | none => rfl
  | some l => simp
theorem DfI.rm {xs ys a b : List Sg} {x : Sg} {l : List Pc} (h : DfI xs ys (x :: a) b l) (hb : b = [] ∨ x.id < (hdG b).id) : DfI xs ys a b (l ++ [rmC x]) := by
  unfold DfI at *
  have e : dfL (x :: a) b = (dfL a b).map ([rmC x] ++ ·) := by
    cases b with
    | nil => rw [dfL]; rfl
    | cons y b => rw [dfL, if_pos (by rcases hb with h | h; · cases h
                                      · exact h)]; rfl
  rw [h, e, map_map9]
theorem DfI.ins {xs ys a b : List Sg} {y : Sg} {l : List Pc} (h : DfI xs ys a (y :: b) l) (hb : a = [] ∨ y.id < (hdG a).id) : DfI xs ys a b (l ++ [inC y]) := by
  unfold DfI at *
  have e : dfL a (y :: b) = (dfL a b).map ([inC y] ++ ·) := by
    cases a with
    | nil => rw [dfL]; rfl
    | cons x a =>
      have hlt : y.id < x.id := by rcases hb with h | h; · cases h
                                   · exact h
      rw [dfL, if_neg (by omega), if_pos hlt]; rfl
  rw [h, e, map_map9]
theorem DfI.bad {xs ys a b : List Sg} {x y : Sg} {l : List Pc} (h : DfI xs ys (x :: a) (y :: b) l) (h1 : ¬ x.id < y.id) (h2 : ¬ y.id < x.id) (hk : x.kind ≠ y.kind) : dfL xs ys = none := by
  unfold DfI at h
  rw [h, dfL, if_neg h1, if_neg h2, if_pos hk]; rfl
theorem DfI.ch {xs ys a b : List Sg} {x y : Sg} {l : List Pc} (h : DfI xs ys (x :: a) (y :: b) l) (h1 : ¬ x.id < y.id) (h2 : ¬ y.id < x.id) (hk : x.kind = y.kind) : DfI xs ys a b (l ++ chC x y 9) := by
  unfold DfI at *
  rw [h, dfL, if_neg h1, if_neg h2, if_neg (by simpa using hk), map_map9]
/-- The patches of which the first k are numbered. -/
structure NumK (I : HMap) (first : Int) (ds : List Int) (l : List Pc) (k : Nat) (ps : List Pt) : Prop where
  len : ps.length = l.length
  old : ∀ (i : Nat) (c : Pc) (p : Pt), l[i]? = some c → ps[i]? = some p → i < k → p.id = first + i ∧ p.kind = c.kind ∧ p.sign = c.sign ∧ p.field = c.field ∧ p.nw = c.nw ∧ p.needs = ds ∧ Nd I p
  new : ∀ (i : Nat) (c : Pc) (p : Pt), l[i]? = some c → ps[i]? = some p → k ≤ i → p = mkP c
theorem NumK.start {I : HMap} {first : Int} {ds : List Int} {l : List Pc} : NumK I first ds l 0 (l.map mkP) where
  len := by simp
  old i c p hc hp hi := by omega
  new i c p hc hp _ := by rw [List.getElem?_map, hc] at hp; cases hp; rfl
def numP (c : Pc) (id : Int) (a : Option Addr) (n m : Nat) (ds : List Int) : Pt := ⟨id, c.kind, c.sign, c.field, c.nw, a, n, m, ds⟩
theorem NumK.step {I I' : HMap} {first : Int} {ds : List Int} {l : List Pc} {k : Nat} {ps : List Pt} {c : Pc} {a : Option Addr} {n m : Nat} (h : NumK I first ds l k ps) (hc : l[k]? = some c) (hI : HLe I I') (hN : Sl I' 1 encI a n m ds) : NumK I' first ds l (k + 1) (ps.set k (numP c (first + k) a n m ds)) where
  len := by rw [List.length_set]; exact h.len
  old i c' p hc' hp hi := by
    rw [List.getElem?_set] at hp
    split at hp
    · rename_i e
      subst e
      rw [hc] at hc'; cases hc'
      split at hp
      · cases hp; exact ⟨rfl, rfl, rfl, rfl, rfl, rfl, hN⟩
      · cases hp
    · rename_i e
      obtain ⟨h1, h2, h3, h4, h5, h6, h7⟩ := h.old i c' p hc' hp (by omega)
      exact ⟨h1, h2, h3, h4, h5, h6, h7.mono hI⟩
  new i c' p hc' hp hi := by
    rw [List.getElem?_set_ne (by omega)] at hp
    exact h.new i c' p hc' hp (by omega)
theorem NumK.mono {I I' : HMap} {first : Int} {ds : List Int} {l : List Pc} {k : Nat} {ps : List Pt} (h : NumK I first ds l k ps) (hI : HLe I I') : NumK I' first ds l k ps where
  len := h.len
  old i c p hc hp hi := by
    obtain ⟨h1, h2, h3, h4, h5, h6, h7⟩ := h.old i c p hc hp hi
    exact ⟨h1, h2, h3, h4, h5, h6, h7.mono hI⟩
  new := h.new
theorem NumK.num {I : HMap} {first : Int} {ds : List Int} {l : List Pc} {k : Nat} {ps : List Pt} (h : NumK I first ds l k ps) (hk : l.length ≤ k) : Num first ds l ps where
  len := h.len
  at_ i c p hc hp := by
    obtain ⟨h1, h2, h3, h4, h5, h6, h7⟩ := h.old i c p hc hp (by have := (List.getElem?_eq_some_iff.1 hc).1; omega)
    exact ⟨h1, h2, h3, h4, h5, h6⟩
theorem NumK.nd {I : HMap} {first : Int} {ds : List Int} {l : List Pc} {k : Nat} {ps : List Pt} (h : NumK I first ds l k ps) (hk : l.length ≤ k) : ∀ p ∈ ps, Nd I p := fun p hp => by
  obtain ⟨i, hi⟩ := List.getElem?_of_mem hp
  have hlt := (List.getElem?_eq_some_iff.1 hi).1
  have hc : l[i]? = some (l[i]'(by rw [← h.len]; exact hlt)) := List.getElem?_eq_getElem _
  exact (h.old i _ p hc hi (by rw [h.len] at hlt; omega)).2.2.2.2.2.2
/-- The two stores in a patch of one's own. -/
theorem splice_num {cur : List Value} {k : Nat} {c : Pc} {id : Int} {a : Option Addr} {n m : Nat} {ds : List Int} (hseg : (cur.drop (k * 19)).take 19 = encP (mkP c)) (hle : k * 19 + 19 ≤ cur.length) :
    ((cur.toArray.setIfInBounds (k * 19 + 0) (.int .i64 id)).setIfInBounds (k * 19 + 18) (.slice a n m)) = (spliceL cur (k * 19) (encP (numP c id a n m ds))).toArray := by
  have hsl := splice_eq (A := cur) (off := k * 19) (n := 19) (vs := encP (numP c id a n m ds)) (by omega) rfl
  rw [hsl]
  have hcur : cur = cur.take (k * 19) ++ (encP (mkP c) ++ cur.drop (k * 19 + 19)) := by
    conv => lhs; rw [← List.take_append_drop (k * 19) cur, ← List.take_append_drop 19 (cur.drop (k * 19)), hseg, List.drop_drop]
  have hl : (cur.take (k * 19)).length = k * 19 := by rw [List.length_take]; omega
  generalize cur.take (k * 19) = A at *
  generalize cur.drop (k * 19 + 19) = B at *
  subst hcur
  rw [List.setIfInBounds_toArray, List.setIfInBounds_toArray]
  congr 1
  rw [List.set_append_right _ _ (by omega), List.set_append_right _ _ (by omega), hl, Nat.add_sub_cancel_left, Nat.add_sub_cancel_left]
  rfl
theorem DifR.bad {a b : List Sg} {first : Int} {needs : List Int} (h : difE a b first needs ≠ 0) : DifR a b first needs [] := ⟨fun _ => rfl, fun h0 => absurd h0 h⟩
section
variable {a b : List Sg} {first : Int} {needs : List Int}
theorem dif_or (h : orF [chkG a, chkG b] ≠ 0) : difE a b first needs = orF [chkG a, chkG b] ∧ difE a b first needs ≠ 0 := by
  have e : difE a b first needs = orF [chkG a, chkG b] := by
    unfold difE
    unfold orF at h ⊢
    split
    · rfl
    · rename_i h1
      rw [if_neg h1] at h
      unfold orF at h ⊢
      split
      · rfl
      · rename_i h2; rw [if_neg h2] at h; exact absurd rfl h
  exact ⟨e, by rw [e]; exact h⟩
theorem or_chk (h : orF [chkG a, chkG b] = 0) : chkG a = 0 ∧ chkG b = 0 := ⟨orF_zero.1 h _ (by simp), orF_zero.1 h _ (by simp)⟩
theorem dif_len (h : chkG a = 0 ∧ chkG b = 0) (h1 : needs.length > 32) : difE a b first needs = 2 := by unfold difE; rw [if_neg (by omega), if_neg (by omega), if_pos h1]
theorem dif_nd (h : chkG a = 0 ∧ chkG b = 0) (h1 : ¬ needs.length > 32) (h2 : ndB first needs = false) : difE a b first needs = 360 := by unfold difE; rw [if_neg (by omega), if_neg (by omega), if_neg h1, if_pos h2]
theorem dif_win (h : chkG a = 0 ∧ chkG b = 0) (h1 : ¬ needs.length > 32) (h2 : ndB first needs = true) (h3 : within first 1 1048576 = false) : difE a b first needs = 360 := by unfold difE; rw [if_neg (by omega), if_neg (by omega), if_neg h1, if_neg (by rw [h2]; decide), if_pos h3]
theorem dif_rest (h : chkG a = 0 ∧ chkG b = 0) (h1 : ¬ needs.length > 32) (h2 : ndB first needs = true) (h3 : within first 1 1048576 = true) : difE a b first needs = match dfL a b with | none => 360 | some l => if l.length > 512 ∨ first + (l.length : Int) - 1 > 1048576 then 2 else 0 := by
  unfold difE; rw [if_neg (by omega), if_neg (by omega), if_neg h1, if_neg (by rw [h2]; decide), if_neg (by rw [h3]; decide)]
  all_goals (cases dfL a b <;> rfl)
end
theorem win_in {x : Int} (h : within x 1 1048576 = true) : 1 ≤ x ∧ x ≤ 1048576 := by unfold within at h; simp at h; exact h
theorem own_ch {e : Nat} {v : Value} {done : List Pc} {x y : Sg} {L : Go.Kn.Loc} (h : OwnS e 19 v (done.length + (chP x y 9).length) ((done.map mkP ++ chP x y 9).flatMap encP) L) : OwnS e 19 v (done ++ chC x y 9).length (((done ++ chC x y 9).map mkP).flatMap encP) L := by
  rw [List.length_append, List.map_append, ← ch_mk]
  have e2 : (chP x y 9).length = (chC x y 9).length := by rw [ch_mk, List.length_map]
  rw [← e2]; exact h
theorem blt_own {cur : List Value} {k j : Nat} (h : k * 19 + 19 ≤ cur.length) (hj : j < 19) : Nat.blt (((k : Nat) : Int).toNat * 19 + j) cur.toArray.size = true := by
  rw [Nat.blt_eq]
  show k * 19 + j < cur.length
  omega
theorem blt_own2 {cur : List Value} {k i j : Nat} {u : Value} (h : k * 19 + 19 ≤ cur.length) (hj : j < 19) : Nat.blt (((k : Nat) : Int).toNat * 19 + j) (cur.toArray.setIfInBounds i u).size = true := by
  rw [Array.size_setIfInBounds]; exact blt_own h hj
end Go.Proofs.YtoicbikdenlioaaGreat
end
section
namespace Go.Proofs.YtoicbikdenlioaaGreat
open Go Go.Kn Go.Proofs
theorem elt_110 : ElT Tryz.prog 110 30 1 8 := .of (by kernel_rfl)
theorem fun_22 : Fun Tryz.prog 22 := .of Tryz.func22 (by kernel_rfl) (by kernel_rfl)
theorem fun_23 : Fun Tryz.prog 23 := .of Tryz.func23 (by kernel_rfl) (by kernel_rfl)
theorem w_Diff {I : HMap} {av : Option Addr} {n c : Nat} {xs : List Sg} (hS : Sl I 14 encG av n c xs) (hn : n ≤ 100000) {bv : Option Addr} {n2 c2 : Nat} {ys : List Sg} (hT : Sl I 14 encG bv n2 c2 ys) (hn2 : n2 ≤ 100000) (first : Int) {dv : Option Addr} {n3 c3 : Nat} {ds : List Int} (hN : Sl I 1 encI dv n3 c3 ds) (hn3 : n3 ≤ 100000) : RetM Tryz.prog 6 [.slice av n c, .slice bv n2 c2, .int .i64 first, .slice dv n3 c3] I [] (fun v I' L => L = [] ∧ ∃ pv m mc ps, v = .tuple #[.slice pv m mc, .int .i64 (difE xs ys first ds)] ∧ SlP I' pv m mc ps ∧ DifR xs ys first ds ps) := by
 intro g H w hw
 refine enter Tryz.func6 rfl Tryz.ntmps6 rfl hw ?_
 have hIc := HLe.refl I
 have hlN := hN.len
 refine zR ?_
 refine zA ?_
 refine zA ?_
 refine zN ?_
 refine X_seq ?_
 refine zR ?_
 refine zM ?_
 refine XO_callV0 (cap := []) (vs := [_]) rfl rfl fun_15 (w_chkG hS hn) rfl rfl ?_
 refine zM ?_
 refine XO_callV0 (cap := []) (vs := [_]) rfl rfl fun_15 (w_chkG hT hn2) rfl rfl ?_
 refine XO_buildSlice (ps := [(0, _), (1, _)]) (m := [encI (chkG xs), encI (chkG ys)]) elt_110 rfl (.cons rfl (.cons rfl (.nil))) rfl (by simp [encI_len]) (by decide) (by decide) rfl rfl (fun b_18 => ?_)
 refine XO_freeze (by repeat (first | exact Take.here | apply Take.there)) (fun I1 hI1 hb1 => ?_)
 have hS := hS.mono hI1; have hT := hT.mono hI1; have hN := hN.mono hI1; have hIc := hIc.trans hI1
 have hOr := Sl.lit ([chkG xs, chkG ys] : List Int) rfl encI_len (show I1 b_18 = some (Obj.cells (([chkG xs, chkG ys] : List Int).flatMap encI).toArray 30 (0, 0)) from hb1)
 refine XO_callV0 (cap := []) (vs := [_]) rfl rfl fun_22 (w_orE hOr (by decide)) rfl rfl ?_
 refine zA ?_
 refine zN (zR ?_)
 refine zM ?_
 refine zC ?_
 refine zN ?_
 refine zI ?_ ?_ <;> intro hc21
 ·
  have hor : orF [chkG xs, chkG ys] ≠ 0 := by simpa using hc21
  refine zR ?_
  refine zM ?_
  refine zA ?_
  refine zA ?_
  refine zN ?_
  refine X_ret ?_
  refine at_then_r ?_
  exact at_ret2 rfl rfl rfl (fun w hw => ⟨_, I1, [], rfl, hIc, hw.drop, rfl, none, 0, 0, [], by rw [(dif_or hor).1], SlP.nil, DifR.bad (dif_or hor).2⟩)
 have hor := or_chk (show orF [chkG xs, chkG ys] = 0 by simpa using hc21)
 refine X_skip ?_
 refine at_then ?_
 refine X_seq ?_
 refine zR ?_
 refine zM ?_
 refine zQ slt_38 ?_
 refine zC ?_
 refine zN ?_
 refine zI ?_ ?_ <;> intro hc25
 ·
  have hlen : ds.length > 32 := by rw [hlN]; simp at hc25; omega
  refine zR ?_
  refine zA ?_
  refine zA ?_
  refine zN ?_
  refine X_ret ?_
  refine at_then_r ?_
  first
  | exact at_ret2 rfl rfl rfl (fun w hw => ⟨_, I1, [], rfl, hIc, hw.drop, rfl, none, 0, 0, [], by rw [dif_len hor hlen], SlP.nil, DifR.bad (by rw [dif_len hor hlen]; decide)⟩)
 have hlen : ¬ ds.length > 32 := by rw [hlN]; simp at hc25; omega
 refine X_skip ?_
 refine at_then ?_
 refine zR ?_
 refine zA ?_
 refine zN ?_
 refine X_seq ?_
 refine zR ?_
 refine zM ?_
 refine zQ slt_38 ?_
 refine zM ?_
 refine zN ?_
 refine X_block ?_
 refine X_loopT [(0, _), (1, _), (2, _), (3, _), (26, _), (27, _)] (.cons rfl (.cons rfl (.cons rfl (.cons rfl (.cons rfl (.cons rfl .nil)))))) (fun T L0 mz E I' loc' => ∃ (k : Nat) (l : Int), mz = n3 - k ∧ E = (8, .slice none 0 0) :: (10, .int .i64 l) :: (28, .int .i64 k) :: T ∧ I1 = I' ∧ L0 = loc' ∧ k ≤ n3 ∧ (List.range k).all (ndP first ds) = true ∧ lastI ds k l) _ _ _ _ ⟨0, 0, rfl, rfl, rfl, rfl, Nat.zero_le _, rfl, ⟨fun _ => rfl, fun y hy h => absurd rfl h⟩⟩ (.cons rfl (.cons rfl (.cons rfl (.cons rfl (.cons rfl (.cons rfl (.cons rfl (.cons rfl (.cons rfl .nil))))))))) (HLe.refl _) rfl ?_
 rintro mz E I' loc' ⟨k, l, rfl, rfl, rfl, rfl, hk, hall, hl⟩
 refine zR ?_
 refine zC ?_
 refine zN ?_
 refine X_seq ?_
 refine zI ?_ ?_ <;> intro hc29
 ·
  have hlt_k : k < n3 := by have h := hc29; simp at h; omega
  obtain ⟨x, hx⟩ := hN.at hlt_k
  refine X_skip ?_
  refine at_then ?_
  refine X_seq ?_
  refine X_block ?_
  refine zR ?_
  refine zV (ev_indexSl rfl rfl slt_38 hN (fun hg => by omega)) ?_
  refine zV (ev_load rfl sct_3 (fun hg => by exact Sl.get0 hN hx rfl)) ?_
  refine zA ?_
  refine zN ?_
  refine X_seq ?_
  refine zR ?_
  refine zM ?_
  refine zM ?_
  refine zC ?_
  refine zM ?_
  refine XO_pushF 3 rfl rfl rfl ?_
  refine zJ (ev_move rfl) ?_
  refine zJ (ev_move rfl) ?_
  refine zJ (ev_cmp rfl rfl rfl) ?_
  refine XO_or0 rfl rfl rfl rfl rfl ?_
  refine zN ?_
  refine zI ?_ ?_ <;> intro hc39
  ·
   have hnd : ndB first ds = false := by unfold ndB; exact range_bad (k := k) (by rw [hlN]; exact hlt_k) (by rw [nd_at hall hl hx, hc39]; rfl)
   refine zR ?_
   refine zA ?_
   refine zA ?_
   refine zN ?_
   refine X_ret ?_
   refine at_then_r ?_
   refine at_block_r ?_
   refine at_then_r ?_
   refine at_then_r ?_
   refine at_block_r ?_
   refine at_then_r ?_
   first
   | exact at_ret2 rfl rfl rfl (fun w hw => ⟨_, I1, [], rfl, hIc, hw.drop, rfl, none, 0, 0, [], by rw [dif_nd hor hlen hnd], SlP.nil, DifR.bad (by rw [dif_nd hor hlen hnd]; decide)⟩)
  refine X_skip ?_
  refine at_then ?_
  refine X_region ?_
  refine zM ?_
  refine zA ?_
  refine XO_nil ?_
  refine at_block_n ?_
  refine at_then ?_
  refine X_region ?_
  refine zB ?_
  refine zM ?_
  refine XO_nil ?_
  exact at_met2 _ _ ⟨n3 - (k + 1), by omega, k + 1, _, rfl, rfl, rfl, rfl, by omega, range_step hall (by rw [nd_at hall hl hx, hc39]; rfl), lastI_step hx⟩ (.cons rfl (.cons rfl (.cons rfl (.cons rfl (.cons rfl (.cons rfl (.cons rfl (.cons rfl (.cons rfl .nil))))))))) (by repeat (first | exact .refl | exact subL_left | refine subL_app ?_ | refine .drop ?_ | refine subL_add ?_))
 have hge_k : n3 ≤ k := by have h := hc29; simp at h; omega
 have hnd : ndB first ds = true := by unfold ndB; rw [hlN, show n3 = k by omega]; exact hall
 refine X_exit ?_
 refine at_then_e ?_
 refine at_then_e ?_
 refine at_block_hit ?_
 refine at_then ?_
 refine X_seq ?_
 refine zR ?_
 refine zM ?_
 refine XO_callV0 (cap := []) (vs := [_, _, _]) rfl rfl fun_16 (w_within I1 _ _ _) rfl rfl ?_
 refine zO ?_
 refine zN ?_
 refine zI ?_ ?_ <;> intro hc44
 ·
  have hwi : within first 1 1048576 = false := by simpa using hc44
  refine zR ?_
  refine zA ?_
  refine zA ?_
  refine zN ?_
  refine X_ret ?_
  refine at_then_r ?_
  first
  | exact at_ret2 rfl rfl rfl (fun w hw => ⟨_, I1, [], rfl, hIc, hw.drop, rfl, none, 0, 0, [], by rw [dif_win hor hlen hnd hwi], SlP.nil, DifR.bad (by rw [dif_win hor hlen hnd hwi]; decide)⟩)
 have hwi : within first 1 1048576 = true := by simpa using hc44
 have hfi := win_in hwi
 refine X_skip ?_
 refine at_then ?_
 refine X_seq ?_
 refine X_block ?_
 refine X_loopT [(2, _), (3, _)] (.cons rfl (.cons rfl .nil)) (fun T L0 mz E I' loc' => ∃ (a b : List Sg) (pv qv : Option Addr) (i ci j cj : Nat) (done : List Pc) (v : Value) (L : Go.Kn.Loc), mz = i + j ∧ E = (0, .slice pv i ci) :: (1, .slice qv j cj) :: (8, v) :: T ∧ HLe I1 I' ∧ L = loc' ∧ Sl I' 14 encG pv i ci a ∧ Sl I' 14 encG qv j cj b ∧ DfI xs ys a b done ∧ OwnS 44 19 v done.length ((done.map mkP).flatMap encP) L ∧ done.length + 9 * (i + j) ≤ 9 * (n + n2)) _ _ _ _ ⟨xs, ys, av, bv, n, c, n2, c2, [], .slice none 0 0, [], rfl, rfl, HLe.refl _, rfl, hS, hT, DfI.start, OwnS.nil, by simp⟩ (.cons rfl (.cons rfl (.cons rfl (.cons rfl (.cons rfl .nil))))) (HLe.refl _) rfl ?_
 rintro mz E J3 loc' ⟨a, b, pv, qv, i, ci, j, cj, done, v, L, rfl, rfl, hJ, rfl, hA, hB, hDf, hO, hbd⟩
 have hS := hS.mono hJ; have hT := hT.mono hJ; have hN := hN.mono hJ; have hOr := hOr.mono hJ; have hIc := hIc.trans hJ
 have hB2 := hJ
 have hlA := hA.len
 have hlB := hB.len
 refine X_seq ?_
 refine zR ?_
 refine zM ?_
 refine zQ slt_22 ?_
 refine zC ?_
 refine zM ?_
 refine XO_pushF 3 rfl rfl rfl ?_
 refine zJ (ev_move rfl) ?_
 refine zJ (ev_lenS rfl slt_22) ?_
 refine zJ (ev_cmp rfl rfl rfl) ?_
 refine XO_or0 rfl rfl rfl rfl rfl ?_
 refine zN ?_
 refine zI ?_ ?_ <;> intro hc52
 ·
  have hij : 0 < i ∨ 0 < j := by have h := hc52; simp at h; omega
  refine X_skip ?_
  refine at_then ?_
  refine X_block ?_
  refine X_block ?_
  refine X_seq ?_
  refine X_draw mixed (by kernel_rfl) ?_
  refine XQ_v0 (ev_move rfl) rfl rfl rfl ?_
  refine XQ_v0 (ev_lenS rfl slt_22) rfl rfl rfl ?_
  refine XQ_v0 (ev_cmp rfl rfl rfl) rfl rfl rfl ?_
  refine XQ_v0 (ev_move rfl) rfl rfl rfl ?_
  refine XQ_pushF 3 rfl rfl rfl ?_
  refine XQ_v1 (ev_move rfl) (.some rfl rfl rfl rfl gbf) rfl rfl rfl ?_
  refine XQ_v1 (ev_lenS rfl slt_22) (.some rfl rfl rfl rfl gbf) rfl rfl rfl ?_
  refine XQ_v1 (ev_cmp rfl rfl rfl) (.some rfl rfl rfl rfl gbf) rfl rfl rfl ?_
  refine XQ_v1 (ev_move rfl) (.some rfl rfl rfl rfl gbf) rfl rfl rfl ?_
  refine XQ_pushT 7 rfl rfl rfl ?_
  refine XQ_v1 (ev_move rfl) (.some rfl rfl rfl rfl gbt) rfl rfl rfl ?_
  refine XQ_v1 (ev_indexSl rfl rfl slt_22 (by assumption) (fun hg => by (simp [conj] at hg; omega))) (.some rfl rfl rfl rfl gbt) rfl rfl rfl ?_
  refine XQ_v1 (ev_fieldAddr rfl fld_26_0) (.some rfl rfl rfl rfl gbt) rfl rfl rfl ?_
  refine XQ_v1 (ev_load rfl sct_3 (fun hg => by exact Sl.get hA (hd_at hA (by first | omega | (simp [conj] at hg; omega))) rfl)) (.some rfl rfl rfl rfl gbt) rfl rfl rfl ?_
  refine XQ_v1 (ev_move rfl) (.some rfl rfl rfl rfl gbt) rfl rfl rfl ?_
  refine XQ_v1 (ev_indexSl rfl rfl slt_22 (by assumption) (fun hg => by (simp [conj] at hg; omega))) (.some rfl rfl rfl rfl gbt) rfl rfl rfl ?_
  refine XQ_v1 (ev_fieldAddr rfl fld_26_0) (.some rfl rfl rfl rfl gbt) rfl rfl rfl ?_
  refine XQ_v1 (ev_load rfl sct_3 (fun hg => by exact Sl.get hB (hd_at hB (by first | omega | (simp [conj] at hg; omega))) rfl)) (.some rfl rfl rfl rfl gbt) rfl rfl rfl ?_
  refine XQ_v1 (ev_cmp rfl rfl rfl) (.some rfl rfl rfl rfl gbt) rfl rfl rfl ?_
  refine XQ_and1 rfl rfl rfl (.some rfl rfl rfl rfl gbf) rfl rfl ?_
  refine XQ_or0 rfl rfl rfl rfl rfl ?_
  refine XQ_v0 (ev_assign rfl) rfl rfl rfl ?_
  refine XQ_nil ?_
  refine at_then ?_
  refine zI ?_ ?_ <;> intro hc66
  ·
   have h66i : 0 < i ∧ (b = [] ∨ (hdG a).id < (hdG b).id) := by have h := hc66; simp at h; exact h.elim (fun h => ⟨by omega, .inl (List.length_eq_zero_iff.1 (by omega))⟩) (fun h => ⟨by omega, .inr h.2⟩)
   obtain ⟨hi, h66⟩ := h66i
   obtain ⟨x, a2, rfl⟩ : ∃ x a2, a = x :: a2 := ⟨_, hd_cons hA hi⟩
   refine zR ?_
   refine zM ?_
   refine zM ?_
   refine zV (ev_indexSl rfl rfl slt_22 (by assumption) (fun hg => by omega)) ?_
   refine zF fld_26_0 ?_
   refine zV (ev_load rfl sct_3 (fun hg => by exact Sl.get hA (hd_at hA (by first | omega | (simp [conj] at hg; omega))) rfl)) ?_
   refine zV (ev_buildL (ps := [(1, _), (2, _)]) [_, _, _, _, _, _, _, _, _, _, _, _, _, _, _, _, _, _, _] plt_44 rfl rfl) ?_
   refine XO_buildSlice (ps := [(0, _)]) (m := [encP (mkP (rmC x))]) elt_33 rfl (.cons rfl (.nil)) rfl (by simp [encP_len]) (by decide) (by decide) rfl rfl (fun b_92 => ?_)
   refine XO_append (v := _) (ys := [mkP (rmC x)].flatMap encP) (L := L) rfl rfl elt_33 hO (by repeat (first | exact .cons .here .nil | exact split_all | exact split_app | apply split_cons | apply split_skip)) ⟨rfl, fun _ => rfl, by repeat (first | exact Cells.here | apply Cells.there | apply Cells.app)⟩ (one_P _) (by omega) rfl rfl ?_
   intro v9 L9 hO9 _; rw [← List.flatMap_append] at hO9
   refine zA ?_
   refine zN ?_
   refine X_region ?_
   refine zM ?_
   refine zV (ev_sliceLo rfl rfl slt_22 (fun hg => by omega)) ?_
   refine zA ?_
   refine XO_nil ?_
   refine at_block_n ?_
   refine at_block_n ?_
   first
   | exact at_met2 _ _ ⟨(i - 1) + j, by omega, a2, b, sub2 pv ci 1 14, qv, (i - 1), (ci - 1), j, cj, done ++ [rmC x], _, _, rfl, rfl, hB2, rfl, sl_tail hA, hB, hDf.rm h66, by rw [List.length_append, List.map_append]; exact hO9, by simp only [List.length_append, List.length_singleton]; omega⟩ (.cons rfl (.cons rfl (.cons rfl (.cons rfl (.cons rfl .nil))))) (by repeat (first | exact .refl | exact subL_left | refine subL_app ?_ | refine .drop ?_ | refine subL_add ?_))
  have h66n : 0 < j ∧ (0 < i → ¬ (hdG a).id < (hdG b).id) := by have h := hc66; simp at h; exact ⟨by omega, fun h0 h1 => by have := h.2 h0; omega⟩
  obtain ⟨hj, h66⟩ := h66n
  refine X_seq ?_
  refine X_draw mixed (by kernel_rfl) ?_
  refine XQ_v0 (ev_move rfl) rfl rfl rfl ?_
  refine XQ_v0 (ev_lenS rfl slt_22) rfl rfl rfl ?_
  refine XQ_v0 (ev_cmp rfl rfl rfl) rfl rfl rfl ?_
  refine XQ_v0 (ev_move rfl) rfl rfl rfl ?_
  refine XQ_pushF 3 rfl rfl rfl ?_
  refine XQ_v1 (ev_move rfl) (.some rfl rfl rfl rfl gbf) rfl rfl rfl ?_
  refine XQ_v1 (ev_indexSl rfl rfl slt_22 (by assumption) (fun hg => by omega)) (.some rfl rfl rfl rfl gbf) rfl rfl rfl ?_
  refine XQ_v1 (ev_fieldAddr rfl fld_26_0) (.some rfl rfl rfl rfl gbf) rfl rfl rfl ?_
  refine XQ_v1 (ev_load rfl sct_3 (fun hg => by exact Sl.get hB (hd_at hB (by first | omega | (simp [conj] at hg; omega))) rfl)) (.some rfl rfl rfl rfl gbf) rfl rfl rfl ?_
  refine XQ_v1 (ev_move rfl) (.some rfl rfl rfl rfl gbf) rfl rfl rfl ?_
  refine XQ_v1 (ev_indexSl rfl rfl slt_22 (by assumption) (fun hg => by (simp [conj] at hg; omega))) (.some rfl rfl rfl rfl gbf) rfl rfl rfl ?_
  refine XQ_v1 (ev_fieldAddr rfl fld_26_0) (.some rfl rfl rfl rfl gbf) rfl rfl rfl ?_
  refine XQ_v1 (ev_load rfl sct_3 (fun hg => by exact Sl.get hA (hd_at hA (by first | omega | (simp [conj] at hg; omega))) rfl)) (.some rfl rfl rfl rfl gbf) rfl rfl rfl ?_
  refine XQ_v1 (ev_cmp rfl rfl rfl) (.some rfl rfl rfl rfl gbf) rfl rfl rfl ?_
  refine XQ_or0 rfl rfl rfl rfl rfl ?_
  refine XQ_v0 (ev_assign rfl) rfl rfl rfl ?_
  refine XQ_nil ?_
  refine at_then ?_
  refine zI ?_ ?_ <;> intro hc96
  ·
   have h96 : a = [] ∨ (hdG b).id < (hdG a).id := by have h := hc96; simp at h; exact h.elim (fun h => .inl (List.length_eq_zero_iff.1 (by omega))) (fun h => .inr h)
   obtain ⟨y, b2, rfl⟩ : ∃ y b2, b = y :: b2 := ⟨_, hd_cons hB hj⟩
   refine X_seq ?_
   have hD := HLe.refl J3
   refine X_noP ?_
   refine X_drawS J3 [] mixed ?_
   refine zT 0 rfl (ev_move rfl) hD ?_
   refine zT 1 rfl (ev_move rfl) hD ?_
   refine zT 2 rfl (ev_indexSl rfl rfl slt_22 (by assumption) (fun hg => by omega)) hD ?_
   refine zT 3 rfl (ev_fieldAddr rfl fld_26_0) hD ?_
   refine zT 4 rfl (ev_load rfl sct_3 (fun hg => by exact Sl.get hB (hd_at hB (by first | omega | (simp [conj] at hg; omega))) rfl)) hD ?_
   refine zT 5 rfl (ev_move rfl) hD ?_
   refine zT 6 rfl (ev_indexSl rfl rfl slt_22 (by assumption) (fun hg => by omega)) hD ?_
   refine zT 7 rfl (ev_loadA rfl agt_26 (fun hg => by exact Sl.getA hB (hd_at hB (by first | omega | (simp [conj] at hg; omega)))) rfl) hD ?_
   refine zT 8 rfl (ev_buildL (ps := [(1, _), (2, _), (4, _)]) [_, _, _, _, _, _, _, _, _, _, _, _, _, _, _, _, _, _, _] plt_44 rfl rfl) hD ?_
   refine XD_one 9 rfl (by kernel_rfl) ?_
   refine XO_buildSlice (ps := [(0, _)]) (m := [encP (mkP (inC y))]) elt_33 rfl (.cons rfl (.nil)) rfl (by simp [encP_len]) (by decide) (by decide) rfl rfl (fun b_120 => ?_)
   refine XO_nil ?_
   refine zD hD ?_
   refine XD_one 10 rfl (by kernel_rfl) ?_
   refine XO_append (v := _) (ys := [mkP (inC y)].flatMap encP) (L := L) rfl rfl elt_33 hO (by repeat (first | exact .cons .here .nil | exact split_all | exact split_app | apply split_cons | apply split_skip)) ⟨rfl, fun _ => rfl, by repeat (first | exact Cells.here | apply Cells.there | apply Cells.app)⟩ (one_P _) (by omega) rfl rfl ?_
   intro v9 L9 hO9 _; rw [← List.flatMap_append] at hO9
   refine XO_nil ?_
   refine zD hD ?_
   refine zT 11 rfl (ev_assign rfl) hD ?_
   refine XD_done (by kernel_rfl) ?_
   refine at_noP ?_
   refine at_then ?_
   refine X_region ?_
   refine zM ?_
   refine zV (ev_sliceLo rfl rfl slt_22 (fun hg => by omega)) ?_
   refine zA ?_
   refine XO_nil ?_
   refine at_block_n ?_
   refine at_block_n ?_
   first
   | exact at_met2 _ _ ⟨i + (j - 1), by omega, a, b2, pv, sub2 qv cj 1 14, i, ci, (j - 1), (cj - 1), done ++ [inC y], _, _, rfl, rfl, hB2, rfl, hA, sl_tail hB, hDf.ins h96, by rw [List.length_append, List.map_append]; exact hO9, by simp only [List.length_append, List.length_singleton]; omega⟩ (.cons rfl (.cons rfl (.cons rfl (.cons rfl (.cons rfl .nil))))) (by repeat (first | exact .refl | exact subL_left | refine subL_app ?_ | refine .drop ?_ | refine subL_add ?_))
  have h96n : 0 < i ∧ ¬ (hdG b).id < (hdG a).id := by have h := hc96; simp at h; exact ⟨by omega, by omega⟩
  obtain ⟨hi, hx2⟩ := h96n
  have hx1 := h66 hi
  obtain ⟨x, a2, rfl⟩ : ∃ x a2, a = x :: a2 := ⟨_, hd_cons hA hi⟩
  obtain ⟨y, b2, rfl⟩ : ∃ y b2, b = y :: b2 := ⟨_, hd_cons hB hj⟩
  refine X_seq ?_
  refine X_draw mixed (by kernel_rfl) ?_
  refine XQ_v0 (ev_move rfl) rfl rfl rfl ?_
  refine XQ_v0 (ev_indexSl rfl rfl slt_22 (by assumption) (fun hg => by omega)) rfl rfl rfl ?_
  refine XQ_v0 (ev_fieldAddr rfl fld_26_4) rfl rfl rfl ?_
  refine XQ_v0 (ev_load rfl sct_3 (fun hg => by exact Sl.get hA (hd_at hA (by first | omega | (simp [conj] at hg; omega))) rfl)) rfl rfl rfl ?_
  refine XQ_v0 (ev_move rfl) rfl rfl rfl ?_
  refine XQ_v0 (ev_indexSl rfl rfl slt_22 (by assumption) (fun hg => by omega)) rfl rfl rfl ?_
  refine XQ_v0 (ev_fieldAddr rfl fld_26_4) rfl rfl rfl ?_
  refine XQ_v0 (ev_load rfl sct_3 (fun hg => by exact Sl.get hB (hd_at hB (by first | omega | (simp [conj] at hg; omega))) rfl)) rfl rfl rfl ?_
  refine XQ_v0 (ev_cmp rfl rfl rfl) rfl rfl rfl ?_
  refine XQ_v0 (ev_assign rfl) rfl rfl rfl ?_
  refine XQ_nil ?_
  refine at_then ?_
  refine zI ?_ ?_ <;> intro hc124
  ·
   have hk : x.kind ≠ y.kind := by have h := hc124; simpa [hdG] using h
   have hE3 : difE xs ys first ds = 360 := by rw [dif_rest hor hlen hnd hwi, hDf.bad hx1 hx2 hk]
   refine zR ?_
   refine zA ?_
   refine zA ?_
   refine zN ?_
   refine X_ret ?_
   refine at_block_r ?_
   refine at_block_r ?_
   refine at_then_r ?_
   refine at_block_r ?_
   refine at_then_r ?_
   first
   | exact at_ret2 rfl rfl rfl (fun w hw => ⟨_, J3, [], rfl, hIc, hw.drop, rfl, none, 0, 0, [], by rw [hE3], SlP.nil, DifR.bad (by rw [hE3]; decide)⟩)
  have hk : x.kind = y.kind := by have h := hc124; simpa [hdG] using h
  have hch := ch_len x y 9
  refine X_seq ?_
  have hD := HLe.refl J3
  refine X_noP ?_
  refine X_drawS J3 [] mixed ?_
  refine zT 0 rfl (ev_move rfl) hD ?_
  refine zT 1 rfl (ev_move rfl) hD ?_
  refine zT 2 rfl (ev_indexSl rfl rfl slt_22 (by assumption) (fun hg => by omega)) hD ?_
  refine zT 3 rfl (ev_loadA rfl agt_26 (fun hg => by exact Sl.getA hA (hd_at hA (by first | omega | (simp [conj] at hg; omega)))) rfl) hD ?_
  refine zT 4 rfl (ev_move rfl) hD ?_
  refine zT 5 rfl (ev_indexSl rfl rfl slt_22 (by assumption) (fun hg => by omega)) hD ?_
  refine zT 6 rfl (ev_loadA rfl agt_26 (fun hg => by exact Sl.getA hB (hd_at hB (by first | omega | (simp [conj] at hg; omega)))) rfl) hD ?_
  refine XD_one 7 rfl (by kernel_rfl) ?_
  refine XO_callM (cap := []) (vs := [_, _]) rfl rfl fun_24 .nil (w_changes J3 x y) rfl rfl ?_
  rintro vv4 I4 L4 hI4 ⟨rfl, q1, q2, rfl, hb1, hb2⟩
  have hS := hS.mono hI4; have hT := hT.mono hI4; have hN := hN.mono hI4; have hOr := hOr.mono hI4; have hA := hA.mono hI4; have hB := hB.mono hI4; have hIc := hIc.trans hI4; have hB2 := hB2.trans hI4; have hD := hD.trans hI4
  refine XO_nil ?_
  refine zD hD ?_
  refine XD_one 8 rfl (by kernel_rfl) ?_
  refine XO_callM (cap := []) (vs := [_, _]) rfl rfl fun_23 (by repeat (first | exact .cons .here .nil | exact split_all | exact split_app | apply split_cons | apply split_skip)) (w_appSeqP fun_74 (w_chIt hb1 hb2) hO (by rw [ch_mk, List.length_map]; omega)) rfl rfl ?_
  rintro vv5 I5 L5 hI5 hO9
  have hS := hS.mono hI5; have hT := hT.mono hI5; have hN := hN.mono hI5; have hOr := hOr.mono hI5; have hA := hA.mono hI5; have hB := hB.mono hI5; have hb1 := hb1.mono hI5; have hb2 := hb2.mono hI5; have hIc := hIc.trans hI5; have hB2 := hB2.trans hI5; have hD := hD.trans hI5
  refine XO_nil ?_
  refine zD hD ?_
  refine zT 9 rfl (ev_assign rfl) hD ?_
  refine XD_done (by kernel_rfl) ?_
  refine at_noP ?_
  refine at_then ?_
  refine X_draw mixed (by kernel_rfl) ?_
  refine XQ_v0 (ev_move rfl) rfl rfl rfl ?_
  refine XQ_v0 (ev_sliceLo rfl rfl slt_22 (fun hg => by omega)) rfl rfl rfl ?_
  refine XQ_v0 (ev_move rfl) rfl rfl rfl ?_
  refine XQ_v0 (ev_sliceLo rfl rfl slt_22 (fun hg => by omega)) rfl rfl rfl ?_
  refine XQ_v0 (ev_assign rfl) rfl rfl rfl ?_
  refine XQ_v0 (ev_assign rfl) rfl rfl rfl ?_
  refine XQ_nil ?_
  refine at_block_n ?_
  refine at_block_n ?_
  first
  | exact at_met2 _ _ ⟨(i - 1) + (j - 1), by omega, a2, b2, sub2 pv ci 1 14, sub2 qv cj 1 14, (i - 1), (ci - 1), (j - 1), (cj - 1), done ++ chC x y 9, _, _, rfl, rfl, hB2, rfl, sl_tail hA, sl_tail hB, hDf.ch hx1 hx2 hk, own_ch hO9, by simp only [List.length_append, List.length_singleton]; omega⟩ (.cons rfl (.cons rfl (.cons rfl (.cons rfl (.cons rfl .nil))))) (by repeat (first | exact .refl | exact subL_left | refine subL_app ?_ | refine .drop ?_ | refine subL_add ?_))
 have hij : i = 0 ∧ j = 0 := by have h := hc52; simp at h; omega
 obtain ⟨rfl, rfl⟩ := hij
 have ha0 : a = [] := List.length_eq_zero_iff.1 hlA
 have hb0 : b = [] := List.length_eq_zero_iff.1 hlB
 subst ha0
 subst hb0
 have hdl := hDf.done
 have hE := dif_rest (first := first) hor hlen hnd hwi
 rw [hdl] at hE
 obtain ⟨pa, pc, rfl⟩ := hO.shape
 refine X_exit ?_
 refine at_then_e ?_
 refine at_then_e ?_
 refine at_block_hit ?_
 refine at_then ?_
 refine X_seq ?_
 refine zR ?_
 refine zM ?_
 refine zQ slt_33 ?_
 refine zC ?_
 refine zM ?_
 refine XO_pushF 3 rfl rfl rfl ?_
 refine zJ (ev_move rfl) ?_
 refine zJ (ev_move rfl) ?_
 refine zJ (ev_lenS rfl slt_33) ?_
 refine zJ (ev_arB rfl rfl rfl (fun hg => by omega)) ?_
 refine zJ (ev_arB rfl rfl rfl (fun hg => by omega)) ?_
 refine zJ (ev_cmp rfl rfl rfl) ?_
 refine XO_or0 rfl rfl rfl rfl rfl ?_
 refine zN ?_
 refine zI ?_ ?_ <;> intro hc144
 ·
  have hlm : done.length > 512 ∨ first + (done.length : Int) - 1 > 1048576 := by have h := hc144; simp at h; omega
  have hE2 : difE xs ys first ds = 2 := by rw [hE]; exact if_pos hlm
  refine zR ?_
  refine zA ?_
  refine zA ?_
  refine zN ?_
  refine X_ret ?_
  refine at_then_r ?_
  first
  | exact at_ret2 rfl rfl rfl (fun w hw => ⟨_, J3, [], rfl, hIc, hw.drop, rfl, none, 0, 0, [], by rw [hE2], SlP.nil, DifR.bad (by rw [hE2]; decide)⟩)
 have hlm : ¬ (done.length > 512 ∨ first + (done.length : Int) - 1 > 1048576) := by have h := hc144; simp at h; omega
 have hE0 : difE xs ys first ds = 0 := by rw [hE]; exact if_neg hlm
 refine X_skip ?_
 refine at_then ?_
 refine X_seq ?_
 refine zR ?_
 refine zM ?_
 refine zQ slt_33 ?_
 refine zM ?_
 refine zN ?_
 refine X_block ?_
 refine X_loopT [(2, _), (3, _), (8, _), (146, _)] (.cons rfl (.cons rfl (.cons rfl (.cons rfl .nil)))) (fun T L0 mz E I' loc' => ∃ (k : Nat) (ps : List Pt) (L : Go.Kn.Loc), mz = done.length - k ∧ E = (147, .int .i64 k) :: T ∧ HLe J3 I' ∧ L = loc' ∧ k ≤ done.length ∧ OwnS 44 19 (.slice pa done.length pc) done.length (ps.flatMap encP) L ∧ NumK I' first ds done k ps) _ _ _ _ ⟨0, done.map mkP, L, rfl, rfl, HLe.refl _, rfl, Nat.zero_le _, hO, NumK.start⟩ (.cons rfl (.cons rfl (.cons rfl (.cons rfl (.cons rfl .nil))))) (HLe.refl _) rfl ?_
 rintro mz E J6 loc' ⟨k, ps, L, rfl, rfl, hJ, rfl, hk, hO, hNK⟩
 have hS := hS.mono hJ; have hT := hT.mono hJ; have hN := hN.mono hJ; have hOr := hOr.mono hJ; have hA := hA.mono hJ; have hB := hB.mono hJ; have hIc := hIc.trans hJ; have hB2 := hB2.trans hJ
 have hB5 := hJ
 refine zR ?_
 refine zC ?_
 refine zN ?_
 refine X_seq ?_
 refine zI ?_ ?_ <;> intro hc148
 ·
  have hlt_k : k < done.length := by have h := hc148; simp at h; omega
  obtain ⟨c0, hc0⟩ : ∃ c0, done[k]? = some c0 := ⟨_, List.getElem?_eq_getElem hlt_k⟩
  obtain ⟨p0, hp0⟩ : ∃ p0, ps[k]? = some p0 := ⟨_, List.getElem?_eq_getElem (by rw [hNK.len]; exact hlt_k)⟩
  have hpk := hNK.new k c0 p0 hc0 hp0 (Nat.le_refl _)
  subst hpk
  obtain ⟨_, b9, c9, cur, e9, rfl, hseg, hle, hset⟩ := hO.spot encP_len (by decide) hp0
  cases e9
  refine X_skip ?_
  refine at_then ?_
  refine X_seq ?_
  refine X_block ?_
  refine zR ?_
  refine zM ?_
  refine zA ?_
  refine zN ?_
  refine X_region ?_
  refine zM ?_
  refine zM ?_
  refine zM ?_
  refine zM ?_
  refine zM ?_
  refine zM ?_
  refine zB ?_
  refine zM ?_
  refine XO_callM (cap := []) (vs := [_]) rfl rfl fun_25 .nil (w_cloneI hN (by omega)) rfl rfl ?_
  rintro vv7 I7 L7 hI7 ⟨rfl, hO8⟩
  have hS := hS.mono hI7; have hT := hT.mono hI7; have hN := hN.mono hI7; have hOr := hOr.mono hI7; have hA := hA.mono hI7; have hB := hB.mono hI7; have hNK := hNK.mono hI7; have hIc := hIc.trans hI7; have hB2 := hB2.trans hI7; have hB5 := hB5.trans hI7
  obtain ⟨L8, hL8⟩ : ∃ L8, L8 = L7 := ⟨_, rfl⟩
  subst hL8
  obtain ⟨v8, hv8⟩ : ∃ v8, v8 = vv7 := ⟨_, rfl⟩
  subst hv8
  refine zV (ev_indexOwn rfl rfl slt_33 (fun hg => by omega)) ?_
  refine zF fld_44_0 ?_
  refine XO_store rfl rfl szt_3 rfl rfl (by repeat (first | exact Upd.here | apply Upd.there | apply upd_app)) (blt_own hle (by decide)) ?_
  refine zV (ev_indexOwn rfl rfl slt_33 (fun hg => by omega)) ?_
  refine zF fld_44_5 ?_
  refine XO_store rfl rfl szt_38 hO8.one rfl (by repeat (first | exact Upd.here | apply Upd.there | apply upd_app)) (blt_own2 hle (by decide)) ?_
  refine XO_nil ?_
  refine at_block_n ?_
  refine at_then ?_
  refine X_freezeO hO8 encI_len (by decide) (by repeat (first | exact .cons .here .nil | exact split_all | exact split_app | apply split_cons | apply split_skip)) (fun I8 hI8 a8 c8 e8 hS8 => ?_)
  subst e8
  have hS := hS.mono hI8; have hT := hT.mono hI8; have hN := hN.mono hI8; have hOr := hOr.mono hI8; have hA := hA.mono hI8; have hB := hB.mono hI8; have hNK := hNK.mono hI8; have hIc := hIc.trans hI8; have hB2 := hB2.trans hI8; have hB5 := hB5.trans hI8
  refine X_region ?_
  refine zB ?_
  refine zM ?_
  refine XO_nil ?_
  exact at_met2 _ _ ⟨done.length - (k + 1), by omega, k + 1, _, _, rfl, rfl, hB5, rfl, by omega, hset (numP c0 (first + k) a8 n3 c8 ds), hNK.step hc0 (HLe.refl _) hS8⟩ (.cons rfl (.cons rfl (.cons rfl (.cons rfl (.cons rfl .nil))))) (by rw [← splice_num hseg hle]; exact .refl)
 have hge_k : done.length ≤ k := by have h := hc148; simp at h; omega
 refine X_exit ?_
 refine at_then_e ?_
 refine at_then_e ?_
 refine at_block_hit ?_
 refine at_then ?_
 refine zR ?_
 refine zM ?_
 refine zA ?_
 refine zA ?_
 refine zN ?_
 refine X_ret ?_
 first
 | exact at_freezeO hO encP_len (by decide) (by repeat (first | exact .cons .here .nil | exact split_all | exact split_app | apply split_cons | apply split_skip)) (fun I7 hI7 a7 c7 e7 hS7 => by cases e7; exact at_ret2 rfl rfl rfl (fun w hw => ⟨_, I7, [], rfl, hIc.trans hI7, hw.drop, rfl, pa, done.length, pc, ps, by rw [hE0], ⟨hS7, fun q hq => ((hNK.mono hI7).nd hge_k) q hq⟩, fun h => absurd hE0 h, fun _ => ⟨done, hdl, hNK.num hge_k⟩⟩))
end Go.Proofs.YtoicbikdenlioaaGreat
end
section
namespace Go.Kn
open Go
/-- What a block's variable holds. -/
def LdV (P : Program) (I : HMap) (loc : Loc) (tt b : Nat) (v : Value) : Prop := ∀ (g : World) (H : HMap) (w : World), St g I H loc w → (loadVar tt ⟨b, 0, none⟩).run P w = .ok v w
theorem LdV.ag {P : Program} {I : HMap} {loc : Loc} {tt b n : Nat} {vs : List Value} (hA : AgT P tt n) (hc : Cells I loc b 0 vs) (hn : vs.length = n) : LdV P I loc tt b (.agg vs.toArray) := fun g H w hw => by
  have h1 : (loadCells ⟨b, 0, none⟩ n).run P w = .ok vs.toArray w := by
    rw [← hn]
    exact run_loadCells_list w _ _ fun j v hj => by rw [add_plain]; exact (hc j v hj).get hw
  have hA' := hA
  obtain ⟨_, i, h2, h3⟩ := hA'
  simp only [loadVar, Sem.run_bind, Sem.run_pure, run_isAgg_ag hA, Result.andThen, if_true, run_sizeOf h2, h3, h1]
section
variable {P : Program} {fn : Func} {R : Ending → World → Prop} {N : Nat} {g : World} {I H : HMap} {loc : Loc} {E : Env} {r : Option Nat}
theorem at_ret1L {t tt b : Nat} {v : Value} (hr : fn.results = #[.cell t tt]) (hv : look E t = some (.pointer (some ⟨b, 0, none⟩))) (hl : LdV P I loc tt b v)
    (h : ∀ w, St g I H loc w → R (.returned v) w) : At ⟨P, r, N, [], g, H⟩ (bodyPost P fn R) .ret E I loc := fun a w ha hw =>
  ⟨ha.defers, v, by
    have e1 := ha.env _ _ hv
    rw [Array.getD_eq_getD_getElem?] at e1
    have l1 := hl _ _ _ hw
    simp only [results, hr]
    simp [List.mapM_cons, e1, asAddr, l1], h w hw⟩
end
end Go.Kn
end
section
namespace Go.Proofs.YtoicbikdenlioaaGreat
open Go Go.Kn Go.Proofs
structure Ed where
  kind : Int
  role : Int
  other : Int
  fr : Int
  to : Int
  by_ : Int
  rn : Int
  rd : Int
  sign : Sg
def encE (e : Ed) : List Value := [.int .i64 e.kind, .int .i64 e.role, .int .i64 e.other, .int .i64 e.fr, .int .i64 e.to, .int .i64 e.by_, .int .i64 e.rn, .int .i64 e.rd, .int .i64 e.sign.id, .int .i64 e.sign.role, .int .i64 e.sign.bar, .int .i64 e.sign.mark, .int .i64 e.sign.kind, .int .i64 e.sign.side, .int .i64 e.sign.dir, .int .i64 e.sign.level, .int .i64 e.sign.size, .int .i64 e.sign.wth, .int .i64 e.sign.fn, .int .i64 e.sign.fd, .int .i64 e.sign.tn, .int .i64 e.sign.td]
def encEA (e : Ed) : Value := .agg (encE e).toArray
def zeroE : Ed := ⟨0, 0, 0, 0, 0, 0, 0, 0, zeroG⟩
def plcE (e : Ed) : Ed := { zeroE with role := e.role, fr := e.fr, to := e.to }
def barsB (e : Ed) : Bool := (decide (e.fr ≥ 0) && decide (e.fr ≤ e.to)) && decide (e.to ≤ 4095)
def fit1 (e : Ed) : Bool := within e.role 0 64 && barsB e
def fit2 (e : Ed) : Bool := fit1 e && within e.by_ 1 7
def fit4 (e : Ed) : Bool := within e.fr 0 4095 && within e.by_ 1 4095
def fit6 (e : Ed) : Bool := ((fit1 e && within e.role 1 64) && within e.other 1 64) && !(e.role == e.other)
def fit7 (e : Ed) : Bool := ((fit1 e && (ratE e.rn e.rd == 0)) && decide (e.rn > 0)) && decide (e.rn ≤ e.rd)
end Go.Proofs.YtoicbikdenlioaaGreat
end
section
namespace Go.Proofs.YtoicbikdenlioaaGreat
open Go Go.Kn Go.Proofs
theorem fun_39 : Fun Tryz.prog 39 := .of Tryz.func39 (by kernel_rfl) (by kernel_rfl)
theorem fun_40 : Fun Tryz.prog 40 := .of Tryz.func40 (by kernel_rfl) (by kernel_rfl)
theorem fun_41 : Fun Tryz.prog 41 := .of Tryz.func41 (by kernel_rfl) (by kernel_rfl)
theorem plt_28 : PlT Tryz.prog 28 #[(0, 1), (1, 1), (2, 1), (3, 1), (4, 1), (5, 1), (6, 2), (8, 14)] (.agg #[(.int .i64 0), (.int .i64 0), (.int .i64 0), (.int .i64 0), (.int .i64 0), (.int .i64 0), (.int .i64 0), (.int .i64 0), (.int .i64 0), (.int .i64 0), (.int .i64 0), (.int .i64 0), (.int .i64 0), (.int .i64 0), (.int .i64 0), (.int .i64 0), (.int .i64 0), (.int .i64 0), (.int .i64 0), (.int .i64 0), (.int .i64 0), (.int .i64 0)]) := ⟨.of (by kernel_rfl), by kernel_rfl, fun w => by kernel_rfl⟩
theorem zt_28 : ZeroT Tryz.prog 28 (.agg #[(.int .i64 0), (.int .i64 0), (.int .i64 0), (.int .i64 0), (.int .i64 0), (.int .i64 0), (.int .i64 0), (.int .i64 0), (.int .i64 0), (.int .i64 0), (.int .i64 0), (.int .i64 0), (.int .i64 0), (.int .i64 0), (.int .i64 0), (.int .i64 0), (.int .i64 0), (.int .i64 0), (.int .i64 0), (.int .i64 0), (.int .i64 0), (.int .i64 0)]) := .of (by kernel_rfl)
theorem w_place (I : HMap) (e : Ed) : RetV Tryz.prog 41 [encEA e] I (encEA (plcE e)) := by
 intro g H w hw
 refine enter Tryz.func41 rfl Tryz.ntmps41 rfl hw ?_
 refine zR ?_
 refine XO_box rfl rfl rfl (fun b_1 => ?_)
 refine XO_alloc zt_28 rfl rfl (fun b_2 => ?_)
 refine zN (zR ?_)
 refine zF fld_28_1 ?_
 refine zL sct_3 ?_
 refine zF fld_28_3 ?_
 refine zL sct_3 ?_
 refine zF fld_28_4 ?_
 refine zL sct_3 ?_
 refine zV (ev_buildL (ps := [(1, _), (3, _), (4, _)]) [_, _, _, _, _, _, _, _, _, _, _, _, _, _, _, _, _, _, _, _, _, _] plt_28 rfl rfl) ?_
 refine XO_storeA rfl rfl szt_28 rfl rfl rfl rfl (by repeat (first | exact Upd.here | apply Upd.there | apply upd_app)) ?_
 refine zN ?_
 refine X_ret ?_
 exact at_ret1L rfl rfl (.ag agt_28 (vs := encE (plcE e)) (by repeat (first | exact Cells.here | apply Cells.there)) rfl) (fun w hw => ⟨rfl, hw.drop⟩)
theorem w_rest2 (I : HMap) (e : Ed) : RetV Tryz.prog 46 [encEA e] I (encEA ({ plcE e with by_ := e.by_ })) := by
 intro g H w hw
 refine enter Tryz.func46 rfl Tryz.ntmps46 rfl hw ?_
 refine zR ?_
 refine XO_box rfl rfl rfl (fun b_1 => ?_)
 refine XO_alloc zt_28 rfl rfl (fun b_2 => ?_)
 refine zN (zR ?_)
 refine zV (ev_loadA rfl agt_28 (fun hg => by first | (repeat (first | exact Cells.here | exact Cells.s0 (vs := [_, _, _, _, _, _, _, _, _, _, _, _, _, _, _, _, _, _, _, _, _, _]) rfl | apply Cells.there | apply Cells.app))) rfl) ?_
 refine XO_callV0 (cap := []) (vs := [_]) rfl rfl fun_41 (w_place I e) rfl rfl ?_
 refine XO_alloc zt_28 rfl rfl (fun b_3 => ?_)
 refine XO_storeA rfl rfl szt_28 rfl rfl rfl rfl (by repeat (first | exact Upd.here | apply Upd.there | apply upd_app)) ?_
 refine zN (zR ?_)
 refine zF fld_28_5 ?_
 refine zL sct_3 ?_
 refine zF fld_28_5 ?_
 refine zS szt_3 ?_
 refine zN (zR ?_)
 refine zV (ev_loadA rfl agt_28 (fun hg => by first | (repeat (first | exact Cells.here | exact Cells.s0 (vs := [_, _, _, _, _, _, _, _, _, _, _, _, _, _, _, _, _, _, _, _, _, _]) rfl | apply Cells.there | apply Cells.app))) rfl) ?_
 refine XO_storeA rfl rfl szt_28 rfl rfl rfl rfl (by repeat (first | exact Upd.here | apply Upd.there | apply upd_app)) ?_
 refine zN ?_
 refine X_ret ?_
 exact at_ret1L rfl rfl (.ag agt_28 (vs := encE ({ plcE e with by_ := e.by_ })) (by repeat (first | exact Cells.here | apply Cells.there)) rfl) (fun w hw => ⟨rfl, hw.drop⟩)
theorem w_rest3 (I : HMap) (e : Ed) : RetV Tryz.prog 50 [encEA e] I (encEA ({ zeroE with fr := e.fr, to := e.to })) := by
 intro g H w hw
 refine enter Tryz.func50 rfl Tryz.ntmps50 rfl hw ?_
 refine zR ?_
 refine XO_box rfl rfl rfl (fun b_1 => ?_)
 refine XO_alloc zt_28 rfl rfl (fun b_2 => ?_)
 refine zN (zR ?_)
 refine zF fld_28_3 ?_
 refine zL sct_3 ?_
 refine zF fld_28_4 ?_
 refine zL sct_3 ?_
 refine zV (ev_buildL (ps := [(3, _), (4, _)]) [_, _, _, _, _, _, _, _, _, _, _, _, _, _, _, _, _, _, _, _, _, _] plt_28 rfl rfl) ?_
 refine XO_storeA rfl rfl szt_28 rfl rfl rfl rfl (by repeat (first | exact Upd.here | apply Upd.there | apply upd_app)) ?_
 refine zN ?_
 refine X_ret ?_
 exact at_ret1L rfl rfl (.ag agt_28 (vs := encE ({ zeroE with fr := e.fr, to := e.to })) (by repeat (first | exact Cells.here | apply Cells.there)) rfl) (fun w hw => ⟨rfl, hw.drop⟩)
theorem w_rest4 (I : HMap) (e : Ed) : RetV Tryz.prog 53 [encEA e] I (encEA ({ zeroE with fr := e.fr, by_ := e.by_ })) := by
 intro g H w hw
 refine enter Tryz.func53 rfl Tryz.ntmps53 rfl hw ?_
 refine zR ?_
 refine XO_box rfl rfl rfl (fun b_1 => ?_)
 refine XO_alloc zt_28 rfl rfl (fun b_2 => ?_)
 refine zN (zR ?_)
 refine zF fld_28_3 ?_
 refine zL sct_3 ?_
 refine zF fld_28_5 ?_
 refine zL sct_3 ?_
 refine zV (ev_buildL (ps := [(3, _), (5, _)]) [_, _, _, _, _, _, _, _, _, _, _, _, _, _, _, _, _, _, _, _, _, _] plt_28 rfl rfl) ?_
 refine XO_storeA rfl rfl szt_28 rfl rfl rfl rfl (by repeat (first | exact Upd.here | apply Upd.there | apply upd_app)) ?_
 refine zN ?_
 refine X_ret ?_
 exact at_ret1L rfl rfl (.ag agt_28 (vs := encE ({ zeroE with fr := e.fr, by_ := e.by_ })) (by repeat (first | exact Cells.here | apply Cells.there)) rfl) (fun w hw => ⟨rfl, hw.drop⟩)
theorem w_rest5 (I : HMap) (e : Ed) : RetV Tryz.prog 57 [encEA e] I (encEA ({ zeroE with sign := e.sign })) := by
 intro g H w hw
 refine enter Tryz.func57 rfl Tryz.ntmps57 rfl hw ?_
 refine zR ?_
 refine XO_box rfl rfl rfl (fun b_1 => ?_)
 refine XO_alloc zt_28 rfl rfl (fun b_2 => ?_)
 refine zN (zR ?_)
 refine zF fld_28_7 ?_
 refine zV (ev_loadA rfl agt_26 (fun hg => by first | (repeat (first | exact Cells.here | exact Cells.s0 (vs := [_, _, _, _, _, _, _, _, _, _, _, _, _, _]) rfl | apply Cells.there | apply Cells.app))) rfl) ?_
 refine zV (ev_buildL (ps := [(7, _)]) [_, _, _, _, _, _, _, _, _, _, _, _, _, _, _, _, _, _, _, _, _, _] plt_28 rfl rfl) ?_
 refine XO_storeA rfl rfl szt_28 rfl rfl rfl rfl (by repeat (first | exact Upd.here | apply Upd.there | apply upd_app)) ?_
 refine zN ?_
 refine X_ret ?_
 exact at_ret1L rfl rfl (.ag agt_28 (vs := encE ({ zeroE with sign := e.sign })) (by repeat (first | exact Cells.here | apply Cells.there)) rfl) (fun w hw => ⟨rfl, hw.drop⟩)
theorem w_rest6 (I : HMap) (e : Ed) : RetV Tryz.prog 61 [encEA e] I (encEA ({ plcE e with other := e.other })) := by
 intro g H w hw
 refine enter Tryz.func61 rfl Tryz.ntmps61 rfl hw ?_
 refine zR ?_
 refine XO_box rfl rfl rfl (fun b_1 => ?_)
 refine XO_alloc zt_28 rfl rfl (fun b_2 => ?_)
 refine zN (zR ?_)
 refine zV (ev_loadA rfl agt_28 (fun hg => by first | (repeat (first | exact Cells.here | exact Cells.s0 (vs := [_, _, _, _, _, _, _, _, _, _, _, _, _, _, _, _, _, _, _, _, _, _]) rfl | apply Cells.there | apply Cells.app))) rfl) ?_
 refine XO_callV0 (cap := []) (vs := [_]) rfl rfl fun_41 (w_place I e) rfl rfl ?_
 refine XO_alloc zt_28 rfl rfl (fun b_3 => ?_)
 refine XO_storeA rfl rfl szt_28 rfl rfl rfl rfl (by repeat (first | exact Upd.here | apply Upd.there | apply upd_app)) ?_
 refine zN (zR ?_)
 refine zF fld_28_2 ?_
 refine zL sct_3 ?_
 refine zF fld_28_2 ?_
 refine zS szt_3 ?_
 refine zN (zR ?_)
 refine zV (ev_loadA rfl agt_28 (fun hg => by first | (repeat (first | exact Cells.here | exact Cells.s0 (vs := [_, _, _, _, _, _, _, _, _, _, _, _, _, _, _, _, _, _, _, _, _, _]) rfl | apply Cells.there | apply Cells.app))) rfl) ?_
 refine XO_storeA rfl rfl szt_28 rfl rfl rfl rfl (by repeat (first | exact Upd.here | apply Upd.there | apply upd_app)) ?_
 refine zN ?_
 refine X_ret ?_
 exact at_ret1L rfl rfl (.ag agt_28 (vs := encE ({ plcE e with other := e.other })) (by repeat (first | exact Cells.here | apply Cells.there)) rfl) (fun w hw => ⟨rfl, hw.drop⟩)
theorem w_rest7 (I : HMap) (e : Ed) : RetV Tryz.prog 65 [encEA e] I (encEA ({ plcE e with rn := e.rn, rd := e.rd })) := by
 intro g H w hw
 refine enter Tryz.func65 rfl Tryz.ntmps65 rfl hw ?_
 refine zR ?_
 refine XO_box rfl rfl rfl (fun b_1 => ?_)
 refine XO_alloc zt_28 rfl rfl (fun b_2 => ?_)
 refine zN (zR ?_)
 refine zV (ev_loadA rfl agt_28 (fun hg => by first | (repeat (first | exact Cells.here | exact Cells.s0 (vs := [_, _, _, _, _, _, _, _, _, _, _, _, _, _, _, _, _, _, _, _, _, _]) rfl | apply Cells.there | apply Cells.app))) rfl) ?_
 refine XO_callV0 (cap := []) (vs := [_]) rfl rfl fun_41 (w_place I e) rfl rfl ?_
 refine XO_alloc zt_28 rfl rfl (fun b_3 => ?_)
 refine XO_storeA rfl rfl szt_28 rfl rfl rfl rfl (by repeat (first | exact Upd.here | apply Upd.there | apply upd_app)) ?_
 refine zN (zR ?_)
 refine zF fld_28_6 ?_
 refine zV (ev_loadA rfl agt_24 (fun hg => by first | (repeat (first | exact Cells.here | exact Cells.s0 (vs := [_, _]) rfl | apply Cells.there | apply Cells.app))) rfl) ?_
 refine zF fld_28_6 ?_
 refine XO_storeP rfl rfl szt_24 rfl rfl rfl rfl (by repeat (first | exact Upd.here | apply Upd.there | apply upd_app)) ?_
 refine zN (zR ?_)
 refine zV (ev_loadA rfl agt_28 (fun hg => by first | (repeat (first | exact Cells.here | exact Cells.s0 (vs := [_, _, _, _, _, _, _, _, _, _, _, _, _, _, _, _, _, _, _, _, _, _]) rfl | apply Cells.there | apply Cells.app))) rfl) ?_
 refine XO_storeA rfl rfl szt_28 rfl rfl rfl rfl (by repeat (first | exact Upd.here | apply Upd.there | apply upd_app)) ?_
 refine zN ?_
 refine X_ret ?_
 exact at_ret1L rfl rfl (.ag agt_28 (vs := encE ({ plcE e with rn := e.rn, rd := e.rd })) (by repeat (first | exact Cells.here | apply Cells.there)) rfl) (fun w hw => ⟨rfl, hw.drop⟩)
theorem w_bars (I : HMap) (e : Ed) : RetV Tryz.prog 40 [encEA e] I (.bool (barsB e)) := by
 intro g H w hw
 refine enter Tryz.func40 rfl Tryz.ntmps40 rfl hw ?_
 refine zR ?_
 refine XO_box rfl rfl rfl (fun b_1 => ?_)
 refine zA ?_
 refine zN (zR ?_)
 refine zF fld_28_3 ?_
 refine zL sct_3 ?_
 refine zC ?_
 refine zM ?_
 refine XO_pushT 3 rfl rfl rfl ?_
 refine zK (ev_fieldAddr rfl fld_28_3) ?_
 refine zK (ev_load rfl sct_3 (fun hg => by repeat (first | exact Cell.here rfl | apply Cell.there | apply Cell.app))) ?_
 refine zK (ev_fieldAddr rfl fld_28_4) ?_
 refine zK (ev_load rfl sct_3 (fun hg => by repeat (first | exact Cell.here rfl | apply Cell.there | apply Cell.app))) ?_
 refine zK (ev_cmp rfl rfl rfl) ?_
 refine XO_and0 rfl rfl rfl rfl rfl ?_
 refine zM ?_
 refine XO_pushT 10 rfl rfl rfl ?_
 refine zK (ev_fieldAddr rfl fld_28_4) ?_
 refine zK (ev_load rfl sct_3 (fun hg => by repeat (first | exact Cell.here rfl | apply Cell.there | apply Cell.app))) ?_
 refine zK (ev_cmp rfl rfl rfl) ?_
 refine XO_and0 rfl rfl rfl rfl rfl ?_
 refine zA ?_
 refine zN ?_
 refine X_ret ?_
 exact at_ret1 rfl rfl (fun w hw => ⟨rfl, hw.drop⟩)
theorem w_fit1 (I : HMap) (e : Ed) : RetV Tryz.prog 39 [encEA e] I (.bool (fit1 e)) := by
 intro g H w hw
 refine enter Tryz.func39 rfl Tryz.ntmps39 rfl hw ?_
 refine zR ?_
 refine XO_box rfl rfl rfl (fun b_1 => ?_)
 refine zA ?_
 refine zN (zR ?_)
 refine zF fld_28_1 ?_
 refine zL sct_3 ?_
 refine XO_callV0 (cap := []) (vs := [_, _, _]) rfl rfl fun_16 (w_within I _ _ _) rfl rfl ?_
 refine zM ?_
 refine XO_pushT 3 rfl rfl rfl ?_
 refine zK (ev_loadA rfl agt_28 (fun hg => by first | (repeat (first | exact Cells.here | exact Cells.s0 (vs := [_, _, _, _, _, _, _, _, _, _, _, _, _, _, _, _, _, _, _, _, _, _]) rfl | apply Cells.there | apply Cells.app))) rfl) ?_
 refine XO_callV1 (cap := []) (vs := [_]) rfl rfl fun_40 (fun hg => w_bars I e) (.some rfl rfl rfl rfl gbt) rfl rfl ?_
 refine XO_and0 rfl rfl rfl rfl rfl ?_
 refine zA ?_
 refine zN ?_
 refine X_ret ?_
 exact at_ret1 rfl rfl (fun w hw => ⟨rfl, hw.drop⟩)
theorem w_fit2 {I : HMap} {b1 : Nat} (h1 : ImmC I b1 (.cells #[.func (.func 39) #[] #[]] 55 (0, 0))) (e : Ed) : RetV Tryz.prog 47 [encEA e, capP b1] I (.bool (fit2 e)) := by
 intro g H w hw
 refine enter Tryz.func47 rfl Tryz.ntmps47 rfl hw ?_
 refine zR ?_
 refine XO_box rfl rfl rfl (fun b_2 => ?_)
 refine zA ?_
 refine zN (zR ?_)
 refine zV (ev_load rfl sct_55 (fun hg => by exact Cell.imm h1 rfl)) ?_
 refine zV (ev_loadA rfl agt_28 (fun hg => by first | (repeat (first | exact Cells.here | exact Cells.s0 (vs := [_, _, _, _, _, _, _, _, _, _, _, _, _, _, _, _, _, _, _, _, _, _]) rfl | apply Cells.there | apply Cells.app))) rfl) ?_
 refine XO_callV0 (cap := []) (vs := [_]) rfl rfl fun_39 (w_fit1 I e) rfl rfl ?_
 refine zM ?_
 refine XO_pushT 3 rfl rfl rfl ?_
 refine zK (ev_fieldAddr rfl fld_28_5) ?_
 refine zK (ev_load rfl sct_3 (fun hg => by (repeat (first | exact Cell.here rfl | apply Cell.there | apply Cell.app)))) ?_
 refine XO_callV1 (cap := []) (vs := [_, _, _]) rfl rfl fun_16 (fun hg => w_within I _ _ _) (.some rfl rfl rfl rfl gbt) rfl rfl ?_
 refine XO_and0 rfl rfl rfl rfl rfl ?_
 refine zA ?_
 refine zN ?_
 refine X_ret ?_
 exact at_ret1 rfl rfl (fun w hw => ⟨rfl, hw.drop⟩)
theorem w_fit4 (I : HMap) (e : Ed) : RetV Tryz.prog 54 [encEA e] I (.bool (fit4 e)) := by
 intro g H w hw
 refine enter Tryz.func54 rfl Tryz.ntmps54 rfl hw ?_
 refine zR ?_
 refine XO_box rfl rfl rfl (fun b_1 => ?_)
 refine zA ?_
 refine zN (zR ?_)
 refine zF fld_28_3 ?_
 refine zL sct_3 ?_
 refine XO_callV0 (cap := []) (vs := [_, _, _]) rfl rfl fun_16 (w_within I _ _ _) rfl rfl ?_
 refine zM ?_
 refine XO_pushT 3 rfl rfl rfl ?_
 refine zK (ev_fieldAddr rfl fld_28_5) ?_
 refine zK (ev_load rfl sct_3 (fun hg => by repeat (first | exact Cell.here rfl | apply Cell.there | apply Cell.app))) ?_
 refine XO_callV1 (cap := []) (vs := [_, _, _]) rfl rfl fun_16 (fun hg => w_within I _ _ _) (.some rfl rfl rfl rfl gbt) rfl rfl ?_
 refine XO_and0 rfl rfl rfl rfl rfl ?_
 refine zA ?_
 refine zN ?_
 refine X_ret ?_
 exact at_ret1 rfl rfl (fun w hw => ⟨rfl, hw.drop⟩)
theorem w_fit5 (I : HMap) (e : Ed) : RetV Tryz.prog 58 [encEA e] I (.bool (frm e.sign)) := by
 intro g H w hw
 refine enter Tryz.func58 rfl Tryz.ntmps58 rfl hw ?_
 refine zR ?_
 refine XO_box rfl rfl rfl (fun b_1 => ?_)
 refine zA ?_
 refine zN (zR ?_)
 refine zF fld_28_7 ?_
 refine zV (ev_loadA rfl agt_26 (fun hg => by first | (repeat (first | exact Cells.here | exact Cells.s0 (vs := [_, _, _, _, _, _, _, _, _, _, _, _, _, _]) rfl | apply Cells.there | apply Cells.app))) rfl) ?_
 refine XO_callV0 (cap := []) (vs := [_]) rfl rfl fun_38 (w_frm I e.sign) rfl rfl ?_
 refine zA ?_
 refine zN ?_
 refine X_ret ?_
 exact at_ret1 rfl rfl (fun w hw => ⟨rfl, hw.drop⟩)
theorem w_fit6 {I : HMap} {b1 : Nat} (h1 : ImmC I b1 (.cells #[.func (.func 39) #[] #[]] 55 (0, 0))) (e : Ed) : RetV Tryz.prog 62 [encEA e, capP b1] I (.bool (fit6 e)) := by
 intro g H w hw
 refine enter Tryz.func62 rfl Tryz.ntmps62 rfl hw ?_
 refine zR ?_
 refine XO_box rfl rfl rfl (fun b_2 => ?_)
 refine zA ?_
 refine zN (zR ?_)
 refine zV (ev_load rfl sct_55 (fun hg => by exact Cell.imm h1 rfl)) ?_
 refine zV (ev_loadA rfl agt_28 (fun hg => by first | (repeat (first | exact Cells.here | exact Cells.s0 (vs := [_, _, _, _, _, _, _, _, _, _, _, _, _, _, _, _, _, _, _, _, _, _]) rfl | apply Cells.there | apply Cells.app))) rfl) ?_
 refine XO_callV0 (cap := []) (vs := [_]) rfl rfl fun_39 (w_fit1 I e) rfl rfl ?_
 refine zM ?_
 refine XO_pushT 3 rfl rfl rfl ?_
 refine zK (ev_fieldAddr rfl fld_28_1) ?_
 refine zK (ev_load rfl sct_3 (fun hg => by (repeat (first | exact Cell.here rfl | apply Cell.there | apply Cell.app)))) ?_
 refine XO_callV1 (cap := []) (vs := [_, _, _]) rfl rfl fun_16 (fun hg => w_within I _ _ _) (.some rfl rfl rfl rfl gbt) rfl rfl ?_
 refine XO_and0 rfl rfl rfl rfl rfl ?_
 refine zM ?_
 refine XO_pushT 8 rfl rfl rfl ?_
 refine zK (ev_fieldAddr rfl fld_28_2) ?_
 refine zK (ev_load rfl sct_3 (fun hg => by (repeat (first | exact Cell.here rfl | apply Cell.there | apply Cell.app)))) ?_
 refine XO_callV1 (cap := []) (vs := [_, _, _]) rfl rfl fun_16 (fun hg => w_within I _ _ _) (.some rfl rfl rfl rfl gbt) rfl rfl ?_
 refine XO_and0 rfl rfl rfl rfl rfl ?_
 refine zM ?_
 refine XO_pushT 13 rfl rfl rfl ?_
 refine zK (ev_fieldAddr rfl fld_28_1) ?_
 refine zK (ev_load rfl sct_3 (fun hg => by (repeat (first | exact Cell.here rfl | apply Cell.there | apply Cell.app)))) ?_
 refine zK (ev_fieldAddr rfl fld_28_2) ?_
 refine zK (ev_load rfl sct_3 (fun hg => by (repeat (first | exact Cell.here rfl | apply Cell.there | apply Cell.app)))) ?_
 refine zK (ev_cmp rfl rfl rfl) ?_
 refine XO_and0 rfl rfl rfl rfl rfl ?_
 refine zA ?_
 refine zN ?_
 refine X_ret ?_
 exact at_ret1 rfl rfl (fun w hw => ⟨rfl, hw.drop⟩)
theorem w_fit7 {I : HMap} {b1 : Nat} (h1 : ImmC I b1 (.cells #[.func (.func 39) #[] #[]] 55 (0, 0))) (e : Ed) : RetV Tryz.prog 66 [encEA e, capP b1] I (.bool (fit7 e)) := by
 intro g H w hw
 refine enter Tryz.func66 rfl Tryz.ntmps66 rfl hw ?_
 refine zR ?_
 refine XO_box rfl rfl rfl (fun b_2 => ?_)
 refine zA ?_
 refine zN (zR ?_)
 refine zV (ev_load rfl sct_55 (fun hg => by exact Cell.imm h1 rfl)) ?_
 refine zV (ev_loadA rfl agt_28 (fun hg => by first | (repeat (first | exact Cells.here | exact Cells.s0 (vs := [_, _, _, _, _, _, _, _, _, _, _, _, _, _, _, _, _, _, _, _, _, _]) rfl | apply Cells.there | apply Cells.app))) rfl) ?_
 refine XO_callV0 (cap := []) (vs := [_]) rfl rfl fun_39 (w_fit1 I e) rfl rfl ?_
 refine zM ?_
 refine XO_pushT 3 rfl rfl rfl ?_
 refine zK (ev_fieldAddr rfl fld_28_6) ?_
 refine zK (ev_loadA rfl agt_24 (fun hg => by first | (repeat (first | exact Cells.here | exact Cells.s0 (vs := [_, _]) rfl | apply Cells.there | apply Cells.app))) rfl) ?_
 refine XO_callV1 (cap := []) (vs := [_]) rfl rfl fun_67 (fun hg => w_ratchk I e.rn e.rd) (.some rfl rfl rfl rfl gbt) rfl rfl ?_
 refine zK (ev_cmp rfl rfl rfl) ?_
 refine XO_and0 rfl rfl rfl rfl rfl ?_
 refine zM ?_
 refine XO_pushT 9 rfl rfl rfl ?_
 refine zK (ev_fieldAddr rfl fld_28_6) ?_
 refine zK (ev_fieldAddr rfl fld_24_0) ?_
 refine zK (ev_load rfl sct_3 (fun hg => by (repeat (first | exact Cell.here rfl | apply Cell.there | apply Cell.app)))) ?_
 refine zK (ev_cmp rfl rfl rfl) ?_
 refine XO_and0 rfl rfl rfl rfl rfl ?_
 refine zM ?_
 refine XO_pushT 15 rfl rfl rfl ?_
 refine zK (ev_fieldAddr rfl fld_28_6) ?_
 refine zK (ev_fieldAddr rfl fld_24_0) ?_
 refine zK (ev_load rfl sct_3 (fun hg => by (repeat (first | exact Cell.here rfl | apply Cell.there | apply Cell.app)))) ?_
 refine zK (ev_fieldAddr rfl fld_28_6) ?_
 refine zK (ev_fieldAddr rfl fld_24_1) ?_
 refine zK (ev_load rfl sct_3 (fun hg => by (repeat (first | exact Cell.here rfl | apply Cell.there | apply Cell.app)))) ?_
 refine zK (ev_cmp rfl rfl rfl) ?_
 refine XO_and0 rfl rfl rfl rfl rfl ?_
 refine zA ?_
 refine zN ?_
 refine X_ret ?_
 exact at_ret1 rfl rfl (fun w hw => ⟨rfl, hw.drop⟩)
end Go.Proofs.YtoicbikdenlioaaGreat
end
section
namespace Go.Proofs.YtoicbikdenlioaaGreat
open Go Go.Kn Go.Proofs
theorem mul_bd {a b : Int} (ha : -1073741824 ≤ a ∧ a ≤ 1073741824) (hb : -1073741824 ≤ b ∧ b ≤ 1073741824) : -1152921504606846976 ≤ a * b ∧ a * b ≤ 1152921504606846976 := by
  have h1 : a.natAbs ≤ 1073741824 := by omega
  have h2 : b.natAbs ≤ 1073741824 := by omega
  have h3 := Nat.mul_le_mul h1 h2
  rw [← Int.natAbs_mul] at h3
  omega
theorem mul_pos9 {a b : Int} (ha : 1 ≤ a) (hb : 1 ≤ b) : 1 ≤ a * b := by
  have := Int.mul_pos (show 0 < a by omega) (show 0 < b by omega)
  omega
theorem magB_pos {n : Int} (hn : -1152921504606846976 ≤ n ∧ n ≤ 1152921504606846976) (h : ¬ n < 0) : IntKind.u64.wrap n = magI n := by
  rw [u64_id (by omega)]
  unfold magI; rw [if_neg h]
theorem magB_neg {n : Int} (hn : -1152921504606846976 ≤ n ∧ n ≤ 1152921504606846976) (h : n < 0) : IntKind.u64.wrap (0 - IntKind.u64.wrap n) = magI n := by
  unfold magI; rw [if_pos h]
  unfold IntKind.wrap IntKind.signed IntKind.bits
  simp
  omega
def gcdM (n d : Int) : Int := (Nat.gcd (magI n).toNat (magI d).toNat : Nat)
theorem gcdM_ne {n d : Int} (hd : 1 ≤ d) : gcdM n d ≠ 0 := by
  unfold gcdM
  have h : 0 < (magI d).toNat := by unfold magI; split <;> omega
  have := Nat.gcd_pos_of_pos_right (magI n).toNat h
  omega
end Go.Proofs.YtoicbikdenlioaaGreat
end
section
namespace Go.Proofs.YtoicbikdenlioaaGreat
open Go Go.Kn Go.Proofs
theorem fun_119 : Fun Tryz.prog 119 := .of Tryz.func119 (by kernel_rfl) (by kernel_rfl)
theorem fun_96 : Fun Tryz.prog 96 := .of Tryz.func96 (by kernel_rfl) (by kernel_rfl)
theorem fun_97 : Fun Tryz.prog 97 := .of Tryz.func97 (by kernel_rfl) (by kernel_rfl)
theorem plt_133 : PlT Tryz.prog 133 #[(0, 1)] (.agg #[.nilFunc]) := ⟨.of (by kernel_rfl), by kernel_rfl, fun w => by kernel_rfl⟩
theorem zt_24 : ZeroT Tryz.prog 24 (.agg #[(.int .i64 0), (.int .i64 0)]) := .of (by kernel_rfl)
theorem w_magB (I : HMap) (n : Int) (hn : -1152921504606846976 ≤ n ∧ n ≤ 1152921504606846976) : RetV Tryz.prog 95 [.int .i64 n] I (.int .u64 (magI n)) := by
 intro g H w hw
 refine enter Tryz.func95 rfl Tryz.ntmps95 rfl hw ?_
 refine zR ?_
 refine zA ?_
 refine zN ?_
 refine X_seq ?_
 refine zR ?_
 refine zM ?_
 refine zC ?_
 refine zN ?_
 refine zI ?_ ?_ <;> intro hc4
 ·
  refine zR ?_
  refine zM ?_
  refine zV (ev_convI rfl cvt_3_108) ?_
  refine zV (ev_negU rfl) ?_
  refine zA ?_
  refine zN ?_
  refine X_ret ?_
  refine at_then_r ?_
  exact at_ret1 rfl rfl (fun w hw => ⟨by rw [magB_neg hn (by simpa using hc4)], hw.drop⟩)
 refine X_skip ?_
 refine at_then ?_
 refine zR ?_
 refine zM ?_
 refine zV (ev_convI rfl cvt_3_108) ?_
 refine zA ?_
 refine zN ?_
 refine X_ret ?_
 exact at_ret1 rfl rfl (fun w hw => ⟨by rw [magB_pos hn (by simpa using hc4)], hw.drop⟩)
theorem w_divB (I : HMap) (n d : Int) (hn : -1152921504606846976 ≤ n ∧ n ≤ 1152921504606846976) (hd : 1 ≤ d ∧ d ≤ 1152921504606846976) : RetV Tryz.prog 94 [.int .u64 (magI n), .int .u64 (magI d)] I (.int .u64 (gcdM n d)) := by
 have h0 : 0 ≤ magI n ∧ magI n ≤ 1152921504606846976 := by unfold magI; split <;> omega
 have h1 : 1 ≤ magI d ∧ magI d ≤ 1152921504606846976 := by unfold magI; split <;> omega
 have h := w_div I (magI n).toNat (magI d).toNat (by omega) (by omega) (by omega)
 rw [Int.toNat_of_nonneg h0.1, Int.toNat_of_nonneg (by omega)] at h
 exact h
theorem w_make (I : HMap) (n d : Int) (hn : -1152921504606846976 ≤ n ∧ n ≤ 1152921504606846976) (hd : 1 ≤ d ∧ d ≤ 1152921504606846976) : RetM Tryz.prog 119 [.int .i64 n, .int .i64 d] I [] ((fun v I' L => I' = I ∧ L = [] ∧ ∃ a b er, v = .tuple #[encRA a b, .int .i64 er])) := by
 intro g H w hw
 refine enter Tryz.func119 rfl Tryz.ntmps119 rfl hw ?_
 refine zR ?_
 refine XO_alloc zt_24 rfl rfl (fun b_4 => ?_)
 refine zA ?_
 refine zN ?_
 refine X_seq ?_
 refine zR ?_
 refine zM ?_
 refine zC ?_
 refine zN ?_
 refine zI ?_ ?_ <;> intro hc10
 ·
  refine zR ?_
  refine zV (ev_loadA rfl agt_24 (fun hg => by first | (repeat (first | exact Cells.here | exact Cells.s0 (vs := [_, _]) rfl | apply Cells.there | apply Cells.app))) rfl) ?_
  refine XO_storeA rfl rfl szt_24 rfl rfl rfl rfl (by repeat (first | exact Upd.here | apply Upd.there | apply upd_app)) ?_
  refine zA ?_
  refine zN ?_
  refine X_ret ?_
  refine at_then_r ?_
  exact at_ret2A rfl rfl rfl agt_24 (vs := [_, _]) (by repeat (first | exact Cells.here | apply Cells.there)) rfl (fun w hw => ⟨_, _, [], rfl, HLe.refl _, hw.drop, rfl, rfl, _, _, _, rfl⟩)
 refine X_skip ?_
 refine at_then ?_
 refine zR ?_
 refine zM ?_
 refine XO_callV0 (cap := []) (vs := [_]) rfl rfl fun_95 (w_magB I n hn) rfl rfl ?_
 refine zM ?_
 refine XO_callV0 (cap := []) (vs := [_]) rfl rfl fun_95 (w_magB I d (by omega)) rfl rfl ?_
 refine zA ?_
 refine zA ?_
 refine zN (zR ?_)
 refine zM ?_
 refine zM ?_
 refine XO_callV0 (cap := []) (vs := [_, _]) rfl rfl fun_94 (w_divB I n d hn hd) rfl rfl ?_
 refine zA ?_
 refine zN ?_
 refine X_seq ?_
 refine X_draw mixed (by kernel_rfl) ?_
 refine XQ_v0 (ev_move rfl) rfl rfl rfl ?_
 refine XQ_v0 (ev_move rfl) rfl rfl rfl ?_
 refine XQ_v0 (ev_quo rfl rfl (fun hg => by exact gcdM_ne hd.1)) rfl rfl rfl ?_
 refine XQ_v0 (ev_move rfl) rfl rfl rfl ?_
 refine XQ_v0 (ev_move rfl) rfl rfl rfl ?_
 refine XQ_v0 (ev_quo rfl rfl (fun hg => by exact gcdM_ne hd.1)) rfl rfl rfl ?_
 refine XQ_v0 (ev_assign rfl) rfl rfl rfl ?_
 refine XQ_v0 (ev_assign rfl) rfl rfl rfl ?_
 refine XQ_nil ?_
 refine at_then ?_
 refine X_seq ?_
 refine zR ?_
 refine zM ?_
 refine zM ?_
 refine zV (ev_max rfl rfl) ?_
 refine zC ?_
 refine zN ?_
 refine zI ?_ ?_ <;> intro hc28
 ·
  refine zR ?_
  refine zV (ev_loadA rfl agt_24 (fun hg => by first | (repeat (first | exact Cells.here | exact Cells.s0 (vs := [_, _]) rfl | apply Cells.there | apply Cells.app))) rfl) ?_
  refine XO_storeA rfl rfl szt_24 rfl rfl rfl rfl (by repeat (first | exact Upd.here | apply Upd.there | apply upd_app)) ?_
  refine zA ?_
  refine zN ?_
  refine X_ret ?_
  refine at_then_r ?_
  exact at_ret2A rfl rfl rfl agt_24 (vs := [_, _]) (by repeat (first | exact Cells.here | apply Cells.there)) rfl (fun w hw => ⟨_, _, [], rfl, HLe.refl _, hw.drop, rfl, rfl, _, _, _, rfl⟩)
 refine X_skip ?_
 refine at_then ?_
 refine zR ?_
 refine zM ?_
 refine zV (ev_convI rfl cvt_108_3) ?_
 refine zM ?_
 refine zV (ev_convI rfl cvt_108_3) ?_
 refine zV (ev_buildL (ps := [(0, _), (1, _)]) [_, _] plt_24 rfl rfl) ?_
 refine XO_storeA rfl rfl szt_24 rfl rfl rfl rfl (by repeat (first | exact Upd.here | apply Upd.there | apply upd_app)) ?_
 refine zN ?_
 refine X_seq ?_
 refine zR ?_
 refine zM ?_
 refine zC ?_
 refine zM ?_
 refine zC ?_
 refine zV (ev_boolN rfl rfl und_4) ?_
 refine zN ?_
 refine zI ?_ ?_ <;> intro hc39
 ·
  refine X_region ?_
  refine zF fld_24_0 ?_
  refine zL sct_3 ?_
  refine zV (ev_neg rfl) ?_
  refine zF fld_24_0 ?_
  refine zS szt_3 ?_
  refine zN (zR ?_)
  refine zV (ev_loadA rfl agt_24 (fun hg => by first | (repeat (first | exact Cells.here | exact Cells.s0 (vs := [_, _]) rfl | apply Cells.there | apply Cells.app))) rfl) ?_
  refine XO_storeA rfl rfl szt_24 rfl rfl rfl rfl (by repeat (first | exact Upd.here | apply Upd.there | apply upd_app)) ?_
  refine zA ?_
  refine zN ?_
  refine X_ret ?_
  exact at_ret2A rfl rfl rfl agt_24 (vs := [_, _]) (by repeat (first | exact Cells.here | apply Cells.there)) rfl (fun w hw => ⟨_, _, [], rfl, HLe.refl _, hw.drop, rfl, rfl, _, _, _, rfl⟩)
 refine X_skip ?_
 refine at_then ?_
 refine zR ?_
 refine zV (ev_loadA rfl agt_24 (fun hg => by first | (repeat (first | exact Cells.here | exact Cells.s0 (vs := [_, _]) rfl | apply Cells.there | apply Cells.app))) rfl) ?_
 refine XO_storeA rfl rfl szt_24 rfl rfl rfl rfl (by repeat (first | exact Upd.here | apply Upd.there | apply upd_app)) ?_
 refine zA ?_
 refine zN ?_
 refine X_ret ?_
 exact at_ret2A rfl rfl rfl agt_24 (vs := [_, _]) (by repeat (first | exact Cells.here | apply Cells.there)) rfl (fun w hw => ⟨_, _, [], rfl, HLe.refl _, hw.drop, rfl, rfl, _, _, _, rfl⟩)
theorem w_mul1 (I : HMap) {n d m e : Int} (h1 : ratF n d = true) (h2 : ratF m e = true) : RetV Tryz.prog 96 [encRA n d, encRA m e] I (.tuple #[.int .i64 (n * m), .int .i64 (d * e)]) := by
 intro g H w hw
 refine enter Tryz.func96 rfl Tryz.ntmps96 rfl hw ?_
 obtain ⟨hd, hn⟩ := ratF_in h1
 obtain ⟨he, hm⟩ := ratF_in h2
 have hb1 := mul_bd hn hm
 have hb2 := mul_bd (show -1073741824 ≤ d ∧ d ≤ 1073741824 by omega) (show -1073741824 ≤ e ∧ e ≤ 1073741824 by omega)
 refine zR ?_
 refine XO_box rfl rfl rfl (fun b_2 => ?_)
 refine XO_box rfl rfl rfl (fun b_3 => ?_)
 refine zA ?_
 refine zA ?_
 refine zN ?_
 refine X_seq ?_
 refine X_draw mixed (by kernel_rfl) ?_
 refine XQ_v0 (ev_fieldAddr rfl fld_24_0) rfl rfl rfl ?_
 refine XQ_v0 (ev_load rfl sct_3 (fun hg => by repeat (first | exact Cell.here rfl | apply Cell.there | apply Cell.app))) rfl rfl rfl ?_
 refine XQ_v0 (ev_fieldAddr rfl fld_24_0) rfl rfl rfl ?_
 refine XQ_v0 (ev_load rfl sct_3 (fun hg => by repeat (first | exact Cell.here rfl | apply Cell.there | apply Cell.app))) rfl rfl rfl ?_
 refine XQ_v0 (ev_arB rfl rfl rfl (fun _ => by omega)) rfl rfl rfl ?_
 refine XQ_v0 (ev_fieldAddr rfl fld_24_1) rfl rfl rfl ?_
 refine XQ_v0 (ev_load rfl sct_3 (fun hg => by repeat (first | exact Cell.here rfl | apply Cell.there | apply Cell.app))) rfl rfl rfl ?_
 refine XQ_v0 (ev_fieldAddr rfl fld_24_1) rfl rfl rfl ?_
 refine XQ_v0 (ev_load rfl sct_3 (fun hg => by repeat (first | exact Cell.here rfl | apply Cell.there | apply Cell.app))) rfl rfl rfl ?_
 refine XQ_v0 (ev_arB rfl rfl rfl (fun _ => by omega)) rfl rfl rfl ?_
 refine XQ_v0 (ev_assign rfl) rfl rfl rfl ?_
 refine XQ_v0 (ev_assign rfl) rfl rfl rfl ?_
 refine XQ_nil ?_
 refine at_then ?_
 refine X_ret ?_
 exact at_ret2 rfl rfl rfl (fun w hw => ⟨rfl, hw.drop⟩)
theorem w_do (I : HMap) (n d m e : Int) : RetM Tryz.prog 97 [.agg #[.func (.func 96) #[] #[]], encRA n d, encRA m e] I [] ((fun v I' L => I' = I ∧ L = [] ∧ ∃ a b er, v = .tuple #[encRA a b, .int .i64 er])) := by
 intro g H w hw
 refine enter Tryz.func97 rfl Tryz.ntmps97 rfl hw ?_
 have hIc := HLe.refl I
 refine zR ?_
 refine XO_box rfl rfl rfl (fun b_3 => ?_)
 refine XO_box rfl rfl rfl (fun b_4 => ?_)
 refine XO_box rfl rfl rfl (fun b_5 => ?_)
 refine XO_alloc zt_24 rfl rfl (fun b_6 => ?_)
 refine zA ?_
 refine zN ?_
 refine X_seq ?_
 refine zR ?_
 refine zV (ev_loadA rfl agt_24 (fun hg => by first | (repeat (first | exact Cells.here | exact Cells.s0 (vs := [_, _]) rfl | apply Cells.there | apply Cells.app))) rfl) ?_
 refine XO_callV0 (cap := []) (vs := [_]) rfl rfl fun_67 (w_ratchk I n d) rfl rfl ?_
 refine zC ?_
 refine zM ?_
 refine XO_pushF 3 rfl rfl rfl ?_
 refine zJ (ev_loadA rfl agt_24 (fun hg => by first | (repeat (first | exact Cells.here | exact Cells.s0 (vs := [_, _]) rfl | apply Cells.there | apply Cells.app))) rfl) ?_
 refine XO_callV1 (cap := []) (vs := [_]) rfl rfl fun_67 (fun hg => w_ratchk I m e) (.some rfl rfl rfl rfl gbf) rfl rfl ?_
 refine zJ (ev_cmp rfl rfl rfl) ?_
 refine XO_or0 rfl rfl rfl rfl rfl ?_
 refine zN ?_
 refine zI ?_ ?_ <;> intro hc15
 ·
  refine zR ?_
  refine zV (ev_loadA rfl agt_24 (fun hg => by first | (repeat (first | exact Cells.here | exact Cells.s0 (vs := [_, _]) rfl | apply Cells.there | apply Cells.app))) rfl) ?_
  refine XO_storeA rfl rfl szt_24 rfl rfl rfl rfl (by repeat (first | exact Upd.here | apply Upd.there | apply upd_app)) ?_
  refine zA ?_
  refine zN ?_
  refine X_ret ?_
  refine at_then_r ?_
  exact at_ret2A rfl rfl rfl agt_24 (vs := [_, _]) (by repeat (first | exact Cells.here | apply Cells.there)) rfl (fun w hw => ⟨_, _, [], rfl, HLe.refl _, hw.drop, rfl, rfl, _, _, _, rfl⟩)
 have hr : ratF n d = true ∧ ratF m e = true := by have h := hc15; unfold ratE at h; simp at h; exact ⟨by cases h1 : ratF n d <;> simp_all, by cases h2 : ratF m e <;> simp_all⟩
 obtain ⟨hr1, hr2⟩ := hr
 refine X_skip ?_
 refine at_then ?_
 refine zR ?_
 refine zF fld_133_0 ?_
 refine zL sct_131 ?_
 refine zV (ev_loadA rfl agt_24 (fun hg => by first | (repeat (first | exact Cells.here | exact Cells.s0 (vs := [_, _]) rfl | apply Cells.there | apply Cells.app))) rfl) ?_
 refine zV (ev_loadA rfl agt_24 (fun hg => by first | (repeat (first | exact Cells.here | exact Cells.s0 (vs := [_, _]) rfl | apply Cells.there | apply Cells.app))) rfl) ?_
 refine XO_callV0 (cap := []) (vs := [_, _]) rfl rfl fun_96 (w_mul1 I hr1 hr2) rfl rfl ?_
 refine zE ?_
 refine zE ?_
 refine XO_callM (cap := []) (vs := [_, _]) rfl rfl fun_119 .nil (w_make I (n * m) (d * e) (mul_bd (ratF_in hr1).2 (ratF_in hr2).2) ⟨mul_pos9 (ratF_in hr1).1.1 (ratF_in hr2).1.1, (mul_bd (show -1073741824 ≤ d ∧ d ≤ 1073741824 by have := ratF_in hr1; omega) (show -1073741824 ≤ e ∧ e ≤ 1073741824 by have := ratF_in hr2; omega)).2⟩) rfl rfl ?_
 rintro vv1 I1 L1 hI1 ⟨rfl, rfl, ra, rb, er, rfl⟩
 have hIc := hIc.trans hI1
 refine zE ?_
 refine zE ?_
 refine XO_storeA rfl rfl szt_24 rfl rfl rfl rfl (by repeat (first | exact Upd.here | apply Upd.there | apply upd_app)) ?_
 refine zA ?_
 refine zN ?_
 refine X_ret ?_
 exact at_ret2A rfl rfl rfl agt_24 (vs := [_, _]) (by repeat (first | exact Cells.here | apply Cells.there)) rfl (fun w hw => ⟨_, _, [], rfl, HLe.refl _, hw.drop, rfl, rfl, _, _, _, rfl⟩)
theorem w_Mul (I : HMap) (n d m e : Int) : RetM Tryz.prog 70 [encRA n d, encRA m e] I [] ((fun v I' L => I' = I ∧ L = [] ∧ ∃ a b er, v = .tuple #[encRA a b, .int .i64 er])) := by
 intro g H w hw
 refine enter Tryz.func70 rfl Tryz.ntmps70 rfl hw ?_
 have hIc := HLe.refl I
 refine zR ?_
 refine XO_box rfl rfl rfl (fun b_2 => ?_)
 refine XO_box rfl rfl rfl (fun b_3 => ?_)
 refine XO_alloc zt_24 rfl rfl (fun b_4 => ?_)
 refine zA ?_
 refine zN (zR ?_)
 refine zV (ev_buildL (ps := [(0, _)]) [_] plt_133 rfl rfl) ?_
 refine zV (ev_loadA rfl agt_24 (fun hg => by first | (repeat (first | exact Cells.here | exact Cells.s0 (vs := [_, _]) rfl | apply Cells.there | apply Cells.app))) rfl) ?_
 refine zV (ev_loadA rfl agt_24 (fun hg => by first | (repeat (first | exact Cells.here | exact Cells.s0 (vs := [_, _]) rfl | apply Cells.there | apply Cells.app))) rfl) ?_
 refine XO_callM (cap := []) (vs := [_, _, _]) rfl rfl fun_97 .nil (w_do I n d m e) rfl rfl ?_
 rintro vv1 I1 L1 hI1 ⟨rfl, rfl, ra, rb, er, rfl⟩
 have hIc := hIc.trans hI1
 refine zE ?_
 refine zE ?_
 refine XO_storeA rfl rfl szt_24 rfl rfl rfl rfl (by repeat (first | exact Upd.here | apply Upd.there | apply upd_app)) ?_
 refine zA ?_
 refine zN ?_
 refine X_ret ?_
 exact at_ret2A rfl rfl rfl agt_24 (vs := [_, _]) (by repeat (first | exact Cells.here | apply Cells.there)) rfl (fun w hw => ⟨_, _, [], rfl, HLe.refl _, hw.drop, rfl, rfl, _, _, _, rfl⟩)
end Go.Proofs.YtoicbikdenlioaaGreat
end
section
namespace Go.Proofs.YtoicbikdenlioaaGreat
open Go Go.Kn Go.Proofs
/-- What a change of a sign of one's own may do. -/
def InnP (_I : HMap) (b t : Nat) (x : Sg) : Value → HMap → Go.Kn.Loc → Prop := fun v _ L => ∃ (g : Bool) (x' : Sg), v = .bool g ∧ L = [(b, .cells (encG x').toArray t (0, 0))] ∧ x'.id = x.id
def InnR (P : Program) (t : Nat) (f : Nat) (cap : List Value) (I : HMap) : Prop := ∀ I2, HLe I I2 → ∀ (b : Nat) (x : Sg), RetM P f (capP b :: cap) I2 [(b, .cells (encG x).toArray t (0, 0))] (InnP I2 b t x)
theorem InnR.mono {P : Program} {t f : Nat} {cap : List Value} {I I' : HMap} (h : InnR P t f cap I) (hI : HLe I I') : InnR P t f cap I' := fun I2 h2 => h I2 (hI.trans h2)
/-- What the work on a sign hands back. -/
def WorkP (x : Sg) : Value → HMap → Go.Kn.Loc → Prop := fun v I' L => L = [] ∧ ∃ (av : Option Addr) (n c : Nat) (zs : List Sg) (g : Bool), v = .tuple #[.slice av n c, .bool g] ∧ Sl I' 14 encG av n c zs ∧ n ≤ 1 ∧ ∀ z ∈ zs, z.id = x.id
def WorkR (P : Program) (I : HMap) (v : Value) : Prop := ∃ (f : Nat) (cap : List Value), v = .func (.func f) #[] cap.toArray ∧ Fun P f ∧ ∀ I2, HLe I I2 → ∀ x, RetM P f (encGA x :: cap) I2 [] (WorkP x)
theorem WorkR.mono {P : Program} {I I' : HMap} {v : Value} (h : WorkR P I v) (hI : HLe I I') : WorkR P I' v := by
  obtain ⟨f, cap, h1, h2, h3⟩ := h
  exact ⟨f, cap, h1, h2, fun I2 h4 => h3 I2 (hI.trans h4)⟩
/-- What tells of an edit what it does. -/
def DoesP (P : Program) : Value → HMap → Go.Kn.Loc → Prop := fun v I' L => L = [] ∧ WorkR P I' v
theorem blt_of {x : Sg} {o : Nat} {z : Value} (h : (encG x)[o]? = some z) : Nat.blt o (encG x).toArray.size = true := by
  rw [Nat.blt_eq]
  exact (List.getElem?_eq_some_iff.1 h).1
theorem own_sp {I : HMap} {b t : Nat} {fz : Nat × Nat} {x : Sg} {l : Go.Kn.Loc} : Cells I ((b, .cells (encG x).toArray t fz) :: l) b (0 + 10) [.int .i64 x.fn, .int .i64 x.fd] := fun j u hu => by
  match j, hu with
  | 0, hu => cases hu; exact Cell.here rfl
  | 1, hu => cases hu; exact Cell.here rfl
  | j + 2, hu => simp at hu
theorem own_sp2 {I : HMap} {b t : Nat} {fz : Nat × Nat} {x : Sg} {l : Go.Kn.Loc} : Cells I ((b, .cells (encG x).toArray t fz) :: l) b (0 + 12) [.int .i64 x.tn, .int .i64 x.td] := fun j u hu => by
  match j, hu with
  | 0, hu => cases hu; exact Cell.here rfl
  | 1, hu => cases hu; exact Cell.here rfl
  | j + 2, hu => simp at hu
theorem imm_ra {I : HMap} {b t : Nat} {fz : Nat × Nat} {e : Ed} {l : Go.Kn.Loc} (h : I b = some (.cells (encE e).toArray t fz)) : Cells I l b (0 + 6) [.int .i64 e.rn, .int .i64 e.rd] := fun j u hu => by
  match j, hu with
  | 0, hu => cases hu; exact Cell.imm h rfl
  | 1, hu => cases hu; exact Cell.imm h rfl
  | j + 2, hu => simp at hu
theorem set_dir (x : Sg) (u : Int) : (encG x).toArray.setIfInBounds (0 + 6) (.int .i64 u) = (encG { x with dir := u }).toArray := id rfl
theorem set_size (x : Sg) (u : Int) : (encG x).toArray.setIfInBounds (0 + 8) (.int .i64 u) = (encG { x with size := u }).toArray := id rfl
theorem spl_ab (x : Sg) (a b c d : Int) : spliceL (spliceL (encG x) (0 + 10) [.int .i64 a, .int .i64 b]) (0 + 12) [.int .i64 c, .int .i64 d] = encG { x with fn := a, fd := b, tn := c, td := d } := rfl
end Go.Proofs.YtoicbikdenlioaaGreat
end
section
namespace Go.Proofs.YtoicbikdenlioaaGreat
open Go Go.Kn Go.Proofs
theorem fun_44 : Fun Tryz.prog 44 := .of Tryz.func44 (by kernel_rfl) (by kernel_rfl)
theorem fun_45 : Fun Tryz.prog 45 := .of Tryz.func45 (by kernel_rfl) (by kernel_rfl)
theorem fun_49 : Fun Tryz.prog 49 := .of Tryz.func49 (by kernel_rfl) (by kernel_rfl)
theorem fun_64 : Fun Tryz.prog 64 := .of Tryz.func64 (by kernel_rfl) (by kernel_rfl)
theorem w_swap (I : HMap) (b o : Nat) (x : Sg) (z p q : Int) (hz : (encG x)[o]? = some (.int .i64 z)) (hs : ∀ u : Int, ∃ x2 : Sg, x2.id = x.id ∧ (encG x).toArray.setIfInBounds o (.int .i64 u) = (encG x2).toArray) : RetM Tryz.prog 45 [.pointer (some ⟨b, o, none⟩), .int .i64 p, .int .i64 q] I [(b, .cells (encG x).toArray 26 (0, 0))] (fun v I' L => I' = I ∧ ∃ x2 : Sg, x2.id = x.id ∧ L = [(b, .cells (encG x2).toArray 26 (0, 0))]) := by
 intro g H w hw
 refine enter Tryz.func45 rfl Tryz.ntmps45 rfl hw ?_
 refine zR ?_
 refine zM ?_
 refine zV (ev_nilCheck rfl) ?_
 refine zV (ev_load rfl sct_3 (fun hg => by exact (Cell.here (by rw [lget_eq]; exact hz)))) ?_
 refine zN ?_
 refine X_block ?_
 refine zR ?_
 refine zM ?_
 refine zC ?_
 refine zA ?_
 refine zN ?_
 refine zI ?_ ?_ <;> intro hc9
 ·
  refine X_region ?_
  refine zM ?_
  refine zM ?_
  refine zV (ev_nilCheck rfl) ?_
  refine XO_store rfl rfl szt_3 rfl rfl (by repeat (first | exact Upd.here | apply Upd.there | apply upd_app)) (blt_of hz) ?_
  refine XO_nil ?_
  refine at_block_n ?_
  first
  | (obtain ⟨x2, e1, e2⟩ := hs q; exact at_norm (at_ret0 rfl (fun w hw => ⟨_, I, _, rfl, HLe.refl _, hw, rfl, x2, e1, congrArg (fun a : Array Value => [(b, Obj.cells a 26 (0, 0))]) e2⟩)))
 refine zR ?_
 refine zM ?_
 refine zC ?_
 refine zA ?_
 refine zN ?_
 refine zI ?_ ?_ <;> intro hc15
 ·
  refine X_region ?_
  refine zM ?_
  refine zM ?_
  refine zV (ev_nilCheck rfl) ?_
  refine XO_store rfl rfl szt_3 rfl rfl (by repeat (first | exact Upd.here | apply Upd.there | apply upd_app)) (blt_of hz) ?_
  refine XO_nil ?_
  refine at_block_n ?_
  first
  | (obtain ⟨x2, e1, e2⟩ := hs p; exact at_norm (at_ret0 rfl (fun w hw => ⟨_, I, _, rfl, HLe.refl _, hw, rfl, x2, e1, congrArg (fun a : Array Value => [(b, Obj.cells a 26 (0, 0))]) e2⟩)))
 refine X_skip ?_
 refine at_block_n ?_
 exact at_norm (at_ret0 rfl (fun w hw => ⟨_, I, _, rfl, HLe.refl _, hw, rfl, x, rfl, rfl⟩))
theorem w_in1 {I : HMap} (b : Nat) (x : Sg) : RetM Tryz.prog 44 [capP b] I [(b, .cells (encG x).toArray 26 (0, 0))] (InnP I b 26 x) := by
 intro g H w hw
 refine enter Tryz.func44 rfl Tryz.ntmps44 rfl hw ?_
 have hIc := HLe.refl I
 refine zR ?_
 refine zA ?_
 refine zN (zR ?_)
 refine zM ?_
 refine zV (ev_nilCheck rfl) ?_
 refine zF fld_26_5 ?_
 refine XO_callM (cap := []) (vs := [_, _, _]) rfl rfl fun_45 split_all (w_swap I b 5 x _ _ _ rfl (fun u => ⟨{ x with side := u }, rfl, rfl⟩)) rfl rfl ?_
 rintro vv1 I1 L1 hI1 ⟨rfl, x1, hx1, rfl⟩
 have hIc := hIc.trans hI1
 refine zN ?_
 refine X_seq ?_
 refine zR ?_
 refine zM ?_
 refine zV (ev_nilCheck rfl) ?_
 refine zF fld_26_6 ?_
 refine zL sct_3 ?_
 refine zC ?_
 refine zN ?_
 refine zI ?_ ?_ <;> intro hc11
 ·
  refine X_region ?_
  refine zM ?_
  refine zM ?_
  refine zV (ev_nilCheck rfl) ?_
  refine zF fld_26_6 ?_
  refine zL sct_3 ?_
  refine zV (ev_ar rfl rfl rfl) ?_
  refine zV (ev_nilCheck rfl) ?_
  refine zF fld_26_6 ?_
  refine zS szt_3 ?_
  refine zN ?_
  refine X_seq ?_
  refine zR ?_
  refine zM ?_
  refine zV (ev_nilCheck rfl) ?_
  refine zF fld_26_4 ?_
  refine zL sct_3 ?_
  refine zC ?_
  refine zM ?_
  refine XO_pushT 5 rfl rfl rfl ?_
  refine zK (ev_move rfl) ?_
  refine zK (ev_nilCheck rfl) ?_
  refine zK (ev_fieldAddr rfl fld_26_8) ?_
  refine zK (ev_load rfl sct_3 (fun hg => by repeat (first | exact Cell.here rfl | apply Cell.there | apply Cell.app))) ?_
  refine XO_callV1 (cap := []) (vs := [_, _, _]) rfl rfl fun_16 (fun hg => w_within I1 _ _ _) (.some rfl rfl rfl rfl gbt) rfl rfl ?_
  refine XO_and0 rfl rfl rfl rfl rfl ?_
  refine zN ?_
  refine zI ?_ ?_ <;> intro hc31
  ·
   refine X_region ?_
   refine zM ?_
   refine zM ?_
   refine zV (ev_nilCheck rfl) ?_
   refine zF fld_26_8 ?_
   refine zL sct_3 ?_
   refine zV (ev_ar rfl rfl rfl) ?_
   refine zV (ev_nilCheck rfl) ?_
   refine zF fld_26_8 ?_
   refine zS szt_3 ?_
   refine zN (zR ?_)
   refine zA ?_
   refine zN ?_
   refine X_ret ?_
   refine at_ret1 rfl rfl (fun w hw => ?_)
   try simp only [set_dir, set_size] at hw
   exact ⟨_, _, _, rfl, HLe.refl _, hw, _, _, rfl, rfl, hx1⟩
  refine X_skip ?_
  refine at_then ?_
  refine zR ?_
  refine zA ?_
  refine zN ?_
  refine X_ret ?_
  refine at_ret1 rfl rfl (fun w hw => ?_)
  try simp only [set_dir, set_size] at hw
  exact ⟨_, _, _, rfl, HLe.refl _, hw, _, _, rfl, rfl, hx1⟩
 refine X_skip ?_
 refine at_then ?_
 refine X_seq ?_
 refine zR ?_
 refine zM ?_
 refine zV (ev_nilCheck rfl) ?_
 refine zF fld_26_4 ?_
 refine zL sct_3 ?_
 refine zC ?_
 refine zM ?_
 refine XO_pushT 5 rfl rfl rfl ?_
 refine zK (ev_move rfl) ?_
 refine zK (ev_nilCheck rfl) ?_
 refine zK (ev_fieldAddr rfl fld_26_8) ?_
 refine zK (ev_load rfl sct_3 (fun hg => by repeat (first | exact Cell.here rfl | apply Cell.there | apply Cell.app))) ?_
 refine XO_callV1 (cap := []) (vs := [_, _, _]) rfl rfl fun_16 (fun hg => w_within I1 _ _ _) (.some rfl rfl rfl rfl gbt) rfl rfl ?_
 refine XO_and0 rfl rfl rfl rfl rfl ?_
 refine zN ?_
 refine zI ?_ ?_ <;> intro hc31
 ·
  refine X_region ?_
  refine zM ?_
  refine zM ?_
  refine zV (ev_nilCheck rfl) ?_
  refine zF fld_26_8 ?_
  refine zL sct_3 ?_
  refine zV (ev_ar rfl rfl rfl) ?_
  refine zV (ev_nilCheck rfl) ?_
  refine zF fld_26_8 ?_
  refine zS szt_3 ?_
  refine zN (zR ?_)
  refine zA ?_
  refine zN ?_
  refine X_ret ?_
  refine at_ret1 rfl rfl (fun w hw => ?_)
  try simp only [set_dir, set_size] at hw
  exact ⟨_, _, _, rfl, HLe.refl _, hw, _, _, rfl, rfl, hx1⟩
 refine X_skip ?_
 refine at_then ?_
 refine zR ?_
 refine zA ?_
 refine zN ?_
 refine X_ret ?_
 refine at_ret1 rfl rfl (fun w hw => ?_)
 try simp only [set_dir, set_size] at hw
 exact ⟨_, _, _, rfl, HLe.refl _, hw, _, _, rfl, rfl, hx1⟩
theorem w_in2 {I : HMap} {b1 : Nat} {e : Ed} (h1 : ImmC I b1 (.cells (encE e).toArray 28 (0, 0))) (b : Nat) (x : Sg) : RetM Tryz.prog 49 [capP b, capP b1] I [(b, .cells (encG x).toArray 26 (0, 0))] (InnP I b 26 x) := by
 intro g H w hw
 refine enter Tryz.func49 rfl Tryz.ntmps49 rfl hw ?_
 refine zR ?_
 refine zA ?_
 refine zN ?_
 refine X_seq ?_
 refine zR ?_
 refine zM ?_
 refine zV (ev_nilCheck rfl) ?_
 refine zF fld_26_6 ?_
 refine zV (ev_load rfl sct_3 (fun hg => by (repeat (first | exact Cell.here rfl | apply Cell.there | apply Cell.app)))) ?_
 refine zC ?_
 refine zN ?_
 refine zI ?_ ?_ <;> intro hc8
 ·
  have hD := HLe.refl I
  refine X_noP ?_
  refine X_drawS I [] mixed ?_
  refine zT 0 rfl (ev_move rfl) hD ?_
  refine zT 1 rfl (ev_move rfl) hD ?_
  refine zT 2 rfl (ev_nilCheck rfl) hD ?_
  refine zT 3 rfl (ev_fieldAddr rfl fld_26_6) hD ?_
  refine zT 6 rfl (ev_fieldAddr rfl fld_28_5) hD ?_
  refine zT 7 rfl (ev_load rfl sct_3 (fun hg => by exact Cell.imm h1 rfl)) hD ?_
  refine XD_one 4 rfl (by kernel_rfl) ?_
  refine zV (ev_load rfl sct_3 (fun hg => by (repeat (first | exact Cell.here rfl | apply Cell.there | apply Cell.app)))) ?_
  refine XO_nil ?_
  refine zD hD ?_
  refine zT 5 rfl (ev_ar rfl rfl rfl) hD ?_
  refine zT 8 rfl (ev_ar rfl rfl rfl) hD ?_
  refine zT 9 rfl (ev_rem rfl rfl (fun hg => by decide)) hD ?_
  refine zT 10 rfl (ev_ar rfl rfl rfl) hD ?_
  refine zT 11 rfl (ev_nilCheck rfl) hD ?_
  refine zT 12 rfl (ev_fieldAddr rfl fld_26_6) hD ?_
  refine XD_one 13 rfl (by kernel_rfl) ?_
  refine zS szt_3 ?_
  refine XO_nil ?_
  refine zD hD ?_
  refine XD_done (by kernel_rfl) ?_
  refine at_noP ?_
  refine at_then ?_
  refine zR ?_
  refine zA ?_
  refine zN ?_
  refine X_ret ?_
  refine at_ret1 rfl rfl (fun w hw => ?_)
  try simp only [set_dir, set_size] at hw
  exact ⟨_, _, _, rfl, HLe.refl _, hw, _, _, rfl, rfl, rfl⟩
 refine X_skip ?_
 refine at_then ?_
 refine zR ?_
 refine zA ?_
 refine zN ?_
 refine X_ret ?_
 refine at_ret1 rfl rfl (fun w hw => ?_)
 try simp only [set_dir, set_size] at hw
 exact ⟨_, _, _, rfl, HLe.refl _, hw, _, _, rfl, rfl, rfl⟩
theorem w_in6 {I : HMap} {b1 : Nat} {e : Ed} (h1 : ImmC I b1 (.cells (encE e).toArray 28 (0, 0))) (b : Nat) (x : Sg) : RetM Tryz.prog 64 [capP b, capP b1] I [(b, .cells (encG x).toArray 26 (0, 0))] (InnP I b 26 x) := by
 intro g H w hw
 refine enter Tryz.func64 rfl Tryz.ntmps64 rfl hw ?_
 have hIc := HLe.refl I
 refine zR ?_
 refine zA ?_
 refine zN ?_
 refine X_seq ?_
 have hD := HLe.refl I
 refine X_noP ?_
 refine X_drawS I [] mixed ?_
 refine zT 0 rfl (ev_move rfl) hD ?_
 refine zT 1 rfl (ev_nilCheck rfl) hD ?_
 refine zT 2 rfl (ev_fieldAddr rfl fld_26_1) hD ?_
 refine zT 3 rfl (ev_fieldAddr rfl fld_28_1) hD ?_
 refine zT 4 rfl (ev_load rfl sct_3 (fun hg => by exact Cell.imm h1 rfl)) hD ?_
 refine zT 5 rfl (ev_ar rfl rfl rfl) hD ?_
 refine zT 6 rfl (ev_fieldAddr rfl fld_28_2) hD ?_
 refine zT 7 rfl (ev_load rfl sct_3 (fun hg => by exact Cell.imm h1 rfl)) hD ?_
 refine zT 8 rfl (ev_ar rfl rfl rfl) hD ?_
 refine XD_one 9 rfl (by kernel_rfl) ?_
 refine XO_callM (cap := []) (vs := [_, _, _]) rfl rfl fun_45 split_all (w_swap I b 1 x _ _ _ rfl (fun u => ⟨{ x with role := u }, rfl, rfl⟩)) rfl rfl ?_
 rintro vv1 I1 L1 hI1 ⟨rfl, x1, hx1, rfl⟩
 have h1 := h1.mono hI1; have hIc := hIc.trans hI1; have hD := hD.trans hI1
 refine XO_nil ?_
 refine zD hD ?_
 refine XD_done (by kernel_rfl) ?_
 refine at_noP ?_
 refine at_then ?_
 refine X_seq ?_
 have hD := HLe.refl I1
 refine X_noP ?_
 refine X_drawS I1 [] mixed ?_
 refine zT 0 rfl (ev_move rfl) hD ?_
 refine zT 1 rfl (ev_nilCheck rfl) hD ?_
 refine zT 2 rfl (ev_fieldAddr rfl fld_26_9) hD ?_
 refine zT 3 rfl (ev_fieldAddr rfl fld_28_1) hD ?_
 refine zT 4 rfl (ev_load rfl sct_3 (fun hg => by exact Cell.imm h1 rfl)) hD ?_
 refine zT 5 rfl (ev_fieldAddr rfl fld_28_2) hD ?_
 refine zT 6 rfl (ev_load rfl sct_3 (fun hg => by exact Cell.imm h1 rfl)) hD ?_
 refine XD_one 7 rfl (by kernel_rfl) ?_
 refine XO_callM (cap := []) (vs := [_, _, _]) rfl rfl fun_45 split_all (w_swap I1 b 9 x1 _ _ _ rfl (fun u => ⟨{ x1 with wth := u }, rfl, rfl⟩)) rfl rfl ?_
 rintro vv2 I2 L2 hI2 ⟨rfl, x2, hx2, rfl⟩
 have h1 := h1.mono hI2; have hIc := hIc.trans hI2; have hD := hD.trans hI2
 refine XO_nil ?_
 refine zD hD ?_
 refine XD_done (by kernel_rfl) ?_
 refine at_noP ?_
 refine at_then ?_
 refine zR ?_
 refine zA ?_
 refine zN ?_
 refine X_ret ?_
 refine at_ret1 rfl rfl (fun w hw => ?_)
 try simp only [set_dir, set_size] at hw
 exact ⟨_, _, _, rfl, HLe.refl _, hw, _, _, rfl, rfl, (hx2.trans hx1)⟩
end Go.Proofs.YtoicbikdenlioaaGreat
end
section
namespace Go.Proofs.YtoicbikdenlioaaGreat
open Go Go.Kn Go.Proofs
theorem fun_69 : Fun Tryz.prog 69 := .of Tryz.func69 (by kernel_rfl) (by kernel_rfl)
theorem fun_70 : Fun Tryz.prog 70 := .of Tryz.func70 (by kernel_rfl) (by kernel_rfl)
theorem w_in7 {I : HMap} {b1 : Nat} {e : Ed} (h1 : ImmC I b1 (.cells (encE e).toArray 28 (0, 0))) (b : Nat) (x : Sg) : RetM Tryz.prog 69 [capP b, capP b1] I [(b, .cells (encG x).toArray 26 (0, 0))] (InnP I b 26 x) := by
 intro g H w hw
 refine enter Tryz.func69 rfl Tryz.ntmps69 rfl hw ?_
 have hIc := HLe.refl I
 refine zR ?_
 refine zA ?_
 refine zN ?_
 refine X_cutT [(0, _), (1, _)] (.cons rfl (.cons rfl .nil)) (fun T L0 E I' loc' => ∃ (p4 : Nat) (ra rb er : Int), E = (4, capP p4) :: (5, .int .i64 er) :: T ∧ HLe I I' ∧ [(p4, .cells #[.int .i64 ra, .int .i64 rb] 24 (0, 0)), (b, .cells (encG x).toArray 26 (0, 0))] = loc' ∧ True) ?_ ?_
 ·
  have hKc1 := HLe.refl I
  have hD := HLe.refl I
  refine X_noP ?_
  refine X_drawS I [] mixed ?_
  refine zT 0 rfl (ev_move rfl) hD ?_
  refine zT 1 rfl (ev_nilCheck rfl) hD ?_
  refine zT 2 rfl (ev_fieldAddr rfl fld_26_10) hD ?_
  refine zT 4 rfl (ev_fieldAddr rfl fld_28_6) hD ?_
  refine zT 5 rfl (ev_loadA rfl agt_24 (fun hg => by exact imm_ra h1) rfl) hD ?_
  refine XD_two 3 10 rfl rfl (by kernel_rfl) ?_ ?_
  ·
   refine zV (ev_loadA rfl agt_24 (fun hg => by exact own_sp) rfl) ?_
   refine XO_nil ?_
   refine zD hD ?_
   refine XD_two 6 10 rfl rfl (by kernel_rfl) ?_ ?_
   ·
    refine XO_callM (cap := []) (vs := [_, _]) rfl rfl fun_70 .nil (w_Mul I x.fn x.fd e.rn e.rd) rfl rfl ?_
    rintro vv1 I1 L1 hI1 ⟨rfl, rfl, rfa, rfb, rfe, rfl⟩
    have h1 := h1.mono hI1; have hIc := hIc.trans hI1; have hKc1 := hKc1.trans hI1; have hD := hD.trans hI1
    refine XO_nil ?_
    refine zD hD ?_
    refine zT 7 rfl (ev_move rfl) hD ?_
    refine zT 8 rfl (ev_extract rfl rfl) hD ?_
    refine zT 9 rfl (ev_extract rfl rfl) hD ?_
    refine XD_one 10 rfl (by kernel_rfl) ?_
    refine XO_alloc zt_24 rfl rfl (fun b_4 => ?_)
    refine XO_nil ?_
    refine zD hD ?_
    refine XD_one 11 rfl (by kernel_rfl) ?_
    refine XO_storeA rfl rfl szt_24 rfl rfl rfl rfl (by repeat (first | exact Upd.here | apply Upd.there | apply upd_app)) ?_
    refine XO_nil ?_
    refine zD hD ?_
    refine zT 12 rfl (ev_assign rfl) hD ?_
    refine XD_done (by kernel_rfl) ?_
    refine at_noP ?_
    exact at_met2 _ _ ⟨_, _, _, _, rfl, hKc1, rfl, trivial⟩ (.cons rfl (.cons rfl (.cons rfl (.cons rfl .nil)))) (by repeat (first | exact .refl | exact subL_left | refine subL_app ?_ | refine .drop ?_ | refine subL_add ?_))
   refine XO_alloc zt_24 rfl rfl (fun b_4 => ?_)
   refine XO_nil ?_
   refine zD hD ?_
   refine XD_one 6 rfl (by kernel_rfl) ?_
   refine XO_callM (cap := []) (vs := [_, _]) rfl rfl fun_70 .nil (w_Mul I x.fn x.fd e.rn e.rd) rfl rfl ?_
   rintro vv2 I2 L2 hI2 ⟨rfl, rfl, rfa, rfb, rfe, rfl⟩
   have h1 := h1.mono hI2; have hIc := hIc.trans hI2; have hKc1 := hKc1.trans hI2; have hD := hD.trans hI2
   refine XO_nil ?_
   refine zD hD ?_
   refine zT 7 rfl (ev_move rfl) hD ?_
   refine zT 8 rfl (ev_extract rfl rfl) hD ?_
   refine zT 9 rfl (ev_extract rfl rfl) hD ?_
   refine XD_one 11 rfl (by kernel_rfl) ?_
   refine XO_storeA rfl rfl szt_24 rfl rfl rfl rfl (by repeat (first | exact Upd.here | apply Upd.there | apply upd_app)) ?_
   refine XO_nil ?_
   refine zD hD ?_
   refine zT 12 rfl (ev_assign rfl) hD ?_
   refine XD_done (by kernel_rfl) ?_
   refine at_noP ?_
   exact at_met2 _ _ ⟨_, _, _, _, rfl, hKc1, rfl, trivial⟩ (.cons rfl (.cons rfl (.cons rfl (.cons rfl .nil)))) (by repeat (first | exact .refl | exact subL_left | refine subL_app ?_ | refine .drop ?_ | refine subL_add ?_))
  refine XO_alloc zt_24 rfl rfl (fun b_4 => ?_)
  refine XO_nil ?_
  refine zD hD ?_
  refine XD_one 3 rfl (by kernel_rfl) ?_
  refine zV (ev_loadA rfl agt_24 (fun hg => by (repeat (first | exact Cells.here | exact Cells.s0 (vs := [_, _]) rfl | apply Cells.there | apply Cells.app))) rfl) ?_
  refine XO_nil ?_
  refine zD hD ?_
  refine XD_one 6 rfl (by kernel_rfl) ?_
  refine XO_callM (cap := []) (vs := [_, _]) rfl rfl fun_70 .nil (w_Mul I x.fn x.fd e.rn e.rd) rfl rfl ?_
  rintro vv3 I3 L3 hI3 ⟨rfl, rfl, rfa, rfb, rfe, rfl⟩
  have h1 := h1.mono hI3; have hIc := hIc.trans hI3; have hKc1 := hKc1.trans hI3; have hD := hD.trans hI3
  refine XO_nil ?_
  refine zD hD ?_
  refine zT 7 rfl (ev_move rfl) hD ?_
  refine zT 8 rfl (ev_extract rfl rfl) hD ?_
  refine zT 9 rfl (ev_extract rfl rfl) hD ?_
  refine XD_one 11 rfl (by kernel_rfl) ?_
  refine XO_storeA rfl rfl szt_24 rfl rfl rfl rfl (by repeat (first | exact Upd.here | apply Upd.there | apply upd_app)) ?_
  refine XO_nil ?_
  refine zD hD ?_
  refine zT 12 rfl (ev_assign rfl) hD ?_
  refine XD_done (by kernel_rfl) ?_
  refine at_noP ?_
  exact at_met2 _ _ ⟨_, _, _, _, rfl, hKc1, rfl, trivial⟩ (.cons rfl (.cons rfl (.cons rfl (.cons rfl .nil)))) (by repeat (first | exact .refl | exact subL_left | refine subL_app ?_ | refine .drop ?_ | refine subL_add ?_))
 rintro E J4 loc' ⟨p4, ra, rb, er, rfl, hJ, rfl, _⟩
 have h1 := h1.mono hJ; have hIc := hIc.trans hJ
 refine X_cutT [(0, _), (4, _), (5, _)] (.cons rfl (.cons rfl (.cons rfl .nil))) (fun T L0 E I' loc' => ∃ (p6 : Nat) (rc rd er2 : Int), E = (6, capP p6) :: (7, .int .i64 er2) :: T ∧ HLe J4 I' ∧ [(p6, .cells #[.int .i64 rc, .int .i64 rd] 24 (0, 0)), (p4, .cells #[.int .i64 ra, .int .i64 rb] 24 (0, 0)), (b, .cells (encG x).toArray 26 (0, 0))] = loc' ∧ True) ?_ ?_
 ·
  have hKc2 := HLe.refl J4
  have hD := HLe.refl J4
  refine X_noP ?_
  refine X_drawS J4 [] mixed ?_
  refine zT 0 rfl (ev_move rfl) hD ?_
  refine zT 1 rfl (ev_nilCheck rfl) hD ?_
  refine zT 2 rfl (ev_fieldAddr rfl fld_26_11) hD ?_
  refine zT 4 rfl (ev_fieldAddr rfl fld_28_6) hD ?_
  refine zT 5 rfl (ev_loadA rfl agt_24 (fun hg => by exact imm_ra h1) rfl) hD ?_
  refine XD_two 3 10 rfl rfl (by kernel_rfl) ?_ ?_
  ·
   refine zV (ev_loadA rfl agt_24 (fun hg => by exact Cells.there own_sp2) rfl) ?_
   refine XO_nil ?_
   refine zD hD ?_
   refine XD_two 6 10 rfl rfl (by kernel_rfl) ?_ ?_
   ·
    refine XO_callM (cap := []) (vs := [_, _]) rfl rfl fun_70 .nil (w_Mul J4 x.tn x.td e.rn e.rd) rfl rfl ?_
    rintro vv5 I5 L5 hI5 ⟨rfl, rfl, rta, rtb, rte, rfl⟩
    have h1 := h1.mono hI5; have hIc := hIc.trans hI5; have hKc2 := hKc2.trans hI5; have hD := hD.trans hI5
    refine XO_nil ?_
    refine zD hD ?_
    refine zT 7 rfl (ev_move rfl) hD ?_
    refine zT 8 rfl (ev_extract rfl rfl) hD ?_
    refine zT 9 rfl (ev_extract rfl rfl) hD ?_
    refine XD_one 10 rfl (by kernel_rfl) ?_
    refine XO_alloc zt_24 rfl rfl (fun b_6 => ?_)
    refine XO_nil ?_
    refine zD hD ?_
    refine XD_one 11 rfl (by kernel_rfl) ?_
    refine XO_storeA rfl rfl szt_24 rfl rfl rfl rfl (by repeat (first | exact Upd.here | apply Upd.there | apply upd_app)) ?_
    refine XO_nil ?_
    refine zD hD ?_
    refine zT 12 rfl (ev_assign rfl) hD ?_
    refine XD_done (by kernel_rfl) ?_
    refine at_noP ?_
    exact at_met2 _ _ ⟨_, _, _, _, rfl, hKc2, rfl, trivial⟩ (.cons rfl (.cons rfl (.cons rfl (.cons rfl (.cons rfl .nil))))) (by repeat (first | exact .refl | exact subL_left | refine subL_app ?_ | refine .drop ?_ | refine subL_add ?_))
   refine XO_alloc zt_24 rfl rfl (fun b_6 => ?_)
   refine XO_nil ?_
   refine zD hD ?_
   refine XD_one 6 rfl (by kernel_rfl) ?_
   refine XO_callM (cap := []) (vs := [_, _]) rfl rfl fun_70 .nil (w_Mul J4 x.tn x.td e.rn e.rd) rfl rfl ?_
   rintro vv6 I6 L6 hI6 ⟨rfl, rfl, rta, rtb, rte, rfl⟩
   have h1 := h1.mono hI6; have hIc := hIc.trans hI6; have hKc2 := hKc2.trans hI6; have hD := hD.trans hI6
   refine XO_nil ?_
   refine zD hD ?_
   refine zT 7 rfl (ev_move rfl) hD ?_
   refine zT 8 rfl (ev_extract rfl rfl) hD ?_
   refine zT 9 rfl (ev_extract rfl rfl) hD ?_
   refine XD_one 11 rfl (by kernel_rfl) ?_
   refine XO_storeA rfl rfl szt_24 rfl rfl rfl rfl (by repeat (first | exact Upd.here | apply Upd.there | apply upd_app)) ?_
   refine XO_nil ?_
   refine zD hD ?_
   refine zT 12 rfl (ev_assign rfl) hD ?_
   refine XD_done (by kernel_rfl) ?_
   refine at_noP ?_
   exact at_met2 _ _ ⟨_, _, _, _, rfl, hKc2, rfl, trivial⟩ (.cons rfl (.cons rfl (.cons rfl (.cons rfl (.cons rfl .nil))))) (by repeat (first | exact .refl | exact subL_left | refine subL_app ?_ | refine .drop ?_ | refine subL_add ?_))
  refine XO_alloc zt_24 rfl rfl (fun b_6 => ?_)
  refine XO_nil ?_
  refine zD hD ?_
  refine XD_one 3 rfl (by kernel_rfl) ?_
  refine zV (ev_loadA rfl agt_24 (fun hg => by (repeat (first | exact Cells.here | exact Cells.s0 (vs := [_, _]) rfl | apply Cells.there | apply Cells.app))) rfl) ?_
  refine XO_nil ?_
  refine zD hD ?_
  refine XD_one 6 rfl (by kernel_rfl) ?_
  refine XO_callM (cap := []) (vs := [_, _]) rfl rfl fun_70 .nil (w_Mul J4 x.tn x.td e.rn e.rd) rfl rfl ?_
  rintro vv7 I7 L7 hI7 ⟨rfl, rfl, rta, rtb, rte, rfl⟩
  have h1 := h1.mono hI7; have hIc := hIc.trans hI7; have hKc2 := hKc2.trans hI7; have hD := hD.trans hI7
  refine XO_nil ?_
  refine zD hD ?_
  refine zT 7 rfl (ev_move rfl) hD ?_
  refine zT 8 rfl (ev_extract rfl rfl) hD ?_
  refine zT 9 rfl (ev_extract rfl rfl) hD ?_
  refine XD_one 11 rfl (by kernel_rfl) ?_
  refine XO_storeA rfl rfl szt_24 rfl rfl rfl rfl (by repeat (first | exact Upd.here | apply Upd.there | apply upd_app)) ?_
  refine XO_nil ?_
  refine zD hD ?_
  refine zT 12 rfl (ev_assign rfl) hD ?_
  refine XD_done (by kernel_rfl) ?_
  refine at_noP ?_
  exact at_met2 _ _ ⟨_, _, _, _, rfl, hKc2, rfl, trivial⟩ (.cons rfl (.cons rfl (.cons rfl (.cons rfl (.cons rfl .nil))))) (by repeat (first | exact .refl | exact subL_left | refine subL_app ?_ | refine .drop ?_ | refine subL_add ?_))
 rintro E J8 loc' ⟨p6, rc, rd, er2, rfl, hJ, rfl, _⟩
 have h1 := h1.mono hJ; have hIc := hIc.trans hJ
 refine X_cutT [(5, _), (7, _)] (.cons rfl (.cons rfl .nil)) (fun T L0 E I' loc' => E = T ∧ J8 = I' ∧ [(b, .cells (encG { x with fn := ra, fd := rb, tn := rc, td := rd }).toArray 26 (0, 0))] = loc' ∧ True) ?_ ?_
 ·
  have hD := HLe.refl J8
  refine X_noP ?_
  refine X_drawS J8 [(p6, .cells #[.int .i64 rc, .int .i64 rd] 24 (0, 0)), (p4, .cells #[.int .i64 ra, .int .i64 rb] 24 (0, 0))] mixed ?_
  refine zT 0 rfl (ev_move rfl) hD ?_
  refine zT 1 rfl (ev_move rfl) hD ?_
  refine zT 2 rfl (ev_loadA rfl agt_24 (fun hg => by (repeat (first | exact Cells.here | exact Cells.s0 (vs := [_, _]) rfl | apply Cells.there | apply Cells.app))) rfl) hD ?_
  refine zT 3 rfl (ev_loadA rfl agt_24 (fun hg => by (repeat (first | exact Cells.here | exact Cells.s0 (vs := [_, _]) rfl | apply Cells.there | apply Cells.app))) rfl) hD ?_
  refine zT 4 rfl (ev_nilCheck rfl) hD ?_
  refine zT 5 rfl (ev_fieldAddr rfl fld_26_10) hD ?_
  refine XD_one 6 rfl (by kernel_rfl) ?_
  refine XO_storeP rfl rfl szt_24 rfl rfl rfl rfl (by repeat (first | exact Upd.here | apply Upd.there | apply upd_app)) ?_
  refine XO_nil ?_
  refine zD hD ?_
  refine zT 7 rfl (ev_nilCheck rfl) hD ?_
  refine zT 8 rfl (ev_fieldAddr rfl fld_26_11) hD ?_
  refine XD_one 9 rfl (by kernel_rfl) ?_
  refine XO_storeP rfl rfl szt_24 rfl rfl rfl rfl (by repeat (first | exact Upd.here | apply Upd.there | apply upd_app)) ?_
  refine XO_nil ?_
  refine zD hD ?_
  refine XD_done (by kernel_rfl) ?_
  refine at_noP ?_
  first
  | exact at_met2 _ _ ⟨rfl, rfl, rfl, trivial⟩ (.cons rfl (.cons rfl .nil)) (by rw [← spl_ab]; repeat (first | exact .refl | refine .drop ?_))
 rintro E I' loc' ⟨rfl, rfl, rfl, _⟩
 refine zR ?_
 refine zM ?_
 refine zC ?_
 refine zM ?_
 refine XO_pushT 2 rfl rfl rfl ?_
 refine zK (ev_move rfl) ?_
 refine zK (ev_cmp rfl rfl rfl) ?_
 refine XO_and0 rfl rfl rfl rfl rfl ?_
 refine zA ?_
 refine zN ?_
 refine X_ret ?_
 exact at_ret1 rfl rfl (fun w hw => ⟨_, _, _, rfl, hIc, hw, _, _, rfl, rfl, rfl⟩)
end Go.Proofs.YtoicbikdenlioaaGreat
end
section
namespace Go.Kn
open Go
def flat3 (P : Program) : List Field → Nat → Option (List EqK)
  | [], _ => some []
  | f :: fs, k => if f.name ≠ "_" ∧ f.offset = k then
      match kindOf P f.type with
      | some q => (flat3 P fs (k + 1)).map (q :: ·)
      | none => match P.underlying f.type with
        | some (.struct gs) => if P.stoodInHeld f.type = false then
            match flat2 P gs.toList 0, P.info? f.type with
            | some l, some i => if i.size = l.length then (flat3 P fs (k + l.length)).map (l ++ ·) else none
            | _, _ => none
          else none
        | _ => none
    else none
def EqT3 (P : Program) (t : Nat) (ks : List EqK) : Prop := P.underlying t = some (.struct (P.fieldsOf t)) ∧ P.stoodInHeld t = false ∧ P.eqGuardType P.depth t = false ∧ flat3 P (P.fieldsOf t).toList 0 = some ks
theorem run_eqFields3 {P : Program} {w : World} (dd : Nat) : ∀ (fs : List Field) (ks : List EqK) (k : Nat) (pre xs pre' ys : List Value) (b : Bool), flat3 P fs k = some ks → pre.length = k → pre'.length = k → eqKs ks xs ys = some b →
    (Op.eqFields (dd + 3) (pre ++ xs).toArray (pre' ++ ys).toArray fs).run P w = .ok b w
  | [], ks, k, pre, xs, pre', ys, b, hf, _, _, he => by
    simp only [flat3, Option.some.injEq] at hf
    subst hf
    cases xs <;> cases ys <;> simp only [eqKs] at he <;> first | (cases he; rfl) | cases he
  | f :: fs, ks, k, pre, xs, pre', ys, b, hf, hp, hp', he => by
    simp only [flat3] at hf
    split at hf
    · rename_i hn
      cases hk : kindOf P f.type with
      | some q =>
        rw [hk] at hf
        simp only [Option.map_eq_some_iff] at hf
        obtain ⟨l, hl, rfl⟩ := hf
        obtain ⟨u, v, us, vs, c, r, rfl, rfl, hs, hc, hr, rfl⟩ := one_field (w := w) (dd := dd + 2) hk he
        refine eqFields_step hn.1 (run_part_sc hs (by rw [hn.2, ← hp]; simp)) (run_part_sc hs (by rw [hn.2, ← hp']; simp)) hc ?_
        have := run_eqFields3 (P := P) (w := w) dd fs l (k + 1) (pre ++ [u]) us (pre' ++ [v]) vs r hl (by simp [hp]) (by simp [hp']) hr
        simpa using this
      | none =>
        rw [hk] at hf
        simp only at hf
        cases hu : P.underlying f.type with
        | none => rw [hu] at hf; cases hf
        | some td =>
          rw [hu] at hf
          cases td <;> simp only [reduceCtorEq] at hf
          rename_i gs
          split at hf
          · rename_i hst
            cases hfl : flat2 P gs.toList 0 with
            | none => rw [hfl] at hf; simp at hf
            | some l2 =>
              cases hin : P.info? f.type with
              | none => rw [hfl, hin] at hf; simp at hf
              | some i =>
                rw [hfl, hin] at hf
                simp only at hf
                split at hf
                · rename_i hsz
                  simp only [Option.map_eq_some_iff] at hf
                  obtain ⟨l, hl, rfl⟩ := hf
                  obtain ⟨u1, u2, v1, v2, b1, b2, rfl, rfl, hu1, hv1, h1, h2, rfl⟩ := eqKs_app he
                  have hag : AgT P f.type l2.length := ⟨⟨_, hu, trivial⟩, i, hin, hsz⟩
                  have hfo : P.fieldsOf f.type = gs := by unfold Program.fieldsOf; rw [hu]
                  refine eqFields_step (u := .agg u1.toArray) (v := .agg v1.toArray) hn.1 ?_ ?_ ?_ ?_
                  · rw [run_part_ag hag, hn.2, extract_mid pre u1 u2 k l2.length hp hu1]
                  · rw [run_part_ag hag, hn.2, extract_mid pre' v1 v2 k l2.length hp' hv1]
                  · rw [run_equalIn_struct w (dd + 2) f.type _ _ (by rw [hfo]; exact hu) hst, hfo]
                    have := run_eqFields2 (P := P) (w := w) dd gs.toList l2 0 [] u1 [] v1 b1 hfl rfl rfl h1
                    simpa using this
                  · have := run_eqFields3 (P := P) (w := w) dd fs l (k + l2.length) (pre ++ u1) u2 (pre' ++ v1) v2 b2 hl (by simp [hp, hu1]) (by simp [hp', hv1]) h2
                    simpa [List.append_assoc] using this
                · cases hf
          · cases hf
    · cases hf
variable {C : Cx} {Q : Exit → Act → World → Prop} {E E' : Env} {I I' : HMap} {loc loc' L R : Loc} {ops : Array Oper} {rest : List Oper} {S : GS}
variable {dst : Option Tmp} {d : Nat} {ty : TypeId} {pos : String} {af : Array Edge} {gd : Option (Nat × Bool)} {x y z : Operand}
theorem ev_neS3 {t t' : TypeId} {ks : List EqK} {us vs : List Value} {b : Bool} (hx : evalS S E x = some (.agg us.toArray)) (hy : evalS S E y = some (.agg vs.toArray)) (hT : EqT3 C.P t ks) (h : eqKs ks us vs = some b) : EvalOp C S E I loc ⟨dst, .binOp .neq t x y t', ty, pos, af, gd⟩ (.bool (!b)) :=
  .of (by intro c e; cases e) fun a w ha hg hc _ => by
    have := run_eqFields3 (P := C.P) (w := w) 9996 _ _ 0 [] us [] vs b hT.2.2.2 rfl rfl h
    simp only [List.nil_append] at this
    simp only [execOp, evalS_sound ha hg hc hx, evalS_sound ha hg hc hy, Sem.run_bind, run_eqGuard_agg w _ _ _ _ _ _ hT.2.2.1, Result.andThen, run_neq_struct, run_equalIn_struct w 9999 t _ _ hT.1 hT.2.1, this, Sem.run_pure]
end Go.Kn
end
section
namespace Go.Proofs.YtoicbikdenlioaaGreat
open Go Go.Kn Go.Proofs
/-- What the three functions of a kind do. -/
def KdR (P : Program) (I : HMap) (f0 f1 f2 : Nat) (c0 c1 c2 : List Value) : Prop :=
  (Fun P f0 ∧ ∀ I2, HLe I I2 → ∀ e, ∃ e2, RetV P f0 (encEA e :: c0) I2 (encEA e2)) ∧ (Fun P f1 ∧ ∀ I2, HLe I I2 → ∀ e, ∃ b : Bool, RetV P f1 (encEA e :: c1) I2 (.bool b)) ∧ (Fun P f2 ∧ ∀ I2, HLe I I2 → ∀ e, RetM P f2 (encEA e :: c2) I2 [] (DoesP P))
theorem set_barA (x : Sg) (u : Int) : (encGA x).cells.setIfInBounds (0 + 2) (.int .i64 u) = (encG { x with bar := u }).toArray := rfl
theorem set_ekind (e : Ed) (u : Int) : (encE e).toArray.setIfInBounds (0 + 0) (.int .i64 u) = (encE { e with kind := u }).toArray := rfl
end Go.Proofs.YtoicbikdenlioaaGreat
end
section
namespace Go.Proofs.YtoicbikdenlioaaGreat
open Go Go.Kn Go.Proofs
theorem fun_43 : Fun Tryz.prog 43 := .of Tryz.func43 (by kernel_rfl) (by kernel_rfl)
theorem fun_52 : Fun Tryz.prog 52 := .of Tryz.func52 (by kernel_rfl) (by kernel_rfl)
theorem fun_56 : Fun Tryz.prog 56 := .of Tryz.func56 (by kernel_rfl) (by kernel_rfl)
theorem fun_60 : Fun Tryz.prog 60 := .of Tryz.func60 (by kernel_rfl) (by kernel_rfl)
theorem fun_93 : Fun Tryz.prog 93 := .of Tryz.func93 (by kernel_rfl) (by kernel_rfl)
theorem w_each1 {I : HMap} {b2 b3 f : Nat} {cap : List Value} {e : Ed} (h2 : ImmC I b2 (.cells (encE e).toArray 28 (0, 0))) (h3 : ImmC I b3 (.cells #[.func (.func f) #[] cap.toArray] 104 (0, 0))) (hF : Fun Tryz.prog f) (hin : InnR Tryz.prog 26 f cap I) (x : Sg) : RetM Tryz.prog 93 [encGA x, capP b2, capP b3] I [] (WorkP x) := by
 intro g H w hw
 refine enter Tryz.func93 rfl Tryz.ntmps93 rfl hw ?_
 have hIc := HLe.refl I
 refine zR ?_
 refine XO_box rfl rfl rfl (fun b_3 => ?_)
 refine zA ?_
 refine zA ?_
 refine zN ?_
 refine X_seq ?_
 refine zR ?_
 refine zF fld_26_2 ?_
 refine zV (ev_load rfl sct_3 (fun hg => by (repeat (first | exact Cell.here rfl | apply Cell.there | apply Cell.app)))) ?_
 refine zF fld_28_3 ?_
 refine zV (ev_load rfl sct_3 (fun hg => by exact Cell.imm h2 rfl)) ?_
 refine zF fld_28_4 ?_
 refine zV (ev_load rfl sct_3 (fun hg => by exact Cell.imm h2 rfl)) ?_
 refine XO_callV0 (cap := []) (vs := [_, _, _]) rfl rfl fun_16 (w_within I _ _ _) rfl rfl ?_
 refine zM ?_
 refine XO_pushT 7 rfl rfl rfl ?_
 refine zK (ev_fieldAddr rfl fld_28_1) ?_
 refine zK (ev_load rfl sct_3 (fun hg => by exact Cell.imm h2 rfl)) ?_
 refine zK (ev_cmp rfl rfl rfl) ?_
 refine zK (ev_move rfl) ?_
 refine XO_pushF 11 rfl rfl rfl ?_
 refine zJ (ev_fieldAddr rfl fld_26_1) ?_
 refine zJ (ev_load rfl sct_3 (fun hg => by (repeat (first | exact Cell.here rfl | apply Cell.there | apply Cell.app)))) ?_
 refine zJ (ev_fieldAddr rfl fld_28_1) ?_
 refine zJ (ev_load rfl sct_3 (fun hg => by exact Cell.imm h2 rfl)) ?_
 refine zJ (ev_ar rfl rfl rfl) ?_
 refine zJ (ev_cmp rfl rfl rfl) ?_
 refine XO_or1 rfl rfl rfl (.some rfl rfl rfl rfl gbt) rfl rfl ?_
 refine XO_and0 rfl rfl rfl rfl rfl ?_
 refine zM ?_
 refine XO_pushT 20 rfl rfl rfl ?_
 refine zK (ev_load rfl sct_104 (fun hg => by exact Cell.imm h3 rfl)) ?_
 refine XO_callG (cap := cap) (vs := [_]) rfl rfl hF (.some rfl rfl rfl rfl gbt) rfl rfl rfl split_all (fun _ => hin _ hIc b_3 x) (fun _ => ⟨.bool false, false, x, rfl, rfl, rfl⟩) ?_
 rintro vv9 I9 L9 hI9 ⟨g9, x9, rfl, rfl, hid⟩
 have hIc := hIc.trans hI9
 refine zK (ev_not rfl) ?_
 refine XO_and0 rfl rfl rfl rfl rfl ?_
 refine zN ?_
 refine zI ?_ ?_ <;> intro hc30
 ·
  refine zR ?_
  refine zA ?_
  refine zA ?_
  refine zN ?_
  refine X_ret ?_
  refine at_then_r ?_
  exact at_ret2 rfl rfl rfl (fun w hw => ⟨_, I9, [], rfl, hIc, hw.drop, rfl, none, 0, 0, [], false, rfl, .nil, Nat.zero_le _, fun z hz => by cases hz⟩)
 refine X_skip ?_
 refine at_then ?_
 refine zR ?_
 refine zV (ev_loadA rfl agt_26 (fun hg => by exact Cells.here) rfl) ?_
 refine XO_buildSlice (ps := [(0, _)]) (m := [encG x9]) elt_22 rfl (.cons rfl (.nil)) rfl (by simp [encG_len]) (by decide) (by decide) rfl rfl (fun b_32 => ?_)
 refine zA ?_
 refine zA ?_
 refine zN ?_
 refine X_ret ?_
 first
 | exact at_ret2 rfl rfl rfl (fun w hw => by obtain ⟨I9, k1, k2, k3⟩ := hw.freezeAll; exact ⟨_, I9, [], rfl, hIc.trans k1, k2, rfl, _, 1, 1, [x9], _, rfl, Sl.lit [x9] rfl encG_len (k3 _ _ (List.mem_cons_self ..)), Nat.le_refl _, fun z hz => by cases List.mem_singleton.1 hz; exact hid⟩)
theorem w_each (I : HMap) (e : Ed) {f : Nat} {cap : List Value} (hF : Fun Tryz.prog f) (hin : InnR Tryz.prog 26 f cap I) : RetM Tryz.prog 43 [encEA e, .func (.func f) #[] cap.toArray] I [] (DoesP Tryz.prog) := by
 intro g H w hw
 refine enter Tryz.func43 rfl Tryz.ntmps43 rfl hw ?_
 have hIc := HLe.refl I
 refine zR ?_
 refine XO_box rfl rfl rfl (fun b_2 => ?_)
 refine XO_box rfl rfl rfl (fun b_3 => ?_)
 refine zA ?_
 refine zN ?_
 refine X_seq ?_
 refine X_freeze .here (fun I1 hI1 hb1 => ?_)
 have hIc := hIc.trans hI1
 have h3 := ImmC.of hb1
 refine X_freeze .here (fun I2 hI2 hb2 => ?_)
 have h3 := h3.mono hI2; have hIc := hIc.trans hI2
 have h2 := ImmC.of hb2
 refine X_region ?_
 refine zV (ev_makeFunc (us := []) (vs := [_, _]) rfl rfl) ?_
 refine zA ?_
 refine zN ?_
 refine X_ret ?_
 exact at_ret1 rfl rfl (fun w hw => ⟨_, I2, [], rfl, hIc, hw.drop, rfl, 93, [capP b_2, capP b_3], rfl, fun_93, fun I8 h8 x => w_each1 (h2.mono h8) (h3.mono h8) hF (hin.mono (hIc.trans h8)) x⟩)
theorem w_work3 {I : HMap} {b1 : Nat} {e : Ed} (h1 : ImmC I b1 (.cells (encE e).toArray 28 (0, 0))) (x : Sg) : RetM Tryz.prog 52 [encGA x, capP b1] I [] (WorkP x) := by
 intro g H w hw
 refine enter Tryz.func52 rfl Tryz.ntmps52 rfl hw ?_
 have hIc := HLe.refl I
 refine zR ?_
 refine XO_box rfl rfl rfl (fun b_2 => ?_)
 refine zA ?_
 refine zA ?_
 refine zN ?_
 refine X_seq ?_
 refine X_block ?_
 refine zR ?_
 refine zF fld_26_2 ?_
 refine zV (ev_load rfl sct_3 (fun hg => by (repeat (first | exact Cell.here rfl | apply Cell.there | apply Cell.app)))) ?_
 refine zF fld_28_3 ?_
 refine zV (ev_load rfl sct_3 (fun hg => by exact Cell.imm h1 rfl)) ?_
 refine zF fld_28_4 ?_
 refine zV (ev_load rfl sct_3 (fun hg => by exact Cell.imm h1 rfl)) ?_
 refine XO_callV0 (cap := []) (vs := [_, _, _]) rfl rfl fun_16 (w_within I _ _ _) rfl rfl ?_
 refine zA ?_
 refine zN ?_
 refine zI ?_ ?_ <;> intro hc5
 ·
  refine zR ?_
  refine zA ?_
  refine zA ?_
  refine zN ?_
  refine X_ret ?_
  refine at_block_r ?_
  refine at_then_r ?_
  exact at_ret2 rfl rfl rfl (fun w hw => ⟨_, I, [], rfl, hIc, hw.drop, rfl, none, 0, 0, [], true, rfl, .nil, Nat.zero_le _, fun z hz => by cases hz⟩)
 refine zR ?_
 refine zF fld_26_2 ?_
 refine zV (ev_load rfl sct_3 (fun hg => by (repeat (first | exact Cell.here rfl | apply Cell.there | apply Cell.app)))) ?_
 refine zF fld_28_4 ?_
 refine zV (ev_load rfl sct_3 (fun hg => by exact Cell.imm h1 rfl)) ?_
 refine zC ?_
 refine zA ?_
 refine zN ?_
 refine zI ?_ ?_ <;> intro hc13
 ·
  refine X_region ?_
  refine zF fld_26_2 ?_
  refine zV (ev_load rfl sct_3 (fun hg => by (repeat (first | exact Cell.here rfl | apply Cell.there | apply Cell.app)))) ?_
  refine zF fld_28_4 ?_
  refine zV (ev_load rfl sct_3 (fun hg => by exact Cell.imm h1 rfl)) ?_
  refine zF fld_28_3 ?_
  refine zV (ev_load rfl sct_3 (fun hg => by exact Cell.imm h1 rfl)) ?_
  refine zV (ev_ar rfl rfl rfl) ?_
  refine zV (ev_ar rfl rfl rfl) ?_
  refine zV (ev_ar rfl rfl rfl) ?_
  refine zF fld_26_2 ?_
  refine zS szt_3 ?_
  refine XO_nil ?_
  rw [set_barA]
  refine at_block_n ?_
  refine at_then ?_
  refine zR ?_
  refine zV (ev_loadA rfl agt_26 (fun hg => by first | (repeat (first | exact Cells.here | exact Cells.s0 (vs := [_, _, _, _, _, _, _, _, _, _, _, _, _, _]) rfl | apply Cells.there | apply Cells.app))) rfl) ?_
  refine XO_buildSlice (ps := [(0, _)]) (m := [encG _]) elt_22 rfl (.cons rfl (.nil)) rfl (by simp [encG_len]) (by decide) (by decide) rfl rfl (fun b_30 => ?_)
  refine zA ?_
  refine zA ?_
  refine zN ?_
  refine X_ret ?_
  first
  | exact at_ret2 rfl rfl rfl (fun w hw => by obtain ⟨I9, k1, k2, k3⟩ := hw.freezeAll; exact ⟨_, I9, [], rfl, hIc.trans k1, k2, rfl, _, 1, 1, [{ x with bar := _ }], _, rfl, Sl.lit [{ x with bar := _ }] rfl encG_len (k3 _ _ (List.mem_cons_self ..)), Nat.le_refl _, fun z hz => by cases List.mem_singleton.1 hz; exact rfl⟩)
 refine X_skip ?_
 refine at_block_n ?_
 refine at_then ?_
 refine zR ?_
 refine zV (ev_loadA rfl agt_26 (fun hg => by first | (repeat (first | exact Cells.here | exact Cells.s0 (vs := [_, _, _, _, _, _, _, _, _, _, _, _, _, _]) rfl | apply Cells.there | apply Cells.app))) rfl) ?_
 refine XO_buildSlice (ps := [(0, _)]) (m := [encG _]) elt_22 rfl (.cons rfl (.nil)) rfl (by simp [encG_len]) (by decide) (by decide) rfl rfl (fun b_30 => ?_)
 refine zA ?_
 refine zA ?_
 refine zN ?_
 refine X_ret ?_
 first
 | exact at_ret2 rfl rfl rfl (fun w hw => by obtain ⟨I9, k1, k2, k3⟩ := hw.freezeAll; exact ⟨_, I9, [], rfl, hIc.trans k1, k2, rfl, _, 1, 1, [x], _, rfl, Sl.lit [x] rfl encG_len (k3 _ _ (List.mem_cons_self ..)), Nat.le_refl _, fun z hz => by cases List.mem_singleton.1 hz; exact rfl⟩)
theorem w_work4 {I : HMap} {b1 : Nat} {e : Ed} (h1 : ImmC I b1 (.cells (encE e).toArray 28 (0, 0))) (x : Sg) : RetM Tryz.prog 56 [encGA x, capP b1] I [] (WorkP x) := by
 intro g H w hw
 refine enter Tryz.func56 rfl Tryz.ntmps56 rfl hw ?_
 have hIc := HLe.refl I
 refine zR ?_
 refine XO_box rfl rfl rfl (fun b_2 => ?_)
 refine zA ?_
 refine zA ?_
 refine zN ?_
 refine X_cutT [(2, _)] (.cons rfl .nil) (fun T L0 E I' loc' => ∃ (x2 : Sg), E = T ∧ I = I' ∧ [(b_2, .cells (encG x2).toArray 26 (0, 0))] = loc' ∧ x2.id = x.id) ?_ ?_
 ·
  refine zR ?_
  refine zF fld_26_2 ?_
  refine zV (ev_load rfl sct_3 (fun hg => by (repeat (first | exact Cell.here rfl | apply Cell.there | apply Cell.app)))) ?_
  refine zF fld_28_3 ?_
  refine zV (ev_load rfl sct_3 (fun hg => by exact Cell.imm h1 rfl)) ?_
  refine zC ?_
  refine zN ?_
  refine zI ?_ ?_ <;> intro hc9
  ·
   refine X_region ?_
   refine zF fld_26_2 ?_
   refine zV (ev_load rfl sct_3 (fun hg => by (repeat (first | exact Cell.here rfl | apply Cell.there | apply Cell.app)))) ?_
   refine zF fld_28_5 ?_
   refine zV (ev_load rfl sct_3 (fun hg => by exact Cell.imm h1 rfl)) ?_
   refine zV (ev_ar rfl rfl rfl) ?_
   refine zF fld_26_2 ?_
   refine zS szt_3 ?_
   refine XO_nil ?_
   first
   | exact at_met2 _ _ ⟨{ x with bar := IntKind.i64.wrap (x.bar + e.by_) }, rfl, rfl, rfl, rfl⟩ (.cons rfl .nil) (by rw [← set_barA]; exact .refl)
  refine X_skip ?_
  exact at_met2 _ _ ⟨x, rfl, rfl, rfl, rfl⟩ (.cons rfl .nil) .refl
 rintro E I' loc' ⟨x2, rfl, rfl, rfl, hx2⟩
 refine zR ?_
 refine zV (ev_loadA rfl agt_26 (fun hg => by first | (repeat (first | exact Cells.here | exact Cells.s0 (vs := [_, _, _, _, _, _, _, _, _, _, _, _, _, _]) rfl | apply Cells.there | apply Cells.app))) rfl) ?_
 refine XO_buildSlice (ps := [(0, _)]) (m := [encG x2]) elt_22 rfl (.cons rfl (.nil)) rfl (by simp [encG_len]) (by decide) (by decide) rfl rfl (fun b_17 => ?_)
 refine zA ?_
 refine zA ?_
 refine zN ?_
 refine X_ret ?_
 exact at_ret2 rfl rfl rfl (fun w hw => by obtain ⟨I9, k1, k2, k3⟩ := hw.freezeAll; exact ⟨_, I9, [], rfl, hIc.trans k1, k2, rfl, _, 1, 1, [x2], _, rfl, Sl.lit [x2] rfl encG_len (k3 _ _ (List.mem_cons_self ..)), Nat.le_refl _, fun z hz => by cases List.mem_singleton.1 hz; exact hx2⟩)
theorem w_work5 {I : HMap} {b1 : Nat} {e : Ed} (h1 : ImmC I b1 (.cells (encE e).toArray 28 (0, 0))) (x : Sg) : RetM Tryz.prog 60 [encGA x, capP b1] I [] (WorkP x) := by
 intro g H w hw
 refine enter Tryz.func60 rfl Tryz.ntmps60 rfl hw ?_
 have hIc := HLe.refl I
 refine zR ?_
 refine XO_box rfl rfl rfl (fun b_2 => ?_)
 refine zA ?_
 refine zA ?_
 refine zN ?_
 refine X_seq ?_
 have hD := HLe.refl I
 refine X_drawC mixed ?_
 refine zT 0 rfl (ev_loadA rfl agt_26 (fun hg => by first | (repeat (first | exact Cells.here | exact Cells.s0 (vs := [_, _, _, _, _, _, _, _, _, _, _, _, _, _]) rfl | apply Cells.there | apply Cells.app))) rfl) hD ?_
 refine zT 2 rfl (ev_fieldAddr rfl fld_26_0) hD ?_
 refine zT 3 rfl (ev_load rfl sct_3 (fun hg => by (repeat (first | exact Cell.here rfl | apply Cell.there | apply Cell.app)))) hD ?_
 refine zT 4 rfl (ev_fieldAddr rfl fld_28_7) hD ?_
 refine zT 5 rfl (ev_fieldAddr rfl fld_26_0) hD ?_
 refine zT 6 rfl (ev_load rfl sct_3 (fun hg => by exact Cell.imm h1 rfl)) hD ?_
 refine zT 7 rfl (ev_cmp rfl rfl rfl) hD ?_
 refine XD_one 1 rfl (by kernel_rfl) ?_
 refine XO_buildSlice (ps := [(0, _)]) (m := [encG x]) elt_22 rfl (.cons rfl (.nil)) rfl (by simp [encG_len]) (by decide) (by decide) rfl rfl (fun b_6 => ?_)
 refine XO_nil ?_
 refine zD hD ?_
 refine zT 8 rfl (ev_assign rfl) hD ?_
 refine zT 9 rfl (ev_assign rfl) hD ?_
 refine XD_done (by kernel_rfl) ?_
 refine at_noP ?_
 refine at_then ?_
 refine X_ret ?_
 exact at_ret2 rfl rfl rfl (fun w hw => by obtain ⟨I9, k1, k2, k3⟩ := hw.freezeAll; exact ⟨_, I9, [], rfl, hIc.trans k1, k2, rfl, _, 1, 1, [x], _, rfl, Sl.lit [x] rfl encG_len (k3 _ _ (List.mem_cons_self ..)), Nat.le_refl _, fun z hz => by cases List.mem_singleton.1 hz; exact rfl⟩)
theorem w_does3 (I : HMap) (e : Ed) : RetM Tryz.prog 51 [encEA e] I [] (DoesP Tryz.prog) := by
 intro g H w hw
 refine enter Tryz.func51 rfl Tryz.ntmps51 rfl hw ?_
 have hIc := HLe.refl I
 refine zR ?_
 refine XO_box rfl rfl rfl (fun b_1 => ?_)
 refine zA ?_
 refine zN ?_
 refine X_seq ?_
 refine X_freeze .here (fun I1 hI1 hb1 => ?_)
 have hIc := hIc.trans hI1
 have h1 := ImmC.of hb1
 refine X_region ?_
 refine zV (ev_makeFunc (us := []) (vs := [_]) rfl rfl) ?_
 refine zA ?_
 refine zN ?_
 refine X_ret ?_
 exact at_ret1 rfl rfl (fun w hw => ⟨_, I1, [], rfl, hIc, hw.drop, rfl, 52, [capP b_1], rfl, fun_52, fun I8 h8 x => w_work3 (h1.mono h8) x⟩)
theorem w_does4 (I : HMap) (e : Ed) : RetM Tryz.prog 55 [encEA e] I [] (DoesP Tryz.prog) := by
 intro g H w hw
 refine enter Tryz.func55 rfl Tryz.ntmps55 rfl hw ?_
 have hIc := HLe.refl I
 refine zR ?_
 refine XO_box rfl rfl rfl (fun b_1 => ?_)
 refine zA ?_
 refine zN ?_
 refine X_seq ?_
 refine X_freeze .here (fun I1 hI1 hb1 => ?_)
 have hIc := hIc.trans hI1
 have h1 := ImmC.of hb1
 refine X_region ?_
 refine zV (ev_makeFunc (us := []) (vs := [_]) rfl rfl) ?_
 refine zA ?_
 refine zN ?_
 refine X_ret ?_
 exact at_ret1 rfl rfl (fun w hw => ⟨_, I1, [], rfl, hIc, hw.drop, rfl, 56, [capP b_1], rfl, fun_56, fun I8 h8 x => w_work4 (h1.mono h8) x⟩)
theorem w_does5 (I : HMap) (e : Ed) : RetM Tryz.prog 59 [encEA e] I [] (DoesP Tryz.prog) := by
 intro g H w hw
 refine enter Tryz.func59 rfl Tryz.ntmps59 rfl hw ?_
 have hIc := HLe.refl I
 refine zR ?_
 refine XO_box rfl rfl rfl (fun b_1 => ?_)
 refine zA ?_
 refine zN ?_
 refine X_seq ?_
 refine X_freeze .here (fun I1 hI1 hb1 => ?_)
 have hIc := hIc.trans hI1
 have h1 := ImmC.of hb1
 refine X_region ?_
 refine zV (ev_makeFunc (us := []) (vs := [_]) rfl rfl) ?_
 refine zA ?_
 refine zN ?_
 refine X_ret ?_
 exact at_ret1 rfl rfl (fun w hw => ⟨_, I1, [], rfl, hIc, hw.drop, rfl, 60, [capP b_1], rfl, fun_60, fun I8 h8 x => w_work5 (h1.mono h8) x⟩)
theorem w_does1 (I : HMap) (e : Ed) : RetM Tryz.prog 42 [encEA e] I [] (DoesP Tryz.prog) := by
 intro g H w hw
 refine enter Tryz.func42 rfl Tryz.ntmps42 rfl hw ?_
 have hIc := HLe.refl I
 refine zR ?_
 refine XO_box rfl rfl rfl (fun b_1 => ?_)
 refine zA ?_
 refine zN (zR ?_)
 refine zV (ev_loadA rfl agt_28 (fun hg => by exact Cells.here) rfl) ?_
 refine XO_callM (cap := []) (vs := [_, _]) rfl rfl fun_43 .nil (w_each I e fun_44 (fun I8 h8 b x => w_in1 b x)) rfl rfl ?_
 rintro vv1 I1 L1 hI1 ⟨rfl, hW⟩
 have hIc := hIc.trans hI1
 refine zA ?_
 refine zN ?_
 refine X_ret ?_
 exact at_ret1 rfl rfl (fun w hw => ⟨_, _, [], rfl, hIc, hw.drop, rfl, hW⟩)
theorem w_does2 (I : HMap) (e : Ed) : RetM Tryz.prog 48 [encEA e] I [] (DoesP Tryz.prog) := by
 intro g H w hw
 refine enter Tryz.func48 rfl Tryz.ntmps48 rfl hw ?_
 have hIc := HLe.refl I
 refine zR ?_
 refine XO_box rfl rfl rfl (fun b_1 => ?_)
 refine zA ?_
 refine zN ?_
 refine X_seq ?_
 refine X_freeze .here (fun I1 hI1 hb1 => ?_)
 have hIc := hIc.trans hI1
 have h1 := ImmC.of hb1
 refine X_region ?_
 refine zV (ev_loadA rfl agt_28 (fun hg => by exact Cells.immC h1) rfl) ?_
 refine zV (ev_makeFunc (us := []) (vs := [_]) rfl rfl) ?_
 refine XO_callM (cap := []) (vs := [_, _]) rfl rfl fun_43 .nil (w_each I1 e fun_49 (fun I8 h8 b x => w_in2 (h1.mono h8) b x)) rfl rfl ?_
 rintro vv2 I2 L2 hI2 ⟨rfl, hW⟩
 have h1 := h1.mono hI2; have hIc := hIc.trans hI2
 refine zA ?_
 refine zN ?_
 refine X_ret ?_
 exact at_ret1 rfl rfl (fun w hw => ⟨_, _, [], rfl, hIc, hw.drop, rfl, hW⟩)
theorem w_does6 (I : HMap) (e : Ed) : RetM Tryz.prog 63 [encEA e] I [] (DoesP Tryz.prog) := by
 intro g H w hw
 refine enter Tryz.func63 rfl Tryz.ntmps63 rfl hw ?_
 have hIc := HLe.refl I
 refine zR ?_
 refine XO_box rfl rfl rfl (fun b_1 => ?_)
 refine zA ?_
 refine zN ?_
 refine X_seq ?_
 refine X_freeze .here (fun I1 hI1 hb1 => ?_)
 have hIc := hIc.trans hI1
 have h1 := ImmC.of hb1
 refine X_region ?_
 refine zF fld_28_3 ?_
 refine zV (ev_load rfl sct_3 (fun hg => by exact Cell.imm h1 rfl)) ?_
 refine zF fld_28_4 ?_
 refine zV (ev_load rfl sct_3 (fun hg => by exact Cell.imm h1 rfl)) ?_
 refine zV (ev_buildL (ps := [(3, _), (4, _)]) [_, _, _, _, _, _, _, _, _, _, _, _, _, _, _, _, _, _, _, _, _, _] plt_28 rfl rfl) ?_
 refine zV (ev_makeFunc (us := []) (vs := [_]) rfl rfl) ?_
 refine XO_callM (cap := []) (vs := [_, _]) rfl rfl fun_43 .nil (w_each I1 { zeroE with fr := e.fr, to := e.to } fun_64 (fun I8 h8 b x => w_in6 (h1.mono h8) b x)) rfl rfl ?_
 rintro vv2 I2 L2 hI2 ⟨rfl, hW⟩
 have h1 := h1.mono hI2; have hIc := hIc.trans hI2
 refine zA ?_
 refine zN ?_
 refine X_ret ?_
 exact at_ret1 rfl rfl (fun w hw => ⟨_, _, [], rfl, hIc, hw.drop, rfl, hW⟩)
theorem w_does7 (I : HMap) (e : Ed) : RetM Tryz.prog 68 [encEA e] I [] (DoesP Tryz.prog) := by
 intro g H w hw
 refine enter Tryz.func68 rfl Tryz.ntmps68 rfl hw ?_
 have hIc := HLe.refl I
 refine zR ?_
 refine XO_box rfl rfl rfl (fun b_1 => ?_)
 refine zA ?_
 refine zN ?_
 refine X_seq ?_
 refine X_freeze .here (fun I1 hI1 hb1 => ?_)
 have hIc := hIc.trans hI1
 have h1 := ImmC.of hb1
 refine X_region ?_
 refine zV (ev_loadA rfl agt_28 (fun hg => by exact Cells.immC h1) rfl) ?_
 refine zV (ev_makeFunc (us := []) (vs := [_]) rfl rfl) ?_
 refine XO_callM (cap := []) (vs := [_, _]) rfl rfl fun_43 .nil (w_each I1 e fun_69 (fun I8 h8 b x => w_in7 (h1.mono h8) b x)) rfl rfl ?_
 rintro vv2 I2 L2 hI2 ⟨rfl, hW⟩
 have h1 := h1.mono hI2; have hIc := hIc.trans hI2
 refine zA ?_
 refine zN ?_
 refine X_ret ?_
 exact at_ret1 rfl rfl (fun w hw => ⟨_, _, [], rfl, hIc, hw.drop, rfl, hW⟩)
end Go.Proofs.YtoicbikdenlioaaGreat
end
section
namespace Go.Proofs.YtoicbikdenlioaaGreat
open Go Go.Kn Go.Proofs
theorem art_59 : ArT Tryz.prog 59 8 58 3 := .of (by kernel_rfl)
theorem fun_42 : Fun Tryz.prog 42 := .of Tryz.func42 (by kernel_rfl) (by kernel_rfl)
theorem fun_46 : Fun Tryz.prog 46 := .of Tryz.func46 (by kernel_rfl) (by kernel_rfl)
theorem fun_47 : Fun Tryz.prog 47 := .of Tryz.func47 (by kernel_rfl) (by kernel_rfl)
theorem fun_48 : Fun Tryz.prog 48 := .of Tryz.func48 (by kernel_rfl) (by kernel_rfl)
theorem fun_50 : Fun Tryz.prog 50 := .of Tryz.func50 (by kernel_rfl) (by kernel_rfl)
theorem fun_51 : Fun Tryz.prog 51 := .of Tryz.func51 (by kernel_rfl) (by kernel_rfl)
theorem fun_53 : Fun Tryz.prog 53 := .of Tryz.func53 (by kernel_rfl) (by kernel_rfl)
theorem fun_54 : Fun Tryz.prog 54 := .of Tryz.func54 (by kernel_rfl) (by kernel_rfl)
theorem fun_55 : Fun Tryz.prog 55 := .of Tryz.func55 (by kernel_rfl) (by kernel_rfl)
theorem fun_57 : Fun Tryz.prog 57 := .of Tryz.func57 (by kernel_rfl) (by kernel_rfl)
theorem fun_58 : Fun Tryz.prog 58 := .of Tryz.func58 (by kernel_rfl) (by kernel_rfl)
theorem fun_59 : Fun Tryz.prog 59 := .of Tryz.func59 (by kernel_rfl) (by kernel_rfl)
theorem fun_61 : Fun Tryz.prog 61 := .of Tryz.func61 (by kernel_rfl) (by kernel_rfl)
theorem fun_62 : Fun Tryz.prog 62 := .of Tryz.func62 (by kernel_rfl) (by kernel_rfl)
theorem fun_63 : Fun Tryz.prog 63 := .of Tryz.func63 (by kernel_rfl) (by kernel_rfl)
theorem fun_65 : Fun Tryz.prog 65 := .of Tryz.func65 (by kernel_rfl) (by kernel_rfl)
theorem fun_66 : Fun Tryz.prog 66 := .of Tryz.func66 (by kernel_rfl) (by kernel_rfl)
theorem fun_68 : Fun Tryz.prog 68 := .of Tryz.func68 (by kernel_rfl) (by kernel_rfl)
theorem plt_58 : PlT Tryz.prog 58 #[(0, 1), (1, 1), (2, 1)] (.agg #[.nilFunc, .nilFunc, .nilFunc]) := ⟨.of (by kernel_rfl), by kernel_rfl, fun w => by kernel_rfl⟩
theorem zt_55 : ZeroT Tryz.prog 55 .nilFunc := .of (by kernel_rfl)
theorem zt_59 : ZeroT Tryz.prog 59 (.agg #[.nilFunc, .nilFunc, .nilFunc, .nilFunc, .nilFunc, .nilFunc, .nilFunc, .nilFunc, .nilFunc, .nilFunc, .nilFunc, .nilFunc, .nilFunc, .nilFunc, .nilFunc, .nilFunc, .nilFunc, .nilFunc, .nilFunc, .nilFunc, .nilFunc, .nilFunc, .nilFunc, .nilFunc]) := .of (by kernel_rfl)
def kdL (b1 : Nat) : List Value := [.nilFunc, .nilFunc, .nilFunc, .func (.func 41) #[] #[], .func (.func 39) #[] #[], .func (.func 42) #[] #[], .func (.func 46) #[] #[], .func (.func 47) #[] #[capP b1], .func (.func 48) #[] #[], .func (.func 50) #[] #[], .func (.func 40) #[] #[], .func (.func 51) #[] #[], .func (.func 53) #[] #[], .func (.func 54) #[] #[], .func (.func 55) #[] #[], .func (.func 57) #[] #[], .func (.func 58) #[] #[], .func (.func 59) #[] #[], .func (.func 61) #[] #[], .func (.func 62) #[] #[capP b1], .func (.func 63) #[] #[], .func (.func 65) #[] #[], .func (.func 66) #[] #[capP b1], .func (.func 68) #[] #[]]
theorem w_kinds (I : HMap) : RetM Tryz.prog 17 [] I [] (fun v I' L => L = [] ∧ ∃ b1, v = .agg (kdL b1).toArray ∧ ImmC I' b1 (.cells #[.func (.func 39) #[] #[]] 55 (0, 0))) := by
 intro g H w hw
 refine enter Tryz.func17 rfl Tryz.ntmps17 rfl hw ?_
 have hIc := HLe.refl I
 refine zR ?_
 refine XO_alloc zt_59 rfl rfl (fun b_0 => ?_)
 refine zN (zR ?_)
 refine XO_alloc zt_55 rfl rfl (fun b_1 => ?_)
 refine zS szt_55 ?_
 refine zN ?_
 refine X_seq ?_
 refine X_freeze .here (fun I1 hI1 hb1 => ?_)
 have hIc := hIc.trans hI1
 have h1 := ImmC.of hb1
 refine X_region ?_
 refine zV (ev_load rfl sct_55 (fun hg => by exact Cell.imm h1 rfl)) ?_
 refine zV (ev_buildL (ps := [(0, _), (1, _), (2, _)]) [_, _, _] plt_58 rfl rfl) ?_
 refine zV (ev_makeFunc (us := []) (vs := [_]) rfl rfl) ?_
 refine zV (ev_buildL (ps := [(0, _), (1, _), (2, _)]) [_, _, _] plt_58 rfl rfl) ?_
 refine zV (ev_buildL (ps := [(0, _), (1, _), (2, _)]) [_, _, _] plt_58 rfl rfl) ?_
 refine zV (ev_buildL (ps := [(0, _), (1, _), (2, _)]) [_, _, _] plt_58 rfl rfl) ?_
 refine zV (ev_buildL (ps := [(0, _), (1, _), (2, _)]) [_, _, _] plt_58 rfl rfl) ?_
 refine zV (ev_makeFunc (us := []) (vs := [_]) rfl rfl) ?_
 refine zV (ev_buildL (ps := [(0, _), (1, _), (2, _)]) [_, _, _] plt_58 rfl rfl) ?_
 refine zV (ev_makeFunc (us := []) (vs := [_]) rfl rfl) ?_
 refine zV (ev_buildL (ps := [(0, _), (1, _), (2, _)]) [_, _, _] plt_58 rfl rfl) ?_
 refine zV (ev_buildArr (ps := [(1, _), (2, _), (3, _), (4, _), (5, _), (6, _), (7, _)]) (kdL b_1) art_59 zt_59 rfl rfl) ?_
 refine XO_storeA rfl rfl szt_59 rfl rfl rfl rfl (by repeat (first | exact Upd.here | apply Upd.there | apply upd_app)) ?_
 refine zN ?_
 refine X_ret ?_
 exact at_ret1L rfl rfl (.ag agt_59 (vs := kdL b_1) (by repeat (first | exact Cells.here | apply Cells.there)) rfl) (fun w hw => ⟨_, I1, [], rfl, hIc, hw.drop, rfl, b_1, rfl, h1⟩)
theorem kd_at {I : HMap} {b1 : Nat} (h1 : ImmC I b1 (.cells #[.func (.func 39) #[] #[]] 55 (0, 0))) {k : Int} (hk : 1 ≤ k ∧ k ≤ 7) : ∃ (f0 f1 f2 : Nat) (c0 c1 c2 : List Value), ((kdL b1).drop (k.toNat * 3)).take 3 = [.func (.func f0) #[] c0.toArray, .func (.func f1) #[] c1.toArray, .func (.func f2) #[] c2.toArray] ∧ KdR Tryz.prog I f0 f1 f2 c0 c1 c2 := by
 have hc : k = 1 ∨ k = 2 ∨ k = 3 ∨ k = 4 ∨ k = 5 ∨ k = 6 ∨ k = 7 := by omega
 rcases hc with rfl | rfl | rfl | rfl | rfl | rfl | rfl
 ·
  exact ⟨41, 39, 42, [], [], [], rfl, ⟨fun_41, fun I2 h2 e => ⟨_, w_place I2 e⟩⟩, ⟨fun_39, fun I2 h2 e => ⟨_, w_fit1 I2 e⟩⟩, ⟨fun_42, fun I2 h2 e => w_does1 I2 e⟩⟩
 ·
  exact ⟨46, 47, 48, [], [capP b1], [], rfl, ⟨fun_46, fun I2 h2 e => ⟨_, w_rest2 I2 e⟩⟩, ⟨fun_47, fun I2 h2 e => ⟨_, w_fit2 (h1.mono h2) e⟩⟩, ⟨fun_48, fun I2 h2 e => w_does2 I2 e⟩⟩
 ·
  exact ⟨50, 40, 51, [], [], [], rfl, ⟨fun_50, fun I2 h2 e => ⟨_, w_rest3 I2 e⟩⟩, ⟨fun_40, fun I2 h2 e => ⟨_, w_bars I2 e⟩⟩, ⟨fun_51, fun I2 h2 e => w_does3 I2 e⟩⟩
 ·
  exact ⟨53, 54, 55, [], [], [], rfl, ⟨fun_53, fun I2 h2 e => ⟨_, w_rest4 I2 e⟩⟩, ⟨fun_54, fun I2 h2 e => ⟨_, w_fit4 I2 e⟩⟩, ⟨fun_55, fun I2 h2 e => w_does4 I2 e⟩⟩
 ·
  exact ⟨57, 58, 59, [], [], [], rfl, ⟨fun_57, fun I2 h2 e => ⟨_, w_rest5 I2 e⟩⟩, ⟨fun_58, fun I2 h2 e => ⟨_, w_fit5 I2 e⟩⟩, ⟨fun_59, fun I2 h2 e => w_does5 I2 e⟩⟩
 ·
  exact ⟨61, 62, 63, [], [capP b1], [], rfl, ⟨fun_61, fun I2 h2 e => ⟨_, w_rest6 I2 e⟩⟩, ⟨fun_62, fun I2 h2 e => ⟨_, w_fit6 (h1.mono h2) e⟩⟩, ⟨fun_63, fun I2 h2 e => w_does6 I2 e⟩⟩
 exact ⟨65, 66, 68, [], [capP b1], [], rfl, ⟨fun_65, fun I2 h2 e => ⟨_, w_rest7 I2 e⟩⟩, ⟨fun_66, fun I2 h2 e => ⟨_, w_fit7 (h1.mono h2) e⟩⟩, ⟨fun_68, fun I2 h2 e => w_does7 I2 e⟩⟩
end Go.Proofs.YtoicbikdenlioaaGreat
end
section
namespace Go.Proofs.YtoicbikdenlioaaGreat
open Go Go.Kn Go.Proofs
def bsL (xs : List Sg) (t : Int) (i j : Nat) : Nat := if i < j then (if cmpF (xs.getD ((i + j) / 2) zeroG).id t < 0 then bsL xs t ((i + j) / 2 + 1) j else bsL xs t i ((i + j) / 2)) else i
termination_by j - i
theorem bs_up {xs : List Sg} {t : Int} {i j : Nat} {y : Sg} (h : i < j) (hy : xs[(i + j) / 2]? = some y) (hc : cmpF y.id t < 0) : bsL xs t i j = bsL xs t ((i + j) / 2 + 1) j := by
  rw [bsL, if_pos h, List.getD_eq_getElem?_getD, hy]
  exact if_pos hc
theorem bs_down {xs : List Sg} {t : Int} {i j : Nat} {y : Sg} (h : i < j) (hy : xs[(i + j) / 2]? = some y) (hc : 0 ≤ cmpF y.id t) : bsL xs t i j = bsL xs t i ((i + j) / 2) := by
  rw [bsL, if_pos h, List.getD_eq_getElem?_getD, hy]
  exact if_neg (show ¬ cmpF y.id t < 0 by omega)
theorem bs_end {xs : List Sg} {t : Int} {i : Nat} : bsL xs t i i = i := by rw [bsL, if_neg (by omega)]
theorem bs_le {xs : List Sg} {t : Int} {i j : Nat} (h : i ≤ j) : bsL xs t i j ≤ j := by
  rw [bsL]
  split
  · split
    · exact bs_le (by omega)
    · have := bs_le (xs := xs) (t := t) (i := i) (j := (i + j) / 2) (by omega)
      omega
  · exact h
termination_by j - i
theorem slv {α : Type} {I : HMap} {e size : Nat} {enc : α → List Value} {av : Option Addr} {n c : Nat} {xs : List α} {L : Go.Kn.Loc} (hO : OwnS e size (.slice av n c) n (xs.flatMap enc) L) (hs : ∀ x, (enc x).length = size) (hsz : 0 < size) (hI : ∀ b o, (b, o) ∈ L → I b = some o) : Sl I size enc av n c xs := by
  obtain ⟨av', c', e9, h⟩ := hO.sl hs hsz hI
  cases e9
  exact h
theorem split_snoc0 {L : Go.Kn.Loc} {p : Nat × Obj} : Split (p :: L) (L ++ [p]) [] := by
  have h := split_snoc1 (L := L) (R := []) (p := p)
  rwa [List.append_nil] at h
theorem imm_sg {I : HMap} {b t : Nat} {fz : Nat × Nat} {e : Ed} {l : Go.Kn.Loc} (h : I b = some (.cells (encE e).toArray t fz)) : Cells I l b (0 + 8) (encG e.sign) := fun j u hu => by
  have hj : j < 14 := (List.getElem?_eq_some_iff.1 hu).1
  refine Cell.imm h ?_
  rw [lget_eq]
  show (encE e)[0 + 8 + j]? = _
  rw [show encE e = [.int .i64 e.kind, .int .i64 e.role, .int .i64 e.other, .int .i64 e.fr, .int .i64 e.to, .int .i64 e.by_, .int .i64 e.rn, .int .i64 e.rd] ++ encG e.sign from rfl, List.getElem?_append_right (by show 8 ≤ 0 + 8 + j; omega)]
  rw [show 0 + 8 + j - ([.int .i64 e.kind, .int .i64 e.role, .int .i64 e.other, .int .i64 e.fr, .int .i64 e.to, .int .i64 e.by_, .int .i64 e.rn, .int .i64 e.rd] : List Value).length = j from by show 0 + 8 + j - 8 = j; omega]
  exact hu
/-- Where the signs of an edit's list come from. -/
def FromA (xs : List Sg) (e : Ed) (ys : List Sg) : Prop := ∀ y ∈ ys, (∃ x ∈ xs, x.id = y.id) ∨ (e.kind = 5 ∧ y.id = e.sign.id)
theorem FromA.nil {xs : List Sg} {e : Ed} : FromA xs e [] := fun y hy => by cases hy
theorem FromA.app {xs ys zs : List Sg} {e : Ed} {x : Sg} (h : FromA xs e ys) (hx : x ∈ xs) (hz : ∀ z ∈ zs, z.id = x.id) : FromA xs e (ys ++ zs) := fun y hy => by
  rcases List.mem_append.1 hy with h1 | h1
  · exact h y h1
  · exact .inl ⟨x, hx, (hz y h1).symm⟩
theorem FromA.ins {xs ys : List Sg} {e : Ed} {i : Nat} (h : FromA xs e ys) (hk : e.kind = 5) : FromA xs e (ys.take i ++ e.sign :: ys.drop i) := fun y hy => by
  rcases List.mem_append.1 hy with h1 | h1
  · exact h y (List.mem_of_mem_take h1)
  · rcases List.mem_cons.1 h1 with rfl | h2
    · exact .inr ⟨hk, rfl⟩
    · exact h y (List.mem_of_mem_drop h2)
theorem FromA.app_r {xs ys : List Sg} {e : Ed} (h : FromA xs e ys) (h1 : chkG xs = 0) (h2 : chkG ys = 0) : AppR xs e.kind e.sign.id ys := ⟨h1, h2, fun s hs hy => by
  obtain ⟨y, hy⟩ := Option.isSome_iff_exists.1 hy
  rcases h y (look_mem hy) with ⟨x, hx, e1⟩ | ⟨hk, e1⟩
  · exact absurd (e1.trans (look_id hy)) (look_none.1 hs x hx)
  · exact ⟨hk, by rw [← e1, look_id hy]⟩⟩
theorem win7 {k : Int} (h : within k 1 7 = true) : 1 ≤ k ∧ k ≤ 7 := by unfold within at h; simp at h; exact h
end Go.Proofs.YtoicbikdenlioaaGreat
end
