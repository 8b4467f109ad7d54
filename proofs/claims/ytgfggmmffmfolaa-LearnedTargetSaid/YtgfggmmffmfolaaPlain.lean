/- Lessons: the functions that the program's functions come to. -/
import Derived.Test.YtgfggmmffmfolaaEngM
import Derived.Lib.Hide
namespace Go.Proofs.Ytgfggmmffmfolaa
open Go Go.Kn Go.Proofs
structure Ls where
  no : Int
  person : Int
  version : Int
  at_ : Int
  known : Int
def encL (x : Ls) : List Value := [.int .i64 x.no, .int .i64 x.person, .int .i64 x.version, .int .i64 x.at_, .int .i64 x.known]
def encA (x : Ls) : Value := .agg (encL x).toArray
def encI (n : Int) : List Value := [.int .i64 n]
/-- A slice's head. -/
structure Hd where
  a : Option Addr
  n : Nat
  c : Nat
def encH (h : Hd) : List Value := [.slice h.a h.n h.c]
def zeroL : Ls := ⟨0, 0, 0, 0, 0⟩
theorem encL_len (x : Ls) : (encL x).length = 5 := rfl
theorem encI_len (x : Int) : (encI x).length = 1 := rfl
theorem encH_len (x : Hd) : (encH x).length = 1 := rfl
theorem one_L (xs : List Ls) : allOne (xs.flatMap encL) = true := allOne_flat (fun _ => rfl) xs
theorem one_I (xs : List Int) : allOne (xs.flatMap encI) = true := allOne_flat (fun _ => rfl) xs
theorem one_H (xs : List Hd) : allOne (xs.flatMap encH) = true := allOne_flat (fun _ => rfl) xs
def lsEq (x y : Ls) : Bool := x.no == y.no && (x.person == y.person && (x.version == y.version && (x.at_ == y.at_ && (x.known == y.known && true))))
theorem lsEq_iff {x y : Ls} : lsEq x y = true ↔ x = y := by
  obtain ⟨a, b, c, d, e⟩ := x
  obtain ⟨a', b', c', d', e'⟩ := y
  simp [lsEq]
instance : DecidableEq Ls := fun a b => decidable_of_iff (lsEq a b = true) lsEq_iff
def sameF {α : Type} [DecidableEq α] (xs ys : List α) : Bool := decide (xs = ys)
theorem same_self {α : Type} [DecidableEq α] (xs : List α) : sameF xs xs = true := decide_eq_true rfl
theorem _root_.Go.Kn.Sl.at {α : Type} {I : HMap} {size : Nat} {enc : α → List Value} {av : Option Addr} {n c : Nat} {xs : List α} (h : Sl I size enc av n c xs) {k : Nat} (hk : k < n) : ∃ x, xs[k]? = some x :=
  ⟨_, List.getElem?_eq_getElem (by rw [h.len]; exact hk)⟩
def w64 (n : Int) : Int := IntKind.i64.wrap n
def within (n lo hi : Int) : Bool := decide (n ≥ lo) && decide (n ≤ hi)
def rightF (x : Ls) : Bool := within x.no 0 1048576 && within x.person 0 63 && within x.version 0 512 && within x.at_ 0 73048 && within x.known 0 134217727
def prevL (xs : List Ls) (i : Nat) : Ls := xs.getD ((i : Int) - 1).toNat zeroL
/-- The i-th lesson is right and behind the one before. -/
def ckP (xs : List Ls) (i : Nat) : Bool := !(!rightF (xs.getD i zeroL) || (decide ((i : Int) > 0) && decide ((xs.getD i zeroL).no ≤ (prevL xs i).no)))
def ckB (xs : List Ls) : Bool := (List.range xs.length).all (ckP xs)
def chk (xs : List Ls) : Int := if xs.length > 4096 then 2 else if ckB xs then 0 else 390
theorem range_step {p : Nat → Bool} {k : Nat} (h : (List.range k).all p = true) (hp : p k = true) : (List.range (k + 1)).all p = true := by
  rw [List.range_succ, List.all_append, h]; simpa using hp
theorem range_bad {p : Nat → Bool} {n k : Nat} (hk : k < n) (hp : p k = false) : (List.range n).all p = false := by
  cases h : (List.range n).all p with
  | false => rfl
  | true =>
    rw [List.all_eq_true] at h
    rw [h k (List.mem_range.2 hk)] at hp; cases hp
theorem getD_of {α : Type} {xs : List α} {k : Nat} {x d : α} (h : xs[k]? = some x) : xs.getD k d = x := by simp [List.getD, h]
theorem some_getD {α : Type} {xs : List α} {n k : Nat} {d : α} (hl : xs.length = n) (h : k < n) : xs[k]? = some (xs.getD k d) := by
  have : k < xs.length := by omega
  unfold List.getD
  rw [List.getElem?_eq_getElem this]; rfl
def thenF (day time : Int) : Bool := within day 0 73048 && within time 0 134217727
def laterF (a b : Ls) : Bool := if a.at_ ≠ b.at_ then decide (a.at_ > b.at_) else if a.known ≠ b.known then decide (a.known > b.known) else decide (a.no > b.no)
def eligF (person day time : Int) (x : Ls) : Bool := x.person == person && decide (x.known ≤ time) && decide (x.at_ ≤ day)
def bestO (b : Option Ls) (x : Ls) : Bool := match b with | none => true | some y => laterF x y
def bestF (person day time : Int) (b : Option Ls) (x : Ls) : Option Ls := if eligF person day time x && bestO b x then some x else b
def hasO (xs : List Ls) (person day time : Int) : Option Ls := xs.foldl (bestF person day time) none
def verF (b : Option Ls) : Int := match b with | none => 0 | some x => x.version
def hasF (xs : List Ls) (person day time : Int) : Int := verF (hasO xs person day time)
def hasE (chkv person day time : Int) : Int := if chkv ≠ 0 then chkv else if !within person 0 63 || !thenF day time then 1 else 0
def castE (chkv version day time : Int) : Int := if chkv ≠ 0 then chkv else if !within version 1 512 || !thenF day time then 1 else 0
def resF {α : Type} (e : Int) (xs : List α) : List α := if e ≠ 0 then [] else xs
def castF (xs : List Ls) (version day time : Int) : List Int := ((List.range 64).map (fun p : Nat => (p : Int))).filter (fun p => hasF xs p day time == version)
def insF (xs : List Ls) (x : Ls) : List Ls := xs.takeWhile (fun y => decide (y.no < x.no)) ++ x :: xs.dropWhile (fun y => decide (y.no < x.no))
def addE (xs : List Ls) (x : Ls) : Int := if chk xs ≠ 0 then chk xs else if !rightF x then 390 else if xs.any (fun y => y.no == x.no) then 171 else if xs.length = 4096 then 2 else 0
def addF (xs : List Ls) (x : Ls) : List Ls := resF (addE xs x) (insF xs x)
def hasV (xs : List Ls) (person day time : Int) : Int := if hasE (chk xs) person day time ≠ 0 then 0 else hasF xs person day time
/-- A version's form. -/
def vP (v : List Int) (i : Nat) : Bool := !(!within (v.getD i 0) 1 1048576 || (decide ((i : Int) > 0) && decide (v.getD i 0 ≤ v.getD ((i : Int) - 1).toNat 0)))
def verB (v : List Int) : Bool := (List.range v.length).all (vP v)
def lessF (a b : List Int) : List Int := a.filter fun n => !b.any (fun m => n == m)
def gapE (xs : List Ls) (vss : List (List Int)) (person day time : Int) (target : List Int) : Int :=
  if chk xs ≠ 0 then chk xs else if vss.length > 512 || target.length > 512 || vss.any (fun v => decide (v.length > 512)) then 2
  else if !(verB target && vss.all verB) then 390 else if hasE 0 person day time ≠ 0 then hasE 0 person day time else if hasF xs person day time > vss.length then 390 else 0
def ownF (xs : List Ls) (vss : List (List Int)) (person day time : Int) : List Int := if hasF xs person day time > 0 then vss.getD (hasF xs person day time - 1).toNat [] else []
def fewP (v : List Int) : Bool := !((decide ((v.length : Int) > 40) && decide ((v.length : Int) ≤ 512)) || decide ((v.length : Int) > 600))
def fewF (xs : List Ls) (vss : List (List Int)) (target : List Int) : Bool :=
  !(((((((decide ((xs.length : Int) > 60) && decide ((xs.length : Int) ≤ 4096)) || decide ((xs.length : Int) > 5000)) || (decide ((vss.length : Int) > 20) && decide ((vss.length : Int) ≤ 512))) || decide ((vss.length : Int) > 600)) || (decide ((target.length : Int) > 40) && decide ((target.length : Int) ≤ 512))) || decide ((target.length : Int) > 600))) &&
  vss.all fewP
/-- A slice of slices of numbers: its heads, and what they hold. -/
def SlH (I : HMap) (av : Option Addr) (n c : Nat) (hs : List Hd) (vss : List (List Int)) : Prop := Sl I 1 encH av n c hs ∧ hs.length = vss.length ∧ ∀ (k : Nat) (h : Hd) (v : List Int), hs[k]? = some h → vss[k]? = some v → Sl I 1 encI h.a h.n h.c v
def SlN (I : HMap) (av : Option Addr) (n c : Nat) (vss : List (List Int)) : Prop := ∃ hs : List Hd, SlH I av n c hs vss
theorem SlH.mono {I I' : HMap} {av : Option Addr} {n c : Nat} {hs : List Hd} {vss : List (List Int)} (h : SlH I av n c hs vss) (hI : HLe I I') : SlH I' av n c hs vss :=
  ⟨h.1.mono hI, h.2.1, fun k h' v a b => (h.2.2 k h' v a b).mono hI⟩
theorem SlN.mono {I I' : HMap} {av : Option Addr} {n c : Nat} {vss : List (List Int)} (h : SlN I av n c vss) (hI : HLe I I') : SlN I' av n c vss := by
  obtain ⟨hs, h1⟩ := h
  exact ⟨hs, h1.mono hI⟩
theorem SlH.len {I : HMap} {av : Option Addr} {n c : Nat} {hs : List Hd} {vss : List (List Int)} (h : SlH I av n c hs vss) : vss.length = n := by rw [← h.2.1, h.1.len]
theorem SlN.len {I : HMap} {av : Option Addr} {n c : Nat} {vss : List (List Int)} (h : SlN I av n c vss) : vss.length = n := by
  obtain ⟨hs, h1⟩ := h
  exact h1.len
theorem SlH.at {I : HMap} {av : Option Addr} {n c : Nat} {hs : List Hd} {vss : List (List Int)} (h : SlH I av n c hs vss) {k : Nat} (hk : k < n) : ∃ hd v, hs[k]? = some hd ∧ vss[k]? = some v ∧ Sl I 1 encI hd.a hd.n hd.c v := by
  obtain ⟨hd, hh⟩ := h.1.at hk
  have hl := h.len
  have hv : vss[k]? = some (vss[k]'(by omega)) := List.getElem?_eq_getElem _
  exact ⟨hd, _, hh, hv, h.2.2 k hd _ hh hv⟩
theorem SlN.at {I : HMap} {av : Option Addr} {n c : Nat} {vss : List (List Int)} (h : SlN I av n c vss) {k : Nat} (hk : k < n) : ∃ hs hd v, Sl I 1 encH av n c hs ∧ hs[k]? = some hd ∧ vss[k]? = some v ∧ Sl I 1 encI hd.a hd.n hd.c v := by
  obtain ⟨hs, h1⟩ := h
  obtain ⟨hd, v, h2, h3, h4⟩ := h1.at hk
  exact ⟨hs, hd, v, h1.1, h2, h3, h4⟩
/-- One more at the end. -/
theorem SlH.snoc {I : HMap} {av bv : Option Addr} {n c m d : Nat} {hs : List Hd} {vss : List (List Int)} (h : SlH I av n c hs vss) {hd : Hd} {v : List Int} (hA : Sl I 1 encH bv m d (hs ++ [hd])) (hV : Sl I 1 encI hd.a hd.n hd.c v) : SlH I bv m d (hs ++ [hd]) (vss ++ [v]) := by
  refine ⟨hA, by simp [h.2.1], fun k h' v' a b => ?_⟩
  by_cases hk : k < hs.length
  · rw [List.getElem?_append_left hk] at a
    rw [List.getElem?_append_left (by rw [← h.2.1]; exact hk)] at b
    exact h.2.2 k h' v' a b
  · have hk2 : k = hs.length := by have := (List.getElem?_eq_some_iff.1 a).1; simp at this; omega
    subst hk2
    rw [List.getElem?_append_right (by omega)] at a
    rw [List.getElem?_append_right (by rw [h.2.1]; omega)] at b
    simp at a
    simp [h.2.1] at b
    subst a; subst b; exact hV
/-- Two slices of numbers and an error. -/
def GpE (e : Int) (a b : List Int) : Value → HMap → Go.Kn.Loc → Prop := fun v I' L => L = [] ∧ ∃ av n c bv m d, v = .tuple #[.slice av n c, .slice bv m d, .int .i64 e] ∧ Sl I' 1 encI av n c a ∧ Sl I' 1 encI bv m d b
theorem GpE.bad {I : HMap} {e e' : Int} {a b : List Int} (he : e = e') (h0 : e' ≠ 0) : GpE e (resF e a) (resF e b) (.tuple #[.slice none 0 0, .slice none 0 0, .int .i64 e']) I [] := by
  subst he
  unfold resF
  rw [if_pos h0, if_pos h0]
  exact ⟨rfl, _, _, _, _, _, _, rfl, .nil, .nil⟩
theorem GpE.good {I : HMap} {e : Int} {a b a' b' : List Int} {av bv : Option Addr} {n c m d : Nat} (he : e = 0) (ha : a = a') (hb : b = b') (hA : Sl I 1 encI av n c a') (hB : Sl I 1 encI bv m d b') : GpE e (resF e a) (resF e b) (.tuple #[.slice av n c, .slice bv m d, .int .i64 0]) I [] := by
  subst he; subst ha; subst hb
  exact ⟨rfl, _, _, _, _, _, _, rfl, hA, hB⟩
theorem hasE_chk {c person day time : Int} (h : c ≠ 0) : hasE c person day time = c := by unfold hasE; rw [if_pos h]
theorem hasE_arg {c person day time : Int} (h : c = 0) (h2 : (!within person 0 63 || !thenF day time) = true) : hasE c person day time = 1 := by unfold hasE; rw [if_neg (by omega), if_pos h2]
theorem hasE_ok {c person day time : Int} (h : c = 0) (h2 : (!within person 0 63 || !thenF day time) = false) : hasE c person day time = 0 := by unfold hasE; rw [if_neg (by omega), h2]; rfl
theorem castE_chk {c version day time : Int} (h : c ≠ 0) : castE c version day time = c := by unfold castE; rw [if_pos h]
theorem castE_arg {c version day time : Int} (h : c = 0) (h2 : (!within version 1 512 || !thenF day time) = true) : castE c version day time = 1 := by unfold castE; rw [if_neg (by omega), if_pos h2]
theorem castE_ok {c version day time : Int} (h : c = 0) (h2 : (!within version 1 512 || !thenF day time) = false) : castE c version day time = 0 := by unfold castE; rw [if_neg (by omega), h2]; rfl
theorem resF_bad {α : Type} {e : Int} {xs : List α} (h : e ≠ 0) : resF e xs = [] := by unfold resF; rw [if_pos h]
theorem resF_ok {α : Type} {e : Int} {xs : List α} (h : e = 0) : resF e xs = xs := by unfold resF; rw [if_neg (by omega)]
theorem addE_chk {xs : List Ls} {x : Ls} (h : chk xs ≠ 0) : addE xs x = chk xs := by unfold addE; rw [if_pos h]
theorem addE_right {xs : List Ls} {x : Ls} (h : chk xs = 0) (h2 : rightF x = false) : addE xs x = 390 := by unfold addE; rw [if_neg (by omega), h2]; rfl
theorem addE_twice {xs : List Ls} {x : Ls} (h : chk xs = 0) (h2 : rightF x = true) (h3 : xs.any (fun y => y.no == x.no) = true) : addE xs x = 171 := by unfold addE; rw [if_neg (by omega), h2, h3]; rfl
theorem addE_full {xs : List Ls} {x : Ls} (h : chk xs = 0) (h2 : rightF x = true) (h3 : xs.any (fun y => y.no == x.no) = false) (h4 : xs.length = 4096) : addE xs x = 2 := by unfold addE; rw [if_neg (by omega), h2, h3, if_pos h4]; rfl
theorem addE_ok {xs : List Ls} {x : Ls} (h : chk xs = 0) (h2 : rightF x = true) (h3 : xs.any (fun y => y.no == x.no) = false) (h4 : xs.length ≠ 4096) : addE xs x = 0 := by unfold addE; rw [if_neg (by omega), h2, h3, if_neg h4]; rfl
section
variable {xs : List Ls} {vss : List (List Int)} {person day time : Int} {ts : List Int}
theorem gapE_chk (h : chk xs ≠ 0) : gapE xs vss person day time ts = chk xs := by unfold gapE; rw [if_pos h]
theorem gapE_many (h : chk xs = 0) (h2 : (vss.length > 512 ∨ ts.length > 512) ∨ vss.any (fun v => decide (v.length > 512)) = true) : gapE xs vss person day time ts = 2 := by
  unfold gapE
  rw [if_neg (by omega), if_pos (by simpa [or_assoc] using h2)]
theorem gap_few (h2 : ¬ ((vss.length > 512 ∨ ts.length > 512) ∨ vss.any (fun v => decide (v.length > 512)) = true)) : ¬ ((vss.length > 512 ∨ ts.length > 512 ∨ vss.any (fun v => decide (v.length > 512)) = true)) := by
  rwa [← or_assoc]
theorem gapE_form (h : chk xs = 0) (h2 : ¬ ((vss.length > 512 ∨ ts.length > 512) ∨ vss.any (fun v => decide (v.length > 512)) = true)) (h3 : (verB ts && vss.all verB) = false) : gapE xs vss person day time ts = 390 := by
  unfold gapE
  rw [if_neg (by omega), if_neg (by simpa [or_assoc] using h2), h3]; rfl
theorem gapE_arg (h : chk xs = 0) (h2 : ¬ ((vss.length > 512 ∨ ts.length > 512) ∨ vss.any (fun v => decide (v.length > 512)) = true)) (h3 : (verB ts && vss.all verB) = true) (h4 : hasE 0 person day time ≠ 0) : gapE xs vss person day time ts = hasE 0 person day time := by
  unfold gapE
  rw [if_neg (by omega), if_neg (by simpa [or_assoc] using h2), h3, if_pos h4]; rfl
theorem gapE_high (h : chk xs = 0) (h2 : ¬ ((vss.length > 512 ∨ ts.length > 512) ∨ vss.any (fun v => decide (v.length > 512)) = true)) (h3 : (verB ts && vss.all verB) = true) (h4 : hasE 0 person day time = 0) (h5 : hasF xs person day time > vss.length) : gapE xs vss person day time ts = 390 := by
  unfold gapE
  rw [if_neg (by omega), if_neg (by simpa [or_assoc] using h2), h3, if_neg (show ¬ ((!true) = true) by decide), if_neg (by omega), if_pos h5]
theorem gapE_ok (h : chk xs = 0) (h2 : ¬ ((vss.length > 512 ∨ ts.length > 512) ∨ vss.any (fun v => decide (v.length > 512)) = true)) (h3 : (verB ts && vss.all verB) = true) (h4 : hasE 0 person day time = 0) (h5 : ¬ hasF xs person day time > vss.length) : gapE xs vss person day time ts = 0 := by
  unfold gapE
  rw [if_neg (by omega), if_neg (by simpa [or_assoc] using h2), h3, if_neg (show ¬ ((!true) = true) by decide), if_neg (by omega), if_neg h5]
theorem hasV_ok (h : chk xs = 0) (h4 : hasE 0 person day time = 0) : hasV xs person day time = hasF xs person day time := by unfold hasV; rw [h, if_neg (by omega)]
theorem own_pos {v : List Int} (h : hasF xs person day time > 0) (hv : vss[(hasF xs person day time - 1).toNat]? = some v) : ownF xs vss person day time = v := by unfold ownF; rw [if_pos h, getD_of hv]
theorem own_zero (h : ¬ hasF xs person day time > 0) : ownF xs vss person day time = [] := by unfold ownF; rw [if_neg h]
end
theorem bad_add {I : HMap} {xs : List Ls} {x : Ls} {e' : Int} (h : addE xs x = e') (h0 : e' ≠ 0) : SlE 5 encL (addF xs x) (addE xs x) (.tuple #[.slice none 0 0, .int .i64 e']) I [] := .bad h (by unfold addF; exact resF_bad (by rw [h]; exact h0))
theorem chk_ok {xs : List Ls} (h : chk xs = 0) : xs.length ≤ 4096 ∧ ckB xs = true := by
  unfold chk at h
  split at h
  · cases h
  · split at h
    · rename_i h1 h2; exact ⟨by omega, h2⟩
    · cases h
theorem ckB_at {xs : List Ls} (h : ckB xs = true) {k : Nat} (hk : k < xs.length) : ckP xs k = true := by
  unfold ckB at h
  rw [List.all_eq_true] at h
  exact h k (List.mem_range.2 hk)
theorem ckB_right {xs : List Ls} (h : ckB xs = true) {x : Ls} (hx : x ∈ xs) : rightF x = true := by
  obtain ⟨k, hk⟩ := List.getElem?_of_mem hx
  have h1 := ckB_at h (List.getElem?_eq_some_iff.1 hk).1
  unfold ckP at h1
  rw [getD_of hk] at h1
  simp at h1
  exact h1.1
theorem pair_of_next {α : Type} {R : α → α → Prop} (ht : ∀ a b c, R a b → R b c → R a c) {l : List α} (h : ∀ k (hk : k + 1 < l.length), R (l[k]'(by omega)) l[k + 1]) : l.Pairwise R := by
  have key : ∀ (n i : Nat) (hn : i + n < l.length), 0 < n → R (l[i]'(by omega)) l[i + n] := by
    intro n
    induction n with
    | zero => intro i _ h0; omega
    | succ n ih =>
      intro i hn _
      have h2 := h (i + n) (by omega)
      by_cases e : n = 0
      · subst e; exact h2
      · exact ht _ _ _ (ih i (by omega) (by omega)) h2
  rw [List.pairwise_iff_getElem]
  intro i j hi hj hij
  have := key (j - i) i (by omega) (by omega)
  simpa [show i + (j - i) = j by omega] using this
theorem ckB_sorted {xs : List Ls} (h : ckB xs = true) : xs.Pairwise (fun a b => a.no < b.no) :=
  pair_of_next (R := fun a b : Ls => a.no < b.no) (fun a b c h1 h2 => Int.lt_trans h1 h2) fun k hk => by
    have h1 := ckB_at h hk
    unfold ckP prevL at h1
    have e1 : xs.getD (k + 1) zeroL = xs[k + 1] := by simp [List.getD, hk]
    have e2 : xs.getD (((k + 1 : Nat) : Int) - 1).toNat zeroL = xs[k]'(by omega) := by
      rw [show (((k + 1 : Nat) : Int) - 1).toNat = k by omega]; simp [List.getD, show k < xs.length by omega]
    rw [e1, e2] at h1
    simp at h1
    have := h1.2
    omega
theorem tw_eq {α : Type} {p : α → Bool} : ∀ {xs : List α} {k : Nat}, (xs.take k).all p = true → k ≤ xs.length → (∀ y, xs[k]? = some y → p y = false) → xs.takeWhile p = xs.take k ∧ xs.dropWhile p = xs.drop k
  | [], k, _, hk, _ => by simp
  | x :: xs, 0, _, _, h => by
    have := h x rfl
    simp [List.takeWhile_cons, List.dropWhile_cons, this]
  | x :: xs, k + 1, h, hk, h2 => by
    rw [List.take_succ_cons, List.all_cons, Bool.and_eq_true] at h
    obtain ⟨h3, h4⟩ := tw_eq h.2 (by simpa using hk) (fun y hy => h2 y (by simpa using hy))
    rw [List.takeWhile_cons, List.dropWhile_cons, if_pos h.1, if_pos h.1, h3, h4]
    exact ⟨rfl, rfl⟩
/-- Where a lesson is put. -/
theorem ins_at {xs : List Ls} {x : Ls} {k : Nat} (h : (xs.take k).all (fun y => decide (y.no < x.no)) = true) (hk : k ≤ xs.length) (h2 : ∀ y, xs[k]? = some y → ¬ y.no < x.no) : insF xs x = xs.take k ++ x :: xs.drop k := by
  obtain ⟨h3, h4⟩ := tw_eq h hk (fun y hy => decide_eq_false (h2 y hy))
  unfold insF
  rw [h3, h4]
theorem add_miss {xs : List Ls} {x : Ls} (hc : ckB xs = true) {k : Nat} (h : (xs.take k).all (fun y => decide (y.no < x.no)) = true) (h2 : ∀ y, xs[k]? = some y → x.no < y.no) : xs.any (fun y => y.no == x.no) = false := by
  rw [List.any_eq_false]
  intro y hy e
  have e : y.no = x.no := by simpa using e
  obtain ⟨i, hi⟩ := List.getElem?_of_mem hy
  obtain ⟨hil, hie⟩ := List.getElem?_eq_some_iff.1 hi
  by_cases hik : i < k
  · rw [List.all_eq_true] at h
    have := h y (by rw [List.mem_iff_getElem?]; exact ⟨i, by rw [List.getElem?_take_of_lt hik]; exact hi⟩)
    simp at this; omega
  · have hkl : k < xs.length := by omega
    have h3 := h2 _ (List.getElem?_eq_getElem hkl)
    by_cases e2 : i = k
    · subst e2; rw [hie] at h3; omega
    · have := List.pairwise_iff_getElem.1 (ckB_sorted hc) k i hkl hil (by omega)
      rw [hie] at this; omega
end Go.Proofs.Ytgfggmmffmfolaa
