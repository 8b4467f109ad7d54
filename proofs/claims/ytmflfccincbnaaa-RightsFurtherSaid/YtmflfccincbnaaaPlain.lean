/- The register of rights in plain Lean: what each function computes. -/
import Derived.Test.YtmflfccincbnaaaEngK
namespace Go.Proofs.Ytmflfccincbnaaa
open Go Go.Kn

structure Rt where
  no : Int
  kind : Int
  edition : Int
  holder : Int
  sign : Int
  ends : Int
  name : ByteArray
  town : ByteArray
  lo : Int
  hi : Int
  known : Int
def encR (x : Rt) : List Value := [.int .i64 x.no, .int .i64 x.kind, .int .i64 x.edition, .int .i64 x.holder, .int .i64 x.sign, .int .i64 x.ends, .string x.name, .string x.town, .int .i64 x.lo, .int .i64 x.hi, .int .i64 x.known]
def encA (x : Rt) : Value := .agg (encR x).toArray
def encI (n : Int) : List Value := [.int .i64 n]
def encP (p : Int × Int) : List Value := [.int .i64 p.1, .int .i64 p.2]
def zeroR : Rt := ⟨0, 0, 0, 0, 0, 0, ⟨#[]⟩, ⟨#[]⟩, 0, 0, 0⟩
theorem encR_len (x : Rt) : (encR x).length = 11 := rfl
theorem encI_len (x : Int) : (encI x).length = 1 := rfl
theorem encP_len (x : Int × Int) : (encP x).length = 2 := rfl
def rtEq (x y : Rt) : Bool :=
  x.no == y.no && (x.kind == y.kind && (x.edition == y.edition && (x.holder == y.holder && (x.sign == y.sign && (x.ends == y.ends && (strEq x.name y.name && (strEq x.town y.town && (x.lo == y.lo && (x.hi == y.hi && (x.known == y.known && true))))))))))
theorem rtEq_iff {x y : Rt} : rtEq x y = true ↔ x = y := by
  cases x; cases y
  simp only [rtEq, Bool.and_eq_true, beq_iff_eq, strEq_iff, Rt.mk.injEq, and_true]

def within (n lo hi : Int) : Bool := decide (lo ≤ n) && decide (n ≤ hi)
def w64 (n : Int) : Int := IntKind.i64.wrap n
def dated (x : Rt) : Bool := decide (x.lo ≥ 0) && decide (x.lo ≤ x.hi) && decide (x.hi ≤ 73048) && within x.edition 0 1048576
def heldF (x : Rt) : Bool := rtEq x { x with ends := 0, name := ⟨#[]⟩, town := ⟨#[]⟩ } && dated x && within x.holder 0 63 && within x.sign 0 1048577
def billF (x : Rt) : Bool := rtEq x { x with holder := 0, sign := 0, ends := 0 } && dated x && within x.name.size 1 32 && within x.town.size 1 32
def voidF (x : Rt) (bs : List (Int × Rt)) : Bool := match mget bs (w64 (x.ends - 1)) with
  | none => false
  | some old => (old.kind != 4) && decide (old.known ≤ x.known) && rtEq x { zeroR with no := x.no, kind := x.kind, ends := x.ends, known := x.known }
def knownB (k : Int) : Bool := k == 1 || k == 2 || k == 3 || k == 4
def askF (k : Int) (x : Rt) (bs : List (Int × Rt)) : Bool := if k = 1 then billF x else if k = 2 then heldF x else if k = 3 then heldF x else voidF x bs
def rBad (x : Rt) (bs : List (Int × Rt)) (last : Int) : Bool := !knownB x.kind || decide (x.no ≤ last) || decide (x.no > 1048576) || !within x.known 0 134217727 || !askF x.kind x bs
def rGo : List Rt → List (Int × Rt) → Int → Int
  | [], _, _ => 0
  | x :: xs, bs, last => if rBad x bs last then 460 else rGo xs (mset bs x.no x) x.no
def rCheck (xs : List Rt) : Int := if xs.length > 512 then 2 else rGo xs [] (-1)

def daysF (x : Rt) : Bool := within x.lo 0 x.hi && decide (x.hi ≤ 73048)
def textF (s : ByteArray) : Bool := within s.size 1 32
def endsF (pre : List Rt) (x : Rt) : Bool := pre.any fun y => (w64 (y.no + 1) == x.ends) && (y.kind != 4) && decide (y.known ≤ x.known)
def empty : ByteArray := ⟨#[]⟩
def holdC (x : Rt) : Bool := daysF x && within x.edition 0 1048576 && within x.holder 0 63 && within x.sign 0 1048577 && strEq x.name empty && strEq x.town empty && (x.ends == 0)
def formC (pre : List Rt) (x : Rt) : Bool :=
  if x.kind == 1 then daysF x && within x.edition 0 1048576 && textF x.name && textF x.town && (x.holder == 0) && (x.sign == 0) && (x.ends == 0)
  else if x.kind == 2 then holdC x
  else if x.kind == 3 then holdC x
  else if x.kind == 4 then endsF pre x && (x.edition == 0) && (x.holder == 0) && (x.sign == 0) && strEq x.name empty && strEq x.town empty && (x.lo == 0) && (x.hi == 0)
  else false
/-- y: the entry before x; at i = 0 whatever. -/
def fGoodC (i : Nat) (pre : List Rt) (y x : Rt) : Bool :=
  if (!within x.no 0 1048576 || (decide ((i : Int) > 0) && decide (x.no ≤ y.no)) || !within x.known 0 134217727) then false else formC pre x
def prevOf (xs : List Rt) (i : Nat) : Rt := (xs[((i : Int) - 1).toNat]?).getD zeroR
def rightC (xs : List Rt) (i : Nat) : Bool := fGoodC i (xs.take i) (prevOf xs i) ((xs[i]?).getD zeroR)
def fCheck (xs : List Rt) : Int := if xs.length > 512 then 2 else if (List.range xs.length).all (rightC xs) then 0 else 460
def askedF (chk day time : Int) : Int := if chk ≠ 0 then chk else if !within day 0 73048 || !within time 0 134217727 then 1 else 0

def ended (xs : List Rt) (no time : Int) : Bool := xs.any fun x => (x.kind == 4) && (x.ends == no + 1) && decide (x.known ≤ time)
def standsP (xs : List Rt) (day time : Int) (x : Rt) : Bool := (x.kind != 4) && decide (x.known ≤ time) && within day x.lo x.hi && !ended xs x.no time
def standsF (xs : List Rt) (day time : Int) : List Rt := xs.filter (standsP xs day time)
def goneF (xs : List Rt) (time no : Int) : Bool := xs.any fun x => (x.kind == 4) && decide (x.known ≤ time) && (w64 (x.ends - 1) == no)
def stP (xs : List Rt) (day time : Int) (x : Rt) : Bool := (x.kind != 4) && decide (x.known ≤ time) && within day x.lo x.hi && !goneF xs time x.no
def standF (xs : List Rt) (day time : Int) : List Rt := xs.filter (stP xs day time)
def resF {α : Type} (chk : Int) (xs : List α) : List α := if chk ≠ 0 then [] else xs
instance : DecidableEq Rt := fun a b => decidable_of_iff (rtEq a b = true) rtEq_iff
def sameF {α : Type} [DecidableEq α] (xs ys : List α) : Bool := decide (xs = ys)

theorem _root_.Go.Kn.Sl.at {α : Type} {I : HMap} {size : Nat} {enc : α → List Value} {av : Option Addr} {n c : Nat} {xs : List α} (h : Sl I size enc av n c xs) {k : Nat} (hk : k < n) : ∃ x, xs[k]? = some x :=
  ⟨xs[k]'(by rw [h.len]; exact hk), by simp⟩
def bigR (x : Rt) : Bool := decide ((x.name.size : Int) > 100) || decide ((x.town.size : Int) > 100)
def fewF (xs : List Rt) : Bool := if (xs.take 600).any bigR then false else decide ((xs.length : Int) ≤ 120) || (decide ((xs.length : Int) > 512) && decide ((xs.length : Int) ≤ 600))
theorem drop_cons {α : Type} {xs : List α} {k : Nat} {x : α} (h : xs[k]? = some x) : xs.drop k = x :: xs.drop (k + 1) := by
  obtain ⟨hk, rfl⟩ := List.getElem?_eq_some_iff.1 h
  exact List.drop_eq_getElem_cons hk
theorem rightC_no {xs : List Rt} {i : Nat} {x : Rt} (hx : xs[i]? = some x) (h : rightC xs i = true) : 0 ≤ x.no ∧ x.no ≤ 1048576 := by
  unfold rightC fGoodC at h
  rw [hx] at h
  simp only [Option.getD_some] at h
  split at h
  · cases h
  · rename_i hb
    simp only [Bool.or_eq_true, not_or, Bool.not_eq_true', Bool.not_eq_false] at hb
    have := hb.1.1
    simp only [within, Bool.and_eq_true, decide_eq_true_eq] at this
    exact this
theorem fCheck_no {xs : List Rt} (h : fCheck xs = 0) : ∀ (k : Nat) (x : Rt), xs[k]? = some x → 0 ≤ x.no ∧ x.no ≤ 1048576 := fun k x hx => by
  unfold fCheck at h
  split at h
  · cases h
  · split at h
    · rename_i ha
      rw [List.all_eq_true] at ha
      exact rightC_no hx (ha k (List.mem_range.2 (List.getElem?_eq_some_iff.1 hx).1))
    · cases h
theorem asked_ok {chk day time : Int} (h : askedF chk day time = 0) : chk = 0 := by
  unfold askedF at h
  split at h
  · rename_i hne; exact absurd h hne
  · rename_i hne; exact Decidable.not_not.1 hne
def mayP (no : Int) (name town : ByteArray) (x : Rt) : Bool := (x.kind == 1) && (x.edition == no) && strEq x.name name && strEq x.town town
def mayF (chk no : Int) (name town : ByteArray) (xs : List Rt) : Bool := if chk ≠ 0 then false else xs.any (mayP no name town)
/-! the parts of a use, and their holders -/
def partP (kind edition : Int) (x : Rt) : Bool := (x.kind == kind) && (x.edition == edition)
def partsM (kind edition : Int) (ys : List Rt) : List ((Int × Int) × Bool) := ys.foldl (fun m x => if partP kind edition x then mset m (x.holder, x.sign) true else m) []
theorem partsM_snoc (kind edition : Int) (ys : List Rt) (x : Rt) : partsM kind edition (ys ++ [x]) = if partP kind edition x then mset (partsM kind edition ys) (x.holder, x.sign) true else partsM kind edition ys := by
  simp only [partsM, List.foldl_append, List.foldl_cons, List.foldl_nil]
def pickP (sign : Int) (p : (Int × Int) × Bool) : Bool := (p.1.2 == 0) || (p.1.2 == w64 (sign + 1))
def pickL (sign : Int) (l : List ((Int × Int) × Bool)) : List Int := (l.filter (pickP sign)).map fun p => p.1.1
def pickS (m : List ((Int × Int) × Bool)) (sign : Int) (seen : List Nat) : List Int := pickL sign (seen.filterMap fun i => m[i]?)
theorem pickS_yes {m : List ((Int × Int) × Bool)} {sign : Int} {seen : List Nat} {i : Nat} {p : (Int × Int) × Bool} (hp : m[i]? = some p) (h : pickP sign p = true) : pickS m sign (seen ++ [i]) = pickS m sign seen ++ [p.1.1] := by
  simp [pickS, pickL, hp, h]
theorem pickS_no {m : List ((Int × Int) × Bool)} {sign : Int} {seen : List Nat} {i : Nat} {p : (Int × Int) × Bool} (hp : m[i]? = some p) (h : pickP sign p = false) : pickS m sign (seen ++ [i]) = pickS m sign seen := by
  simp [pickS, pickL, hp, h]
theorem pickS_perm {m : List ((Int × Int) × Bool)} {sign : Int} {seen : List Nat} (h : seen.Perm (List.range m.length)) : (pickS m sign seen).Perm (pickL sign m) := by
  have h1 := ((h.filterMap (fun i => m[i]?)).filter (pickP sign)).map (fun p => p.1.1)
  rw [range_all] at h1
  exact h1
def coversF (x : Rt) (kind edition sign : Int) : Bool := (x.kind == kind) && (x.edition == edition) && ((x.sign == 0) || (x.sign == w64 (sign + 1)))
/-! the reference's list in order -/
def putF : List Int → Int → List Int
  | [], v => [v]
  | x :: xs, v => if x < v then x :: putF xs v else if x = v then x :: xs else v :: x :: xs
theorem putF_len : ∀ (xs : List Int) (v : Int), (putF xs v).length ≤ xs.length + 1
  | [], v => by simp [putF]
  | x :: xs, v => by
    unfold putF
    split
    · have := putF_len xs v; simp only [List.length_cons]; omega
    · split <;> simp
theorem putF_hit : ∀ {xs : List Int} {k : Nat} {v : Int}, (xs.take k).all (fun y => decide (y < v)) = true → xs[k]? = some v → putF xs v = xs
  | [], k, v, _, h => by simp at h
  | x :: xs, 0, v, _, h => by simp at h; subst h; simp [putF]
  | x :: xs, k + 1, v, ha, h => by
    simp only [List.take_succ_cons, List.all_cons, Bool.and_eq_true, decide_eq_true_eq] at ha
    rw [putF, if_pos ha.1, putF_hit ha.2 (by simpa using h)]
theorem putF_in : ∀ {xs : List Int} {k : Nat} {v : Int}, (xs.take k).all (fun y => decide (y < v)) = true → k ≤ xs.length → (∀ x, xs[k]? = some x → ¬ x < v ∧ x ≠ v) → putF xs v = xs.take k ++ v :: xs.drop k
  | [], k, v, _, _, _ => by simp [putF]
  | x :: xs, 0, v, _, _, h => by
    have := h x (by simp)
    simp [putF, this.1, this.2]
  | x :: xs, k + 1, v, ha, hk, h => by
    simp only [List.take_succ_cons, List.all_cons, Bool.and_eq_true, decide_eq_true_eq] at ha
    rw [putF, if_pos ha.1, putF_in ha.2 (by simpa using hk) (fun y hy => h y (by simpa using hy))]; rfl
theorem all_step {α : Type} {xs : List α} {k : Nat} {x : α} {p : α → Bool} (hx : xs[k]? = some x) (h : (xs.take k).all p = true) (hc : p x = true) : (xs.take (k + 1)).all p = true := by
  rw [List.take_add_one, hx]; simp [h, hc]
def holdR (ed sign : Int) (ys : List Rt) : List Int := ys.foldl (fun acc x => if coversF x 2 ed sign then putF acc x.holder else acc) []
theorem holdR_step {ed sign : Int} {ys : List Rt} {k : Nat} {x : Rt} (hx : ys[k]? = some x) : holdR ed sign (ys.take (k + 1)) = if coversF x 2 ed sign then putF (holdR ed sign (ys.take k)) x.holder else holdR ed sign (ys.take k) := by
  rw [List.take_add_one, hx]
  simp only [holdR, Option.toList_some, List.foldl_append, List.foldl_cons, List.foldl_nil]
theorem holdR_len (ed sign : Int) (ys : List Rt) : (holdR ed sign ys).length ≤ ys.length := by
  unfold holdR
  suffices h : ∀ (ys : List Rt) (acc : List Int), (ys.foldl (fun acc x => if coversF x 2 ed sign then putF acc x.holder else acc) acc).length ≤ acc.length + ys.length from by simpa using h ys []
  intro ys
  induction ys with
  | nil => intro acc; simp
  | cons y ys ih =>
    intro acc
    rw [List.foldl_cons]
    refine Nat.le_trans (ih _) ?_
    split
    · have := putF_len acc y.holder; simp only [List.length_cons]; omega
    · simp only [List.length_cons]; omega
def consP (ed sign h : Int) (x : Rt) : Bool := coversF x 3 ed sign && (x.holder == h)
def hErr (chk sign : Int) : Int := if chk ≠ 0 then chk else if !within sign 0 1048576 then 1 else 0
theorem mset_len {α β : Type} [DecidableEq α] : ∀ (m : List (α × β)) (a : α) (b : β), (mset m a b).length ≤ m.length + 1
  | [], a, b => by simp [mset]
  | p :: m, a, b => by
    simp only [mset]
    split
    · simp
    · have := mset_len m a b; simp only [List.length_cons]; omega
theorem partsM_len (kind ed : Int) (ys : List Rt) : (partsM kind ed ys).length ≤ ys.length := by
  unfold partsM
  suffices h : ∀ (ys : List Rt) (acc : List ((Int × Int) × Bool)), (ys.foldl (fun m x => if partP kind ed x then mset m (x.holder, x.sign) true else m) acc).length ≤ acc.length + ys.length from by simpa using h ys []
  intro ys
  induction ys with
  | nil => intro acc; simp
  | cons y ys ih =>
    intro acc
    rw [List.foldl_cons]
    refine Nat.le_trans (ih _) ?_
    split
    · have := mset_len acc (y.holder, y.sign) true; simp only [List.length_cons]; omega
    · simp only [List.length_cons]; omega
/-! a use, allowed -/
def signP (ss : List Int) (i : Nat) : Bool := within (ss.getD i 0) 0 1048576 && !(decide ((i : Int) > 0) && decide (ss.getD i 0 ≤ ss.getD ((i : Int) - 1).toNat 0))
def signOK (ss : List Int) : Bool := (List.range ss.length).all (signP ss)
def aErr (chk : Int) (ss : List Int) : Int := if chk ≠ 0 then chk else if ss.length > 64 then 2 else if signOK ss then 0 else 460
def missA (hold : Int → List Int) (miss : Int → Int → Bool) (ss : List Int) : List (Int × Int) := ss.flatMap fun s => ((hold s).filter (miss s)).map fun h => (s, h)
theorem missA_step {hold : Int → List Int} {miss : Int → Int → Bool} {ss : List Int} {k : Nat} {s : Int} (h : ss[k]? = some s) : missA hold miss (ss.take (k + 1)) = missA hold miss (ss.take k) ++ ((hold s).filter (miss s)).map fun h => (s, h) := by
  rw [List.take_add_one, h]
  simp [missA, List.flatMap_append]
def missP (m : List ((Int × Int) × Bool)) (s h : Int) : Bool := !((mget m (h, 0)).getD false) && !((mget m (h, w64 (s + 1))).getD false)
def AlE (e : Int) (ms : List (Int × Int)) : Value → HMap → Go.Kn.Loc → Prop := fun v I' L => L = [] ∧ ∃ av c, v = .tuple #[.bool (decide (e = 0) && (resF e ms).isEmpty), .slice av (resF e ms).length c, .int .i64 e] ∧ Sl I' 2 encP av (resF e ms).length c (resF e ms)
theorem AlE.bad {e : Int} {ms : List (Int × Int)} {I : HMap} (h : e ≠ 0) : AlE e ms (.tuple #[.bool false, .slice none 0 0, .int .i64 e]) I [] := by
  unfold AlE resF
  rw [if_pos h]
  exact ⟨rfl, none, 0, by rw [decide_eq_false h]; rfl, .nil⟩
theorem AlE.good {ms : List (Int × Int)} {I : HMap} {av : Option Addr} {c q : Nat} (hq : ms.length = q) (hS : Sl I 2 encP av q c ms) : AlE 0 ms (.tuple #[.bool ((q : Int) == 0), .slice av q c, .int .i64 0]) I [] := by
  subst hq
  unfold AlE resF
  rw [if_neg (by decide)]
  refine ⟨rfl, av, c, ?_, hS⟩
  congr 3
  cases ms with
  | nil => rfl
  | cons m ms =>
    simp only [List.length_cons, List.isEmpty_cons, Bool.and_false]
    congr 1
theorem mget_mset {α β : Type} [DecidableEq α] (m : List (α × β)) (a k : α) (b : β) : mget (mset m a b) k = if a = k then some b else mget m k := by
  induction m with
  | nil => simp [mset, mget]
  | cons p m ih =>
    simp only [mset]
    split
    · rename_i h
      simp only [mget]
      by_cases h2 : a = k
      · simp [h2]
      · simp [h2, h]
    · rename_i h
      simp only [mget, ih]
      by_cases h2 : a = k
      · subst h2; simp [h]
      · simp [h2]
end Go.Proofs.Ytmflfccincbnaaa
