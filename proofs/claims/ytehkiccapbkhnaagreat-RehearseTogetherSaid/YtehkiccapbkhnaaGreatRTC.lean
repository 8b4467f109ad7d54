/- rehearseTogether_holds, part C of the proof: what its theorems say holds without further conditions. -/
import Derived.Shelf.SlSortCmp.WholeK
import Derived.Lib.SlicesCompact
import Derived.Lib.RowBridge
import Derived.Shelf.Small.Bits
import Derived.Shelf.Small.Wraps
import Derived.Shelf.Strconv.Itoa0
import Derived.Shelf.Sort.Plain
import Derived.Shelf.Slices.Turned
import Derived.Shelf.Slices.Equal
import Derived.Ground.Names2Prog
import Derived.Shelf.Slices.Clone
import Derived.Shelf.Slices.CompactI
import Derived.Shelf.Slices.SearchI
import Derived.Shelf.Slices.Cells
import Derived.Shelf.Slices.In.SortNone
import Derived.Shelf.Slices.Empties
import Derived.Shelf.Slices.Empties2
import Derived.Ground.SlgnProg
import Derived.Shelf.SlicesE.Clone
import Derived.Shelf.SlicesQ.Reverse
import Derived.Ground.SlsfProg
import Derived.Shelf.SlSortCmp.InsertionK
import Derived.Shelf.SlSortCmp.SiftDownK
import Derived.Shelf.SlSortCmp.HeapSortK
import Derived.Shelf.SlSortCmp.MedianK
import Derived.Shelf.SlSortCmp.PivotK
import Derived.Shelf.SlSortCmp.ReverseRangeK
import Derived.Shelf.SlSortCmp.PartialInsertionK
import Derived.Shelf.SlSortCmp.PartitionEqualK
import Derived.Shelf.SlSortCmp.PartitionK
import Derived.Shelf.SlSortCmp.PdqK
import Derived.Shelf.SlSortCmp.NoneTotal
import Derived.Test.YtehkiccapbkhnaaGreatProg
import Derived.Test.YtehkiccapbkhnaaGreatRTB
section
namespace Go.Kn
open Go Go.Sort Go.Shelf Go.Lib Go.Proofs
/-- Behind a call that reads: the world has grown, and has drawn. -/
theorem grown_of {w w' : World} {L : Loc} (h : St w (fun b => w.heap[b]?) (fun _ => none) L w') : ∃ q os', w' = grow (w.drewN q) os' := by
  refine ⟨w'.drawn - w.drawn, w'.heap.extract w.heap.size w'.heap.size, ?_⟩
  have h1 := h.size
  have hh : w.heap ++ w'.heap.extract w.heap.size w'.heap.size = w'.heap := by
    apply Array.ext'
    apply List.ext_getElem?
    intro i
    by_cases hi : i < w.heap.size
    · have := h.imm i _ (Array.getElem?_eq_getElem hi)
      rw [Array.getElem?_toList, Array.getElem?_toList, this, Array.getElem?_append_left hi, Array.getElem?_eq_getElem hi]
    · rw [Array.getElem?_toList, Array.getElem?_toList, Array.getElem?_append_right (by omega), Array.getElem?_extract]
      by_cases h2 : i < w'.heap.size
      · rw [if_pos (by omega), show w.heap.size + (i - w.heap.size) = i by omega]
      · rw [if_neg (by omega), Array.getElem?_eq_none (by omega)]
  have e1 := h.os; have e2 := h.tape; have e3 := h.out
  cases w; cases w'
  simp only [grow, World.drewN] at *
  subst e1; subst e2; subst e3
  simp only [World.mk.injEq, true_and, and_true]
  exact ⟨hh.symm, by omega⟩
theorem flat_eq {α : Type} [Inhabited α] {enc : α → List Value} {k : Nat} (hk : ∀ x, (enc x).length = k) (hpos : 0 < k) (xs : List α) : flatK enc k xs.toArray = (xs.flatMap enc).toArray := by
  have hl : (xs.flatMap enc).length = xs.length * k := flat_len hk xs
  apply Array.ext
  · rw [size_flatK]; simp [hl]
  · intro t h1 h2
    have ht : t < xs.length * k := by rw [size_flatK] at h1; simpa using h1
    have hq : t / k < xs.length := by rw [Nat.div_lt_iff_lt_mul hpos]; exact ht
    have hr : t % k < k := Nat.mod_lt _ hpos
    have hx : xs[t / k]? = some xs[t / k] := List.getElem?_eq_getElem hq
    have hu : (enc xs[t / k])[t % k]? = some ((enc xs[t / k])[t % k]'(by rw [hk]; exact hr)) := List.getElem?_eq_getElem _
    have h3 := flat_at hk xs (t / k) _ hx (t % k) _ hu
    rw [Nat.mul_comm, Nat.div_add_mod] at h3
    have h4 := get_flatK enc k xs.toArray t (by simpa using ht)
    rw [getElem!_pos (flatK enc k xs.toArray) t h1] at h4
    rw [h4]
    have e1 : xs.toArray[t / k]! = xs[t / k]'hq := by simp [hq]
    rw [e1]
    have e2 : (enc (xs[t / k]'hq))[t % k]! = (enc (xs[t / k]'hq))[t % k]'(by rw [hk]; exact hr) := getElem!_pos (enc (xs[t / k]'hq)) (t % k) (by rw [hk]; exact hr)
    rw [e2]
    have e3 : (xs.flatMap enc).toArray[t]? = some ((enc xs[t / k])[t % k]'(by rw [hk]; exact hr)) := by simpa using h3
    rw [Array.getElem?_eq_getElem h2] at e3
    exact (Option.some.inj e3).symm
theorem retSortK {α : Type} [Inhabited α] {P : Program} {f g0 : FuncId} {e : TypeId} {k : Nat} {enc : α → List Value} {cf : α → α → Int} (hk : ∀ x, (enc x).length = k) (hpos : 0 < k)
    (hs : ∀ (blk off cap : Nat) (d : Array α) (w : World), CmpLays P g0 #[] enc k cf blk off d.size w → HoldsK enc k w blk off d → blk < w.heap.size → d.size < 4611686018427387904 →
      Calls P f #[.slice (some ⟨blk, off, none⟩) d.size cap, .func (.func g0) #[] #[]] w fun e w' => e = .returned (.tuple #[]) ∧ ∃ d' n os, PermIn 0 d.size d d' ∧ SortedIn (ltOf cf) 0 d.size d' ∧ w' = sortWorldK enc k w blk off n d' os)
    (h0 : ∀ (p : Option Addr) (cap : Nat) (fv : Value) (w : World), Calls P f #[.slice p 0 cap, fv] w fun e w' => e = .returned (.tuple #[]) ∧ w' = w)
    (hcmp : ∀ (I : HMap) (x y : α), RetV P g0 [.agg (enc x).toArray, .agg (enc y).toArray] I (.int .i64 (cf x y)))
    (zs : List α) {v : Value} {n : Nat} {L : Loc} (hO : OwnS e k v n (zs.flatMap enc) L) (hn : n ≤ 1000000) (I : HMap) :
    RetM P f [v, .func (.func g0) #[] #[]] I L (fun u I' L' => u = .tuple #[] ∧ I' = I ∧ ∃ zs' : List α, zs'.Perm zs ∧ zs'.Pairwise (fun x y => ltOf cf y x = false) ∧ OwnS e k v n (zs'.flatMap enc) L') := by
  intro g H w hw
  have hl : zs.length = n := by
    have := hO.1
    rw [flat_len hk] at this
    exact Nat.eq_of_mul_eq_mul_right hpos this
  subst hl
  rcases hO.2 with ⟨rfl, h00, rfl⟩ | ⟨b, c, cur, rfl, rfl, hc, hc2, hsz, htk⟩
  · have : zs = [] := List.length_eq_zero_iff.1 h00
    subst this
    refine (h0 none 0 _ w).mono ?_
    rintro e w' ⟨rfl, rfl⟩
    exact ⟨_, I, [], rfl, HLe.refl _, hw, rfl, rfl, [], .nil, .nil, by simp, .inl ⟨rfl, rfl, rfl⟩⟩
  · have hb := hw.own b _ (List.mem_singleton.2 rfl)
    have hbs : b < w.heap.size := (Array.getElem?_eq_some_iff.1 hb).1
    have hfl : (zs.flatMap enc).length = zs.length * k := flat_len hk zs
    have hH : HoldsK enc k w b 0 zs.toArray := by
      unfold HoldsK
      rw [flat_eq hk hpos]
      exact holds_own (enc := id) hw (List.mem_singleton.2 rfl) (zs.flatMap enc) (by rw [hfl, htk]; simp)
    have hC : CmpLays P g0 #[] enc k cf b 0 zs.toArray.size w := by
      intro m os dk _ x y
      have h1 := hcmp (fun q => (sortWorldK enc k w b 0 m dk os).heap[q]?) x y (sortWorldK enc k w b 0 m dk os) (fun _ => none) (sortWorldK enc k w b 0 m dk os)
        ⟨rfl, rfl, rfl, ⟨Nat.le_refl _, Nat.le_refl _⟩, fun _ _ h => h, (fun _ _ h => by cases h), (fun _ _ h => by cases h), fun _ => .inr rfl, (fun _ _ h => by cases h), by simp⟩
      refine Calls.mono h1 ?_
      rintro e w' ⟨rfl, hs⟩
      exact ⟨rfl, grown_of hs⟩
    have hcall := hs b 0 c zs.toArray w hC hH hbs (by simp; omega)
    rw [List.size_toArray] at hcall
    refine hcall.mono ?_
    rintro e w' ⟨rfl, d', m, os, hp, hsd, rfl⟩
    have hps : d'.size = zs.length := by simpa using hp.1
    have hperm : d'.toList.Perm zs := by
      have := hp.2.2
      simpa [Array.extract_eq_self_of_le, hps] using this
    have hdl : d' = d'.toList.toArray := by simp
    have hfd : (d'.toList.flatMap enc).length = zs.length * k := by rw [flat_len hk, Array.length_toList, hps]
    refine ⟨_, I, [(b, .cells (putCells id 0 (d'.toList.flatMap enc).toArray cur) e (0, 0))], rfl, HLe.refl _, ?_, rfl, rfl, d'.toList, hperm, ?_, ?_⟩
    · unfold sortWorldK putRowK
      rw [hdl, flat_eq hk hpos]
      simp only [List.toList_toArray]
      exact (((hw.aheadN m).rowPut (enc := id) _ .here).grown os)
    · rw [List.pairwise_iff_getElem]
      intro i j hi hj hij
      have := hsd i j (Nat.zero_le _) hij (by rw [← hps]; simpa using hj)
      rw [getElem!_pos d' i (by simpa using hi), getElem!_pos d' j (by simpa using hj)] at this
      simpa using this
    · refine ⟨by rw [hfd], .inr ⟨b, c, _, rfl, rfl, hc, hc2, by simp [putCells, hsz], ?_⟩⟩
      have := take_put (enc := id) (cs := cur) (n := zs.length * k) (d'.toList.flatMap enc) hfd (by rw [hsz]; exact Nat.mul_le_mul_right k hc)
      simpa using this
end Go.Kn
end
section
namespace Go.Proofs.YtehkiccapbkhnaaGreat
open Go Go.Kn
def sortI (zs : List Int) : List Int := zs.mergeSort fun x y => decide (x ≤ y)
theorem flat_int (zs : List Int) : zs.flatMap encI = zs.map (Value.int .i64) := by
  induction zs with
  | nil => rfl
  | cons z zs ih => rw [List.flatMap_cons, ih]; rfl
theorem comp_inv (d : Array Int) (hs : ∀ j, 0 < j → j < d.size → d[j - 1]! ≤ d[j]!) : ∀ m, m ≤ d.size → (Lib.compactUpTo d m).Pairwise (· < ·) ∧ (∀ x ∈ Lib.compactUpTo d m, 0 < m ∧ x ≤ d[m - 1]!) ∧ ∀ x, x ∈ Lib.compactUpTo d m ↔ ∃ j, j < m ∧ d[j]! = x
  | 0, _ => ⟨.nil, (fun x h => by cases h), fun x => ⟨(fun h => by cases h), fun ⟨j, h, _⟩ => by omega⟩⟩
  | m + 1, hm => by
    obtain ⟨h1, h2, h3⟩ := comp_inv d hs m (by omega)
    rw [Lib.compactUpTo_succ]
    by_cases hk : Lib.keeps d m = true
    · rw [if_pos hk]
      have hlt : ∀ x ∈ Lib.compactUpTo d m, x < d[m]! := fun x hx => by
        obtain ⟨a, b⟩ := h2 x hx
        have h4 := hs m a (by omega)
        unfold Lib.keeps at hk
        have h5 := of_decide_eq_true hk
        omega
      refine ⟨?_, ?_, ?_⟩
      · rw [List.pairwise_append]
        exact ⟨h1, List.pairwise_singleton .., fun y hy z hz => by rw [List.mem_singleton] at hz; rw [hz]; exact hlt y hy⟩
      · intro x hx
        refine ⟨by omega, ?_⟩
        rw [show m + 1 - 1 = m from by omega]
        rcases List.mem_append.1 hx with hx | hx
        · have := hlt x hx; omega
        · rw [List.mem_singleton] at hx; rw [hx]; exact Int.le_refl _
      · intro x
        rw [List.mem_append, h3, List.mem_singleton]
        constructor
        · rintro (⟨j, a, b⟩ | e)
          · exact ⟨j, by omega, b⟩
          · exact ⟨m, by omega, e.symm⟩
        · rintro ⟨j, a, b⟩
          by_cases e : j = m
          · subst e; exact .inr b.symm
          · exact .inl ⟨j, by omega, b⟩
    · rw [if_neg hk, List.append_nil]
      unfold Lib.keeps at hk
      have h5 : ¬ (m = 0 ∨ d[m]! ≠ d[m - 1]!) := fun h => hk (decide_eq_true h)
      have h6 : 0 < m ∧ d[m]! = d[m - 1]! := by omega
      refine ⟨h1, ?_, ?_⟩
      · intro x hx
        have := h2 x hx
        rw [show m + 1 - 1 = m from by omega]
        omega
      · intro x
        rw [h3]
        constructor
        · rintro ⟨j, a, b⟩; exact ⟨j, by omega, b⟩
        · rintro ⟨j, a, b⟩
          by_cases e : j = m
          · subst e; exact ⟨j - 1, by omega, by rw [← h6.2]; exact b⟩
          · exact ⟨j, by omega, b⟩
theorem comp_sort (zs : List Int) : (Lib.compact (sortI zs)).Pairwise (· < ·) ∧ ∀ x, x ∈ Lib.compact (sortI zs) ↔ x ∈ zs := by
  have hp : (sortI zs).Pairwise (fun a b => decide (a ≤ b) = true) := List.pairwise_mergeSort (by intro a b c; simp; omega) (by intro a b; simp; omega) zs
  have hget : ∀ j, j < (sortI zs).length → (sortI zs).toArray[j]! = (sortI zs)[j]! := fun j hj => by simp
  have hs : ∀ j, 0 < j → j < (sortI zs).toArray.size → (sortI zs).toArray[j - 1]! ≤ (sortI zs).toArray[j]! := by
    intro j h0 hj
    have hj' : j < (sortI zs).length := by simpa using hj
    have h1 := List.pairwise_iff_getElem.1 hp (j - 1) j (by omega) hj' (by omega)
    have h2 := of_decide_eq_true h1
    simpa [hj', show j - 1 < (sortI zs).length from by omega] using h2
  obtain ⟨h1, _, h3⟩ := comp_inv (sortI zs).toArray hs (sortI zs).length (by simp)
  refine ⟨h1, fun x => ?_⟩
  unfold Lib.compact
  rw [h3]
  have hmem : x ∈ sortI zs ↔ x ∈ zs := (List.mergeSort_perm zs _).mem_iff
  rw [← hmem]
  constructor
  · rintro ⟨j, hj, e⟩
    have : (sortI zs)[j] = x := by simpa [hj] using e
    rw [← this]; exact List.getElem_mem hj
  · intro h
    obtain ⟨j, hj, e⟩ := List.getElem_of_mem h
    exact ⟨j, hj, by simpa [hj] using e⟩
theorem comp_sort_eq {zs ys : List Int} (hy : ys.Pairwise (· < ·)) (h : ∀ x, x ∈ zs ↔ x ∈ ys) : Lib.compact (sortI zs) = ys :=
  sorted_ext (comp_sort zs).1 hy fun a => by rw [(comp_sort zs).2, h]
end Go.Proofs.YtehkiccapbkhnaaGreat
end
section
namespace Go.Proofs.YtehkiccapbkhnaaGreat
open Go Go.Kn Go.Proofs
theorem half_eq (i j : Nat) (h : i + j ≤ 1000000) : IntKind.i64.wrap ((IntKind.u64.wrap ((i : Int) + (j : Int))).fdiv (2 ^ 1)) = (((i + j) / 2 : Nat) : Int) := by
  have h1 : IntKind.u64.wrap ((i : Int) + (j : Int)) = ((i + j : Nat) : Int) := by
    rw [show ((i : Int) + (j : Int)) = ((i + j : Nat) : Int) by omega]
    exact u64_id ⟨by omega, by omega⟩
  rw [h1, show ((2 : Int) ^ 1) = ((2 : Nat) : Int) from rfl, Int.fdiv_eq_ediv_of_nonneg _ (by omega), ← Int.natCast_ediv]
  exact wrap_in ⟨by omega, by omega⟩
section
variable {α : Type} {key : α → Int} {xs : List α} {t : Int}
theorem bs_lo (hs : xs.Pairwise (fun a b => key a < key b)) {h : Nat} {y : α} (hy : xs[h]? = some y) (hlt : key y < t) : ∀ q z, q < h + 1 → xs[q]? = some z → key z < t := fun q z hq hz => by
  obtain ⟨h1, h2⟩ := List.getElem?_eq_some_iff.1 hz
  obtain ⟨h3, h4⟩ := List.getElem?_eq_some_iff.1 hy
  by_cases e : q = h
  · subst e; rw [hy] at hz; cases hz; exact hlt
  · have := List.pairwise_iff_getElem.1 hs q h h1 h3 (by omega)
    rw [h2, h4] at this; omega
theorem bs_hi (hs : xs.Pairwise (fun a b => key a < key b)) {h : Nat} {y : α} (hy : xs[h]? = some y) (hlt : ¬ key y < t) : ∀ q z, h ≤ q → xs[q]? = some z → ¬ key z < t := fun q z hq hz => by
  obtain ⟨h1, h2⟩ := List.getElem?_eq_some_iff.1 hz
  obtain ⟨h3, h4⟩ := List.getElem?_eq_some_iff.1 hy
  by_cases e : q = h
  · subst e; rw [hy] at hz; cases hz; exact hlt
  · have := List.pairwise_iff_getElem.1 hs h q h3 h1 (by omega)
    rw [h2, h4] at this; omega
/-- The number found: how many are less. -/
def lowK (key : α → Int) (xs : List α) (t : Int) : Nat := (xs.takeWhile fun x => decide (key x < t)).length
theorem low_at {i : Nat} (hi : i ≤ xs.length) (hlo : ∀ q z, q < i → xs[q]? = some z → key z < t) (hhi : ∀ q z, i ≤ q → xs[q]? = some z → ¬ key z < t) : lowK key xs t = i := by
  unfold lowK
  have h1 : (xs.take i).all (fun x => decide (key x < t)) = true := by
    rw [List.all_eq_true]
    intro z hz
    obtain ⟨q, hq⟩ := List.getElem?_of_mem hz
    have hq1 : q < i := by have := (List.getElem?_eq_some_iff.1 hq).1; rw [List.length_take] at this; omega
    rw [List.getElem?_take_of_lt hq1] at hq
    exact decide_eq_true (hlo q z hq1 hq)
  rw [(tw_eq h1 hi (fun y hy => decide_eq_false (hhi i y (Nat.le_refl _) hy))).1, List.length_take]; omega
theorem found_at {i n : Nat} {d : α} (hl : xs.length = n) (hlo : ∀ q z, q < i → xs[q]? = some z → key z < t) (hhi : ∀ q z, i ≤ q → xs[q]? = some z → ¬ key z < t) (hs : xs.Pairwise (fun a b => key a < key b)) : (decide ((i : Int) < (n : Int)) && (key (xs.getD i d) == t)) = xs.any fun x => key x == t := by
  rw [Bool.eq_iff_iff, List.any_eq_true, Bool.and_eq_true]
  constructor
  · rintro ⟨h1, h2⟩
    have hi : i < n := by have := of_decide_eq_true h1; omega
    exact ⟨_, List.mem_of_getElem? (some_getD hl hi), h2⟩
  · rintro ⟨x, hx, e⟩
    have e : key x = t := by simpa using e
    obtain ⟨q, hq⟩ := List.getElem?_of_mem hx
    have hqn := (List.getElem?_eq_some_iff.1 hq).1
    have h1 : i ≤ q := by
      rcases Nat.lt_or_ge q i with h | h
      · have := hlo q x h hq; omega
      · exact h
    have h2 : q = i := by
      by_cases e2 : q = i
      · exact e2
      · have hy := some_getD (d := d) hl (show i < n by omega)
        obtain ⟨h3, h4⟩ := List.getElem?_eq_some_iff.1 hq
        obtain ⟨h5, h6⟩ := List.getElem?_eq_some_iff.1 hy
        have h7 := List.pairwise_iff_getElem.1 hs i q h5 h3 (by omega)
        rw [h4, h6] at h7
        have := hhi i _ (Nat.le_refl _) hy
        omega
    subst h2
    refine ⟨decide_eq_true (by omega), ?_⟩
    rw [getD_of hq, e]; simp
end
instance : Inhabited Sg := ⟨zeroG⟩
end Go.Proofs.YtehkiccapbkhnaaGreat
end
section
namespace Go.Proofs.YtehkiccapbkhnaaGreat
open Go Go.Kn Go.Proofs
def incP (v : List Int) (i : Nat) : Bool := !(decide ((i : Int) > 0) && decide (v.getD i 0 ≤ v.getD ((i : Int) - 1).toNat 0))
theorem incB_eq {v : List Int} : incB v = (List.range v.length).all (incP v) := rfl
theorem incP_zero (v : List Int) : (List.range 1).all (incP v) = true := by simp [incP]
theorem incP_at {v : List Int} {k : Nat} {x : Int} (hx : v[k]? = some x) (h : 1 ≤ k) : incP v k = !decide (x ≤ v.getD ((k : Int) - 1).toNat 0) := by
  unfold incP
  rw [getD_of hx, decide_eq_true (show (k : Int) > 0 by omega), Bool.true_and]
theorem range_cut {p : Nat → Bool} {n k : Nat} (h : (List.range k).all p = true) (hn : n ≤ k) : (List.range n).all p = true := by
  rw [List.all_eq_true] at *
  intro i hi
  exact h i (List.mem_range.2 (Nat.lt_of_lt_of_le (List.mem_range.1 hi) hn))
end Go.Proofs.YtehkiccapbkhnaaGreat
end
section
namespace Go.Proofs
open Go.Shelf
def Tryz.lays189_ren : Go.Shelf.Ren := ⟨fun | 189 => 47 | 125 => 81 | 257 => 80 | 128 => 118 | 129 => 119 | 294 => 110 | 295 => 111 | 296 => 112 | 297 => 113 | 298 => 114 | 299 => 115 | 216 => 76 | 300 => 116 | 301 => 117 | 328 => 137 | 329 => 138 | 330 => 139 | 331 => 140 | 332 => 141 | 215 => 109 | 343 => 149 | n => n, fun | 28 => 23 | 3 => 3 | 46 => 116 | 0 => 0 | 51 => 160 | 53 => 162 | 4 => 4 | 183 => 155 | 182 => 154 | 131 => 75 | 5 => 5 | 9 => 9 | 218 => 184 | 222 => 178 | 228 => 192 | 229 => 175 | n => n, fun | n => n⟩
theorem Tryz.lays189 : Go.Proofs.Lays.n189 Tryz.prog Tryz.lays189_ren := {
  mixed := by kernel_rfl
  f125 := Tryz.func81.trans (congrArg some (by kernel_rfl))
  f128 := Tryz.func118.trans (congrArg some (by kernel_rfl))
  f129 := Tryz.func119.trans (congrArg some (by kernel_rfl))
  f189 := Tryz.func47.trans (congrArg some (by kernel_rfl))
  f215 := Tryz.func109.trans (congrArg some (by kernel_rfl))
  f216 := Tryz.func76.trans (congrArg some (by kernel_rfl))
  f257 := Tryz.func80.trans (congrArg some (by kernel_rfl))
  f294 := Tryz.func110.trans (congrArg some (by kernel_rfl))
  f295 := Tryz.func111.trans (congrArg some (by kernel_rfl))
  f296 := Tryz.func112.trans (congrArg some (by kernel_rfl))
  f297 := Tryz.func113.trans (congrArg some (by kernel_rfl))
  f298 := Tryz.func114.trans (congrArg some (by kernel_rfl))
  f299 := Tryz.func115.trans (congrArg some (by kernel_rfl))
  f300 := Tryz.func116.trans (congrArg some (by kernel_rfl))
  f301 := Tryz.func117.trans (congrArg some (by kernel_rfl))
  f328 := Tryz.func137.trans (congrArg some (by kernel_rfl))
  f329 := Tryz.func138.trans (congrArg some (by kernel_rfl))
  f330 := Tryz.func139.trans (congrArg some (by kernel_rfl))
  f331 := Tryz.func140.trans (congrArg some (by kernel_rfl))
  f332 := Tryz.func141.trans (congrArg some (by kernel_rfl))
  f343 := Tryz.func149.trans (congrArg some (by kernel_rfl))
  t0 := Tryz.underlying0
  a0 := Tryz.isAgg0
  z0 := Tryz.sizeOf0
  v0 := Tryz.zeroValue0
  t3 := Tryz.underlying3
  a3 := Tryz.isAgg3
  z3 := Tryz.sizeOf3
  v3 := Tryz.zeroValue3
  t4 := Tryz.underlying4
  a4 := Tryz.isAgg4
  z4 := Tryz.sizeOf4
  v4 := Tryz.zeroValue4
  t5 := Tryz.underlying5
  a5 := Tryz.isAgg5
  z5 := Tryz.sizeOf5
  v5 := Tryz.zeroValue5
  t9 := Tryz.underlying9
  a9 := Tryz.isAgg9
  z9 := Tryz.sizeOf9
  v9 := Tryz.zeroValue9
  t28 := Tryz.underlying23
  a28 := Tryz.isAgg23
  z28 := Tryz.sizeOf23
  v28 := Tryz.zeroValue23
  t46 := Tryz.underlying116
  a46 := Tryz.isAgg116
  z46 := Tryz.sizeOf116
  v46 := Tryz.zeroValue116
  t51 := Tryz.underlying160
  a51 := Tryz.isAgg160
  z51 := Tryz.sizeOf160
  v51 := Tryz.zeroValue160
  t53 := Tryz.underlying162
  a53 := Tryz.isAgg162
  z53 := Tryz.sizeOf162
  v53 := Tryz.zeroValue162
  t131 := Tryz.underlying75
  a131 := Tryz.isAgg75
  z131 := Tryz.sizeOf75
  v131 := Tryz.zeroValue75
  t182 := Tryz.underlying154
  a182 := Tryz.isAgg154
  z182 := Tryz.sizeOf154
  v182 := Tryz.zeroValue154
  t183 := Tryz.underlying155
  a183 := Tryz.isAgg155
  z183 := Tryz.sizeOf155
  v183 := Tryz.zeroValue155
  t218 := Tryz.underlying184
  a218 := Tryz.isAgg184
  z218 := Tryz.sizeOf184
  v218 := Tryz.zeroValue184
  t222 := Tryz.underlying178
  a222 := Tryz.isAgg178
  z222 := Tryz.sizeOf178
  v222 := Tryz.zeroValue178
  t228 := Tryz.underlying192
  a228 := Tryz.isAgg192
  z228 := Tryz.sizeOf192
  v228 := Tryz.zeroValue192
  t229 := Tryz.underlying175
  a229 := Tryz.isAgg175
  z229 := Tryz.sizeOf175
  v229 := Tryz.zeroValue175 }
open Go.Sort Go.RowKit in
theorem Tryz.slices_Sort_int (blk off cap : Nat) (zs : List Int) (w : World) (hH : Holds (Value.int .i64) w blk off zs.toArray) (hblk : blk < w.heap.size) (hsz : zs.length < 4611686018427387904) :
    Calls Tryz.prog 47 #[.slice (some ⟨blk, off, none⟩) zs.length cap] w fun e w' =>
      e = .returned (.tuple #[]) ∧ ∃ n os, w' = grow (putRow (Value.int .i64) (Sort.ahead w n) blk off (zs.mergeSort fun x y => decide (x ≤ y)).toArray) os := Any.slices_Sort_int Tryz.lays189 blk off cap zs w hH hblk hsz
def Tryz.laysNm220_ren : Go.Shelf.Ren := ⟨fun | 20 => 134 | n => n, fun | 22 => 23 | 3 => 3 | 4 => 4 | 0 => 0 | n => n, fun | n => n⟩
theorem Tryz.laysNm220 : Go.Proofs.Lays2.n20 Tryz.prog Tryz.laysNm220_ren := {
  mixed := by kernel_rfl
  f20 := Tryz.func134.trans (congrArg some (by kernel_rfl))
  t0 := Tryz.underlying0
  a0 := Tryz.isAgg0
  z0 := Tryz.sizeOf0
  v0 := Tryz.zeroValue0
  t3 := Tryz.underlying3
  a3 := Tryz.isAgg3
  z3 := Tryz.sizeOf3
  v3 := Tryz.zeroValue3
  t4 := Tryz.underlying4
  a4 := Tryz.isAgg4
  z4 := Tryz.sizeOf4
  v4 := Tryz.zeroValue4
  t22 := Tryz.underlying23
  a22 := Tryz.isAgg23
  z22 := Tryz.sizeOf23
  v22 := Tryz.zeroValue23
  i3 := by kernel_rfl }
open Go.RowKit Go.Lib Go.Sort in
theorem Tryz.slices_Compact_int (blk off cap : Nat) (zs : List Int) (w : World) (hH : Holds (Value.int .i64) w blk off zs.toArray) (hsz : zs.length ≤ 9223372036854775807) (hcap : zs.length ≤ cap) :
    Calls Tryz.prog 134 #[.slice (some ⟨blk, off, none⟩) zs.length cap] w fun e w' => e = .returned (.slice (some ⟨blk, off, none⟩) (Lib.compact zs).length cap) ∧ ∃ q, w' = putRow (Value.int .i64) (Sort.ahead w q) blk off (Lib.compact zs ++ List.replicate (zs.length - (Lib.compact zs).length) 0).toArray := Any.slices_Compact_int Tryz.laysNm220 blk off cap zs w hH hsz hcap
open Go.RowKit Go.Lib Go.Sort in
theorem Tryz.slices_Compact_int_empty (a : Option Addr) (cap : Nat) (w : World) :
    Calls Tryz.prog 134 #[.slice a 0 cap] w fun e w' => e = .returned (.slice a 0 cap) ∧ w' = w := Any.slices_Compact_int_empty Tryz.laysNm220 a cap w
open Go.RowKit Go.Sort in
theorem Tryz.slices_Sort_int_none (p : Option Addr) (cap : Nat) (w : World) :
    Calls Tryz.prog 47 #[.slice p 0 cap] w fun e w' => e = .returned (.tuple #[]) ∧ w' = w := Any.slices_Sort_int_none Tryz.lays189 p cap w
def Tryz.laysSlE035_f44_ren : Go.Shelf.Ren := ⟨fun | 35 => 44 | n => n, fun | 22 => 22 | 23 => 65 | 3 => 3 | 4 => 4 | 0 => 0 | n => n, fun | n => n⟩
theorem Tryz.laysSlE035_f44 : Go.Proofs.SlLaysE0.n35 Tryz.prog Tryz.laysSlE035_f44_ren := {
  mixed := by kernel_rfl
  f35 := ⟨Tryz.f44.name, by decide, Tryz.func44.trans (congrArg some (by kernel_rfl))⟩
  t0 := Tryz.underlying0
  a0 := Tryz.isAgg0
  z0 := Tryz.sizeOf0
  v0 := Tryz.zeroValue0
  t3 := Tryz.underlying3
  a3 := Tryz.isAgg3
  z3 := Tryz.sizeOf3
  v3 := Tryz.zeroValue3
  t4 := Tryz.underlying4
  a4 := Tryz.isAgg4
  z4 := Tryz.sizeOf4
  v4 := Tryz.zeroValue4
  t22 := Tryz.underlying22
  a22 := Tryz.isAgg22
  z22 := Tryz.sizeOf22
  v22 := Tryz.zeroValue22 }
open Go.RowKit Go.Lib Go.Sort in
theorem Tryz.slices_Reverse {α : Type} [Inhabited α] (k : Nat) (aE : ∀ w, (isAgg (Tryz.laysSlE035_f44_ren.t 23)).run Tryz.prog w = .ok true w) (zE : ∀ w, (Go.sizeOf (Tryz.laysSlE035_f44_ren.t 23)).run Tryz.prog w = .ok k w) (enc : α → List Value) (hk : ∀ x, (enc x).length = k) (h1 : ∀ x, ∀ v ∈ enc x, v.oneCell' = true) (blk off cap : Nat) (d : Array α) (w : World) (hH : HoldsK enc k w blk off d) (hsz : d.size ≤ 9223372036854775807) :
    Calls Tryz.prog 44 #[.slice (some ⟨blk, off, none⟩) d.size cap] w fun e w' => e = .returned (.tuple #[]) ∧ ∃ n, w' = putRowK enc k (Sort.ahead w n) blk off d.reverse := AnyQ.slices_Reverse Tryz.laysSlE035_f44 k aE zE enc hk h1 blk off cap d w hH hsz
open Go.RowKit Go.Lib Go.Sort in
theorem Tryz.slices_Reverse_empty {α : Type} [Inhabited α] (a : Option Addr) (cap : Nat) (w : World) :
    Calls Tryz.prog 44 #[.slice a 0 cap] w fun e w' => e = .returned (.tuple #[]) ∧ w' = w := AnyQ.slices_Reverse_empty Tryz.laysSlE035_f44 a cap w
def Tryz.laysSlF06_f127_ren : Go.Shelf.Ren := ⟨fun | 6 => 127 | 15 => 81 | 14 => 146 | 28 => 118 | 29 => 119 | 20 => 151 | 21 => 152 | 22 => 153 | 23 => 154 | 24 => 155 | 25 => 156 | 26 => 157 | 27 => 158 | 46 => 162 | 47 => 138 | 48 => 139 | 49 => 163 | 50 => 164 | 57 => 167 | n => n, fun | 22 => 88 | 24 => 91 | 25 => 139 | 3 => 3 | 39 => 116 | 0 => 0 | 53 => 160 | 55 => 162 | 4 => 4 | 46 => 155 | 45 => 154 | 50 => 75 | 5 => 5 | 9 => 9 | 66 => 184 | 70 => 178 | 76 => 192 | 77 => 175 | n => n, fun | n => n⟩
theorem Tryz.laysSlF06_f127 : Go.Proofs.SlLaysF0.n6 Tryz.prog Tryz.laysSlF06_f127_ren := {
  mixed := by kernel_rfl
  f6 := ⟨Tryz.f127.name, by decide, Tryz.func127.trans (congrArg some (by kernel_rfl))⟩
  f14 := ⟨Tryz.f146.name, by decide, Tryz.func146.trans (congrArg some (by kernel_rfl))⟩
  f15 := Tryz.func81.trans (congrArg some (by kernel_rfl))
  f20 := ⟨Tryz.f151.name, by decide, Tryz.func151.trans (congrArg some (by kernel_rfl))⟩
  f21 := ⟨Tryz.f152.name, by decide, Tryz.func152.trans (congrArg some (by kernel_rfl))⟩
  f22 := ⟨Tryz.f153.name, by decide, Tryz.func153.trans (congrArg some (by kernel_rfl))⟩
  f23 := ⟨Tryz.f154.name, by decide, Tryz.func154.trans (congrArg some (by kernel_rfl))⟩
  f24 := ⟨Tryz.f155.name, by decide, Tryz.func155.trans (congrArg some (by kernel_rfl))⟩
  f25 := ⟨Tryz.f156.name, by decide, Tryz.func156.trans (congrArg some (by kernel_rfl))⟩
  f26 := ⟨Tryz.f157.name, by decide, Tryz.func157.trans (congrArg some (by kernel_rfl))⟩
  f27 := ⟨Tryz.f158.name, by decide, Tryz.func158.trans (congrArg some (by kernel_rfl))⟩
  f28 := Tryz.func118.trans (congrArg some (by kernel_rfl))
  f29 := Tryz.func119.trans (congrArg some (by kernel_rfl))
  f46 := ⟨Tryz.f162.name, by decide, Tryz.func162.trans (congrArg some (by kernel_rfl))⟩
  f47 := Tryz.func138.trans (congrArg some (by kernel_rfl))
  f48 := Tryz.func139.trans (congrArg some (by kernel_rfl))
  f49 := ⟨Tryz.f163.name, by decide, Tryz.func163.trans (congrArg some (by kernel_rfl))⟩
  f50 := ⟨Tryz.f164.name, by decide, Tryz.func164.trans (congrArg some (by kernel_rfl))⟩
  f57 := ⟨Tryz.f167.name, by decide, Tryz.func167.trans (congrArg some (by kernel_rfl))⟩
  t0 := Tryz.underlying0
  a0 := Tryz.isAgg0
  z0 := Tryz.sizeOf0
  v0 := Tryz.zeroValue0
  t3 := Tryz.underlying3
  a3 := Tryz.isAgg3
  z3 := Tryz.sizeOf3
  v3 := Tryz.zeroValue3
  t4 := Tryz.underlying4
  a4 := Tryz.isAgg4
  z4 := Tryz.sizeOf4
  v4 := Tryz.zeroValue4
  t5 := Tryz.underlying5
  a5 := Tryz.isAgg5
  z5 := Tryz.sizeOf5
  v5 := Tryz.zeroValue5
  t9 := Tryz.underlying9
  a9 := Tryz.isAgg9
  z9 := Tryz.sizeOf9
  v9 := Tryz.zeroValue9
  t22 := Tryz.underlying88
  a22 := Tryz.isAgg88
  z22 := Tryz.sizeOf88
  v22 := Tryz.zeroValue88
  t25 := Tryz.underlying139
  a25 := Tryz.isAgg139
  z25 := Tryz.sizeOf139
  v25 := Tryz.zeroValue139
  t39 := Tryz.underlying116
  a39 := Tryz.isAgg116
  z39 := Tryz.sizeOf116
  v39 := Tryz.zeroValue116
  t45 := Tryz.underlying154
  a45 := Tryz.isAgg154
  z45 := Tryz.sizeOf154
  v45 := Tryz.zeroValue154
  t46 := Tryz.underlying155
  a46 := Tryz.isAgg155
  z46 := Tryz.sizeOf155
  v46 := Tryz.zeroValue155
  t50 := Tryz.underlying75
  a50 := Tryz.isAgg75
  z50 := Tryz.sizeOf75
  v50 := Tryz.zeroValue75
  t53 := Tryz.underlying160
  a53 := Tryz.isAgg160
  z53 := Tryz.sizeOf160
  v53 := Tryz.zeroValue160
  t55 := Tryz.underlying162
  a55 := Tryz.isAgg162
  z55 := Tryz.sizeOf162
  v55 := Tryz.zeroValue162
  t66 := Tryz.underlying184
  a66 := Tryz.isAgg184
  z66 := Tryz.sizeOf184
  v66 := Tryz.zeroValue184
  t70 := Tryz.underlying178
  a70 := Tryz.isAgg178
  z70 := Tryz.sizeOf178
  v70 := Tryz.zeroValue178
  t76 := Tryz.underlying192
  a76 := Tryz.isAgg192
  z76 := Tryz.sizeOf192
  v76 := Tryz.zeroValue192
  t77 := Tryz.underlying175
  a77 := Tryz.isAgg175
  z77 := Tryz.sizeOf175
  v77 := Tryz.zeroValue175 }
open Go.RowKit Go.Lib Go.Sort in
theorem Tryz.slices_SortFunc {α : Type} [Inhabited α] (k : Nat) (aE : ∀ w, (isAgg (Tryz.laysSlF06_f127_ren.t 24)).run Tryz.prog w = .ok true w) (zE : ∀ w, (Go.sizeOf (Tryz.laysSlF06_f127_ren.t 24)).run Tryz.prog w = .ok k w) (enc : α → List Value) (hk : ∀ x, (enc x).length = k) (h1 : ∀ x, ∀ v ∈ enc x, v.oneCell' = true) (cf : α → α → Int) (hO : SWO (ltOf cf)) (g : Nat) (cb : Array Value) (blk off cap : Nat) (d : Array α) (w : World) (eg : ∀ args w, (callFunc g args).run Tryz.prog w = .ok (.enter g args) w) (hcmp : CmpLays Tryz.prog g cb enc k cf blk off d.size w) (hH : HoldsK enc k w blk off d) (hblk : blk < w.heap.size) (hsz : d.size < 4611686018427387904) :
    Calls Tryz.prog 127 #[.slice (some ⟨blk, off, none⟩) d.size cap, .func (.func g) #[] cb] w fun e w' =>
      e = .returned (.tuple #[]) ∧ ∃ d' n os, PermIn 0 d.size d d' ∧ SortedIn (ltOf cf) 0 d.size d' ∧ w' = sortWorldK enc k w blk off n d' os := AnyQ.slices_SortFunc Tryz.laysSlF06_f127 k aE zE enc hk h1 cf hO g cb blk off cap d w eg hcmp hH hblk hsz
open Go.RowKit Go.Lib Go.Sort in
theorem Tryz.slices_SortFunc_none {α : Type} [Inhabited α] (p : Option Addr) (cap : Nat) (fv : Value) (w : World) :
    Calls Tryz.prog 127 #[.slice p 0 cap, fv] w fun e w' => e = .returned (.tuple #[]) ∧ w' = w := AnyF.slices_SortFunc_none Tryz.laysSlF06_f127 p cap fv w
end Go.Proofs
end
section
namespace Go.Proofs.YtehkiccapbkhnaaGreat
open Go Go.Kn Go.Proofs
theorem w_sort (e : Nat) (zs : List Int) {v : Value} {n : Nat} {L : Go.Kn.Loc} (hO : OwnS e 1 v n (zs.map (Value.int .i64)) L) (hn : n ≤ 1000000) (I : HMap) :
  RetM Tryz.prog 47 [v] I L (fun u I' L' => u = .tuple #[] ∧ I' = I ∧ OwnS e 1 v n ((sortI zs).map (Value.int .i64)) L') :=
 retSort Tryz.slices_Sort_int Tryz.slices_Sort_int_none zs hO hn I
theorem w_compact (e : Nat) (zs : List Int) {v : Value} {n : Nat} {L : Go.Kn.Loc} (hO : OwnS e 1 v n (zs.map (Value.int .i64)) L) (hn : n ≤ 1000000) (I : HMap) :
  RetM Tryz.prog 134 [v] I L (fun u I' L' => I' = I ∧ OwnS e 1 u (Lib.compact zs).length ((Lib.compact zs).map (Value.int .i64)) L') :=
 retCompact Lib.compact Lib.compact_length_le rfl Tryz.slices_Compact_int Tryz.slices_Compact_int_empty zs hO hn I
theorem w_nan2 (I : HMap) (x : Int) : RetV Tryz.prog 77 [.int .i64 x] I (.bool false) := by
 intro g H w hw
 refine enter Tryz.func77 rfl Tryz.ntmps77 rfl hw ?_
 refine zR ?_
 refine zA ?_
 refine zN (zR ?_)
 refine zM ?_
 refine zM ?_
 refine zC ?_
 refine zA ?_
 refine zN ?_
 refine X_ret ?_
 exact at_ret1 rfl rfl (fun w hw => ⟨by simp, hw.drop⟩)
theorem w_less (I : HMap) (x y : Int) : RetV Tryz.prog 76 [.int .i64 x, .int .i64 y] I (.bool (decide (x < y))) := by
 intro g H w hw
 refine enter Tryz.func76 rfl Tryz.ntmps76 rfl hw ?_
 refine zR ?_
 refine zA ?_
 refine zN (zR ?_)
 refine zM ?_
 refine XO_callV0 (cap := []) (vs := [_]) rfl rfl fun_109 (w_nan I _) rfl rfl ?_
 refine zM ?_
 refine XO_pushT 2 rfl rfl rfl ?_
 refine XO_v1 (ev_move rfl) (.some rfl rfl rfl rfl gbt) rfl rfl rfl ?_
 refine XO_callV1 (cap := []) (vs := [_]) rfl rfl fun_109 (fun hg => w_nan I _) (.some rfl rfl rfl rfl gbt) rfl rfl ?_
 refine XO_v1 (ev_not rfl) (.some rfl rfl rfl rfl gbt) rfl rfl rfl ?_
 refine XO_and0 rfl rfl rfl rfl rfl ?_
 refine zM ?_
 refine XO_pushF 7 rfl rfl rfl ?_
 refine XO_v1 (ev_move rfl) (.some rfl rfl rfl rfl gbf) rfl rfl rfl ?_
 refine XO_v1 (ev_move rfl) (.some rfl rfl rfl rfl gbf) rfl rfl rfl ?_
 refine XO_v1 (ev_cmp rfl rfl rfl) (.some rfl rfl rfl rfl gbf) rfl rfl rfl ?_
 refine XO_or0 rfl rfl rfl rfl rfl ?_
 refine zA ?_
 refine zN ?_
 refine X_ret ?_
 exact at_ret1 rfl rfl (fun w hw => ⟨by first | rfl | (simp), hw.drop⟩)
theorem w_bsI {I : HMap} {av : Option Addr} {n c : Nat} {xs : List Int} (hS : Sl I 1 encI av n c xs) (hn : n ≤ 100000) (hs : xs.Pairwise (· < ·)) (t : Int) : RetV Tryz.prog 43 [.slice av n c, .int .i64 t] I (.tuple #[.int .i64 (lowK (fun x : Int => x) xs t : Nat), .bool (xs.any fun x => x == t)]) := by
 intro g H w hw
 refine enter Tryz.func43 rfl Tryz.ntmps43 rfl hw ?_
 refine zR ?_
 refine zA ?_
 refine zA ?_
 refine zN (zR ?_)
 refine zM ?_
 refine XO_v0 (ev_lenS rfl slt_23) rfl rfl rfl ?_
 refine zA ?_
 refine zN (zR ?_)
 refine zM ?_
 refine zA ?_
 refine zA ?_
 refine zN ?_
 refine X_seq ?_
 refine X_block ?_
 refine X_loopT [(0, _), (1, _), (6, _)] (.cons rfl (.cons rfl (.cons rfl .nil))) (fun T L0 mz E I' loc' => ∃ (i j : Nat), mz = j - i ∧ E = (7, .int .i64 i) :: (8, .int .i64 j) :: T ∧ I = I' ∧ L0 = loc' ∧ i ≤ j ∧ j ≤ n ∧ (∀ q z, q < i → xs[q]? = some z → z < t) ∧ ∀ q z, j ≤ q → xs[q]? = some z → ¬ z < t) _ _ _ _ ⟨0, n, rfl, rfl, rfl, rfl, Nat.zero_le _, Nat.le_refl _, fun q z h => absurd h (by omega), fun q z h1 h2 => by have := (List.getElem?_eq_some_iff.1 h2).1; rw [hS.len] at this; omega⟩ (.cons rfl (.cons rfl (.cons rfl (.cons rfl (.cons rfl .nil))))) (HLe.refl _) rfl ?_
 rintro mz E I' loc' ⟨i, j, rfl, rfl, rfl, rfl, hij, hjn, hlo, hhi⟩
 refine X_seq ?_
 refine zR ?_
 refine zM ?_
 refine zM ?_
 refine zC ?_
 refine zN ?_
 refine X_cond rfl (fun hc15 => ?_) (fun hc15 => ?_)
 ·
  have hlt : i < j := by have h := hc15; simp at h; omega
  obtain ⟨y, hy⟩ := hS.at (k := (i + j) / 2) (by omega)
  refine X_skip ?_
  refine at_then ?_
  refine X_block ?_
  refine zR ?_
  refine zM ?_
  refine zM ?_
  refine XO_v0 (ev_arB rfl rfl rfl (fun _ => by omega)) rfl rfl rfl ?_
  refine XO_v0 (ev_convI rfl cvt_3_116) rfl rfl rfl ?_
  refine XO_v0 (ev_shr rfl rfl (by decide) (rfl : min _ _ = 1)) rfl rfl rfl ?_
  refine XO_v0 (ev_convI rfl cvt_116_3) rfl rfl rfl ?_
  refine zA ?_
  refine XO_nil ?_
  rw [half_eq i j (by omega)]
  refine at_then ?_
  refine zR ?_
  refine zM ?_
  refine zM ?_
  refine XO_v0 (ev_indexSl rfl rfl slt_23 (by assumption) (fun hg => by first | omega | (simp [conj] at hg; omega))) rfl rfl rfl ?_
  refine XO_v0 (ev_load rfl sct_3 (fun hg => by first | exact Sl.get0 (k := (i + j) / 2) hS hy rfl | exact Sl.getD0 (k := i) (d := 0) hS (by simp [conj] at hg; omega) rfl | exact Sl.getD0 (k := j) (d := 0) hS (by simp [conj] at hg; omega) rfl | (repeat (first | exact Cell.here rfl | apply Cell.there | apply Cell.app)))) rfl rfl rfl ?_
  refine zM ?_
  refine XO_callV0 (cap := []) (vs := [_, _]) rfl rfl fun_76 (w_less I _ _) rfl rfl ?_
  refine zN ?_
  refine X_cond rfl (fun hc27 => ?_) (fun hc27 => ?_)
  ·
   refine X_region ?_
   refine zM ?_
   refine XO_v0 (ev_arB rfl rfl rfl (fun _ => by omega)) rfl rfl rfl ?_
   refine zA ?_
   refine XO_nil ?_
   refine at_block_n ?_
   exact at_met2 _ _ ⟨j - ((i + j) / 2 + 1), by omega, (i + j) / 2 + 1, j, rfl, rfl, rfl, rfl, by omega, hjn, bs_lo (key := fun x : Int => x) hs hy (by simpa using hc27), hhi⟩ (.cons rfl (.cons rfl (.cons rfl (.cons rfl (.cons rfl .nil))))) (by repeat (first | exact .refl | exact subL_left | refine subL_app ?_ | refine .drop ?_ | refine subL_add ?_))
  refine X_region ?_
  refine zM ?_
  refine zA ?_
  refine XO_nil ?_
  refine at_block_n ?_
  exact at_met2 _ _ ⟨(i + j) / 2 - i, by omega, i, (i + j) / 2, rfl, rfl, rfl, rfl, by omega, by omega, hlo, bs_hi (key := fun x : Int => x) hs hy (by simpa using hc27)⟩ (.cons rfl (.cons rfl (.cons rfl (.cons rfl (.cons rfl .nil))))) (by repeat (first | exact .refl | exact subL_left | refine subL_app ?_ | refine .drop ?_ | refine subL_add ?_))
 have hge : j ≤ i := by have h := hc15; simp at h; omega
 have hje : j = i := by omega
 subst hje
 refine X_exit ?_
 refine at_then_e ?_
 refine at_then_e ?_
 refine at_block_hit ?_
 refine at_then ?_
 refine zR ?_
 refine zM ?_
 refine zM ?_
 refine zM ?_
 refine zC ?_
 refine zM ?_
 refine XO_pushT 4 rfl rfl rfl ?_
 refine XO_v1 (ev_move rfl) (.some rfl rfl rfl rfl gbt) rfl rfl rfl ?_
 refine XO_v1 (ev_move rfl) (.some rfl rfl rfl rfl gbt) rfl rfl rfl ?_
 refine XO_v1 (ev_indexSl rfl rfl slt_23 (by assumption) (fun hg => by first | omega | (simp [conj] at hg; omega))) (.some rfl rfl rfl rfl gbt) rfl rfl rfl ?_
 refine XO_v1 (ev_load rfl sct_3 (fun hg => by first | exact Sl.get0 (k := (i + j) / 2) hS hy rfl | exact Sl.getD0 (k := i) (d := 0) hS (by simp [conj] at hg; omega) rfl | exact Sl.getD0 (k := j) (d := 0) hS (by simp [conj] at hg; omega) rfl | (repeat (first | exact Cell.here rfl | apply Cell.there | apply Cell.app)))) (.some rfl rfl rfl rfl gbt) rfl rfl rfl ?_
 refine XO_v1 (ev_move rfl) (.some rfl rfl rfl rfl gbt) rfl rfl rfl ?_
 refine XO_v1 (ev_cmp rfl rfl rfl) (.some rfl rfl rfl rfl gbt) rfl rfl rfl ?_
 refine XO_v1 (ev_move rfl) (.some rfl rfl rfl rfl gbt) rfl rfl rfl ?_
 refine XO_pushF 11 rfl rfl rfl ?_
 refine XO_v1 (ev_move rfl) (.some rfl rfl rfl rfl gbf) rfl rfl rfl ?_
 refine XO_v1 (ev_move rfl) (.some rfl rfl rfl rfl gbf) rfl rfl rfl ?_
 refine XO_v1 (ev_indexSl rfl rfl slt_23 (by assumption) (fun hg => by first | omega | (simp [conj] at hg; omega))) (.some rfl rfl rfl rfl gbf) rfl rfl rfl ?_
 refine XO_v1 (ev_load rfl sct_3 (fun hg => by first | exact Sl.get0 (k := (i + j) / 2) hS hy rfl | exact Sl.getD0 (k := i) (d := 0) hS (by simp [conj] at hg; omega) rfl | exact Sl.getD0 (k := j) (d := 0) hS (by simp [conj] at hg; omega) rfl | (repeat (first | exact Cell.here rfl | apply Cell.there | apply Cell.app)))) (.some rfl rfl rfl rfl gbf) rfl rfl rfl ?_
 refine XO_callV1 (cap := []) (vs := [_]) rfl rfl fun_77 (fun hg => w_nan2 I _) (.some rfl rfl rfl rfl gbf) rfl rfl ?_
 refine XO_v1 (ev_move rfl) (.some rfl rfl rfl rfl gbf) rfl rfl rfl ?_
 refine XO_pushT 17 rfl rfl rfl ?_
 refine XO_v1 (ev_move rfl) (.some rfl rfl rfl rfl gbt) rfl rfl rfl ?_
 refine XO_callV1 (cap := []) (vs := [_]) rfl rfl fun_77 (fun hg => w_nan2 I _) (.some rfl rfl rfl rfl gbt) rfl rfl ?_
 refine XO_and1 rfl rfl rfl (.some rfl rfl rfl rfl gbf) rfl rfl ?_
 refine XO_or1 rfl rfl rfl (.some rfl rfl rfl rfl gbt) rfl rfl ?_
 refine XO_and0 rfl rfl rfl rfl rfl ?_
 refine zA ?_
 refine zA ?_
 refine zN ?_
 refine X_ret ?_
 exact at_ret2 rfl rfl rfl (fun w hw => ⟨by rw [← found_at (key := fun x : Int => x) (d := 0) hS.len hlo hhi hs, low_at (key := fun x : Int => x) (by rw [hS.len]; omega) hlo hhi]; simp, hw.drop⟩)
theorem w_incr {I : HMap} {av : Option Addr} {n c : Nat} {xs : List Int} (hS : Sl I 1 encI av n c xs) (hn : n ≤ 100000) : RetV Tryz.prog 105 [.slice av n c] I (.bool (incB xs)) := by
 intro g H w hw
 refine enter Tryz.func105 rfl Tryz.ntmps105 rfl hw ?_
 refine zR ?_
 refine zA ?_
 refine zN ?_
 refine X_seq ?_
 refine zR ?_
 refine zA ?_
 refine zN ?_
 refine X_block ?_
 refine X_loopT [(0, _)] (.cons rfl .nil) (fun T L0 mz E I' loc' => ∃ (k : Nat), mz = (max n 1) - k ∧ E = (3, .int .i64 k) :: T ∧ I = I' ∧ L0 = loc' ∧ k ≤ (max n 1) ∧ 1 ≤ k ∧ (List.range k).all (incP xs) = true) _ _ _ _ ⟨1, rfl, rfl, rfl, rfl, by omega, Nat.le_refl _, incP_zero xs⟩ (.cons rfl (.cons rfl .nil)) (HLe.refl _) rfl ?_
 rintro mz E I' loc' ⟨k, rfl, rfl, rfl, rfl, hk, h1, hall⟩
 refine X_seq ?_
 refine zR ?_
 refine zM ?_
 refine zM ?_
 refine XO_v0 (ev_lenS rfl slt_23) rfl rfl rfl ?_
 refine zC ?_
 refine zN ?_
 refine X_cond rfl (fun hc7 => ?_) (fun hc7 => ?_)
 ·
  have hlt_k : k < n := by have h := hc7; simp at h; omega
  obtain ⟨x, hx⟩ := hS.at hlt_k
  refine X_skip ?_
  refine at_then ?_
  refine X_seq ?_
  refine X_block ?_
  refine X_seq ?_
  refine X_draw mixed (by kernel_rfl) ?_
  refine XQ_v0 (ev_move rfl) rfl rfl rfl ?_
  refine XQ_v0 (ev_move rfl) rfl rfl rfl ?_
  refine XQ_v0 (ev_indexSl rfl rfl slt_23 (by assumption) (fun hg => by first | omega | (simp [conj] at hg; omega))) rfl rfl rfl ?_
  refine XQ_v0 (ev_load rfl sct_3 (fun hg => by first | exact Sl.get0 (k := k) hS hx rfl | exact Sl.getD0 (k := ((k : Int) - 1).toNat) (d := 0) hS (by omega) rfl | (repeat (first | exact Cell.here rfl | apply Cell.there | apply Cell.app)))) rfl rfl rfl ?_
  refine XQ_v0 (ev_move rfl) rfl rfl rfl ?_
  refine XQ_v0 (ev_move rfl) rfl rfl rfl ?_
  refine XQ_v0 (ev_arB rfl rfl rfl (fun _ => by omega)) rfl rfl rfl ?_
  refine XQ_v0 (ev_indexSl rfl rfl slt_23 (by assumption) (fun hg => by first | omega | (simp [conj] at hg; omega))) rfl rfl rfl ?_
  refine XQ_v0 (ev_load rfl sct_3 (fun hg => by first | exact Sl.get0 (k := k) hS hx rfl | exact Sl.getD0 (k := ((k : Int) - 1).toNat) (d := 0) hS (by omega) rfl | (repeat (first | exact Cell.here rfl | apply Cell.there | apply Cell.app)))) rfl rfl rfl ?_
  refine XQ_v0 (ev_cmp rfl rfl rfl) rfl rfl rfl ?_
  refine XQ_nil ?_
  refine at_then ?_
  refine X_cond rfl (fun hc19 => ?_) (fun hc19 => ?_)
  ·
   refine zR ?_
   refine zA ?_
   refine zN ?_
   refine X_ret ?_
   refine at_block_r ?_
   refine at_then_r ?_
   refine at_then_r ?_
   refine at_block_r ?_
   refine at_then_r ?_
   first
   | exact at_ret1 rfl rfl (fun w hw => ⟨by rw [incB_eq, range_bad (k := k) (by rw [hS.len]; exact hlt_k) (by rw [incP_at hx h1, hc19]; rfl)], hw.drop⟩)
  refine X_skip ?_
  refine at_block_n ?_
  refine at_then ?_
  refine X_region ?_
  refine zM ?_
  refine XO_v0 (ev_arB rfl rfl rfl (fun _ => by omega)) rfl rfl rfl ?_
  refine zA ?_
  refine XO_nil ?_
  exact at_met2 _ _ ⟨(max n 1) - (k + 1), by omega, k + 1, rfl, rfl, rfl, rfl, by omega, by omega, range_step hall (by rw [incP_at hx h1, hc19]; rfl)⟩ (.cons rfl (.cons rfl .nil)) (by repeat (first | exact .refl | exact subL_left | refine subL_app ?_ | refine .drop ?_ | refine subL_add ?_))
 have hge_k : n ≤ k := by have h := hc7; simp at h; omega
 refine X_exit ?_
 refine at_then_e ?_
 refine at_then_e ?_
 refine at_block_hit ?_
 refine at_then ?_
 refine zR ?_
 refine zA ?_
 refine zN ?_
 refine X_ret ?_
 exact at_ret1 rfl rfl (fun w hw => ⟨by rw [incB_eq, hS.len, range_cut hall (show n ≤ k from hge_k)], hw.drop⟩)
theorem w_cloneI {I : HMap} {av : Option Addr} {n c : Nat} {xs : List Int} (hS : Sl I 1 encI av n c xs) (hn : n ≤ 400000) : RetM Tryz.prog 97 [.slice av n c] I [] (fun v I' L => I' = I ∧ OwnS 3 1 v n (xs.flatMap encI) L) := by
 intro g H w hw
 refine enter Tryz.func97 rfl Tryz.ntmps97 rfl hw ?_
 refine zR ?_
 refine zA ?_
 refine zN ?_
 refine X_seq ?_
 refine zR ?_
 refine zM ?_
 refine XO_v0 (ev_eqNil rfl rfl slt_23) rfl rfl rfl ?_
 refine zN ?_
 refine X_cond rfl (fun hc4 => ?_) (fun hc4 => ?_)
 ·
  have hn0 : n = 0 := Decidable.byContradiction fun h => by have := hS.base h; rw [this] at hc4; cases hc4
  have hl := hS.len
  subst hn0
  have hx0 := List.eq_nil_of_length_eq_zero hl
  subst hx0
  refine zR ?_
  refine zA ?_
  refine zN ?_
  refine X_ret ?_
  refine at_then_r ?_
  exact at_ret1 rfl rfl (fun w hw => ⟨_, I, _, rfl, HLe.refl _, hw, rfl, OwnS.nil⟩)
 refine X_skip ?_
 refine at_then ?_
 refine zR ?_
 refine XO_buildSlice (ps := []) (m := []) elt_23 rfl (.nil) rfl (by simp) (by decide) (by decide) rfl rfl (fun b_5 => ?_)
 refine zM ?_
 refine XO_append (v := _) (ys := xs.flatMap encI) (L := [(b_5, _)]) rfl rfl elt_23 OwnS.new (by repeat (first | exact .cons .here .nil | exact split_all | exact split_app | apply split_cons | apply split_skip)) (hS.src encI_len) (one_I _) (by omega) rfl rfl ?_
 intro v1 L1 hO1 _; rw [List.nil_append, Nat.zero_add] at hO1
 refine zA ?_
 refine zN ?_
 refine X_ret ?_
 exact at_ret1 rfl rfl (fun w hw => ⟨_, I, _, rfl, HLe.refl _, hw.subL subL_left, rfl, hO1⟩)
theorem w_union {I : HMap} {av : Option Addr} {n c : Nat} {xs : List Int} (hS : Sl I 1 encI av n c xs) (hn : n ≤ 400000) {bv : Option Addr} {n2 c2 : Nat} {ys : List Int} (hT : Sl I 1 encI bv n2 c2 ys) (hn2 : n2 ≤ 100000) : RetM Tryz.prog 106 [.slice av n c, .slice bv n2 c2] I [] (SlRes 1 encI (Lib.compact (sortI (xs ++ ys)))) := by
 intro g H w hw
 refine enter Tryz.func106 rfl Tryz.ntmps106 rfl hw ?_
 have hIc := HLe.refl I
 refine zR ?_
 refine zA ?_
 refine zN (zR ?_)
 refine zM ?_
 refine XO_callM (cap := []) (vs := [_]) rfl rfl fun_97 .nil (w_cloneI hS hn) rfl rfl ?_
 rintro vv1 I1 L1 hI1 ⟨rfl, hO⟩
 have hS := hS.mono hI1; have hT := hT.mono hI1; have hIc := hIc.trans hI1
 refine zM ?_
 refine XO_append (v := _) (ys := ys.flatMap encI) (L := _) rfl rfl elt_23 hO split_app (hT.src encI_len) (one_I _) (by omega) rfl rfl ?_
 intro v2 L2 hO2 _; rw [← List.flatMap_append, flat_int] at hO2
 refine zA ?_
 refine zN (zR ?_)
 refine zM ?_
 refine XO_callM (cap := []) (vs := [_]) rfl rfl fun_47 split_app (w_sort 3 (xs ++ ys) hO2 (by omega) _) rfl rfl ?_
 rintro vv2 I2 L2 hI2 ⟨rfl, rfl, hO3⟩
 have hS := hS.mono hI2; have hT := hT.mono hI2; have hIc := hIc.trans hI2
 refine zN (zR ?_)
 refine zM ?_
 refine XO_callM (cap := []) (vs := [_]) rfl rfl fun_134 split_app (w_compact 3 _ hO3 (by omega) _) rfl rfl ?_
 rintro vv3 I3 L3 hI3 ⟨rfl, hO4⟩
 have hS := hS.mono hI3; have hT := hT.mono hI3; have hIc := hIc.trans hI3
 refine zA ?_
 refine zN ?_
 refine X_ret ?_
 rw [← flat_int] at hO4
 exact at_ret1 rfl rfl (fun w hw => by obtain ⟨I9, h91, h92, h93⟩ := OwnS.res hO4 encI_len (by decide) (hw.subL (by first | exact subL_left | exact .refl)); exact ⟨_, I9, [], rfl, hIc.trans h91, h92, h93⟩)
end Go.Proofs.YtehkiccapbkhnaaGreat
end
section
namespace Go.Proofs.YtehkiccapbkhnaaGreat
open Go Go.Kn Go.Proofs
def refV (b : Nat) : Value := .map (some b)
/-- A set of numbers, each one true. -/
structure SetQ (s : List (Int × Bool)) (A : Int → Bool) : Prop where
  nodup : (s.map (·.1)).Nodup
  all : ∀ q ∈ s, q.2 = true
  mem : ∀ x, setM s x = A x
theorem SetQ.nil : SetQ [] (fun _ => false) := ⟨.nil, (fun q hq => by cases hq), fun _ => rfl⟩
theorem SetQ.put {s : List (Int × Bool)} {A : Int → Bool} (h : SetQ s A) (a : Int) : SetQ (mset s a true) (fun x => decide (a = x) || A x) where
  nodup := mset_nodup a true h.nodup
  all := by
    have key : ∀ (s : List (Int × Bool)), (∀ q ∈ s, q.2 = true) → ∀ q ∈ mset s a true, q.2 = true := by
      intro s
      induction s with
      | nil => intro _ q hq; simp [mset] at hq; rw [hq]
      | cons p s ih =>
        intro h q hq
        unfold mset at hq
        split at hq
        · rcases List.mem_cons.1 hq with rfl | hq
          · rfl
          · exact h q (List.mem_cons_of_mem _ hq)
        · rcases List.mem_cons.1 hq with rfl | hq
          · exact h _ (List.mem_cons_self ..)
          · exact ih (fun q hq => h q (List.mem_cons_of_mem _ hq)) q hq
    exact key s h.all
  mem := fun x => by rw [setM_put, h.mem]
theorem SetQ.congr {s : List (Int × Bool)} {A B : Int → Bool} (h : SetQ s A) (e : ∀ x, A x = B x) : SetQ s B := ⟨h.nodup, h.all, fun x => by rw [h.mem, e]⟩
theorem SetQ.key {s : List (Int × Bool)} {A : Int → Bool} (h : SetQ s A) {x : Int} : A x = true ↔ x ∈ s.map (·.1) := by
  rw [← h.mem]
  unfold setM
  constructor
  · intro h1
    cases hg : mget s x with
    | none => rw [hg] at h1; cases h1
    | some b => exact List.mem_map.2 ⟨_, mget_mem hg, rfl⟩
  · intro h1
    obtain ⟨q, hq, rfl⟩ := List.mem_map.1 h1
    rw [mget_at h.nodup hq, h.all q hq]; rfl
def OnS (I : HMap) (ref : Nat) (A : Int → Bool) : Prop := ∃ s : List (Int × Bool), I ref = some (mapO (Value.int .i64) Value.bool s) ∧ SetQ s A
theorem OnS.mono {I I' : HMap} {ref : Nat} {A : Int → Bool} (h : OnS I ref A) (hI : HLe I I') : OnS I' ref A := by
  obtain ⟨s, h1, h2⟩ := h
  exact ⟨s, hI _ _ h1, h2⟩
/-- For each patch what it stands on. -/
def OnL (I : HMap) (m : List (Int × Nat)) (ps : List Pt) : Prop := m.map (·.1) = ps.map (·.id) ∧ ∀ q ∈ m, OnS I q.2 (onF ps q.1)
theorem OnL.mono {I I' : HMap} {m : List (Int × Nat)} {ps : List Pt} (h : OnL I m ps) (hI : HLe I I') : OnL I' m ps := ⟨h.1, fun q hq => (h.2 q hq).mono hI⟩
theorem OnL.nil {I : HMap} {ps : List Pt} : OnL I [] (ps.take 0) := ⟨by simp, fun q hq => by cases hq⟩
def OnM (I : HMap) (r : Nat) (ps : List Pt) : Prop := ∃ m : List (Int × Nat), I r = some (mapO (Value.int .i64) refV m) ∧ OnL I m ps
theorem OnM.mono {I I' : HMap} {r : Nat} {ps : List Pt} (h : OnM I r ps) (hI : HLe I I') : OnM I' r ps := by
  obtain ⟨m, h1, h2⟩ := h
  exact ⟨m, hI _ _ h1, h2.mono hI⟩
theorem OnL.get {I : HMap} {m : List (Int × Nat)} {ps : List Pt} (h : OnL I m ps) {a : Int} (ha : ∃ q ∈ ps, q.id = a) : ∃ ref, mget m a = some ref ∧ OnS I ref (onF ps a) := by
  cases hg : mget m a with
  | none =>
    have := mget_none.1 hg
    rw [h.1] at this
    obtain ⟨q, hq, rfl⟩ := ha
    exact absurd (List.mem_map.2 ⟨q, hq, rfl⟩) this
  | some ref => exact ⟨ref, rfl, h.2 _ (mget_mem hg)⟩
theorem Lst.before {ps : List Pt} (h : Lst ps) {k : Nat} {p : Pt} (hk : ps[k]? = some p) {n : Int} (hn : n ∈ p.needs) : ∃ q ∈ ps.take k, q.id = n := by
  obtain ⟨h1, q, hq, rfl⟩ := h.has p (List.mem_of_getElem? hk) n hn
  obtain ⟨j, hj⟩ := List.getElem?_of_mem hq
  obtain ⟨hj1, hj2⟩ := List.getElem?_eq_some_iff.1 hj
  obtain ⟨hk1, hk2⟩ := List.getElem?_eq_some_iff.1 hk
  have hjk : j < k := by
    rcases Nat.lt_or_ge j k with h3 | h3
    · exact h3
    · exfalso
      by_cases e : k = j
      · subst e; rw [hk] at hj; cases hj; omega
      · have := List.pairwise_iff_getElem.1 h.inc k j hk1 hj1 (by omega)
        rw [hj2, hk2] at this; omega
  refine ⟨q, ?_, rfl⟩
  rw [List.mem_take_iff_getElem]
  exact ⟨j, by omega, hj2⟩
theorem Lst.fresh {ps : List Pt} (h : Lst ps) {k : Nat} {p : Pt} (hk : ps[k]? = some p) : ∀ q ∈ ps.take k, q.id < p.id := fun q hq => by
  obtain ⟨j, hj, rfl⟩ := List.mem_take_iff_getElem.1 hq
  obtain ⟨hk1, hk2⟩ := List.getElem?_eq_some_iff.1 hk
  have := List.pairwise_iff_getElem.1 h.inc j k (by omega) hk1 (by omega)
  rw [hk2] at this; exact this
theorem OnL.step {I : HMap} {m : List (Int × Nat)} {ps : List Pt} {k ref : Nat} {p : Pt} {s : List (Int × Bool)} (hL : Lst ps) (hk : ps[k]? = some p) (hm : OnL I m (ps.take k)) (hb : I ref = some (mapO (Value.int .i64) Value.bool s))
    (hs : SetQ s (fun x => p.needs.any fun n => n == x || onF (ps.take k) n x)) : OnL I (mset m p.id ref) (ps.take (k + 1)) := by
  have hfr := hL.fresh hk
  have hnew : p.id ∉ m.map (·.1) := by
    rw [hm.1]
    intro h
    obtain ⟨q, hq, e⟩ := List.mem_map.1 h
    have := hfr q hq; omega
  have hmi : mset m p.id ref = m ++ [(p.id, ref)] := by
    refine mset_new m p.id ref 0 ?_
    have := mget_none.2 hnew
    rw [← mget_midx m p.id 0] at this
    simpa using this
  rw [take_snoc hk]
  refine ⟨by rw [mset_keys, if_neg hnew, hm.1]; simp, fun q hq => ?_⟩
  rw [hmi] at hq
  rcases List.mem_append.1 hq with hq | hq
  · obtain ⟨s', h1, h2⟩ := hm.2 q hq
    refine ⟨s', h1, h2.congr fun x => ?_⟩
    have hne : q.1 ≠ p.id := fun e => hnew (by rw [← e]; exact List.mem_map.2 ⟨q, hq, rfl⟩)
    rw [onF_left (fun z hz => by simp at hz; subst hz; exact fun e => hne e.symm)]
  · simp at hq; subst hq
    refine ⟨s, hb, hs.congr fun x => ?_⟩
    exact (onF_split (fun z hz => by cases hz)).symm
/-- A set that takes in the keys of another one, in whatever order. -/
def Seen (sn : List (Int × Bool)) (seen : List Nat) (x : Int) : Bool := seen.any fun i => (sn[i]?.map (·.1)) == some x
theorem seen_nil (sn : List (Int × Bool)) (x : Int) : Seen sn [] x = false := rfl
theorem seen_snoc {sn : List (Int × Bool)} {seen : List Nat} {i : Nat} {p : Int × Bool} (hp : sn[i]? = some p) (x : Int) : Seen sn (seen ++ [i]) x = (decide (p.1 = x) || Seen sn seen x) := by
  unfold Seen
  rw [List.any_append, Bool.eq_iff_iff]
  simp [hp, or_comm]
theorem seen_all {sn : List (Int × Bool)} {A : Int → Bool} (h : SetQ sn A) {seen : List Nat} (hall : ∀ i p, sn[i]? = some p → i ∈ seen) (x : Int) : Seen sn seen x = A x := by
  rw [Bool.eq_iff_iff, h.key]
  unfold Seen
  rw [List.any_eq_true]
  constructor
  · rintro ⟨i, _, hi⟩
    cases hx : sn[i]? with
    | none => rw [hx] at hi; simp at hi
    | some p => rw [hx] at hi; simp at hi; exact List.mem_map.2 ⟨p, List.mem_of_getElem? hx, hi⟩
  · intro hx
    obtain ⟨p, hp, rfl⟩ := List.mem_map.1 hx
    obtain ⟨i, hi⟩ := List.getElem?_of_mem hp
    exact ⟨i, hall i p hi, by rw [hi]; simp⟩
end Go.Proofs.YtehkiccapbkhnaaGreat
end
section
namespace Go.Proofs.YtehkiccapbkhnaaGreat
open Go Go.Kn Go.Proofs
theorem w_stands {I : HMap} {av : Option Addr} {n c : Nat} {ps : List Pt} (hP : SlP I av n c ps) (hn : n ≤ 100000) (hL : Lst ps) (hnd : ∀ p ∈ ps, p.n ≤ 100000) : RetM Tryz.prog 74 [.slice av n c] I [] (fun v I' L => L = [] ∧ ∃ r, v = .map (some r) ∧ OnM I' r ps) := by
 intro g H w hw
 refine enter Tryz.func74 rfl Tryz.ntmps74 rfl hw ?_
 have hIc := HLe.refl I
 refine zR ?_
 refine zA ?_
 refine zN (zR ?_)
 refine XO_makeMap rfl rfl (fun r_10 => ?_)
 refine zA ?_
 refine zN ?_
 refine X_seq ?_
 refine zR ?_
 refine zM ?_
 refine XO_v0 (ev_lenS rfl slt_22) rfl rfl rfl ?_
 refine zM ?_
 refine zN ?_
 refine X_block ?_
 refine X_loopT [(3, _), (11, _), (12, _)] (.cons rfl (.cons rfl (.cons rfl .nil))) (fun T L0 mz E I' loc' => ∃ (k : Nat) (m : List (Int × Nat)), mz = n - k ∧ E = (13, .int .i64 k) :: T ∧ HLe I I' ∧ [(r_10, mapO (Value.int .i64) refV m)] = loc' ∧ k ≤ n ∧ OnL I' m (ps.take k)) _ _ _ _ ⟨0, [], rfl, rfl, HLe.refl _, rfl, Nat.zero_le _, OnL.nil⟩ (.cons rfl (.cons rfl (.cons rfl (.cons rfl .nil)))) (HLe.refl _) rfl ?_
 rintro mz E J1 loc' ⟨k, m, rfl, rfl, hJ, rfl, hk, hm⟩
 have hP := hP.mono hJ; have hIc := hIc.trans hJ
 have hB0 := hJ
 refine zR ?_
 refine zC ?_
 refine zN ?_
 refine X_seq ?_
 refine X_cond rfl (fun hc14 => ?_) (fun hc14 => ?_)
 ·
  have hlt_k : k < n := by have h := hc14; simp at h; omega
  have hP1 := hP.1
  obtain ⟨p, hp, hN⟩ := hP.at hlt_k
  have hpm := List.mem_of_getElem? hp
  have hN : Sl J1 1 encI p.a p.n p.c p.needs := hN
  have hpn := hnd p hpm
  refine X_skip ?_
  refine at_then ?_
  refine X_seq ?_
  refine X_block ?_
  refine zR ?_
  refine XO_v0 (ev_indexSl rfl rfl slt_22 (by assumption) (fun hg => by first | omega | (simp [conj] at hg; omega))) rfl rfl rfl ?_
  refine XO_v0 (ev_loadA rfl agt_65 (fun hg => by first | exact Sl.getA hP.1 hp | (repeat (first | exact Cells.here | exact Cells.s0 (vs := [_, _, _, _, _, _, _, _, _, _, _, _, _, _, _, _, _, _, _]) rfl | apply Cells.there | apply Cells.app))) rfl) rfl rfl rfl ?_
  refine XO_alloc zt_65 rfl rfl (fun b_5 => ?_)
  refine XO_storeA rfl rfl szt_65 rfl rfl rfl rfl (by repeat (first | exact Upd.here | apply Upd.there | apply upd_app)) ?_
  refine zN (zR ?_)
  refine XO_makeMap rfl rfl (fun r_17 => ?_)
  refine zA ?_
  refine zN ?_
  refine X_seq ?_
  refine zR ?_
  refine XO_v0 (ev_fieldAddr rfl fld_65_5) rfl rfl rfl ?_
  refine XO_v0 (ev_load rfl sct_23 (fun hg => by first | exact Sl.get0 hN hy rfl | (repeat (first | exact Cell.here rfl | apply Cell.there | apply Cell.app)))) rfl rfl rfl ?_
  refine XO_v0 (ev_lenS rfl slt_23) rfl rfl rfl ?_
  refine zM ?_
  refine zN ?_
  refine X_block ?_
  refine X_loopT [(3, _), (5, _), (6, _), (11, _), (12, _), (13, _), (19, _), (20, _)] (.cons rfl (.cons rfl (.cons rfl (.cons rfl (.cons rfl (.cons rfl (.cons rfl (.cons rfl .nil)))))))) (fun T L0 mz E I' loc' => ∃ (j : Nat) (s : List (Int × Bool)), mz = p.n - j ∧ E = (21, .int .i64 j) :: T ∧ J1 = I' ∧ [(r_17, mapO (Value.int .i64) Value.bool s), (b_5, .cells (encP p).toArray 65 (0, 0)), (r_10, mapO (Value.int .i64) refV m)] = loc' ∧ j ≤ p.n ∧ SetQ s (fun x => (p.needs.take j).any fun n => n == x || onF (ps.take k) n x)) _ _ _ _ ⟨0, [], rfl, rfl, rfl, rfl, Nat.zero_le _, SetQ.nil⟩ (.cons rfl (.cons rfl (.cons rfl (.cons rfl (.cons rfl (.cons rfl (.cons rfl (.cons rfl (.cons rfl .nil))))))))) (HLe.refl _) rfl ?_
  rintro mz E I' loc' ⟨j, s, rfl, rfl, rfl, rfl, hj, hs⟩
  refine zR ?_
  refine zC ?_
  refine zN ?_
  refine X_seq ?_
  refine X_cond rfl (fun hc22 => ?_) (fun hc22 => ?_)
  ·
   have hlt_j : j < p.n := by have h := hc22; simp at h; omega
   obtain ⟨y, hy⟩ := hN.at hlt_j
   obtain ⟨ref, hget, sn, hsn, hsq⟩ := hm.get (hL.before hp (List.mem_of_getElem? hy))
   refine X_skip ?_
   refine at_then ?_
   refine X_seq ?_
   refine X_block ?_
   refine zR ?_
   refine XO_v0 (ev_indexSl rfl rfl slt_23 (by assumption) (fun hg => by first | omega | (simp [conj] at hg; omega))) rfl rfl rfl ?_
   refine XO_v0 (ev_load rfl sct_3 (fun hg => by first | exact Sl.get0 hN hy rfl | (repeat (first | exact Cell.here rfl | apply Cell.there | apply Cell.app)))) rfl rfl rfl ?_
   refine zA ?_
   refine zN (zR ?_)
   refine zM ?_
   refine zM ?_
   refine XO_mapUpdate (m := s) (ek := Value.int .i64) (ev := Value.bool) (a := y) true mpt_111 key_3 rfl rfl rfl rfl (by repeat (first | exact Upd.here | apply Upd.there | apply upd_app)) ?_
   refine zN (zR ?_)
   refine zM ?_
   refine zM ?_
   refine XO_v0 (ev_lookupG (m := m) (ek := Value.int .i64) (ev := refV) (a := y) hget mpt_112 key_3 rfl rfl (fun _ => .inr (by simp))) rfl rfl rfl ?_
   refine XO_range (ek := Value.int .i64) (ev := Value.bool) (m := sn) rfl mpt_111 rfl rfl (.inl hsn) (fun b_30 => ?_)
   refine zN ?_
   refine X_block ?_
   refine X_loopT [(3, _), (5, _), (6, _), (11, _), (12, _), (13, _), (19, _), (20, _), (21, _), (30, _)] (.cons rfl (.cons rfl (.cons rfl (.cons rfl (.cons rfl (.cons rfl (.cons rfl (.cons rfl (.cons rfl (.cons rfl .nil)))))))))) (fun T L0 mz E I' loc' => ∃ (seen : List Nat) (s : List (Int × Bool)), mz = sn.length - seen.length ∧ E = T ∧ J1 = I' ∧ [(b_30, iterO ref sn.length seen), (r_17, mapO (Value.int .i64) Value.bool s), (b_5, .cells (encP p).toArray 65 (0, 0)), (r_10, mapO (Value.int .i64) refV m)] = loc' ∧ SetQ s (fun x => Seen sn seen x || (decide (y = x) || (p.needs.take j).any fun n => n == x || onF (ps.take k) n x)) ∧ seen.Nodup ∧ ∀ i ∈ seen, i < sn.length) _ _ _ _ ⟨[], _, rfl, rfl, rfl, rfl, (hs.put y).congr (fun x => by rw [seen_nil, Bool.false_or]), .nil, fun i h => by cases h⟩ (.cons rfl (.cons rfl (.cons rfl (.cons rfl (.cons rfl (.cons rfl (.cons rfl (.cons rfl (.cons rfl (.cons rfl .nil)))))))))) (HLe.refl _) rfl ?_
   rintro mz E I' loc' ⟨seen, s, rfl, rfl, rfl, rfl, hs, hnd2, hlt⟩
   have hsl := seen_lt hnd2 hlt
   refine zR ?_
   refine XO_next2 (ek := Value.int .i64) (ev := Value.bool) (m := sn) (fun s' => [(b_30, iterO ref sn.length s'), (r_17, mapO (Value.int .i64) Value.bool s), (b_5, .cells (encP p).toArray 65 (0, 0)), (r_10, mapO (Value.int .i64) refV m)]) rfl (fun s' => .here) rfl rfl rfl rfl rfl (.inl hsn) (by simp) ?_
   intro t tv s' hno hyes
   refine zN ?_
   refine X_seq ?_
   refine X_cond rfl (fun hc32 => ?_) (fun hc32 => ?_)
   ·
    obtain ⟨i, q, hq, hns, rfl⟩ := hyes hc32
    refine X_skip ?_
    refine at_then ?_
    refine X_block ?_
    refine zR ?_
    refine XO_v0 (ev_entry (ek := Value.int .i64) (ev := Value.bool) (m := sn) (p := q) (seen := seen) (i := i) rfl (.inl hsn) (.inr (by simp)) hq) rfl rfl rfl ?_
    refine XO_v0 (ev_extract rfl rfl) rfl rfl rfl ?_
    refine zA ?_
    refine zN ?_
    refine X_region ?_
    refine zM ?_
    refine zM ?_
    refine XO_mapUpdate (m := s) (ek := Value.int .i64) (ev := Value.bool) (a := q.1) true mpt_111 key_3 rfl rfl rfl rfl (by repeat (first | exact Upd.here | apply Upd.there | apply upd_app)) ?_
    refine XO_nil ?_
    refine at_block_n ?_
    have hnd3 : (seen ++ [i]).Nodup := List.nodup_append.2 ⟨hnd2, by simp, fun a ha b hb e => hns (by simp at hb; subst hb; subst e; exact ha)⟩
    have hlt3 : ∀ j ∈ seen ++ [i], j < sn.length := fun j hj => (List.mem_append.1 hj).elim (hlt j) (fun h => by simp at h; subst h; exact (List.getElem?_eq_some_iff.1 hq).1)
    have hsl2 := seen_lt hnd3 hlt3
    rw [List.length_append, List.length_singleton] at hsl2
    exact at_met2 _ _ ⟨sn.length - (seen ++ [i]).length, by rw [List.length_append, List.length_singleton]; omega, seen ++ [i], _, rfl, rfl, rfl, rfl, (hs.put q.1).congr (fun x => by rw [seen_snoc hq, Bool.or_assoc]), hnd3, hlt3⟩ (.cons rfl (.cons rfl (.cons rfl (.cons rfl (.cons rfl (.cons rfl (.cons rfl (.cons rfl (.cons rfl (.cons rfl .nil)))))))))) (by repeat (first | exact .refl | exact subL_left | refine subL_app ?_ | refine .drop ?_ | refine subL_add ?_))
   obtain ⟨rfl, hall⟩ := hno hc32
   refine X_exit ?_
   refine at_then_e ?_
   refine at_then_e ?_
   refine at_block_hit ?_
   refine at_block_n ?_
   refine at_then ?_
   refine X_region ?_
   refine XO_v0 (ev_arB rfl rfl rfl (fun _ => by omega)) rfl rfl rfl ?_
   refine zM ?_
   refine XO_nil ?_
   exact at_met2 _ _ ⟨p.n - (j + 1), by omega, j + 1, _, rfl, rfl, rfl, rfl, by omega, hs.congr (fun x => by rw [any_take hy, seen_all hsq hall x]; rw [Bool.eq_iff_iff]; simp; grind)⟩ (.cons rfl (.cons rfl (.cons rfl (.cons rfl (.cons rfl (.cons rfl (.cons rfl (.cons rfl (.cons rfl .nil))))))))) (by repeat (first | exact .refl | exact subL_left | refine subL_app ?_ | refine .drop ?_ | refine subL_add ?_))
  have hge_j : p.n ≤ j := by have h := hc22; simp at h; omega
  refine X_exit ?_
  refine at_then_e ?_
  refine at_then_e ?_
  refine at_block_hit ?_
  refine at_then ?_
  refine X_freeze .here (fun I4 hI4 hb4 => ?_)
  have hP := hP.mono hI4; have hm := hm.mono hI4; have hIc := hIc.trans hI4; have hB0 := hB0.trans hI4
  have hbx := hb4
  refine X_region ?_
  refine zM ?_
  refine XO_v0 (ev_fieldAddr rfl fld_65_0) rfl rfl rfl ?_
  refine XO_v0 (ev_load rfl sct_3 (fun hg => by first | exact Sl.get0 hN hy rfl | (repeat (first | exact Cell.here rfl | apply Cell.there | apply Cell.app)))) rfl rfl rfl ?_
  refine zM ?_
  refine XO_mapUpdate (m := m) (ek := Value.int .i64) (ev := refV) (a := p.id) r_17 mpt_112 key_3 rfl rfl rfl rfl (by repeat (first | exact Upd.here | apply Upd.there | apply upd_app)) ?_
  refine XO_nil ?_
  refine at_block_n ?_
  refine at_then ?_
  refine X_region ?_
  refine XO_v0 (ev_arB rfl rfl rfl (fun _ => by omega)) rfl rfl rfl ?_
  refine zM ?_
  refine XO_nil ?_
  exact at_met2 _ _ ⟨n - (k + 1), by omega, k + 1, _, rfl, rfl, hB0, rfl, by omega, OnL.step hL hp hm hbx (by rw [take_all hN.len hge_j] at hs; exact hs)⟩ (.cons rfl (.cons rfl (.cons rfl (.cons rfl .nil)))) (by repeat (first | exact .refl | exact subL_left | refine subL_app ?_ | refine .drop ?_ | refine subL_add ?_))
 have hge_k : n ≤ k := by have h := hc14; simp at h; omega
 rw [take_all hP.len hge_k] at hm
 refine X_exit ?_
 refine at_then_e ?_
 refine at_then_e ?_
 refine at_block_hit ?_
 refine at_then ?_
 refine zR ?_
 refine zM ?_
 refine zA ?_
 refine zN ?_
 refine X_ret ?_
 exact at_ret1 rfl rfl (fun w hw => by obtain ⟨I9, h91, h92, h93⟩ := hw.freezeAll; exact ⟨_, I9, [], rfl, hIc.trans h91, h92, rfl, r_10, rfl, m, h93 _ _ (by simp), hm.mono h91⟩)
end Go.Proofs.YtehkiccapbkhnaaGreat
end
section
namespace Go.Proofs.YtehkiccapbkhnaaGreat
open Go Go.Kn Go.Proofs
theorem chk_one (x : Sg) : (chkG [x] == 0) = frm x := by
 unfold chkG skB skP
 cases h : frm x <;> simp [h]
theorem and_k1 (a b c d x y : Bool) : (((((a && b) && c) && d) && x) && y) = (((a && b) && (c && d)) && (x && y)) := by simp only [Bool.and_assoc]
theorem and_k2 (a b c d x y z : Bool) : ((((((a && b) && c) && d) && x) && y) && z) = (((a && b) && (c && d)) && (x && (y && z))) := by simp only [Bool.and_assoc]
theorem w_form (I : HMap) (x : Sg) : RetV Tryz.prog 108 [encGA x] I (.bool (frm x)) := by
 intro g H w hw
 refine enter Tryz.func108 rfl Tryz.ntmps108 rfl hw ?_
 have hIc := HLe.refl I
 refine zR ?_
 refine XO_box rfl rfl rfl (fun b_1 => ?_)
 refine zA ?_
 refine zN (zR ?_)
 refine XO_v0 (ev_loadA rfl agt_63 (fun hg => by first | (repeat (first | exact Cells.here | exact Cells.s0 (vs := [_, _, _, _, _, _, _, _, _, _, _, _, _, _]) rfl | apply Cells.there | apply Cells.app))) rfl) rfl rfl rfl ?_
 refine XO_buildSlice (ps := [(0, _)]) (m := [encG x]) elt_183 rfl (.cons rfl (.nil)) rfl (by simp [encG_len]) (by decide) (by decide) rfl rfl (fun b_4 => ?_)
 refine XO_freeze .here (fun I1 hI1 hb1 => ?_)
 have hIc := hIc.trans hI1
 have hS := Sl.lit [x] rfl encG_len (show _ = some (Obj.cells (([x] : List Sg).flatMap encG).toArray 63 (0, 0)) from hb1)
 refine XO_callV0 (cap := []) (vs := [_]) rfl rfl fun_136 (w_chkG hS (by decide)) rfl rfl ?_
 refine zC ?_
 refine zA ?_
 refine zN ?_
 refine X_ret ?_
 exact at_ret1 rfl rfl (fun w hw => ⟨by rw [chk_one], (hw.mono hIc).drop⟩)
theorem w_pchk {I : HMap} (p : Pt) (hN : Nd I p) : RetV Tryz.prog 72 [encPA p] I (.int .i64 (pchk p)) := by
 intro g H w hw
 refine enter Tryz.func72 rfl Tryz.ntmps72 rfl hw ?_
 have hN : Sl I 1 encI p.a p.n p.c p.needs := hN
 refine zR ?_
 refine XO_box rfl rfl rfl (fun b_1 => ?_)
 refine zA ?_
 refine zN ?_
 refine X_seq ?_
 refine zR ?_
 refine XO_v0 (ev_fieldAddr rfl fld_65_5) rfl rfl rfl ?_
 refine XO_v0 (ev_load rfl sct_23 (fun hg => by first | exact Sl.get0 hN hx rfl | (repeat (first | exact Cell.here rfl | apply Cell.there | apply Cell.app)))) rfl rfl rfl ?_
 refine XO_v0 (ev_lenS rfl slt_23) rfl rfl rfl ?_
 refine zC ?_
 refine zN ?_
 refine X_cond rfl (fun hc11 => ?_) (fun hc11 => ?_)
 ·
  have hlen : p.needs.length > 32 := by rw [hN.len]; simp at hc11; omega
  refine zR ?_
  refine zA ?_
  refine zN ?_
  refine X_ret ?_
  refine at_then_r ?_
  exact at_ret1 rfl rfl (fun w hw => ⟨by rw [pchk_1 hlen], hw.drop⟩)
 have hlen : ¬ p.needs.length > 32 := by rw [hN.len]; simp at hc11; omega
 have hpn : p.n ≤ 100000 := by have := hN.len; omega
 refine X_skip ?_
 refine at_then ?_
 refine zR ?_
 refine zA ?_
 refine zN ?_
 refine X_seq ?_
 refine zR ?_
 refine XO_v0 (ev_fieldAddr rfl fld_65_5) rfl rfl rfl ?_
 refine XO_v0 (ev_load rfl sct_23 (fun hg => by first | exact Sl.get0 hN hx rfl | (repeat (first | exact Cell.here rfl | apply Cell.there | apply Cell.app)))) rfl rfl rfl ?_
 refine XO_v0 (ev_lenS rfl slt_23) rfl rfl rfl ?_
 refine zM ?_
 refine zN ?_
 refine X_block ?_
 refine X_loopT [(1, _), (13, _), (14, _)] (.cons rfl (.cons rfl (.cons rfl .nil))) (fun T L0 mz E I' loc' => ∃ (k : Nat) (l : Int), mz = p.n - k ∧ E = (3, .int .i64 l) :: (15, .int .i64 k) :: T ∧ I = I' ∧ L0 = loc' ∧ k ≤ p.n ∧ (List.range k).all (ndP p.id p.needs) = true ∧ lastI p.needs k l) _ _ _ _ ⟨0, 0, rfl, rfl, rfl, rfl, Nat.zero_le _, rfl, ⟨fun _ => rfl, fun y hy h => absurd rfl h⟩⟩ (.cons rfl (.cons rfl (.cons rfl (.cons rfl (.cons rfl .nil))))) (HLe.refl _) rfl ?_
 rintro mz E I' loc' ⟨k, l, rfl, rfl, rfl, rfl, hk, hall, hl⟩
 refine zR ?_
 refine zC ?_
 refine zN ?_
 refine X_seq ?_
 refine X_cond rfl (fun hc16 => ?_) (fun hc16 => ?_)
 ·
  have hlt_k : k < p.n := by have h := hc16; simp at h; omega
  obtain ⟨x, hx⟩ := hN.at hlt_k
  refine X_skip ?_
  refine at_then ?_
  refine X_seq ?_
  refine X_block ?_
  refine zR ?_
  refine XO_v0 (ev_indexSl rfl rfl slt_23 (by assumption) (fun hg => by first | omega | (simp [conj] at hg; omega))) rfl rfl rfl ?_
  refine XO_v0 (ev_load rfl sct_3 (fun hg => by first | exact Sl.get0 hN hx rfl | (repeat (first | exact Cell.here rfl | apply Cell.there | apply Cell.app)))) rfl rfl rfl ?_
  refine zA ?_
  refine zN ?_
  refine X_seq ?_
  refine zR ?_
  refine zM ?_
  refine zM ?_
  refine zC ?_
  refine zM ?_
  refine XO_pushF 3 rfl rfl rfl ?_
  refine XO_v1 (ev_move rfl) (.some rfl rfl rfl rfl gbf) rfl rfl rfl ?_
  refine XO_v1 (ev_fieldAddr rfl fld_65_0) (.some rfl rfl rfl rfl gbf) rfl rfl rfl ?_
  refine XO_v1 (ev_load rfl sct_3 (fun hg => by first | exact Sl.get0 hN hx rfl | (repeat (first | exact Cell.here rfl | apply Cell.there | apply Cell.app)))) (.some rfl rfl rfl rfl gbf) rfl rfl rfl ?_
  refine XO_v1 (ev_cmp rfl rfl rfl) (.some rfl rfl rfl rfl gbf) rfl rfl rfl ?_
  refine XO_or0 rfl rfl rfl rfl rfl ?_
  refine zN ?_
  refine X_cond rfl (fun hc27 => ?_) (fun hc27 => ?_)
  ·
   have hnd : ndB p.id p.needs = false := by unfold ndB; exact range_bad (k := k) (by rw [hN.len]; exact hlt_k) (by rw [nd_at hall hl hx, hc27]; rfl)
   refine zR ?_
   refine zA ?_
   refine zN ?_
   refine X_ret ?_
   refine at_then_r ?_
   refine at_block_r ?_
   refine at_then_r ?_
   refine at_then_r ?_
   refine at_block_r ?_
   refine at_then_r ?_
   exact at_ret1 rfl rfl (fun w hw => ⟨by rw [pchk_2 hlen hnd], hw.drop⟩)
  refine X_skip ?_
  refine at_then ?_
  refine X_region ?_
  refine zM ?_
  refine zA ?_
  refine XO_nil ?_
  refine at_block_n ?_
  refine at_then ?_
  refine X_region ?_
  refine XO_v0 (ev_arB rfl rfl rfl (fun _ => by omega)) rfl rfl rfl ?_
  refine zM ?_
  refine XO_nil ?_
  exact at_met2 _ _ ⟨p.n - (k + 1), by omega, k + 1, _, rfl, rfl, rfl, rfl, by omega, range_step hall (by rw [nd_at hall hl hx, hc27]; rfl), lastI_step hx⟩ (.cons rfl (.cons rfl (.cons rfl (.cons rfl (.cons rfl .nil))))) (by repeat (first | exact .refl | exact subL_left | refine subL_app ?_ | refine .drop ?_ | refine subL_add ?_))
 have hge_k : p.n ≤ k := by have h := hc16; simp at h; omega
 have hnd : ndB p.id p.needs = true := by unfold ndB; rw [hN.len, show p.n = k by omega]; exact hall
 refine X_exit ?_
 refine at_then_e ?_
 refine at_then_e ?_
 refine at_block_hit ?_
 refine at_then ?_
 refine zR ?_
 refine XO_v0 (ev_fieldAddr rfl fld_65_0) rfl rfl rfl ?_
 refine XO_v0 (ev_load rfl sct_3 (fun hg => by first | exact Sl.get0 hN hx rfl | (repeat (first | exact Cell.here rfl | apply Cell.there | apply Cell.app)))) rfl rfl rfl ?_
 refine zC ?_
 refine zM ?_
 refine XO_pushT 3 rfl rfl rfl ?_
 refine XO_v1 (ev_fieldAddr rfl fld_65_0) (.some rfl rfl rfl rfl gbt) rfl rfl rfl ?_
 refine XO_v1 (ev_load rfl sct_3 (fun hg => by first | exact Sl.get0 hN hx rfl | (repeat (first | exact Cell.here rfl | apply Cell.there | apply Cell.app)))) (.some rfl rfl rfl rfl gbt) rfl rfl rfl ?_
 refine XO_v1 (ev_cmp rfl rfl rfl) (.some rfl rfl rfl rfl gbt) rfl rfl rfl ?_
 refine XO_and0 rfl rfl rfl rfl rfl ?_
 refine zM ?_
 refine XO_pushT 8 rfl rfl rfl ?_
 refine XO_v1 (ev_fieldAddr rfl fld_65_2) (.some rfl rfl rfl rfl gbt) rfl rfl rfl ?_
 refine XO_v1 (ev_load rfl sct_3 (fun hg => by first | exact Sl.get0 hN hx rfl | (repeat (first | exact Cell.here rfl | apply Cell.there | apply Cell.app)))) (.some rfl rfl rfl rfl gbt) rfl rfl rfl ?_
 refine XO_v1 (ev_cmp rfl rfl rfl) (.some rfl rfl rfl rfl gbt) rfl rfl rfl ?_
 refine XO_and0 rfl rfl rfl rfl rfl ?_
 refine zM ?_
 refine XO_pushT 13 rfl rfl rfl ?_
 refine XO_v1 (ev_fieldAddr rfl fld_65_2) (.some rfl rfl rfl rfl gbt) rfl rfl rfl ?_
 refine XO_v1 (ev_load rfl sct_3 (fun hg => by first | exact Sl.get0 hN hx rfl | (repeat (first | exact Cell.here rfl | apply Cell.there | apply Cell.app)))) (.some rfl rfl rfl rfl gbt) rfl rfl rfl ?_
 refine XO_v1 (ev_cmp rfl rfl rfl) (.some rfl rfl rfl rfl gbt) rfl rfl rfl ?_
 refine XO_and0 rfl rfl rfl rfl rfl ?_
 refine zA ?_
 refine zN ?_
 refine X_seq ?_
 refine zR ?_
 refine XO_v0 (ev_fieldAddr rfl fld_65_1) rfl rfl rfl ?_
 refine XO_v0 (ev_load rfl sct_3 (fun hg => by first | exact Sl.get0 hN hx rfl | (repeat (first | exact Cell.here rfl | apply Cell.there | apply Cell.app)))) rfl rfl rfl ?_
 refine zN ?_
 refine X_block ?_
 refine zR ?_
 refine zC ?_
 refine zA ?_
 refine zN ?_
 refine X_cond rfl (fun hc50 => ?_) (fun hc50 => ?_)
 ·
  have hk : p.kind = 1 := by simpa using hc50
  refine X_seq ?_
  refine zR ?_
  refine XO_v0 (ev_fieldAddr rfl fld_65_3) rfl rfl rfl ?_
  refine XO_v0 (ev_load rfl sct_3 (fun hg => by first | exact Sl.get0 hN hx rfl | (repeat (first | exact Cell.here rfl | apply Cell.there | apply Cell.app)))) rfl rfl rfl ?_
  refine zC ?_
  refine zM ?_
  refine XO_pushF 3 rfl rfl rfl ?_
  refine XO_v1 (ev_fieldAddr rfl fld_65_3) (.some rfl rfl rfl rfl gbf) rfl rfl rfl ?_
  refine XO_v1 (ev_load rfl sct_3 (fun hg => by first | exact Sl.get0 hN hx rfl | (repeat (first | exact Cell.here rfl | apply Cell.there | apply Cell.app)))) (.some rfl rfl rfl rfl gbf) rfl rfl rfl ?_
  refine XO_v1 (ev_cmp rfl rfl rfl) (.some rfl rfl rfl rfl gbf) rfl rfl rfl ?_
  refine XO_or0 rfl rfl rfl rfl rfl ?_
  refine zN ?_
  refine X_cond rfl (fun hc59 => ?_) (fun hc59 => ?_)
  ·
   have hb : (idB p && kndB p) = false := knd_1n hk (by unfold within; simp at hc59 ⊢; omega)
   refine zR ?_
   refine zA ?_
   refine zN ?_
   refine X_ret ?_
   refine at_then_r ?_
   refine at_block_r ?_
   refine at_then_r ?_
   exact at_ret1 rfl rfl (fun w hw => ⟨by rw [pchk_3 hlen hnd hb], hw.drop⟩)
  have hf : isF p.field := by have h := hc59; unfold isF; simp at h; omega
  have hw1 : within p.field 1 9 = true := by have h := hc59; unfold within; simp at h ⊢; omega
  refine X_skip ?_
  refine at_then ?_
  refine zR ?_
  refine XO_v0 (ev_buildL (ps := [(1, _)]) [_, _] plt_61 rfl rfl) rfl rfl rfl ?_
  refine XO_v0 (ev_buildL (ps := [(0, _), (1, _)]) [_, _] plt_61 rfl rfl) rfl rfl rfl ?_
  refine XO_v0 (ev_buildL (ps := [(3, _), (4, _), (10, _), (11, _)]) [_, _, _, _, _, _, _, _, _, _, _, _, _, _] plt_63 rfl rfl) rfl rfl rfl ?_
  refine XO_alloc zt_63 rfl rfl (fun b_7 => ?_)
  refine XO_storeA rfl rfl szt_63 rfl rfl rfl rfl (by repeat (first | exact Upd.here | apply Upd.there | apply upd_app)) ?_
  refine zN ?_
  refine X_region ?_
  refine zM ?_
  refine zM ?_
  refine XO_pushT 1 rfl rfl rfl ?_
  refine XO_v1 (ev_fieldAddr rfl fld_65_4) (.some rfl rfl rfl rfl gbt) rfl rfl rfl ?_
  refine XO_v1 (ev_loadA rfl agt_63 (fun hg => by first | (repeat (first | exact Cells.here | exact Cells.s0 (vs := [_, _, _, _, _, _, _, _, _, _, _, _, _, _]) rfl | apply Cells.there | apply Cells.app))) rfl) (.some rfl rfl rfl rfl gbt) rfl rfl rfl ?_
  refine XO_v1 (ev_fieldAddr rfl fld_65_3) (.some rfl rfl rfl rfl gbt) rfl rfl rfl ?_
  refine XO_v1 (ev_load rfl sct_3 (fun hg => by first | exact Sl.get0 hN hx rfl | (repeat (first | exact Cell.here rfl | apply Cell.there | apply Cell.app)))) (.some rfl rfl rfl rfl gbt) rfl rfl rfl ?_
  refine XO_v1 (ev_buildL (ps := []) [_, _, _, _, _, _, _, _, _, _, _, _, _, _] plt_63 rfl rfl) (.some rfl rfl rfl rfl gbt) rfl rfl rfl ?_
  refine XO_callV1 (cap := []) (vs := [_, _, _]) rfl rfl fun_107 (fun hg => w_set I p.nw p.field zeroG hf) (.some rfl rfl rfl rfl gbt) rfl rfl ?_
  refine XO_v1 (ev_buildL (ps := []) [_, _, _, _, _, _, _, _, _, _, _, _, _, _] plt_63 rfl rfl) (.some rfl rfl rfl rfl gbt) rfl rfl rfl ?_
  refine XO_v1 (ev_eqS2 rfl rfl eqt2_63 rfl) (.some rfl rfl rfl rfl gbt) rfl rfl rfl ?_
  refine XO_and0 rfl rfl rfl rfl rfl ?_
  refine zM ?_
  refine XO_pushT 11 rfl rfl rfl ?_
  refine XO_v1 (ev_loadA rfl agt_63 (fun hg => by first | (repeat (first | exact Cells.here | exact Cells.s0 (vs := [_, _, _, _, _, _, _, _, _, _, _, _, _, _]) rfl | apply Cells.there | apply Cells.app))) rfl) (.some rfl rfl rfl rfl gbt) rfl rfl rfl ?_
  refine XO_v1 (ev_fieldAddr rfl fld_65_3) (.some rfl rfl rfl rfl gbt) rfl rfl rfl ?_
  refine XO_v1 (ev_load rfl sct_3 (fun hg => by first | exact Sl.get0 hN hx rfl | (repeat (first | exact Cell.here rfl | apply Cell.there | apply Cell.app)))) (.some rfl rfl rfl rfl gbt) rfl rfl rfl ?_
  refine XO_v1 (ev_fieldAddr rfl fld_65_4) (.some rfl rfl rfl rfl gbt) rfl rfl rfl ?_
  refine XO_v1 (ev_loadA rfl agt_63 (fun hg => by first | (repeat (first | exact Cells.here | exact Cells.s0 (vs := [_, _, _, _, _, _, _, _, _, _, _, _, _, _]) rfl | apply Cells.there | apply Cells.app))) rfl) (.some rfl rfl rfl rfl gbt) rfl rfl rfl ?_
  refine XO_callV1 (cap := []) (vs := [_, _, _]) rfl rfl fun_107 (fun hg => w_set I plainG p.field p.nw hf) (.some rfl rfl rfl rfl gbt) rfl rfl ?_
  refine XO_callV1 (cap := []) (vs := [_]) rfl rfl fun_108 (fun hg => w_form I _) (.some rfl rfl rfl rfl gbt) rfl rfl ?_
  refine XO_and0 rfl rfl rfl rfl rfl ?_
  refine zA ?_
  refine XO_nil ?_
  refine at_block_n ?_
  refine at_then ?_
  refine X_seq ?_
  refine zR ?_
  refine zM ?_
  refine XO_v0 (ev_not rfl) rfl rfl rfl ?_
  refine zN ?_
  refine X_cond rfl (fun hc119 => ?_) (fun hc119 => ?_)
  ·
   have hb : (idB p && kndB p) = false := by first | (exact (show (idB p && kndB p) = false from by rw [knd_1 hk hw1]; exact (and_k1 _ _ _ _ _ _).symm.trans ((Bool.not_eq_true' _).mp hc119))) | (exact (show (idB p && kndB p) = false from by rw [knd_2 hk]; exact (and_k2 _ _ _ _ _ _ _).symm.trans ((Bool.not_eq_true' _).mp hc119))) | (exact (show (idB p && kndB p) = false from by rw [knd_3 hk]; exact (and_k1 _ _ _ _ _ _).symm.trans ((Bool.not_eq_true' _).mp hc119))) | exact knd_4 hk1 hk2 hk3
   refine zR ?_
   refine zA ?_
   refine zN ?_
   refine X_ret ?_
   refine at_then_r ?_
   exact at_ret1 rfl rfl (fun w hw => ⟨by rw [pchk_3 hlen hnd hb], hw.drop⟩)
  have hb : (idB p && kndB p) = true := by first | (exact (show (idB p && kndB p) = true from by rw [knd_1 hk hw1]; exact (and_k1 _ _ _ _ _ _).symm.trans ((Bool.not_eq_false' _).mp hc119))) | (exact (show (idB p && kndB p) = true from by rw [knd_2 hk]; exact (and_k2 _ _ _ _ _ _ _).symm.trans ((Bool.not_eq_false' _).mp hc119))) | (exact (show (idB p && kndB p) = true from by rw [knd_3 hk]; exact (and_k1 _ _ _ _ _ _).symm.trans ((Bool.not_eq_false' _).mp hc119))) | (exfalso; have h := hc119; simp at h)
  refine X_skip ?_
  refine at_then ?_
  refine zR ?_
  refine zA ?_
  refine zN ?_
  refine X_ret ?_
  exact at_ret1 rfl rfl (fun w hw => ⟨by rw [pchk_4 hlen hnd hb], hw.drop⟩)
 have hk1 : p.kind ≠ 1 := by simpa using hc50
 refine zR ?_
 refine zC ?_
 refine zA ?_
 refine zN ?_
 refine X_cond rfl (fun hc83 => ?_) (fun hc83 => ?_)
 ·
  have hk : p.kind = 2 := by simpa using hc83
  refine X_region ?_
  refine zM ?_
  refine zM ?_
  refine XO_pushT 1 rfl rfl rfl ?_
  refine XO_v1 (ev_fieldAddr rfl fld_65_3) (.some rfl rfl rfl rfl gbt) rfl rfl rfl ?_
  refine XO_v1 (ev_load rfl sct_3 (fun hg => by first | exact Sl.get0 hN hx rfl | (repeat (first | exact Cell.here rfl | apply Cell.there | apply Cell.app)))) (.some rfl rfl rfl rfl gbt) rfl rfl rfl ?_
  refine XO_v1 (ev_cmp rfl rfl rfl) (.some rfl rfl rfl rfl gbt) rfl rfl rfl ?_
  refine XO_and0 rfl rfl rfl rfl rfl ?_
  refine zM ?_
  refine XO_pushT 6 rfl rfl rfl ?_
  refine XO_v1 (ev_fieldAddr rfl fld_65_4) (.some rfl rfl rfl rfl gbt) rfl rfl rfl ?_
  refine XO_v1 (ev_fieldAddr rfl fld_63_0) (.some rfl rfl rfl rfl gbt) rfl rfl rfl ?_
  refine XO_v1 (ev_load rfl sct_3 (fun hg => by first | exact Sl.get0 hN hx rfl | (repeat (first | exact Cell.here rfl | apply Cell.there | apply Cell.app)))) (.some rfl rfl rfl rfl gbt) rfl rfl rfl ?_
  refine XO_v1 (ev_fieldAddr rfl fld_65_2) (.some rfl rfl rfl rfl gbt) rfl rfl rfl ?_
  refine XO_v1 (ev_load rfl sct_3 (fun hg => by first | exact Sl.get0 hN hx rfl | (repeat (first | exact Cell.here rfl | apply Cell.there | apply Cell.app)))) (.some rfl rfl rfl rfl gbt) rfl rfl rfl ?_
  refine XO_v1 (ev_cmp rfl rfl rfl) (.some rfl rfl rfl rfl gbt) rfl rfl rfl ?_
  refine XO_and0 rfl rfl rfl rfl rfl ?_
  refine zM ?_
  refine XO_pushT 14 rfl rfl rfl ?_
  refine XO_v1 (ev_fieldAddr rfl fld_65_4) (.some rfl rfl rfl rfl gbt) rfl rfl rfl ?_
  refine XO_v1 (ev_loadA rfl agt_63 (fun hg => by first | (repeat (first | exact Cells.here | exact Cells.s0 (vs := [_, _, _, _, _, _, _, _, _, _, _, _, _, _]) rfl | apply Cells.there | apply Cells.app))) rfl) (.some rfl rfl rfl rfl gbt) rfl rfl rfl ?_
  refine XO_callV1 (cap := []) (vs := [_]) rfl rfl fun_108 (fun hg => w_form I _) (.some rfl rfl rfl rfl gbt) rfl rfl ?_
  refine XO_and0 rfl rfl rfl rfl rfl ?_
  refine zA ?_
  refine XO_nil ?_
  refine at_block_n ?_
  refine at_then ?_
  refine X_seq ?_
  refine zR ?_
  refine zM ?_
  refine XO_v0 (ev_not rfl) rfl rfl rfl ?_
  refine zN ?_
  refine X_cond rfl (fun hc119 => ?_) (fun hc119 => ?_)
  ·
   have hb : (idB p && kndB p) = false := by first | (exact (show (idB p && kndB p) = false from by rw [knd_1 hk hw1]; exact (and_k1 _ _ _ _ _ _).symm.trans ((Bool.not_eq_true' _).mp hc119))) | (exact (show (idB p && kndB p) = false from by rw [knd_2 hk]; exact (and_k2 _ _ _ _ _ _ _).symm.trans ((Bool.not_eq_true' _).mp hc119))) | (exact (show (idB p && kndB p) = false from by rw [knd_3 hk]; exact (and_k1 _ _ _ _ _ _).symm.trans ((Bool.not_eq_true' _).mp hc119))) | exact knd_4 hk1 hk2 hk3
   refine zR ?_
   refine zA ?_
   refine zN ?_
   refine X_ret ?_
   refine at_then_r ?_
   exact at_ret1 rfl rfl (fun w hw => ⟨by rw [pchk_3 hlen hnd hb], hw.drop⟩)
  have hb : (idB p && kndB p) = true := by first | (exact (show (idB p && kndB p) = true from by rw [knd_1 hk hw1]; exact (and_k1 _ _ _ _ _ _).symm.trans ((Bool.not_eq_false' _).mp hc119))) | (exact (show (idB p && kndB p) = true from by rw [knd_2 hk]; exact (and_k2 _ _ _ _ _ _ _).symm.trans ((Bool.not_eq_false' _).mp hc119))) | (exact (show (idB p && kndB p) = true from by rw [knd_3 hk]; exact (and_k1 _ _ _ _ _ _).symm.trans ((Bool.not_eq_false' _).mp hc119))) | (exfalso; have h := hc119; simp at h)
  refine X_skip ?_
  refine at_then ?_
  refine zR ?_
  refine zA ?_
  refine zN ?_
  refine X_ret ?_
  exact at_ret1 rfl rfl (fun w hw => ⟨by rw [pchk_4 hlen hnd hb], hw.drop⟩)
 have hk2 : p.kind ≠ 2 := by simpa using hc83
 refine zR ?_
 refine zC ?_
 refine zA ?_
 refine zN ?_
 refine X_cond rfl (fun hc104 => ?_) (fun hc104 => ?_)
 ·
  have hk : p.kind = 3 := by simpa using hc104
  refine X_region ?_
  refine zM ?_
  refine zM ?_
  refine XO_pushT 1 rfl rfl rfl ?_
  refine XO_v1 (ev_fieldAddr rfl fld_65_3) (.some rfl rfl rfl rfl gbt) rfl rfl rfl ?_
  refine XO_v1 (ev_load rfl sct_3 (fun hg => by first | exact Sl.get0 hN hx rfl | (repeat (first | exact Cell.here rfl | apply Cell.there | apply Cell.app)))) (.some rfl rfl rfl rfl gbt) rfl rfl rfl ?_
  refine XO_v1 (ev_cmp rfl rfl rfl) (.some rfl rfl rfl rfl gbt) rfl rfl rfl ?_
  refine XO_and0 rfl rfl rfl rfl rfl ?_
  refine zM ?_
  refine XO_pushT 6 rfl rfl rfl ?_
  refine XO_v1 (ev_fieldAddr rfl fld_65_4) (.some rfl rfl rfl rfl gbt) rfl rfl rfl ?_
  refine XO_v1 (ev_loadA rfl agt_63 (fun hg => by first | (repeat (first | exact Cells.here | exact Cells.s0 (vs := [_, _, _, _, _, _, _, _, _, _, _, _, _, _]) rfl | apply Cells.there | apply Cells.app))) rfl) (.some rfl rfl rfl rfl gbt) rfl rfl rfl ?_
  refine XO_v1 (ev_buildL (ps := []) [_, _, _, _, _, _, _, _, _, _, _, _, _, _] plt_63 rfl rfl) (.some rfl rfl rfl rfl gbt) rfl rfl rfl ?_
  refine XO_v1 (ev_eqS2 rfl rfl eqt2_63 rfl) (.some rfl rfl rfl rfl gbt) rfl rfl rfl ?_
  refine XO_and0 rfl rfl rfl rfl rfl ?_
  refine zA ?_
  refine XO_nil ?_
  refine at_block_n ?_
  refine at_then ?_
  refine X_seq ?_
  refine zR ?_
  refine zM ?_
  refine XO_v0 (ev_not rfl) rfl rfl rfl ?_
  refine zN ?_
  refine X_cond rfl (fun hc119 => ?_) (fun hc119 => ?_)
  ·
   have hb : (idB p && kndB p) = false := by first | (exact (show (idB p && kndB p) = false from by rw [knd_1 hk hw1]; exact (and_k1 _ _ _ _ _ _).symm.trans ((Bool.not_eq_true' _).mp hc119))) | (exact (show (idB p && kndB p) = false from by rw [knd_2 hk]; exact (and_k2 _ _ _ _ _ _ _).symm.trans ((Bool.not_eq_true' _).mp hc119))) | (exact (show (idB p && kndB p) = false from by rw [knd_3 hk]; exact (and_k1 _ _ _ _ _ _).symm.trans ((Bool.not_eq_true' _).mp hc119))) | exact knd_4 hk1 hk2 hk3
   refine zR ?_
   refine zA ?_
   refine zN ?_
   refine X_ret ?_
   refine at_then_r ?_
   exact at_ret1 rfl rfl (fun w hw => ⟨by rw [pchk_3 hlen hnd hb], hw.drop⟩)
  have hb : (idB p && kndB p) = true := by first | (exact (show (idB p && kndB p) = true from by rw [knd_1 hk hw1]; exact (and_k1 _ _ _ _ _ _).symm.trans ((Bool.not_eq_false' _).mp hc119))) | (exact (show (idB p && kndB p) = true from by rw [knd_2 hk]; exact (and_k2 _ _ _ _ _ _ _).symm.trans ((Bool.not_eq_false' _).mp hc119))) | (exact (show (idB p && kndB p) = true from by rw [knd_3 hk]; exact (and_k1 _ _ _ _ _ _).symm.trans ((Bool.not_eq_false' _).mp hc119))) | (exfalso; have h := hc119; simp at h)
  refine X_skip ?_
  refine at_then ?_
  refine zR ?_
  refine zA ?_
  refine zN ?_
  refine X_ret ?_
  exact at_ret1 rfl rfl (fun w hw => ⟨by rw [pchk_4 hlen hnd hb], hw.drop⟩)
 have hk3 : p.kind ≠ 3 := by simpa using hc104
 refine X_region ?_
 refine zA ?_
 refine XO_nil ?_
 refine at_block_n ?_
 refine at_then ?_
 refine X_seq ?_
 refine zR ?_
 refine zM ?_
 refine XO_v0 (ev_not rfl) rfl rfl rfl ?_
 refine zN ?_
 refine X_cond rfl (fun hc119 => ?_) (fun hc119 => ?_)
 ·
  have hb : (idB p && kndB p) = false := by first | (exact (show (idB p && kndB p) = false from by rw [knd_1 hk hw1]; exact (and_k1 _ _ _ _ _ _).symm.trans ((Bool.not_eq_true' _).mp hc119))) | (exact (show (idB p && kndB p) = false from by rw [knd_2 hk]; exact (and_k2 _ _ _ _ _ _ _).symm.trans ((Bool.not_eq_true' _).mp hc119))) | (exact (show (idB p && kndB p) = false from by rw [knd_3 hk]; exact (and_k1 _ _ _ _ _ _).symm.trans ((Bool.not_eq_true' _).mp hc119))) | exact knd_4 hk1 hk2 hk3
  refine zR ?_
  refine zA ?_
  refine zN ?_
  refine X_ret ?_
  refine at_then_r ?_
  exact at_ret1 rfl rfl (fun w hw => ⟨by rw [pchk_3 hlen hnd hb], hw.drop⟩)
 have hb : (idB p && kndB p) = true := by first | (exact (show (idB p && kndB p) = true from by rw [knd_1 hk hw1]; exact (and_k1 _ _ _ _ _ _).symm.trans ((Bool.not_eq_false' _).mp hc119))) | (exact (show (idB p && kndB p) = true from by rw [knd_2 hk]; exact (and_k2 _ _ _ _ _ _ _).symm.trans ((Bool.not_eq_false' _).mp hc119))) | (exact (show (idB p && kndB p) = true from by rw [knd_3 hk]; exact (and_k1 _ _ _ _ _ _).symm.trans ((Bool.not_eq_false' _).mp hc119))) | (exfalso; have h := hc119; simp at h)
 refine X_skip ?_
 refine at_then ?_
 refine zR ?_
 refine zA ?_
 refine zN ?_
 refine X_ret ?_
 exact at_ret1 rfl rfl (fun w hw => ⟨by rw [pchk_4 hlen hnd hb], hw.drop⟩)
theorem w_ixI {I : HMap} {av : Option Addr} {n c : Nat} {xs : List Int} (hS : Sl I 1 encI av n c xs) (hn : n ≤ 100000) {fid : Nat} {cap : List Value} {P : Int → Bool} (hF : Fun Tryz.prog fid) (hf : ∀ x ∈ xs, RetV Tryz.prog fid ([.int .i64 x] ++ cap) I (.bool (P x))) : RetV Tryz.prog 88 [.slice av n c, .func (.func fid) #[] cap.toArray] I (.int .i64 (idxF P xs)) := by
 intro g H w hw
 refine enter Tryz.func88 rfl Tryz.ntmps88 rfl hw ?_
 have hS := hS
 refine zR ?_
 refine zA ?_
 refine zN ?_
 refine X_seq ?_
 refine zR ?_
 refine zM ?_
 refine XO_v0 (ev_lenS rfl slt_23) rfl rfl rfl ?_
 refine zM ?_
 refine zN ?_
 refine X_block ?_
 refine X_loopT [(0, _), (1, _), (7, _)] (.cons rfl (.cons rfl (.cons rfl .nil))) (fun T L0 mz E I' loc' => ∃ (k : Nat), mz = n - k ∧ E = (8, .int .i64 k) :: T ∧ I = I' ∧ L0 = loc' ∧ k ≤ n ∧ (xs.take k).any P = false) _ _ _ _ ⟨0, rfl, rfl, rfl, rfl, Nat.zero_le _, rfl⟩ (.cons rfl (.cons rfl (.cons rfl (.cons rfl .nil)))) (HLe.refl _) rfl ?_
 rintro mz E I' loc' ⟨k, rfl, rfl, rfl, rfl, hk, hno⟩
 refine zR ?_
 refine zC ?_
 refine zN ?_
 refine X_seq ?_
 refine X_cond rfl (fun hc9 => ?_) (fun hc9 => ?_)
 ·
  have hlt_k : k < n := by have h := hc9; simp at h; omega
  obtain ⟨x, hx⟩ := hS.at hlt_k
  refine X_skip ?_
  refine at_then ?_
  refine X_seq ?_
  refine X_block ?_
  refine zR ?_
  refine zM ?_
  refine zA ?_
  refine zN (zR ?_)
  refine zM ?_
  refine zM ?_
  refine zM ?_
  refine XO_v0 (ev_indexSl rfl rfl slt_23 (by assumption) (fun hg => by first | omega | (simp [conj] at hg; omega))) rfl rfl rfl ?_
  refine XO_v0 (ev_load rfl sct_3 (fun hg => by first | exact Sl.get0 hS hx rfl | (repeat (first | exact Cell.here rfl | apply Cell.there | apply Cell.app)))) rfl rfl rfl ?_
  refine XO_callV0 (cap := cap) (vs := [_]) rfl rfl hF (hf x (List.mem_of_getElem? hx)) rfl rfl ?_
  refine zN ?_
  refine X_cond rfl (fun hc16 => ?_) (fun hc16 => ?_)
  ·
   refine zR ?_
   refine zM ?_
   refine zA ?_
   refine zN ?_
   refine X_ret ?_
   refine at_block_r ?_
   refine at_then_r ?_
   refine at_then_r ?_
   refine at_block_r ?_
   refine at_then_r ?_
   exact at_ret1 rfl rfl (fun w hw => ⟨by rw [idx_hit hno hx hc16], hw.drop⟩)
  refine X_skip ?_
  refine at_block_n ?_
  refine at_then ?_
  refine X_region ?_
  refine XO_v0 (ev_arB rfl rfl rfl (fun _ => by omega)) rfl rfl rfl ?_
  refine zM ?_
  refine XO_nil ?_
  exact at_met2 _ _ ⟨n - (k + 1), by omega, k + 1, rfl, rfl, rfl, rfl, by omega, any_no hx hno hc16⟩ (.cons rfl (.cons rfl (.cons rfl (.cons rfl .nil)))) (by repeat (first | exact .refl | exact subL_left | refine subL_app ?_ | refine .drop ?_ | refine subL_add ?_))
 have hge_k : n ≤ k := by have h := hc9; simp at h; omega
 refine X_exit ?_
 refine at_then_e ?_
 refine at_then_e ?_
 refine at_block_hit ?_
 refine at_then ?_
 refine zR ?_
 refine zA ?_
 refine zN ?_
 refine X_ret ?_
 exact at_ret1 rfl rfl (fun w hw => ⟨by rw [idx_none hS.len hge_k hno], hw.drop⟩)
theorem w_cnI {I : HMap} {av : Option Addr} {n c : Nat} {xs : List Int} (hS : Sl I 1 encI av n c xs) (hn : n ≤ 100000) {fid : Nat} {cap : List Value} {P : Int → Bool} (hF : Fun Tryz.prog fid) (hf : ∀ x ∈ xs, RetV Tryz.prog fid ([.int .i64 x] ++ cap) I (.bool (P x))) : RetV Tryz.prog 53 [.slice av n c, .func (.func fid) #[] cap.toArray] I (.bool (xs.any P)) := by
 intro g H w hw
 refine enter Tryz.func53 rfl Tryz.ntmps53 rfl hw ?_
 refine zR ?_
 refine zA ?_
 refine zN (zR ?_)
 refine zM ?_
 refine zM ?_
 refine XO_callV0 (cap := []) (vs := [_, _]) rfl rfl fun_88 (w_ixI hS hn hF hf) rfl rfl ?_
 refine zC ?_
 refine zA ?_
 refine zN ?_
 refine X_ret ?_
 exact at_ret1 rfl rfl (fun w hw => ⟨by rw [← idx_any], hw.drop⟩)
theorem w_ck1 {I : HMap} {b r : Nat} {s : List (Int × Bool)} (hb : I b = some (.cells #[.map (some r)] 111 (0, 0))) (hr : I r = some (mapO (Value.int .i64) Value.bool s)) (x : Int) : RetV Tryz.prog 73 [.int .i64 x, .pointer (some ⟨b, 0, none⟩)] I (.bool (!setM s x)) := by
 intro g H w hw
 refine enter Tryz.func73 rfl Tryz.ntmps73 rfl hw ?_
 refine zR ?_
 refine zA ?_
 refine zN (zR ?_)
 refine XO_v0 (ev_load rfl sct_111 (fun hg => by first | exact .imm hb rfl | (repeat (first | exact Cell.here rfl | apply Cell.there | apply Cell.app)))) rfl rfl rfl ?_
 refine zM ?_
 refine XO_v0 (ev_lookupBool  mpt_111 key_3 rfl rfl (fun _ => .inl hr)) rfl rfl rfl ?_
 refine XO_v0 (ev_not rfl) rfl rfl rfl ?_
 refine zA ?_
 refine zN ?_
 refine X_ret ?_
 exact at_ret1 rfl rfl (fun w hw => ⟨by first | rfl | simp_all, hw.drop⟩)
end Go.Proofs.YtehkiccapbkhnaaGreat
end
section
namespace Go.Proofs.YtehkiccapbkhnaaGreat
open Go Go.Kn Go.Proofs
def idsP (ps : List Pt) : List Int := ps.map (·.id)
def lsQ (ps : List Pt) (i : Nat) : Bool := !((decide ((i : Int) > 0) && decide ((ps.getD i zeroP).id ≤ (ps.getD ((i : Int) - 1).toNat zeroP).id)) || (ps.getD i zeroP).needs.any (fun n => !hasI (ps.take i) n))
theorem lsQ_at {ps : List Pt} {k : Nat} {p : Pt} {l : Int} {s : List (Int × Bool)} (hp : ps[k]? = some p) (h1 : 1 ≤ p.id) (hl : lastI (idsP ps) k l) (hs : ∀ x, setM s x = hasI (ps.take k) x) : lsQ ps k = !(decide (p.id ≤ l) || p.needs.any fun x => !setM s x) := by
  unfold lsQ
  rw [getD_of hp]
  simp only [hs]
  congr 2
  cases k with
  | zero =>
    rw [hl.1 rfl, Bool.eq_iff_iff]; simp; omega
  | succ k =>
    have hk := (List.getElem?_eq_some_iff.1 hp).1
    have hy : ps[k]? = some (ps[k]'(by omega)) := List.getElem?_eq_getElem _
    have e := hl.2 (ps[k]'(by omega)).id (by rw [Nat.add_sub_cancel]; simp [idsP, hy]) (by omega)
    rw [show (((k + 1 : Nat) : Int) - 1).toNat = k by omega, getD_of hy, ← e, Bool.eq_iff_iff]; simp
theorem lastP_step {ps : List Pt} {k : Nat} {p : Pt} (hp : ps[k]? = some p) : lastI (idsP ps) (k + 1) p.id := lastI_step (by simp [idsP, hp])
theorem has_snoc {ps : List Pt} {k : Nat} {p : Pt} (hp : ps[k]? = some p) (x : Int) : hasI (ps.take (k + 1)) x = (decide (p.id = x) || hasI (ps.take k) x) := by
  unfold hasI
  rw [take_snoc hp, List.any_append, Bool.eq_iff_iff]
  simp [or_comm]
theorem has_take {ps : List Pt} {k : Nat} {n : Int} (h : hasI (ps.take k) n = true) : hasI ps n = true := by
  obtain ⟨q, hq, e⟩ := hasI_iff.1 h
  exact hasI_iff.2 ⟨q, List.mem_of_mem_take hq, e⟩
theorem lsQ_lsP {ps : List Pt} (h0 : orF (ps.map pchk) = 0) : (List.range ps.length).all (lsQ ps) = lsB ps := by
  rw [Bool.eq_iff_iff]
  constructor
  · intro h
    unfold lsB
    rw [List.all_eq_true] at h ⊢
    intro i hi
    have := h i hi
    unfold lsQ at this
    unfold lsP
    simp only [Bool.not_eq_true', Bool.or_eq_false_iff] at this ⊢
    refine ⟨this.1, ?_⟩
    have h2 := this.2
    rw [List.any_eq_false] at h2 ⊢
    intro n hn hc
    refine h2 n hn ?_
    rw [Bool.not_eq_true'] at hc ⊢
    cases hh : hasI (ps.take i) n with
    | false => rfl
    | true => rw [has_take hh] at hc; cases hc
  · intro h
    have hL := ls_lst h0 h
    unfold lsB at h
    rw [List.all_eq_true] at h ⊢
    intro i hi
    have := h i hi
    unfold lsP at this
    unfold lsQ
    simp only [Bool.not_eq_true', Bool.or_eq_false_iff] at this ⊢
    refine ⟨this.1, ?_⟩
    rw [List.any_eq_false]
    intro n hn hc
    have hk : ps[i]? = some (ps.getD i zeroP) := some_getD rfl (List.mem_range.1 hi)
    obtain ⟨q, hq, e⟩ := hL.before hk hn
    rw [hasI_iff.2 ⟨q, hq, e⟩] at hc
    cases hc
/-! ### Inserts and removes of a sign -/
def kindL (k : Int) (ps : List Pt) (s : Int) : List Int := (ps.filter fun q => q.kind == k && q.sign == s).map (·.id)
theorem kindL_snoc {c : Int} {ps : List Pt} {k : Nat} {p : Pt} (hp : ps[k]? = some p) (s : Int) : kindL c (ps.take (k + 1)) s = kindL c (ps.take k) s ++ (if p.kind = c ∧ p.sign = s then [p.id] else []) := by
  unfold kindL
  rw [take_snoc hp, List.filter_append, List.map_append]
  congr 1
  by_cases h : p.kind = c ∧ p.sign = s
  · rw [if_pos h]; simp [h.1, h.2]
  · rw [if_neg h]
    have : (p.kind == c && p.sign == s) = false := by
      rw [Bool.eq_false_iff]; intro hc; simp at hc; exact h hc
    simp [this]
theorem mem_kindL {c : Int} {ps : List Pt} {s x : Int} : x ∈ kindL c ps s ↔ ∃ q ∈ ps, q.kind = c ∧ q.sign = s ∧ q.id = x := by
  unfold kindL
  rw [mem_ids]
  simp [and_assoc]
def InsM (mi : List (Int × Int)) (ps : List Pt) : Prop := ∀ s, kindL 2 ps s = (mget mi s).toList
theorem InsM.nil {ps : List Pt} : InsM [] (ps.take 0) := fun s => by simp [kindL, mget]
theorem InsM.put {mi : List (Int × Int)} {ps : List Pt} {k : Nat} {p : Pt} (h : InsM mi (ps.take k)) (hp : ps[k]? = some p) (hk : p.kind = 2) (hn : mget mi p.sign = none) : InsM (mset mi p.sign p.id) (ps.take (k + 1)) := fun s => by
  rw [kindL_snoc hp, h s, mget_mset]
  by_cases e : p.sign = s
  · subst e; rw [if_pos ⟨hk, rfl⟩, if_pos rfl, hn]; rfl
  · rw [if_neg (fun q => e q.2), if_neg e, List.append_nil]
theorem InsM.skip {mi : List (Int × Int)} {ps : List Pt} {k : Nat} {p : Pt} (h : InsM mi (ps.take k)) (hp : ps[k]? = some p) (hk : p.kind ≠ 2) : InsM mi (ps.take (k + 1)) := fun s => by
  rw [kindL_snoc hp, h s, if_neg (fun q => hk q.1), List.append_nil]
def RemM (mr : List (Int × (Value × Nat × List Value))) (ps : List Pt) : Prop := ∀ s, ((mget mr s).getD nilT).2.2 = (kindL 3 ps s).flatMap encI
theorem RemM.nil {ps : List Pt} : RemM [] (ps.take 0) := fun s => by simp [kindL, mget, nilT]
theorem RemM.put {mr : List (Int × (Value × Nat × List Value))} {ps : List Pt} {k n : Nat} {p : Pt} {v : Value} (h : RemM mr (ps.take k)) (hp : ps[k]? = some p) (hk : p.kind = 3) : RemM (mset mr p.sign (v, n, ((mget mr p.sign).getD nilT).2.2 ++ [p.id].flatMap encI)) (ps.take (k + 1)) := fun s => by
  rw [kindL_snoc hp, mget_mset]
  by_cases e : p.sign = s
  · subst e; rw [if_pos rfl, if_pos ⟨hk, rfl⟩, List.flatMap_append, ← h]; rfl
  · rw [if_neg e, if_neg (fun q => e q.2), List.append_nil, h s]
theorem RemM.skip {mr : List (Int × (Value × Nat × List Value))} {ps : List Pt} {k : Nat} {p : Pt} (h : RemM mr (ps.take k)) (hp : ps[k]? = some p) (hk : p.kind ≠ 3) : RemM mr (ps.take (k + 1)) := fun s => by
  rw [kindL_snoc hp, h s, if_neg (fun q => hk q.1), List.append_nil]
theorem kindL_len {c : Int} {ps : List Pt} {s : Int} : (kindL c ps s).length ≤ ps.length := by
  unfold kindL
  rw [List.length_map]
  exact List.length_filter_le _ _
theorem rem_sl {I : HMap} {e : Nat} {mr : List (Int × (Value × Nat × List Value))} {ps : List Pt} {L : Go.Kn.Loc} (h : RemM mr ps) (hA : OwnAll e 1 (mr.map (·.2)) L) (hI : ∀ b o, (b, o) ∈ L → I b = some o) (s : Int) :
    ∃ av c, ((mget mr s).getD nilT).1 = .slice av (kindL 3 ps s).length c ∧ Sl I 1 encI av (kindL 3 ps s).length c (kindL 3 ps s) := by
  obtain ⟨A, Lt, B, rfl, hO, _⟩ := hA.at s
  rw [h s] at hO
  obtain ⟨av, c, e1, e2⟩ := hO.sl encI_len (by decide) (fun b o hb => hI b o (by simp [hb]))
  have hn := e2.len
  rw [← hn] at e1 e2
  exact ⟨av, c, e1, e2⟩
theorem rem_le {e : Nat} {mr : List (Int × (Value × Nat × List Value))} {ps : List Pt} {s : Int} {L : Go.Kn.Loc} (h : RemM mr ps) (hO : OwnS e 1 ((mget mr s).getD nilT).1 ((mget mr s).getD nilT).2.1 ((mget mr s).getD nilT).2.2 L) : ((mget mr s).getD nilT).2.1 ≤ ps.length := by
  have h1 := hO.1
  rw [h s, lenI] at h1
  have h2 := kindL_len (c := 3) (ps := ps) (s := s)
  omega
theorem perm_in {x y : Nat × Obj} {A L B : Go.Kn.Loc} : (x :: y :: (A ++ (L ++ B))).Perm (L ++ (x :: y :: (A ++ B))) := List.perm_append_comm_assoc (x :: y :: A) L B
/-- A patch with those of its sign that put it in or strike it. -/
def tgP (ps : List Pt) (p : Pt) : Bool := !(((kindL 2 ps p.sign).any fun i => p.id != i && !onF ps p.id i) || (kindL 3 ps p.sign).any (onF ps p.id))
theorem tog_eq {ps : List Pt} (hL : Lst ps) {mi : List (Int × Int)} (hi : InsM mi ps) : togA ps = ps.all (tgP ps) := by
  unfold togA
  rw [Bool.eq_iff_iff, List.all_eq_true, List.all_eq_true]
  refine forall_congr' fun p => forall_congr' fun hp => ?_
  unfold tgP
  rw [List.all_eq_true]
  simp only [Bool.not_eq_true', Bool.or_eq_false_iff, List.any_eq_false, mem_kindL]
  constructor
  · intro h
    constructor
    · rintro x ⟨q, hq, h2, hs, rfl⟩ hc
      have := h q hq
      unfold togB at this
      rw [if_neg (by simpa using hs.symm), if_pos h2] at this
      simp at this hc
      rcases this with e | e
      · exact hc.1 e
      · rw [hc.2] at e; cases e.2
    · rintro x ⟨q, hq, h3, hs, rfl⟩ hc
      have := h q hq
      unfold togB at this
      rw [if_neg (by simpa using hs.symm), if_neg (by omega), if_pos h3] at this
      simp at this
      rcases this with e | e
      · rw [e, hL.on_irr] at hc; cases hc
      · rw [e] at hc; cases hc
  · rintro ⟨h1, h2⟩ q hq
    unfold togB
    by_cases hs : p.sign = q.sign
    · rw [if_neg (by simpa using hs)]
      by_cases e : p.id = q.id
      · simp [e]
      · by_cases k2 : q.kind = 2
        · rw [if_pos k2]
          have := h1 q.id ⟨q, hq, k2, hs.symm, rfl⟩
          have hk : p.kind ≠ 2 := fun k => e (by
            have hm1 := mem_kindL.2 ⟨p, hp, k, rfl, rfl⟩
            have hm2 := mem_kindL.2 ⟨q, hq, k2, hs.symm, rfl⟩
            rw [hi p.sign] at hm1 hm2
            cases hg : mget mi p.sign with
            | none => rw [hg] at hm1; cases hm1
            | some z => rw [hg] at hm1 hm2; simp at hm1 hm2; rw [hm1, hm2])
          simp [e] at this
          simp [this, hk]
        · rw [if_neg k2]
          by_cases k3 : q.kind = 3
          · rw [if_pos k3]
            have := h2 q.id ⟨q, hq, k3, hs.symm, rfl⟩
            simp at this
            simp [this]
          · rw [if_neg k3]; simp
    · rw [if_pos hs]; simp
theorem tog_two {ps : List Pt} (hL : Lst ps) {mi : List (Int × Int)} {k : Nat} {p : Pt} {id : Int} (h : InsM mi (ps.take k)) (hp : ps[k]? = some p) (hk : p.kind = 2) (hn : mget mi p.sign = some id) : togA ps = false := by
  have hm : id ∈ kindL 2 (ps.take k) p.sign := by rw [h, hn]; simp
  obtain ⟨q, hq, k2, hs, rfl⟩ := mem_kindL.1 hm
  have hlt := hL.fresh hp q hq
  unfold togA
  rw [Bool.eq_false_iff]
  intro hc
  rw [List.all_eq_true] at hc
  have h1 := hc p (List.mem_of_getElem? hp)
  rw [List.all_eq_true] at h1
  have h2 := h1 q (List.mem_of_mem_take hq)
  unfold togB at h2
  rw [if_neg (by simpa using hs.symm), if_pos k2] at h2
  simp [hk] at h2
  omega
theorem tg_ins {ps : List Pt} {p : Pt} {mi : List (Int × Int)} (hi : InsM mi ps) : ((mget mi p.sign).isSome && (p.id != (mget mi p.sign).getD 0) && !onF ps p.id ((mget mi p.sign).getD 0)) = ((kindL 2 ps p.sign).any fun i => p.id != i && !onF ps p.id i) := by
  rw [hi p.sign]
  cases mget mi p.sign with
  | none => rfl
  | some x => simp
theorem chkR_1 {ps : List Pt} (h : ps.length > 512) : chkR ps = 2 := by unfold chkR; rw [if_pos h]
theorem chkR_2 {ps : List Pt} (h : ¬ ps.length > 512) {k : Nat} {p : Pt} (hp : ps[k]? = some p) (h0 : orF ((ps.take k).map pchk) = 0) (h1 : pchk p ≠ 0) : chkR ps = pchk p := by
  have : orF (ps.map pchk) = pchk p := orF_take (k := k) (by simp [hp]) (by rw [← List.map_take]; exact h0) h1
  unfold chkR; rw [if_neg h, this, if_pos h1]
theorem chkR_3 {ps : List Pt} (h : ¬ ps.length > 512) (h0 : orF (ps.map pchk) = 0) (h1 : lsB ps = false) : chkR ps = 380 := by unfold chkR; rw [if_neg h, if_neg (by omega), h1]; rfl
theorem chkR_4 {ps : List Pt} (h : ¬ ps.length > 512) (h0 : orF (ps.map pchk) = 0) (h1 : lsB ps = true) (h2 : togA ps = false) : chkR ps = 380 := by unfold chkR; rw [if_neg h, if_neg (by omega), h1, h2]; rfl
theorem chkR_5 {ps : List Pt} (h : ¬ ps.length > 512) (h0 : orF (ps.map pchk) = 0) (h1 : lsB ps = true) (h2 : togA ps = true) : chkR ps = 0 := by unfold chkR; rw [if_neg h, if_neg (by omega), h1, h2]; rfl
theorem or_snoc {ps : List Pt} {k : Nat} {p : Pt} (hp : ps[k]? = some p) (h0 : orF ((ps.take k).map pchk) = 0) (h1 : pchk p = 0) : orF ((ps.take (k + 1)).map pchk) = 0 := by
  rw [orF_zero] at h0 ⊢
  intro x hx
  rw [take_snoc hp, List.map_append, List.mem_append] at hx
  rcases hx with hx | hx
  · exact h0 x hx
  · simp at hx; rw [hx, h1]
theorem pchk_pos {p : Pt} (h : pchk p = 0) : 1 ≤ p.id ∧ p.id ≤ 1048576 ∧ 0 ≤ p.sign ∧ p.sign ≤ 1048576 ∧ p.needs.length ≤ 32 := by
  unfold pchk at h
  split at h
  · cases h
  · split at h
    · rename_i h1 h2
      simp only [Bool.and_eq_true] at h2
      have h3 := h2.2.1
      unfold idB at h3
      simp at h3
      omega
    · cases h
theorem nd_of {I : HMap} {av : Option Addr} {n c : Nat} {ps : List Pt} (hP : SlP I av n c ps) (hz : ∀ p ∈ ps, pchk p = 0) : ∀ p ∈ ps, p.n ≤ 100000 := fun p hp => by
  have h1 : Sl I 1 encI p.a p.n p.c p.needs := hP.2 p hp
  have h2 := hz p hp
  have h3 := h1.len
  unfold pchk at h2
  split at h2
  · cases h2
  · omega
theorem nd_chk {I : HMap} {av : Option Addr} {n c : Nat} {ps : List Pt} (hP : SlP I av n c ps) (h : chkR ps = 0) : ∀ p ∈ ps, p.n ≤ 100000 := nd_of hP fun p hp => orF_zero.1 (chkR_ok h).2.1 _ (List.mem_map.2 ⟨p, hp, rfl⟩)
end Go.Proofs.YtehkiccapbkhnaaGreat
end
section
namespace Go.Proofs.YtehkiccapbkhnaaGreat
open Go Go.Kn Go.Proofs
theorem w_chkR {I : HMap} {av : Option Addr} {n c : Nat} {ps : List Pt} (hP : SlP I av n c ps) (hn : n ≤ 100000) : RetV Tryz.prog 39 [.slice av n c] I (.int .i64 (chkR ps)) := by
 intro g H w hw
 refine enter Tryz.func39 rfl Tryz.ntmps39 rfl hw ?_
 have hIc := HLe.refl I
 refine zR ?_
 refine zA ?_
 refine zN ?_
 refine X_seq ?_
 refine zR ?_
 refine zM ?_
 refine XO_v0 (ev_lenS rfl slt_22) rfl rfl rfl ?_
 refine zC ?_
 refine zN ?_
 refine X_cond rfl (fun hc24 => ?_) (fun hc24 => ?_)
 ·
  have hlen : ps.length > 512 := by rw [hP.len]; simp at hc24; omega
  refine zR ?_
  refine zA ?_
  refine zN ?_
  refine X_ret ?_
  refine at_then_r ?_
  exact at_ret1 rfl rfl (fun w hw => ⟨by rw [chkR_1 hlen], (hw.mono hIc).drop⟩)
 have hlen : ¬ ps.length > 512 := by rw [hP.len]; simp at hc24; omega
 refine X_skip ?_
 refine at_then ?_
 refine X_seq ?_
 refine zR ?_
 refine zM ?_
 refine XO_v0 (ev_lenS rfl slt_22) rfl rfl rfl ?_
 refine zM ?_
 refine zN ?_
 refine X_block ?_
 refine X_loopT [(0, _), (25, _), (26, _)] (.cons rfl (.cons rfl (.cons rfl .nil))) (fun T L0 mz E I' loc' => ∃ (k : Nat) (e : Int), mz = n - k ∧ E = (27, .int .i64 k) :: T ∧ I = I' ∧ L0 = loc' ∧ k ≤ n ∧ e = 0 ∧ orF ((ps.take k).map pchk) = 0) _ _ _ _ ⟨0, 0, rfl, rfl, rfl, rfl, Nat.zero_le _, rfl, rfl⟩ (.cons rfl (.cons rfl (.cons rfl (.cons rfl .nil)))) (HLe.refl _) rfl ?_
 rintro mz E I' loc' ⟨k, e, rfl, rfl, rfl, rfl, hk, he, h0⟩
 refine zR ?_
 refine zC ?_
 refine zN ?_
 refine X_seq ?_
 refine X_cond rfl (fun hc28 => ?_) (fun hc28 => ?_)
 ·
  have hlt_k : k < n := by have h := hc28; simp at h; omega
  have hP1 := hP.1
  obtain ⟨p, hp, hN⟩ := hP.at hlt_k
  have hpm := List.mem_of_getElem? hp
  have hN : Sl I 1 encI p.a p.n p.c p.needs := hN
  refine X_skip ?_
  refine at_then ?_
  refine X_seq ?_
  refine X_block ?_
  refine zR ?_
  refine XO_v0 (ev_indexSl rfl rfl slt_22 (by assumption) (fun hg => by first | omega | (simp [conj] at hg; omega))) rfl rfl rfl ?_
  refine XO_v0 (ev_loadA rfl agt_65 (fun hg => by first | exact Sl.getA hP1 hp | (repeat (first | exact Cells.here | exact Cells.s0 (vs := [_, _, _, _, _, _, _, _, _, _, _, _, _, _, _, _, _, _, _]) rfl | apply Cells.there | apply Cells.app))) rfl) rfl rfl rfl ?_
  refine XO_alloc zt_65 rfl rfl (fun b_4 => ?_)
  refine XO_storeA rfl rfl szt_65 rfl rfl rfl rfl (by repeat (first | exact Upd.here | apply Upd.there | apply upd_app)) ?_
  refine zN (zR ?_)
  refine XO_v0 (ev_loadA rfl agt_65 (fun hg => by first | exact Sl.getA hP1 hp | (repeat (first | exact Cells.here | exact Cells.s0 (vs := [_, _, _, _, _, _, _, _, _, _, _, _, _, _, _, _, _, _, _]) rfl | apply Cells.there | apply Cells.app))) rfl) rfl rfl rfl ?_
  refine XO_callV0 (cap := []) (vs := [_]) rfl rfl fun_72 (w_pchk p hN) rfl rfl ?_
  refine zA ?_
  refine zN (zR ?_)
  refine zM ?_
  refine zC ?_
  refine zN ?_
  refine X_cond rfl (fun hc34 => ?_) (fun hc34 => ?_)
  ·
   have hbad : chkR ps = pchk p := chkR_2 hlen hp h0 (by simpa using hc34)
   refine zR ?_
   refine zM ?_
   refine zA ?_
   refine zN ?_
   refine X_ret ?_
   refine at_block_r ?_
   refine at_then_r ?_
   refine at_then_r ?_
   refine at_block_r ?_
   refine at_then_r ?_
   exact at_ret1 rfl rfl (fun w hw => ⟨by rw [hbad], (hw.mono hIc).drop⟩)
  have hpk : pchk p = 0 := by simpa using hc34
  refine X_skip ?_
  refine at_block_n ?_
  refine at_then ?_
  refine X_region ?_
  refine XO_v0 (ev_arB rfl rfl rfl (fun _ => by omega)) rfl rfl rfl ?_
  refine zM ?_
  refine XO_nil ?_
  exact at_met2 _ _ ⟨n - (k + 1), by omega, k + 1, _, rfl, rfl, rfl, rfl, by omega, hpk, or_snoc hp h0 hpk⟩ (.cons rfl (.cons rfl (.cons rfl (.cons rfl .nil)))) (by repeat (first | exact .refl | exact subL_left | refine subL_app ?_ | refine .drop ?_ | refine subL_add ?_))
 have hge_k : n ≤ k := by have h := hc28; simp at h; omega
 have h0 : orF (ps.map pchk) = 0 := by rw [take_all hP.len hge_k] at h0; exact h0
 have hz : ∀ p ∈ ps, pchk p = 0 := fun p hp => orF_zero.1 h0 _ (List.mem_map.2 ⟨p, hp, rfl⟩)
 have hnd := nd_of hP hz
 refine X_exit ?_
 refine at_then_e ?_
 refine at_then_e ?_
 refine at_block_hit ?_
 refine at_then ?_
 refine zR ?_
 refine XO_makeMap rfl rfl (fun r_37 => ?_)
 refine XO_alloc zt_111 rfl rfl (fun b_5 => ?_)
 refine zS szt_111 ?_
 refine zA ?_
 refine zN ?_
 refine X_seq ?_
 refine zR ?_
 refine zM ?_
 refine XO_v0 (ev_lenS rfl slt_22) rfl rfl rfl ?_
 refine zM ?_
 refine zN ?_
 refine X_block ?_
 refine X_loopT [(0, _), (5, _), (38, _), (39, _)] (.cons rfl (.cons rfl (.cons rfl (.cons rfl .nil)))) (fun T L0 mz E I' loc' => ∃ (k : Nat) (l : Int) (s : List (Int × Bool)), mz = n - k ∧ E = (6, .int .i64 l) :: (40, .int .i64 k) :: T ∧ I = I' ∧ [(b_5, .cells #[.map (some r_37)] 111 (0, 0)), (r_37, mapO (Value.int .i64) Value.bool s)] = loc' ∧ k ≤ n ∧ (List.range k).all (lsQ ps) = true ∧ lastI (idsP ps) k l ∧ ∀ x, setM s x = hasI (ps.take k) x) _ _ _ _ ⟨0, 0, [], rfl, rfl, rfl, rfl, Nat.zero_le _, rfl, ⟨fun _ => rfl, fun y hy h => absurd rfl h⟩, fun x => rfl⟩ (.cons rfl (.cons rfl (.cons rfl (.cons rfl (.cons rfl (.cons rfl .nil)))))) (HLe.refl _) rfl ?_
 rintro mz E I' loc' ⟨k, l, s, rfl, rfl, rfl, rfl, hk, hall, hl, hs⟩
 refine zR ?_
 refine zC ?_
 refine zN ?_
 refine X_seq ?_
 refine X_cond rfl (fun hc41 => ?_) (fun hc41 => ?_)
 ·
  have hlt_k : k < n := by have h := hc41; simp at h; omega
  have hP1 := hP.1
  obtain ⟨p, hp, hN⟩ := hP.at hlt_k
  have hpm := List.mem_of_getElem? hp
  have hN : Sl I 1 encI p.a p.n p.c p.needs := hN
  have hpn := hnd p hpm
  have hp1 := (pchk_pos (hz p hpm)).1
  refine X_skip ?_
  refine at_then ?_
  refine X_seq ?_
  refine X_block ?_
  refine zR ?_
  refine XO_v0 (ev_indexSl rfl rfl slt_22 (by assumption) (fun hg => by first | omega | (simp [conj] at hg; omega))) rfl rfl rfl ?_
  refine XO_v0 (ev_loadA rfl agt_65 (fun hg => by first | exact Sl.getA hP1 hp | (repeat (first | exact Cells.here | exact Cells.s0 (vs := [_, _, _, _, _, _, _, _, _, _, _, _, _, _, _, _, _, _, _]) rfl | apply Cells.there | apply Cells.app))) rfl) rfl rfl rfl ?_
  refine XO_alloc zt_65 rfl rfl (fun b_8 => ?_)
  refine XO_storeA rfl rfl szt_65 rfl rfl rfl rfl (by repeat (first | exact Upd.here | apply Upd.there | apply upd_app)) ?_
  refine zN ?_
  refine X_seq ?_
  refine zR ?_
  refine XO_v0 (ev_fieldAddr rfl fld_65_0) rfl rfl rfl ?_
  refine XO_v0 (ev_load rfl sct_3 (fun hg => by first | exact Sl.get0 hS2 hy rfl | (repeat (first | exact Cell.here rfl | apply Cell.there | apply Cell.app)))) rfl rfl rfl ?_
  refine zM ?_
  refine zC ?_
  refine zM ?_
  refine XO_pushF 4 rfl rfl rfl ?_
  refine XO_v1 (ev_fieldAddr rfl fld_65_5) (.some rfl rfl rfl rfl gbf) rfl rfl rfl ?_
  refine XO_v1 (ev_load rfl sct_23 (fun hg => by first | exact Sl.get0 hS2 hy rfl | (repeat (first | exact Cell.here rfl | apply Cell.there | apply Cell.app)))) (.some rfl rfl rfl rfl gbf) rfl rfl rfl ?_
  refine XO_v1 (ev_makeFunc (us := []) (vs := [_]) rfl rfl) (.some rfl rfl rfl rfl gbf) rfl rfl rfl ?_
  refine XO_callK1 (cap := []) (vs := [_, _]) rfl rfl fun_53 split_all (fun hg => RetK.ofV fun I' hI' hL' => w_cnI (cap := [.pointer (some ⟨b_5, 0, none⟩)]) (hN.mono hI') hpn fun_73 (fun x _ => w_ck1 (b := b_5) (r := r_37) (s := s) (hL' b_5 _ (by simp)) (hL' r_37 _ (by simp)) x)) (.some rfl rfl rfl rfl gbf) rfl rfl ?_
  refine XO_or0 rfl rfl rfl rfl rfl ?_
  refine zN ?_
  refine X_cond rfl (fun hc53 => ?_) (fun hc53 => ?_)
  ·
   have hbad : chkR ps = 380 := chkR_3 hlen h0 (by rw [← lsQ_lsP h0]; exact range_bad (k := k) (by rw [hP.len]; exact hlt_k) (by rw [lsQ_at hp hp1 hl hs]; exact congrArg (! ·) hc53))
   refine zR ?_
   refine zA ?_
   refine zN ?_
   refine X_ret ?_
   refine at_then_r ?_
   refine at_block_r ?_
   refine at_then_r ?_
   refine at_then_r ?_
   refine at_block_r ?_
   refine at_then_r ?_
   exact at_ret1 rfl rfl (fun w hw => ⟨by rw [hbad], (hw.mono hIc).drop⟩)
  refine X_skip ?_
  refine at_then ?_
  have hD := HLe.refl I
  refine X_noP ?_
  refine X_drawS I [(b_8, .cells (encP p).toArray 65 (0, 0)), (b_5, .cells #[.map (some r_37)] 111 (0, 0))] mixed ?_
  refine zT 0 rfl (ev_load rfl sct_111 (fun hg => by first | exact Sl.get0 hS2 hy rfl | (repeat (first | exact Cell.here rfl | apply Cell.there | apply Cell.app)))) hD ?_
  refine zT 1 rfl (ev_fieldAddr rfl fld_65_0) hD ?_
  refine zT 2 rfl (ev_load rfl sct_3 (fun hg => by first | exact Sl.get0 hS2 hy rfl | (repeat (first | exact Cell.here rfl | apply Cell.there | apply Cell.app)))) hD ?_
  refine zT 3 rfl (ev_fieldAddr rfl fld_65_0) hD ?_
  refine zT 4 rfl (ev_load rfl sct_3 (fun hg => by first | exact Sl.get0 hS2 hy rfl | (repeat (first | exact Cell.here rfl | apply Cell.there | apply Cell.app)))) hD ?_
  refine XD_one 5 rfl (by kernel_rfl) ?_
  refine XO_mapUpdate (m := s) (ek := Value.int .i64) (ev := Value.bool) (a := p.id)  true mpt_111 key_3 rfl rfl rfl rfl (by repeat (first | exact Upd.here | apply Upd.there | apply upd_app)) ?_
  refine XO_nil ?_
  refine zD hD ?_
  refine zT 6 rfl (ev_assign rfl) hD ?_
  refine XD_done (by kernel_rfl) ?_
  refine at_noP ?_
  refine at_block_n ?_
  refine at_then ?_
  refine X_region ?_
  refine XO_v0 (ev_arB rfl rfl rfl (fun _ => by omega)) rfl rfl rfl ?_
  refine zM ?_
  refine XO_nil ?_
  exact at_met2 _ _ ⟨n - (k + 1), by omega, k + 1, _, _, rfl, rfl, rfl, rfl, by omega, range_step hall (by rw [lsQ_at hp hp1 hl hs]; exact congrArg (! ·) hc53), lastP_step hp, fun x => by rw [setM_put, hs, has_snoc hp]⟩ (.cons rfl (.cons rfl (.cons rfl (.cons rfl (.cons rfl (.cons rfl .nil)))))) (by repeat (first | exact .refl | exact subL_left | refine subL_app ?_ | refine .drop ?_ | refine subL_add ?_))
 have hge_k : n ≤ k := by have h := hc41; simp at h; omega
 have hls : lsB ps = true := by rw [← lsQ_lsP h0, hP.len, show n = k by omega]; exact hall
 have hL : Lst ps := ls_lst h0 hls
 refine X_exit ?_
 refine at_then_e ?_
 refine at_then_e ?_
 refine at_block_hit ?_
 refine at_then ?_
 refine zR ?_
 refine zM ?_
 refine XO_callM (cap := []) (vs := [_]) rfl rfl fun_74 .nil (w_stands hP hn hL hnd) rfl rfl ?_
 rintro vv3 I3 L3 hI3 ⟨rfl, r9, rfl, hOn⟩
 have hP := hP.mono hI3; have hIc := hIc.trans hI3
 refine zA ?_
 refine zN (zR ?_)
 refine XO_makeMap rfl rfl (fun r_62 => ?_)
 refine XO_makeMap rfl rfl (fun r_63 => ?_)
 refine zA ?_
 refine zA ?_
 refine zN ?_
 refine X_seq ?_
 refine X_seq ?_
 refine X_dropTo [(r_63, mapO (Value.int .i64) fstT []), (r_62, mapO (Value.int .i64) (Value.int .i64) [])] (by repeat (first | exact subL_nil | exact .refl | refine .keep ?_ | refine .drop ?_)) ?_
 refine X_region ?_
 refine zM ?_
 refine XO_v0 (ev_lenS rfl slt_22) rfl rfl rfl ?_
 refine zM ?_
 refine zN ?_
 refine X_block ?_
 refine X_loopT [(0, _), (9, _), (10, _), (11, _), (64, _), (65, _)] (.cons rfl (.cons rfl (.cons rfl (.cons rfl (.cons rfl (.cons rfl .nil)))))) (fun T L0 mz E I' loc' => ∃ (k : Nat) (mi : List (Int × Int)) (mr : List (Int × (Value × Nat × List Value))) (L : Go.Kn.Loc), mz = n - k ∧ E = (66, .int .i64 k) :: T ∧ I3 = I' ∧ (r_63, mapO (Value.int .i64) fstT mr) :: (r_62, mapO (Value.int .i64) (Value.int .i64) mi) :: L = loc' ∧ k ≤ n ∧ InsM mi (ps.take k) ∧ RemM mr (ps.take k) ∧ OwnAll 3 1 (mr.map (·.2)) L) _ _ _ _ ⟨0, [], [], [], rfl, rfl, rfl, rfl, Nat.zero_le _, InsM.nil, RemM.nil, OwnAll.nil⟩ (.cons rfl (.cons rfl (.cons rfl (.cons rfl (.cons rfl (.cons rfl (.cons rfl .nil))))))) (HLe.refl _) rfl ?_
 rintro mz E I' loc' ⟨k, mi, mr, L, rfl, rfl, rfl, rfl, hk, hmi, hmr, hAll⟩
 refine zR ?_
 refine zC ?_
 refine zN ?_
 refine X_seq ?_
 refine X_cond rfl (fun hc67 => ?_) (fun hc67 => ?_)
 ·
  have hlt_k : k < n := by have h := hc67; simp at h; omega
  have hP1 := hP.1
  obtain ⟨p, hp, hN⟩ := hP.at hlt_k
  have hpm := List.mem_of_getElem? hp
  have hN : Sl I3 1 encI p.a p.n p.c p.needs := hN
  have hpn := hnd p hpm
  refine X_skip ?_
  refine at_then ?_
  refine X_seq ?_
  refine X_block ?_
  refine zR ?_
  refine XO_v0 (ev_indexSl rfl rfl slt_22 (by assumption) (fun hg => by first | omega | (simp [conj] at hg; omega))) rfl rfl rfl ?_
  refine XO_v0 (ev_loadA rfl agt_65 (fun hg => by first | exact Sl.getA hP1 hp | (repeat (first | exact Cells.here | exact Cells.s0 (vs := [_, _, _, _, _, _, _, _, _, _, _, _, _, _, _, _, _, _, _]) rfl | apply Cells.there | apply Cells.app))) rfl) rfl rfl rfl ?_
  refine XO_alloc zt_65 rfl rfl (fun b_13 => ?_)
  refine XO_storeA rfl rfl szt_65 rfl rfl rfl rfl (by repeat (first | exact Upd.here | apply Upd.there | apply upd_app)) ?_
  refine zN (zR ?_)
  refine XO_v0 (ev_fieldAddr rfl fld_65_1) rfl rfl rfl ?_
  refine XO_v0 (ev_load rfl sct_3 (fun hg => by first | exact Sl.get0 hS2 hy rfl | (repeat (first | exact Cell.here rfl | apply Cell.there | apply Cell.app)))) rfl rfl rfl ?_
  refine zN ?_
  refine X_block ?_
  refine zR ?_
  refine zC ?_
  refine zA ?_
  refine zN ?_
  refine X_cond rfl (fun hc72 => ?_) (fun hc72 => ?_)
  ·
   have hk2 : p.kind = 2 := by simpa using hc72
   refine X_seq ?_
   refine zR ?_
   refine zM ?_
   refine XO_v0 (ev_fieldAddr rfl fld_65_2) rfl rfl rfl ?_
   refine XO_v0 (ev_load rfl sct_3 (fun hg => by first | exact Sl.get0 hS2 hy rfl | (repeat (first | exact Cell.here rfl | apply Cell.there | apply Cell.app)))) rfl rfl rfl ?_
   refine XO_v0 (ev_lookupOkI (m := mi) (ek := Value.int .i64) (a := p.sign)  mpt_79 key_3 rfl rfl (fun _ => .inr (by simp))) rfl rfl rfl ?_
   refine zM ?_
   refine XO_v0 (ev_extract rfl rfl) rfl rfl rfl ?_
   refine XO_v0 (ev_extract rfl rfl) rfl rfl rfl ?_
   refine zA ?_
   refine zA ?_
   refine zN (zR ?_)
   refine zM ?_
   refine zN ?_
   refine X_cond rfl (fun hc81 => ?_) (fun hc81 => ?_)
   ·
    obtain ⟨id, hid⟩ := Option.isSome_iff_exists.1 hc81
    have hbad : chkR ps = 380 := chkR_4 hlen h0 hls (tog_two hL hmi hp hk2 hid)
    refine zR ?_
    refine zA ?_
    refine zN ?_
    refine X_ret ?_
    refine at_then_r ?_
    refine at_block_r ?_
    refine at_block_r ?_
    refine at_then_r ?_
    refine at_then_r ?_
    refine at_block_r ?_
    refine at_then_r ?_
    exact at_ret1 rfl rfl (fun w hw => ⟨by rw [hbad], (hw.mono hIc).drop⟩)
   have hnone : mget mi p.sign = none := by simpa using hc81
   refine X_skip ?_
   refine at_then ?_
   refine X_region ?_
   refine zM ?_
   refine XO_v0 (ev_fieldAddr rfl fld_65_2) rfl rfl rfl ?_
   refine XO_v0 (ev_load rfl sct_3 (fun hg => by first | exact Sl.get0 hS2 hy rfl | (repeat (first | exact Cell.here rfl | apply Cell.there | apply Cell.app)))) rfl rfl rfl ?_
   refine XO_v0 (ev_fieldAddr rfl fld_65_0) rfl rfl rfl ?_
   refine XO_v0 (ev_load rfl sct_3 (fun hg => by first | exact Sl.get0 hS2 hy rfl | (repeat (first | exact Cell.here rfl | apply Cell.there | apply Cell.app)))) rfl rfl rfl ?_
   refine XO_mapUpdate (m := mi) (ek := Value.int .i64) (ev := Value.int .i64) (a := p.sign)  p.id mpt_79 key_3 rfl rfl rfl rfl (by repeat (first | exact Upd.here | apply Upd.there | apply upd_app)) ?_
   refine XO_nil ?_
   refine at_block_n ?_
   refine at_block_n ?_
   refine at_then ?_
   refine X_region ?_
   refine XO_v0 (ev_arB rfl rfl rfl (fun _ => by omega)) rfl rfl rfl ?_
   refine zM ?_
   refine XO_nil ?_
   exact at_met2 _ _ ⟨n - (k + 1), by omega, k + 1, _, _, _, rfl, rfl, rfl, rfl, by omega, hmi.put hp hk2 hnone, hmr.skip hp (by omega), hAll⟩ (.cons rfl (.cons rfl (.cons rfl (.cons rfl (.cons rfl (.cons rfl (.cons rfl .nil))))))) (by repeat (first | exact .refl | exact subL_left | refine subL_app ?_ | refine .drop ?_ | refine subL_add ?_))
  have hk2n : p.kind ≠ 2 := by simpa using hc72
  refine zR ?_
  refine zC ?_
  refine zA ?_
  refine zN ?_
  refine X_cond rfl (fun hc87 => ?_) (fun hc87 => ?_)
  ·
   have hk3 : p.kind = 3 := by simpa using hc87
   obtain ⟨A, Lt, B, rfl, hOt, hset⟩ := hAll.at p.sign
   have hq := rem_le hmr hOt
   have hq2 := List.length_take_le k ps
   have hD := HLe.refl I3
   refine X_noP ?_
   refine X_drawS I3 [(b_13, .cells (encP p).toArray 65 (0, 0))] mixed ?_
   refine zT 0 rfl (ev_move rfl) hD ?_
   refine zT 1 rfl (ev_fieldAddr rfl fld_65_2) hD ?_
   refine zT 2 rfl (ev_load rfl sct_3 (fun hg => by first | exact Sl.get0 hS2 hy rfl | (repeat (first | exact Cell.here rfl | apply Cell.there | apply Cell.app)))) hD ?_
   refine zT 3 rfl (ev_move rfl) hD ?_
   refine zT 4 rfl (ev_fieldAddr rfl fld_65_2) hD ?_
   refine zT 5 rfl (ev_load rfl sct_3 (fun hg => by first | exact Sl.get0 hS2 hy rfl | (repeat (first | exact Cell.here rfl | apply Cell.there | apply Cell.app)))) hD ?_
   refine zT 7 rfl (ev_fieldAddr rfl fld_65_0) hD ?_
   refine zT 8 rfl (ev_load rfl sct_3 (fun hg => by first | exact Sl.get0 hS2 hy rfl | (repeat (first | exact Cell.here rfl | apply Cell.there | apply Cell.app)))) hD ?_
   refine XD_two 6 9 rfl rfl (by kernel_rfl) ?_ ?_
   ·
    refine XO_v0 (ev_lookupT (m := mr) (ek := Value.int .i64) (a := p.sign)  mpt_80 key_3 rfl rfl (fun _ => .inr (by simp))) rfl rfl rfl ?_
    refine XO_nil ?_
    refine zD hD ?_
    refine XD_one 9 rfl (by kernel_rfl) ?_
    refine XO_buildSlice (ps := [(0, _)]) (m := [encI p.id]) elt_23 rfl (.cons rfl (.nil)) rfl (by simp [encI_len]) (by decide) (by decide) rfl rfl (fun b_98 => ?_)
    refine XO_nil ?_
    refine zD hD ?_
    refine XD_one 10 rfl (by kernel_rfl) ?_
    refine XO_append (v := _) (ys := [p.id].flatMap encI) (L := Lt) rfl rfl elt_23 hOt (by repeat (first | exact .cons .here .nil | exact split_all | exact split_app | apply split_cons | apply split_skip)) ⟨rfl, fun _ => rfl, Cells.here⟩ (one_I [p.id]) (by omega) rfl rfl ?_
    intro v9 L9 hO9 _
    refine XO_nil ?_
    refine zD hD ?_
    refine XD_one 11 rfl (by kernel_rfl) ?_
    refine XO_mapUpdate (m := mr) (ek := Value.int .i64) (ev := fstT) (a := p.sign)  (v9, ((mget mr p.sign).getD nilT).2.1 + 1, ((mget mr p.sign).getD nilT).2.2 ++ [p.id].flatMap encI) mpt_80 key_3 rfl rfl rfl rfl (by repeat (first | exact Upd.here | apply Upd.there | apply upd_app)) ?_
    refine XO_nil ?_
    refine zD hD ?_
    refine XD_done (by kernel_rfl) ?_
    refine at_noP ?_
    refine at_block_n ?_
    refine at_block_n ?_
    refine at_then ?_
    refine X_region ?_
    refine XO_v0 (ev_arB rfl rfl rfl (fun _ => by omega)) rfl rfl rfl ?_
    refine zM ?_
    refine XO_nil ?_
    exact at_metP _ _ (L9 ++ ((r_63, _) :: (r_62, _) :: (A ++ B))) ⟨n - (k + 1), by omega, k + 1, _, _, A ++ (L9 ++ B), rfl, rfl, rfl, rfl, by omega, hmi.skip hp hk2n, hmr.put hp hk3, hset (v9, _, _) L9 hO9⟩ (.cons rfl (.cons rfl (.cons rfl (.cons rfl (.cons rfl (.cons rfl (.cons rfl .nil))))))) perm_in (by repeat (first | exact .refl | exact subL_left | refine subL_app ?_ | refine .drop ?_ | refine subL_add ?_))
   refine XO_buildSlice (ps := [(0, _)]) (m := [encI p.id]) elt_23 rfl (.cons rfl (.nil)) rfl (by simp [encI_len]) (by decide) (by decide) rfl rfl (fun b_98 => ?_)
   refine XO_nil ?_
   refine zD hD ?_
   refine XD_one 6 rfl (by kernel_rfl) ?_
   refine XO_v0 (ev_lookupT (m := mr) (ek := Value.int .i64) (a := p.sign)  mpt_80 key_3 rfl rfl (fun _ => .inr (by simp))) rfl rfl rfl ?_
   refine XO_nil ?_
   refine zD hD ?_
   refine XD_one 10 rfl (by kernel_rfl) ?_
   refine XO_append (v := _) (ys := [p.id].flatMap encI) (L := Lt) rfl rfl elt_23 hOt (by repeat (first | exact .cons .here .nil | exact split_all | exact split_app | apply split_cons | apply split_skip)) ⟨rfl, fun _ => rfl, Cells.here⟩ (one_I [p.id]) (by omega) rfl rfl ?_
   intro v9 L9 hO9 _
   refine XO_nil ?_
   refine zD hD ?_
   refine XD_one 11 rfl (by kernel_rfl) ?_
   refine XO_mapUpdate (m := mr) (ek := Value.int .i64) (ev := fstT) (a := p.sign)  (v9, ((mget mr p.sign).getD nilT).2.1 + 1, ((mget mr p.sign).getD nilT).2.2 ++ [p.id].flatMap encI) mpt_80 key_3 rfl rfl rfl rfl (by repeat (first | exact Upd.here | apply Upd.there | apply upd_app)) ?_
   refine XO_nil ?_
   refine zD hD ?_
   refine XD_done (by kernel_rfl) ?_
   refine at_noP ?_
   refine at_block_n ?_
   refine at_block_n ?_
   refine at_then ?_
   refine X_region ?_
   refine XO_v0 (ev_arB rfl rfl rfl (fun _ => by omega)) rfl rfl rfl ?_
   refine zM ?_
   refine XO_nil ?_
   exact at_metP _ _ (L9 ++ ((r_63, _) :: (r_62, _) :: (A ++ B))) ⟨n - (k + 1), by omega, k + 1, _, _, A ++ (L9 ++ B), rfl, rfl, rfl, rfl, by omega, hmi.skip hp hk2n, hmr.put hp hk3, hset (v9, _, _) L9 hO9⟩ (.cons rfl (.cons rfl (.cons rfl (.cons rfl (.cons rfl (.cons rfl (.cons rfl .nil))))))) perm_in (by repeat (first | exact .refl | exact subL_left | refine subL_app ?_ | refine .drop ?_ | refine subL_add ?_))
  have hk3n : p.kind ≠ 3 := by simpa using hc87
  refine X_skip ?_
  refine at_block_n ?_
  refine at_block_n ?_
  refine at_then ?_
  refine X_region ?_
  refine XO_v0 (ev_arB rfl rfl rfl (fun _ => by omega)) rfl rfl rfl ?_
  refine zM ?_
  refine XO_nil ?_
  exact at_met2 _ _ ⟨n - (k + 1), by omega, k + 1, _, _, _, rfl, rfl, rfl, rfl, by omega, hmi.skip hp hk2n, hmr.skip hp hk3n, hAll⟩ (.cons rfl (.cons rfl (.cons rfl (.cons rfl (.cons rfl (.cons rfl (.cons rfl .nil))))))) (by repeat (first | exact .refl | exact subL_left | refine subL_app ?_ | refine .drop ?_ | refine subL_add ?_))
 have hge_k : n ≤ k := by have h := hc67; simp at h; omega
 rw [take_all hP.len hge_k] at hmi hmr
 refine X_exit ?_
 refine at_then_e ?_
 refine at_then_e ?_
 refine at_block_hit ?_
 refine at_then ?_
 refine X_seq ?_
 refine X_seq ?_
 refine X_freezeAll (fun I5 hI5 hb5 => ?_)
 have hP := hP.mono hI5; have hOn := hOn.mono hI5; have hIc := hIc.trans hI5
 have hmiI : I5 r_62 = some (mapO (Value.int .i64) (Value.int .i64) mi) := hb5 _ _ (by simp)
 have hmrI : I5 r_63 = some (mapO (Value.int .i64) fstT mr) := hb5 _ _ (by simp)
 have hrem := rem_sl hmr hAll (fun b o h => hb5 b o (by simp [h]))
 obtain ⟨m, hm1, hm2⟩ := hOn
 refine X_region ?_
 refine zM ?_
 refine XO_v0 (ev_lenS rfl slt_22) rfl rfl rfl ?_
 refine zM ?_
 refine zN ?_
 refine X_block ?_
 refine X_loopT [(9, _), (10, _), (11, _), (101, _), (102, _)] (.cons rfl (.cons rfl (.cons rfl (.cons rfl (.cons rfl .nil))))) (fun T L0 mz E I' loc' => ∃ (k : Nat), mz = n - k ∧ E = (103, .int .i64 k) :: T ∧ I5 = I' ∧ [] = loc' ∧ k ≤ n ∧ (ps.take k).all (tgP ps) = true) _ _ _ _ ⟨0, rfl, rfl, rfl, rfl, Nat.zero_le _, rfl⟩ (.cons rfl (.cons rfl (.cons rfl (.cons rfl (.cons rfl (.cons rfl .nil)))))) (HLe.refl _) rfl ?_
 rintro mz E I' loc' ⟨k, rfl, rfl, rfl, rfl, hk, htg⟩
 refine zR ?_
 refine zC ?_
 refine zN ?_
 refine X_seq ?_
 refine X_cond rfl (fun hc104 => ?_) (fun hc104 => ?_)
 ·
  have hlt_k : k < n := by have h := hc104; simp at h; omega
  have hP1 := hP.1
  obtain ⟨p, hp, hN⟩ := hP.at hlt_k
  have hpm := List.mem_of_getElem? hp
  have hN : Sl I5 1 encI p.a p.n p.c p.needs := hN
  have hpn := hnd p hpm
  obtain ⟨ref, hget, sn, hsn, hsq⟩ := hm2.get ⟨p, hpm, rfl⟩
  refine X_skip ?_
  refine at_then ?_
  refine X_seq ?_
  refine X_block ?_
  refine zR ?_
  refine XO_v0 (ev_indexSl rfl rfl slt_22 (by assumption) (fun hg => by first | omega | (simp [conj] at hg; omega))) rfl rfl rfl ?_
  refine XO_v0 (ev_loadA rfl agt_65 (fun hg => by first | exact Sl.getA hP1 hp | (repeat (first | exact Cells.here | exact Cells.s0 (vs := [_, _, _, _, _, _, _, _, _, _, _, _, _, _, _, _, _, _, _]) rfl | apply Cells.there | apply Cells.app))) rfl) rfl rfl rfl ?_
  refine XO_alloc zt_65 rfl rfl (fun b_17 => ?_)
  refine XO_storeA rfl rfl szt_65 rfl rfl rfl rfl (by repeat (first | exact Upd.here | apply Upd.there | apply upd_app)) ?_
  refine zN ?_
  refine X_seq ?_
  refine zR ?_
  refine zM ?_
  refine XO_v0 (ev_fieldAddr rfl fld_65_2) rfl rfl rfl ?_
  refine XO_v0 (ev_load rfl sct_3 (fun hg => by first | exact Sl.get0 hS2 hy rfl | (repeat (first | exact Cell.here rfl | apply Cell.there | apply Cell.app)))) rfl rfl rfl ?_
  refine XO_v0 (ev_lookupOkI (m := mi) (ek := Value.int .i64) (a := p.sign)  mpt_79 key_3 rfl rfl (fun _ => .inl hmiI)) rfl rfl rfl ?_
  refine zM ?_
  refine XO_v0 (ev_extract rfl rfl) rfl rfl rfl ?_
  refine XO_v0 (ev_extract rfl rfl) rfl rfl rfl ?_
  refine zA ?_
  refine zA ?_
  refine zN (zR ?_)
  refine zM ?_
  refine zM ?_
  refine XO_pushT 1 rfl rfl rfl ?_
  refine XO_v1 (ev_fieldAddr rfl fld_65_0) (.some rfl rfl rfl rfl gbt) rfl rfl rfl ?_
  refine XO_v1 (ev_load rfl sct_3 (fun hg => by first | exact Sl.get0 hS2 hy rfl | (repeat (first | exact Cell.here rfl | apply Cell.there | apply Cell.app)))) (.some rfl rfl rfl rfl gbt) rfl rfl rfl ?_
  refine XO_v1 (ev_move rfl) (.some rfl rfl rfl rfl gbt) rfl rfl rfl ?_
  refine XO_v1 (ev_cmp rfl rfl rfl) (.some rfl rfl rfl rfl gbt) rfl rfl rfl ?_
  refine XO_and0 rfl rfl rfl rfl rfl ?_
  refine zM ?_
  refine XO_pushT 7 rfl rfl rfl ?_
  refine XO_v1 (ev_move rfl) (.some rfl rfl rfl rfl gbt) rfl rfl rfl ?_
  refine XO_v1 (ev_fieldAddr rfl fld_65_0) (.some rfl rfl rfl rfl gbt) rfl rfl rfl ?_
  refine XO_v1 (ev_load rfl sct_3 (fun hg => by first | exact Sl.get0 hS2 hy rfl | (repeat (first | exact Cell.here rfl | apply Cell.there | apply Cell.app)))) (.some rfl rfl rfl rfl gbt) rfl rfl rfl ?_
  refine XO_v1 (ev_lookupG (m := m) (ek := Value.int .i64) (ev := refV) (a := p.id) hget mpt_112 key_3 rfl rfl (fun _ => .inl hm1)) (.some rfl rfl rfl rfl gbt) rfl rfl rfl ?_
  refine XO_v1 (ev_move rfl) (.some rfl rfl rfl rfl gbt) rfl rfl rfl ?_
  refine XO_v1 (ev_lookupBool (m := sn) mpt_111 key_3 rfl rfl (fun _ => .inl hsn)) (.some rfl rfl rfl rfl gbt) rfl rfl rfl ?_
  refine XO_v1 (ev_not rfl) (.some rfl rfl rfl rfl gbt) rfl rfl rfl ?_
  refine XO_and0 rfl rfl rfl rfl rfl ?_
  refine zN ?_
  refine X_cond rfl (fun hc129 => ?_) (fun hc129 => ?_)
  ·
   have hA := hc129
   simp only [show ∀ x, (mget sn x).getD false = onF ps p.id x from fun x => hsq.mem x] at hA
   have hbad : chkR ps = 380 := chkR_4 hlen h0 hls (by rw [tog_eq hL hmi]; exact all_no hp (by unfold tgP; rw [← tg_ins hmi, hA]; rfl))
   refine zR ?_
   refine zA ?_
   refine zN ?_
   refine X_ret ?_
   refine at_then_r ?_
   refine at_block_r ?_
   refine at_then_r ?_
   refine at_then_r ?_
   refine at_block_r ?_
   refine at_then_r ?_
   exact at_ret1 rfl rfl (fun w hw => ⟨by rw [hbad], (hw.mono hIc).drop⟩)
  have hA := hc129
  simp only [show ∀ x, (mget sn x).getD false = onF ps p.id x from fun x => hsq.mem x] at hA
  refine X_skip ?_
  refine at_then ?_
  refine X_seq ?_
  obtain ⟨av2, c2, hv2, hS2⟩ := hrem p.sign
  have hk3l := kindL_len (c := 3) (ps := ps) (s := p.sign)
  have hpl := hP.len
  refine X_region ?_
  refine zM ?_
  refine XO_v0 (ev_fieldAddr rfl fld_65_2) rfl rfl rfl ?_
  refine XO_v0 (ev_load rfl sct_3 (fun hg => by first | exact Sl.get0 hS2 hy rfl | (repeat (first | exact Cell.here rfl | apply Cell.there | apply Cell.app)))) rfl rfl rfl ?_
  refine XO_v0 (ev_lookupTE (m := mr) (ek := Value.int .i64) (a := p.sign) hv2 mpt_80 key_3 rfl rfl (fun _ => .inl hmrI)) rfl rfl rfl ?_
  refine XO_v0 (ev_lenS rfl slt_23) rfl rfl rfl ?_
  refine zM ?_
  refine zN ?_
  refine X_block ?_
  refine X_loopT [(9, _), (10, _), (11, _), (17, _), (101, _), (102, _), (103, _), (133, _), (134, _)] (.cons rfl (.cons rfl (.cons rfl (.cons rfl (.cons rfl (.cons rfl (.cons rfl (.cons rfl (.cons rfl .nil))))))))) (fun T L0 mz E I' loc' => ∃ (j : Nat), mz = (kindL 3 ps p.sign).length - j ∧ E = (135, .int .i64 j) :: T ∧ I5 = I' ∧ [(b_17, .cells (encP p).toArray 65 (0, 0))] = loc' ∧ j ≤ (kindL 3 ps p.sign).length ∧ ((kindL 3 ps p.sign).take j).any (onF ps p.id) = false) _ _ _ _ ⟨0, rfl, rfl, rfl, rfl, Nat.zero_le _, rfl⟩ (.cons rfl (.cons rfl (.cons rfl (.cons rfl (.cons rfl (.cons rfl (.cons rfl (.cons rfl (.cons rfl (.cons rfl .nil)))))))))) (HLe.refl _) rfl ?_
  rintro mz E I' loc' ⟨j, rfl, rfl, rfl, rfl, hj, hno⟩
  refine zR ?_
  refine zC ?_
  refine zN ?_
  refine X_seq ?_
  refine X_cond rfl (fun hc136 => ?_) (fun hc136 => ?_)
  ·
   have hlt_j : j < (kindL 3 ps p.sign).length := by have h := hc136; simp at h; omega
   obtain ⟨y, hy⟩ := hS2.at hlt_j
   refine X_skip ?_
   refine at_then ?_
   refine X_seq ?_
   refine X_block ?_
   refine zR ?_
   refine XO_v0 (ev_indexSl rfl rfl slt_23 (by assumption) (fun hg => by first | omega | (simp [conj] at hg; omega))) rfl rfl rfl ?_
   refine XO_v0 (ev_load rfl sct_3 (fun hg => by first | exact Sl.get0 hS2 hy rfl | (repeat (first | exact Cell.here rfl | apply Cell.there | apply Cell.app)))) rfl rfl rfl ?_
   refine zA ?_
   refine zN (zR ?_)
   refine zM ?_
   refine XO_v0 (ev_fieldAddr rfl fld_65_0) rfl rfl rfl ?_
   refine XO_v0 (ev_load rfl sct_3 (fun hg => by first | exact Sl.get0 hS2 hy rfl | (repeat (first | exact Cell.here rfl | apply Cell.there | apply Cell.app)))) rfl rfl rfl ?_
   refine XO_v0 (ev_lookupG (m := m) (ek := Value.int .i64) (ev := refV) (a := p.id) hget mpt_112 key_3 rfl rfl (fun _ => .inl hm1)) rfl rfl rfl ?_
   refine zM ?_
   refine XO_v0 (ev_lookupBool (m := sn) mpt_111 key_3 rfl rfl (fun _ => .inl hsn)) rfl rfl rfl ?_
   refine zN ?_
   refine X_cond rfl (fun hc144 => ?_) (fun hc144 => ?_)
   ·
    have hon := hc144
    simp only [show ∀ x, (mget sn x).getD false = onF ps p.id x from fun x => hsq.mem x] at hon
    have hbad : chkR ps = 380 := chkR_4 hlen h0 hls (by rw [tog_eq hL hmi]; exact all_no hp (by unfold tgP; rw [any_yes hy hon, Bool.or_true]; rfl))
    refine zR ?_
    refine zA ?_
    refine zN ?_
    refine X_ret ?_
    refine at_block_r ?_
    refine at_then_r ?_
    refine at_then_r ?_
    refine at_block_r ?_
    refine at_block_r ?_
    refine at_then_r ?_
    refine at_then_r ?_
    refine at_block_r ?_
    refine at_then_r ?_
    exact at_ret1 rfl rfl (fun w hw => ⟨by rw [hbad], (hw.mono hIc).drop⟩)
   have hon := hc144
   simp only [show ∀ x, (mget sn x).getD false = onF ps p.id x from fun x => hsq.mem x] at hon
   refine X_skip ?_
   refine at_block_n ?_
   refine at_then ?_
   refine X_region ?_
   refine XO_v0 (ev_arB rfl rfl rfl (fun _ => by omega)) rfl rfl rfl ?_
   refine zM ?_
   refine XO_nil ?_
   exact at_met2 _ _ ⟨(kindL 3 ps p.sign).length - (j + 1), by omega, j + 1, rfl, rfl, rfl, rfl, by omega, any_no hy hno hon⟩ (.cons rfl (.cons rfl (.cons rfl (.cons rfl (.cons rfl (.cons rfl (.cons rfl (.cons rfl (.cons rfl (.cons rfl .nil)))))))))) (by repeat (first | exact .refl | exact subL_left | refine subL_app ?_ | refine .drop ?_ | refine subL_add ?_))
  have hge_j : (kindL 3 ps p.sign).length ≤ j := by have h := hc136; simp at h; omega
  rw [take_all rfl hge_j] at hno
  have htp : tgP ps p = true := by unfold tgP; rw [← tg_ins hmi, hA, hno]; rfl
  refine X_exit ?_
  refine at_then_e ?_
  refine at_then_e ?_
  refine at_block_hit ?_
  refine at_block_n ?_
  refine at_then ?_
  refine X_region ?_
  refine XO_v0 (ev_arB rfl rfl rfl (fun _ => by omega)) rfl rfl rfl ?_
  refine zM ?_
  refine XO_nil ?_
  exact at_met2 _ _ ⟨n - (k + 1), by omega, k + 1, rfl, rfl, rfl, rfl, by omega, all_yes hp htg htp⟩ (.cons rfl (.cons rfl (.cons rfl (.cons rfl (.cons rfl (.cons rfl .nil)))))) (by repeat (first | exact .refl | exact subL_left | refine subL_app ?_ | refine .drop ?_ | refine subL_add ?_))
 have hge_k : n ≤ k := by have h := hc104; simp at h; omega
 have htog : togA ps = true := by rw [tog_eq hL hmi]; rw [take_all hP.len hge_k] at htg; exact htg
 refine X_exit ?_
 refine at_then_e ?_
 refine at_then_e ?_
 refine at_block_hit ?_
 refine at_then ?_
 refine zR ?_
 refine zA ?_
 refine zN ?_
 refine X_ret ?_
 exact at_ret1 rfl rfl (fun w hw => ⟨by rw [chkR_5 hlen h0 hls htog], (hw.mono hIc).drop⟩)
end Go.Proofs.YtehkiccapbkhnaaGreat
end
section
namespace Go.Proofs.YtehkiccapbkhnaaGreat
open Go Go.Kn Go.Proofs
/-- A list and an error. -/
def Res2 (e : Int) (xs : List Int) : Value → HMap → Go.Kn.Loc → Prop := fun v I' L => L = [] ∧ ∃ av c, v = .tuple #[.slice av xs.length c, .int .i64 e] ∧ Sl I' 1 encI av xs.length c xs
theorem Res2.empty {e : Int} {xs : List Int} {I : HMap} (h : xs = []) : Res2 e xs (.tuple #[.slice none 0 0, .int .i64 e]) I [] := by
  subst h
  exact ⟨rfl, none, 0, rfl, .nil⟩
theorem Res2.good {e e' : Int} {xs ys : List Int} {I : HMap} {av : Option Addr} {n c : Nat} (h : e = e') (hx : ys = xs) (hS : Sl I 1 encI av n c ys) : Res2 e' xs (.tuple #[.slice av n c, .int .i64 e]) I [] := by
  subst h; subst hx
  have hn := hS.len
  subst hn
  exact ⟨rfl, av, c, rfl, hS⟩
def clE (ps : List Pt) (ids : List Int) : Int := if ids.length > 512 then 2 else if chB ps ids then 0 else 380
theorem cloE_ok {ps : List Pt} {ids : List Int} (h : chkR ps = 0) : cloE ps ids = clE ps ids := by unfold cloE clE; rw [if_neg (by omega)]
theorem cloE_bad {ps : List Pt} {ids : List Int} (h : chkR ps ≠ 0) : cloE ps ids = chkR ps := by unfold cloE; rw [if_pos h]
theorem clE_1 {ps : List Pt} {ids : List Int} (h : ids.length > 512) : clE ps ids = 2 := by unfold clE; rw [if_pos h]
theorem clE_2 {ps : List Pt} {ids : List Int} (h : ¬ ids.length > 512) (h2 : chB ps ids = false) : clE ps ids = 380 := by unfold clE; rw [if_neg h, h2]; rfl
theorem clE_3 {ps : List Pt} {ids : List Int} (h : ¬ ids.length > 512) (h2 : chB ps ids = true) : clE ps ids = 0 := by unfold clE; rw [if_neg h, h2]; rfl
theorem ch_inc {ps : List Pt} {ids : List Int} (h : incB ids = false) : chB ps ids = false := by unfold chB; rw [h]; rfl
theorem ch_has {ps : List Pt} {ids : List Int} {k : Nat} {x : Int} (hx : ids[k]? = some x) (h : hasI ps x = false) : chB ps ids = false := by unfold chB; rw [all_no hx h, Bool.and_false]
theorem ch_all {ps : List Pt} {ids : List Int} (h : incB ids = true) (h2 : ids.all (hasI ps) = true) : chB ps ids = true := by unfold chB; rw [h, h2]; rfl
/-- What a closure's list has when k IDs are done, and some more. -/
def CloM (ps : List Pt) (ids : List Int) (k : Nat) (zs : List Int) (S : Int → Bool) : Prop := ∀ x, x ∈ zs ↔ (x ∈ ids ∨ ∃ n ∈ ids.take k, onF ps n x = true) ∨ S x = true
theorem CloM.start {ps : List Pt} {ids : List Int} : CloM ps ids 0 ids (fun _ => false) := fun x => by simp
theorem CloM.put {ps : List Pt} {ids zs : List Int} {k : Nat} {S S' : Int → Bool} {a : Int} (h : CloM ps ids k zs S) (e : ∀ x, S' x = (decide (a = x) || S x)) : CloM ps ids k (zs ++ [a]) S' := fun x => by
  rw [List.mem_append, h x, e x]
  simp only [List.mem_singleton, Bool.or_eq_true, decide_eq_true_eq]
  constructor
  · rintro (h | h)
    · rcases h with h | h
      · exact .inl h
      · exact .inr (.inr h)
    · exact .inr (.inl h.symm)
  · rintro (h | h | h)
    · exact .inl (.inl h)
    · exact .inr h.symm
    · exact .inl (.inr h)
theorem CloM.next {ps : List Pt} {ids zs : List Int} {k : Nat} {S : Int → Bool} {n : Int} (h : CloM ps ids k zs S) (hn : ids[k]? = some n) (e : ∀ x, S x = onF ps n x) : CloM ps ids (k + 1) zs (fun _ => false) := fun x => by
  rw [h x, e x, take_snoc hn]
  simp only [List.mem_append, List.mem_singleton, Bool.false_eq_true, or_false]
  constructor
  · rintro (h | h)
    · rcases h with h | ⟨m, hm, h⟩
      · exact .inl h
      · exact .inr ⟨m, .inl hm, h⟩
    · exact .inr ⟨n, .inr rfl, h⟩
  · rintro (h | ⟨m, hm | rfl, h⟩)
    · exact .inl (.inl h)
    · exact .inl (.inr ⟨m, hm, h⟩)
    · exact .inr h
theorem CloM.congr {ps : List Pt} {ids zs : List Int} {k : Nat} {S S' : Int → Bool} (h : CloM ps ids k zs S) (e : ∀ x, S x = S' x) : CloM ps ids k zs S' := fun x => by rw [h x, e x]
theorem clo_made {ps : List Pt} {ids zs : List Int} {n : Nat} (hL : Lst ps) (h : CloM ps ids n zs (fun _ => false)) (hn : ids.length = n) (hall : ids.all (hasI ps) = true) : Lib.compact (sortI (zs ++ [])) = cloF ps ids := by
  rw [List.append_nil]
  refine comp_sort_eq (clo_sorted hL ids) fun x => ?_
  rw [h x, mem_clo, ← hn, List.take_length]
  simp only [Bool.false_eq_true, or_false]
  constructor
  · rintro (hx | ⟨m, hm, ho⟩)
    · exact ⟨hasI_iff.1 (List.all_eq_true.1 hall x hx), x, hx, .inl rfl⟩
    · exact ⟨(hL.on_lt ho).2, m, hm, .inr ho⟩
  · rintro ⟨_, m, hm, rfl | ho⟩
    · exact .inl hm
    · exact .inr ⟨m, hm, ho⟩
theorem on_few {ps : List Pt} (hL : Lst ps) {a : Int} {sn : List (Int × Bool)} (h : SetQ sn (onF ps a)) : sn.length ≤ ps.length := by
  have := List.Nodup.length_le_of_subset h.nodup (l₂ := idsP ps) (fun x hx => by
    obtain ⟨_, q, hq, e⟩ := hL.on_lt (h.key.2 hx)
    exact List.mem_map.2 ⟨q, hq, e⟩)
  simpa [idsP] using this
theorem OnL.hit {I : HMap} {m : List (Int × Nat)} {ps : List Pt} (h : OnL I m ps) {a : Int} {ref : Nat} (hg : mget m a = some ref) : hasI ps a = true ∧ OnS I ref (onF ps a) := by
  have hm := mget_mem hg
  refine ⟨?_, h.2 _ hm⟩
  have hk : a ∈ m.map (·.1) := List.mem_map.2 ⟨_, hm, rfl⟩
  rw [h.1] at hk
  obtain ⟨q, hq, e⟩ := List.mem_map.1 hk
  exact hasI_iff.2 ⟨q, hq, e⟩
theorem OnL.miss {I : HMap} {m : List (Int × Nat)} {ps : List Pt} (h : OnL I m ps) {a : Int} (hg : mget m a = none) : hasI ps a = false := by
  cases hh : hasI ps a with
  | false => rfl
  | true =>
    obtain ⟨ref, h1, _⟩ := h.get (hasI_iff.1 hh)
    rw [hg] at h1; cases h1
theorem perm_snoc (x : Nat × Obj) (L : Go.Kn.Loc) : (x :: L).Perm (L ++ [x]) := (List.perm_append_comm (l₁ := L) (l₂ := [x])).symm
end Go.Proofs.YtehkiccapbkhnaaGreat
end
section
namespace Go.Proofs.YtehkiccapbkhnaaGreat
open Go Go.Kn Go.Proofs
theorem w_closure {I : HMap} {av : Option Addr} {n c : Nat} {ps : List Pt} (hP : SlP I av n c ps) (hn : n ≤ 512) (hL : Lst ps) (hnd : ∀ p ∈ ps, p.n ≤ 100000) {bv : Option Addr} {n2 c2 : Nat} {ys : List Int} (hT : Sl I 1 encI bv n2 c2 ys) (hn2 : n2 ≤ 100000) : RetM Tryz.prog 71 [.slice av n c, .slice bv n2 c2] I [] (Res2 (clE ps ys) (resF (clE ps ys) (cloF ps ys))) := by
 intro g H w hw
 refine enter Tryz.func71 rfl Tryz.ntmps71 rfl hw ?_
 have hIc := HLe.refl I
 refine zR ?_
 refine zA ?_
 refine zA ?_
 refine zN ?_
 refine X_seq ?_
 refine zR ?_
 refine zM ?_
 refine XO_v0 (ev_lenS rfl slt_23) rfl rfl rfl ?_
 refine zC ?_
 refine zN ?_
 refine X_cond rfl (fun hc12 => ?_) (fun hc12 => ?_)
 ·
  have hlen : ys.length > 512 := by rw [hT.len]; simp at hc12; omega
  refine zR ?_
  refine zA ?_
  refine zA ?_
  refine zN ?_
  refine X_ret ?_
  refine at_then_r ?_
  first
  | exact at_ret2 rfl rfl rfl (fun w hw => ⟨_, I, [], rfl, hIc, hw.drop, by rw [clE_1 hlen]; exact Res2.empty rfl⟩)
 have hlen : ¬ ys.length > 512 := by rw [hT.len]; simp at hc12; omega
 refine X_skip ?_
 refine at_then ?_
 refine zR ?_
 refine zM ?_
 refine XO_callM (cap := []) (vs := [_]) rfl rfl fun_74 .nil (w_stands hP (by omega) hL hnd) rfl rfl ?_
 rintro vv1 I1 L1 hI1 ⟨rfl, r9, rfl, hOn⟩
 have hP := hP.mono hI1; have hT := hT.mono hI1; have hIc := hIc.trans hI1
 refine zA ?_
 refine zN (zR ?_)
 refine zM ?_
 refine XO_callM (cap := []) (vs := [_]) rfl rfl fun_97 .nil (w_cloneI hT (by omega)) rfl rfl ?_
 rintro vv2 I2 L2 hI2 ⟨rfl, hO⟩
 have hP := hP.mono hI2; have hT := hT.mono hI2; have hOn := hOn.mono hI2; have hIc := hIc.trans hI2
 refine zA ?_
 refine zN ?_
 refine X_seq ?_
 refine X_seq ?_
 refine X_dropTo _ subL_left ?_
 refine X_region ?_
 refine zM ?_
 refine XO_v0 (ev_lenS rfl slt_23) rfl rfl rfl ?_
 refine zM ?_
 refine zN ?_
 refine X_block ?_
 refine X_loopT [(1, _), (6, _), (17, _), (18, _)] (.cons rfl (.cons rfl (.cons rfl (.cons rfl .nil)))) (fun T L0 mz E I' loc' => ∃ (k : Nat) (zs : List Int) (v : Value) (q : Nat) (L : Go.Kn.Loc), mz = n2 - k ∧ E = (4, v) :: (19, .int .i64 k) :: T ∧ I2 = I' ∧ L = loc' ∧ k ≤ n2 ∧ OwnS 3 1 v q (zs.flatMap encI) L ∧ q ≤ n2 + 512 * k ∧ CloM ps ys k zs (fun _ => false) ∧ (ys.take k).all (hasI ps) = true) _ _ _ _ ⟨0, ys, _, n2, _, rfl, rfl, rfl, rfl, Nat.zero_le _, hO, by omega, CloM.start, rfl⟩ (.cons rfl (.cons rfl (.cons rfl (.cons rfl (.cons rfl (.cons rfl .nil)))))) (HLe.refl _) rfl ?_
 rintro mz E I' loc' ⟨k, zs, v, q, L, rfl, rfl, rfl, rfl, hk, hO, hq5, hM, hall⟩
 refine zR ?_
 refine zC ?_
 refine zN ?_
 refine X_seq ?_
 refine X_cond rfl (fun hc20 => ?_) (fun hc20 => ?_)
 ·
  have hlt_k : k < n2 := by have h := hc20; simp at h; omega
  obtain ⟨y, hy⟩ := hT.at hlt_k
  refine X_skip ?_
  refine at_then ?_
  refine X_seq ?_
  refine X_block ?_
  refine zR ?_
  refine XO_v0 (ev_indexSl rfl rfl slt_23 (by assumption) (fun hg => by first | omega | (simp [conj] at hg; omega))) rfl rfl rfl ?_
  refine XO_v0 (ev_load rfl sct_3 (fun hg => by first | exact Sl.get0 hT hy rfl | (repeat (first | exact Cell.here rfl | apply Cell.there | apply Cell.app)))) rfl rfl rfl ?_
  refine zA ?_
  refine zN ?_
  refine X_seq ?_
  refine X_seq ?_
  obtain ⟨m, hm1, hm2⟩ := hOn
  refine X_region ?_
  refine zM ?_
  refine zM ?_
  refine XO_v0 (ev_lookupM (m := m) (ek := Value.int .i64) mpt_112 key_3 rfl rfl (fun _ => .inl hm1)) rfl rfl rfl ?_
  refine XO_v0 (ev_mapNil rfl rfl und_111) rfl rfl rfl ?_
  refine zN ?_
  refine X_cond rfl (fun hc26 => ?_) (fun hc26 => ?_)
  ·
   have hmiss : hasI ps y = false := hm2.miss (Option.isNone_iff_eq_none.1 hc26)
   have hbad : clE ps ys = 380 := clE_2 hlen (ch_has hy hmiss)
   refine zR ?_
   refine zA ?_
   refine zA ?_
   refine zN ?_
   refine X_ret ?_
   refine at_then_r ?_
   refine at_block_r ?_
   refine at_then_r ?_
   refine at_then_r ?_
   refine at_block_r ?_
   refine at_then_r ?_
   first
   | exact at_ret2 rfl rfl rfl (fun w hw => ⟨_, I2, [], rfl, hIc, hw.drop, by rw [hbad]; exact Res2.empty rfl⟩)
  obtain ⟨ref, hget⟩ : ∃ ref, mget m y = some ref := by cases hg : mget m y with | none => rw [hg] at hc26; cases hc26 | some r => exact ⟨r, rfl⟩
  obtain ⟨hhas, sn, hsn, hsq⟩ := hm2.hit hget
  have hfew := on_few hL hsq
  have hpl := hP.len
  refine X_skip ?_
  refine at_then ?_
  refine zR ?_
  refine zM ?_
  refine zM ?_
  refine XO_v0 (ev_lookupM (m := m) (ek := Value.int .i64) mpt_112 key_3 rfl rfl (fun _ => .inl hm1)) rfl rfl rfl ?_
  rw [hget]
  refine XO_range (ek := Value.int .i64) (ev := Value.bool) (m := sn) rfl mpt_111 rfl rfl (.inl hsn) (fun b_30 => ?_)
  refine zN ?_
  refine X_block ?_
  refine X_loopT [(1, _), (6, _), (17, _), (18, _), (19, _), (30, _)] (.cons rfl (.cons rfl (.cons rfl (.cons rfl (.cons rfl (.cons rfl .nil)))))) (fun T L0 mz E I' loc' => ∃ (seen : List Nat) (zs : List Int) (v : Value) (q : Nat) (L : Go.Kn.Loc), mz = sn.length - seen.length ∧ E = (4, v) :: T ∧ I2 = I' ∧ (b_30, iterO ref sn.length seen) :: L = loc' ∧ OwnS 3 1 v q (zs.flatMap encI) L ∧ q ≤ n2 + 512 * k + seen.length ∧ CloM ps ys k zs (Seen sn seen) ∧ seen.Nodup ∧ ∀ i ∈ seen, i < sn.length) _ _ _ _ ⟨[], zs, v, q, L, rfl, rfl, rfl, rfl, hO, by simpa using hq5, hM.congr (fun x => (seen_nil sn x).symm), .nil, fun i h => by cases h⟩ (.cons rfl (.cons rfl (.cons rfl (.cons rfl (.cons rfl (.cons rfl (.cons rfl .nil))))))) (HLe.refl _) rfl ?_
  rintro mz E I' loc' ⟨seen, zs, v, q, L, rfl, rfl, rfl, rfl, hO, hq5, hM, hnd2, hlt⟩
  have hsl := seen_lt hnd2 hlt
  refine zR ?_
  refine XO_next2 (ek := Value.int .i64) (ev := Value.bool) (m := sn) (fun s' => (b_30, iterO ref sn.length s') :: L) rfl (fun s' => .here) rfl rfl rfl rfl rfl (.inl hsn) (by simp) ?_
  intro t tv s' hno hyes
  refine zN ?_
  refine X_seq ?_
  refine X_cond rfl (fun hc32 => ?_) (fun hc32 => ?_)
  ·
   obtain ⟨i, q, hq, hns, rfl⟩ := hyes hc32
   refine X_skip ?_
   refine at_then ?_
   refine X_block ?_
   refine zR ?_
   refine XO_v0 (ev_entry (ek := Value.int .i64) (ev := Value.bool) (m := sn) (p := q) (seen := seen) (i := i) rfl (.inl hsn) (.inr (by simp)) hq) rfl rfl rfl ?_
   refine XO_v0 (ev_extract rfl rfl) rfl rfl rfl ?_
   refine zA ?_
   refine zN ?_
   refine X_region ?_
   refine zM ?_
   refine zM ?_
   refine XO_buildSlice (ps := [(0, _)]) (m := [encI q.1]) elt_23 rfl (.cons rfl (.nil)) rfl (by simp [encI_len]) (by decide) (by decide) rfl rfl (fun b_37 => ?_)
   refine XO_append (v := _) (ys := [q.1].flatMap encI) (L := L) rfl rfl elt_23 hO (by repeat (first | exact .cons .here .nil | exact split_all | exact split_app | apply split_cons | apply split_skip)) ⟨rfl, fun _ => rfl, Cells.here⟩ (one_I [q.1]) (by omega) rfl rfl ?_
   intro v9 L9 hO9 _; rw [← List.flatMap_append] at hO9
   refine zA ?_
   refine XO_nil ?_
   refine at_block_n ?_
   have hnd3 : (seen ++ [i]).Nodup := List.nodup_append.2 ⟨hnd2, by simp, fun a ha b hb e => hns (by simp at hb; subst hb; subst e; exact ha)⟩
   have hlt3 : ∀ j ∈ seen ++ [i], j < sn.length := fun j hj => (List.mem_append.1 hj).elim (hlt j) (fun h => by simp at h; subst h; exact (List.getElem?_eq_some_iff.1 hq).1)
   have hsl2 := seen_lt hnd3 hlt3
   rw [List.length_append, List.length_singleton] at hsl2
   exact at_metP _ _ (L9 ++ [(b_30, _)]) ⟨sn.length - (seen ++ [i]).length, by rw [List.length_append, List.length_singleton]; omega, seen ++ [i], zs ++ [q.1], v9, _, L9, rfl, rfl, rfl, rfl, hO9, by rw [List.length_append, List.length_singleton]; omega, hM.put (fun x => seen_snoc hq x), hnd3, hlt3⟩ (.cons rfl (.cons rfl (.cons rfl (.cons rfl (.cons rfl (.cons rfl (.cons rfl .nil))))))) (perm_snoc _ _) (by repeat (first | exact .refl | exact subL_left | refine subL_app ?_ | refine .drop ?_ | refine subL_add ?_))
  obtain ⟨rfl, hall2⟩ := hno hc32
  refine X_exit ?_
  refine at_then_e ?_
  refine at_then_e ?_
  refine at_block_hit ?_
  refine at_block_n ?_
  refine at_then ?_
  refine X_region ?_
  refine XO_v0 (ev_arB rfl rfl rfl (fun _ => by omega)) rfl rfl rfl ?_
  refine zM ?_
  refine XO_nil ?_
  exact at_met2 _ _ ⟨n2 - (k + 1), by omega, k + 1, zs, v, q, L, rfl, rfl, rfl, rfl, by omega, hO, by omega, (hM.next hy (fun x => seen_all hsq hall2 x)), all_yes hy hall hhas⟩ (.cons rfl (.cons rfl (.cons rfl (.cons rfl (.cons rfl (.cons rfl .nil)))))) (by repeat (first | exact .refl | exact subL_left | refine subL_app ?_ | refine .drop ?_ | refine subL_add ?_))
 have hge_k : n2 ≤ k := by have h := hc20; simp at h; omega
 rw [take_all hT.len hge_k] at hall
 have hk2 : n2 = k := by omega
 refine X_exit ?_
 refine at_then_e ?_
 refine at_then_e ?_
 refine at_block_hit ?_
 refine at_then ?_
 refine X_seq ?_
 refine zR ?_
 refine zM ?_
 refine XO_callV0 (cap := []) (vs := [_]) rfl rfl fun_105 (w_incr hT hn2) rfl rfl ?_
 refine XO_v0 (ev_not rfl) rfl rfl rfl ?_
 refine zN ?_
 refine X_cond rfl (fun hc42 => ?_) (fun hc42 => ?_)
 ·
  have hbad : clE ps ys = 380 := clE_2 hlen (ch_inc (by simpa using hc42))
  refine zR ?_
  refine zA ?_
  refine zA ?_
  refine zN ?_
  refine X_ret ?_
  refine at_then_r ?_
  first
  | exact at_ret2 rfl rfl rfl (fun w hw => ⟨_, I2, [], rfl, hIc, hw.drop, by rw [hbad]; exact Res2.empty rfl⟩)
 have hgood : clE ps ys = 0 := clE_3 hlen (ch_all (by simpa using hc42) hall)
 refine X_skip ?_
 refine at_then ?_
 refine X_seq ?_
 refine X_freezeO hO encI_len (by decide) (by repeat (first | exact .cons .here .nil | exact split_all | exact split_app | apply split_cons | apply split_skip)) (fun I5 hI5 af5 cf5 ef5 hZ => ?_)
 subst ef5
 have hP := hP.mono hI5; have hT := hT.mono hI5; have hOn := hOn.mono hI5; have hIc := hIc.trans hI5
 refine X_region ?_
 refine zM ?_
 refine XO_callM (cap := []) (vs := [_, _]) rfl rfl fun_106 .nil (w_union hZ (by have := hT.len; omega) .nil (by omega)) rfl rfl ?_
 rintro vv6 I6 L6 hI6 ⟨rfl, av9, c9, rfl, hR⟩
 have hP := hP.mono hI6; have hT := hT.mono hI6; have hOn := hOn.mono hI6; have hZ := hZ.mono hI6; have hIc := hIc.trans hI6
 refine zA ?_
 refine zA ?_
 refine zN ?_
 refine X_ret ?_
 first
 | exact at_ret2 rfl rfl rfl (fun w hw => ⟨_, I6, [], rfl, hIc, hw.drop, by rw [hgood]; exact Res2.good rfl (by rw [resF_ok rfl]; exact clo_made hL hM (by rw [hT.len]; omega) hall) hR⟩)
theorem w_Closure {I : HMap} {av : Option Addr} {n c : Nat} {ps : List Pt} (hP : SlP I av n c ps) (hn : n ≤ 100000) {bv : Option Addr} {n2 c2 : Nat} {ys : List Int} (hT : Sl I 1 encI bv n2 c2 ys) (hn2 : n2 ≤ 100000) : RetM Tryz.prog 35 [.slice av n c, .slice bv n2 c2] I [] (Res2 (cloE ps ys) (resF (cloE ps ys) (cloF ps ys))) := by
 intro g H w hw
 refine enter Tryz.func35 rfl Tryz.ntmps35 rfl hw ?_
 have hIc := HLe.refl I
 refine zR ?_
 refine zA ?_
 refine zA ?_
 refine zN ?_
 refine X_seq ?_
 refine zR ?_
 refine zM ?_
 refine XO_callV0 (cap := []) (vs := [_]) rfl rfl fun_39 (w_chkR hP hn) rfl rfl ?_
 refine zA ?_
 refine zN (zR ?_)
 refine zM ?_
 refine zC ?_
 refine zN ?_
 refine X_cond rfl (fun hc9 => ?_) (fun hc9 => ?_)
 ·
  have hck : chkR ps ≠ 0 := by simpa using hc9
  refine zR ?_
  refine zM ?_
  refine zA ?_
  refine zA ?_
  refine zN ?_
  refine X_ret ?_
  refine at_then_r ?_
  first
  | exact at_ret2 rfl rfl rfl (fun w hw => ⟨_, I, [], rfl, hIc, hw.drop, by rw [cloE_bad hck]; exact Res2.empty (resF_bad hck)⟩)
 have hck : chkR ps = 0 := by simpa using hc9
 refine X_skip ?_
 refine at_then ?_
 refine zR ?_
 refine zM ?_
 refine zM ?_
 refine XO_callM (cap := []) (vs := [_, _]) rfl rfl fun_71 .nil (w_closure hP (by have := (chkR_ok hck).1; rw [hP.len] at this; omega) (chkR_lst hck) (nd_chk hP hck) hT hn2) rfl rfl ?_
 rintro vv1 I1 L1 hI1 ⟨rfl, av9, c9, rfl, hR⟩
 have hP := hP.mono hI1; have hT := hT.mono hI1; have hIc := hIc.trans hI1
 refine XO_v0 (ev_extract rfl rfl) rfl rfl rfl ?_
 refine XO_v0 (ev_extract rfl rfl) rfl rfl rfl ?_
 refine zA ?_
 refine zA ?_
 refine zN ?_
 refine X_ret ?_
 first
 | exact at_ret2 rfl rfl rfl (fun w hw => ⟨_, I1, [], rfl, hIc, hw.drop, by rw [cloE_ok hck]; exact Res2.good rfl rfl hR⟩)
end Go.Proofs.YtehkiccapbkhnaaGreat
end
section
namespace Go.Proofs.YtehkiccapbkhnaaGreat
open Go Go.Kn Go.Proofs
structure Ses where
  pa : Int
  ef : Int
  who : List Int
  needs : List Int
structure Cr where
  days : List Int
  st : Int
  da : Int
  lo : Int
  ru : Int
  ss : List Ses
/-- A session with the heads of its lists. -/
structure SH where
  pa : Int
  ef : Int
  a : Option Addr
  n : Nat
  c : Nat
  a2 : Option Addr
  n2 : Nat
  c2 : Nat
def encSH (s : SH) : List Value := [.int .i64 s.pa, .int .i64 s.ef, .slice s.a s.n s.c, .slice s.a2 s.n2 s.c2]
theorem encSH_len (s : SH) : (encSH s).length = 4 := rfl
theorem one_SH (xs : List SH) : allOne (xs.flatMap encSH) = true := allOne_flat (fun _ => rfl) xs
def encSHA (s : SH) : Value := .agg (encSH s).toArray
def SesAt (I : HMap) (h : SH) (s : Ses) : Prop := h.pa = s.pa ∧ h.ef = s.ef ∧ Sl I 1 encI h.a h.n h.c s.who ∧ Sl I 1 encI h.a2 h.n2 h.c2 s.needs
theorem SesAt.mono {I I' : HMap} {h : SH} {s : Ses} (H : SesAt I h s) (hI : HLe I I') : SesAt I' h s := ⟨H.1, H.2.1, H.2.2.1.mono hI, H.2.2.2.mono hI⟩
def RelS (I : HMap) (hs : List SH) (ss : List Ses) : Prop := hs.length = ss.length ∧ ∀ (k : Nat) (h : SH) (s : Ses), hs[k]? = some h → ss[k]? = some s → SesAt I h s
theorem RelS.nil {I : HMap} : RelS I [] [] := ⟨rfl, fun k h s a _ => by simp at a⟩
theorem RelS.mono {I I' : HMap} {hs : List SH} {ss : List Ses} (H : RelS I hs ss) (hI : HLe I I') : RelS I' hs ss := ⟨H.1, fun k h s a b => (H.2 k h s a b).mono hI⟩
theorem RelS.snoc {I : HMap} {hs : List SH} {ss : List Ses} {h : SH} {s : Ses} (H : RelS I hs ss) (h0 : SesAt I h s) : RelS I (hs ++ [h]) (ss ++ [s]) := by
  refine ⟨by simp [H.1], fun k x y a b => ?_⟩
  by_cases e : k < hs.length
  · rw [List.getElem?_append_left e] at a
    rw [List.getElem?_append_left (by rw [← H.1]; exact e)] at b
    exact H.2 k x y a b
  · rw [List.getElem?_append_right (by omega)] at a
    rw [List.getElem?_append_right (by rw [← H.1]; omega)] at b
    have hk : k - hs.length = 0 := by
      have := (List.getElem?_eq_some_iff.1 a).1
      simp at this; omega
    rw [hk] at a
    rw [← H.1, hk] at b
    cases a; cases b; exact h0
def SlSH (I : HMap) (av : Option Addr) (n c : Nat) (hs : List SH) (ss : List Ses) : Prop := Sl I 4 encSH av n c hs ∧ RelS I hs ss
def SlS (I : HMap) (av : Option Addr) (n c : Nat) (ss : List Ses) : Prop := ∃ hs, SlSH I av n c hs ss
theorem SlSH.mono {I I' : HMap} {av : Option Addr} {n c : Nat} {hs : List SH} {ss : List Ses} (h : SlSH I av n c hs ss) (hI : HLe I I') : SlSH I' av n c hs ss := ⟨h.1.mono hI, h.2.mono hI⟩
theorem SlS.mono {I I' : HMap} {av : Option Addr} {n c : Nat} {ss : List Ses} (h : SlS I av n c ss) (hI : HLe I I') : SlS I' av n c ss := by obtain ⟨hs, h⟩ := h; exact ⟨hs, h.mono hI⟩
theorem SlSH.len {I : HMap} {av : Option Addr} {n c : Nat} {hs : List SH} {ss : List Ses} (h : SlSH I av n c hs ss) : ss.length = n := by rw [← h.2.1]; exact h.1.len
theorem SlS.len {I : HMap} {av : Option Addr} {n c : Nat} {ss : List Ses} (h : SlS I av n c ss) : ss.length = n := by obtain ⟨hs, h⟩ := h; exact h.len
theorem SlSH.at {I : HMap} {av : Option Addr} {n c k : Nat} {hs : List SH} {ss : List Ses} (h : SlSH I av n c hs ss) (hk : k < n) : ∃ x s, hs[k]? = some x ∧ ss[k]? = some s ∧ x.pa = s.pa ∧ x.ef = s.ef ∧ Sl I 1 encI x.a x.n x.c s.who ∧ Sl I 1 encI x.a2 x.n2 x.c2 s.needs := by
  have h1 : k < hs.length := by rw [h.1.len]; exact hk
  have h2 : k < ss.length := by rw [h.len]; exact hk
  have ha : hs[k]? = some hs[k] := List.getElem?_eq_getElem h1
  have hb : ss[k]? = some ss[k] := List.getElem?_eq_getElem h2
  exact ⟨hs[k], ss[k], ha, hb, h.2.2 k _ _ ha hb⟩
/-- A course with the heads of its lists. -/
structure CH where
  a : Option Addr
  n : Nat
  c : Nat
  st : Int
  da : Int
  lo : Int
  ru : Int
  a2 : Option Addr
  n2 : Nat
  c2 : Nat
def encCH (x : CH) : List Value := [.slice x.a x.n x.c, .int .i64 x.st, .int .i64 x.da, .int .i64 x.lo, .int .i64 x.ru, .slice x.a2 x.n2 x.c2]
def encCHA (x : CH) : Value := .agg (encCH x).toArray
def CrAt (I : HMap) (x : CH) (k : Cr) : Prop := Sl I 1 encI x.a x.n x.c k.days ∧ x.st = k.st ∧ x.da = k.da ∧ x.lo = k.lo ∧ x.ru = k.ru ∧ SlS I x.a2 x.n2 x.c2 k.ss
theorem CrAt.mono {I I' : HMap} {x : CH} {k : Cr} (h : CrAt I x k) (hI : HLe I I') : CrAt I' x k := ⟨h.1.mono hI, h.2.1, h.2.2.1, h.2.2.2.1, h.2.2.2.2.1, h.2.2.2.2.2.mono hI⟩
/-! ### Which are right -/
def risF (hi : Int) : Int → List Int → Bool
  | _, [] => true
  | lo, n :: l => !(decide (n < lo) || decide (n > hi)) && risF hi (n + 1) l
theorem ris_bad {hi lo n : Int} {l : List Int} {k : Nat} (h : l[k]? = some n) (hb : (decide (n < lo) || decide (n > hi)) = true) : risF hi lo (l.drop k) = false := by rw [drop_cons h]; unfold risF; rw [hb]; rfl
theorem ris_step {hi lo n : Int} {l : List Int} {k : Nat} (h : l[k]? = some n) (hb : (decide (n < lo) || decide (n > hi)) = false) : risF hi lo (l.drop k) = risF hi (n + 1) (l.drop (k + 1)) := by
  rw [drop_cons h]
  show (!(decide (n < lo) || decide (n > hi)) && risF hi (n + 1) (l.drop (k + 1))) = _
  rw [hb]; rfl
theorem ris_end {hi lo : Int} {l : List Int} {k : Nat} (h : l.length ≤ k) : risF hi lo (l.drop k) = true := by rw [List.drop_eq_nil_of_le h]; rfl
theorem ris_in {hi : Int} : ∀ {lo : Int} {l : List Int}, risF hi lo l = true → (∀ x ∈ l, lo ≤ x ∧ x ≤ hi) ∧ l.Pairwise (· < ·)
  | _, [], _ => ⟨(fun x hx => by cases hx), .nil⟩
  | lo, n :: l, h => by
    have h : (!(decide (n < lo) || decide (n > hi)) && risF hi (n + 1) l) = true := h
    simp only [Bool.and_eq_true, Bool.not_eq_true', Bool.or_eq_false_iff, decide_eq_false_iff_not] at h
    obtain ⟨h1, h2⟩ := ris_in h.2
    refine ⟨fun x hx => ?_, List.pairwise_cons.2 ⟨fun x hx => by have := h1 x hx; omega, h2⟩⟩
    rcases List.mem_cons.1 hx with rfl | hx
    · omega
    · have := h1 x hx; omega
def win (n hi : Int) : Bool := decide (n ≥ 1) && decide (n ≤ hi)
/-- Is a session wrong, at its place? -/
def sesP (i : Nat) (s : Ses) : Bool := decide (s.pa < 0) || decide (s.pa > 1048576) || !win s.ef 16 || ((s.who.length : Int) == 0) || !risF 63 0 s.who || !risF ((i : Int) - 1) 0 s.needs
def goodS : Nat → List Ses → Bool
  | _, [] => true
  | i, s :: l => !sesP i s && goodS (i + 1) l
theorem goodS_bad {i : Nat} {s : Ses} {l : List Ses} (h : l[i]? = some s) (hb : sesP i s = true) : goodS i (l.drop i) = false := by rw [drop_cons h]; unfold goodS; rw [hb]; rfl
theorem goodS_step {i : Nat} {s : Ses} {l : List Ses} (h : l[i]? = some s) (hb : sesP i s = false) : goodS i (l.drop i) = goodS (i + 1) (l.drop (i + 1)) := by
  rw [drop_cons h]
  show (!sesP i s && goodS (i + 1) (l.drop (i + 1))) = _
  rw [hb]; rfl
theorem goodS_end {i : Nat} {l : List Ses} (h : l.length ≤ i) : goodS i (l.drop i) = true := by rw [List.drop_eq_nil_of_le h]; rfl
def rightH (c : Cr) : Bool := !risF 73048 0 c.days || !win c.st 8 || !win c.da 8 || !win c.lo 64 || !win c.ru 16
def rightF (c : Cr) : Bool := !rightH c && goodS 0 c.ss
def plansF (c : Cr) : Int := ((c.days.length ^ c.ss.length : Nat) : Int)
def chkC (c : Cr) : Int := if ((decide ((c.days.length : Int) > 16) || decide ((c.ss.length : Int) > 8)) || c.ss.any (fun s => decide ((s.who.length : Int) > 6))) = true then 2 else if rightF c = true then (if plansF c > 65536 then 2 else 0) else 400
theorem pow16 {n k : Nat} (hn : n ≤ 16) (hk : k ≤ 8) : n ^ k ≤ 4294967296 := by
  have h1 : n ^ k ≤ 16 ^ k := Nat.pow_le_pow_left hn k
  have h2 : 16 ^ k ≤ 16 ^ 8 := Nat.pow_le_pow_right (by decide) hk
  have h3 : (16 : Nat) ^ 8 = 4294967296 := by decide
  omega
theorem chkC_1 {c : Cr} (h : ((decide ((c.days.length : Int) > 16) || decide ((c.ss.length : Int) > 8)) || c.ss.any (fun s => decide ((s.who.length : Int) > 6))) = true) : chkC c = 2 := by unfold chkC; rw [if_pos h]
theorem chkC_2 {c : Cr} (h : ((decide ((c.days.length : Int) > 16) || decide ((c.ss.length : Int) > 8)) || c.ss.any (fun s => decide ((s.who.length : Int) > 6))) = false) (h2 : rightF c = false) : chkC c = 400 := by unfold chkC; rw [if_neg (by rw [h]; decide), if_neg (by rw [h2]; decide)]
theorem chkC_3 {c : Cr} (h : ((decide ((c.days.length : Int) > 16) || decide ((c.ss.length : Int) > 8)) || c.ss.any (fun s => decide ((s.who.length : Int) > 6))) = false) (h2 : rightF c = true) : chkC c = if plansF c > 65536 then 2 else 0 := by unfold chkC; rw [if_neg (by rw [h]; decide), if_pos h2]
theorem chk_small {c : Cr} (h : ((decide ((c.days.length : Int) > 16) || decide ((c.ss.length : Int) > 8)) || c.ss.any (fun s => decide ((s.who.length : Int) > 6))) = false) : c.days.length ≤ 16 ∧ c.ss.length ≤ 8 ∧ ∀ s ∈ c.ss, s.who.length ≤ 6 := by
  simp only [Bool.or_eq_false_iff, decide_eq_false_iff_not, List.any_eq_false, decide_eq_true_eq] at h
  exact ⟨by omega, by omega, fun s hs => by have := h.2 s hs; omega⟩
end Go.Proofs.YtehkiccapbkhnaaGreat
end
section
namespace Go.Proofs.YtehkiccapbkhnaaGreat
open Go Go.Kn Go.Proofs
theorem agt_58 : AgT Tryz.prog 58 4 := .of (by kernel_rfl)
theorem fld_33_0 : FieldAt Tryz.prog 33 0 0 := .of (by kernel_rfl)
theorem fld_33_1 : FieldAt Tryz.prog 33 1 1 := .of (by kernel_rfl)
theorem fld_33_2 : FieldAt Tryz.prog 33 2 2 := .of (by kernel_rfl)
theorem fld_33_3 : FieldAt Tryz.prog 33 3 3 := .of (by kernel_rfl)
theorem fld_33_4 : FieldAt Tryz.prog 33 4 4 := .of (by kernel_rfl)
theorem fld_33_5 : FieldAt Tryz.prog 33 5 5 := .of (by kernel_rfl)
theorem fld_58_0 : FieldAt Tryz.prog 58 0 0 := .of (by kernel_rfl)
theorem fld_58_1 : FieldAt Tryz.prog 58 1 1 := .of (by kernel_rfl)
theorem fld_58_2 : FieldAt Tryz.prog 58 2 2 := .of (by kernel_rfl)
theorem fld_58_3 : FieldAt Tryz.prog 58 3 3 := .of (by kernel_rfl)
theorem fun_100 : Fun Tryz.prog 100 := .of Tryz.func100 (by kernel_rfl) (by kernel_rfl)
theorem fun_101 : Fun Tryz.prog 101 := .of Tryz.func101 (by kernel_rfl) (by kernel_rfl)
theorem fun_99 : Fun Tryz.prog 99 := .of Tryz.func99 (by kernel_rfl) (by kernel_rfl)
theorem sct_27 : ScT Tryz.prog 27 := .of (by kernel_rfl)
theorem slt_27 : SlT Tryz.prog 27 58 4 := .of (by kernel_rfl)
theorem szt_58 : SzT Tryz.prog 58 4 := .of (by kernel_rfl)
theorem zt_58 : ZeroT Tryz.prog 58 (.agg #[(.int .i64 0), (.int .i64 0), (.slice none 0 0), (.slice none 0 0)]) := .of (by kernel_rfl)
theorem w_win (I : HMap) (n hi : Int) : RetV Tryz.prog 100 [.int .i64 n, .int .i64 hi] I (.bool (win n hi)) := by
 intro g H w hw
 refine enter Tryz.func100 rfl Tryz.ntmps100 rfl hw ?_
 refine zR ?_
 refine zA ?_
 refine zN (zR ?_)
 refine zM ?_
 refine zC ?_
 refine zM ?_
 refine XO_pushT 2 rfl rfl rfl ?_
 refine XO_v1 (ev_move rfl) (.some rfl rfl rfl rfl gbt) rfl rfl rfl ?_
 refine XO_v1 (ev_move rfl) (.some rfl rfl rfl rfl gbt) rfl rfl rfl ?_
 refine XO_v1 (ev_cmp rfl rfl rfl) (.some rfl rfl rfl rfl gbt) rfl rfl rfl ?_
 refine XO_and0 rfl rfl rfl rfl rfl ?_
 refine zA ?_
 refine zN ?_
 refine X_ret ?_
 exact at_ret1 rfl rfl (fun w hw => ⟨by rfl, hw.drop⟩)
theorem w_ris {I : HMap} {av : Option Addr} {n c : Nat} {xs : List Int} (hS : Sl I 1 encI av n c xs) (hn : n ≤ 100000) (lo hi : Int) (hlo : 0 ≤ lo) (hhi : hi ≤ 100000) : RetV Tryz.prog 101 [.slice av n c, .int .i64 lo, .int .i64 hi] I (.bool (risF hi lo xs)) := by
 intro g H w hw
 refine enter Tryz.func101 rfl Tryz.ntmps101 rfl hw ?_
 refine zR ?_
 refine zA ?_
 refine zN ?_
 refine X_seq ?_
 refine zR ?_
 refine zM ?_
 refine XO_v0 (ev_lenS rfl slt_23) rfl rfl rfl ?_
 refine zM ?_
 refine zN ?_
 refine X_block ?_
 refine X_loopT [(2, _), (9, _), (10, _)] (.cons rfl (.cons rfl (.cons rfl .nil))) (fun T L0 mz E I' loc' => ∃ (k : Nat) (l : Int), mz = n - k ∧ E = (1, .int .i64 l) :: (11, .int .i64 k) :: T ∧ I = I' ∧ L0 = loc' ∧ k ≤ n ∧ risF hi lo xs = risF hi l (xs.drop k) ∧ 0 ≤ l) _ _ _ _ ⟨0, lo, rfl, rfl, rfl, rfl, Nat.zero_le _, rfl, hlo⟩ (.cons rfl (.cons rfl (.cons rfl (.cons rfl (.cons rfl .nil))))) (HLe.refl _) rfl ?_
 rintro mz E I' loc' ⟨k, l, rfl, rfl, rfl, rfl, hk, hr, hl0⟩
 refine zR ?_
 refine zC ?_
 refine zN ?_
 refine X_seq ?_
 refine X_cond rfl (fun hc12 => ?_) (fun hc12 => ?_)
 ·
  have hlt_k : k < n := by have h := hc12; simp at h; omega
  obtain ⟨x, hx⟩ := hS.at hlt_k
  refine X_skip ?_
  refine at_then ?_
  refine X_seq ?_
  refine X_block ?_
  refine zR ?_
  refine XO_v0 (ev_indexSl rfl rfl slt_23 (by assumption) (fun hg => by first | omega | (simp [conj] at hg; omega))) rfl rfl rfl ?_
  refine XO_v0 (ev_load rfl sct_3 (fun hg => by first | exact Sl.get0 hS hx rfl | (repeat (first | exact Cell.here rfl | apply Cell.there | apply Cell.app)))) rfl rfl rfl ?_
  refine zA ?_
  refine zN ?_
  refine X_seq ?_
  refine zR ?_
  refine zM ?_
  refine zM ?_
  refine zC ?_
  refine zM ?_
  refine XO_pushF 3 rfl rfl rfl ?_
  refine XO_v1 (ev_move rfl) (.some rfl rfl rfl rfl gbf) rfl rfl rfl ?_
  refine XO_v1 (ev_move rfl) (.some rfl rfl rfl rfl gbf) rfl rfl rfl ?_
  refine XO_v1 (ev_cmp rfl rfl rfl) (.some rfl rfl rfl rfl gbf) rfl rfl rfl ?_
  refine XO_or0 rfl rfl rfl rfl rfl ?_
  refine zN ?_
  refine X_cond rfl (fun hc22 => ?_) (fun hc22 => ?_)
  ·
   have hb : (decide (x < l) || decide (x > hi)) = true := hc22
   refine zR ?_
   refine zA ?_
   refine zN ?_
   refine X_ret ?_
   refine at_then_r ?_
   refine at_block_r ?_
   refine at_then_r ?_
   refine at_then_r ?_
   refine at_block_r ?_
   refine at_then_r ?_
   exact at_ret1 rfl rfl (fun w hw => ⟨by rw [hr, ris_bad hx hb], hw.drop⟩)
  have hb : (decide (x < l) || decide (x > hi)) = false := hc22
  have hxh : l ≤ x ∧ x ≤ 100000 := by have h := hb; simp only [Bool.or_eq_false_iff, decide_eq_false_iff_not] at h; omega
  refine X_skip ?_
  refine at_then ?_
  refine X_region ?_
  refine zM ?_
  refine zB ?_
  refine zA ?_
  refine XO_nil ?_
  refine at_block_n ?_
  refine at_then ?_
  refine X_region ?_
  refine zB ?_
  refine zM ?_
  refine XO_nil ?_
  exact at_met2 _ _ ⟨n - (k + 1), by omega, k + 1, _, rfl, rfl, rfl, rfl, by omega, by rw [hr, ris_step hx hb], by omega⟩ (.cons rfl (.cons rfl (.cons rfl (.cons rfl (.cons rfl .nil))))) (by repeat (first | exact .refl | exact subL_left | refine subL_app ?_ | refine .drop ?_ | refine subL_add ?_))
 have hge_k : n ≤ k := by have h := hc12; simp at h; omega
 rw [ris_end (by rw [hS.len]; exact hge_k)] at hr
 refine X_exit ?_
 refine at_then_e ?_
 refine at_then_e ?_
 refine at_block_hit ?_
 refine at_then ?_
 refine zR ?_
 refine zA ?_
 refine zN ?_
 refine X_ret ?_
 exact at_ret1 rfl rfl (fun w hw => ⟨by rw [hr], hw.drop⟩)
theorem w_ixS {I : HMap} {av : Option Addr} {n c : Nat} {ss : List Ses} {hs : List SH} (hH : SlSH I av n c hs ss) (hn : n ≤ 100000) {P : Ses → Bool} (hF : Fun Tryz.prog 61) (hf : ∀ (k : Nat) (h : SH) (s : Ses), hs[k]? = some h → ss[k]? = some s → RetV Tryz.prog 61 [encSHA h] I (.bool (P s))) : RetV Tryz.prog 99 [.slice av n c, .func (.func 61) #[] #[]] I (.int .i64 (idxF P ss)) := by
 intro g H w hw
 refine enter Tryz.func99 rfl Tryz.ntmps99 rfl hw ?_
 have hS := hH.1
 have hlS := hH.len
 refine zR ?_
 refine zA ?_
 refine zN ?_
 refine X_seq ?_
 refine zR ?_
 refine zM ?_
 refine XO_v0 (ev_lenS rfl slt_27) rfl rfl rfl ?_
 refine zM ?_
 refine zN ?_
 refine X_block ?_
 refine X_loopT [(0, _), (1, _), (7, _)] (.cons rfl (.cons rfl (.cons rfl .nil))) (fun T L0 mz E I' loc' => ∃ (k : Nat), mz = n - k ∧ E = (8, .int .i64 k) :: T ∧ I = I' ∧ L0 = loc' ∧ k ≤ n ∧ (ss.take k).any P = false) _ _ _ _ ⟨0, rfl, rfl, rfl, rfl, Nat.zero_le _, rfl⟩ (.cons rfl (.cons rfl (.cons rfl (.cons rfl .nil)))) (HLe.refl _) rfl ?_
 rintro mz E I' loc' ⟨k, rfl, rfl, rfl, rfl, hk, hno⟩
 refine zR ?_
 refine zC ?_
 refine zN ?_
 refine X_seq ?_
 refine X_cond rfl (fun hc9 => ?_) (fun hc9 => ?_)
 ·
  have hlt_k : k < n := by have h := hc9; simp at h; omega
  obtain ⟨x, s, hx, hs9, _⟩ := hH.at hlt_k
  refine X_skip ?_
  refine at_then ?_
  refine X_seq ?_
  refine X_block ?_
  refine zR ?_
  refine zM ?_
  refine zA ?_
  refine zN (zR ?_)
  refine zM ?_
  refine zM ?_
  refine zM ?_
  refine XO_v0 (ev_indexSl rfl rfl slt_27 (by assumption) (fun hg => by first | omega | (simp [conj] at hg; omega))) rfl rfl rfl ?_
  refine XO_v0 (ev_loadA rfl agt_58 (fun hg => by first | exact Sl.getA hS hx | (repeat (first | exact Cells.here | exact Cells.s0 (vs := [_, _, _, _]) rfl | apply Cells.there | apply Cells.app))) rfl) rfl rfl rfl ?_
  refine XO_callV0 (cap := []) (vs := [_]) rfl rfl hF (hf k x s hx hs9) rfl rfl ?_
  refine zN ?_
  refine X_cond rfl (fun hc16 => ?_) (fun hc16 => ?_)
  ·
   refine zR ?_
   refine zM ?_
   refine zA ?_
   refine zN ?_
   refine X_ret ?_
   refine at_block_r ?_
   refine at_then_r ?_
   refine at_then_r ?_
   refine at_block_r ?_
   refine at_then_r ?_
   exact at_ret1 rfl rfl (fun w hw => ⟨by rw [idx_hit hno hs9 hc16], hw.drop⟩)
  refine X_skip ?_
  refine at_block_n ?_
  refine at_then ?_
  refine X_region ?_
  refine XO_v0 (ev_arB rfl rfl rfl (fun _ => by omega)) rfl rfl rfl ?_
  refine zM ?_
  refine XO_nil ?_
  exact at_met2 _ _ ⟨n - (k + 1), by omega, k + 1, rfl, rfl, rfl, rfl, by omega, any_no hs9 hno hc16⟩ (.cons rfl (.cons rfl (.cons rfl (.cons rfl .nil)))) (by repeat (first | exact .refl | exact subL_left | refine subL_app ?_ | refine .drop ?_ | refine subL_add ?_))
 have hge_k : n ≤ k := by have h := hc9; simp at h; omega
 refine X_exit ?_
 refine at_then_e ?_
 refine at_then_e ?_
 refine at_block_hit ?_
 refine at_then ?_
 refine zR ?_
 refine zA ?_
 refine zN ?_
 refine X_ret ?_
 exact at_ret1 rfl rfl (fun w hw => ⟨by rw [idx_none hlS hge_k hno], hw.drop⟩)
theorem w_cnS {I : HMap} {av : Option Addr} {n c : Nat} {ss : List Ses} {hs : List SH} (hH : SlSH I av n c hs ss) (hn : n ≤ 100000) {P : Ses → Bool} (hF : Fun Tryz.prog 61) (hf : ∀ (k : Nat) (h : SH) (s : Ses), hs[k]? = some h → ss[k]? = some s → RetV Tryz.prog 61 [encSHA h] I (.bool (P s))) : RetV Tryz.prog 60 [.slice av n c, .func (.func 61) #[] #[]] I (.bool (ss.any P)) := by
 intro g H w hw
 refine enter Tryz.func60 rfl Tryz.ntmps60 rfl hw ?_
 refine zR ?_
 refine zA ?_
 refine zN (zR ?_)
 refine zM ?_
 refine zM ?_
 refine XO_callV0 (cap := []) (vs := [_, _]) rfl rfl fun_99 (w_ixS hH hn hF hf) rfl rfl ?_
 refine zC ?_
 refine zA ?_
 refine zN ?_
 refine X_ret ?_
 exact at_ret1 rfl rfl (fun w hw => ⟨by rw [← idx_any], hw.drop⟩)
theorem w_ck1S (I : HMap) (h : SH) : RetV Tryz.prog 61 [encSHA h] I (.bool (decide ((h.n : Int) > 6))) := by
 intro g H w hw
 refine enter Tryz.func61 rfl Tryz.ntmps61 rfl hw ?_
 refine zR ?_
 refine XO_box rfl rfl rfl (fun b_1 => ?_)
 refine zA ?_
 refine zN (zR ?_)
 refine XO_v0 (ev_fieldAddr rfl fld_58_2) rfl rfl rfl ?_
 refine zL sct_23 ?_
 refine XO_v0 (ev_lenS rfl slt_23) rfl rfl rfl ?_
 refine zC ?_
 refine zA ?_
 refine zN ?_
 refine X_ret ?_
 exact at_ret1 rfl rfl (fun w hw => ⟨by rfl, hw.drop⟩)
theorem w_right {I : HMap} {x : CH} {cr : Cr} (hC : CrAt I x cr) (hn : x.n ≤ 16) (hn2 : x.n2 ≤ 8) (hwh : ∀ s ∈ cr.ss, s.who.length ≤ 6) (hnd : ∀ s ∈ cr.ss, s.needs.length ≤ 100000) : RetV Tryz.prog 62 [encCHA x] I (.bool (rightF cr)) := by
 intro g H w hw
 refine enter Tryz.func62 rfl Tryz.ntmps62 rfl hw ?_
 obtain ⟨hD, e1, e2, e3, e4, hss⟩ := id hC
 obtain ⟨hs, hH⟩ := hss
 have hS := hH.1
 have hlD := hD.len
 have hlS := hH.len
 refine zR ?_
 refine XO_box rfl rfl rfl (fun b_1 => ?_)
 refine zA ?_
 refine zN (zR ?_)
 refine zA ?_
 refine zN ?_
 refine X_seq ?_
 refine zR ?_
 refine XO_v0 (ev_fieldAddr rfl fld_33_0) rfl rfl rfl ?_
 refine zL sct_23 ?_
 refine XO_callV0 (cap := []) (vs := [_, _, _]) rfl rfl fun_101 (w_ris hD (by omega) 0 73048 (by decide) (by decide)) rfl rfl ?_
 refine XO_v0 (ev_not rfl) rfl rfl rfl ?_
 refine zM ?_
 refine XO_pushF 4 rfl rfl rfl ?_
 refine XO_v1 (ev_move rfl) (.some rfl rfl rfl rfl gbf) rfl rfl rfl ?_
 refine XO_v1 (ev_fieldAddr rfl fld_33_1) (.some rfl rfl rfl rfl gbf) rfl rfl rfl ?_
 refine XO_v1 (ev_load rfl sct_3 (fun hg => by repeat (first | exact Cell.here rfl | apply Cell.there | apply Cell.app))) (.some rfl rfl rfl rfl gbf) rfl rfl rfl ?_
 refine XO_callV1 (cap := []) (vs := [_, _]) rfl rfl fun_100 (fun hg => w_win I _ _) (.some rfl rfl rfl rfl gbf) rfl rfl ?_
 refine XO_v1 (ev_not rfl) (.some rfl rfl rfl rfl gbf) rfl rfl rfl ?_
 refine XO_or0 rfl rfl rfl rfl rfl ?_
 refine zM ?_
 refine XO_pushF 11 rfl rfl rfl ?_
 refine XO_v1 (ev_move rfl) (.some rfl rfl rfl rfl gbf) rfl rfl rfl ?_
 refine XO_v1 (ev_fieldAddr rfl fld_33_2) (.some rfl rfl rfl rfl gbf) rfl rfl rfl ?_
 refine XO_v1 (ev_load rfl sct_3 (fun hg => by repeat (first | exact Cell.here rfl | apply Cell.there | apply Cell.app))) (.some rfl rfl rfl rfl gbf) rfl rfl rfl ?_
 refine XO_callV1 (cap := []) (vs := [_, _]) rfl rfl fun_100 (fun hg => w_win I _ _) (.some rfl rfl rfl rfl gbf) rfl rfl ?_
 refine XO_v1 (ev_not rfl) (.some rfl rfl rfl rfl gbf) rfl rfl rfl ?_
 refine XO_or0 rfl rfl rfl rfl rfl ?_
 refine zM ?_
 refine XO_pushF 18 rfl rfl rfl ?_
 refine XO_v1 (ev_move rfl) (.some rfl rfl rfl rfl gbf) rfl rfl rfl ?_
 refine XO_v1 (ev_fieldAddr rfl fld_33_3) (.some rfl rfl rfl rfl gbf) rfl rfl rfl ?_
 refine XO_v1 (ev_load rfl sct_3 (fun hg => by repeat (first | exact Cell.here rfl | apply Cell.there | apply Cell.app))) (.some rfl rfl rfl rfl gbf) rfl rfl rfl ?_
 refine XO_callV1 (cap := []) (vs := [_, _]) rfl rfl fun_100 (fun hg => w_win I _ _) (.some rfl rfl rfl rfl gbf) rfl rfl ?_
 refine XO_v1 (ev_not rfl) (.some rfl rfl rfl rfl gbf) rfl rfl rfl ?_
 refine XO_or0 rfl rfl rfl rfl rfl ?_
 refine zM ?_
 refine XO_pushF 25 rfl rfl rfl ?_
 refine XO_v1 (ev_move rfl) (.some rfl rfl rfl rfl gbf) rfl rfl rfl ?_
 refine XO_v1 (ev_fieldAddr rfl fld_33_4) (.some rfl rfl rfl rfl gbf) rfl rfl rfl ?_
 refine XO_v1 (ev_load rfl sct_3 (fun hg => by repeat (first | exact Cell.here rfl | apply Cell.there | apply Cell.app))) (.some rfl rfl rfl rfl gbf) rfl rfl rfl ?_
 refine XO_callV1 (cap := []) (vs := [_, _]) rfl rfl fun_100 (fun hg => w_win I _ _) (.some rfl rfl rfl rfl gbf) rfl rfl ?_
 refine XO_v1 (ev_not rfl) (.some rfl rfl rfl rfl gbf) rfl rfl rfl ?_
 refine XO_or0 rfl rfl rfl rfl rfl ?_
 refine zN ?_
 refine X_cond rfl (fun hc37 => ?_) (fun hc37 => ?_)
 ·
  have hr : rightH cr = true := by unfold rightH; rw [← e1, ← e2, ← e3, ← e4]; exact hc37
  refine zR ?_
  refine zA ?_
  refine zN ?_
  refine X_ret ?_
  refine at_then_r ?_
  first
  | exact at_ret1 rfl rfl (fun w hw => ⟨by unfold rightF; rw [hr]; rfl, hw.drop⟩)
 have hr : rightH cr = false := by unfold rightH; rw [← e1, ← e2, ← e3, ← e4]; exact hc37
 refine X_skip ?_
 refine at_then ?_
 refine X_seq ?_
 refine zR ?_
 refine XO_v0 (ev_fieldAddr rfl fld_33_5) rfl rfl rfl ?_
 refine zL sct_27 ?_
 refine XO_v0 (ev_lenS rfl slt_27) rfl rfl rfl ?_
 refine zM ?_
 refine zN ?_
 refine X_block ?_
 refine X_loopT [(3, _), (39, _), (40, _)] (.cons rfl (.cons rfl (.cons rfl .nil))) (fun T L0 mz E I' loc' => ∃ (k : Nat), mz = x.n2 - k ∧ E = (41, .int .i64 k) :: T ∧ I = I' ∧ L0 = loc' ∧ k ≤ x.n2 ∧ goodS 0 cr.ss = goodS k (cr.ss.drop k)) _ _ _ _ ⟨0, rfl, rfl, rfl, rfl, Nat.zero_le _, rfl⟩ (.cons rfl (.cons rfl (.cons rfl (.cons rfl .nil)))) (HLe.refl _) rfl ?_
 rintro mz E I' loc' ⟨k, rfl, rfl, rfl, rfl, hk, hg9⟩
 refine zR ?_
 refine zC ?_
 refine zN ?_
 refine X_seq ?_
 refine X_cond rfl (fun hc42 => ?_) (fun hc42 => ?_)
 ·
  have hlt_k : k < x.n2 := by have h := hc42; simp at h; omega
  obtain ⟨y, s, hy, hs9, q1, q2, hW, hN⟩ := hH.at hlt_k
  have hwl := hwh s (List.mem_of_getElem? hs9)
  have hnl := hnd s (List.mem_of_getElem? hs9)
  have hWl := hW.len
  have hNl := hN.len
  refine X_skip ?_
  refine at_then ?_
  refine X_seq ?_
  refine X_block ?_
  refine zR ?_
  refine zM ?_
  refine XO_v0 (ev_indexSl rfl rfl slt_27 (by assumption) (fun hg => by first | omega | (simp [conj] at hg; omega))) rfl rfl rfl ?_
  refine XO_v0 (ev_loadA rfl agt_58 (fun hg => by first | exact Sl.getA hS hy | (repeat (first | exact Cells.here | exact Cells.s0 (vs := [_, _, _, _]) rfl | apply Cells.there | apply Cells.app))) rfl) rfl rfl rfl ?_
  refine XO_alloc zt_58 rfl rfl (fun b_5 => ?_)
  refine zA ?_
  refine XO_storeA rfl rfl szt_58 rfl rfl rfl rfl (by repeat (first | exact Upd.here | apply Upd.there | apply upd_app)) ?_
  refine zN (zR ?_)
  refine XO_v0 (ev_fieldAddr rfl fld_58_0) rfl rfl rfl ?_
  refine zL sct_3 ?_
  refine zC ?_
  refine zM ?_
  refine XO_pushF 3 rfl rfl rfl ?_
  refine XO_v1 (ev_fieldAddr rfl fld_58_0) (.some rfl rfl rfl rfl gbf) rfl rfl rfl ?_
  refine XO_v1 (ev_load rfl sct_3 (fun hg => by repeat (first | exact Cell.here rfl | apply Cell.there | apply Cell.app))) (.some rfl rfl rfl rfl gbf) rfl rfl rfl ?_
  refine XO_v1 (ev_cmp rfl rfl rfl) (.some rfl rfl rfl rfl gbf) rfl rfl rfl ?_
  refine XO_or0 rfl rfl rfl rfl rfl ?_
  refine zM ?_
  refine XO_pushF 8 rfl rfl rfl ?_
  refine XO_v1 (ev_move rfl) (.some rfl rfl rfl rfl gbf) rfl rfl rfl ?_
  refine XO_v1 (ev_fieldAddr rfl fld_58_1) (.some rfl rfl rfl rfl gbf) rfl rfl rfl ?_
  refine XO_v1 (ev_load rfl sct_3 (fun hg => by repeat (first | exact Cell.here rfl | apply Cell.there | apply Cell.app))) (.some rfl rfl rfl rfl gbf) rfl rfl rfl ?_
  refine XO_callV1 (cap := []) (vs := [_, _]) rfl rfl fun_100 (fun hg => w_win I _ _) (.some rfl rfl rfl rfl gbf) rfl rfl ?_
  refine XO_v1 (ev_not rfl) (.some rfl rfl rfl rfl gbf) rfl rfl rfl ?_
  refine XO_or0 rfl rfl rfl rfl rfl ?_
  refine zM ?_
  refine XO_pushF 15 rfl rfl rfl ?_
  refine XO_v1 (ev_fieldAddr rfl fld_58_2) (.some rfl rfl rfl rfl gbf) rfl rfl rfl ?_
  refine XO_v1 (ev_load rfl sct_23 (fun hg => by repeat (first | exact Cell.here rfl | apply Cell.there | apply Cell.app))) (.some rfl rfl rfl rfl gbf) rfl rfl rfl ?_
  refine XO_v1 (ev_lenS rfl slt_23) (.some rfl rfl rfl rfl gbf) rfl rfl rfl ?_
  refine XO_v1 (ev_cmp rfl rfl rfl) (.some rfl rfl rfl rfl gbf) rfl rfl rfl ?_
  refine XO_or0 rfl rfl rfl rfl rfl ?_
  refine zM ?_
  refine XO_pushF 21 rfl rfl rfl ?_
  refine XO_v1 (ev_fieldAddr rfl fld_58_2) (.some rfl rfl rfl rfl gbf) rfl rfl rfl ?_
  refine XO_v1 (ev_load rfl sct_23 (fun hg => by repeat (first | exact Cell.here rfl | apply Cell.there | apply Cell.app))) (.some rfl rfl rfl rfl gbf) rfl rfl rfl ?_
  refine XO_callV1 (cap := []) (vs := [_, _, _]) rfl rfl fun_101 (fun hg => w_ris hW (by omega) 0 63 (by decide) (by decide)) (.some rfl rfl rfl rfl gbf) rfl rfl ?_
  refine XO_v1 (ev_not rfl) (.some rfl rfl rfl rfl gbf) rfl rfl rfl ?_
  refine XO_or0 rfl rfl rfl rfl rfl ?_
  refine zM ?_
  refine XO_pushF 27 rfl rfl rfl ?_
  refine XO_v1 (ev_fieldAddr rfl fld_58_3) (.some rfl rfl rfl rfl gbf) rfl rfl rfl ?_
  refine XO_v1 (ev_load rfl sct_23 (fun hg => by repeat (first | exact Cell.here rfl | apply Cell.there | apply Cell.app))) (.some rfl rfl rfl rfl gbf) rfl rfl rfl ?_
  refine XO_v1 (ev_move rfl) (.some rfl rfl rfl rfl gbf) rfl rfl rfl ?_
  refine XO_v1 (ev_arB rfl rfl rfl (fun hg => by first | omega | (simp [conj] at hg; omega))) (.some rfl rfl rfl rfl gbf) rfl rfl rfl ?_
  refine XO_callV1 (cap := []) (vs := [_, _, _]) rfl rfl fun_101 (fun hg => w_ris hN (by omega) 0 _ (by decide) (by omega)) (.some rfl rfl rfl rfl gbf) rfl rfl ?_
  refine XO_v1 (ev_not rfl) (.some rfl rfl rfl rfl gbf) rfl rfl rfl ?_
  refine XO_or0 rfl rfl rfl rfl rfl ?_
  refine zN ?_
  refine X_cond rfl (fun hc80 => ?_) (fun hc80 => ?_)
  ·
   have hb : sesP k s = true := by unfold sesP; rw [← q1, ← q2, hWl]; exact hc80
   refine zR ?_
   refine zA ?_
   refine zN ?_
   refine X_ret ?_
   refine at_block_r ?_
   refine at_then_r ?_
   refine at_then_r ?_
   refine at_block_r ?_
   refine at_then_r ?_
   first
   | exact at_ret1 rfl rfl (fun w hw => ⟨by unfold rightF; rw [hr, hg9, goodS_bad hs9 hb]; rfl, hw.drop⟩)
  have hb : sesP k s = false := by unfold sesP; rw [← q1, ← q2, hWl]; exact hc80
  refine X_skip ?_
  refine at_block_n ?_
  refine at_then ?_
  refine X_region ?_
  refine zB ?_
  refine zM ?_
  refine XO_nil ?_
  exact at_met2 _ _ ⟨x.n2 - (k + 1), by omega, k + 1, rfl, rfl, rfl, rfl, by omega, by rw [hg9, goodS_step hs9 hb]⟩ (.cons rfl (.cons rfl (.cons rfl (.cons rfl .nil)))) (by repeat (first | exact .refl | exact subL_left | refine subL_app ?_ | refine .drop ?_ | refine subL_add ?_))
 have hge_k : x.n2 ≤ k := by have h := hc42; simp at h; omega
 rw [goodS_end (by omega)] at hg9
 refine X_exit ?_
 refine at_then_e ?_
 refine at_then_e ?_
 refine at_block_hit ?_
 refine at_then ?_
 refine zR ?_
 refine zA ?_
 refine zN ?_
 refine X_ret ?_
 first
 | exact at_ret1 rfl rfl (fun w hw => ⟨by unfold rightF; rw [hr, hg9]; rfl, hw.drop⟩)
end Go.Proofs.YtehkiccapbkhnaaGreat
end
section
namespace Go.Proofs.YtehkiccapbkhnaaGreat
open Go Go.Kn Go.Proofs
theorem agt_33 : AgT Tryz.prog 33 6 := .of (by kernel_rfl)
theorem fun_60 : Fun Tryz.prog 60 := .of Tryz.func60 (by kernel_rfl) (by kernel_rfl)
theorem fun_61 : Fun Tryz.prog 61 := .of Tryz.func61 (by kernel_rfl) (by kernel_rfl)
theorem fun_62 : Fun Tryz.prog 62 := .of Tryz.func62 (by kernel_rfl) (by kernel_rfl)
theorem w_chkC {I : HMap} {x : CH} {cr : Cr} (hC : CrAt I x cr) (hnd : ∀ s ∈ cr.ss, s.needs.length ≤ 100000) : RetV Tryz.prog 20 [encCHA x] I (.int .i64 (chkC cr)) := by
 intro g H w hw
 refine enter Tryz.func20 rfl Tryz.ntmps20 rfl hw ?_
 obtain ⟨hD, e1, e2, e3, e4, hss⟩ := id hC
 obtain ⟨hs, hH⟩ := hss
 have hS := hH.1
 have hlD := hD.len
 have hlS := hH.len
 have hP : ∀ (k : Nat) (h : SH) (s : Ses), hs[k]? = some h → cr.ss[k]? = some s → RetV Tryz.prog 61 [encSHA h] I (.bool (decide ((s.who.length : Int) > 6))) := fun k h s a b => by have h9 := w_ck1S I h; rw [← (hH.2.2 k h s a b).2.2.1.len] at h9; exact h9
 refine zR ?_
 refine XO_box rfl rfl rfl (fun b_1 => ?_)
 refine zA ?_
 refine zN ?_
 refine X_seq ?_
 refine zR ?_
 refine XO_v0 (ev_fieldAddr rfl fld_33_0) rfl rfl rfl ?_
 refine zL sct_23 ?_
 refine XO_v0 (ev_lenS rfl slt_23) rfl rfl rfl ?_
 refine zC ?_
 refine zM ?_
 refine XO_pushF 4 rfl rfl rfl ?_
 refine XO_v1 (ev_fieldAddr rfl fld_33_5) (.some rfl rfl rfl rfl gbf) rfl rfl rfl ?_
 refine XO_v1 (ev_load rfl sct_27 (fun hg => by repeat (first | exact Cell.here rfl | apply Cell.there | apply Cell.app))) (.some rfl rfl rfl rfl gbf) rfl rfl rfl ?_
 refine XO_v1 (ev_lenS rfl slt_27) (.some rfl rfl rfl rfl gbf) rfl rfl rfl ?_
 refine XO_v1 (ev_cmp rfl rfl rfl) (.some rfl rfl rfl rfl gbf) rfl rfl rfl ?_
 refine XO_or0 rfl rfl rfl rfl rfl ?_
 refine zM ?_
 refine XO_pushF 10 rfl rfl rfl ?_
 refine XO_v1 (ev_fieldAddr rfl fld_33_5) (.some rfl rfl rfl rfl gbf) rfl rfl rfl ?_
 refine XO_v1 (ev_load rfl sct_27 (fun hg => by repeat (first | exact Cell.here rfl | apply Cell.there | apply Cell.app))) (.some rfl rfl rfl rfl gbf) rfl rfl rfl ?_
 refine XO_callV1 (cap := []) (vs := [_, _]) rfl rfl fun_60 (fun hg => w_cnS (P := fun s => decide ((s.who.length : Int) > 6)) hH (by simp [conj] at hg; omega) fun_61 hP) (.some rfl rfl rfl rfl gbf) rfl rfl ?_
 refine XO_or0 rfl rfl rfl rfl rfl ?_
 refine zN ?_
 refine X_cond rfl (fun hc18 => ?_) (fun hc18 => ?_)
 ·
  have h1 : ((decide ((cr.days.length : Int) > 16) || decide ((cr.ss.length : Int) > 8)) || cr.ss.any (fun s => decide ((s.who.length : Int) > 6))) = true := by rw [hlD, hlS]; exact hc18
  refine zR ?_
  refine zA ?_
  refine zN ?_
  refine X_ret ?_
  refine at_then_r ?_
  exact at_ret1 rfl rfl (fun w hw => ⟨by rw [chkC_1 h1], hw.drop⟩)
 have h1 : ((decide ((cr.days.length : Int) > 16) || decide ((cr.ss.length : Int) > 8)) || cr.ss.any (fun s => decide ((s.who.length : Int) > 6))) = false := by rw [hlD, hlS]; exact hc18
 obtain ⟨hk1, hk2, hk3⟩ := chk_small h1
 rw [hlD] at hk1
 rw [hlS] at hk2
 refine X_skip ?_
 refine at_then ?_
 refine X_seq ?_
 refine zR ?_
 refine XO_v0 (ev_loadA rfl agt_33 (fun hg => by first | (repeat (first | exact Cells.here | exact Cells.s0 (vs := [_, _, _, _, _, _]) rfl | apply Cells.there | apply Cells.app))) rfl) rfl rfl rfl ?_
 refine XO_callV0 (cap := []) (vs := [_]) rfl rfl fun_62 (w_right hC (by omega) (by omega) hk3 hnd) rfl rfl ?_
 refine XO_v0 (ev_not rfl) rfl rfl rfl ?_
 refine zN ?_
 refine X_cond rfl (fun hc21 => ?_) (fun hc21 => ?_)
 ·
  have h2 : rightF cr = false := by simpa using hc21
  refine zR ?_
  refine zA ?_
  refine zN ?_
  refine X_ret ?_
  refine at_then_r ?_
  exact at_ret1 rfl rfl (fun w hw => ⟨by rw [chkC_2 h1 h2], hw.drop⟩)
 have h2 : rightF cr = true := by simpa using hc21
 refine X_skip ?_
 refine at_then ?_
 refine zR ?_
 refine zA ?_
 refine zN ?_
 refine X_seq ?_
 refine zR ?_
 refine XO_v0 (ev_fieldAddr rfl fld_33_5) rfl rfl rfl ?_
 refine zL sct_27 ?_
 refine XO_v0 (ev_lenS rfl slt_27) rfl rfl rfl ?_
 refine zM ?_
 refine zN ?_
 refine X_block ?_
 refine X_loopT [(1, _), (24, _)] (.cons rfl (.cons rfl .nil)) (fun T L0 mz E I' loc' => ∃ (k : Nat) (q : Int), mz = x.n2 - k ∧ E = (3, .int .i64 q) :: (25, .int .i64 k) :: T ∧ I = I' ∧ L0 = loc' ∧ k ≤ x.n2 ∧ q = ((x.n ^ k : Nat) : Int)) _ _ _ _ ⟨0, 1, rfl, rfl, rfl, rfl, Nat.zero_le _, rfl⟩ (.cons rfl (.cons rfl (.cons rfl (.cons rfl .nil)))) (HLe.refl _) rfl ?_
 rintro mz E I' loc' ⟨k, q, rfl, rfl, rfl, rfl, hk, hq⟩
 refine zR ?_
 refine zC ?_
 refine zN ?_
 refine X_seq ?_
 refine X_cond rfl (fun hc26 => ?_) (fun hc26 => ?_)
 ·
  have hlt_k : k < x.n2 := by have h := hc26; simp at h; omega
  have hp := pow16 (n := x.n) (k := k) hk1 (by omega)
  have hp2 := pow16 (n := x.n) (k := k + 1) hk1 (by omega)
  have hm : q * (x.n : Int) = ((x.n ^ (k + 1) : Nat) : Int) := by rw [hq, Nat.pow_succ]; simp
  refine X_skip ?_
  refine at_then ?_
  refine X_seq ?_
  refine X_block ?_
  refine X_region ?_
  refine zM ?_
  refine XO_v0 (ev_fieldAddr rfl fld_33_0) rfl rfl rfl ?_
  refine zL sct_23 ?_
  refine XO_v0 (ev_lenS rfl slt_23) rfl rfl rfl ?_
  refine zB ?_
  refine zA ?_
  refine XO_nil ?_
  refine at_block_n ?_
  refine at_then ?_
  refine X_region ?_
  refine zB ?_
  refine zM ?_
  refine XO_nil ?_
  exact at_met2 _ _ ⟨x.n2 - (k + 1), by omega, k + 1, _, rfl, rfl, rfl, rfl, by omega, by rw [hq, Nat.pow_succ]; simp⟩ (.cons rfl (.cons rfl (.cons rfl (.cons rfl .nil)))) (by repeat (first | exact .refl | exact subL_left | refine subL_app ?_ | refine .drop ?_ | refine subL_add ?_))
 have hge_k : x.n2 ≤ k := by have h := hc26; simp at h; omega
 obtain rfl : k = x.n2 := by omega
 have hpl : plansF cr = q := by unfold plansF; rw [hlD, hlS, hq]
 refine X_exit ?_
 refine at_then_e ?_
 refine at_then_e ?_
 refine at_block_hit ?_
 refine at_then ?_
 refine X_seq ?_
 refine zR ?_
 refine zM ?_
 refine zC ?_
 refine zN ?_
 refine X_cond rfl (fun hc34 => ?_) (fun hc34 => ?_)
 ·
  have h3 : plansF cr > 65536 := by rw [hpl]; simpa using hc34
  refine zR ?_
  refine zA ?_
  refine zN ?_
  refine X_ret ?_
  refine at_then_r ?_
  exact at_ret1 rfl rfl (fun w hw => ⟨by rw [chkC_3 h1 h2, if_pos h3], hw.drop⟩)
 have h3 : ¬ plansF cr > 65536 := by rw [hpl]; simpa using hc34
 refine X_skip ?_
 refine at_then ?_
 refine zR ?_
 refine zA ?_
 refine zN ?_
 refine X_ret ?_
 exact at_ret1 rfl rfl (fun w hw => ⟨by rw [chkC_3 h1 h2, if_neg h3], hw.drop⟩)
end Go.Proofs.YtehkiccapbkhnaaGreat
end
section
namespace Go.Proofs.YtehkiccapbkhnaaGreat
open Go Go.Kn Go.Proofs
structure Br where
  r : Int
  d : Int
  w : Int
deriving DecidableEq
def encBr (b : Br) : List Value := [.int .i64 b.r, .int .i64 b.d, .int .i64 b.w]
theorem encBr_len (b : Br) : (encBr b).length = 3 := rfl
theorem one_Br (xs : List Br) : allOne (xs.flatMap encBr) = true := allOne_flat (fun _ => rfl) xs
def encBrA (b : Br) : Value := .agg (encBr b).toArray
def orL : List Int → Int
  | [] => 0
  | x :: l => if (x != 0) = true then x else orL l
theorem orL_hit {l : List Int} {k : Nat} {x : Int} (hx : l[k]? = some x) (h : (x != 0) = true) : orL (l.drop k) = x := by rw [drop_cons hx]; exact if_pos h
theorem orL_go {l : List Int} {k : Nat} {x : Int} (hx : l[k]? = some x) (h : (x != 0) = false) : orL (l.drop k) = orL (l.drop (k + 1)) := by rw [drop_cons hx]; exact if_neg (by rw [h]; decide)
theorem orL_end {l : List Int} {k : Nat} (h : l.length ≤ k) : orL (l.drop k) = 0 := by rw [List.drop_eq_nil_of_le h]; rfl
def cmpB (a b : Br) : Int := orL [cmpF a.r b.r, cmpF a.d b.d, cmpF a.w b.w]
end Go.Proofs.YtehkiccapbkhnaaGreat
end
section
namespace Go.Proofs.YtehkiccapbkhnaaGreat
open Go Go.Kn Go.Proofs
theorem fld_91_0 : FieldAt Tryz.prog 91 0 0 := .of (by kernel_rfl)
theorem fld_91_1 : FieldAt Tryz.prog 91 1 1 := .of (by kernel_rfl)
theorem fld_91_2 : FieldAt Tryz.prog 91 2 2 := .of (by kernel_rfl)
theorem fun_129 : Fun Tryz.prog 129 := .of Tryz.func129 (by kernel_rfl) (by kernel_rfl)
theorem w_or {I : HMap} {av : Option Addr} {n c : Nat} {xs : List Int} (hS : Sl I 1 encI av n c xs) (hn : n ≤ 100000) : RetV Tryz.prog 129 [.slice av n c] I (.int .i64 (orL xs)) := by
 intro g H w hw
 refine enter Tryz.func129 rfl Tryz.ntmps129 rfl hw ?_
 refine zR ?_
 refine zA ?_
 refine zN (zR ?_)
 refine zA ?_
 refine zN ?_
 refine X_seq ?_
 refine zR ?_
 refine zM ?_
 refine XO_v0 (ev_lenS rfl slt_23) rfl rfl rfl ?_
 refine zM ?_
 refine zN ?_
 refine X_block ?_
 refine X_loopT [(3, _), (6, _), (7, _)] (.cons rfl (.cons rfl (.cons rfl .nil))) (fun T L0 mz E I' loc' => ∃ (k : Nat), mz = n - k ∧ E = (8, .int .i64 k) :: T ∧ I = I' ∧ L0 = loc' ∧ k ≤ n ∧ orL xs = orL (xs.drop k)) _ _ _ _ ⟨0, rfl, rfl, rfl, rfl, Nat.zero_le _, rfl⟩ (.cons rfl (.cons rfl (.cons rfl (.cons rfl .nil)))) (HLe.refl _) rfl ?_
 rintro mz E I' loc' ⟨k, rfl, rfl, rfl, rfl, hk, hr⟩
 refine zR ?_
 refine zC ?_
 refine zN ?_
 refine X_seq ?_
 refine X_cond rfl (fun hc9 => ?_) (fun hc9 => ?_)
 ·
  have hlt_k : k < n := by have h := hc9; simp at h; omega
  obtain ⟨x, hx⟩ := hS.at hlt_k
  refine X_skip ?_
  refine at_then ?_
  refine X_seq ?_
  refine X_block ?_
  refine zR ?_
  refine XO_v0 (ev_indexSl rfl rfl slt_23 (by assumption) (fun hg => by first | omega | (simp [conj] at hg; omega))) rfl rfl rfl ?_
  refine XO_v0 (ev_load rfl sct_3 (fun hg => by first | exact Sl.get0 hS hx rfl | (repeat (first | exact Cell.here rfl | apply Cell.there | apply Cell.app)))) rfl rfl rfl ?_
  refine zA ?_
  refine zN (zR ?_)
  refine zM ?_
  refine zM ?_
  refine zC ?_
  refine zN ?_
  refine X_cond rfl (fun hc14 => ?_) (fun hc14 => ?_)
  ·
   have hb : (x != 0) = true := hc14
   refine zR ?_
   refine zM ?_
   refine zA ?_
   refine zN ?_
   refine X_ret ?_
   refine at_block_r ?_
   refine at_then_r ?_
   refine at_then_r ?_
   refine at_block_r ?_
   refine at_then_r ?_
   exact at_ret1 rfl rfl (fun w hw => ⟨by rw [hr, orL_hit hx hb], hw.drop⟩)
  have hb : (x != 0) = false := hc14
  refine X_skip ?_
  refine at_block_n ?_
  refine at_then ?_
  refine X_region ?_
  refine zB ?_
  refine zM ?_
  refine XO_nil ?_
  exact at_met2 _ _ ⟨n - (k + 1), by omega, k + 1, rfl, rfl, rfl, rfl, by omega, by rw [hr, orL_go hx hb]⟩ (.cons rfl (.cons rfl (.cons rfl (.cons rfl .nil)))) (by repeat (first | exact .refl | exact subL_left | refine subL_app ?_ | refine .drop ?_ | refine subL_add ?_))
 have hge_k : n ≤ k := by have h := hc9; simp at h; omega
 rw [orL_end (by rw [hS.len]; exact hge_k)] at hr
 refine X_exit ?_
 refine at_then_e ?_
 refine at_then_e ?_
 refine at_block_hit ?_
 refine at_then ?_
 refine zR ?_
 refine zM ?_
 refine zA ?_
 refine zN ?_
 refine X_ret ?_
 exact at_ret1 rfl rfl (fun w hw => ⟨by rw [hr], hw.drop⟩)
theorem w_cmpB (I : HMap) (a b : Br) : RetV Tryz.prog 92 [encBrA a, encBrA b] I (.int .i64 (cmpB a b)) := by
 intro g H w hw
 refine enter Tryz.func92 rfl Tryz.ntmps92 rfl hw ?_
 have hIc := HLe.refl I
 refine zR ?_
 refine XO_box rfl rfl rfl (fun b_2 => ?_)
 refine XO_box rfl rfl rfl (fun b_3 => ?_)
 refine zA ?_
 refine zN ?_
 refine X_seq ?_
 have hD := HLe.refl I
 refine X_drawC mixed ?_
 refine zT 0 rfl (ev_fieldAddr rfl fld_91_0) hD ?_
 refine zT 1 rfl (ev_load rfl sct_3 (fun hg => by repeat (first | exact Cell.here rfl | apply Cell.there | apply Cell.app))) hD ?_
 refine zT 2 rfl (ev_fieldAddr rfl fld_91_0) hD ?_
 refine zT 3 rfl (ev_load rfl sct_3 (fun hg => by repeat (first | exact Cell.here rfl | apply Cell.there | apply Cell.app))) hD ?_
 refine zT 5 rfl (ev_fieldAddr rfl fld_91_1) hD ?_
 refine zT 6 rfl (ev_load rfl sct_3 (fun hg => by repeat (first | exact Cell.here rfl | apply Cell.there | apply Cell.app))) hD ?_
 refine zT 7 rfl (ev_fieldAddr rfl fld_91_1) hD ?_
 refine zT 8 rfl (ev_load rfl sct_3 (fun hg => by repeat (first | exact Cell.here rfl | apply Cell.there | apply Cell.app))) hD ?_
 refine zT 10 rfl (ev_fieldAddr rfl fld_91_2) hD ?_
 refine zT 11 rfl (ev_load rfl sct_3 (fun hg => by repeat (first | exact Cell.here rfl | apply Cell.there | apply Cell.app))) hD ?_
 refine zT 12 rfl (ev_fieldAddr rfl fld_91_2) hD ?_
 refine zT 13 rfl (ev_load rfl sct_3 (fun hg => by repeat (first | exact Cell.here rfl | apply Cell.there | apply Cell.app))) hD ?_
 refine XD_one 4 rfl (by kernel_rfl) ?_
 refine XO_callV0 (cap := []) (vs := [_, _]) rfl rfl fun_130 (w_cmp I _ _) rfl rfl ?_
 refine XO_nil ?_
 refine zD hD ?_
 refine XD_one 9 rfl (by kernel_rfl) ?_
 refine XO_callV0 (cap := []) (vs := [_, _]) rfl rfl fun_130 (w_cmp I _ _) rfl rfl ?_
 refine XO_nil ?_
 refine zD hD ?_
 refine XD_one 14 rfl (by kernel_rfl) ?_
 refine XO_callV0 (cap := []) (vs := [_, _]) rfl rfl fun_130 (w_cmp I _ _) rfl rfl ?_
 refine XO_nil ?_
 refine zD hD ?_
 refine XD_one 15 rfl (by kernel_rfl) ?_
 refine XO_buildSlice (ps := [(0, _), (1, _), (2, _)]) (m := [encI (cmpF a.r b.r), encI (cmpF a.d b.d), encI (cmpF a.w b.w)]) elt_23 rfl (.cons rfl (.cons rfl (.cons rfl (.nil)))) rfl (by simp [encI_len]) (by decide) (by decide) rfl rfl (fun b_20 => ?_)
 refine XO_nil ?_
 refine zD hD ?_
 refine XD_one 16 rfl (by kernel_rfl) ?_
 refine XO_freeze (b := b_20) (by repeat (first | exact Take.here | apply Take.there)) (fun I1 hI1 hb1 => ?_)
 have hIc := hIc.trans hI1; have hD := hD.trans hI1
 have h3 : Sl I1 1 encI (some ⟨b_20, 0, none⟩) 3 3 [cmpF a.r b.r, cmpF a.d b.d, cmpF a.w b.w] := Sl.lit ([cmpF a.r b.r, cmpF a.d b.d, cmpF a.w b.w] : List Int) rfl encI_len (show _ = some (Obj.cells (([cmpF a.r b.r, cmpF a.d b.d, cmpF a.w b.w] : List Int).flatMap encI).toArray 3 (0, 0)) from hb1)
 refine XO_callV0 (cap := []) (vs := [_]) rfl rfl fun_129 (w_or h3 (by decide)) rfl rfl ?_
 refine XO_nil ?_
 refine zD hD ?_
 refine zT 17 rfl (ev_assign rfl) hD ?_
 refine XD_done (by kernel_rfl) ?_
 refine at_noP ?_
 refine at_then ?_
 refine X_ret ?_
 exact at_ret1 rfl rfl (fun w hw => ⟨by rfl, (hw.mono hIc).drop⟩)
end Go.Proofs.YtehkiccapbkhnaaGreat
end
section
namespace Go.Proofs.YtehkiccapbkhnaaGreat
open Go Go.Kn Go.Proofs
/-! ### The order of breaches -/
def ltB (a b : Br) : Prop := a.r < b.r ∨ (a.r = b.r ∧ (a.d < b.d ∨ (a.d = b.d ∧ a.w < b.w)))
theorem ltB_irr (a : Br) : ¬ ltB a a := by unfold ltB; omega
theorem ltB_trans {a b c : Br} (h : ltB a b) (g : ltB b c) : ltB a c := by unfold ltB at *; omega
theorem ltB_anti {a b : Br} (h : ltB a b) (g : ltB b a) : False := ltB_irr _ (ltB_trans h g)
theorem ltB_tri (a b : Br) : ltB a b ∨ a = b ∨ ltB b a := by
  obtain ⟨r, d, w⟩ := a; obtain ⟨r', d', w'⟩ := b
  unfold ltB; simp only [Br.mk.injEq]; omega
theorem cmpB_lt (a b : Br) : cmpB a b < 0 ↔ ltB a b := by
  unfold cmpB ltB
  simp only [orL]
  have h1 : ∀ x y : Int, cmpF x y = if x < y then -1 else if x > y then 1 else 0 := fun x y => by unfold cmpF; rfl
  simp only [h1]
  by_cases e1 : a.r < b.r
  · simp [e1]
  · by_cases e2 : a.r > b.r
    · simp [e1, e2]; omega
    · by_cases e3 : a.d < b.d
      · simp [e1, e2, e3]; omega
      · by_cases e4 : a.d > b.d
        · simp [e1, e2, e3, e4]; omega
        · by_cases e5 : a.w < b.w
          · simp [e1, e2, e3, e4, e5]; omega
          · by_cases e6 : a.w > b.w
            · simp [e1, e2, e3, e4, e5, e6]
            · simp [e1, e2, e3, e4, e5, e6]
theorem lex_one {xs ys : List Br} (hx : xs.Pairwise ltB) (hy : ys.Pairwise ltB) (h : ∀ b, b ∈ xs ↔ b ∈ ys) : xs = ys := by
  have nx : xs.Nodup := hx.imp (S := (· ≠ ·)) (fun h e => by subst e; exact ltB_irr _ h)
  have ny : ys.Nodup := hy.imp (S := (· ≠ ·)) (fun h e => by subst e; exact ltB_irr _ h)
  exact List.Perm.eq_of_pairwise (le := ltB) (fun a b _ _ h1 h2 => (ltB_anti h1 h2).elim) hx hy ((List.perm_ext_iff_of_nodup nx ny).2 h)
/-! ### What a beginning breaks -/
def onD (c : Cr) (pl : List Int) (d : Int) : List Ses := ((pl.zip c.ss).filter (fun q => q.1 == d)).map (·.2)
def cntF (c : Cr) (pl : List Int) (d p : Int) : Int := (((onD c pl d).filter (fun s => s.who.contains p)).length : Nat)
def effF (c : Cr) (pl : List Int) (d p : Int) : Int := (((onD c pl d).filter (fun s => s.who.contains p)).map (·.ef)).sum
def manyF (pl : List Int) (d : Int) : Int := ((pl.filter (· == d)).length : Nat)
def dayF (c : Cr) (d : Int) : Int := c.days.getD d.toNat 0
def busyF (c : Cr) (pl : List Int) (x p : Int) : Bool := (pl.zip c.ss).any fun q => dayF c q.1 == x && q.2.who.contains p
def needF (c : Cr) (pl : List Int) (d k : Int) : Bool := (pl.zip c.ss).any fun q => q.1 == d && q.2.needs.contains k && decide (pl.getD k.toNat 0 ≥ d)
def runF (c : Cr) (pl : List Int) (d p : Int) : Bool := (List.range (c.ru.toNat + 1)).all fun k => busyF c pl (dayF c d - (k : Int)) p
def brk (c : Cr) (pl : List Int) (b : Br) : Bool :=
  if b.r = 1 then needF c pl b.d b.w else if b.r = 2 then b.w == 0 && decide (manyF pl b.d > c.st) else if b.r = 3 then decide (cntF c pl b.d b.w > c.da)
  else if b.r = 4 then decide (effF c pl b.d b.w > c.lo) else if b.r = 5 then runF c pl b.d b.w else false
def cands (n : Nat) : List Br := [1, 2, 3, 4, 5].flatMap fun r => (List.range n).flatMap fun (d : Nat) => (List.range 64).map fun (w : Nat) => ⟨r, d, w⟩
theorem mem_cands {n : Nat} {b : Br} : b ∈ cands n ↔ (1 ≤ b.r ∧ b.r ≤ 5) ∧ (0 ≤ b.d ∧ b.d < n) ∧ (0 ≤ b.w ∧ b.w < 64) := by
  obtain ⟨r, d, w⟩ := b
  unfold cands
  simp only [List.mem_flatMap, List.mem_map, List.mem_range, Br.mk.injEq]
  constructor
  · rintro ⟨r', hr, d', hd, w', hw, rfl, rfl, rfl⟩
    simp only [List.mem_cons, List.not_mem_nil, or_false] at hr
    omega
  · rintro ⟨h1, h2, h3⟩
    refine ⟨r, ?_, d.toNat, by omega, w.toNat, by omega, rfl, by omega, by omega⟩
    simp only [List.mem_cons, List.not_mem_nil, or_false]; omega
theorem cands_lt (n : Nat) : (cands n).Pairwise ltB := by
  unfold cands
  have hr : ∀ m, (List.range m).Pairwise (· < ·) := fun m => List.pairwise_lt_range
  refine List.pairwise_flatMap.2 ⟨fun r _ => List.pairwise_flatMap.2 ⟨fun d _ => List.pairwise_map.2 ((hr 64).imp fun {a b} h => .inr ⟨rfl, .inr ⟨rfl, by show (a : Int) < b; omega⟩⟩), (hr n).imp fun {a b} h => ?_⟩, ?_⟩
  · intro x hx y hy
    simp only [List.mem_map] at hx hy
    obtain ⟨w, _, rfl⟩ := hx
    obtain ⟨w', _, rfl⟩ := hy
    exact .inr ⟨rfl, .inl (by show (a : Int) < b; omega)⟩
  · have : ([1, 2, 3, 4, 5] : List Int).Pairwise (· < ·) := by decide
    refine this.imp fun {a b} h => ?_
    intro x hx y hy
    simp only [List.mem_flatMap, List.mem_map] at hx hy
    obtain ⟨d, _, w, _, rfl⟩ := hx
    obtain ⟨d', _, w', _, rfl⟩ := hy
    exact .inl h
/-- What a beginning breaks, in order. -/
def brkL (c : Cr) (pl : List Int) : List Br := (cands c.days.length).filter (brk c pl)
theorem mem_brkL {c : Cr} {pl : List Int} {b : Br} : b ∈ brkL c pl ↔ ((1 ≤ b.r ∧ b.r ≤ 5) ∧ (0 ≤ b.d ∧ b.d < c.days.length) ∧ (0 ≤ b.w ∧ b.w < 64)) ∧ brk c pl b = true := by
  unfold brkL; rw [List.mem_filter, mem_cands]
theorem brkL_lt (c : Cr) (pl : List Int) : (brkL c pl).Pairwise ltB := (cands_lt _).sublist List.filter_sublist
end Go.Proofs.YtehkiccapbkhnaaGreat
end
section
namespace Go.Proofs.YtehkiccapbkhnaaGreat
open Go Go.Kn Go.Proofs
theorem goodS_at : ∀ {l : List Ses} {i : Nat}, goodS i l = true → ∀ (k : Nat) (s : Ses), l[k]? = some s → sesP (i + k) s = false
  | [], _, _, k, s, h => by simp at h
  | x :: l, i, h, k, s, hs => by
    have h : (!sesP i x && goodS (i + 1) l) = true := h
    simp only [Bool.and_eq_true, Bool.not_eq_true'] at h
    cases k with
    | zero => simp at hs; subst hs; exact h.1
    | succ k => have := goodS_at h.2 k s (by simpa using hs); rw [show i + (k + 1) = i + 1 + k by omega]; exact this
structure SesOK (i : Nat) (s : Ses) : Prop where
  pa : 0 ≤ s.pa ∧ s.pa ≤ 1048576
  ef : 1 ≤ s.ef ∧ s.ef ≤ 16
  ne : s.who ≠ []
  who : ∀ p ∈ s.who, 0 ≤ p ∧ p ≤ 63
  inc : s.who.Pairwise (· < ·)
  needs : ∀ k ∈ s.needs, 0 ≤ k ∧ k < i
  incn : s.needs.Pairwise (· < ·)
theorem ses_ok {i : Nat} {s : Ses} (h : sesP i s = false) : SesOK i s := by
  unfold sesP win at h
  simp only [Bool.or_eq_false_iff, decide_eq_false_iff_not, Bool.not_eq_false', Bool.and_eq_true, decide_eq_true_eq, beq_eq_false_iff_ne, ne_eq] at h
  obtain ⟨⟨⟨⟨⟨h1, h2⟩, h3⟩, h4⟩, h5⟩, h6⟩ := h
  obtain ⟨w1, w2⟩ := ris_in h5
  obtain ⟨n1, n2⟩ := ris_in h6
  refine ⟨by omega, by omega, fun e => h4 (by rw [e]; rfl), w1, w2, fun k hk => by have := n1 k hk; omega, n2⟩
structure HeadOK (c : Cr) : Prop where
  day : ∀ x ∈ c.days, 0 ≤ x ∧ x ≤ 73048
  inc : c.days.Pairwise (· < ·)
  st : 1 ≤ c.st ∧ c.st ≤ 8
  da : 1 ≤ c.da ∧ c.da ≤ 8
  lo : 1 ≤ c.lo ∧ c.lo ≤ 64
  ru : 1 ≤ c.ru ∧ c.ru ≤ 16
theorem head_ok {c : Cr} (h : rightF c = true) : HeadOK c := by
  unfold rightF rightH win at h
  simp only [Bool.and_eq_true, Bool.not_eq_true', Bool.or_eq_false_iff, Bool.not_eq_false', decide_eq_true_eq] at h
  obtain ⟨⟨⟨⟨⟨h1, h2⟩, h3⟩, h4⟩, h5⟩, _⟩ := h
  obtain ⟨d1, d2⟩ := ris_in h1
  exact ⟨d1, d2, h2, h3, h4, h5⟩
theorem right_ses {c : Cr} (h : rightF c = true) {i : Nat} {s : Ses} (hs : c.ss[i]? = some s) : SesOK i s := by
  unfold rightF at h
  simp only [Bool.and_eq_true] at h
  have := goodS_at h.2 i s hs
  rw [Nat.zero_add] at this
  exact ses_ok this
/-! ### Lists side by side -/
theorem mem_zip {α β : Type} {a : List α} {b : List β} {q : α × β} (h : q ∈ a.zip b) : ∃ i : Nat, a[i]? = some q.1 ∧ b[i]? = some q.2 := by
  obtain ⟨i, hi⟩ := List.mem_iff_getElem?.1 h
  exact ⟨i, List.getElem?_zip_eq_some.1 hi⟩
theorem zip_mem {α β : Type} {a : List α} {b : List β} {i : Nat} {x : α} {y : β} (h : a[i]? = some x) (g : b[i]? = some y) : (x, y) ∈ a.zip b :=
  List.mem_iff_getElem?.2 ⟨i, List.getElem?_zip_eq_some.2 ⟨h, g⟩⟩
theorem days_lt {c : Cr} (hc : HeadOK c) {d e : Int} (hd : 0 ≤ d) (he : e < c.days.length) (h : d < e) : dayF c d < dayF c e := by
  have h1 : d.toNat < e.toNat := by omega
  have h2 : e.toNat < c.days.length := by omega
  have := List.pairwise_iff_getElem.1 hc.inc d.toNat e.toNat (by omega) h2 h1
  unfold dayF
  rw [List.getD_eq_getElem?_getD, List.getD_eq_getElem?_getD, List.getElem?_eq_getElem h2, List.getElem?_eq_getElem (by omega : d.toNat < c.days.length)]
  simpa using this
/-! ### Longer beginnings -/
end Go.Proofs.YtehkiccapbkhnaaGreat
end
section
namespace Go.Proofs.YtehkiccapbkhnaaGreat
open Go Go.Kn Go.Proofs
inductive Pr where
  | mk (r d w : Int) (kids : List Pr)
def leafP (b : Br) : Pr := .mk b.r b.d b.w []
/-- The days from d on, m of them: the kids so far. -/
def goS (g : Nat → Pr × Option (List Int)) : Nat → Nat → List Pr → Pr × Option (List Int)
  | 0, _, ks => (.mk 0 0 0 ks, none)
  | m + 1, d, ks => match (g d).2 with
    | some x => (.mk 0 0 0 ks, some x)
    | none => goS g m (d + 1) (ks ++ [(g d).1])
def srch (c : Cr) (last : Nat) : Nat → List Int → Pr × Option (List Int)
  | f, pl => match brkL c pl with
    | b :: _ => (leafP b, none)
    | [] => match f with
      | 0 => (.mk 0 0 0 [], some pl)
      | f + 1 => goS (fun d => srch c last f (pl ++ [(d : Int)])) last 0 []
theorem srch_leaf {c : Cr} {last f : Nat} {pl : List Int} {b : Br} {l : List Br} (h : brkL c pl = b :: l) : srch c last f pl = (leafP b, none) := by unfold srch; rw [h]
theorem srch_full {c : Cr} {last : Nat} {pl : List Int} (h : brkL c pl = []) : srch c last 0 pl = (.mk 0 0 0 [], some pl) := by unfold srch; rw [h]
theorem srch_step {c : Cr} {last f : Nat} {pl : List Int} (h : brkL c pl = []) : srch c last (f + 1) pl = goS (fun d => srch c last f (pl ++ [(d : Int)])) last 0 [] := by rw [srch]; rw [h]
theorem goS_some {g : Nat → Pr × Option (List Int)} {m d : Nat} {ks : List Pr} {x : List Int} (h : (g d).2 = some x) : goS g (m + 1) d ks = (.mk 0 0 0 ks, some x) := by rw [goS, h]
theorem goS_none {g : Nat → Pr × Option (List Int)} {m d : Nat} {ks : List Pr} (h : (g d).2 = none) : goS g (m + 1) d ks = goS g m (d + 1) (ks ++ [(g d).1]) := by rw [goS, h]
/-- What the days come to. -/
theorem goS_hit {g : Nat → Pr × Option (List Int)} : ∀ {m d : Nat} {ks : List Pr} {x : List Int}, (goS g m d ks).2 = some x → ∃ e, d ≤ e ∧ e < d + m ∧ (g e).2 = some x ∧ ∀ j, d ≤ j → j < e → (g j).2 = none
  | 0, _, _, _, h => by cases h
  | m + 1, d, ks, x, h => by
    cases e : (g d).2 with
    | some y => rw [goS_some e] at h; exact ⟨d, Nat.le_refl _, by omega, by rw [e]; exact h, fun j h1 h2 => by omega⟩
    | none =>
      rw [goS_none e] at h
      obtain ⟨a, h1, h2, h3, h4⟩ := goS_hit h
      refine ⟨a, by omega, by omega, h3, fun j g1 g2 => ?_⟩
      rcases Nat.eq_or_lt_of_le g1 with rfl | g1
      · exact e
      · exact h4 j g1 g2
/-- A plan for the first days. -/
def Good (c : Cr) (n : Nat) (pl : List Int) : Prop := pl.length = c.ss.length ∧ (∀ d ∈ pl, 0 ≤ d ∧ d < n) ∧ brkL c pl = []
theorem srch_sound {c : Cr} {n : Nat} : ∀ {f : Nat} {pl x : List Int}, pl.length + f = c.ss.length → (∀ d ∈ pl, 0 ≤ d ∧ d < n) → (srch c n f pl).2 = some x → Good c n x ∧ pl <+: x
  | f, pl, x, hf, hd, h => by
    cases e : brkL c pl with
    | cons b l => rw [srch_leaf e] at h; cases h
    | nil =>
      cases f with
      | zero => rw [srch_full e] at h; cases h; exact ⟨⟨by omega, hd, e⟩, List.prefix_refl _⟩
      | succ f =>
        rw [srch_step e] at h
        obtain ⟨a, _, h2, h3, _⟩ := goS_hit h
        obtain ⟨g1, g2⟩ := srch_sound (f := f) (by simp; omega) (fun d hdm => by
          rcases List.mem_append.1 hdm with hdm | hdm
          · exact hd d hdm
          · simp at hdm; subst hdm; omega) h3
        exact ⟨g1, (List.prefix_append _ _).trans g2⟩
mutual
def provesF (c : Cr) (last : Int) : Pr → List Int → Bool
  | .mk r d w ks, pl => if (r != 0) = true then (ks.length == 0) && (brkL c pl).contains ⟨r, d, w⟩ else
      if (d != 0 || w != 0 || (pl.length == c.ss.length) || ((ks.length : Int) != last)) = true then false else provesL c last ks 0 pl
def provesL (c : Cr) (last : Int) : List Pr → Nat → List Int → Bool
  | [], _, _ => true
  | k :: ks, d, pl => provesF c last k (pl ++ [(d : Int)]) && provesL c last ks (d + 1) pl
end
def findL (c : Cr) : Nat → Nat → Option (Nat × List Int)
  | 0, _ => none
  | m + 1, n => match (srch c n c.ss.length []).2 with
    | some x => some (n, x)
    | none => findL c m (n + 1)
def planF (c : Cr) : Option (Nat × List Int) := findL c (c.days.length + 1) 0
theorem findL_some {c : Cr} {m n : Nat} {x : List Int} (h : (srch c n c.ss.length []).2 = some x) : findL c (m + 1) n = some (n, x) := by rw [findL, h]
theorem findL_none {c : Cr} {m n : Nat} (h : (srch c n c.ss.length []).2 = none) : findL c (m + 1) n = findL c m (n + 1) := by rw [findL, h]
theorem findL_hit {c : Cr} : ∀ {m n k : Nat} {x : List Int}, findL c m n = some (k, x) → n ≤ k ∧ k < n + m ∧ (srch c k c.ss.length []).2 = some x ∧ ∀ j, n ≤ j → j < k → (srch c j c.ss.length []).2 = none
  | 0, _, _, _, h => by cases h
  | m + 1, n, k, x, h => by
    cases e : (srch c n c.ss.length []).2 with
    | some y => rw [findL_some e] at h; cases h; exact ⟨Nat.le_refl _, by omega, e, fun j h1 h2 => by omega⟩
    | none =>
      rw [findL_none e] at h
      obtain ⟨h1, h2, h3, h4⟩ := findL_hit h
      refine ⟨by omega, by omega, h3, fun j g1 g2 => ?_⟩
      rcases Nat.eq_or_lt_of_le g1 with rfl | g1
      · exact e
      · exact h4 j g1 g2
end Go.Proofs.YtehkiccapbkhnaaGreat
end
section
namespace Go.Proofs.YtehkiccapbkhnaaGreat
open Go Go.Kn Go.Proofs
section
variable {α : Type} [DecidableEq α]
/-- How often each key comes; what its values sum up to. -/
def cntM (es : List (α × Int)) : List (α × Int) := es.foldl (fun m e => mset m e.1 ((mget m e.1).getD 0 + 1)) []
def sumM (es : List (α × Int)) : List (α × Int) := es.foldl (fun m e => mset m e.1 ((mget m e.1).getD 0 + e.2)) []
def cntE (es : List (α × Int)) (a : α) : Int := ((es.filter (fun e => decide (e.1 = a))).length : Nat)
def sumE (es : List (α × Int)) (a : α) : Int := ((es.filter (fun e => decide (e.1 = a))).map (·.2)).sum
theorem cntM_nil : cntM ([] : List (α × Int)) = [] := rfl
theorem sumM_nil : sumM ([] : List (α × Int)) = [] := rfl
theorem cntM_snoc (es : List (α × Int)) (e : α × Int) : cntM (es ++ [e]) = mset (cntM es) e.1 ((mget (cntM es) e.1).getD 0 + 1) := by unfold cntM; rw [List.foldl_append]; rfl
theorem sumM_snoc (es : List (α × Int)) (e : α × Int) : sumM (es ++ [e]) = mset (sumM es) e.1 ((mget (sumM es) e.1).getD 0 + e.2) := by unfold sumM; rw [List.foldl_append]; rfl
omit [DecidableEq α] in
theorem snoc_ind {P : List (α × Int) → Prop} (h0 : P []) (h1 : ∀ es e, P es → P (es ++ [e])) (es : List (α × Int)) : P es := by
  have : ∀ n, ∀ es : List (α × Int), es.length = n → P es := by
    intro n
    induction n with
    | zero => intro es h; rw [List.length_eq_zero_iff.1 h]; exact h0
    | succ n ih =>
      intro es h
      rcases List.eq_nil_or_concat es with rfl | ⟨l, e, rfl⟩
      · exact h0
      · rw [List.concat_eq_append] at h ⊢; exact h1 l e (ih l (by simp at h; omega))
  exact this _ es rfl
theorem cntE_snoc (es : List (α × Int)) (e : α × Int) (a : α) : cntE (es ++ [e]) a = cntE es a + (if e.1 = a then 1 else 0) := by
  unfold cntE; rw [List.filter_append, List.length_append]
  by_cases h : e.1 = a <;> simp [h]
theorem sumE_snoc (es : List (α × Int)) (e : α × Int) (a : α) : sumE (es ++ [e]) a = sumE es a + (if e.1 = a then e.2 else 0) := by
  unfold sumE; rw [List.filter_append, List.map_append, List.sum_append]
  by_cases h : e.1 = a <;> simp [h]
theorem cntM_get (es : List (α × Int)) : ∀ a, (mget (cntM es) a).getD 0 = cntE es a := by
  refine snoc_ind (P := fun es => ∀ a, (mget (cntM es) a).getD 0 = cntE es a) (fun a => rfl) (fun es e ih a => ?_) es
  rw [cntM_snoc, mget_mset, cntE_snoc]
  by_cases h : e.1 = a
  · subst h; simp [ih]
  · simp [h, ih]
theorem sumM_get (es : List (α × Int)) : ∀ a, (mget (sumM es) a).getD 0 = sumE es a := by
  refine snoc_ind (P := fun es => ∀ a, (mget (sumM es) a).getD 0 = sumE es a) (fun a => rfl) (fun es e ih a => ?_) es
  rw [sumM_snoc, mget_mset, sumE_snoc]
  by_cases h : e.1 = a
  · subst h; simp [ih]
  · simp [h, ih]
theorem cntM_nodup (es : List (α × Int)) : ((cntM es).map (·.1)).Nodup :=
  snoc_ind (P := fun es => ((cntM es).map (·.1)).Nodup) (by simp [cntM_nil]) (fun es e ih => by rw [cntM_snoc]; exact mset_nodup _ _ ih) es
theorem cntM_key (es : List (α × Int)) : ∀ a, a ∈ (cntM es).map (·.1) ↔ 0 < cntE es a := by
  refine snoc_ind (P := fun es => ∀ a, a ∈ (cntM es).map (·.1) ↔ 0 < cntE es a) (fun a => by simp [cntM_nil, cntE]) (fun es e ih a => ?_) es
  have h0 : 0 ≤ cntE es a := by unfold cntE; omega
  rw [cntM_snoc, mset_keys, cntE_snoc]
  by_cases h : e.1 = a
  · subst h
    rw [if_pos rfl]
    by_cases g : e.1 ∈ (cntM es).map (·.1)
    · rw [if_pos g]; exact ⟨fun _ => by omega, fun _ => g⟩
    · rw [if_neg g]; exact ⟨fun _ => by omega, fun _ => by simp⟩
  · rw [if_neg h, Int.add_zero, ← ih a]
    by_cases g : e.1 ∈ (cntM es).map (·.1)
    · rw [if_pos g]
    · rw [if_neg g, List.mem_append, List.mem_singleton]
      exact ⟨fun q => q.elim id (fun q => absurd q.symm h), .inl⟩
theorem cntM_val {es : List (α × Int)} {p : α × Int} (h : p ∈ cntM es) : p.2 = cntE es p.1 := by
  rw [← cntM_get, mget_at (cntM_nodup es) h]; rfl
theorem cntE_nonneg (es : List (α × Int)) (a : α) : 0 ≤ cntE es a := by unfold cntE; omega
theorem cntE_le (es : List (α × Int)) (a : α) : cntE es a ≤ es.length := by
  unfold cntE; have := List.length_filter_le (fun e : α × Int => decide (e.1 = a)) es; omega
theorem sumE_bd {es : List (α × Int)} (h : ∀ e ∈ es, 0 ≤ e.2 ∧ e.2 ≤ 16) (a : α) : 0 ≤ sumE es a ∧ sumE es a ≤ 16 * es.length := by
  have key : ∀ l : List (α × Int), (∀ e ∈ l, 0 ≤ e.2 ∧ e.2 ≤ 16) → 0 ≤ (l.map (·.2)).sum ∧ (l.map (·.2)).sum ≤ 16 * l.length := by
    intro l
    induction l with
    | nil => intro _; simp
    | cons e l ih =>
      intro h
      have h1 := h e (by simp)
      have h2 := ih fun e he => h e (by simp [he])
      simp only [List.map_cons, List.sum_cons, List.length_cons]; omega
  have h1 := key (es.filter fun e => decide (e.1 = a)) fun e he => h e (List.mem_filter.1 he).1
  have h2 := List.length_filter_le (fun e : α × Int => decide (e.1 = a)) es
  unfold sumE; omega
theorem cntE_pos {es : List (α × Int)} {a : α} : 0 < cntE es a ↔ ∃ e ∈ es, e.1 = a := by
  unfold cntE
  rw [Int.natCast_pos, List.length_pos_iff_exists_mem]
  simp only [List.mem_filter, decide_eq_true_eq]
end
/-! ### People on the days of the calendar -/
def evS (x : Int) (s : Ses) : List ((Int × Int) × Int) := s.who.map fun p => ((p, x), s.ef)
def evs (c : Cr) (pl : List Int) : List ((Int × Int) × Int) := (pl.zip c.ss).flatMap fun q => evS (dayF c q.1) q.2
theorem cntE_app {α : Type} [DecidableEq α] (a b : List (α × Int)) (x : α) : cntE (a ++ b) x = cntE a x + cntE b x := by unfold cntE; rw [List.filter_append, List.length_append]; omega
theorem sumE_app {α : Type} [DecidableEq α] (a b : List (α × Int)) (x : α) : sumE (a ++ b) x = sumE a x + sumE b x := by unfold sumE; rw [List.filter_append, List.map_append, List.sum_append]
theorem who_one {l : List Int} (h : l.Pairwise (· < ·)) (p : Int) : l.filter (· == p) = if p ∈ l then [p] else [] := by
  induction l with
  | nil => simp
  | cons a l ih =>
    rw [List.pairwise_cons] at h
    rw [List.filter_cons, ih h.2]
    by_cases e : a = p
    · subst e
      have : a ∉ l := fun g => by have := h.1 a g; omega
      simp [this]
    · have e2 : ¬ p = a := fun q => e q.symm
      simp [e, e2]
theorem evS_cnt {x y p : Int} {s : Ses} (h : s.who.Pairwise (· < ·)) : cntE (evS x s) (p, y) = if (x == y && s.who.contains p) = true then 1 else 0 := by
  unfold cntE evS
  rw [List.filter_map, List.length_map]
  by_cases e : x = y
  · subst e
    have : ((fun e : (Int × Int) × Int => decide (e.1 = (p, x))) ∘ fun p => ((p, x), s.ef)) = fun q => q == p := by
      funext q
      rw [Bool.eq_iff_iff]; simp [Function.comp]
    rw [this, who_one h]
    by_cases g : p ∈ s.who <;> simp [g]
  · have : ((fun e : (Int × Int) × Int => decide (e.1 = (p, y))) ∘ fun p => ((p, x), s.ef)) = fun _ => false := by
      funext q; simp [Function.comp, e]
    rw [this]; simp [e]
theorem evS_sum {x y p : Int} {s : Ses} (h : s.who.Pairwise (· < ·)) : sumE (evS x s) (p, y) = if (x == y && s.who.contains p) = true then s.ef else 0 := by
  unfold sumE evS
  rw [List.filter_map, List.map_map]
  by_cases e : x = y
  · subst e
    have : ((fun e : (Int × Int) × Int => decide (e.1 = (p, x))) ∘ fun p => ((p, x), s.ef)) = fun q => q == p := by
      funext q
      rw [Bool.eq_iff_iff]; simp [Function.comp]
    rw [this, who_one h]
    by_cases g : p ∈ s.who <;> simp [g, Function.comp]
  · have : ((fun e : (Int × Int) × Int => decide (e.1 = (p, y))) ∘ fun p => ((p, x), s.ef)) = fun _ => false := by
      funext q; simp [Function.comp, e]
    rw [this, List.filter_eq_nil_iff.2 (by simp)]; simp [e]
end Go.Proofs.YtehkiccapbkhnaaGreat
end
section
namespace Go.Proofs.YtehkiccapbkhnaaGreat
open Go Go.Kn Go.Proofs
/-- The first n numbers from 1 on: is there always one? -/
def rowB (f : Int → Bool) (run : Int) : Bool := (List.range run.toNat).all fun j => f ((j : Int) + 1)
theorem rowB_iff {f : Int → Bool} {run : Int} : rowB f run = true ↔ ∀ j : Int, 1 ≤ j → j ≤ run → f j = true := by
  unfold rowB
  simp only [List.all_eq_true, List.mem_range]
  constructor
  · intro h j h1 h2
    have := h (j - 1).toNat (by omega)
    rwa [show (((j - 1).toNat : Nat) : Int) + 1 = j by omega] at this
  · intro h k hk
    exact h _ (by omega) (by omega)
theorem row_end {f : Int → Bool} {run row : Int} (h0 : ∀ j : Int, 1 ≤ j → j < row → f j = true) (h1 : 1 ≤ row) (hr : f row = false) : (decide (row > run)) = rowB f run := by
  rw [Bool.eq_iff_iff, rowB_iff, decide_eq_true_eq]
  constructor
  · intro h j g1 g2; exact h0 j g1 (by omega)
  · intro h
    by_cases e : row > run
    · exact e
    · rw [h row h1 (by omega)] at hr; cases hr
def InR (c : Cr) (pl : List Int) : Prop := ∀ d ∈ pl, 0 ≤ d ∧ d < c.days.length
theorem zip_cnt {c : Cr} (hc : rightF c = true) {d p : Int} (hd : 0 ≤ d ∧ d < c.days.length) : ∀ (zs : List (Int × Ses)), (∀ q ∈ zs, (0 ≤ q.1 ∧ q.1 < c.days.length) ∧ q.2.who.Pairwise (· < ·)) →
    cntE (zs.flatMap fun q => evS (dayF c q.1) q.2) (p, dayF c d) = (((((zs.filter (fun q => q.1 == d)).map (·.2)).filter (fun s => s.who.contains p)).length : Nat) : Int)
    ∧ sumE (zs.flatMap fun q => evS (dayF c q.1) q.2) (p, dayF c d) = ((((zs.filter (fun q => q.1 == d)).map (·.2)).filter (fun s => s.who.contains p)).map (·.ef)).sum
  | [], _ => ⟨rfl, rfl⟩
  | q :: zs, h => by
    obtain ⟨ih1, ih2⟩ := zip_cnt hc hd (p := p) zs fun x hx => h x (by simp [hx])
    obtain ⟨hq, hw⟩ := h q (by simp)
    have hday : (dayF c q.1 == dayF c d) = (q.1 == d) := by
      rw [Bool.eq_iff_iff, beq_iff_eq, beq_iff_eq]
      constructor
      · intro e
        rcases Int.lt_trichotomy q.1 d with g | g | g
        · have := days_lt (head_ok hc) hq.1 hd.2 g; omega
        · exact g
        · have := days_lt (head_ok hc) hd.1 hq.2 g; omega
      · rintro rfl; rfl
    simp only [List.flatMap_cons]
    rw [cntE_app, sumE_app, ih1, ih2, evS_cnt hw, evS_sum hw, hday, List.filter_cons]
    by_cases e : q.1 = d
    · by_cases g : p ∈ q.2.who
      · simp [e, g]; omega
      · simp [e, g]
    · simp [e]
theorem evs_cnt {c : Cr} (hc : rightF c = true) {pl : List Int} (hp : InR c pl) {d p : Int} (hd : 0 ≤ d ∧ d < c.days.length) : cntE (evs c pl) (p, dayF c d) = cntF c pl d p ∧ sumE (evs c pl) (p, dayF c d) = effF c pl d p := by
  refine zip_cnt hc hd _ fun q hq => ?_
  obtain ⟨i, h1, h2⟩ := mem_zip hq
  exact ⟨hp _ (List.mem_of_getElem? h1), (right_ses hc h2).inc⟩
theorem evs_busy {c : Cr} {pl : List Int} {x p : Int} : decide (cntE (evs c pl) (p, x) > 0) = busyF c pl x p := by
  rw [Bool.eq_iff_iff, decide_eq_true_eq]
  show 0 < _ ↔ _
  rw [cntE_pos]
  unfold busyF evs evS
  simp only [List.mem_flatMap, List.mem_map, List.any_eq_true, Bool.and_eq_true, beq_iff_eq, List.contains_iff_mem]
  constructor
  · rintro ⟨e, ⟨q, hq, p', hp, rfl⟩, he⟩
    simp only [Prod.mk.injEq] at he
    exact ⟨q, hq, he.2, he.1 ▸ hp⟩
  · rintro ⟨q, hq, h1, h2⟩
    exact ⟨((p, dayF c q.1), q.2.ef), ⟨q, hq, p, h2, rfl⟩, by rw [h1]⟩
theorem run_rows {c : Cr} (hc : rightF c = true) {pl : List Int} {d p : Int} : runF c pl d p = (busyF c pl (dayF c d) p && rowB (fun j => busyF c pl (dayF c d - j) p) c.ru) := by
  rw [Bool.eq_iff_iff, Bool.and_eq_true, rowB_iff]
  unfold runF
  simp only [List.all_eq_true, List.mem_range]
  have := (head_ok hc).ru
  constructor
  · intro h
    refine ⟨by have := h 0 (by omega); simpa using this, fun j h1 h2 => ?_⟩
    have := h j.toNat (by omega)
    rwa [Int.toNat_of_nonneg (by omega)] at this
  · rintro ⟨h1, h2⟩ k hk
    by_cases e : k = 0
    · subst e; simpa using h1
    · exact h2 _ (by omega) (by omega)
end Go.Proofs.YtehkiccapbkhnaaGreat
end
section
namespace Go.Proofs.YtehkiccapbkhnaaGreat
open Go Go.Kn Go.Proofs
theorem many_snoc {pl : List Int} {i : Nat} {e : Int} (h : pl[i]? = some e) (d : Int) : manyF (pl.take (i + 1)) d = manyF (pl.take i) d + (if e = d then 1 else 0) := by
  have e1 : pl.take (i + 1) = pl.take i ++ [e] := by rw [List.take_add_one, h]; rfl
  unfold manyF; rw [e1, List.filter_append, List.length_append]
  by_cases g : e = d <;> simp [g]
end Go.Proofs.YtehkiccapbkhnaaGreat
end
section
namespace Go.Proofs.YtehkiccapbkhnaaGreat
open Go Go.Kn Go.Proofs
theorem plan_good {c : Cr} {k : Nat} {x : List Int} (h : planF c = some (k, x)) : Good c k x ∧ k ≤ c.days.length ∧ ∀ j, j < k → (srch c j c.ss.length []).2 = none := by
  obtain ⟨_, h2, h3, h4⟩ := findL_hit h
  exact ⟨(srch_sound (by simp) (fun d hd => by cases hd) h3).1, by omega, fun j hj => h4 j (Nat.zero_le _) hj⟩
theorem plan_in {c : Cr} {k : Nat} {x : List Int} (h : planF c = some (k, x)) : InR c x := fun d hd => by
  obtain ⟨⟨_, h1, _⟩, h2, _⟩ := plan_good h
  have := h1 d hd; omega
theorem any_congr' {α : Type} {l : List α} {p q : α → Bool} (h : ∀ x ∈ l, p x = q x) : l.any p = l.any q := by
  induction l with
  | nil => rfl
  | cons a l ih => simp only [List.any_cons]; rw [h a (by simp), ih fun x hx => h x (by simp [hx])]
end Go.Proofs.YtehkiccapbkhnaaGreat
end
section
namespace Go.Proofs.YtehkiccapbkhnaaGreat
open Go Go.Kn Go.Proofs
/-- The people whose version differs from the target in a patch. -/
def diffW (tg : List Int) (has : List (List Int)) (id : Int) : List Int := ((List.range has.length).filter fun i => (has.getD i []).contains id != tg.contains id).map fun (i : Nat) => (i : Int)
/-- The sessions before that a patch's session needs. -/
def ndW (tg : List Int) (pre : List Pt) (p : Pt) : List Int := ((List.range pre.length).filter fun k => if tg.contains p.id then p.needs.contains (pre.getD k zeroP).id else (pre.getD k zeroP).needs.contains p.id).map fun (k : Nat) => (k : Int)
def sesP1 (tg : List Int) (has : List (List Int)) (pre : List Pt) (p : Pt) : Ses := ⟨p.id, if p.kind = 2 then 2 else 1, diffW tg has p.id, ndW tg pre p⟩
def ordP (ps : List Pt) (tg : List Int) : List Pt := (ps.filter fun p => !tg.contains p.id).reverse ++ ps.filter fun p => tg.contains p.id
def keptP (ps : List Pt) (tg : List Int) (has : List (List Int)) : List Pt := (ordP ps tg).filter fun p => !(diffW tg has p.id).isEmpty
def sesL (tg : List Int) (has : List (List Int)) (ks : List Pt) : List Ses := (List.range ks.length).map fun i => sesP1 tg has (ks.take i) (ks.getD i zeroP)
def fromL (ps : List Pt) (tg : List Int) (has : List (List Int)) : List Ses := sesL tg has (keptP ps tg has)
def verF (ps : List Pt) (v : List Int) : Bool := cloE ps v == 0 && cloF ps v == v
def fromE (ps : List Pt) (tg : List Int) (has : List (List Int)) : Int :=
  if chkR ps ≠ 0 then chkR ps else if has.length > 6 then 2 else if (tg :: has).all (verF ps) then (if (fromL ps tg has).length > 8 then 2 else 0) else 400
theorem sesL_len (tg : List Int) (has : List (List Int)) (ks : List Pt) : (sesL tg has ks).length = ks.length := by unfold sesL; simp
theorem sesL_snoc (tg : List Int) (has : List (List Int)) (ks : List Pt) (p : Pt) : sesL tg has (ks ++ [p]) = sesL tg has ks ++ [sesP1 tg has ks p] := by
  unfold sesL
  rw [List.length_append, List.length_singleton, List.range_succ, List.map_append]
  congr 1
  · refine List.map_congr_left fun i hi => ?_
    have hi := List.mem_range.1 hi
    rw [List.take_append_of_le_length (by omega), List.getD_eq_getElem?_getD, List.getElem?_append_left hi, ← List.getD_eq_getElem?_getD]
  · simp
theorem sesL_at {tg : List Int} {has : List (List Int)} {ks : List Pt} {i : Nat} {p : Pt} (h : ks[i]? = some p) : (sesL tg has ks)[i]? = some (sesP1 tg has (ks.take i) p) := by
  unfold sesL
  rw [List.getElem?_map, List.getElem?_range (List.getElem?_eq_some_iff.1 h).1]
  simp only [Option.map_some, List.getD_eq_getElem?_getD, h, Option.getD_some]
theorem mem_diffW {tg : List Int} {has : List (List Int)} {id i : Int} : i ∈ diffW tg has id ↔ ∃ (k : Nat) (v : List Int), i = k ∧ has[k]? = some v ∧ v.contains id ≠ tg.contains id := by
  unfold diffW
  simp only [List.mem_map, List.mem_filter, List.mem_range, bne_iff_ne]
  constructor
  · rintro ⟨k, ⟨hk, h⟩, rfl⟩
    refine ⟨k, has[k], rfl, List.getElem?_eq_getElem hk, ?_⟩
    rwa [List.getD_eq_getElem?_getD, List.getElem?_eq_getElem hk] at h
  · rintro ⟨k, v, rfl, hk, h⟩
    refine ⟨k, ⟨(List.getElem?_eq_some_iff.1 hk).1, ?_⟩, rfl⟩
    rw [List.getD_eq_getElem?_getD, hk]; exact h
theorem mem_ndW {tg : List Int} {pre : List Pt} {p : Pt} {x : Int} : x ∈ ndW tg pre p ↔ ∃ (k : Nat) (q : Pt), x = k ∧ pre[k]? = some q ∧ (if tg.contains p.id then p.needs.contains q.id else q.needs.contains p.id) = true := by
  unfold ndW
  simp only [List.mem_map, List.mem_filter, List.mem_range]
  constructor
  · rintro ⟨k, ⟨hk, h⟩, rfl⟩
    refine ⟨k, pre[k], rfl, List.getElem?_eq_getElem hk, ?_⟩
    rwa [List.getD_eq_getElem?_getD, List.getElem?_eq_getElem hk] at h
  · rintro ⟨k, q, rfl, hk, h⟩
    refine ⟨k, ⟨(List.getElem?_eq_some_iff.1 hk).1, ?_⟩, rfl⟩
    rw [List.getD_eq_getElem?_getD, hk]; exact h
theorem ndW_inc (tg : List Int) (pre : List Pt) (p : Pt) : (ndW tg pre p).Pairwise (· < ·) := by
  unfold ndW
  refine List.pairwise_map.2 ((List.pairwise_lt_range.filter _).imp fun {a b} h => ?_)
  omega
theorem diffW_inc (tg : List Int) (has : List (List Int)) (id : Int) : (diffW tg has id).Pairwise (· < ·) := by
  unfold diffW
  refine List.pairwise_map.2 ((List.pairwise_lt_range.filter _).imp fun {a b} h => ?_)
  omega
theorem ver_iff {ps : List Pt} (h : chkR ps = 0) {v : List Int} : verF ps v = true → Ver ps v := fun hv => by
  unfold verF at hv
  simp only [Bool.and_eq_true, beq_iff_eq] at hv
  rw [← hv.2]; exact clo_ver (chkR_lst h) _
/-! ### The order of patches -/
theorem mem_ordP {ps : List Pt} {tg : List Int} {p : Pt} : p ∈ ordP ps tg ↔ p ∈ ps := by
  unfold ordP
  simp only [List.mem_append, List.mem_reverse, List.mem_filter, Bool.not_eq_true']
  constructor
  · rintro (⟨h, _⟩ | ⟨h, _⟩) <;> exact h
  · intro h
    cases e : tg.contains p.id
    · exact .inl ⟨h, rfl⟩
    · exact .inr ⟨h, rfl⟩
/-- Before or behind, in the order of sessions. -/
def befP (tg : List Int) (p q : Pt) : Prop := (tg.contains p.id = false ∧ (tg.contains q.id = true ∨ q.id < p.id)) ∨ (tg.contains p.id = true ∧ tg.contains q.id = true ∧ p.id < q.id)
theorem ordP_bef {ps : List Pt} (h : Lst ps) (tg : List Int) : (ordP ps tg).Pairwise (befP tg) := by
  unfold ordP
  refine List.pairwise_append.2 ⟨?_, ?_, ?_⟩
  · rw [List.pairwise_reverse]
    refine List.Pairwise.imp_of_mem (R := fun a b => a.id < b.id) (fun {a b} ha hb hab => ?_) (h.inc.filter _)
    have h1 := (List.mem_filter.1 ha).2
    have h2 := (List.mem_filter.1 hb).2
    simp only [Bool.not_eq_true'] at h1 h2
    exact .inl ⟨h2, .inr hab⟩
  · refine List.Pairwise.imp_of_mem (R := fun a b => a.id < b.id) (fun {a b} ha hb hab => ?_) (h.inc.filter _)
    exact .inr ⟨(List.mem_filter.1 ha).2, (List.mem_filter.1 hb).2, hab⟩
  · intro a ha b hb
    have h1 := (List.mem_filter.1 (List.mem_reverse.1 ha)).2
    simp only [Bool.not_eq_true'] at h1
    exact .inl ⟨h1, .inl (List.mem_filter.1 hb).2⟩
theorem keptP_bef {ps : List Pt} (h : Lst ps) (tg : List Int) (has : List (List Int)) : (keptP ps tg has).Pairwise (befP tg) := (ordP_bef h tg).filter _
theorem bef_ne {tg : List Int} {p q : Pt} (h : befP tg p q) : p.id ≠ q.id := fun e => by
  unfold befP at h
  rw [e] at h
  rcases h with ⟨h1, h2 | h2⟩ | ⟨_, _, h⟩
  · rw [h1] at h2; cases h2
  · omega
  · omega
theorem keptP_nodup {ps : List Pt} (h : Lst ps) (tg : List Int) (has : List (List Int)) : ((keptP ps tg has).map (·.id)).Nodup := by
  unfold List.Nodup
  rw [List.pairwise_map]
  exact (keptP_bef h tg has).imp bef_ne
theorem mem_keptP {ps : List Pt} {tg : List Int} {has : List (List Int)} {p : Pt} : p ∈ keptP ps tg has ↔ p ∈ ps ∧ ∃ (k : Nat) (v : List Int), has[k]? = some v ∧ v.contains p.id ≠ tg.contains p.id := by
  unfold keptP
  rw [List.mem_filter, mem_ordP]
  refine and_congr_right fun _ => ?_
  rw [Bool.not_eq_true', List.isEmpty_eq_false_iff_exists_mem]
  constructor
  · rintro ⟨x, hx⟩
    obtain ⟨k, v, _, h1, h2⟩ := mem_diffW.1 hx
    exact ⟨k, v, h1, h2⟩
  · rintro ⟨k, v, h1, h2⟩
    exact ⟨k, mem_diffW.2 ⟨k, v, rfl, h1, h2⟩⟩
end Go.Proofs.YtehkiccapbkhnaaGreat
end
