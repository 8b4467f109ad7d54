/- roomsSpec_holds, part D of the proof: what its theorems say holds without further conditions. -/
import Derived.Lib.SlicesCompact
import Derived.Lib.RowBridge
import Derived.Shelf.Small.Bits
import Derived.Shelf.Strconv.Itoa0
import Derived.Shelf.Sort.Plain
import Derived.Ground.Names2Prog
import Derived.Shelf.Slices.Clone
import Derived.Shelf.Slices.CompactI
import Derived.Shelf.Slices.SearchI
import Derived.Shelf.Slices.Cells
import Derived.Shelf.Slices.In.SortNone
import Derived.Shelf.Slices.Empties
import Derived.Ground.SlgnProg
import Derived.Shelf.SlicesE.Clone
import Derived.Shelf.SlicesQ.Reverse
import Derived.Ground.SlsfProg
import Derived.Shelf.SlSortCmp.InsertionK
import Derived.Shelf.SlSortCmp.SiftDownK
import Derived.Shelf.SlSortCmp.HeapSortK
import Derived.Shelf.SlSortCmp.MedianK
import Derived.Shelf.SlSortCmp.PivotK
import Derived.Shelf.SlSortCmp.ReverseRangeK
import Derived.Shelf.SlSortCmp.PartialInsertionK
import Derived.Shelf.SlSortCmp.PartitionEqualK
import Derived.Shelf.SlSortCmp.PartitionK
import Derived.Shelf.SlSortCmp.PdqK
import Derived.Shelf.SlSortCmp.WholeK
import Derived.Shelf.SlSortCmp.NoneTotal
import Derived.Test.YtccomeanpppfmaaGreatProg
import Derived.Test.YtccomeanpppfmaaGreatSpecC
section
namespace Go.Proofs.YtccomeanpppfmaaGreat
open Go Go.Kn
def sortI (zs : List Int) : List Int := zs.mergeSort fun x y => decide (x ≤ y)
theorem flat_int (zs : List Int) : zs.flatMap encI = zs.map (Value.int .i64) := by
  induction zs with
  | nil => rfl
  | cons z zs ih => rw [List.flatMap_cons, ih]; rfl
theorem comp_inv (d : Array Int) (hs : ∀ j, 0 < j → j < d.size → d[j - 1]! ≤ d[j]!) : ∀ m, m ≤ d.size → (Lib.compactUpTo d m).Pairwise (· < ·) ∧ (∀ x ∈ Lib.compactUpTo d m, 0 < m ∧ x ≤ d[m - 1]!) ∧ ∀ x, x ∈ Lib.compactUpTo d m ↔ ∃ j, j < m ∧ d[j]! = x
  | 0, _ => ⟨.nil, (fun x h => by cases h), fun x => ⟨(fun h => by cases h), fun ⟨j, h, _⟩ => by omega⟩⟩
  | m + 1, hm => by
    obtain ⟨h1, h2, h3⟩ := comp_inv d hs m (by omega)
    rw [Lib.compactUpTo_succ]
    by_cases hk : Lib.keeps d m = true
    · rw [if_pos hk]
      have hlt : ∀ x ∈ Lib.compactUpTo d m, x < d[m]! := fun x hx => by
        obtain ⟨a, b⟩ := h2 x hx
        have h4 := hs m a (by omega)
        unfold Lib.keeps at hk
        have h5 := of_decide_eq_true hk
        omega
      refine ⟨?_, ?_, ?_⟩
      · rw [List.pairwise_append]
        exact ⟨h1, List.pairwise_singleton .., fun y hy z hz => by rw [List.mem_singleton] at hz; rw [hz]; exact hlt y hy⟩
      · intro x hx
        refine ⟨by omega, ?_⟩
        rw [show m + 1 - 1 = m from by omega]
        rcases List.mem_append.1 hx with hx | hx
        · have := hlt x hx; omega
        · rw [List.mem_singleton] at hx; rw [hx]; exact Int.le_refl _
      · intro x
        rw [List.mem_append, h3, List.mem_singleton]
        constructor
        · rintro (⟨j, a, b⟩ | e)
          · exact ⟨j, by omega, b⟩
          · exact ⟨m, by omega, e.symm⟩
        · rintro ⟨j, a, b⟩
          by_cases e : j = m
          · subst e; exact .inr b.symm
          · exact .inl ⟨j, by omega, b⟩
    · rw [if_neg hk, List.append_nil]
      unfold Lib.keeps at hk
      have h5 : ¬ (m = 0 ∨ d[m]! ≠ d[m - 1]!) := fun h => hk (decide_eq_true h)
      have h6 : 0 < m ∧ d[m]! = d[m - 1]! := by omega
      refine ⟨h1, ?_, ?_⟩
      · intro x hx
        have := h2 x hx
        rw [show m + 1 - 1 = m from by omega]
        omega
      · intro x
        rw [h3]
        constructor
        · rintro ⟨j, a, b⟩; exact ⟨j, by omega, b⟩
        · rintro ⟨j, a, b⟩
          by_cases e : j = m
          · subst e; exact ⟨j - 1, by omega, by rw [← h6.2]; exact b⟩
          · exact ⟨j, by omega, b⟩
theorem comp_sort (zs : List Int) : (Lib.compact (sortI zs)).Pairwise (· < ·) ∧ ∀ x, x ∈ Lib.compact (sortI zs) ↔ x ∈ zs := by
  have hp : (sortI zs).Pairwise (fun a b => decide (a ≤ b) = true) := List.pairwise_mergeSort (by intro a b c; simp; omega) (by intro a b; simp; omega) zs
  have hget : ∀ j, j < (sortI zs).length → (sortI zs).toArray[j]! = (sortI zs)[j]! := fun j hj => by simp
  have hs : ∀ j, 0 < j → j < (sortI zs).toArray.size → (sortI zs).toArray[j - 1]! ≤ (sortI zs).toArray[j]! := by
    intro j h0 hj
    have hj' : j < (sortI zs).length := by simpa using hj
    have h1 := List.pairwise_iff_getElem.1 hp (j - 1) j (by omega) hj' (by omega)
    have h2 := of_decide_eq_true h1
    simpa [hj', show j - 1 < (sortI zs).length from by omega] using h2
  obtain ⟨h1, _, h3⟩ := comp_inv (sortI zs).toArray hs (sortI zs).length (by simp)
  refine ⟨h1, fun x => ?_⟩
  unfold Lib.compact
  rw [h3]
  have hmem : x ∈ sortI zs ↔ x ∈ zs := (List.mergeSort_perm zs _).mem_iff
  rw [← hmem]
  constructor
  · rintro ⟨j, hj, e⟩
    have : (sortI zs)[j] = x := by simpa [hj] using e
    rw [← this]; exact List.getElem_mem hj
  · intro h
    obtain ⟨j, hj, e⟩ := List.getElem_of_mem h
    exact ⟨j, hj, by simpa [hj] using e⟩
theorem comp_sort_eq {zs ys : List Int} (hy : ys.Pairwise (· < ·)) (h : ∀ x, x ∈ zs ↔ x ∈ ys) : Lib.compact (sortI zs) = ys :=
  sorted_ext (comp_sort zs).1 hy fun a => by rw [(comp_sort zs).2, h]
end Go.Proofs.YtccomeanpppfmaaGreat
end
section
namespace Go.Proofs.YtccomeanpppfmaaGreat
open Go Go.Kn Go.Proofs
theorem half_eq (i j : Nat) (h : i + j ≤ 1000000) : IntKind.i64.wrap ((IntKind.u64.wrap ((i : Int) + (j : Int))).fdiv (2 ^ 1)) = (((i + j) / 2 : Nat) : Int) := by
  have h1 : IntKind.u64.wrap ((i : Int) + (j : Int)) = ((i + j : Nat) : Int) := by
    rw [show ((i : Int) + (j : Int)) = ((i + j : Nat) : Int) by omega]
    exact u64_id ⟨by omega, by omega⟩
  rw [h1, show ((2 : Int) ^ 1) = ((2 : Nat) : Int) from rfl, Int.fdiv_eq_ediv_of_nonneg _ (by omega), ← Int.natCast_ediv]
  exact wrap_in ⟨by omega, by omega⟩
theorem cmp_lt {x y : Int} : decide (cmpF x y < 0) = decide (x < y) := by
  unfold cmpF
  by_cases h : x < y
  · rw [if_pos h]; simp [h]
  · rw [if_neg h]; split <;> simp [h]
section
variable {α : Type} {key : α → Int} {xs : List α} {t : Int}
theorem bs_lo (hs : xs.Pairwise (fun a b => key a < key b)) {h : Nat} {y : α} (hy : xs[h]? = some y) (hlt : key y < t) : ∀ q z, q < h + 1 → xs[q]? = some z → key z < t := fun q z hq hz => by
  obtain ⟨h1, h2⟩ := List.getElem?_eq_some_iff.1 hz
  obtain ⟨h3, h4⟩ := List.getElem?_eq_some_iff.1 hy
  by_cases e : q = h
  · subst e; rw [hy] at hz; cases hz; exact hlt
  · have := List.pairwise_iff_getElem.1 hs q h h1 h3 (by omega)
    rw [h2, h4] at this; omega
theorem bs_hi (hs : xs.Pairwise (fun a b => key a < key b)) {h : Nat} {y : α} (hy : xs[h]? = some y) (hlt : ¬ key y < t) : ∀ q z, h ≤ q → xs[q]? = some z → ¬ key z < t := fun q z hq hz => by
  obtain ⟨h1, h2⟩ := List.getElem?_eq_some_iff.1 hz
  obtain ⟨h3, h4⟩ := List.getElem?_eq_some_iff.1 hy
  by_cases e : q = h
  · subst e; rw [hy] at hz; cases hz; exact hlt
  · have := List.pairwise_iff_getElem.1 hs h q h3 h1 (by omega)
    rw [h2, h4] at this; omega
/-- The number found: how many are less. -/
def lowK (key : α → Int) (xs : List α) (t : Int) : Nat := (xs.takeWhile fun x => decide (key x < t)).length
theorem low_at {i : Nat} (hi : i ≤ xs.length) (hlo : ∀ q z, q < i → xs[q]? = some z → key z < t) (hhi : ∀ q z, i ≤ q → xs[q]? = some z → ¬ key z < t) : lowK key xs t = i := by
  unfold lowK
  have h1 : (xs.take i).all (fun x => decide (key x < t)) = true := by
    rw [List.all_eq_true]
    intro z hz
    obtain ⟨q, hq⟩ := List.getElem?_of_mem hz
    have hq1 : q < i := by have := (List.getElem?_eq_some_iff.1 hq).1; rw [List.length_take] at this; omega
    rw [List.getElem?_take_of_lt hq1] at hq
    exact decide_eq_true (hlo q z hq1 hq)
  rw [(tw_eq h1 hi (fun y hy => decide_eq_false (hhi i y (Nat.le_refl _) hy))).1, List.length_take]; omega
theorem found_at {i n : Nat} {d : α} (hl : xs.length = n) (hlo : ∀ q z, q < i → xs[q]? = some z → key z < t) (hhi : ∀ q z, i ≤ q → xs[q]? = some z → ¬ key z < t) (hs : xs.Pairwise (fun a b => key a < key b)) : (decide ((i : Int) < (n : Int)) && (key (xs.getD i d) == t)) = xs.any fun x => key x == t := by
  rw [Bool.eq_iff_iff, List.any_eq_true, Bool.and_eq_true]
  constructor
  · rintro ⟨h1, h2⟩
    have hi : i < n := by have := of_decide_eq_true h1; omega
    exact ⟨_, List.mem_of_getElem? (some_getD hl hi), h2⟩
  · rintro ⟨x, hx, e⟩
    have e : key x = t := by simpa using e
    obtain ⟨q, hq⟩ := List.getElem?_of_mem hx
    have hqn := (List.getElem?_eq_some_iff.1 hq).1
    have h1 : i ≤ q := by
      rcases Nat.lt_or_ge q i with h | h
      · have := hlo q x h hq; omega
      · exact h
    have h2 : q = i := by
      by_cases e2 : q = i
      · exact e2
      · have hy := some_getD (d := d) hl (show i < n by omega)
        obtain ⟨h3, h4⟩ := List.getElem?_eq_some_iff.1 hq
        obtain ⟨h5, h6⟩ := List.getElem?_eq_some_iff.1 hy
        have h7 := List.pairwise_iff_getElem.1 hs i q h5 h3 (by omega)
        rw [h4, h6] at h7
        have := hhi i _ (Nat.le_refl _) hy
        omega
    subst h2
    refine ⟨decide_eq_true (by omega), ?_⟩
    rw [getD_of hq, e]; simp
end
instance : Inhabited Sg := ⟨zeroG⟩
def cmpG (a b : Sg) : Int := cmpF a.id b.id
theorem ltG (a b : Sg) : Go.Proofs.ltOf cmpG a b = decide (a.id < b.id) := by unfold Go.Proofs.ltOf cmpG; exact cmp_lt
theorem swoG : Go.Sort.SWO (Go.Proofs.ltOf cmpG) where
  irrefl := fun x => by rw [ltG]; simp
  trans := fun x y z h1 h2 => by rw [ltG] at *; simp at *; omega
  ntrans := fun x y z h1 h2 => by rw [ltG] at *; simp at *; omega
/-- A permutation in order, of signs with different IDs. -/
theorem perm_srt {zs zs' : List Sg} (hp : zs'.Perm zs) (hs : zs'.Pairwise (fun x y => Go.Proofs.ltOf cmpG y x = false)) (hn : (zs.map (·.id)).Nodup) : Srt zs' := by
  have hn' : (zs'.map (·.id)).Nodup := (hp.map (·.id)).nodup_iff.2 hn
  unfold Srt
  have h2 : zs'.Pairwise (fun a b => a.id ≠ b.id) := List.pairwise_map.1 hn'
  refine (hs.and h2).imp fun {a b} h => ?_
  have := h.1
  rw [ltG] at this
  simp at this
  have := h.2
  omega
end Go.Proofs.YtccomeanpppfmaaGreat
end
section
namespace Go.Proofs.YtccomeanpppfmaaGreat
open Go Go.Kn Go.Proofs
def incP (v : List Int) (i : Nat) : Bool := !(decide ((i : Int) > 0) && decide (v.getD i 0 ≤ v.getD ((i : Int) - 1).toNat 0))
theorem incB_eq {v : List Int} : incB v = (List.range v.length).all (incP v) := rfl
theorem incP_zero (v : List Int) : (List.range 1).all (incP v) = true := by simp [incP]
theorem incP_at {v : List Int} {k : Nat} {x : Int} (hx : v[k]? = some x) (h : 1 ≤ k) : incP v k = !decide (x ≤ v.getD ((k : Int) - 1).toNat 0) := by
  unfold incP
  rw [getD_of hx, decide_eq_true (show (k : Int) > 0 by omega), Bool.true_and]
theorem range_cut {p : Nat → Bool} {n k : Nat} (h : (List.range k).all p = true) (hn : n ≤ k) : (List.range n).all p = true := by
  rw [List.all_eq_true] at *
  intro i hi
  exact h i (List.mem_range.2 (Nat.lt_of_lt_of_le (List.mem_range.1 hi) hn))
end Go.Proofs.YtccomeanpppfmaaGreat
end
section
namespace Go.Proofs
open Go.Shelf
def Tryz.lays189_ren : Go.Shelf.Ren := ⟨fun | 189 => 72 | 125 => 131 | 257 => 130 | 128 => 167 | 129 => 168 | 294 => 159 | 295 => 160 | 296 => 161 | 297 => 162 | 298 => 163 | 299 => 164 | 216 => 135 | 300 => 165 | 301 => 166 | 328 => 182 | 329 => 183 | 330 => 184 | 331 => 185 | 332 => 186 | 215 => 124 | 343 => 193 | n => n, fun | 28 => 23 | 3 => 3 | 46 => 146 | 0 => 0 | 51 => 181 | 53 => 183 | 4 => 4 | 183 => 175 | 182 => 174 | 131 => 78 | 5 => 5 | 9 => 9 | 218 => 197 | 222 => 141 | 228 => 204 | 229 => 195 | n => n, fun | n => n⟩
theorem Tryz.lays189 : Go.Proofs.Lays.n189 Tryz.prog Tryz.lays189_ren := {
  mixed := by kernel_rfl
  f125 := Tryz.func131.trans (congrArg some (by kernel_rfl))
  f128 := Tryz.func167.trans (congrArg some (by kernel_rfl))
  f129 := Tryz.func168.trans (congrArg some (by kernel_rfl))
  f189 := Tryz.func72.trans (congrArg some (by kernel_rfl))
  f215 := Tryz.func124.trans (congrArg some (by kernel_rfl))
  f216 := Tryz.func135.trans (congrArg some (by kernel_rfl))
  f257 := Tryz.func130.trans (congrArg some (by kernel_rfl))
  f294 := Tryz.func159.trans (congrArg some (by kernel_rfl))
  f295 := Tryz.func160.trans (congrArg some (by kernel_rfl))
  f296 := Tryz.func161.trans (congrArg some (by kernel_rfl))
  f297 := Tryz.func162.trans (congrArg some (by kernel_rfl))
  f298 := Tryz.func163.trans (congrArg some (by kernel_rfl))
  f299 := Tryz.func164.trans (congrArg some (by kernel_rfl))
  f300 := Tryz.func165.trans (congrArg some (by kernel_rfl))
  f301 := Tryz.func166.trans (congrArg some (by kernel_rfl))
  f328 := Tryz.func182.trans (congrArg some (by kernel_rfl))
  f329 := Tryz.func183.trans (congrArg some (by kernel_rfl))
  f330 := Tryz.func184.trans (congrArg some (by kernel_rfl))
  f331 := Tryz.func185.trans (congrArg some (by kernel_rfl))
  f332 := Tryz.func186.trans (congrArg some (by kernel_rfl))
  f343 := Tryz.func193.trans (congrArg some (by kernel_rfl))
  t0 := Tryz.underlying0
  a0 := Tryz.isAgg0
  z0 := Tryz.sizeOf0
  v0 := Tryz.zeroValue0
  t3 := Tryz.underlying3
  a3 := Tryz.isAgg3
  z3 := Tryz.sizeOf3
  v3 := Tryz.zeroValue3
  t4 := Tryz.underlying4
  a4 := Tryz.isAgg4
  z4 := Tryz.sizeOf4
  v4 := Tryz.zeroValue4
  t5 := Tryz.underlying5
  a5 := Tryz.isAgg5
  z5 := Tryz.sizeOf5
  v5 := Tryz.zeroValue5
  t9 := Tryz.underlying9
  a9 := Tryz.isAgg9
  z9 := Tryz.sizeOf9
  v9 := Tryz.zeroValue9
  t28 := Tryz.underlying23
  a28 := Tryz.isAgg23
  z28 := Tryz.sizeOf23
  v28 := Tryz.zeroValue23
  t46 := Tryz.underlying146
  a46 := Tryz.isAgg146
  z46 := Tryz.sizeOf146
  v46 := Tryz.zeroValue146
  t51 := Tryz.underlying181
  a51 := Tryz.isAgg181
  z51 := Tryz.sizeOf181
  v51 := Tryz.zeroValue181
  t53 := Tryz.underlying183
  a53 := Tryz.isAgg183
  z53 := Tryz.sizeOf183
  v53 := Tryz.zeroValue183
  t131 := Tryz.underlying78
  a131 := Tryz.isAgg78
  z131 := Tryz.sizeOf78
  v131 := Tryz.zeroValue78
  t182 := Tryz.underlying174
  a182 := Tryz.isAgg174
  z182 := Tryz.sizeOf174
  v182 := Tryz.zeroValue174
  t183 := Tryz.underlying175
  a183 := Tryz.isAgg175
  z183 := Tryz.sizeOf175
  v183 := Tryz.zeroValue175
  t218 := Tryz.underlying197
  a218 := Tryz.isAgg197
  z218 := Tryz.sizeOf197
  v218 := Tryz.zeroValue197
  t222 := Tryz.underlying141
  a222 := Tryz.isAgg141
  z222 := Tryz.sizeOf141
  v222 := Tryz.zeroValue141
  t228 := Tryz.underlying204
  a228 := Tryz.isAgg204
  z228 := Tryz.sizeOf204
  v228 := Tryz.zeroValue204
  t229 := Tryz.underlying195
  a229 := Tryz.isAgg195
  z229 := Tryz.sizeOf195
  v229 := Tryz.zeroValue195 }
open Go.Sort Go.RowKit in
theorem Tryz.slices_Sort_int (blk off cap : Nat) (zs : List Int) (w : World) (hH : Holds (Value.int .i64) w blk off zs.toArray) (hblk : blk < w.heap.size) (hsz : zs.length < 4611686018427387904) :
    Calls Tryz.prog 72 #[.slice (some ⟨blk, off, none⟩) zs.length cap] w fun e w' =>
      e = .returned (.tuple #[]) ∧ ∃ n os, w' = grow (putRow (Value.int .i64) (Sort.ahead w n) blk off (zs.mergeSort fun x y => decide (x ≤ y)).toArray) os := Any.slices_Sort_int Tryz.lays189 blk off cap zs w hH hblk hsz
def Tryz.laysNm220_ren : Go.Shelf.Ren := ⟨fun | 20 => 73 | n => n, fun | 22 => 23 | 3 => 3 | 4 => 4 | 0 => 0 | n => n, fun | n => n⟩
theorem Tryz.laysNm220 : Go.Proofs.Lays2.n20 Tryz.prog Tryz.laysNm220_ren := {
  mixed := by kernel_rfl
  f20 := Tryz.func73.trans (congrArg some (by kernel_rfl))
  t0 := Tryz.underlying0
  a0 := Tryz.isAgg0
  z0 := Tryz.sizeOf0
  v0 := Tryz.zeroValue0
  t3 := Tryz.underlying3
  a3 := Tryz.isAgg3
  z3 := Tryz.sizeOf3
  v3 := Tryz.zeroValue3
  t4 := Tryz.underlying4
  a4 := Tryz.isAgg4
  z4 := Tryz.sizeOf4
  v4 := Tryz.zeroValue4
  t22 := Tryz.underlying23
  a22 := Tryz.isAgg23
  z22 := Tryz.sizeOf23
  v22 := Tryz.zeroValue23
  i3 := by kernel_rfl }
open Go.RowKit Go.Lib Go.Sort in
theorem Tryz.slices_Compact_int (blk off cap : Nat) (zs : List Int) (w : World) (hH : Holds (Value.int .i64) w blk off zs.toArray) (hsz : zs.length ≤ 9223372036854775807) (hcap : zs.length ≤ cap) :
    Calls Tryz.prog 73 #[.slice (some ⟨blk, off, none⟩) zs.length cap] w fun e w' => e = .returned (.slice (some ⟨blk, off, none⟩) (Lib.compact zs).length cap) ∧ ∃ q, w' = putRow (Value.int .i64) (Sort.ahead w q) blk off (Lib.compact zs ++ List.replicate (zs.length - (Lib.compact zs).length) 0).toArray := Any.slices_Compact_int Tryz.laysNm220 blk off cap zs w hH hsz hcap
open Go.RowKit Go.Lib Go.Sort in
theorem Tryz.slices_Compact_int_empty (a : Option Addr) (cap : Nat) (w : World) :
    Calls Tryz.prog 73 #[.slice a 0 cap] w fun e w' => e = .returned (.slice a 0 cap) ∧ w' = w := Any.slices_Compact_int_empty Tryz.laysNm220 a cap w
open Go.RowKit Go.Sort in
theorem Tryz.slices_Sort_int_none (p : Option Addr) (cap : Nat) (w : World) :
    Calls Tryz.prog 72 #[.slice p 0 cap] w fun e w' => e = .returned (.tuple #[]) ∧ w' = w := Any.slices_Sort_int_none Tryz.lays189 p cap w
def Tryz.laysSlF06_f80_ren : Go.Shelf.Ren := ⟨fun | 6 => 80 | 15 => 131 | 14 => 137 | 28 => 167 | 29 => 168 | 20 => 169 | 21 => 170 | 22 => 171 | 23 => 172 | 24 => 173 | 25 => 174 | 26 => 175 | 27 => 176 | 46 => 187 | 47 => 183 | 48 => 184 | 49 => 188 | 50 => 189 | 57 => 194 | n => n, fun | 22 => 33 | 24 => 45 | 25 => 117 | 3 => 3 | 39 => 146 | 0 => 0 | 53 => 181 | 55 => 183 | 4 => 4 | 46 => 175 | 45 => 174 | 50 => 78 | 5 => 5 | 9 => 9 | 66 => 197 | 70 => 141 | 76 => 204 | 77 => 195 | n => n, fun | n => n⟩
theorem Tryz.laysSlF06_f80 : Go.Proofs.SlLaysF0.n6 Tryz.prog Tryz.laysSlF06_f80_ren := {
  mixed := by kernel_rfl
  f6 := ⟨Tryz.f80.name, by decide, Tryz.func80.trans (congrArg some (by kernel_rfl))⟩
  f14 := ⟨Tryz.f137.name, by decide, Tryz.func137.trans (congrArg some (by kernel_rfl))⟩
  f15 := Tryz.func131.trans (congrArg some (by kernel_rfl))
  f20 := ⟨Tryz.f169.name, by decide, Tryz.func169.trans (congrArg some (by kernel_rfl))⟩
  f21 := ⟨Tryz.f170.name, by decide, Tryz.func170.trans (congrArg some (by kernel_rfl))⟩
  f22 := ⟨Tryz.f171.name, by decide, Tryz.func171.trans (congrArg some (by kernel_rfl))⟩
  f23 := ⟨Tryz.f172.name, by decide, Tryz.func172.trans (congrArg some (by kernel_rfl))⟩
  f24 := ⟨Tryz.f173.name, by decide, Tryz.func173.trans (congrArg some (by kernel_rfl))⟩
  f25 := ⟨Tryz.f174.name, by decide, Tryz.func174.trans (congrArg some (by kernel_rfl))⟩
  f26 := ⟨Tryz.f175.name, by decide, Tryz.func175.trans (congrArg some (by kernel_rfl))⟩
  f27 := ⟨Tryz.f176.name, by decide, Tryz.func176.trans (congrArg some (by kernel_rfl))⟩
  f28 := Tryz.func167.trans (congrArg some (by kernel_rfl))
  f29 := Tryz.func168.trans (congrArg some (by kernel_rfl))
  f46 := ⟨Tryz.f187.name, by decide, Tryz.func187.trans (congrArg some (by kernel_rfl))⟩
  f47 := Tryz.func183.trans (congrArg some (by kernel_rfl))
  f48 := Tryz.func184.trans (congrArg some (by kernel_rfl))
  f49 := ⟨Tryz.f188.name, by decide, Tryz.func188.trans (congrArg some (by kernel_rfl))⟩
  f50 := ⟨Tryz.f189.name, by decide, Tryz.func189.trans (congrArg some (by kernel_rfl))⟩
  f57 := ⟨Tryz.f194.name, by decide, Tryz.func194.trans (congrArg some (by kernel_rfl))⟩
  t0 := Tryz.underlying0
  a0 := Tryz.isAgg0
  z0 := Tryz.sizeOf0
  v0 := Tryz.zeroValue0
  t3 := Tryz.underlying3
  a3 := Tryz.isAgg3
  z3 := Tryz.sizeOf3
  v3 := Tryz.zeroValue3
  t4 := Tryz.underlying4
  a4 := Tryz.isAgg4
  z4 := Tryz.sizeOf4
  v4 := Tryz.zeroValue4
  t5 := Tryz.underlying5
  a5 := Tryz.isAgg5
  z5 := Tryz.sizeOf5
  v5 := Tryz.zeroValue5
  t9 := Tryz.underlying9
  a9 := Tryz.isAgg9
  z9 := Tryz.sizeOf9
  v9 := Tryz.zeroValue9
  t22 := Tryz.underlying33
  a22 := Tryz.isAgg33
  z22 := Tryz.sizeOf33
  v22 := Tryz.zeroValue33
  t25 := Tryz.underlying117
  a25 := Tryz.isAgg117
  z25 := Tryz.sizeOf117
  v25 := Tryz.zeroValue117
  t39 := Tryz.underlying146
  a39 := Tryz.isAgg146
  z39 := Tryz.sizeOf146
  v39 := Tryz.zeroValue146
  t45 := Tryz.underlying174
  a45 := Tryz.isAgg174
  z45 := Tryz.sizeOf174
  v45 := Tryz.zeroValue174
  t46 := Tryz.underlying175
  a46 := Tryz.isAgg175
  z46 := Tryz.sizeOf175
  v46 := Tryz.zeroValue175
  t50 := Tryz.underlying78
  a50 := Tryz.isAgg78
  z50 := Tryz.sizeOf78
  v50 := Tryz.zeroValue78
  t53 := Tryz.underlying181
  a53 := Tryz.isAgg181
  z53 := Tryz.sizeOf181
  v53 := Tryz.zeroValue181
  t55 := Tryz.underlying183
  a55 := Tryz.isAgg183
  z55 := Tryz.sizeOf183
  v55 := Tryz.zeroValue183
  t66 := Tryz.underlying197
  a66 := Tryz.isAgg197
  z66 := Tryz.sizeOf197
  v66 := Tryz.zeroValue197
  t70 := Tryz.underlying141
  a70 := Tryz.isAgg141
  z70 := Tryz.sizeOf141
  v70 := Tryz.zeroValue141
  t76 := Tryz.underlying204
  a76 := Tryz.isAgg204
  z76 := Tryz.sizeOf204
  v76 := Tryz.zeroValue204
  t77 := Tryz.underlying195
  a77 := Tryz.isAgg195
  z77 := Tryz.sizeOf195
  v77 := Tryz.zeroValue195 }
open Go.RowKit Go.Lib Go.Sort in
theorem Tryz.slices_SortFunc {α : Type} [Inhabited α] (k : Nat) (aE : ∀ w, (isAgg (Tryz.laysSlF06_f80_ren.t 24)).run Tryz.prog w = .ok true w) (zE : ∀ w, (Go.sizeOf (Tryz.laysSlF06_f80_ren.t 24)).run Tryz.prog w = .ok k w) (enc : α → List Value) (hk : ∀ x, (enc x).length = k) (h1 : ∀ x, ∀ v ∈ enc x, v.oneCell' = true) (cf : α → α → Int) (hO : SWO (ltOf cf)) (g : Nat) (cb : Array Value) (blk off cap : Nat) (d : Array α) (w : World) (eg : ∀ args w, (callFunc g args).run Tryz.prog w = .ok (.enter g args) w) (hcmp : CmpLays Tryz.prog g cb enc k cf blk off d.size w) (hH : HoldsK enc k w blk off d) (hblk : blk < w.heap.size) (hsz : d.size < 4611686018427387904) :
    Calls Tryz.prog 80 #[.slice (some ⟨blk, off, none⟩) d.size cap, .func (.func g) #[] cb] w fun e w' =>
      e = .returned (.tuple #[]) ∧ ∃ d' n os, PermIn 0 d.size d d' ∧ SortedIn (ltOf cf) 0 d.size d' ∧ w' = sortWorldK enc k w blk off n d' os := AnyQ.slices_SortFunc Tryz.laysSlF06_f80 k aE zE enc hk h1 cf hO g cb blk off cap d w eg hcmp hH hblk hsz
open Go.RowKit Go.Lib Go.Sort in
theorem Tryz.slices_SortFunc_none {α : Type} [Inhabited α] (p : Option Addr) (cap : Nat) (fv : Value) (w : World) :
    Calls Tryz.prog 80 #[.slice p 0 cap, fv] w fun e w' => e = .returned (.tuple #[]) ∧ w' = w := AnyF.slices_SortFunc_none Tryz.laysSlF06_f80 p cap fv w
end Go.Proofs
end
section
namespace Go.Proofs.YtccomeanpppfmaaGreat
open Go Go.Kn Go.Proofs
theorem w_sort (e : Nat) (zs : List Int) {v : Value} {n : Nat} {L : Go.Kn.Loc} (hO : OwnS e 1 v n (zs.map (Value.int .i64)) L) (hn : n ≤ 1000000) (I : HMap) :
    RetM Tryz.prog 72 [v] I L (fun u I' L' => u = .tuple #[] ∧ I' = I ∧ OwnS e 1 v n ((sortI zs).map (Value.int .i64)) L') :=
  retSort Tryz.slices_Sort_int Tryz.slices_Sort_int_none zs hO hn I
theorem w_compact (e : Nat) (zs : List Int) {v : Value} {n : Nat} {L : Go.Kn.Loc} (hO : OwnS e 1 v n (zs.map (Value.int .i64)) L) (hn : n ≤ 1000000) (I : HMap) :
    RetM Tryz.prog 73 [v] I L (fun u I' L' => I' = I ∧ OwnS e 1 u (Lib.compact zs).length ((Lib.compact zs).map (Value.int .i64)) L') :=
  retCompact Lib.compact Lib.compact_length_le rfl Tryz.slices_Compact_int Tryz.slices_Compact_int_empty zs hO hn I
theorem w_cmpG (I : HMap) (x y : Sg) : RetV Tryz.prog 81 [encGA x, encGA y] I (.int .i64 (cmpG x y)) := by
  intro g H w hw
  refine enter Tryz.func81 rfl Tryz.ntmps81 rfl hw ?_
  refine X_seq ?_
  refine X_region ?_
  refine XO_box rfl rfl rfl (fun b_2 => ?_)
  refine XO_box rfl rfl rfl (fun b_3 => ?_)
  refine XO_v0 (ev_assign rfl) rfl rfl rfl ?_
  refine XO_nil ?_
  refine at_then ?_
  refine X_seq ?_
  refine X_region ?_
  refine XO_v0 (ev_fieldAddr rfl fld_45_0) rfl rfl rfl ?_
  refine XO_v0 (ev_load rfl sct_3 (fun hg => by first | exact Cell.h0 rfl | exact Cell.h1 rfl | exact Cell.h2 rfl | exact Cell.h3 rfl | exact Cell.h4 rfl | exact Cell.h5 rfl | (repeat (first | exact Cell.here rfl | apply Cell.there | apply Cell.app)))) rfl rfl rfl ?_
  refine XO_v0 (ev_fieldAddr rfl fld_45_0) rfl rfl rfl ?_
  refine XO_v0 (ev_load rfl sct_3 (fun hg => by first | exact Cell.h0 rfl | exact Cell.h1 rfl | exact Cell.h2 rfl | exact Cell.h3 rfl | exact Cell.h4 rfl | exact Cell.h5 rfl | (repeat (first | exact Cell.here rfl | apply Cell.there | apply Cell.app)))) rfl rfl rfl ?_
  refine XO_callV0 (cap := []) (vs := [_, _]) rfl rfl fun_63 (w_cmp I _ _) rfl rfl ?_
  refine XO_v0 (ev_assign rfl) rfl rfl rfl ?_
  refine XO_nil ?_
  refine at_then ?_
  refine X_ret ?_
  exact at_ret1 rfl rfl (fun w hw => ⟨by first | rfl | simp_all, hw.drop⟩)
theorem w_sortG (e : Nat) (zs : List Sg) {v : Value} {n : Nat} {L : Go.Kn.Loc} (hO : OwnS e 14 v n (zs.flatMap encG) L) (hn : n ≤ 1000000) (I : HMap) :
    RetM Tryz.prog 80 [v, .func (.func 81) #[] #[]] I L (fun u I' L' => u = .tuple #[] ∧ I' = I ∧ ∃ zs' : List Sg, zs'.Perm zs ∧ zs'.Pairwise (fun x y => Go.Proofs.ltOf cmpG y x = false) ∧ OwnS e 14 v n (zs'.flatMap encG) L') :=
  retSortK encG_len (by decide) (fun blk off cap d w hC hH hb hs => Tryz.slices_SortFunc 14 (fun w => run_isAgg_ag agt_45) (fun w => by obtain ⟨i, hi, hz⟩ := szt_45; rw [← hz]; exact Go.Kn.run_sizeOf hi) encG encG_len (fun x => allOne_iff (by rfl)) cmpG swoG 81 #[] blk off cap d w (fun args w => run_callFunc fun_81 args w) hC hH hb hs)
    (Tryz.slices_SortFunc_none (α := Sg)) (fun I x y => w_cmpG I x y) zs hO hn I
theorem w_nan2 (I : HMap) (x : Int) : RetV Tryz.prog 136 [.int .i64 x] I (.bool false) := by
  intro g H w hw
  refine enter Tryz.func136 rfl Tryz.ntmps136 rfl hw ?_
  refine X_seq ?_
  refine X_region ?_
  refine XO_v0 (ev_assign rfl) rfl rfl rfl ?_
  refine XO_nil ?_
  refine at_then ?_
  refine X_seq ?_
  refine X_region ?_
  refine XO_v0 (ev_move rfl) rfl rfl rfl ?_
  refine XO_v0 (ev_move rfl) rfl rfl rfl ?_
  refine XO_v0 (ev_cmp rfl rfl rfl) rfl rfl rfl ?_
  refine XO_v0 (ev_assign rfl) rfl rfl rfl ?_
  refine XO_nil ?_
  refine at_then ?_
  refine X_ret ?_
  exact at_ret1 rfl rfl (fun w hw => ⟨by simp, hw.drop⟩)
theorem w_less (I : HMap) (x y : Int) : RetV Tryz.prog 135 [.int .i64 x, .int .i64 y] I (.bool (decide (x < y))) := by
  intro g H w hw
  refine enter Tryz.func135 rfl Tryz.ntmps135 rfl hw ?_
  refine X_seq ?_
  refine X_region ?_
  refine XO_v0 (ev_assign rfl) rfl rfl rfl ?_
  refine XO_nil ?_
  refine at_then ?_
  refine X_seq ?_
  refine X_region ?_
  refine XO_v0 (ev_move rfl) rfl rfl rfl ?_
  refine XO_callV0 (cap := []) (vs := [_]) rfl rfl fun_124 (w_nan I _) rfl rfl ?_
  refine XO_v0 (ev_move rfl) rfl rfl rfl ?_
  refine XO_pushT 2 rfl rfl rfl ?_
  refine XO_v1 (ev_move rfl) (.some rfl rfl rfl rfl gbt) rfl rfl rfl ?_
  refine XO_callV1 (cap := []) (vs := [_]) rfl rfl fun_124 (fun hg => w_nan I _) (.some rfl rfl rfl rfl gbt) rfl rfl ?_
  refine XO_v1 (ev_not rfl) (.some rfl rfl rfl rfl gbt) rfl rfl rfl ?_
  refine XO_and0 rfl rfl rfl rfl rfl ?_
  refine XO_v0 (ev_move rfl) rfl rfl rfl ?_
  refine XO_pushF 7 rfl rfl rfl ?_
  refine XO_v1 (ev_move rfl) (.some rfl rfl rfl rfl gbf) rfl rfl rfl ?_
  refine XO_v1 (ev_move rfl) (.some rfl rfl rfl rfl gbf) rfl rfl rfl ?_
  refine XO_v1 (ev_cmp rfl rfl rfl) (.some rfl rfl rfl rfl gbf) rfl rfl rfl ?_
  refine XO_or0 rfl rfl rfl rfl rfl ?_
  refine XO_v0 (ev_assign rfl) rfl rfl rfl ?_
  refine XO_nil ?_
  refine at_then ?_
  refine X_ret ?_
  exact at_ret1 rfl rfl (fun w hw => ⟨by first | rfl | (simp), hw.drop⟩)
theorem w_bsI {I : HMap} {av : Option Addr} {n c : Nat} {xs : List Int} (hS : Sl I 1 encI av n c xs) (hn : n ≤ 100000) (hs : xs.Pairwise (· < ·)) (t : Int) : RetV Tryz.prog 79 [.slice av n c, .int .i64 t] I (.tuple #[.int .i64 (lowK (fun x : Int => x) xs t : Nat), .bool (xs.any fun x => x == t)]) := by
  intro g H w hw
  refine enter Tryz.func79 rfl Tryz.ntmps79 rfl hw ?_
  refine X_seq ?_
  refine X_region ?_
  refine XO_v0 (ev_assign rfl) rfl rfl rfl ?_
  refine XO_v0 (ev_assign rfl) rfl rfl rfl ?_
  refine XO_nil ?_
  refine at_then ?_
  refine X_seq ?_
  refine X_region ?_
  refine XO_v0 (ev_move rfl) rfl rfl rfl ?_
  refine XO_v0 (ev_lenS rfl slt_23) rfl rfl rfl ?_
  refine XO_v0 (ev_assign rfl) rfl rfl rfl ?_
  refine XO_nil ?_
  refine at_then ?_
  refine X_seq ?_
  refine X_region ?_
  refine XO_v0 (ev_move rfl) rfl rfl rfl ?_
  refine XO_v0 (ev_assign rfl) rfl rfl rfl ?_
  refine XO_v0 (ev_assign rfl) rfl rfl rfl ?_
  refine XO_nil ?_
  refine at_then ?_
  refine X_seq ?_
  refine X_block ?_
  refine X_loopT [(0, _), (1, _), (6, _)] (.cons rfl (.cons rfl (.cons rfl .nil))) (fun T L0 mz E I' loc' => ∃ (i j : Nat), mz = j - i ∧ E = (7, .int .i64 i) :: (8, .int .i64 j) :: T ∧ I = I' ∧ L0 = loc' ∧ i ≤ j ∧ j ≤ n ∧ (∀ q z, q < i → xs[q]? = some z → z < t) ∧ ∀ q z, j ≤ q → xs[q]? = some z → ¬ z < t) _ _ _ _ ⟨0, n, rfl, rfl, rfl, rfl, Nat.zero_le _, Nat.le_refl _, fun q z h => absurd h (by omega), fun q z h1 h2 => by have := (List.getElem?_eq_some_iff.1 h2).1; rw [hS.len] at this; omega⟩ (.cons rfl (.cons rfl (.cons rfl (.cons rfl (.cons rfl .nil))))) (HLe.refl _) rfl ?_
  rintro mz E I' loc' ⟨i, j, rfl, rfl, rfl, rfl, hij, hjn, hlo, hhi⟩
  refine X_seq ?_
  refine X_seq ?_
  refine X_region ?_
  refine XO_v0 (ev_move rfl) rfl rfl rfl ?_
  refine XO_v0 (ev_move rfl) rfl rfl rfl ?_
  refine XO_v0 (ev_cmp rfl rfl rfl) rfl rfl rfl ?_
  refine XO_nil ?_
  refine at_then ?_
  refine X_cond rfl (fun hc15 => ?_) (fun hc15 => ?_)
  · skip
    have hlt : i < j := by have h := hc15; simp at h; omega
    obtain ⟨y, hy⟩ := hS.at (k := (i + j) / 2) (by omega)
    refine X_skip ?_
    refine at_then ?_
    refine X_block ?_
    refine X_seq ?_
    refine X_region ?_
    refine XO_v0 (ev_move rfl) rfl rfl rfl ?_
    refine XO_v0 (ev_move rfl) rfl rfl rfl ?_
    refine XO_v0 (ev_arB rfl rfl rfl (fun _ => by omega)) rfl rfl rfl ?_
    refine XO_v0 (ev_convI rfl cvt_3_146) rfl rfl rfl ?_
    refine XO_v0 (ev_shr rfl rfl (by decide) (rfl : min _ _ = 1)) rfl rfl rfl ?_
    refine XO_v0 (ev_convI rfl cvt_146_3) rfl rfl rfl ?_
    refine XO_v0 (ev_assign rfl) rfl rfl rfl ?_
    refine XO_nil ?_
    rw [half_eq i j (by omega)]
    refine at_then ?_
    refine X_seq ?_
    refine X_region ?_
    refine XO_v0 (ev_move rfl) rfl rfl rfl ?_
    refine XO_v0 (ev_move rfl) rfl rfl rfl ?_
    refine XO_v0 (ev_indexSl rfl rfl slt_23 (by assumption) (fun hg => by first | omega | (simp [conj] at hg; omega))) rfl rfl rfl ?_
    refine XO_v0 (ev_load rfl sct_3 (fun hg => by first | exact Sl.get0 (k := (i + j) / 2) hS hy rfl | exact Sl.getD0 (k := i) (d := 0) hS (by simp [conj] at hg; omega) rfl | exact Sl.getD0 (k := j) (d := 0) hS (by simp [conj] at hg; omega) rfl | exact Cell.h0 rfl | exact Cell.h1 rfl | exact Cell.h2 rfl | exact Cell.h3 rfl | exact Cell.h4 rfl | exact Cell.h5 rfl | (repeat (first | exact Cell.here rfl | apply Cell.there | apply Cell.app)))) rfl rfl rfl ?_
    refine XO_v0 (ev_move rfl) rfl rfl rfl ?_
    refine XO_callV0 (cap := []) (vs := [_, _]) rfl rfl fun_135 (w_less I _ _) rfl rfl ?_
    refine XO_nil ?_
    refine at_then ?_
    refine X_cond rfl (fun hc27 => ?_) (fun hc27 => ?_)
    · skip
      refine X_region ?_
      refine XO_v0 (ev_move rfl) rfl rfl rfl ?_
      refine XO_v0 (ev_arB rfl rfl rfl (fun _ => by omega)) rfl rfl rfl ?_
      refine XO_v0 (ev_assign rfl) rfl rfl rfl ?_
      refine XO_nil ?_
      refine at_block_n ?_
      first
      | exact at_met2 _ _ ⟨j - ((i + j) / 2 + 1), by omega, (i + j) / 2 + 1, j, rfl, rfl, rfl, rfl, by omega, hjn, bs_lo (key := fun x : Int => x) hs hy (by simpa using hc27), hhi⟩ (.cons rfl (.cons rfl (.cons rfl (.cons rfl (.cons rfl .nil))))) (by repeat (first | exact .refl | exact subL_left | refine subL_app ?_ | refine .drop ?_ | refine subL_add ?_))
      | exact at_met2 _ _ ⟨(i + j) / 2 - i, by omega, i, (i + j) / 2, rfl, rfl, rfl, rfl, by omega, by omega, hlo, bs_hi (key := fun x : Int => x) hs hy (by simpa using hc27)⟩ (.cons rfl (.cons rfl (.cons rfl (.cons rfl (.cons rfl .nil))))) (by repeat (first | exact .refl | exact subL_left | refine subL_app ?_ | refine .drop ?_ | refine subL_add ?_))
    · skip
      refine X_region ?_
      refine XO_v0 (ev_move rfl) rfl rfl rfl ?_
      refine XO_v0 (ev_assign rfl) rfl rfl rfl ?_
      refine XO_nil ?_
      refine at_block_n ?_
      first
      | exact at_met2 _ _ ⟨j - ((i + j) / 2 + 1), by omega, (i + j) / 2 + 1, j, rfl, rfl, rfl, rfl, by omega, hjn, bs_lo (key := fun x : Int => x) hs hy (by simpa using hc27), hhi⟩ (.cons rfl (.cons rfl (.cons rfl (.cons rfl (.cons rfl .nil))))) (by repeat (first | exact .refl | exact subL_left | refine subL_app ?_ | refine .drop ?_ | refine subL_add ?_))
      | exact at_met2 _ _ ⟨(i + j) / 2 - i, by omega, i, (i + j) / 2, rfl, rfl, rfl, rfl, by omega, by omega, hlo, bs_hi (key := fun x : Int => x) hs hy (by simpa using hc27)⟩ (.cons rfl (.cons rfl (.cons rfl (.cons rfl (.cons rfl .nil))))) (by repeat (first | exact .refl | exact subL_left | refine subL_app ?_ | refine .drop ?_ | refine subL_add ?_))
  · skip
    have hge : j ≤ i := by have h := hc15; simp at h; omega
    have hje : j = i := by omega
    subst hje
    refine X_exit ?_
    refine at_then_e ?_
    refine at_then_e ?_
    refine at_block_hit ?_
    refine at_then ?_
    refine X_seq ?_
    refine X_region ?_
    refine XO_v0 (ev_move rfl) rfl rfl rfl ?_
    refine XO_v0 (ev_move rfl) rfl rfl rfl ?_
    refine XO_v0 (ev_move rfl) rfl rfl rfl ?_
    refine XO_v0 (ev_cmp rfl rfl rfl) rfl rfl rfl ?_
    refine XO_v0 (ev_move rfl) rfl rfl rfl ?_
    refine XO_pushT 4 rfl rfl rfl ?_
    refine XO_v1 (ev_move rfl) (.some rfl rfl rfl rfl gbt) rfl rfl rfl ?_
    refine XO_v1 (ev_move rfl) (.some rfl rfl rfl rfl gbt) rfl rfl rfl ?_
    refine XO_v1 (ev_indexSl rfl rfl slt_23 (by assumption) (fun hg => by first | omega | (simp [conj] at hg; omega))) (.some rfl rfl rfl rfl gbt) rfl rfl rfl ?_
    refine XO_v1 (ev_load rfl sct_3 (fun hg => by first | exact Sl.get0 (k := (i + j) / 2) hS hy rfl | exact Sl.getD0 (k := i) (d := 0) hS (by simp [conj] at hg; omega) rfl | exact Sl.getD0 (k := j) (d := 0) hS (by simp [conj] at hg; omega) rfl | exact Cell.h0 rfl | exact Cell.h1 rfl | exact Cell.h2 rfl | exact Cell.h3 rfl | exact Cell.h4 rfl | exact Cell.h5 rfl | (repeat (first | exact Cell.here rfl | apply Cell.there | apply Cell.app)))) (.some rfl rfl rfl rfl gbt) rfl rfl rfl ?_
    refine XO_v1 (ev_move rfl) (.some rfl rfl rfl rfl gbt) rfl rfl rfl ?_
    refine XO_v1 (ev_cmp rfl rfl rfl) (.some rfl rfl rfl rfl gbt) rfl rfl rfl ?_
    refine XO_v1 (ev_move rfl) (.some rfl rfl rfl rfl gbt) rfl rfl rfl ?_
    refine XO_pushF 11 rfl rfl rfl ?_
    refine XO_v1 (ev_move rfl) (.some rfl rfl rfl rfl gbf) rfl rfl rfl ?_
    refine XO_v1 (ev_move rfl) (.some rfl rfl rfl rfl gbf) rfl rfl rfl ?_
    refine XO_v1 (ev_indexSl rfl rfl slt_23 (by assumption) (fun hg => by first | omega | (simp [conj] at hg; omega))) (.some rfl rfl rfl rfl gbf) rfl rfl rfl ?_
    refine XO_v1 (ev_load rfl sct_3 (fun hg => by first | exact Sl.get0 (k := (i + j) / 2) hS hy rfl | exact Sl.getD0 (k := i) (d := 0) hS (by simp [conj] at hg; omega) rfl | exact Sl.getD0 (k := j) (d := 0) hS (by simp [conj] at hg; omega) rfl | exact Cell.h0 rfl | exact Cell.h1 rfl | exact Cell.h2 rfl | exact Cell.h3 rfl | exact Cell.h4 rfl | exact Cell.h5 rfl | (repeat (first | exact Cell.here rfl | apply Cell.there | apply Cell.app)))) (.some rfl rfl rfl rfl gbf) rfl rfl rfl ?_
    refine XO_callV1 (cap := []) (vs := [_]) rfl rfl fun_136 (fun hg => w_nan2 I _) (.some rfl rfl rfl rfl gbf) rfl rfl ?_
    refine XO_v1 (ev_move rfl) (.some rfl rfl rfl rfl gbf) rfl rfl rfl ?_
    refine XO_pushT 17 rfl rfl rfl ?_
    refine XO_v1 (ev_move rfl) (.some rfl rfl rfl rfl gbt) rfl rfl rfl ?_
    refine XO_callV1 (cap := []) (vs := [_]) rfl rfl fun_136 (fun hg => w_nan2 I _) (.some rfl rfl rfl rfl gbt) rfl rfl ?_
    refine XO_and1 rfl rfl rfl (.some rfl rfl rfl rfl gbf) rfl rfl ?_
    refine XO_or1 rfl rfl rfl (.some rfl rfl rfl rfl gbt) rfl rfl ?_
    refine XO_and0 rfl rfl rfl rfl rfl ?_
    refine XO_v0 (ev_assign rfl) rfl rfl rfl ?_
    refine XO_v0 (ev_assign rfl) rfl rfl rfl ?_
    refine XO_nil ?_
    refine at_then ?_
    refine X_ret ?_
    exact at_ret2 rfl rfl rfl (fun w hw => ⟨by rw [← found_at (key := fun x : Int => x) (d := 0) hS.len hlo hhi hs, low_at (key := fun x : Int => x) (by rw [hS.len]; omega) hlo hhi]; simp, hw.drop⟩)
theorem w_incr {I : HMap} {av : Option Addr} {n c : Nat} {xs : List Int} (hS : Sl I 1 encI av n c xs) (hn : n ≤ 100000) : RetV Tryz.prog 70 [.slice av n c] I (.bool (incB xs)) := by
  intro g H w hw
  refine enter Tryz.func70 rfl Tryz.ntmps70 rfl hw ?_
  refine X_seq ?_
  refine X_region ?_
  refine XO_v0 (ev_assign rfl) rfl rfl rfl ?_
  refine XO_nil ?_
  refine at_then ?_
  refine X_seq ?_
  refine X_seq ?_
  refine X_region ?_
  refine XO_v0 (ev_assign rfl) rfl rfl rfl ?_
  refine XO_nil ?_
  refine at_then ?_
  refine X_block ?_
  refine X_loopT [(0, _)] (.cons rfl .nil) (fun T L0 mz E I' loc' => ∃ (k : Nat), mz = (max n 1) - k ∧ E = (3, .int .i64 k) :: T ∧ I = I' ∧ L0 = loc' ∧ k ≤ (max n 1) ∧ 1 ≤ k ∧ (List.range k).all (incP xs) = true) _ _ _ _ ⟨1, rfl, rfl, rfl, rfl, by omega, Nat.le_refl _, incP_zero xs⟩ (.cons rfl (.cons rfl .nil)) (HLe.refl _) rfl ?_
  rintro mz E I' loc' ⟨k, rfl, rfl, rfl, rfl, hk, h1, hall⟩
  refine X_seq ?_
  refine X_seq ?_
  refine X_region ?_
  refine XO_v0 (ev_move rfl) rfl rfl rfl ?_
  refine XO_v0 (ev_move rfl) rfl rfl rfl ?_
  refine XO_v0 (ev_lenS rfl slt_23) rfl rfl rfl ?_
  refine XO_v0 (ev_cmp rfl rfl rfl) rfl rfl rfl ?_
  refine XO_nil ?_
  refine at_then ?_
  refine X_cond rfl (fun hc7 => ?_) (fun hc7 => ?_)
  · skip
    have hlt_k : k < n := by have h := hc7; simp at h; omega
    obtain ⟨x, hx⟩ := hS.at hlt_k
    refine X_skip ?_
    refine at_then ?_
    refine X_seq ?_
    refine X_block ?_
    refine X_seq ?_
    refine X_draw mixed (by kernel_rfl) ?_
    refine XQ_v0 (ev_move rfl) rfl rfl rfl ?_
    refine XQ_v0 (ev_move rfl) rfl rfl rfl ?_
    refine XQ_v0 (ev_indexSl rfl rfl slt_23 (by assumption) (fun hg => by first | omega | (simp [conj] at hg; omega))) rfl rfl rfl ?_
    refine XQ_v0 (ev_load rfl sct_3 (fun hg => by first | exact Sl.get0 (k := k) hS hx rfl | exact Sl.getD0 (k := ((k : Int) - 1).toNat) (d := 0) hS (by omega) rfl | exact Cell.h0 rfl | exact Cell.h1 rfl | exact Cell.h2 rfl | exact Cell.h3 rfl | exact Cell.h4 rfl | exact Cell.h5 rfl | (repeat (first | exact Cell.here rfl | apply Cell.there | apply Cell.app)))) rfl rfl rfl ?_
    refine XQ_v0 (ev_move rfl) rfl rfl rfl ?_
    refine XQ_v0 (ev_move rfl) rfl rfl rfl ?_
    refine XQ_v0 (ev_arB rfl rfl rfl (fun _ => by omega)) rfl rfl rfl ?_
    refine XQ_v0 (ev_indexSl rfl rfl slt_23 (by assumption) (fun hg => by first | omega | (simp [conj] at hg; omega))) rfl rfl rfl ?_
    refine XQ_v0 (ev_load rfl sct_3 (fun hg => by first | exact Sl.get0 (k := k) hS hx rfl | exact Sl.getD0 (k := ((k : Int) - 1).toNat) (d := 0) hS (by omega) rfl | exact Cell.h0 rfl | exact Cell.h1 rfl | exact Cell.h2 rfl | exact Cell.h3 rfl | exact Cell.h4 rfl | exact Cell.h5 rfl | (repeat (first | exact Cell.here rfl | apply Cell.there | apply Cell.app)))) rfl rfl rfl ?_
    refine XQ_v0 (ev_cmp rfl rfl rfl) rfl rfl rfl ?_
    refine XQ_nil ?_
    refine at_then ?_
    refine X_cond rfl (fun hc19 => ?_) (fun hc19 => ?_)
    · skip
      refine X_seq ?_
      refine X_region ?_
      refine XO_v0 (ev_assign rfl) rfl rfl rfl ?_
      refine XO_nil ?_
      refine at_then ?_
      refine X_ret ?_
      refine at_block_r ?_
      refine at_then_r ?_
      refine at_then_r ?_
      refine at_block_r ?_
      refine at_then_r ?_
      first
      | exact at_ret1 rfl rfl (fun w hw => ⟨by rw [incB_eq, range_bad (k := k) (by rw [hS.len]; exact hlt_k) (by rw [incP_at hx h1, hc19]; rfl)], hw.drop⟩)
      | exact at_ret1 rfl rfl (fun w hw => ⟨by rw [incB_eq, hS.len, range_cut hall (show n ≤ k from hge_k)], hw.drop⟩)
    · skip
      refine X_skip ?_
      refine at_block_n ?_
      refine at_then ?_
      refine X_region ?_
      refine XO_v0 (ev_move rfl) rfl rfl rfl ?_
      refine XO_v0 (ev_arB rfl rfl rfl (fun _ => by omega)) rfl rfl rfl ?_
      refine XO_v0 (ev_assign rfl) rfl rfl rfl ?_
      refine XO_nil ?_
      exact at_met2 _ _ ⟨(max n 1) - (k + 1), by omega, k + 1, rfl, rfl, rfl, rfl, by omega, by omega, range_step hall (by rw [incP_at hx h1, hc19]; rfl)⟩ (.cons rfl (.cons rfl .nil)) (by repeat (first | exact .refl | exact subL_left | refine subL_app ?_ | refine .drop ?_ | refine subL_add ?_))
  · skip
    have hge_k : n ≤ k := by have h := hc7; simp at h; omega
    refine X_exit ?_
    refine at_then_e ?_
    refine at_then_e ?_
    refine at_block_hit ?_
    refine at_then ?_
    refine X_seq ?_
    refine X_region ?_
    refine XO_v0 (ev_assign rfl) rfl rfl rfl ?_
    refine XO_nil ?_
    refine at_then ?_
    refine X_ret ?_
    first
    | exact at_ret1 rfl rfl (fun w hw => ⟨by rw [incB_eq, range_bad (k := k) (by rw [hS.len]; exact hlt_k) (by rw [incP_at hx h1, hc19]; rfl)], hw.drop⟩)
    | exact at_ret1 rfl rfl (fun w hw => ⟨by rw [incB_eq, hS.len, range_cut hall (show n ≤ k from hge_k)], hw.drop⟩)
theorem w_cloneI {I : HMap} {av : Option Addr} {n c : Nat} {xs : List Int} (hS : Sl I 1 encI av n c xs) (hn : n ≤ 400000) : RetM Tryz.prog 68 [.slice av n c] I [] (fun v I' L => I' = I ∧ OwnS 3 1 v n (xs.flatMap encI) L) := by
  intro g H w hw
  refine enter Tryz.func68 rfl Tryz.ntmps68 rfl hw ?_
  refine X_seq ?_
  refine X_region ?_
  refine XO_v0 (ev_assign rfl) rfl rfl rfl ?_
  refine XO_nil ?_
  refine at_then ?_
  refine X_seq ?_
  refine X_seq ?_
  refine X_region ?_
  refine XO_v0 (ev_move rfl) rfl rfl rfl ?_
  refine XO_v0 (ev_eqNil rfl rfl slt_23) rfl rfl rfl ?_
  refine XO_nil ?_
  refine at_then ?_
  refine X_cond rfl (fun hc4 => ?_) (fun hc4 => ?_)
  · skip
    have hn0 : n = 0 := Decidable.byContradiction fun h => by have := hS.base h; rw [this] at hc4; cases hc4
    have hl := hS.len
    subst hn0
    have hx0 := List.eq_nil_of_length_eq_zero hl
    subst hx0
    refine X_seq ?_
    refine X_region ?_
    refine XO_v0 (ev_assign rfl) rfl rfl rfl ?_
    refine XO_nil ?_
    refine at_then ?_
    refine X_ret ?_
    refine at_then_r ?_
    first
    | exact at_ret1 rfl rfl (fun w hw => ⟨_, I, _, rfl, HLe.refl _, hw, rfl, OwnS.nil⟩)
    | exact at_ret1 rfl rfl (fun w hw => ⟨_, I, _, rfl, HLe.refl _, hw.subL subL_left, rfl, hO1⟩)
  · skip
    refine X_skip ?_
    refine at_then ?_
    refine X_seq ?_
    refine X_region ?_
    refine XO_buildSlice (ps := []) (m := []) elt_23 rfl (.nil) rfl (by simp) (by decide) (by decide) rfl rfl (fun b_5 => ?_)
    refine XO_v0 (ev_move rfl) rfl rfl rfl ?_
    refine XO_append (v := _) (ys := xs.flatMap encI) (L := [(b_5, _)]) rfl rfl elt_23 OwnS.new (by repeat (first | exact .cons .here .nil | exact split_all | exact split_app | apply split_cons | apply split_skip)) (hS.src encI_len) (one_I _) (by omega) rfl rfl ?_
    intro v1 L1 hO1 _; rw [List.nil_append, Nat.zero_add] at hO1
    refine XO_v0 (ev_assign rfl) rfl rfl rfl ?_
    refine XO_nil ?_
    refine at_then ?_
    refine X_ret ?_
    first
    | exact at_ret1 rfl rfl (fun w hw => ⟨_, I, _, rfl, HLe.refl _, hw, rfl, OwnS.nil⟩)
    | exact at_ret1 rfl rfl (fun w hw => ⟨_, I, _, rfl, HLe.refl _, hw.subL subL_left, rfl, hO1⟩)
theorem w_cloneG {I : HMap} {av : Option Addr} {n c : Nat} {xs : List Sg} (hS : Sl I 14 encG av n c xs) (hn : n ≤ 400000) : RetM Tryz.prog 78 [.slice av n c] I [] (fun v I' L => I' = I ∧ OwnS 45 14 v n (xs.flatMap encG) L) := by
  intro g H w hw
  refine enter Tryz.func78 rfl Tryz.ntmps78 rfl hw ?_
  refine X_seq ?_
  refine X_region ?_
  refine XO_v0 (ev_assign rfl) rfl rfl rfl ?_
  refine XO_nil ?_
  refine at_then ?_
  refine X_seq ?_
  refine X_seq ?_
  refine X_region ?_
  refine XO_v0 (ev_move rfl) rfl rfl rfl ?_
  refine XO_v0 (ev_eqNil rfl rfl slt_33) rfl rfl rfl ?_
  refine XO_nil ?_
  refine at_then ?_
  refine X_cond rfl (fun hc4 => ?_) (fun hc4 => ?_)
  · skip
    have hn0 : n = 0 := Decidable.byContradiction fun h => by have := hS.base h; rw [this] at hc4; cases hc4
    have hl := hS.len
    subst hn0
    have hx0 := List.eq_nil_of_length_eq_zero hl
    subst hx0
    refine X_seq ?_
    refine X_region ?_
    refine XO_v0 (ev_assign rfl) rfl rfl rfl ?_
    refine XO_nil ?_
    refine at_then ?_
    refine X_ret ?_
    refine at_then_r ?_
    first
    | exact at_ret1 rfl rfl (fun w hw => ⟨_, I, _, rfl, HLe.refl _, hw, rfl, OwnS.nil⟩)
    | exact at_ret1 rfl rfl (fun w hw => ⟨_, I, _, rfl, HLe.refl _, hw.subL subL_left, rfl, hO1⟩)
  · skip
    refine X_skip ?_
    refine at_then ?_
    refine X_seq ?_
    refine X_region ?_
    refine XO_buildSlice (ps := []) (m := []) elt_33 rfl (.nil) rfl (by simp) (by decide) (by decide) rfl rfl (fun b_5 => ?_)
    refine XO_v0 (ev_move rfl) rfl rfl rfl ?_
    refine XO_append (v := _) (ys := xs.flatMap encG) (L := [(b_5, _)]) rfl rfl elt_33 OwnS.new (by repeat (first | exact .cons .here .nil | exact split_all | exact split_app | apply split_cons | apply split_skip)) (hS.src encG_len) (one_G _) (by omega) rfl rfl ?_
    intro v1 L1 hO1 _; rw [List.nil_append, Nat.zero_add] at hO1
    refine XO_v0 (ev_assign rfl) rfl rfl rfl ?_
    refine XO_nil ?_
    refine at_then ?_
    refine X_ret ?_
    first
    | exact at_ret1 rfl rfl (fun w hw => ⟨_, I, _, rfl, HLe.refl _, hw, rfl, OwnS.nil⟩)
    | exact at_ret1 rfl rfl (fun w hw => ⟨_, I, _, rfl, HLe.refl _, hw.subL subL_left, rfl, hO1⟩)
theorem w_union {I : HMap} {av : Option Addr} {n c : Nat} {xs : List Int} (hS : Sl I 1 encI av n c xs) (hn : n ≤ 400000) {bv : Option Addr} {n2 c2 : Nat} {ys : List Int} (hT : Sl I 1 encI bv n2 c2 ys) (hn2 : n2 ≤ 100000) : RetM Tryz.prog 33 [.slice av n c, .slice bv n2 c2] I [] (SlRes 1 encI (Lib.compact (sortI (xs ++ ys)))) := by
  intro g H w hw
  refine enter Tryz.func33 rfl Tryz.ntmps33 rfl hw ?_
  have hIc := HLe.refl I
  refine X_seq ?_
  refine X_region ?_
  refine XO_v0 (ev_assign rfl) rfl rfl rfl ?_
  refine XO_nil ?_
  refine at_then ?_
  refine X_seq ?_
  refine X_region ?_
  refine XO_v0 (ev_move rfl) rfl rfl rfl ?_
  refine XO_callM (cap := []) (vs := [_]) rfl rfl fun_68 .nil (w_cloneI hS hn) rfl rfl ?_
  rintro vv1 I1 L1 hI1 ⟨rfl, hO⟩
  have hS := hS.mono hI1
  have hT := hT.mono hI1
  have hIc := hIc.trans hI1
  refine XO_v0 (ev_move rfl) rfl rfl rfl ?_
  refine XO_append (v := _) (ys := ys.flatMap encI) (L := _) rfl rfl elt_23 hO split_app (hT.src encI_len) (one_I _) (by omega) rfl rfl ?_
  intro v2 L2 hO2 _; rw [← List.flatMap_append, flat_int] at hO2
  refine XO_v0 (ev_assign rfl) rfl rfl rfl ?_
  refine XO_nil ?_
  refine at_then ?_
  refine X_seq ?_
  refine X_region ?_
  refine XO_v0 (ev_move rfl) rfl rfl rfl ?_
  refine XO_callM (cap := []) (vs := [_]) rfl rfl fun_72 split_app (w_sort 3 (xs ++ ys) hO2 (by omega) _) rfl rfl ?_
  rintro vv2 I2 L2 hI2 ⟨rfl, rfl, hO3⟩
  have hS := hS.mono hI2
  have hT := hT.mono hI2
  have hIc := hIc.trans hI2
  refine XO_nil ?_
  refine at_then ?_
  refine X_seq ?_
  refine X_region ?_
  refine XO_v0 (ev_move rfl) rfl rfl rfl ?_
  refine XO_callM (cap := []) (vs := [_]) rfl rfl fun_73 split_app (w_compact 3 _ hO3 (by omega) _) rfl rfl ?_
  rintro vv3 I3 L3 hI3 ⟨rfl, hO4⟩
  have hS := hS.mono hI3
  have hT := hT.mono hI3
  have hIc := hIc.trans hI3
  refine XO_v0 (ev_assign rfl) rfl rfl rfl ?_
  refine XO_nil ?_
  refine at_then ?_
  refine X_ret ?_
  rw [← flat_int] at hO4
  exact at_ret1 rfl rfl (fun w hw => by obtain ⟨I9, h91, h92, h93⟩ := OwnS.res hO4 encI_len (by decide) (hw.subL (by first | exact subL_left | exact .refl)); exact ⟨_, I9, [], rfl, hIc.trans h91, h92, h93⟩)
end Go.Proofs.YtccomeanpppfmaaGreat
end
section
namespace Go.Proofs.YtccomeanpppfmaaGreat
open Go Go.Kn Go.Proofs
def refV (b : Nat) : Value := .map (some b)
/-- A set of numbers, each one true. -/
structure SetQ (s : List (Int × Bool)) (A : Int → Bool) : Prop where
  nodup : (s.map (·.1)).Nodup
  all : ∀ q ∈ s, q.2 = true
  mem : ∀ x, setM s x = A x
theorem SetQ.nil : SetQ [] (fun _ => false) := ⟨.nil, (fun q hq => by cases hq), fun _ => rfl⟩
theorem SetQ.put {s : List (Int × Bool)} {A : Int → Bool} (h : SetQ s A) (a : Int) : SetQ (mset s a true) (fun x => decide (a = x) || A x) where
  nodup := mset_nodup a true h.nodup
  all := by
    have key : ∀ (s : List (Int × Bool)), (∀ q ∈ s, q.2 = true) → ∀ q ∈ mset s a true, q.2 = true := by
      intro s
      induction s with
      | nil => intro _ q hq; simp [mset] at hq; rw [hq]
      | cons p s ih =>
        intro h q hq
        unfold mset at hq
        split at hq
        · rcases List.mem_cons.1 hq with rfl | hq
          · rfl
          · exact h q (List.mem_cons_of_mem _ hq)
        · rcases List.mem_cons.1 hq with rfl | hq
          · exact h _ (List.mem_cons_self ..)
          · exact ih (fun q hq => h q (List.mem_cons_of_mem _ hq)) q hq
    exact key s h.all
  mem := fun x => by rw [setM_put, h.mem]
theorem SetQ.congr {s : List (Int × Bool)} {A B : Int → Bool} (h : SetQ s A) (e : ∀ x, A x = B x) : SetQ s B := ⟨h.nodup, h.all, fun x => by rw [h.mem, e]⟩
theorem SetQ.key {s : List (Int × Bool)} {A : Int → Bool} (h : SetQ s A) {x : Int} : A x = true ↔ x ∈ s.map (·.1) := by
  rw [← h.mem]
  unfold setM
  constructor
  · intro h1
    cases hg : mget s x with
    | none => rw [hg] at h1; cases h1
    | some b => exact List.mem_map.2 ⟨_, mget_mem hg, rfl⟩
  · intro h1
    obtain ⟨q, hq, rfl⟩ := List.mem_map.1 h1
    rw [mget_at h.nodup hq, h.all q hq]; rfl
def OnS (I : HMap) (ref : Nat) (A : Int → Bool) : Prop := ∃ s : List (Int × Bool), I ref = some (mapO (Value.int .i64) Value.bool s) ∧ SetQ s A
theorem OnS.mono {I I' : HMap} {ref : Nat} {A : Int → Bool} (h : OnS I ref A) (hI : HLe I I') : OnS I' ref A := by
  obtain ⟨s, h1, h2⟩ := h
  exact ⟨s, hI _ _ h1, h2⟩
/-- For each patch what it stands on. -/
def OnL (I : HMap) (m : List (Int × Nat)) (ps : List Pt) : Prop := m.map (·.1) = ps.map (·.id) ∧ ∀ q ∈ m, OnS I q.2 (onF ps q.1)
theorem OnL.mono {I I' : HMap} {m : List (Int × Nat)} {ps : List Pt} (h : OnL I m ps) (hI : HLe I I') : OnL I' m ps := ⟨h.1, fun q hq => (h.2 q hq).mono hI⟩
theorem OnL.nil {I : HMap} {ps : List Pt} : OnL I [] (ps.take 0) := ⟨by simp, fun q hq => by cases hq⟩
def OnM (I : HMap) (r : Nat) (ps : List Pt) : Prop := ∃ m : List (Int × Nat), I r = some (mapO (Value.int .i64) refV m) ∧ OnL I m ps
theorem OnM.mono {I I' : HMap} {r : Nat} {ps : List Pt} (h : OnM I r ps) (hI : HLe I I') : OnM I' r ps := by
  obtain ⟨m, h1, h2⟩ := h
  exact ⟨m, hI _ _ h1, h2.mono hI⟩
theorem OnL.get {I : HMap} {m : List (Int × Nat)} {ps : List Pt} (h : OnL I m ps) {a : Int} (ha : ∃ q ∈ ps, q.id = a) : ∃ ref, mget m a = some ref ∧ OnS I ref (onF ps a) := by
  cases hg : mget m a with
  | none =>
    have := mget_none.1 hg
    rw [h.1] at this
    obtain ⟨q, hq, rfl⟩ := ha
    exact absurd (List.mem_map.2 ⟨q, hq, rfl⟩) this
  | some ref => exact ⟨ref, rfl, h.2 _ (mget_mem hg)⟩
theorem Lst.before {ps : List Pt} (h : Lst ps) {k : Nat} {p : Pt} (hk : ps[k]? = some p) {n : Int} (hn : n ∈ p.needs) : ∃ q ∈ ps.take k, q.id = n := by
  obtain ⟨h1, q, hq, rfl⟩ := h.has p (List.mem_of_getElem? hk) n hn
  obtain ⟨j, hj⟩ := List.getElem?_of_mem hq
  obtain ⟨hj1, hj2⟩ := List.getElem?_eq_some_iff.1 hj
  obtain ⟨hk1, hk2⟩ := List.getElem?_eq_some_iff.1 hk
  have hjk : j < k := by
    rcases Nat.lt_or_ge j k with h3 | h3
    · exact h3
    · exfalso
      by_cases e : k = j
      · subst e; rw [hk] at hj; cases hj; omega
      · have := List.pairwise_iff_getElem.1 h.inc k j hk1 hj1 (by omega)
        rw [hj2, hk2] at this; omega
  refine ⟨q, ?_, rfl⟩
  rw [List.mem_take_iff_getElem]
  exact ⟨j, by omega, hj2⟩
theorem Lst.fresh {ps : List Pt} (h : Lst ps) {k : Nat} {p : Pt} (hk : ps[k]? = some p) : ∀ q ∈ ps.take k, q.id < p.id := fun q hq => by
  obtain ⟨j, hj, rfl⟩ := List.mem_take_iff_getElem.1 hq
  obtain ⟨hk1, hk2⟩ := List.getElem?_eq_some_iff.1 hk
  have := List.pairwise_iff_getElem.1 h.inc j k (by omega) hk1 (by omega)
  rw [hk2] at this; exact this
theorem OnL.step {I : HMap} {m : List (Int × Nat)} {ps : List Pt} {k ref : Nat} {p : Pt} {s : List (Int × Bool)} (hL : Lst ps) (hk : ps[k]? = some p) (hm : OnL I m (ps.take k)) (hb : I ref = some (mapO (Value.int .i64) Value.bool s))
    (hs : SetQ s (fun x => p.needs.any fun n => n == x || onF (ps.take k) n x)) : OnL I (mset m p.id ref) (ps.take (k + 1)) := by
  have hfr := hL.fresh hk
  have hnew : p.id ∉ m.map (·.1) := by
    rw [hm.1]
    intro h
    obtain ⟨q, hq, e⟩ := List.mem_map.1 h
    have := hfr q hq; omega
  have hmi : mset m p.id ref = m ++ [(p.id, ref)] := by
    refine mset_new m p.id ref 0 ?_
    have := mget_none.2 hnew
    rw [← mget_midx m p.id 0] at this
    simpa using this
  rw [take_snoc hk]
  refine ⟨by rw [mset_keys, if_neg hnew, hm.1]; simp, fun q hq => ?_⟩
  rw [hmi] at hq
  rcases List.mem_append.1 hq with hq | hq
  · obtain ⟨s', h1, h2⟩ := hm.2 q hq
    refine ⟨s', h1, h2.congr fun x => ?_⟩
    have hne : q.1 ≠ p.id := fun e => hnew (by rw [← e]; exact List.mem_map.2 ⟨q, hq, rfl⟩)
    rw [onF_left (fun z hz => by simp at hz; subst hz; exact fun e => hne e.symm)]
  · simp at hq; subst hq
    refine ⟨s, hb, hs.congr fun x => ?_⟩
    exact (onF_split (fun z hz => by cases hz)).symm
/-- A set that takes in the keys of another one, in whatever order. -/
def Seen (sn : List (Int × Bool)) (seen : List Nat) (x : Int) : Bool := seen.any fun i => (sn[i]?.map (·.1)) == some x
theorem seen_nil (sn : List (Int × Bool)) (x : Int) : Seen sn [] x = false := rfl
theorem seen_snoc {sn : List (Int × Bool)} {seen : List Nat} {i : Nat} {p : Int × Bool} (hp : sn[i]? = some p) (x : Int) : Seen sn (seen ++ [i]) x = (decide (p.1 = x) || Seen sn seen x) := by
  unfold Seen
  rw [List.any_append, Bool.eq_iff_iff]
  simp [hp, or_comm]
theorem seen_all {sn : List (Int × Bool)} {A : Int → Bool} (h : SetQ sn A) {seen : List Nat} (hall : ∀ i p, sn[i]? = some p → i ∈ seen) (x : Int) : Seen sn seen x = A x := by
  rw [Bool.eq_iff_iff, h.key]
  unfold Seen
  rw [List.any_eq_true]
  constructor
  · rintro ⟨i, _, hi⟩
    cases hx : sn[i]? with
    | none => rw [hx] at hi; simp at hi
    | some p => rw [hx] at hi; simp at hi; exact List.mem_map.2 ⟨p, List.mem_of_getElem? hx, hi⟩
  · intro hx
    obtain ⟨p, hp, rfl⟩ := List.mem_map.1 hx
    obtain ⟨i, hi⟩ := List.getElem?_of_mem hp
    exact ⟨i, hall i p hi, by rw [hi]; simp⟩
end Go.Proofs.YtccomeanpppfmaaGreat
end
section
namespace Go.Proofs.YtccomeanpppfmaaGreat
open Go Go.Kn Go.Proofs
theorem w_stands {I : HMap} {av : Option Addr} {n c : Nat} {ps : List Pt} (hP : SlP I av n c ps) (hn : n ≤ 100000) (hL : Lst ps) (hnd : ∀ p ∈ ps, p.n ≤ 100000) : RetM Tryz.prog 38 [.slice av n c] I [] (fun v I' L => L = [] ∧ ∃ r, v = .map (some r) ∧ OnM I' r ps) := by
  intro g H w hw
  refine enter Tryz.func38 rfl Tryz.ntmps38 rfl hw ?_
  have hIc := HLe.refl I
  refine X_seq ?_
  refine X_region ?_
  refine XO_v0 (ev_assign rfl) rfl rfl rfl ?_
  refine XO_nil ?_
  refine at_then ?_
  refine X_seq ?_
  refine X_region ?_
  refine XO_makeMap rfl rfl (fun r_10 => ?_)
  refine XO_v0 (ev_assign rfl) rfl rfl rfl ?_
  refine XO_nil ?_
  refine at_then ?_
  refine X_seq ?_
  refine X_seq ?_
  refine X_region ?_
  refine XO_v0 (ev_move rfl) rfl rfl rfl ?_
  refine XO_v0 (ev_lenS rfl slt_22) rfl rfl rfl ?_
  refine XO_v0 (ev_move rfl) rfl rfl rfl ?_
  refine XO_nil ?_
  refine at_then ?_
  refine X_block ?_
  refine X_loopT [(3, _), (11, _), (12, _)] (.cons rfl (.cons rfl (.cons rfl .nil))) (fun T L0 mz E I' loc' => ∃ (k : Nat) (m : List (Int × Nat)), mz = n - k ∧ E = (13, .int .i64 k) :: T ∧ HLe I I' ∧ [(r_10, mapO (Value.int .i64) refV m)] = loc' ∧ k ≤ n ∧ OnL I' m (ps.take k)) _ _ _ _ ⟨0, [], rfl, rfl, HLe.refl _, rfl, Nat.zero_le _, OnL.nil⟩ (.cons rfl (.cons rfl (.cons rfl (.cons rfl .nil)))) (HLe.refl _) rfl ?_
  rintro mz E J1 loc' ⟨k, m, rfl, rfl, hJ, rfl, hk, hm⟩
  have hP := hP.mono hJ
  have hIc := hIc.trans hJ
  have hB0 := hJ
  refine X_seq ?_
  refine X_region ?_
  refine XO_v0 (ev_cmp rfl rfl rfl) rfl rfl rfl ?_
  refine XO_nil ?_
  refine at_then ?_
  refine X_seq ?_
  refine X_cond rfl (fun hc14 => ?_) (fun hc14 => ?_)
  · skip
    have hlt_k : k < n := by have h := hc14; simp at h; omega
    have hP1 := hP.1
    obtain ⟨p, hp, hN⟩ := hP.at hlt_k
    have hpm := List.mem_of_getElem? hp
    have hN : Sl J1 1 encI p.a p.n p.c p.needs := hN
    have hpn := hnd p hpm
    refine X_skip ?_
    refine at_then ?_
    refine X_seq ?_
    refine X_block ?_
    refine X_seq ?_
    refine X_region ?_
    refine XO_v0 (ev_indexSl rfl rfl slt_22 (by assumption) (fun hg => by first | omega | (simp [conj] at hg; omega))) rfl rfl rfl ?_
    refine XO_v0 (ev_loadA rfl agt_53 (fun hg => by first | exact Sl.getA hP.1 hp | exact Cells.g0 | exact Cells.g1 | exact Cells.g2 | exact Cells.g3 | exact Cells.g4 | exact Cells.g5 | exact Cells.s0 (vs := [_, _, _, _, _, _, _, _, _, _, _, _, _, _, _, _, _, _, _]) rfl | exact Cells.s1 (vs := [_, _, _, _, _, _, _, _, _, _, _, _, _, _, _, _, _, _, _]) rfl | exact Cells.s2 (vs := [_, _, _, _, _, _, _, _, _, _, _, _, _, _, _, _, _, _, _]) rfl | exact Cells.s3 (vs := [_, _, _, _, _, _, _, _, _, _, _, _, _, _, _, _, _, _, _]) rfl | exact Cells.s4 (vs := [_, _, _, _, _, _, _, _, _, _, _, _, _, _, _, _, _, _, _]) rfl | exact Cells.s5 (vs := [_, _, _, _, _, _, _, _, _, _, _, _, _, _, _, _, _, _, _]) rfl | (repeat (first | exact Cells.here | apply Cells.there | apply Cells.app))) rfl) rfl rfl rfl ?_
    refine XO_alloc zt_53 rfl rfl (fun b_5 => ?_)
    refine XO_storeA rfl rfl szt_53 rfl rfl rfl rfl (by first | exact Upd.u0 | exact Upd.u1 | exact Upd.u2 | exact Upd.u3 | exact Upd.u4 | exact Upd.u5 | (repeat (first | exact Upd.here | apply Upd.there | apply upd_app))) ?_
    refine XO_nil ?_
    refine at_then ?_
    refine X_seq ?_
    refine X_region ?_
    refine XO_makeMap rfl rfl (fun r_17 => ?_)
    refine XO_v0 (ev_assign rfl) rfl rfl rfl ?_
    refine XO_nil ?_
    refine at_then ?_
    refine X_seq ?_
    refine X_seq ?_
    refine X_region ?_
    refine XO_v0 (ev_fieldAddr rfl fld_53_5) rfl rfl rfl ?_
    refine XO_v0 (ev_load rfl sct_23 (fun hg => by first | exact Sl.get0 hN hy rfl | exact Cell.h0 rfl | exact Cell.h1 rfl | exact Cell.h2 rfl | exact Cell.h3 rfl | exact Cell.h4 rfl | exact Cell.h5 rfl | (repeat (first | exact Cell.here rfl | apply Cell.there | apply Cell.app)))) rfl rfl rfl ?_
    refine XO_v0 (ev_lenS rfl slt_23) rfl rfl rfl ?_
    refine XO_v0 (ev_move rfl) rfl rfl rfl ?_
    refine XO_nil ?_
    refine at_then ?_
    refine X_block ?_
    refine X_loopT [(3, _), (5, _), (6, _), (11, _), (12, _), (13, _), (19, _), (20, _)] (.cons rfl (.cons rfl (.cons rfl (.cons rfl (.cons rfl (.cons rfl (.cons rfl (.cons rfl .nil)))))))) (fun T L0 mz E I' loc' => ∃ (j : Nat) (s : List (Int × Bool)), mz = p.n - j ∧ E = (21, .int .i64 j) :: T ∧ J1 = I' ∧ [(r_17, mapO (Value.int .i64) Value.bool s), (b_5, .cells (encP p).toArray 53 (0, 0)), (r_10, mapO (Value.int .i64) refV m)] = loc' ∧ j ≤ p.n ∧ SetQ s (fun x => (p.needs.take j).any fun n => n == x || onF (ps.take k) n x)) _ _ _ _ ⟨0, [], rfl, rfl, rfl, rfl, Nat.zero_le _, SetQ.nil⟩ (.cons rfl (.cons rfl (.cons rfl (.cons rfl (.cons rfl (.cons rfl (.cons rfl (.cons rfl (.cons rfl .nil))))))))) (HLe.refl _) rfl ?_
    rintro mz E I' loc' ⟨j, s, rfl, rfl, rfl, rfl, hj, hs⟩
    refine X_seq ?_
    refine X_region ?_
    refine XO_v0 (ev_cmp rfl rfl rfl) rfl rfl rfl ?_
    refine XO_nil ?_
    refine at_then ?_
    refine X_seq ?_
    refine X_cond rfl (fun hc22 => ?_) (fun hc22 => ?_)
    · skip
      have hlt_j : j < p.n := by have h := hc22; simp at h; omega
      obtain ⟨y, hy⟩ := hN.at hlt_j
      obtain ⟨ref, hget, sn, hsn, hsq⟩ := hm.get (hL.before hp (List.mem_of_getElem? hy))
      refine X_skip ?_
      refine at_then ?_
      refine X_seq ?_
      refine X_block ?_
      refine X_seq ?_
      refine X_region ?_
      refine XO_v0 (ev_indexSl rfl rfl slt_23 (by assumption) (fun hg => by first | omega | (simp [conj] at hg; omega))) rfl rfl rfl ?_
      refine XO_v0 (ev_load rfl sct_3 (fun hg => by first | exact Sl.get0 hN hy rfl | exact Cell.h0 rfl | exact Cell.h1 rfl | exact Cell.h2 rfl | exact Cell.h3 rfl | exact Cell.h4 rfl | exact Cell.h5 rfl | (repeat (first | exact Cell.here rfl | apply Cell.there | apply Cell.app)))) rfl rfl rfl ?_
      refine XO_v0 (ev_assign rfl) rfl rfl rfl ?_
      refine XO_nil ?_
      refine at_then ?_
      refine X_seq ?_
      refine X_region ?_
      refine XO_v0 (ev_move rfl) rfl rfl rfl ?_
      refine XO_v0 (ev_move rfl) rfl rfl rfl ?_
      refine XO_mapUpdate (m := s) (ek := Value.int .i64) (ev := Value.bool) (a := y) true mpt_71 key_3 rfl rfl rfl rfl (by first | exact Upd.u0 | exact Upd.u1 | exact Upd.u2 | exact Upd.u3 | exact Upd.u4 | exact Upd.u5 | (repeat (first | exact Upd.here | apply Upd.there | apply upd_app))) ?_
      refine XO_nil ?_
      refine at_then ?_
      refine X_seq ?_
      refine X_region ?_
      refine XO_v0 (ev_move rfl) rfl rfl rfl ?_
      refine XO_v0 (ev_move rfl) rfl rfl rfl ?_
      refine XO_v0 (ev_lookupG (m := m) (ek := Value.int .i64) (ev := refV) (a := y) hget mpt_74 key_3 rfl rfl (fun _ => .inr (by simp))) rfl rfl rfl ?_
      refine XO_range (ek := Value.int .i64) (ev := Value.bool) (m := sn) rfl mpt_71 rfl rfl (.inl hsn) (fun b_30 => ?_)
      refine XO_nil ?_
      refine at_then ?_
      refine X_block ?_
      refine X_loopT [(3, _), (5, _), (6, _), (11, _), (12, _), (13, _), (19, _), (20, _), (21, _), (30, _)] (.cons rfl (.cons rfl (.cons rfl (.cons rfl (.cons rfl (.cons rfl (.cons rfl (.cons rfl (.cons rfl (.cons rfl .nil)))))))))) (fun T L0 mz E I' loc' => ∃ (seen : List Nat) (s : List (Int × Bool)), mz = sn.length - seen.length ∧ E = T ∧ J1 = I' ∧ [(b_30, iterO ref sn.length seen), (r_17, mapO (Value.int .i64) Value.bool s), (b_5, .cells (encP p).toArray 53 (0, 0)), (r_10, mapO (Value.int .i64) refV m)] = loc' ∧ SetQ s (fun x => Seen sn seen x || (decide (y = x) || (p.needs.take j).any fun n => n == x || onF (ps.take k) n x)) ∧ seen.Nodup ∧ ∀ i ∈ seen, i < sn.length) _ _ _ _ ⟨[], _, rfl, rfl, rfl, rfl, (hs.put y).congr (fun x => by rw [seen_nil, Bool.false_or]), .nil, fun i h => by cases h⟩ (.cons rfl (.cons rfl (.cons rfl (.cons rfl (.cons rfl (.cons rfl (.cons rfl (.cons rfl (.cons rfl (.cons rfl .nil)))))))))) (HLe.refl _) rfl ?_
      rintro mz E I' loc' ⟨seen, s, rfl, rfl, rfl, rfl, hs, hnd2, hlt⟩
      have hsl := seen_lt hnd2 hlt
      refine X_seq ?_
      refine X_region ?_
      refine XO_next2 (ek := Value.int .i64) (ev := Value.bool) (m := sn) (fun s' => [(b_30, iterO ref sn.length s'), (r_17, mapO (Value.int .i64) Value.bool s), (b_5, .cells (encP p).toArray 53 (0, 0)), (r_10, mapO (Value.int .i64) refV m)]) rfl (fun s' => .here) rfl rfl rfl rfl rfl (.inl hsn) (by simp) ?_
      intro t tv s' hno hyes
      refine XO_nil ?_
      refine at_then ?_
      refine X_seq ?_
      refine X_cond rfl (fun hc32 => ?_) (fun hc32 => ?_)
      · skip
        obtain ⟨i, q, hq, hns, rfl⟩ := hyes hc32
        refine X_skip ?_
        refine at_then ?_
        refine X_block ?_
        refine X_seq ?_
        refine X_region ?_
        refine XO_v0 (ev_entry (ek := Value.int .i64) (ev := Value.bool) (m := sn) (p := q) (seen := seen) (i := i) rfl (.inl hsn) (.inr (by simp)) hq) rfl rfl rfl ?_
        refine XO_v0 (ev_extract rfl rfl) rfl rfl rfl ?_
        refine XO_v0 (ev_assign rfl) rfl rfl rfl ?_
        refine XO_nil ?_
        refine at_then ?_
        refine X_region ?_
        refine XO_v0 (ev_move rfl) rfl rfl rfl ?_
        refine XO_v0 (ev_move rfl) rfl rfl rfl ?_
        refine XO_mapUpdate (m := s) (ek := Value.int .i64) (ev := Value.bool) (a := q.1) true mpt_71 key_3 rfl rfl rfl rfl (by first | exact Upd.u0 | exact Upd.u1 | exact Upd.u2 | exact Upd.u3 | exact Upd.u4 | exact Upd.u5 | (repeat (first | exact Upd.here | apply Upd.there | apply upd_app))) ?_
        refine XO_nil ?_
        refine at_block_n ?_
        have hnd3 : (seen ++ [i]).Nodup := List.nodup_append.2 ⟨hnd2, by simp, fun a ha b hb e => hns (by simp at hb; subst hb; subst e; exact ha)⟩
        have hlt3 : ∀ j ∈ seen ++ [i], j < sn.length := fun j hj => (List.mem_append.1 hj).elim (hlt j) (fun h => by simp at h; subst h; exact (List.getElem?_eq_some_iff.1 hq).1)
        have hsl2 := seen_lt hnd3 hlt3
        rw [List.length_append, List.length_singleton] at hsl2
        exact at_met2 _ _ ⟨sn.length - (seen ++ [i]).length, by rw [List.length_append, List.length_singleton]; omega, seen ++ [i], _, rfl, rfl, rfl, rfl, (hs.put q.1).congr (fun x => by rw [seen_snoc hq, Bool.or_assoc]), hnd3, hlt3⟩ (.cons rfl (.cons rfl (.cons rfl (.cons rfl (.cons rfl (.cons rfl (.cons rfl (.cons rfl (.cons rfl (.cons rfl .nil)))))))))) (by repeat (first | exact .refl | exact subL_left | refine subL_app ?_ | refine .drop ?_ | refine subL_add ?_))
      · skip
        obtain ⟨rfl, hall⟩ := hno hc32
        refine X_exit ?_
        refine at_then_e ?_
        refine at_then_e ?_
        refine at_block_hit ?_
        refine at_block_n ?_
        refine at_then ?_
        refine X_region ?_
        refine XO_v0 (ev_arB rfl rfl rfl (fun _ => by omega)) rfl rfl rfl ?_
        refine XO_v0 (ev_move rfl) rfl rfl rfl ?_
        refine XO_nil ?_
        exact at_met2 _ _ ⟨p.n - (j + 1), by omega, j + 1, _, rfl, rfl, rfl, rfl, by omega, hs.congr (fun x => by rw [any_take hy, seen_all hsq hall x]; rw [Bool.eq_iff_iff]; simp; grind)⟩ (.cons rfl (.cons rfl (.cons rfl (.cons rfl (.cons rfl (.cons rfl (.cons rfl (.cons rfl (.cons rfl .nil))))))))) (by repeat (first | exact .refl | exact subL_left | refine subL_app ?_ | refine .drop ?_ | refine subL_add ?_))
    · skip
      have hge_j : p.n ≤ j := by have h := hc22; simp at h; omega
      refine X_exit ?_
      refine at_then_e ?_
      refine at_then_e ?_
      refine at_block_hit ?_
      refine at_then ?_
      refine X_freeze .here (fun I4 hI4 hb4 => ?_)
      have hP := hP.mono hI4
      have hm := hm.mono hI4
      have hIc := hIc.trans hI4
      have hB0 := hB0.trans hI4
      have hbx := hb4
      refine X_region ?_
      refine XO_v0 (ev_move rfl) rfl rfl rfl ?_
      refine XO_v0 (ev_fieldAddr rfl fld_53_0) rfl rfl rfl ?_
      refine XO_v0 (ev_load rfl sct_3 (fun hg => by first | exact Sl.get0 hN hy rfl | exact Cell.h0 rfl | exact Cell.h1 rfl | exact Cell.h2 rfl | exact Cell.h3 rfl | exact Cell.h4 rfl | exact Cell.h5 rfl | (repeat (first | exact Cell.here rfl | apply Cell.there | apply Cell.app)))) rfl rfl rfl ?_
      refine XO_v0 (ev_move rfl) rfl rfl rfl ?_
      refine XO_mapUpdate (m := m) (ek := Value.int .i64) (ev := refV) (a := p.id) r_17 mpt_74 key_3 rfl rfl rfl rfl (by first | exact Upd.u0 | exact Upd.u1 | exact Upd.u2 | exact Upd.u3 | exact Upd.u4 | exact Upd.u5 | (repeat (first | exact Upd.here | apply Upd.there | apply upd_app))) ?_
      refine XO_nil ?_
      refine at_block_n ?_
      refine at_then ?_
      refine X_region ?_
      refine XO_v0 (ev_arB rfl rfl rfl (fun _ => by omega)) rfl rfl rfl ?_
      refine XO_v0 (ev_move rfl) rfl rfl rfl ?_
      refine XO_nil ?_
      exact at_met2 _ _ ⟨n - (k + 1), by omega, k + 1, _, rfl, rfl, hB0, rfl, by omega, OnL.step hL hp hm hbx (by rw [take_all hN.len hge_j] at hs; exact hs)⟩ (.cons rfl (.cons rfl (.cons rfl (.cons rfl .nil)))) (by repeat (first | exact .refl | exact subL_left | refine subL_app ?_ | refine .drop ?_ | refine subL_add ?_))
  · skip
    have hge_k : n ≤ k := by have h := hc14; simp at h; omega
    rw [take_all hP.len hge_k] at hm
    refine X_exit ?_
    refine at_then_e ?_
    refine at_then_e ?_
    refine at_block_hit ?_
    refine at_then ?_
    refine X_seq ?_
    refine X_region ?_
    refine XO_v0 (ev_move rfl) rfl rfl rfl ?_
    refine XO_v0 (ev_assign rfl) rfl rfl rfl ?_
    refine XO_nil ?_
    refine at_then ?_
    refine X_ret ?_
    exact at_ret1 rfl rfl (fun w hw => by obtain ⟨I9, h91, h92, h93⟩ := hw.freezeAll; exact ⟨_, I9, [], rfl, hIc.trans h91, h92, rfl, r_10, rfl, m, h93 _ _ (by simp), hm.mono h91⟩)
end Go.Proofs.YtccomeanpppfmaaGreat
end
section
namespace Go.Proofs.YtccomeanpppfmaaGreat
open Go Go.Kn Go.Proofs
theorem chk_one (x : Sg) : (chkG [x] == 0) = frm x := by
  unfold chkG skB skP
  cases h : frm x <;> simp [h]
theorem and_k1 (a b c d x y : Bool) : (((((a && b) && c) && d) && x) && y) = (((a && b) && (c && d)) && (x && y)) := by simp only [Bool.and_assoc]
theorem and_k2 (a b c d x y z : Bool) : ((((((a && b) && c) && d) && x) && y) && z) = (((a && b) && (c && d)) && (x && (y && z))) := by simp only [Bool.and_assoc]
theorem w_form (I : HMap) (x : Sg) : RetV Tryz.prog 75 [encGA x] I (.bool (frm x)) := by
  intro g H w hw
  refine enter Tryz.func75 rfl Tryz.ntmps75 rfl hw ?_
  have hIc := HLe.refl I
  refine X_seq ?_
  refine X_region ?_
  refine XO_box rfl rfl rfl (fun b_1 => ?_)
  refine XO_v0 (ev_assign rfl) rfl rfl rfl ?_
  refine XO_nil ?_
  refine at_then ?_
  refine X_seq ?_
  refine X_region ?_
  refine XO_v0 (ev_loadA rfl agt_45 (fun hg => by first | exact Cells.g0 | exact Cells.g1 | exact Cells.g2 | exact Cells.g3 | exact Cells.g4 | exact Cells.g5 | exact Cells.s0 (vs := [_, _, _, _, _, _, _, _, _, _, _, _, _, _]) rfl | exact Cells.s1 (vs := [_, _, _, _, _, _, _, _, _, _, _, _, _, _]) rfl | exact Cells.s2 (vs := [_, _, _, _, _, _, _, _, _, _, _, _, _, _]) rfl | exact Cells.s3 (vs := [_, _, _, _, _, _, _, _, _, _, _, _, _, _]) rfl | exact Cells.s4 (vs := [_, _, _, _, _, _, _, _, _, _, _, _, _, _]) rfl | exact Cells.s5 (vs := [_, _, _, _, _, _, _, _, _, _, _, _, _, _]) rfl | (repeat (first | exact Cells.here | apply Cells.there | apply Cells.app))) rfl) rfl rfl rfl ?_
  refine XO_buildSlice (ps := [(0, _)]) (m := [encG x]) elt_33 rfl (.cons rfl (.nil)) rfl (by simp [encG_len]) (by decide) (by decide) rfl rfl (fun b_4 => ?_)
  refine XO_freeze .here (fun I1 hI1 hb1 => ?_)
  have hIc := hIc.trans hI1
  have hS := Sl.lit [x] rfl encG_len (show _ = some (Obj.cells (([x] : List Sg).flatMap encG).toArray 45 (0, 0)) from hb1)
  refine XO_callV0 (cap := []) (vs := [_]) rfl rfl fun_58 (w_chkG hS (by decide)) rfl rfl ?_
  refine XO_v0 (ev_cmp rfl rfl rfl) rfl rfl rfl ?_
  refine XO_v0 (ev_assign rfl) rfl rfl rfl ?_
  refine XO_nil ?_
  refine at_then ?_
  refine X_ret ?_
  exact at_ret1 rfl rfl (fun w hw => ⟨by rw [chk_one], (hw.mono hIc).drop⟩)
theorem w_pchk {I : HMap} (p : Pt) (hN : Nd I p) : RetV Tryz.prog 35 [encPA p] I (.int .i64 (pchk p)) := by
  intro g H w hw
  refine enter Tryz.func35 rfl Tryz.ntmps35 rfl hw ?_
  have hN : Sl I 1 encI p.a p.n p.c p.needs := hN
  refine X_seq ?_
  refine X_region ?_
  refine XO_box rfl rfl rfl (fun b_1 => ?_)
  refine XO_v0 (ev_assign rfl) rfl rfl rfl ?_
  refine XO_nil ?_
  refine at_then ?_
  refine X_seq ?_
  refine X_seq ?_
  refine X_region ?_
  refine XO_v0 (ev_fieldAddr rfl fld_53_5) rfl rfl rfl ?_
  refine XO_v0 (ev_load rfl sct_23 (fun hg => by first | exact Sl.get0 hN hx rfl | exact Cell.h0 rfl | exact Cell.h1 rfl | exact Cell.h2 rfl | exact Cell.h3 rfl | exact Cell.h4 rfl | exact Cell.h5 rfl | (repeat (first | exact Cell.here rfl | apply Cell.there | apply Cell.app)))) rfl rfl rfl ?_
  refine XO_v0 (ev_lenS rfl slt_23) rfl rfl rfl ?_
  refine XO_v0 (ev_cmp rfl rfl rfl) rfl rfl rfl ?_
  refine XO_nil ?_
  refine at_then ?_
  refine X_cond rfl (fun hc11 => ?_) (fun hc11 => ?_)
  · skip
    have hlen : p.needs.length > 32 := by rw [hN.len]; simp at hc11; omega
    refine X_seq ?_
    refine X_region ?_
    refine XO_v0 (ev_assign rfl) rfl rfl rfl ?_
    refine XO_nil ?_
    refine at_then ?_
    refine X_ret ?_
    refine at_then_r ?_
    first
    | exact at_ret1 rfl rfl (fun w hw => ⟨by rw [pchk_1 hlen], hw.drop⟩)
    | exact at_ret1 rfl rfl (fun w hw => ⟨by rw [pchk_2 hlen hnd], hw.drop⟩)
    | exact at_ret1 rfl rfl (fun w hw => ⟨by rw [pchk_3 hlen hnd hb], hw.drop⟩)
    | exact at_ret1 rfl rfl (fun w hw => ⟨by rw [pchk_4 hlen hnd hb], hw.drop⟩)
  · skip
    have hlen : ¬ p.needs.length > 32 := by rw [hN.len]; simp at hc11; omega
    have hpn : p.n ≤ 100000 := by have := hN.len; omega
    refine X_skip ?_
    refine at_then ?_
    refine X_seq ?_
    refine X_region ?_
    refine XO_v0 (ev_assign rfl) rfl rfl rfl ?_
    refine XO_nil ?_
    refine at_then ?_
    refine X_seq ?_
    refine X_seq ?_
    refine X_region ?_
    refine XO_v0 (ev_fieldAddr rfl fld_53_5) rfl rfl rfl ?_
    refine XO_v0 (ev_load rfl sct_23 (fun hg => by first | exact Sl.get0 hN hx rfl | exact Cell.h0 rfl | exact Cell.h1 rfl | exact Cell.h2 rfl | exact Cell.h3 rfl | exact Cell.h4 rfl | exact Cell.h5 rfl | (repeat (first | exact Cell.here rfl | apply Cell.there | apply Cell.app)))) rfl rfl rfl ?_
    refine XO_v0 (ev_lenS rfl slt_23) rfl rfl rfl ?_
    refine XO_v0 (ev_move rfl) rfl rfl rfl ?_
    refine XO_nil ?_
    refine at_then ?_
    refine X_block ?_
    refine X_loopT [(1, _), (13, _), (14, _)] (.cons rfl (.cons rfl (.cons rfl .nil))) (fun T L0 mz E I' loc' => ∃ (k : Nat) (l : Int), mz = p.n - k ∧ E = (3, .int .i64 l) :: (15, .int .i64 k) :: T ∧ I = I' ∧ L0 = loc' ∧ k ≤ p.n ∧ (List.range k).all (ndP p.id p.needs) = true ∧ lastI p.needs k l) _ _ _ _ ⟨0, 0, rfl, rfl, rfl, rfl, Nat.zero_le _, rfl, ⟨fun _ => rfl, fun y hy h => absurd rfl h⟩⟩ (.cons rfl (.cons rfl (.cons rfl (.cons rfl (.cons rfl .nil))))) (HLe.refl _) rfl ?_
    rintro mz E I' loc' ⟨k, l, rfl, rfl, rfl, rfl, hk, hall, hl⟩
    refine X_seq ?_
    refine X_region ?_
    refine XO_v0 (ev_cmp rfl rfl rfl) rfl rfl rfl ?_
    refine XO_nil ?_
    refine at_then ?_
    refine X_seq ?_
    refine X_cond rfl (fun hc16 => ?_) (fun hc16 => ?_)
    · skip
      have hlt_k : k < p.n := by have h := hc16; simp at h; omega
      obtain ⟨x, hx⟩ := hN.at hlt_k
      refine X_skip ?_
      refine at_then ?_
      refine X_seq ?_
      refine X_block ?_
      refine X_seq ?_
      refine X_region ?_
      refine XO_v0 (ev_indexSl rfl rfl slt_23 (by assumption) (fun hg => by first | omega | (simp [conj] at hg; omega))) rfl rfl rfl ?_
      refine XO_v0 (ev_load rfl sct_3 (fun hg => by first | exact Sl.get0 hN hx rfl | exact Cell.h0 rfl | exact Cell.h1 rfl | exact Cell.h2 rfl | exact Cell.h3 rfl | exact Cell.h4 rfl | exact Cell.h5 rfl | (repeat (first | exact Cell.here rfl | apply Cell.there | apply Cell.app)))) rfl rfl rfl ?_
      refine XO_v0 (ev_assign rfl) rfl rfl rfl ?_
      refine XO_nil ?_
      refine at_then ?_
      refine X_seq ?_
      refine X_seq ?_
      refine X_region ?_
      refine XO_v0 (ev_move rfl) rfl rfl rfl ?_
      refine XO_v0 (ev_move rfl) rfl rfl rfl ?_
      refine XO_v0 (ev_cmp rfl rfl rfl) rfl rfl rfl ?_
      refine XO_v0 (ev_move rfl) rfl rfl rfl ?_
      refine XO_pushF 3 rfl rfl rfl ?_
      refine XO_v1 (ev_move rfl) (.some rfl rfl rfl rfl gbf) rfl rfl rfl ?_
      refine XO_v1 (ev_fieldAddr rfl fld_53_0) (.some rfl rfl rfl rfl gbf) rfl rfl rfl ?_
      refine XO_v1 (ev_load rfl sct_3 (fun hg => by first | exact Sl.get0 hN hx rfl | exact Cell.h0 rfl | exact Cell.h1 rfl | exact Cell.h2 rfl | exact Cell.h3 rfl | exact Cell.h4 rfl | exact Cell.h5 rfl | (repeat (first | exact Cell.here rfl | apply Cell.there | apply Cell.app)))) (.some rfl rfl rfl rfl gbf) rfl rfl rfl ?_
      refine XO_v1 (ev_cmp rfl rfl rfl) (.some rfl rfl rfl rfl gbf) rfl rfl rfl ?_
      refine XO_or0 rfl rfl rfl rfl rfl ?_
      refine XO_nil ?_
      refine at_then ?_
      refine X_cond rfl (fun hc27 => ?_) (fun hc27 => ?_)
      · skip
        have hnd : ndB p.id p.needs = false := by unfold ndB; exact range_bad (k := k) (by rw [hN.len]; exact hlt_k) (by rw [nd_at hall hl hx, hc27]; rfl)
        refine X_seq ?_
        refine X_region ?_
        refine XO_v0 (ev_assign rfl) rfl rfl rfl ?_
        refine XO_nil ?_
        refine at_then ?_
        refine X_ret ?_
        refine at_then_r ?_
        refine at_block_r ?_
        refine at_then_r ?_
        refine at_then_r ?_
        refine at_block_r ?_
        refine at_then_r ?_
        first
        | exact at_ret1 rfl rfl (fun w hw => ⟨by rw [pchk_1 hlen], hw.drop⟩)
        | exact at_ret1 rfl rfl (fun w hw => ⟨by rw [pchk_2 hlen hnd], hw.drop⟩)
        | exact at_ret1 rfl rfl (fun w hw => ⟨by rw [pchk_3 hlen hnd hb], hw.drop⟩)
        | exact at_ret1 rfl rfl (fun w hw => ⟨by rw [pchk_4 hlen hnd hb], hw.drop⟩)
      · skip
        refine X_skip ?_
        refine at_then ?_
        refine X_region ?_
        refine XO_v0 (ev_move rfl) rfl rfl rfl ?_
        refine XO_v0 (ev_assign rfl) rfl rfl rfl ?_
        refine XO_nil ?_
        refine at_block_n ?_
        refine at_then ?_
        refine X_region ?_
        refine XO_v0 (ev_arB rfl rfl rfl (fun _ => by omega)) rfl rfl rfl ?_
        refine XO_v0 (ev_move rfl) rfl rfl rfl ?_
        refine XO_nil ?_
        exact at_met2 _ _ ⟨p.n - (k + 1), by omega, k + 1, _, rfl, rfl, rfl, rfl, by omega, range_step hall (by rw [nd_at hall hl hx, hc27]; rfl), lastI_step hx⟩ (.cons rfl (.cons rfl (.cons rfl (.cons rfl (.cons rfl .nil))))) (by repeat (first | exact .refl | exact subL_left | refine subL_app ?_ | refine .drop ?_ | refine subL_add ?_))
    · skip
      have hge_k : p.n ≤ k := by have h := hc16; simp at h; omega
      have hnd : ndB p.id p.needs = true := by unfold ndB; rw [hN.len, show p.n = k by omega]; exact hall
      refine X_exit ?_
      refine at_then_e ?_
      refine at_then_e ?_
      refine at_block_hit ?_
      refine at_then ?_
      refine X_seq ?_
      refine X_region ?_
      refine XO_v0 (ev_fieldAddr rfl fld_53_0) rfl rfl rfl ?_
      refine XO_v0 (ev_load rfl sct_3 (fun hg => by first | exact Sl.get0 hN hx rfl | exact Cell.h0 rfl | exact Cell.h1 rfl | exact Cell.h2 rfl | exact Cell.h3 rfl | exact Cell.h4 rfl | exact Cell.h5 rfl | (repeat (first | exact Cell.here rfl | apply Cell.there | apply Cell.app)))) rfl rfl rfl ?_
      refine XO_v0 (ev_cmp rfl rfl rfl) rfl rfl rfl ?_
      refine XO_v0 (ev_move rfl) rfl rfl rfl ?_
      refine XO_pushT 3 rfl rfl rfl ?_
      refine XO_v1 (ev_fieldAddr rfl fld_53_0) (.some rfl rfl rfl rfl gbt) rfl rfl rfl ?_
      refine XO_v1 (ev_load rfl sct_3 (fun hg => by first | exact Sl.get0 hN hx rfl | exact Cell.h0 rfl | exact Cell.h1 rfl | exact Cell.h2 rfl | exact Cell.h3 rfl | exact Cell.h4 rfl | exact Cell.h5 rfl | (repeat (first | exact Cell.here rfl | apply Cell.there | apply Cell.app)))) (.some rfl rfl rfl rfl gbt) rfl rfl rfl ?_
      refine XO_v1 (ev_cmp rfl rfl rfl) (.some rfl rfl rfl rfl gbt) rfl rfl rfl ?_
      refine XO_and0 rfl rfl rfl rfl rfl ?_
      refine XO_v0 (ev_move rfl) rfl rfl rfl ?_
      refine XO_pushT 8 rfl rfl rfl ?_
      refine XO_v1 (ev_fieldAddr rfl fld_53_2) (.some rfl rfl rfl rfl gbt) rfl rfl rfl ?_
      refine XO_v1 (ev_load rfl sct_3 (fun hg => by first | exact Sl.get0 hN hx rfl | exact Cell.h0 rfl | exact Cell.h1 rfl | exact Cell.h2 rfl | exact Cell.h3 rfl | exact Cell.h4 rfl | exact Cell.h5 rfl | (repeat (first | exact Cell.here rfl | apply Cell.there | apply Cell.app)))) (.some rfl rfl rfl rfl gbt) rfl rfl rfl ?_
      refine XO_v1 (ev_cmp rfl rfl rfl) (.some rfl rfl rfl rfl gbt) rfl rfl rfl ?_
      refine XO_and0 rfl rfl rfl rfl rfl ?_
      refine XO_v0 (ev_move rfl) rfl rfl rfl ?_
      refine XO_pushT 13 rfl rfl rfl ?_
      refine XO_v1 (ev_fieldAddr rfl fld_53_2) (.some rfl rfl rfl rfl gbt) rfl rfl rfl ?_
      refine XO_v1 (ev_load rfl sct_3 (fun hg => by first | exact Sl.get0 hN hx rfl | exact Cell.h0 rfl | exact Cell.h1 rfl | exact Cell.h2 rfl | exact Cell.h3 rfl | exact Cell.h4 rfl | exact Cell.h5 rfl | (repeat (first | exact Cell.here rfl | apply Cell.there | apply Cell.app)))) (.some rfl rfl rfl rfl gbt) rfl rfl rfl ?_
      refine XO_v1 (ev_cmp rfl rfl rfl) (.some rfl rfl rfl rfl gbt) rfl rfl rfl ?_
      refine XO_and0 rfl rfl rfl rfl rfl ?_
      refine XO_v0 (ev_assign rfl) rfl rfl rfl ?_
      refine XO_nil ?_
      refine at_then ?_
      refine X_seq ?_
      refine X_seq ?_
      refine X_region ?_
      refine XO_v0 (ev_fieldAddr rfl fld_53_1) rfl rfl rfl ?_
      refine XO_v0 (ev_load rfl sct_3 (fun hg => by first | exact Sl.get0 hN hx rfl | exact Cell.h0 rfl | exact Cell.h1 rfl | exact Cell.h2 rfl | exact Cell.h3 rfl | exact Cell.h4 rfl | exact Cell.h5 rfl | (repeat (first | exact Cell.here rfl | apply Cell.there | apply Cell.app)))) rfl rfl rfl ?_
      refine XO_nil ?_
      refine at_then ?_
      refine X_block ?_
      refine X_seq ?_
      refine X_region ?_
      refine XO_v0 (ev_cmp rfl rfl rfl) rfl rfl rfl ?_
      refine XO_v0 (ev_assign rfl) rfl rfl rfl ?_
      refine XO_nil ?_
      refine at_then ?_
      refine X_cond rfl (fun hc50 => ?_) (fun hc50 => ?_)
      · skip
        have hk : p.kind = 1 := by simpa using hc50
        refine X_seq ?_
        refine X_seq ?_
        refine X_region ?_
        refine XO_v0 (ev_fieldAddr rfl fld_53_3) rfl rfl rfl ?_
        refine XO_v0 (ev_load rfl sct_3 (fun hg => by first | exact Sl.get0 hN hx rfl | exact Cell.h0 rfl | exact Cell.h1 rfl | exact Cell.h2 rfl | exact Cell.h3 rfl | exact Cell.h4 rfl | exact Cell.h5 rfl | (repeat (first | exact Cell.here rfl | apply Cell.there | apply Cell.app)))) rfl rfl rfl ?_
        refine XO_v0 (ev_cmp rfl rfl rfl) rfl rfl rfl ?_
        refine XO_v0 (ev_move rfl) rfl rfl rfl ?_
        refine XO_pushF 3 rfl rfl rfl ?_
        refine XO_v1 (ev_fieldAddr rfl fld_53_3) (.some rfl rfl rfl rfl gbf) rfl rfl rfl ?_
        refine XO_v1 (ev_load rfl sct_3 (fun hg => by first | exact Sl.get0 hN hx rfl | exact Cell.h0 rfl | exact Cell.h1 rfl | exact Cell.h2 rfl | exact Cell.h3 rfl | exact Cell.h4 rfl | exact Cell.h5 rfl | (repeat (first | exact Cell.here rfl | apply Cell.there | apply Cell.app)))) (.some rfl rfl rfl rfl gbf) rfl rfl rfl ?_
        refine XO_v1 (ev_cmp rfl rfl rfl) (.some rfl rfl rfl rfl gbf) rfl rfl rfl ?_
        refine XO_or0 rfl rfl rfl rfl rfl ?_
        refine XO_nil ?_
        refine at_then ?_
        refine X_cond rfl (fun hc59 => ?_) (fun hc59 => ?_)
        · skip
          have hb : (idB p && kndB p) = false := knd_1n hk (by unfold within; simp at hc59 ⊢; omega)
          refine X_seq ?_
          refine X_region ?_
          refine XO_v0 (ev_assign rfl) rfl rfl rfl ?_
          refine XO_nil ?_
          refine at_then ?_
          refine X_ret ?_
          refine at_then_r ?_
          refine at_block_r ?_
          refine at_then_r ?_
          first
          | exact at_ret1 rfl rfl (fun w hw => ⟨by rw [pchk_1 hlen], hw.drop⟩)
          | exact at_ret1 rfl rfl (fun w hw => ⟨by rw [pchk_2 hlen hnd], hw.drop⟩)
          | exact at_ret1 rfl rfl (fun w hw => ⟨by rw [pchk_3 hlen hnd hb], hw.drop⟩)
          | exact at_ret1 rfl rfl (fun w hw => ⟨by rw [pchk_4 hlen hnd hb], hw.drop⟩)
        · skip
          have hf : isF p.field := by have h := hc59; unfold isF; simp at h; omega
          have hw1 : within p.field 1 9 = true := by have h := hc59; unfold within; simp at h ⊢; omega
          refine X_skip ?_
          refine at_then ?_
          refine X_seq ?_
          refine X_region ?_
          refine XO_v0 (ev_buildL (ps := [(1, _)]) [_, _] plt_43 rfl rfl) rfl rfl rfl ?_
          refine XO_v0 (ev_buildL (ps := [(0, _), (1, _)]) [_, _] plt_43 rfl rfl) rfl rfl rfl ?_
          refine XO_v0 (ev_buildL (ps := [(3, _), (4, _), (10, _), (11, _)]) [_, _, _, _, _, _, _, _, _, _, _, _, _, _] plt_45 rfl rfl) rfl rfl rfl ?_
          refine XO_alloc zt_45 rfl rfl (fun b_7 => ?_)
          refine XO_storeA rfl rfl szt_45 rfl rfl rfl rfl (by first | exact Upd.u0 | exact Upd.u1 | exact Upd.u2 | exact Upd.u3 | exact Upd.u4 | exact Upd.u5 | (repeat (first | exact Upd.here | apply Upd.there | apply upd_app))) ?_
          refine XO_nil ?_
          refine at_then ?_
          refine X_region ?_
          refine XO_v0 (ev_move rfl) rfl rfl rfl ?_
          refine XO_v0 (ev_move rfl) rfl rfl rfl ?_
          refine XO_pushT 1 rfl rfl rfl ?_
          refine XO_v1 (ev_fieldAddr rfl fld_53_4) (.some rfl rfl rfl rfl gbt) rfl rfl rfl ?_
          refine XO_v1 (ev_loadA rfl agt_45 (fun hg => by first | exact Cells.g0 | exact Cells.g1 | exact Cells.g2 | exact Cells.g3 | exact Cells.g4 | exact Cells.g5 | exact Cells.s0 (vs := [_, _, _, _, _, _, _, _, _, _, _, _, _, _]) rfl | exact Cells.s1 (vs := [_, _, _, _, _, _, _, _, _, _, _, _, _, _]) rfl | exact Cells.s2 (vs := [_, _, _, _, _, _, _, _, _, _, _, _, _, _]) rfl | exact Cells.s3 (vs := [_, _, _, _, _, _, _, _, _, _, _, _, _, _]) rfl | exact Cells.s4 (vs := [_, _, _, _, _, _, _, _, _, _, _, _, _, _]) rfl | exact Cells.s5 (vs := [_, _, _, _, _, _, _, _, _, _, _, _, _, _]) rfl | (repeat (first | exact Cells.here | apply Cells.there | apply Cells.app))) rfl) (.some rfl rfl rfl rfl gbt) rfl rfl rfl ?_
          refine XO_v1 (ev_fieldAddr rfl fld_53_3) (.some rfl rfl rfl rfl gbt) rfl rfl rfl ?_
          refine XO_v1 (ev_load rfl sct_3 (fun hg => by first | exact Sl.get0 hN hx rfl | exact Cell.h0 rfl | exact Cell.h1 rfl | exact Cell.h2 rfl | exact Cell.h3 rfl | exact Cell.h4 rfl | exact Cell.h5 rfl | (repeat (first | exact Cell.here rfl | apply Cell.there | apply Cell.app)))) (.some rfl rfl rfl rfl gbt) rfl rfl rfl ?_
          refine XO_v1 (ev_buildL (ps := []) [_, _, _, _, _, _, _, _, _, _, _, _, _, _] plt_45 rfl rfl) (.some rfl rfl rfl rfl gbt) rfl rfl rfl ?_
          refine XO_callV1 (cap := []) (vs := [_, _, _]) rfl rfl fun_74 (fun hg => w_set I p.nw p.field zeroG hf) (.some rfl rfl rfl rfl gbt) rfl rfl ?_
          refine XO_v1 (ev_buildL (ps := []) [_, _, _, _, _, _, _, _, _, _, _, _, _, _] plt_45 rfl rfl) (.some rfl rfl rfl rfl gbt) rfl rfl rfl ?_
          refine XO_v1 (ev_eqS2 rfl rfl eqt2_45 rfl) (.some rfl rfl rfl rfl gbt) rfl rfl rfl ?_
          refine XO_and0 rfl rfl rfl rfl rfl ?_
          refine XO_v0 (ev_move rfl) rfl rfl rfl ?_
          refine XO_pushT 11 rfl rfl rfl ?_
          refine XO_v1 (ev_loadA rfl agt_45 (fun hg => by first | exact Cells.g0 | exact Cells.g1 | exact Cells.g2 | exact Cells.g3 | exact Cells.g4 | exact Cells.g5 | exact Cells.s0 (vs := [_, _, _, _, _, _, _, _, _, _, _, _, _, _]) rfl | exact Cells.s1 (vs := [_, _, _, _, _, _, _, _, _, _, _, _, _, _]) rfl | exact Cells.s2 (vs := [_, _, _, _, _, _, _, _, _, _, _, _, _, _]) rfl | exact Cells.s3 (vs := [_, _, _, _, _, _, _, _, _, _, _, _, _, _]) rfl | exact Cells.s4 (vs := [_, _, _, _, _, _, _, _, _, _, _, _, _, _]) rfl | exact Cells.s5 (vs := [_, _, _, _, _, _, _, _, _, _, _, _, _, _]) rfl | (repeat (first | exact Cells.here | apply Cells.there | apply Cells.app))) rfl) (.some rfl rfl rfl rfl gbt) rfl rfl rfl ?_
          refine XO_v1 (ev_fieldAddr rfl fld_53_3) (.some rfl rfl rfl rfl gbt) rfl rfl rfl ?_
          refine XO_v1 (ev_load rfl sct_3 (fun hg => by first | exact Sl.get0 hN hx rfl | exact Cell.h0 rfl | exact Cell.h1 rfl | exact Cell.h2 rfl | exact Cell.h3 rfl | exact Cell.h4 rfl | exact Cell.h5 rfl | (repeat (first | exact Cell.here rfl | apply Cell.there | apply Cell.app)))) (.some rfl rfl rfl rfl gbt) rfl rfl rfl ?_
          refine XO_v1 (ev_fieldAddr rfl fld_53_4) (.some rfl rfl rfl rfl gbt) rfl rfl rfl ?_
          refine XO_v1 (ev_loadA rfl agt_45 (fun hg => by first | exact Cells.g0 | exact Cells.g1 | exact Cells.g2 | exact Cells.g3 | exact Cells.g4 | exact Cells.g5 | exact Cells.s0 (vs := [_, _, _, _, _, _, _, _, _, _, _, _, _, _]) rfl | exact Cells.s1 (vs := [_, _, _, _, _, _, _, _, _, _, _, _, _, _]) rfl | exact Cells.s2 (vs := [_, _, _, _, _, _, _, _, _, _, _, _, _, _]) rfl | exact Cells.s3 (vs := [_, _, _, _, _, _, _, _, _, _, _, _, _, _]) rfl | exact Cells.s4 (vs := [_, _, _, _, _, _, _, _, _, _, _, _, _, _]) rfl | exact Cells.s5 (vs := [_, _, _, _, _, _, _, _, _, _, _, _, _, _]) rfl | (repeat (first | exact Cells.here | apply Cells.there | apply Cells.app))) rfl) (.some rfl rfl rfl rfl gbt) rfl rfl rfl ?_
          refine XO_callV1 (cap := []) (vs := [_, _, _]) rfl rfl fun_74 (fun hg => w_set I plainG p.field p.nw hf) (.some rfl rfl rfl rfl gbt) rfl rfl ?_
          refine XO_callV1 (cap := []) (vs := [_]) rfl rfl fun_75 (fun hg => w_form I _) (.some rfl rfl rfl rfl gbt) rfl rfl ?_
          refine XO_and0 rfl rfl rfl rfl rfl ?_
          refine XO_v0 (ev_assign rfl) rfl rfl rfl ?_
          refine XO_nil ?_
          refine at_block_n ?_
          refine at_then ?_
          refine X_seq ?_
          refine X_seq ?_
          refine X_region ?_
          refine XO_v0 (ev_move rfl) rfl rfl rfl ?_
          refine XO_v0 (ev_not rfl) rfl rfl rfl ?_
          refine XO_nil ?_
          refine at_then ?_
          refine X_cond rfl (fun hc119 => ?_) (fun hc119 => ?_)
          · skip
            have hb : (idB p && kndB p) = false := by first | (exact (show (idB p && kndB p) = false from by rw [knd_1 hk hw1]; exact (and_k1 _ _ _ _ _ _).symm.trans ((Bool.not_eq_true' _).mp hc119))) | (exact (show (idB p && kndB p) = false from by rw [knd_2 hk]; exact (and_k2 _ _ _ _ _ _ _).symm.trans ((Bool.not_eq_true' _).mp hc119))) | (exact (show (idB p && kndB p) = false from by rw [knd_3 hk]; exact (and_k1 _ _ _ _ _ _).symm.trans ((Bool.not_eq_true' _).mp hc119))) | exact knd_4 hk1 hk2 hk3
            refine X_seq ?_
            refine X_region ?_
            refine XO_v0 (ev_assign rfl) rfl rfl rfl ?_
            refine XO_nil ?_
            refine at_then ?_
            refine X_ret ?_
            refine at_then_r ?_
            first
            | exact at_ret1 rfl rfl (fun w hw => ⟨by rw [pchk_1 hlen], hw.drop⟩)
            | exact at_ret1 rfl rfl (fun w hw => ⟨by rw [pchk_2 hlen hnd], hw.drop⟩)
            | exact at_ret1 rfl rfl (fun w hw => ⟨by rw [pchk_3 hlen hnd hb], hw.drop⟩)
            | exact at_ret1 rfl rfl (fun w hw => ⟨by rw [pchk_4 hlen hnd hb], hw.drop⟩)
          · skip
            have hb : (idB p && kndB p) = true := by first | (exact (show (idB p && kndB p) = true from by rw [knd_1 hk hw1]; exact (and_k1 _ _ _ _ _ _).symm.trans ((Bool.not_eq_false' _).mp hc119))) | (exact (show (idB p && kndB p) = true from by rw [knd_2 hk]; exact (and_k2 _ _ _ _ _ _ _).symm.trans ((Bool.not_eq_false' _).mp hc119))) | (exact (show (idB p && kndB p) = true from by rw [knd_3 hk]; exact (and_k1 _ _ _ _ _ _).symm.trans ((Bool.not_eq_false' _).mp hc119))) | (exfalso; have h := hc119; simp at h)
            refine X_skip ?_
            refine at_then ?_
            refine X_seq ?_
            refine X_region ?_
            refine XO_v0 (ev_assign rfl) rfl rfl rfl ?_
            refine XO_nil ?_
            refine at_then ?_
            refine X_ret ?_
            first
            | exact at_ret1 rfl rfl (fun w hw => ⟨by rw [pchk_1 hlen], hw.drop⟩)
            | exact at_ret1 rfl rfl (fun w hw => ⟨by rw [pchk_2 hlen hnd], hw.drop⟩)
            | exact at_ret1 rfl rfl (fun w hw => ⟨by rw [pchk_3 hlen hnd hb], hw.drop⟩)
            | exact at_ret1 rfl rfl (fun w hw => ⟨by rw [pchk_4 hlen hnd hb], hw.drop⟩)
      · skip
        have hk1 : p.kind ≠ 1 := by simpa using hc50
        refine X_seq ?_
        refine X_region ?_
        refine XO_v0 (ev_cmp rfl rfl rfl) rfl rfl rfl ?_
        refine XO_v0 (ev_assign rfl) rfl rfl rfl ?_
        refine XO_nil ?_
        refine at_then ?_
        refine X_cond rfl (fun hc83 => ?_) (fun hc83 => ?_)
        · skip
          have hk : p.kind = 2 := by simpa using hc83
          refine X_region ?_
          refine XO_v0 (ev_move rfl) rfl rfl rfl ?_
          refine XO_v0 (ev_move rfl) rfl rfl rfl ?_
          refine XO_pushT 1 rfl rfl rfl ?_
          refine XO_v1 (ev_fieldAddr rfl fld_53_3) (.some rfl rfl rfl rfl gbt) rfl rfl rfl ?_
          refine XO_v1 (ev_load rfl sct_3 (fun hg => by first | exact Sl.get0 hN hx rfl | exact Cell.h0 rfl | exact Cell.h1 rfl | exact Cell.h2 rfl | exact Cell.h3 rfl | exact Cell.h4 rfl | exact Cell.h5 rfl | (repeat (first | exact Cell.here rfl | apply Cell.there | apply Cell.app)))) (.some rfl rfl rfl rfl gbt) rfl rfl rfl ?_
          refine XO_v1 (ev_cmp rfl rfl rfl) (.some rfl rfl rfl rfl gbt) rfl rfl rfl ?_
          refine XO_and0 rfl rfl rfl rfl rfl ?_
          refine XO_v0 (ev_move rfl) rfl rfl rfl ?_
          refine XO_pushT 6 rfl rfl rfl ?_
          refine XO_v1 (ev_fieldAddr rfl fld_53_4) (.some rfl rfl rfl rfl gbt) rfl rfl rfl ?_
          refine XO_v1 (ev_fieldAddr rfl fld_45_0) (.some rfl rfl rfl rfl gbt) rfl rfl rfl ?_
          refine XO_v1 (ev_load rfl sct_3 (fun hg => by first | exact Sl.get0 hN hx rfl | exact Cell.h0 rfl | exact Cell.h1 rfl | exact Cell.h2 rfl | exact Cell.h3 rfl | exact Cell.h4 rfl | exact Cell.h5 rfl | (repeat (first | exact Cell.here rfl | apply Cell.there | apply Cell.app)))) (.some rfl rfl rfl rfl gbt) rfl rfl rfl ?_
          refine XO_v1 (ev_fieldAddr rfl fld_53_2) (.some rfl rfl rfl rfl gbt) rfl rfl rfl ?_
          refine XO_v1 (ev_load rfl sct_3 (fun hg => by first | exact Sl.get0 hN hx rfl | exact Cell.h0 rfl | exact Cell.h1 rfl | exact Cell.h2 rfl | exact Cell.h3 rfl | exact Cell.h4 rfl | exact Cell.h5 rfl | (repeat (first | exact Cell.here rfl | apply Cell.there | apply Cell.app)))) (.some rfl rfl rfl rfl gbt) rfl rfl rfl ?_
          refine XO_v1 (ev_cmp rfl rfl rfl) (.some rfl rfl rfl rfl gbt) rfl rfl rfl ?_
          refine XO_and0 rfl rfl rfl rfl rfl ?_
          refine XO_v0 (ev_move rfl) rfl rfl rfl ?_
          refine XO_pushT 14 rfl rfl rfl ?_
          refine XO_v1 (ev_fieldAddr rfl fld_53_4) (.some rfl rfl rfl rfl gbt) rfl rfl rfl ?_
          refine XO_v1 (ev_loadA rfl agt_45 (fun hg => by first | exact Cells.g0 | exact Cells.g1 | exact Cells.g2 | exact Cells.g3 | exact Cells.g4 | exact Cells.g5 | exact Cells.s0 (vs := [_, _, _, _, _, _, _, _, _, _, _, _, _, _]) rfl | exact Cells.s1 (vs := [_, _, _, _, _, _, _, _, _, _, _, _, _, _]) rfl | exact Cells.s2 (vs := [_, _, _, _, _, _, _, _, _, _, _, _, _, _]) rfl | exact Cells.s3 (vs := [_, _, _, _, _, _, _, _, _, _, _, _, _, _]) rfl | exact Cells.s4 (vs := [_, _, _, _, _, _, _, _, _, _, _, _, _, _]) rfl | exact Cells.s5 (vs := [_, _, _, _, _, _, _, _, _, _, _, _, _, _]) rfl | (repeat (first | exact Cells.here | apply Cells.there | apply Cells.app))) rfl) (.some rfl rfl rfl rfl gbt) rfl rfl rfl ?_
          refine XO_callV1 (cap := []) (vs := [_]) rfl rfl fun_75 (fun hg => w_form I _) (.some rfl rfl rfl rfl gbt) rfl rfl ?_
          refine XO_and0 rfl rfl rfl rfl rfl ?_
          refine XO_v0 (ev_assign rfl) rfl rfl rfl ?_
          refine XO_nil ?_
          refine at_block_n ?_
          refine at_then ?_
          refine X_seq ?_
          refine X_seq ?_
          refine X_region ?_
          refine XO_v0 (ev_move rfl) rfl rfl rfl ?_
          refine XO_v0 (ev_not rfl) rfl rfl rfl ?_
          refine XO_nil ?_
          refine at_then ?_
          refine X_cond rfl (fun hc119 => ?_) (fun hc119 => ?_)
          · skip
            have hb : (idB p && kndB p) = false := by first | (exact (show (idB p && kndB p) = false from by rw [knd_1 hk hw1]; exact (and_k1 _ _ _ _ _ _).symm.trans ((Bool.not_eq_true' _).mp hc119))) | (exact (show (idB p && kndB p) = false from by rw [knd_2 hk]; exact (and_k2 _ _ _ _ _ _ _).symm.trans ((Bool.not_eq_true' _).mp hc119))) | (exact (show (idB p && kndB p) = false from by rw [knd_3 hk]; exact (and_k1 _ _ _ _ _ _).symm.trans ((Bool.not_eq_true' _).mp hc119))) | exact knd_4 hk1 hk2 hk3
            refine X_seq ?_
            refine X_region ?_
            refine XO_v0 (ev_assign rfl) rfl rfl rfl ?_
            refine XO_nil ?_
            refine at_then ?_
            refine X_ret ?_
            refine at_then_r ?_
            first
            | exact at_ret1 rfl rfl (fun w hw => ⟨by rw [pchk_1 hlen], hw.drop⟩)
            | exact at_ret1 rfl rfl (fun w hw => ⟨by rw [pchk_2 hlen hnd], hw.drop⟩)
            | exact at_ret1 rfl rfl (fun w hw => ⟨by rw [pchk_3 hlen hnd hb], hw.drop⟩)
            | exact at_ret1 rfl rfl (fun w hw => ⟨by rw [pchk_4 hlen hnd hb], hw.drop⟩)
          · skip
            have hb : (idB p && kndB p) = true := by first | (exact (show (idB p && kndB p) = true from by rw [knd_1 hk hw1]; exact (and_k1 _ _ _ _ _ _).symm.trans ((Bool.not_eq_false' _).mp hc119))) | (exact (show (idB p && kndB p) = true from by rw [knd_2 hk]; exact (and_k2 _ _ _ _ _ _ _).symm.trans ((Bool.not_eq_false' _).mp hc119))) | (exact (show (idB p && kndB p) = true from by rw [knd_3 hk]; exact (and_k1 _ _ _ _ _ _).symm.trans ((Bool.not_eq_false' _).mp hc119))) | (exfalso; have h := hc119; simp at h)
            refine X_skip ?_
            refine at_then ?_
            refine X_seq ?_
            refine X_region ?_
            refine XO_v0 (ev_assign rfl) rfl rfl rfl ?_
            refine XO_nil ?_
            refine at_then ?_
            refine X_ret ?_
            first
            | exact at_ret1 rfl rfl (fun w hw => ⟨by rw [pchk_1 hlen], hw.drop⟩)
            | exact at_ret1 rfl rfl (fun w hw => ⟨by rw [pchk_2 hlen hnd], hw.drop⟩)
            | exact at_ret1 rfl rfl (fun w hw => ⟨by rw [pchk_3 hlen hnd hb], hw.drop⟩)
            | exact at_ret1 rfl rfl (fun w hw => ⟨by rw [pchk_4 hlen hnd hb], hw.drop⟩)
        · skip
          have hk2 : p.kind ≠ 2 := by simpa using hc83
          refine X_seq ?_
          refine X_region ?_
          refine XO_v0 (ev_cmp rfl rfl rfl) rfl rfl rfl ?_
          refine XO_v0 (ev_assign rfl) rfl rfl rfl ?_
          refine XO_nil ?_
          refine at_then ?_
          refine X_cond rfl (fun hc104 => ?_) (fun hc104 => ?_)
          · skip
            have hk : p.kind = 3 := by simpa using hc104
            refine X_region ?_
            refine XO_v0 (ev_move rfl) rfl rfl rfl ?_
            refine XO_v0 (ev_move rfl) rfl rfl rfl ?_
            refine XO_pushT 1 rfl rfl rfl ?_
            refine XO_v1 (ev_fieldAddr rfl fld_53_3) (.some rfl rfl rfl rfl gbt) rfl rfl rfl ?_
            refine XO_v1 (ev_load rfl sct_3 (fun hg => by first | exact Sl.get0 hN hx rfl | exact Cell.h0 rfl | exact Cell.h1 rfl | exact Cell.h2 rfl | exact Cell.h3 rfl | exact Cell.h4 rfl | exact Cell.h5 rfl | (repeat (first | exact Cell.here rfl | apply Cell.there | apply Cell.app)))) (.some rfl rfl rfl rfl gbt) rfl rfl rfl ?_
            refine XO_v1 (ev_cmp rfl rfl rfl) (.some rfl rfl rfl rfl gbt) rfl rfl rfl ?_
            refine XO_and0 rfl rfl rfl rfl rfl ?_
            refine XO_v0 (ev_move rfl) rfl rfl rfl ?_
            refine XO_pushT 6 rfl rfl rfl ?_
            refine XO_v1 (ev_fieldAddr rfl fld_53_4) (.some rfl rfl rfl rfl gbt) rfl rfl rfl ?_
            refine XO_v1 (ev_loadA rfl agt_45 (fun hg => by first | exact Cells.g0 | exact Cells.g1 | exact Cells.g2 | exact Cells.g3 | exact Cells.g4 | exact Cells.g5 | exact Cells.s0 (vs := [_, _, _, _, _, _, _, _, _, _, _, _, _, _]) rfl | exact Cells.s1 (vs := [_, _, _, _, _, _, _, _, _, _, _, _, _, _]) rfl | exact Cells.s2 (vs := [_, _, _, _, _, _, _, _, _, _, _, _, _, _]) rfl | exact Cells.s3 (vs := [_, _, _, _, _, _, _, _, _, _, _, _, _, _]) rfl | exact Cells.s4 (vs := [_, _, _, _, _, _, _, _, _, _, _, _, _, _]) rfl | exact Cells.s5 (vs := [_, _, _, _, _, _, _, _, _, _, _, _, _, _]) rfl | (repeat (first | exact Cells.here | apply Cells.there | apply Cells.app))) rfl) (.some rfl rfl rfl rfl gbt) rfl rfl rfl ?_
            refine XO_v1 (ev_buildL (ps := []) [_, _, _, _, _, _, _, _, _, _, _, _, _, _] plt_45 rfl rfl) (.some rfl rfl rfl rfl gbt) rfl rfl rfl ?_
            refine XO_v1 (ev_eqS2 rfl rfl eqt2_45 rfl) (.some rfl rfl rfl rfl gbt) rfl rfl rfl ?_
            refine XO_and0 rfl rfl rfl rfl rfl ?_
            refine XO_v0 (ev_assign rfl) rfl rfl rfl ?_
            refine XO_nil ?_
            refine at_block_n ?_
            refine at_then ?_
            refine X_seq ?_
            refine X_seq ?_
            refine X_region ?_
            refine XO_v0 (ev_move rfl) rfl rfl rfl ?_
            refine XO_v0 (ev_not rfl) rfl rfl rfl ?_
            refine XO_nil ?_
            refine at_then ?_
            refine X_cond rfl (fun hc119 => ?_) (fun hc119 => ?_)
            · skip
              have hb : (idB p && kndB p) = false := by first | (exact (show (idB p && kndB p) = false from by rw [knd_1 hk hw1]; exact (and_k1 _ _ _ _ _ _).symm.trans ((Bool.not_eq_true' _).mp hc119))) | (exact (show (idB p && kndB p) = false from by rw [knd_2 hk]; exact (and_k2 _ _ _ _ _ _ _).symm.trans ((Bool.not_eq_true' _).mp hc119))) | (exact (show (idB p && kndB p) = false from by rw [knd_3 hk]; exact (and_k1 _ _ _ _ _ _).symm.trans ((Bool.not_eq_true' _).mp hc119))) | exact knd_4 hk1 hk2 hk3
              refine X_seq ?_
              refine X_region ?_
              refine XO_v0 (ev_assign rfl) rfl rfl rfl ?_
              refine XO_nil ?_
              refine at_then ?_
              refine X_ret ?_
              refine at_then_r ?_
              first
              | exact at_ret1 rfl rfl (fun w hw => ⟨by rw [pchk_1 hlen], hw.drop⟩)
              | exact at_ret1 rfl rfl (fun w hw => ⟨by rw [pchk_2 hlen hnd], hw.drop⟩)
              | exact at_ret1 rfl rfl (fun w hw => ⟨by rw [pchk_3 hlen hnd hb], hw.drop⟩)
              | exact at_ret1 rfl rfl (fun w hw => ⟨by rw [pchk_4 hlen hnd hb], hw.drop⟩)
            · skip
              have hb : (idB p && kndB p) = true := by first | (exact (show (idB p && kndB p) = true from by rw [knd_1 hk hw1]; exact (and_k1 _ _ _ _ _ _).symm.trans ((Bool.not_eq_false' _).mp hc119))) | (exact (show (idB p && kndB p) = true from by rw [knd_2 hk]; exact (and_k2 _ _ _ _ _ _ _).symm.trans ((Bool.not_eq_false' _).mp hc119))) | (exact (show (idB p && kndB p) = true from by rw [knd_3 hk]; exact (and_k1 _ _ _ _ _ _).symm.trans ((Bool.not_eq_false' _).mp hc119))) | (exfalso; have h := hc119; simp at h)
              refine X_skip ?_
              refine at_then ?_
              refine X_seq ?_
              refine X_region ?_
              refine XO_v0 (ev_assign rfl) rfl rfl rfl ?_
              refine XO_nil ?_
              refine at_then ?_
              refine X_ret ?_
              first
              | exact at_ret1 rfl rfl (fun w hw => ⟨by rw [pchk_1 hlen], hw.drop⟩)
              | exact at_ret1 rfl rfl (fun w hw => ⟨by rw [pchk_2 hlen hnd], hw.drop⟩)
              | exact at_ret1 rfl rfl (fun w hw => ⟨by rw [pchk_3 hlen hnd hb], hw.drop⟩)
              | exact at_ret1 rfl rfl (fun w hw => ⟨by rw [pchk_4 hlen hnd hb], hw.drop⟩)
          · skip
            have hk3 : p.kind ≠ 3 := by simpa using hc104
            refine X_region ?_
            refine XO_v0 (ev_assign rfl) rfl rfl rfl ?_
            refine XO_nil ?_
            refine at_block_n ?_
            refine at_then ?_
            refine X_seq ?_
            refine X_seq ?_
            refine X_region ?_
            refine XO_v0 (ev_move rfl) rfl rfl rfl ?_
            refine XO_v0 (ev_not rfl) rfl rfl rfl ?_
            refine XO_nil ?_
            refine at_then ?_
            refine X_cond rfl (fun hc119 => ?_) (fun hc119 => ?_)
            · skip
              have hb : (idB p && kndB p) = false := by first | (exact (show (idB p && kndB p) = false from by rw [knd_1 hk hw1]; exact (and_k1 _ _ _ _ _ _).symm.trans ((Bool.not_eq_true' _).mp hc119))) | (exact (show (idB p && kndB p) = false from by rw [knd_2 hk]; exact (and_k2 _ _ _ _ _ _ _).symm.trans ((Bool.not_eq_true' _).mp hc119))) | (exact (show (idB p && kndB p) = false from by rw [knd_3 hk]; exact (and_k1 _ _ _ _ _ _).symm.trans ((Bool.not_eq_true' _).mp hc119))) | exact knd_4 hk1 hk2 hk3
              refine X_seq ?_
              refine X_region ?_
              refine XO_v0 (ev_assign rfl) rfl rfl rfl ?_
              refine XO_nil ?_
              refine at_then ?_
              refine X_ret ?_
              refine at_then_r ?_
              first
              | exact at_ret1 rfl rfl (fun w hw => ⟨by rw [pchk_1 hlen], hw.drop⟩)
              | exact at_ret1 rfl rfl (fun w hw => ⟨by rw [pchk_2 hlen hnd], hw.drop⟩)
              | exact at_ret1 rfl rfl (fun w hw => ⟨by rw [pchk_3 hlen hnd hb], hw.drop⟩)
              | exact at_ret1 rfl rfl (fun w hw => ⟨by rw [pchk_4 hlen hnd hb], hw.drop⟩)
            · skip
              have hb : (idB p && kndB p) = true := by first | (exact (show (idB p && kndB p) = true from by rw [knd_1 hk hw1]; exact (and_k1 _ _ _ _ _ _).symm.trans ((Bool.not_eq_false' _).mp hc119))) | (exact (show (idB p && kndB p) = true from by rw [knd_2 hk]; exact (and_k2 _ _ _ _ _ _ _).symm.trans ((Bool.not_eq_false' _).mp hc119))) | (exact (show (idB p && kndB p) = true from by rw [knd_3 hk]; exact (and_k1 _ _ _ _ _ _).symm.trans ((Bool.not_eq_false' _).mp hc119))) | (exfalso; have h := hc119; simp at h)
              refine X_skip ?_
              refine at_then ?_
              refine X_seq ?_
              refine X_region ?_
              refine XO_v0 (ev_assign rfl) rfl rfl rfl ?_
              refine XO_nil ?_
              refine at_then ?_
              refine X_ret ?_
              first
              | exact at_ret1 rfl rfl (fun w hw => ⟨by rw [pchk_1 hlen], hw.drop⟩)
              | exact at_ret1 rfl rfl (fun w hw => ⟨by rw [pchk_2 hlen hnd], hw.drop⟩)
              | exact at_ret1 rfl rfl (fun w hw => ⟨by rw [pchk_3 hlen hnd hb], hw.drop⟩)
              | exact at_ret1 rfl rfl (fun w hw => ⟨by rw [pchk_4 hlen hnd hb], hw.drop⟩)
theorem w_ixI {I : HMap} {av : Option Addr} {n c : Nat} {xs : List Int} (hS : Sl I 1 encI av n c xs) (hn : n ≤ 100000) {fid : Nat} {cap : List Value} {P : Int → Bool} (hF : Fun Tryz.prog fid) (hf : ∀ x ∈ xs, RetV Tryz.prog fid ([.int .i64 x] ++ cap) I (.bool (P x))) : RetV Tryz.prog 76 [.slice av n c, .func (.func fid) #[] cap.toArray] I (.int .i64 (idxF P xs)) := by
  intro g H w hw
  refine enter Tryz.func76 rfl Tryz.ntmps76 rfl hw ?_
  have hS := hS
  refine X_seq ?_
  refine X_region ?_
  refine XO_v0 (ev_assign rfl) rfl rfl rfl ?_
  refine XO_nil ?_
  refine at_then ?_
  refine X_seq ?_
  refine X_seq ?_
  refine X_region ?_
  refine XO_v0 (ev_move rfl) rfl rfl rfl ?_
  refine XO_v0 (ev_lenS rfl slt_23) rfl rfl rfl ?_
  refine XO_v0 (ev_move rfl) rfl rfl rfl ?_
  refine XO_nil ?_
  refine at_then ?_
  refine X_block ?_
  refine X_loopT [(0, _), (1, _), (7, _)] (.cons rfl (.cons rfl (.cons rfl .nil))) (fun T L0 mz E I' loc' => ∃ (k : Nat), mz = n - k ∧ E = (8, .int .i64 k) :: T ∧ I = I' ∧ L0 = loc' ∧ k ≤ n ∧ (xs.take k).any P = false) _ _ _ _ ⟨0, rfl, rfl, rfl, rfl, Nat.zero_le _, rfl⟩ (.cons rfl (.cons rfl (.cons rfl (.cons rfl .nil)))) (HLe.refl _) rfl ?_
  rintro mz E I' loc' ⟨k, rfl, rfl, rfl, rfl, hk, hno⟩
  refine X_seq ?_
  refine X_region ?_
  refine XO_v0 (ev_cmp rfl rfl rfl) rfl rfl rfl ?_
  refine XO_nil ?_
  refine at_then ?_
  refine X_seq ?_
  refine X_cond rfl (fun hc9 => ?_) (fun hc9 => ?_)
  · skip
    have hlt_k : k < n := by have h := hc9; simp at h; omega
    obtain ⟨x, hx⟩ := hS.at hlt_k
    refine X_skip ?_
    refine at_then ?_
    refine X_seq ?_
    refine X_block ?_
    refine X_seq ?_
    refine X_region ?_
    refine XO_v0 (ev_move rfl) rfl rfl rfl ?_
    refine XO_v0 (ev_assign rfl) rfl rfl rfl ?_
    refine XO_nil ?_
    refine at_then ?_
    refine X_seq ?_
    refine X_region ?_
    refine XO_v0 (ev_move rfl) rfl rfl rfl ?_
    refine XO_v0 (ev_move rfl) rfl rfl rfl ?_
    refine XO_v0 (ev_move rfl) rfl rfl rfl ?_
    refine XO_v0 (ev_indexSl rfl rfl slt_23 (by assumption) (fun hg => by first | omega | (simp [conj] at hg; omega))) rfl rfl rfl ?_
    refine XO_v0 (ev_load rfl sct_3 (fun hg => by first | exact Sl.get0 hS hx rfl | exact Cell.h0 rfl | exact Cell.h1 rfl | exact Cell.h2 rfl | exact Cell.h3 rfl | exact Cell.h4 rfl | exact Cell.h5 rfl | (repeat (first | exact Cell.here rfl | apply Cell.there | apply Cell.app)))) rfl rfl rfl ?_
    refine XO_callV0 (cap := cap) (vs := [_]) rfl rfl hF (hf x (List.mem_of_getElem? hx)) rfl rfl ?_
    refine XO_nil ?_
    refine at_then ?_
    refine X_cond rfl (fun hc16 => ?_) (fun hc16 => ?_)
    · skip
      refine X_seq ?_
      refine X_region ?_
      refine XO_v0 (ev_move rfl) rfl rfl rfl ?_
      refine XO_v0 (ev_assign rfl) rfl rfl rfl ?_
      refine XO_nil ?_
      refine at_then ?_
      refine X_ret ?_
      refine at_block_r ?_
      refine at_then_r ?_
      refine at_then_r ?_
      refine at_block_r ?_
      refine at_then_r ?_
      first
      | exact at_ret1 rfl rfl (fun w hw => ⟨by rw [idx_hit hno hx hc16], hw.drop⟩)
      | exact at_ret1 rfl rfl (fun w hw => ⟨by rw [idx_none hS.len hge_k hno], hw.drop⟩)
    · skip
      refine X_skip ?_
      refine at_block_n ?_
      refine at_then ?_
      refine X_region ?_
      refine XO_v0 (ev_arB rfl rfl rfl (fun _ => by omega)) rfl rfl rfl ?_
      refine XO_v0 (ev_move rfl) rfl rfl rfl ?_
      refine XO_nil ?_
      exact at_met2 _ _ ⟨n - (k + 1), by omega, k + 1, rfl, rfl, rfl, rfl, by omega, any_no hx hno hc16⟩ (.cons rfl (.cons rfl (.cons rfl (.cons rfl .nil)))) (by repeat (first | exact .refl | exact subL_left | refine subL_app ?_ | refine .drop ?_ | refine subL_add ?_))
  · skip
    have hge_k : n ≤ k := by have h := hc9; simp at h; omega
    refine X_exit ?_
    refine at_then_e ?_
    refine at_then_e ?_
    refine at_block_hit ?_
    refine at_then ?_
    refine X_seq ?_
    refine X_region ?_
    refine XO_v0 (ev_assign rfl) rfl rfl rfl ?_
    refine XO_nil ?_
    refine at_then ?_
    refine X_ret ?_
    first
    | exact at_ret1 rfl rfl (fun w hw => ⟨by rw [idx_hit hno hx hc16], hw.drop⟩)
    | exact at_ret1 rfl rfl (fun w hw => ⟨by rw [idx_none hS.len hge_k hno], hw.drop⟩)
theorem w_cnI {I : HMap} {av : Option Addr} {n c : Nat} {xs : List Int} (hS : Sl I 1 encI av n c xs) (hn : n ≤ 100000) {fid : Nat} {cap : List Value} {P : Int → Bool} (hF : Fun Tryz.prog fid) (hf : ∀ x ∈ xs, RetV Tryz.prog fid ([.int .i64 x] ++ cap) I (.bool (P x))) : RetV Tryz.prog 36 [.slice av n c, .func (.func fid) #[] cap.toArray] I (.bool (xs.any P)) := by
  intro g H w hw
  refine enter Tryz.func36 rfl Tryz.ntmps36 rfl hw ?_
  refine X_seq ?_
  refine X_region ?_
  refine XO_v0 (ev_assign rfl) rfl rfl rfl ?_
  refine XO_nil ?_
  refine at_then ?_
  refine X_seq ?_
  refine X_region ?_
  refine XO_v0 (ev_move rfl) rfl rfl rfl ?_
  refine XO_v0 (ev_move rfl) rfl rfl rfl ?_
  refine XO_callV0 (cap := []) (vs := [_, _]) rfl rfl fun_76 (w_ixI hS hn hF hf) rfl rfl ?_
  refine XO_v0 (ev_cmp rfl rfl rfl) rfl rfl rfl ?_
  refine XO_v0 (ev_assign rfl) rfl rfl rfl ?_
  refine XO_nil ?_
  refine at_then ?_
  refine X_ret ?_
  exact at_ret1 rfl rfl (fun w hw => ⟨by rw [← idx_any], hw.drop⟩)
theorem w_ixP {I : HMap} {av : Option Addr} {n c : Nat} {ps : List Pt} (hP : SlP I av n c ps) (hn : n ≤ 100000) {fid : Nat} {cap : List Value} {P : Pt → Bool} (hF : Fun Tryz.prog fid) (hf : ∀ x ∈ ps, RetV Tryz.prog fid ([encPA x] ++ cap) I (.bool (P x))) : RetV Tryz.prog 141 [.slice av n c, .func (.func fid) #[] cap.toArray] I (.int .i64 (idxF P ps)) := by
  intro g H w hw
  refine enter Tryz.func141 rfl Tryz.ntmps141 rfl hw ?_
  have hS := hP.1
  refine X_seq ?_
  refine X_region ?_
  refine XO_v0 (ev_assign rfl) rfl rfl rfl ?_
  refine XO_nil ?_
  refine at_then ?_
  refine X_seq ?_
  refine X_seq ?_
  refine X_region ?_
  refine XO_v0 (ev_move rfl) rfl rfl rfl ?_
  refine XO_v0 (ev_lenS rfl slt_22) rfl rfl rfl ?_
  refine XO_v0 (ev_move rfl) rfl rfl rfl ?_
  refine XO_nil ?_
  refine at_then ?_
  refine X_block ?_
  refine X_loopT [(0, _), (1, _), (7, _)] (.cons rfl (.cons rfl (.cons rfl .nil))) (fun T L0 mz E I' loc' => ∃ (k : Nat), mz = n - k ∧ E = (8, .int .i64 k) :: T ∧ I = I' ∧ L0 = loc' ∧ k ≤ n ∧ (ps.take k).any P = false) _ _ _ _ ⟨0, rfl, rfl, rfl, rfl, Nat.zero_le _, rfl⟩ (.cons rfl (.cons rfl (.cons rfl (.cons rfl .nil)))) (HLe.refl _) rfl ?_
  rintro mz E I' loc' ⟨k, rfl, rfl, rfl, rfl, hk, hno⟩
  refine X_seq ?_
  refine X_region ?_
  refine XO_v0 (ev_cmp rfl rfl rfl) rfl rfl rfl ?_
  refine XO_nil ?_
  refine at_then ?_
  refine X_seq ?_
  refine X_cond rfl (fun hc9 => ?_) (fun hc9 => ?_)
  · skip
    have hlt_k : k < n := by have h := hc9; simp at h; omega
    obtain ⟨x, hx⟩ := hS.at hlt_k
    refine X_skip ?_
    refine at_then ?_
    refine X_seq ?_
    refine X_block ?_
    refine X_seq ?_
    refine X_region ?_
    refine XO_v0 (ev_move rfl) rfl rfl rfl ?_
    refine XO_v0 (ev_assign rfl) rfl rfl rfl ?_
    refine XO_nil ?_
    refine at_then ?_
    refine X_seq ?_
    refine X_region ?_
    refine XO_v0 (ev_move rfl) rfl rfl rfl ?_
    refine XO_v0 (ev_move rfl) rfl rfl rfl ?_
    refine XO_v0 (ev_move rfl) rfl rfl rfl ?_
    refine XO_v0 (ev_indexSl rfl rfl slt_22 (by assumption) (fun hg => by first | omega | (simp [conj] at hg; omega))) rfl rfl rfl ?_
    refine XO_v0 (ev_loadA rfl agt_53 (fun hg => by first | exact Sl.getA hS hx | exact Cells.g0 | exact Cells.g1 | exact Cells.g2 | exact Cells.g3 | exact Cells.g4 | exact Cells.g5 | exact Cells.s0 (vs := [_, _, _, _, _, _, _, _, _, _, _, _, _, _, _, _, _, _, _]) rfl | exact Cells.s1 (vs := [_, _, _, _, _, _, _, _, _, _, _, _, _, _, _, _, _, _, _]) rfl | exact Cells.s2 (vs := [_, _, _, _, _, _, _, _, _, _, _, _, _, _, _, _, _, _, _]) rfl | exact Cells.s3 (vs := [_, _, _, _, _, _, _, _, _, _, _, _, _, _, _, _, _, _, _]) rfl | exact Cells.s4 (vs := [_, _, _, _, _, _, _, _, _, _, _, _, _, _, _, _, _, _, _]) rfl | exact Cells.s5 (vs := [_, _, _, _, _, _, _, _, _, _, _, _, _, _, _, _, _, _, _]) rfl | (repeat (first | exact Cells.here | apply Cells.there | apply Cells.app))) rfl) rfl rfl rfl ?_
    refine XO_callV0 (cap := cap) (vs := [_]) rfl rfl hF (hf x (List.mem_of_getElem? hx)) rfl rfl ?_
    refine XO_nil ?_
    refine at_then ?_
    refine X_cond rfl (fun hc16 => ?_) (fun hc16 => ?_)
    · skip
      refine X_seq ?_
      refine X_region ?_
      refine XO_v0 (ev_move rfl) rfl rfl rfl ?_
      refine XO_v0 (ev_assign rfl) rfl rfl rfl ?_
      refine XO_nil ?_
      refine at_then ?_
      refine X_ret ?_
      refine at_block_r ?_
      refine at_then_r ?_
      refine at_then_r ?_
      refine at_block_r ?_
      refine at_then_r ?_
      first
      | exact at_ret1 rfl rfl (fun w hw => ⟨by rw [idx_hit hno hx hc16], hw.drop⟩)
      | exact at_ret1 rfl rfl (fun w hw => ⟨by rw [idx_none hS.len hge_k hno], hw.drop⟩)
    · skip
      refine X_skip ?_
      refine at_block_n ?_
      refine at_then ?_
      refine X_region ?_
      refine XO_v0 (ev_arB rfl rfl rfl (fun _ => by omega)) rfl rfl rfl ?_
      refine XO_v0 (ev_move rfl) rfl rfl rfl ?_
      refine XO_nil ?_
      exact at_met2 _ _ ⟨n - (k + 1), by omega, k + 1, rfl, rfl, rfl, rfl, by omega, any_no hx hno hc16⟩ (.cons rfl (.cons rfl (.cons rfl (.cons rfl .nil)))) (by repeat (first | exact .refl | exact subL_left | refine subL_app ?_ | refine .drop ?_ | refine subL_add ?_))
  · skip
    have hge_k : n ≤ k := by have h := hc9; simp at h; omega
    refine X_exit ?_
    refine at_then_e ?_
    refine at_then_e ?_
    refine at_block_hit ?_
    refine at_then ?_
    refine X_seq ?_
    refine X_region ?_
    refine XO_v0 (ev_assign rfl) rfl rfl rfl ?_
    refine XO_nil ?_
    refine at_then ?_
    refine X_ret ?_
    first
    | exact at_ret1 rfl rfl (fun w hw => ⟨by rw [idx_hit hno hx hc16], hw.drop⟩)
    | exact at_ret1 rfl rfl (fun w hw => ⟨by rw [idx_none hS.len hge_k hno], hw.drop⟩)
theorem w_cnP {I : HMap} {av : Option Addr} {n c : Nat} {ps : List Pt} (hP : SlP I av n c ps) (hn : n ≤ 100000) {fid : Nat} {cap : List Value} {P : Pt → Bool} (hF : Fun Tryz.prog fid) (hf : ∀ x ∈ ps, RetV Tryz.prog fid ([encPA x] ++ cap) I (.bool (P x))) : RetV Tryz.prog 89 [.slice av n c, .func (.func fid) #[] cap.toArray] I (.bool (ps.any P)) := by
  intro g H w hw
  refine enter Tryz.func89 rfl Tryz.ntmps89 rfl hw ?_
  refine X_seq ?_
  refine X_region ?_
  refine XO_v0 (ev_assign rfl) rfl rfl rfl ?_
  refine XO_nil ?_
  refine at_then ?_
  refine X_seq ?_
  refine X_region ?_
  refine XO_v0 (ev_move rfl) rfl rfl rfl ?_
  refine XO_v0 (ev_move rfl) rfl rfl rfl ?_
  refine XO_callV0 (cap := []) (vs := [_, _]) rfl rfl fun_141 (w_ixP hP hn hF hf) rfl rfl ?_
  refine XO_v0 (ev_cmp rfl rfl rfl) rfl rfl rfl ?_
  refine XO_v0 (ev_assign rfl) rfl rfl rfl ?_
  refine XO_nil ?_
  refine at_then ?_
  refine X_ret ?_
  exact at_ret1 rfl rfl (fun w hw => ⟨by rw [← idx_any], hw.drop⟩)
theorem w_ck1 {I : HMap} {b r : Nat} {s : List (Int × Bool)} (hb : I b = some (.cells #[.map (some r)] 71 (0, 0))) (hr : I r = some (mapO (Value.int .i64) Value.bool s)) (x : Int) : RetV Tryz.prog 37 [.int .i64 x, .pointer (some ⟨b, 0, none⟩)] I (.bool (!setM s x)) := by
  intro g H w hw
  refine enter Tryz.func37 rfl Tryz.ntmps37 rfl hw ?_
  refine X_seq ?_
  refine X_region ?_
  refine XO_v0 (ev_assign rfl) rfl rfl rfl ?_
  refine XO_nil ?_
  refine at_then ?_
  refine X_seq ?_
  refine X_region ?_
  refine XO_v0 (ev_load rfl sct_71 (fun hg => by first | exact .imm hb rfl | exact Cell.h0 rfl | exact Cell.h1 rfl | exact Cell.h2 rfl | exact Cell.h3 rfl | exact Cell.h4 rfl | exact Cell.h5 rfl | (repeat (first | exact Cell.here rfl | apply Cell.there | apply Cell.app)))) rfl rfl rfl ?_
  refine XO_v0 (ev_move rfl) rfl rfl rfl ?_
  refine XO_v0 (ev_lookupBool  mpt_71 key_3 rfl rfl (fun _ => .inl hr)) rfl rfl rfl ?_
  refine XO_v0 (ev_not rfl) rfl rfl rfl ?_
  refine XO_v0 (ev_assign rfl) rfl rfl rfl ?_
  refine XO_nil ?_
  refine at_then ?_
  refine X_ret ?_
  exact at_ret1 rfl rfl (fun w hw => ⟨by first | rfl | simp_all, hw.drop⟩)
end Go.Proofs.YtccomeanpppfmaaGreat
end
section
namespace Go.Proofs.YtccomeanpppfmaaGreat
open Go Go.Kn Go.Proofs
def idsP (ps : List Pt) : List Int := ps.map (·.id)
def lsQ (ps : List Pt) (i : Nat) : Bool := !((decide ((i : Int) > 0) && decide ((ps.getD i zeroP).id ≤ (ps.getD ((i : Int) - 1).toNat zeroP).id)) || (ps.getD i zeroP).needs.any (fun n => !hasI (ps.take i) n))
theorem lsQ_at {ps : List Pt} {k : Nat} {p : Pt} {l : Int} {s : List (Int × Bool)} (hp : ps[k]? = some p) (h1 : 1 ≤ p.id) (hl : lastI (idsP ps) k l) (hs : ∀ x, setM s x = hasI (ps.take k) x) : lsQ ps k = !(decide (p.id ≤ l) || p.needs.any fun x => !setM s x) := by
  unfold lsQ
  rw [getD_of hp]
  simp only [hs]
  congr 2
  cases k with
  | zero =>
    rw [hl.1 rfl, Bool.eq_iff_iff]; simp; omega
  | succ k =>
    have hk := (List.getElem?_eq_some_iff.1 hp).1
    have hy : ps[k]? = some (ps[k]'(by omega)) := List.getElem?_eq_getElem _
    have e := hl.2 (ps[k]'(by omega)).id (by rw [Nat.add_sub_cancel]; simp [idsP, hy]) (by omega)
    rw [show (((k + 1 : Nat) : Int) - 1).toNat = k by omega, getD_of hy, ← e, Bool.eq_iff_iff]; simp
theorem lastP_step {ps : List Pt} {k : Nat} {p : Pt} (hp : ps[k]? = some p) : lastI (idsP ps) (k + 1) p.id := lastI_step (by simp [idsP, hp])
theorem has_snoc {ps : List Pt} {k : Nat} {p : Pt} (hp : ps[k]? = some p) (x : Int) : hasI (ps.take (k + 1)) x = (decide (p.id = x) || hasI (ps.take k) x) := by
  unfold hasI
  rw [take_snoc hp, List.any_append, Bool.eq_iff_iff]
  simp [or_comm]
theorem has_take {ps : List Pt} {k : Nat} {n : Int} (h : hasI (ps.take k) n = true) : hasI ps n = true := by
  obtain ⟨q, hq, e⟩ := hasI_iff.1 h
  exact hasI_iff.2 ⟨q, List.mem_of_mem_take hq, e⟩
theorem lsQ_lsP {ps : List Pt} (h0 : orF (ps.map pchk) = 0) : (List.range ps.length).all (lsQ ps) = lsB ps := by
  rw [Bool.eq_iff_iff]
  constructor
  · intro h
    unfold lsB
    rw [List.all_eq_true] at h ⊢
    intro i hi
    have := h i hi
    unfold lsQ at this
    unfold lsP
    simp only [Bool.not_eq_true', Bool.or_eq_false_iff] at this ⊢
    refine ⟨this.1, ?_⟩
    have h2 := this.2
    rw [List.any_eq_false] at h2 ⊢
    intro n hn hc
    refine h2 n hn ?_
    rw [Bool.not_eq_true'] at hc ⊢
    cases hh : hasI (ps.take i) n with
    | false => rfl
    | true => rw [has_take hh] at hc; cases hc
  · intro h
    have hL := ls_lst h0 h
    unfold lsB at h
    rw [List.all_eq_true] at h ⊢
    intro i hi
    have := h i hi
    unfold lsP at this
    unfold lsQ
    simp only [Bool.not_eq_true', Bool.or_eq_false_iff] at this ⊢
    refine ⟨this.1, ?_⟩
    rw [List.any_eq_false]
    intro n hn hc
    have hk : ps[i]? = some (ps.getD i zeroP) := some_getD rfl (List.mem_range.1 hi)
    obtain ⟨q, hq, e⟩ := hL.before hk hn
    rw [hasI_iff.2 ⟨q, hq, e⟩] at hc
    cases hc
/-! ### Inserts and removes of a sign -/
def kindL (k : Int) (ps : List Pt) (s : Int) : List Int := (ps.filter fun q => q.kind == k && q.sign == s).map (·.id)
theorem kindL_snoc {c : Int} {ps : List Pt} {k : Nat} {p : Pt} (hp : ps[k]? = some p) (s : Int) : kindL c (ps.take (k + 1)) s = kindL c (ps.take k) s ++ (if p.kind = c ∧ p.sign = s then [p.id] else []) := by
  unfold kindL
  rw [take_snoc hp, List.filter_append, List.map_append]
  congr 1
  by_cases h : p.kind = c ∧ p.sign = s
  · rw [if_pos h]; simp [h.1, h.2]
  · rw [if_neg h]
    have : (p.kind == c && p.sign == s) = false := by
      rw [Bool.eq_false_iff]; intro hc; simp at hc; exact h hc
    simp [this]
theorem mem_kindL {c : Int} {ps : List Pt} {s x : Int} : x ∈ kindL c ps s ↔ ∃ q ∈ ps, q.kind = c ∧ q.sign = s ∧ q.id = x := by
  unfold kindL
  rw [mem_ids]
  simp [and_assoc]
def InsM (mi : List (Int × Int)) (ps : List Pt) : Prop := ∀ s, kindL 2 ps s = (mget mi s).toList
theorem InsM.nil {ps : List Pt} : InsM [] (ps.take 0) := fun s => by simp [kindL, mget]
theorem InsM.put {mi : List (Int × Int)} {ps : List Pt} {k : Nat} {p : Pt} (h : InsM mi (ps.take k)) (hp : ps[k]? = some p) (hk : p.kind = 2) (hn : mget mi p.sign = none) : InsM (mset mi p.sign p.id) (ps.take (k + 1)) := fun s => by
  rw [kindL_snoc hp, h s, mget_mset]
  by_cases e : p.sign = s
  · subst e; rw [if_pos ⟨hk, rfl⟩, if_pos rfl, hn]; rfl
  · rw [if_neg (fun q => e q.2), if_neg e, List.append_nil]
theorem InsM.skip {mi : List (Int × Int)} {ps : List Pt} {k : Nat} {p : Pt} (h : InsM mi (ps.take k)) (hp : ps[k]? = some p) (hk : p.kind ≠ 2) : InsM mi (ps.take (k + 1)) := fun s => by
  rw [kindL_snoc hp, h s, if_neg (fun q => hk q.1), List.append_nil]
def RemM (mr : List (Int × (Value × Nat × List Value))) (ps : List Pt) : Prop := ∀ s, ((mget mr s).getD nilT).2.2 = (kindL 3 ps s).flatMap encI
theorem RemM.nil {ps : List Pt} : RemM [] (ps.take 0) := fun s => by simp [kindL, mget, nilT]
theorem RemM.put {mr : List (Int × (Value × Nat × List Value))} {ps : List Pt} {k n : Nat} {p : Pt} {v : Value} (h : RemM mr (ps.take k)) (hp : ps[k]? = some p) (hk : p.kind = 3) : RemM (mset mr p.sign (v, n, ((mget mr p.sign).getD nilT).2.2 ++ [p.id].flatMap encI)) (ps.take (k + 1)) := fun s => by
  rw [kindL_snoc hp, mget_mset]
  by_cases e : p.sign = s
  · subst e; rw [if_pos rfl, if_pos ⟨hk, rfl⟩, List.flatMap_append, ← h]; rfl
  · rw [if_neg e, if_neg (fun q => e q.2), List.append_nil, h s]
theorem RemM.skip {mr : List (Int × (Value × Nat × List Value))} {ps : List Pt} {k : Nat} {p : Pt} (h : RemM mr (ps.take k)) (hp : ps[k]? = some p) (hk : p.kind ≠ 3) : RemM mr (ps.take (k + 1)) := fun s => by
  rw [kindL_snoc hp, h s, if_neg (fun q => hk q.1), List.append_nil]
theorem kindL_len {c : Int} {ps : List Pt} {s : Int} : (kindL c ps s).length ≤ ps.length := by
  unfold kindL
  rw [List.length_map]
  exact List.length_filter_le _ _
theorem rem_sl {I : HMap} {e : Nat} {mr : List (Int × (Value × Nat × List Value))} {ps : List Pt} {L : Go.Kn.Loc} (h : RemM mr ps) (hA : OwnAll e 1 (mr.map (·.2)) L) (hI : ∀ b o, (b, o) ∈ L → I b = some o) (s : Int) :
    ∃ av c, ((mget mr s).getD nilT).1 = .slice av (kindL 3 ps s).length c ∧ Sl I 1 encI av (kindL 3 ps s).length c (kindL 3 ps s) := by
  obtain ⟨A, Lt, B, rfl, hO, _⟩ := hA.at s
  rw [h s] at hO
  obtain ⟨av, c, e1, e2⟩ := hO.sl encI_len (by decide) (fun b o hb => hI b o (by simp [hb]))
  have hn := e2.len
  rw [← hn] at e1 e2
  exact ⟨av, c, e1, e2⟩
theorem rem_le {e : Nat} {mr : List (Int × (Value × Nat × List Value))} {ps : List Pt} {s : Int} {L : Go.Kn.Loc} (h : RemM mr ps) (hO : OwnS e 1 ((mget mr s).getD nilT).1 ((mget mr s).getD nilT).2.1 ((mget mr s).getD nilT).2.2 L) : ((mget mr s).getD nilT).2.1 ≤ ps.length := by
  have h1 := hO.1
  rw [h s, lenI] at h1
  have h2 := kindL_len (c := 3) (ps := ps) (s := s)
  omega
theorem perm_in {x y : Nat × Obj} {A L B : Go.Kn.Loc} : (x :: y :: (A ++ (L ++ B))).Perm (L ++ (x :: y :: (A ++ B))) := List.perm_append_comm_assoc (x :: y :: A) L B
/-- A patch with those of its sign that put it in or strike it. -/
def tgP (ps : List Pt) (p : Pt) : Bool := !(((kindL 2 ps p.sign).any fun i => p.id != i && !onF ps p.id i) || (kindL 3 ps p.sign).any (onF ps p.id))
theorem tog_eq {ps : List Pt} (hL : Lst ps) {mi : List (Int × Int)} (hi : InsM mi ps) : togA ps = ps.all (tgP ps) := by
  unfold togA
  rw [Bool.eq_iff_iff, List.all_eq_true, List.all_eq_true]
  refine forall_congr' fun p => forall_congr' fun hp => ?_
  unfold tgP
  rw [List.all_eq_true]
  simp only [Bool.not_eq_true', Bool.or_eq_false_iff, List.any_eq_false, mem_kindL]
  constructor
  · intro h
    constructor
    · rintro x ⟨q, hq, h2, hs, rfl⟩ hc
      have := h q hq
      unfold togB at this
      rw [if_neg (by simpa using hs.symm), if_pos h2] at this
      simp at this hc
      rcases this with e | e
      · exact hc.1 e
      · rw [hc.2] at e; cases e.2
    · rintro x ⟨q, hq, h3, hs, rfl⟩ hc
      have := h q hq
      unfold togB at this
      rw [if_neg (by simpa using hs.symm), if_neg (by omega), if_pos h3] at this
      simp at this
      rcases this with e | e
      · rw [e, hL.on_irr] at hc; cases hc
      · rw [e] at hc; cases hc
  · rintro ⟨h1, h2⟩ q hq
    unfold togB
    by_cases hs : p.sign = q.sign
    · rw [if_neg (by simpa using hs)]
      by_cases e : p.id = q.id
      · simp [e]
      · by_cases k2 : q.kind = 2
        · rw [if_pos k2]
          have := h1 q.id ⟨q, hq, k2, hs.symm, rfl⟩
          have hk : p.kind ≠ 2 := fun k => e (by
            have hm1 := mem_kindL.2 ⟨p, hp, k, rfl, rfl⟩
            have hm2 := mem_kindL.2 ⟨q, hq, k2, hs.symm, rfl⟩
            rw [hi p.sign] at hm1 hm2
            cases hg : mget mi p.sign with
            | none => rw [hg] at hm1; cases hm1
            | some z => rw [hg] at hm1 hm2; simp at hm1 hm2; rw [hm1, hm2])
          simp [e] at this
          simp [this, hk]
        · rw [if_neg k2]
          by_cases k3 : q.kind = 3
          · rw [if_pos k3]
            have := h2 q.id ⟨q, hq, k3, hs.symm, rfl⟩
            simp at this
            simp [this]
          · rw [if_neg k3]; simp
    · rw [if_pos hs]; simp
theorem tog_two {ps : List Pt} (hL : Lst ps) {mi : List (Int × Int)} {k : Nat} {p : Pt} {id : Int} (h : InsM mi (ps.take k)) (hp : ps[k]? = some p) (hk : p.kind = 2) (hn : mget mi p.sign = some id) : togA ps = false := by
  have hm : id ∈ kindL 2 (ps.take k) p.sign := by rw [h, hn]; simp
  obtain ⟨q, hq, k2, hs, rfl⟩ := mem_kindL.1 hm
  have hlt := hL.fresh hp q hq
  unfold togA
  rw [Bool.eq_false_iff]
  intro hc
  rw [List.all_eq_true] at hc
  have h1 := hc p (List.mem_of_getElem? hp)
  rw [List.all_eq_true] at h1
  have h2 := h1 q (List.mem_of_mem_take hq)
  unfold togB at h2
  rw [if_neg (by simpa using hs.symm), if_pos k2] at h2
  simp [hk] at h2
  omega
theorem tg_ins {ps : List Pt} {p : Pt} {mi : List (Int × Int)} (hi : InsM mi ps) : ((mget mi p.sign).isSome && (p.id != (mget mi p.sign).getD 0) && !onF ps p.id ((mget mi p.sign).getD 0)) = ((kindL 2 ps p.sign).any fun i => p.id != i && !onF ps p.id i) := by
  rw [hi p.sign]
  cases mget mi p.sign with
  | none => rfl
  | some x => simp
theorem chkR_1 {ps : List Pt} (h : ps.length > 512) : chkR ps = 2 := by unfold chkR; rw [if_pos h]
theorem chkR_2 {ps : List Pt} (h : ¬ ps.length > 512) {k : Nat} {p : Pt} (hp : ps[k]? = some p) (h0 : orF ((ps.take k).map pchk) = 0) (h1 : pchk p ≠ 0) : chkR ps = pchk p := by
  have : orF (ps.map pchk) = pchk p := orF_take (k := k) (by simp [hp]) (by rw [← List.map_take]; exact h0) h1
  unfold chkR; rw [if_neg h, this, if_pos h1]
theorem chkR_3 {ps : List Pt} (h : ¬ ps.length > 512) (h0 : orF (ps.map pchk) = 0) (h1 : lsB ps = false) : chkR ps = 380 := by unfold chkR; rw [if_neg h, if_neg (by omega), h1]; rfl
theorem chkR_4 {ps : List Pt} (h : ¬ ps.length > 512) (h0 : orF (ps.map pchk) = 0) (h1 : lsB ps = true) (h2 : togA ps = false) : chkR ps = 380 := by unfold chkR; rw [if_neg h, if_neg (by omega), h1, h2]; rfl
theorem chkR_5 {ps : List Pt} (h : ¬ ps.length > 512) (h0 : orF (ps.map pchk) = 0) (h1 : lsB ps = true) (h2 : togA ps = true) : chkR ps = 0 := by unfold chkR; rw [if_neg h, if_neg (by omega), h1, h2]; rfl
theorem or_snoc {ps : List Pt} {k : Nat} {p : Pt} (hp : ps[k]? = some p) (h0 : orF ((ps.take k).map pchk) = 0) (h1 : pchk p = 0) : orF ((ps.take (k + 1)).map pchk) = 0 := by
  rw [orF_zero] at h0 ⊢
  intro x hx
  rw [take_snoc hp, List.map_append, List.mem_append] at hx
  rcases hx with hx | hx
  · exact h0 x hx
  · simp at hx; rw [hx, h1]
theorem pchk_pos {p : Pt} (h : pchk p = 0) : 1 ≤ p.id ∧ p.id ≤ 1048576 ∧ 0 ≤ p.sign ∧ p.sign ≤ 1048576 ∧ p.needs.length ≤ 32 := by
  unfold pchk at h
  split at h
  · cases h
  · split at h
    · rename_i h1 h2
      simp only [Bool.and_eq_true] at h2
      have h3 := h2.2.1
      unfold idB at h3
      simp at h3
      omega
    · cases h
theorem nd_of {I : HMap} {av : Option Addr} {n c : Nat} {ps : List Pt} (hP : SlP I av n c ps) (hz : ∀ p ∈ ps, pchk p = 0) : ∀ p ∈ ps, p.n ≤ 100000 := fun p hp => by
  have h1 : Sl I 1 encI p.a p.n p.c p.needs := hP.2 p hp
  have h2 := hz p hp
  have h3 := h1.len
  unfold pchk at h2
  split at h2
  · cases h2
  · omega
theorem nd_chk {I : HMap} {av : Option Addr} {n c : Nat} {ps : List Pt} (hP : SlP I av n c ps) (h : chkR ps = 0) : ∀ p ∈ ps, p.n ≤ 100000 := nd_of hP fun p hp => orF_zero.1 (chkR_ok h).2.1 _ (List.mem_map.2 ⟨p, hp, rfl⟩)
end Go.Proofs.YtccomeanpppfmaaGreat
end
section
namespace Go.Proofs.YtccomeanpppfmaaGreat
open Go Go.Kn Go.Proofs
theorem w_chkR {I : HMap} {av : Option Addr} {n c : Nat} {ps : List Pt} (hP : SlP I av n c ps) (hn : n ≤ 100000) : RetV Tryz.prog 12 [.slice av n c] I (.int .i64 (chkR ps)) := by
  intro g H w hw
  refine enter Tryz.func12 rfl Tryz.ntmps12 rfl hw ?_
  have hIc := HLe.refl I
  refine X_seq ?_
  refine X_region ?_
  refine XO_v0 (ev_assign rfl) rfl rfl rfl ?_
  refine XO_nil ?_
  refine at_then ?_
  refine X_seq ?_
  refine X_seq ?_
  refine X_region ?_
  refine XO_v0 (ev_move rfl) rfl rfl rfl ?_
  refine XO_v0 (ev_lenS rfl slt_22) rfl rfl rfl ?_
  refine XO_v0 (ev_cmp rfl rfl rfl) rfl rfl rfl ?_
  refine XO_nil ?_
  refine at_then ?_
  refine X_cond rfl (fun hc24 => ?_) (fun hc24 => ?_)
  · skip
    have hlen : ps.length > 512 := by rw [hP.len]; simp at hc24; omega
    refine X_seq ?_
    refine X_region ?_
    refine XO_v0 (ev_assign rfl) rfl rfl rfl ?_
    refine XO_nil ?_
    refine at_then ?_
    refine X_ret ?_
    refine at_then_r ?_
    first
    | exact at_ret1 rfl rfl (fun w hw => ⟨by rw [chkR_1 hlen], (hw.mono hIc).drop⟩)
    | exact at_ret1 rfl rfl (fun w hw => ⟨by rw [hbad], (hw.mono hIc).drop⟩)
    | exact at_ret1 rfl rfl (fun w hw => ⟨by rw [chkR_5 hlen h0 hls htog], (hw.mono hIc).drop⟩)
  · skip
    have hlen : ¬ ps.length > 512 := by rw [hP.len]; simp at hc24; omega
    refine X_skip ?_
    refine at_then ?_
    refine X_seq ?_
    refine X_seq ?_
    refine X_region ?_
    refine XO_v0 (ev_move rfl) rfl rfl rfl ?_
    refine XO_v0 (ev_lenS rfl slt_22) rfl rfl rfl ?_
    refine XO_v0 (ev_move rfl) rfl rfl rfl ?_
    refine XO_nil ?_
    refine at_then ?_
    refine X_block ?_
    refine X_loopT [(0, _), (25, _), (26, _)] (.cons rfl (.cons rfl (.cons rfl .nil))) (fun T L0 mz E I' loc' => ∃ (k : Nat) (e : Int), mz = n - k ∧ E = (27, .int .i64 k) :: T ∧ I = I' ∧ L0 = loc' ∧ k ≤ n ∧ e = 0 ∧ orF ((ps.take k).map pchk) = 0) _ _ _ _ ⟨0, 0, rfl, rfl, rfl, rfl, Nat.zero_le _, rfl, rfl⟩ (.cons rfl (.cons rfl (.cons rfl (.cons rfl .nil)))) (HLe.refl _) rfl ?_
    rintro mz E I' loc' ⟨k, e, rfl, rfl, rfl, rfl, hk, he, h0⟩
    refine X_seq ?_
    refine X_region ?_
    refine XO_v0 (ev_cmp rfl rfl rfl) rfl rfl rfl ?_
    refine XO_nil ?_
    refine at_then ?_
    refine X_seq ?_
    refine X_cond rfl (fun hc28 => ?_) (fun hc28 => ?_)
    · skip
      have hlt_k : k < n := by have h := hc28; simp at h; omega
      have hP1 := hP.1
      obtain ⟨p, hp, hN⟩ := hP.at hlt_k
      have hpm := List.mem_of_getElem? hp
      have hN : Sl I 1 encI p.a p.n p.c p.needs := hN
      refine X_skip ?_
      refine at_then ?_
      refine X_seq ?_
      refine X_block ?_
      refine X_seq ?_
      refine X_region ?_
      refine XO_v0 (ev_indexSl rfl rfl slt_22 (by assumption) (fun hg => by first | omega | (simp [conj] at hg; omega))) rfl rfl rfl ?_
      refine XO_v0 (ev_loadA rfl agt_53 (fun hg => by first | exact Sl.getA hP1 hp | exact Cells.g0 | exact Cells.g1 | exact Cells.g2 | exact Cells.g3 | exact Cells.g4 | exact Cells.g5 | exact Cells.s0 (vs := [_, _, _, _, _, _, _, _, _, _, _, _, _, _, _, _, _, _, _]) rfl | exact Cells.s1 (vs := [_, _, _, _, _, _, _, _, _, _, _, _, _, _, _, _, _, _, _]) rfl | exact Cells.s2 (vs := [_, _, _, _, _, _, _, _, _, _, _, _, _, _, _, _, _, _, _]) rfl | exact Cells.s3 (vs := [_, _, _, _, _, _, _, _, _, _, _, _, _, _, _, _, _, _, _]) rfl | exact Cells.s4 (vs := [_, _, _, _, _, _, _, _, _, _, _, _, _, _, _, _, _, _, _]) rfl | exact Cells.s5 (vs := [_, _, _, _, _, _, _, _, _, _, _, _, _, _, _, _, _, _, _]) rfl | (repeat (first | exact Cells.here | apply Cells.there | apply Cells.app))) rfl) rfl rfl rfl ?_
      refine XO_alloc zt_53 rfl rfl (fun b_4 => ?_)
      refine XO_storeA rfl rfl szt_53 rfl rfl rfl rfl (by first | exact Upd.u0 | exact Upd.u1 | exact Upd.u2 | exact Upd.u3 | exact Upd.u4 | exact Upd.u5 | (repeat (first | exact Upd.here | apply Upd.there | apply upd_app))) ?_
      refine XO_nil ?_
      refine at_then ?_
      refine X_seq ?_
      refine X_region ?_
      refine XO_v0 (ev_loadA rfl agt_53 (fun hg => by first | exact Sl.getA hP1 hp | exact Cells.g0 | exact Cells.g1 | exact Cells.g2 | exact Cells.g3 | exact Cells.g4 | exact Cells.g5 | exact Cells.s0 (vs := [_, _, _, _, _, _, _, _, _, _, _, _, _, _, _, _, _, _, _]) rfl | exact Cells.s1 (vs := [_, _, _, _, _, _, _, _, _, _, _, _, _, _, _, _, _, _, _]) rfl | exact Cells.s2 (vs := [_, _, _, _, _, _, _, _, _, _, _, _, _, _, _, _, _, _, _]) rfl | exact Cells.s3 (vs := [_, _, _, _, _, _, _, _, _, _, _, _, _, _, _, _, _, _, _]) rfl | exact Cells.s4 (vs := [_, _, _, _, _, _, _, _, _, _, _, _, _, _, _, _, _, _, _]) rfl | exact Cells.s5 (vs := [_, _, _, _, _, _, _, _, _, _, _, _, _, _, _, _, _, _, _]) rfl | (repeat (first | exact Cells.here | apply Cells.there | apply Cells.app))) rfl) rfl rfl rfl ?_
      refine XO_callV0 (cap := []) (vs := [_]) rfl rfl fun_35 (w_pchk p hN) rfl rfl ?_
      refine XO_v0 (ev_assign rfl) rfl rfl rfl ?_
      refine XO_nil ?_
      refine at_then ?_
      refine X_seq ?_
      refine X_region ?_
      refine XO_v0 (ev_move rfl) rfl rfl rfl ?_
      refine XO_v0 (ev_cmp rfl rfl rfl) rfl rfl rfl ?_
      refine XO_nil ?_
      refine at_then ?_
      refine X_cond rfl (fun hc34 => ?_) (fun hc34 => ?_)
      · skip
        have hbad : chkR ps = pchk p := chkR_2 hlen hp h0 (by simpa using hc34)
        refine X_seq ?_
        refine X_region ?_
        refine XO_v0 (ev_move rfl) rfl rfl rfl ?_
        refine XO_v0 (ev_assign rfl) rfl rfl rfl ?_
        refine XO_nil ?_
        refine at_then ?_
        refine X_ret ?_
        refine at_block_r ?_
        refine at_then_r ?_
        refine at_then_r ?_
        refine at_block_r ?_
        refine at_then_r ?_
        first
        | exact at_ret1 rfl rfl (fun w hw => ⟨by rw [chkR_1 hlen], (hw.mono hIc).drop⟩)
        | exact at_ret1 rfl rfl (fun w hw => ⟨by rw [hbad], (hw.mono hIc).drop⟩)
        | exact at_ret1 rfl rfl (fun w hw => ⟨by rw [chkR_5 hlen h0 hls htog], (hw.mono hIc).drop⟩)
      · skip
        have hpk : pchk p = 0 := by simpa using hc34
        refine X_skip ?_
        refine at_block_n ?_
        refine at_then ?_
        refine X_region ?_
        refine XO_v0 (ev_arB rfl rfl rfl (fun _ => by omega)) rfl rfl rfl ?_
        refine XO_v0 (ev_move rfl) rfl rfl rfl ?_
        refine XO_nil ?_
        exact at_met2 _ _ ⟨n - (k + 1), by omega, k + 1, _, rfl, rfl, rfl, rfl, by omega, hpk, or_snoc hp h0 hpk⟩ (.cons rfl (.cons rfl (.cons rfl (.cons rfl .nil)))) (by repeat (first | exact .refl | exact subL_left | refine subL_app ?_ | refine .drop ?_ | refine subL_add ?_))
    · skip
      have hge_k : n ≤ k := by have h := hc28; simp at h; omega
      have h0 : orF (ps.map pchk) = 0 := by rw [take_all hP.len hge_k] at h0; exact h0
      have hz : ∀ p ∈ ps, pchk p = 0 := fun p hp => orF_zero.1 h0 _ (List.mem_map.2 ⟨p, hp, rfl⟩)
      have hnd := nd_of hP hz
      refine X_exit ?_
      refine at_then_e ?_
      refine at_then_e ?_
      refine at_block_hit ?_
      refine at_then ?_
      refine X_seq ?_
      refine X_region ?_
      refine XO_makeMap rfl rfl (fun r_37 => ?_)
      refine XO_alloc zt_71 rfl rfl (fun b_5 => ?_)
      refine XO_store rfl rfl szt_71 rfl rfl (by first | exact Upd.u0 | exact Upd.u1 | exact Upd.u2 | exact Upd.u3 | exact Upd.u4 | exact Upd.u5 | (repeat (first | exact Upd.here | apply Upd.there | apply upd_app))) rfl ?_
      refine XO_v0 (ev_assign rfl) rfl rfl rfl ?_
      refine XO_nil ?_
      refine at_then ?_
      refine X_seq ?_
      refine X_seq ?_
      refine X_region ?_
      refine XO_v0 (ev_move rfl) rfl rfl rfl ?_
      refine XO_v0 (ev_lenS rfl slt_22) rfl rfl rfl ?_
      refine XO_v0 (ev_move rfl) rfl rfl rfl ?_
      refine XO_nil ?_
      refine at_then ?_
      refine X_block ?_
      refine X_loopT [(0, _), (5, _), (38, _), (39, _)] (.cons rfl (.cons rfl (.cons rfl (.cons rfl .nil)))) (fun T L0 mz E I' loc' => ∃ (k : Nat) (l : Int) (s : List (Int × Bool)), mz = n - k ∧ E = (6, .int .i64 l) :: (40, .int .i64 k) :: T ∧ I = I' ∧ [(b_5, .cells #[.map (some r_37)] 71 (0, 0)), (r_37, mapO (Value.int .i64) Value.bool s)] = loc' ∧ k ≤ n ∧ (List.range k).all (lsQ ps) = true ∧ lastI (idsP ps) k l ∧ ∀ x, setM s x = hasI (ps.take k) x) _ _ _ _ ⟨0, 0, [], rfl, rfl, rfl, rfl, Nat.zero_le _, rfl, ⟨fun _ => rfl, fun y hy h => absurd rfl h⟩, fun x => rfl⟩ (.cons rfl (.cons rfl (.cons rfl (.cons rfl (.cons rfl (.cons rfl .nil)))))) (HLe.refl _) rfl ?_
      rintro mz E I' loc' ⟨k, l, s, rfl, rfl, rfl, rfl, hk, hall, hl, hs⟩
      refine X_seq ?_
      refine X_region ?_
      refine XO_v0 (ev_cmp rfl rfl rfl) rfl rfl rfl ?_
      refine XO_nil ?_
      refine at_then ?_
      refine X_seq ?_
      refine X_cond rfl (fun hc41 => ?_) (fun hc41 => ?_)
      · skip
        have hlt_k : k < n := by have h := hc41; simp at h; omega
        have hP1 := hP.1
        obtain ⟨p, hp, hN⟩ := hP.at hlt_k
        have hpm := List.mem_of_getElem? hp
        have hN : Sl I 1 encI p.a p.n p.c p.needs := hN
        have hpn := hnd p hpm
        have hp1 := (pchk_pos (hz p hpm)).1
        refine X_skip ?_
        refine at_then ?_
        refine X_seq ?_
        refine X_block ?_
        refine X_seq ?_
        refine X_region ?_
        refine XO_v0 (ev_indexSl rfl rfl slt_22 (by assumption) (fun hg => by first | omega | (simp [conj] at hg; omega))) rfl rfl rfl ?_
        refine XO_v0 (ev_loadA rfl agt_53 (fun hg => by first | exact Sl.getA hP1 hp | exact Cells.g0 | exact Cells.g1 | exact Cells.g2 | exact Cells.g3 | exact Cells.g4 | exact Cells.g5 | exact Cells.s0 (vs := [_, _, _, _, _, _, _, _, _, _, _, _, _, _, _, _, _, _, _]) rfl | exact Cells.s1 (vs := [_, _, _, _, _, _, _, _, _, _, _, _, _, _, _, _, _, _, _]) rfl | exact Cells.s2 (vs := [_, _, _, _, _, _, _, _, _, _, _, _, _, _, _, _, _, _, _]) rfl | exact Cells.s3 (vs := [_, _, _, _, _, _, _, _, _, _, _, _, _, _, _, _, _, _, _]) rfl | exact Cells.s4 (vs := [_, _, _, _, _, _, _, _, _, _, _, _, _, _, _, _, _, _, _]) rfl | exact Cells.s5 (vs := [_, _, _, _, _, _, _, _, _, _, _, _, _, _, _, _, _, _, _]) rfl | (repeat (first | exact Cells.here | apply Cells.there | apply Cells.app))) rfl) rfl rfl rfl ?_
        refine XO_alloc zt_53 rfl rfl (fun b_8 => ?_)
        refine XO_storeA rfl rfl szt_53 rfl rfl rfl rfl (by first | exact Upd.u0 | exact Upd.u1 | exact Upd.u2 | exact Upd.u3 | exact Upd.u4 | exact Upd.u5 | (repeat (first | exact Upd.here | apply Upd.there | apply upd_app))) ?_
        refine XO_nil ?_
        refine at_then ?_
        refine X_seq ?_
        refine X_seq ?_
        refine X_region ?_
        refine XO_v0 (ev_fieldAddr rfl fld_53_0) rfl rfl rfl ?_
        refine XO_v0 (ev_load rfl sct_3 (fun hg => by first | exact Sl.get0 hS2 hy rfl | exact Cell.h0 rfl | exact Cell.h1 rfl | exact Cell.h2 rfl | exact Cell.h3 rfl | exact Cell.h4 rfl | exact Cell.h5 rfl | (repeat (first | exact Cell.here rfl | apply Cell.there | apply Cell.app)))) rfl rfl rfl ?_
        refine XO_v0 (ev_move rfl) rfl rfl rfl ?_
        refine XO_v0 (ev_cmp rfl rfl rfl) rfl rfl rfl ?_
        refine XO_v0 (ev_move rfl) rfl rfl rfl ?_
        refine XO_pushF 4 rfl rfl rfl ?_
        refine XO_v1 (ev_fieldAddr rfl fld_53_5) (.some rfl rfl rfl rfl gbf) rfl rfl rfl ?_
        refine XO_v1 (ev_load rfl sct_23 (fun hg => by first | exact Sl.get0 hS2 hy rfl | exact Cell.h0 rfl | exact Cell.h1 rfl | exact Cell.h2 rfl | exact Cell.h3 rfl | exact Cell.h4 rfl | exact Cell.h5 rfl | (repeat (first | exact Cell.here rfl | apply Cell.there | apply Cell.app)))) (.some rfl rfl rfl rfl gbf) rfl rfl rfl ?_
        refine XO_v1 (ev_makeFunc (us := []) (vs := [_]) rfl rfl) (.some rfl rfl rfl rfl gbf) rfl rfl rfl ?_
        refine XO_callK1 (cap := []) (vs := [_, _]) rfl rfl fun_36 split_all (fun hg => RetK.ofV fun I' hI' hL' => w_cnI (cap := [.pointer (some ⟨b_5, 0, none⟩)]) (hN.mono hI') hpn fun_37 (fun x _ => w_ck1 (b := b_5) (r := r_37) (s := s) (hL' b_5 _ (by simp)) (hL' r_37 _ (by simp)) x)) (.some rfl rfl rfl rfl gbf) rfl rfl ?_
        refine XO_or0 rfl rfl rfl rfl rfl ?_
        refine XO_nil ?_
        refine at_then ?_
        refine X_cond rfl (fun hc53 => ?_) (fun hc53 => ?_)
        · skip
          have hbad : chkR ps = 380 := chkR_3 hlen h0 (by rw [← lsQ_lsP h0]; exact range_bad (k := k) (by rw [hP.len]; exact hlt_k) (by rw [lsQ_at hp hp1 hl hs]; exact congrArg (! ·) hc53))
          refine X_seq ?_
          refine X_region ?_
          refine XO_v0 (ev_assign rfl) rfl rfl rfl ?_
          refine XO_nil ?_
          refine at_then ?_
          refine X_ret ?_
          refine at_then_r ?_
          refine at_block_r ?_
          refine at_then_r ?_
          refine at_then_r ?_
          refine at_block_r ?_
          refine at_then_r ?_
          first
          | exact at_ret1 rfl rfl (fun w hw => ⟨by rw [chkR_1 hlen], (hw.mono hIc).drop⟩)
          | exact at_ret1 rfl rfl (fun w hw => ⟨by rw [hbad], (hw.mono hIc).drop⟩)
          | exact at_ret1 rfl rfl (fun w hw => ⟨by rw [chkR_5 hlen h0 hls htog], (hw.mono hIc).drop⟩)
        · skip
          refine X_skip ?_
          refine at_then ?_
          have hD := HLe.refl I
          refine X_noP ?_
          refine X_drawS I [(b_8, .cells (encP p).toArray 53 (0, 0)), (b_5, .cells #[.map (some r_37)] 71 (0, 0))] mixed ?_
          refine XD_take 0 rfl (ev_load rfl sct_71 (fun hg => by first | exact Sl.get0 hS2 hy rfl | exact Cell.h0 rfl | exact Cell.h1 rfl | exact Cell.h2 rfl | exact Cell.h3 rfl | exact Cell.h4 rfl | exact Cell.h5 rfl | (repeat (first | exact Cell.here rfl | apply Cell.there | apply Cell.app)))) (.none rfl) rfl rfl rfl (by kernel_rfl) (by kernel_rfl) (by kernel_rfl) noP_ok hD (by repeat (first | exact .refl | exact subL_nil | refine .keep ?_ | refine .drop ?_ | refine subL_add ?_)) ?_
          refine XD_take 1 rfl (ev_fieldAddr rfl fld_53_0) (.none rfl) rfl rfl rfl (by kernel_rfl) (by kernel_rfl) (by kernel_rfl) noP_ok hD (by repeat (first | exact .refl | exact subL_nil | refine .keep ?_ | refine .drop ?_ | refine subL_add ?_)) ?_
          refine XD_take 2 rfl (ev_load rfl sct_3 (fun hg => by first | exact Sl.get0 hS2 hy rfl | exact Cell.h0 rfl | exact Cell.h1 rfl | exact Cell.h2 rfl | exact Cell.h3 rfl | exact Cell.h4 rfl | exact Cell.h5 rfl | (repeat (first | exact Cell.here rfl | apply Cell.there | apply Cell.app)))) (.none rfl) rfl rfl rfl (by kernel_rfl) (by kernel_rfl) (by kernel_rfl) noP_ok hD (by repeat (first | exact .refl | exact subL_nil | refine .keep ?_ | refine .drop ?_ | refine subL_add ?_)) ?_
          refine XD_take 3 rfl (ev_fieldAddr rfl fld_53_0) (.none rfl) rfl rfl rfl (by kernel_rfl) (by kernel_rfl) (by kernel_rfl) noP_ok hD (by repeat (first | exact .refl | exact subL_nil | refine .keep ?_ | refine .drop ?_ | refine subL_add ?_)) ?_
          refine XD_take 4 rfl (ev_load rfl sct_3 (fun hg => by first | exact Sl.get0 hS2 hy rfl | exact Cell.h0 rfl | exact Cell.h1 rfl | exact Cell.h2 rfl | exact Cell.h3 rfl | exact Cell.h4 rfl | exact Cell.h5 rfl | (repeat (first | exact Cell.here rfl | apply Cell.there | apply Cell.app)))) (.none rfl) rfl rfl rfl (by kernel_rfl) (by kernel_rfl) (by kernel_rfl) noP_ok hD (by repeat (first | exact .refl | exact subL_nil | refine .keep ?_ | refine .drop ?_ | refine subL_add ?_)) ?_
          refine XD_one 5 rfl (by kernel_rfl) ?_
          refine XO_mapUpdate (m := s) (ek := Value.int .i64) (ev := Value.bool) (a := p.id)  true mpt_71 key_3 rfl rfl rfl rfl (by first | exact Upd.u0 | exact Upd.u1 | exact Upd.u2 | exact Upd.u3 | exact Upd.u4 | exact Upd.u5 | (repeat (first | exact Upd.here | apply Upd.there | apply upd_app))) ?_
          refine XO_nil ?_
          refine at_D hD (by repeat (first | exact .refl | exact subL_nil | refine .keep ?_ | refine .drop ?_ | refine subL_add ?_)) ?_
          refine XD_take 6 rfl (ev_assign rfl) (.none rfl) rfl rfl rfl (by kernel_rfl) (by kernel_rfl) (by kernel_rfl) noP_ok hD (by repeat (first | exact .refl | exact subL_nil | refine .keep ?_ | refine .drop ?_ | refine subL_add ?_)) ?_
          refine XD_done (by kernel_rfl) ?_
          refine at_noP ?_
          refine at_block_n ?_
          refine at_then ?_
          refine X_region ?_
          refine XO_v0 (ev_arB rfl rfl rfl (fun _ => by omega)) rfl rfl rfl ?_
          refine XO_v0 (ev_move rfl) rfl rfl rfl ?_
          refine XO_nil ?_
          exact at_met2 _ _ ⟨n - (k + 1), by omega, k + 1, _, _, rfl, rfl, rfl, rfl, by omega, range_step hall (by rw [lsQ_at hp hp1 hl hs]; exact congrArg (! ·) hc53), lastP_step hp, fun x => by rw [setM_put, hs, has_snoc hp]⟩ (.cons rfl (.cons rfl (.cons rfl (.cons rfl (.cons rfl (.cons rfl .nil)))))) (by repeat (first | exact .refl | exact subL_left | refine subL_app ?_ | refine .drop ?_ | refine subL_add ?_))
      · skip
        have hge_k : n ≤ k := by have h := hc41; simp at h; omega
        have hls : lsB ps = true := by rw [← lsQ_lsP h0, hP.len, show n = k by omega]; exact hall
        have hL : Lst ps := ls_lst h0 hls
        refine X_exit ?_
        refine at_then_e ?_
        refine at_then_e ?_
        refine at_block_hit ?_
        refine at_then ?_
        refine X_seq ?_
        refine X_region ?_
        refine XO_v0 (ev_move rfl) rfl rfl rfl ?_
        refine XO_callM (cap := []) (vs := [_]) rfl rfl fun_38 .nil (w_stands hP hn hL hnd) rfl rfl ?_
        rintro vv3 I3 L3 hI3 ⟨rfl, r9, rfl, hOn⟩
        have hP := hP.mono hI3
        have hIc := hIc.trans hI3
        refine XO_v0 (ev_assign rfl) rfl rfl rfl ?_
        refine XO_nil ?_
        refine at_then ?_
        refine X_seq ?_
        refine X_region ?_
        refine XO_makeMap rfl rfl (fun r_62 => ?_)
        refine XO_makeMap rfl rfl (fun r_63 => ?_)
        refine XO_v0 (ev_assign rfl) rfl rfl rfl ?_
        refine XO_v0 (ev_assign rfl) rfl rfl rfl ?_
        refine XO_nil ?_
        refine at_then ?_
        refine X_seq ?_
        refine X_seq ?_
        refine X_dropTo [(r_63, mapO (Value.int .i64) fstT []), (r_62, mapO (Value.int .i64) (Value.int .i64) [])] (by repeat (first | exact subL_nil | exact .refl | refine .keep ?_ | refine .drop ?_)) ?_
        refine X_region ?_
        refine XO_v0 (ev_move rfl) rfl rfl rfl ?_
        refine XO_v0 (ev_lenS rfl slt_22) rfl rfl rfl ?_
        refine XO_v0 (ev_move rfl) rfl rfl rfl ?_
        refine XO_nil ?_
        refine at_then ?_
        refine X_block ?_
        refine X_loopT [(0, _), (9, _), (10, _), (11, _), (64, _), (65, _)] (.cons rfl (.cons rfl (.cons rfl (.cons rfl (.cons rfl (.cons rfl .nil)))))) (fun T L0 mz E I' loc' => ∃ (k : Nat) (mi : List (Int × Int)) (mr : List (Int × (Value × Nat × List Value))) (L : Go.Kn.Loc), mz = n - k ∧ E = (66, .int .i64 k) :: T ∧ I3 = I' ∧ (r_63, mapO (Value.int .i64) fstT mr) :: (r_62, mapO (Value.int .i64) (Value.int .i64) mi) :: L = loc' ∧ k ≤ n ∧ InsM mi (ps.take k) ∧ RemM mr (ps.take k) ∧ OwnAll 3 1 (mr.map (·.2)) L) _ _ _ _ ⟨0, [], [], [], rfl, rfl, rfl, rfl, Nat.zero_le _, InsM.nil, RemM.nil, OwnAll.nil⟩ (.cons rfl (.cons rfl (.cons rfl (.cons rfl (.cons rfl (.cons rfl (.cons rfl .nil))))))) (HLe.refl _) rfl ?_
        rintro mz E I' loc' ⟨k, mi, mr, L, rfl, rfl, rfl, rfl, hk, hmi, hmr, hAll⟩
        refine X_seq ?_
        refine X_region ?_
        refine XO_v0 (ev_cmp rfl rfl rfl) rfl rfl rfl ?_
        refine XO_nil ?_
        refine at_then ?_
        refine X_seq ?_
        refine X_cond rfl (fun hc67 => ?_) (fun hc67 => ?_)
        · skip
          have hlt_k : k < n := by have h := hc67; simp at h; omega
          have hP1 := hP.1
          obtain ⟨p, hp, hN⟩ := hP.at hlt_k
          have hpm := List.mem_of_getElem? hp
          have hN : Sl I3 1 encI p.a p.n p.c p.needs := hN
          have hpn := hnd p hpm
          refine X_skip ?_
          refine at_then ?_
          refine X_seq ?_
          refine X_block ?_
          refine X_seq ?_
          refine X_region ?_
          refine XO_v0 (ev_indexSl rfl rfl slt_22 (by assumption) (fun hg => by first | omega | (simp [conj] at hg; omega))) rfl rfl rfl ?_
          refine XO_v0 (ev_loadA rfl agt_53 (fun hg => by first | exact Sl.getA hP1 hp | exact Cells.g0 | exact Cells.g1 | exact Cells.g2 | exact Cells.g3 | exact Cells.g4 | exact Cells.g5 | exact Cells.s0 (vs := [_, _, _, _, _, _, _, _, _, _, _, _, _, _, _, _, _, _, _]) rfl | exact Cells.s1 (vs := [_, _, _, _, _, _, _, _, _, _, _, _, _, _, _, _, _, _, _]) rfl | exact Cells.s2 (vs := [_, _, _, _, _, _, _, _, _, _, _, _, _, _, _, _, _, _, _]) rfl | exact Cells.s3 (vs := [_, _, _, _, _, _, _, _, _, _, _, _, _, _, _, _, _, _, _]) rfl | exact Cells.s4 (vs := [_, _, _, _, _, _, _, _, _, _, _, _, _, _, _, _, _, _, _]) rfl | exact Cells.s5 (vs := [_, _, _, _, _, _, _, _, _, _, _, _, _, _, _, _, _, _, _]) rfl | (repeat (first | exact Cells.here | apply Cells.there | apply Cells.app))) rfl) rfl rfl rfl ?_
          refine XO_alloc zt_53 rfl rfl (fun b_13 => ?_)
          refine XO_storeA rfl rfl szt_53 rfl rfl rfl rfl (by first | exact Upd.u0 | exact Upd.u1 | exact Upd.u2 | exact Upd.u3 | exact Upd.u4 | exact Upd.u5 | (repeat (first | exact Upd.here | apply Upd.there | apply upd_app))) ?_
          refine XO_nil ?_
          refine at_then ?_
          refine X_seq ?_
          refine X_region ?_
          refine XO_v0 (ev_fieldAddr rfl fld_53_1) rfl rfl rfl ?_
          refine XO_v0 (ev_load rfl sct_3 (fun hg => by first | exact Sl.get0 hS2 hy rfl | exact Cell.h0 rfl | exact Cell.h1 rfl | exact Cell.h2 rfl | exact Cell.h3 rfl | exact Cell.h4 rfl | exact Cell.h5 rfl | (repeat (first | exact Cell.here rfl | apply Cell.there | apply Cell.app)))) rfl rfl rfl ?_
          refine XO_nil ?_
          refine at_then ?_
          refine X_block ?_
          refine X_seq ?_
          refine X_region ?_
          refine XO_v0 (ev_cmp rfl rfl rfl) rfl rfl rfl ?_
          refine XO_v0 (ev_assign rfl) rfl rfl rfl ?_
          refine XO_nil ?_
          refine at_then ?_
          refine X_cond rfl (fun hc72 => ?_) (fun hc72 => ?_)
          · skip
            have hk2 : p.kind = 2 := by simpa using hc72
            refine X_seq ?_
            refine X_seq ?_
            refine X_region ?_
            refine XO_v0 (ev_move rfl) rfl rfl rfl ?_
            refine XO_v0 (ev_fieldAddr rfl fld_53_2) rfl rfl rfl ?_
            refine XO_v0 (ev_load rfl sct_3 (fun hg => by first | exact Sl.get0 hS2 hy rfl | exact Cell.h0 rfl | exact Cell.h1 rfl | exact Cell.h2 rfl | exact Cell.h3 rfl | exact Cell.h4 rfl | exact Cell.h5 rfl | (repeat (first | exact Cell.here rfl | apply Cell.there | apply Cell.app)))) rfl rfl rfl ?_
            refine XO_v0 (ev_lookupOkI (m := mi) (ek := Value.int .i64) (a := p.sign)  mpt_76 key_3 rfl rfl (fun _ => .inr (by simp))) rfl rfl rfl ?_
            refine XO_v0 (ev_move rfl) rfl rfl rfl ?_
            refine XO_v0 (ev_extract rfl rfl) rfl rfl rfl ?_
            refine XO_v0 (ev_extract rfl rfl) rfl rfl rfl ?_
            refine XO_v0 (ev_assign rfl) rfl rfl rfl ?_
            refine XO_v0 (ev_assign rfl) rfl rfl rfl ?_
            refine XO_nil ?_
            refine at_then ?_
            refine X_seq ?_
            refine X_region ?_
            refine XO_v0 (ev_move rfl) rfl rfl rfl ?_
            refine XO_nil ?_
            refine at_then ?_
            refine X_cond rfl (fun hc81 => ?_) (fun hc81 => ?_)
            · skip
              obtain ⟨id, hid⟩ := Option.isSome_iff_exists.1 hc81
              have hbad : chkR ps = 380 := chkR_4 hlen h0 hls (tog_two hL hmi hp hk2 hid)
              refine X_seq ?_
              refine X_region ?_
              refine XO_v0 (ev_assign rfl) rfl rfl rfl ?_
              refine XO_nil ?_
              refine at_then ?_
              refine X_ret ?_
              refine at_then_r ?_
              refine at_block_r ?_
              refine at_block_r ?_
              refine at_then_r ?_
              refine at_then_r ?_
              refine at_block_r ?_
              refine at_then_r ?_
              first
              | exact at_ret1 rfl rfl (fun w hw => ⟨by rw [chkR_1 hlen], (hw.mono hIc).drop⟩)
              | exact at_ret1 rfl rfl (fun w hw => ⟨by rw [hbad], (hw.mono hIc).drop⟩)
              | exact at_ret1 rfl rfl (fun w hw => ⟨by rw [chkR_5 hlen h0 hls htog], (hw.mono hIc).drop⟩)
            · skip
              have hnone : mget mi p.sign = none := by simpa using hc81
              refine X_skip ?_
              refine at_then ?_
              refine X_region ?_
              refine XO_v0 (ev_move rfl) rfl rfl rfl ?_
              refine XO_v0 (ev_fieldAddr rfl fld_53_2) rfl rfl rfl ?_
              refine XO_v0 (ev_load rfl sct_3 (fun hg => by first | exact Sl.get0 hS2 hy rfl | exact Cell.h0 rfl | exact Cell.h1 rfl | exact Cell.h2 rfl | exact Cell.h3 rfl | exact Cell.h4 rfl | exact Cell.h5 rfl | (repeat (first | exact Cell.here rfl | apply Cell.there | apply Cell.app)))) rfl rfl rfl ?_
              refine XO_v0 (ev_fieldAddr rfl fld_53_0) rfl rfl rfl ?_
              refine XO_v0 (ev_load rfl sct_3 (fun hg => by first | exact Sl.get0 hS2 hy rfl | exact Cell.h0 rfl | exact Cell.h1 rfl | exact Cell.h2 rfl | exact Cell.h3 rfl | exact Cell.h4 rfl | exact Cell.h5 rfl | (repeat (first | exact Cell.here rfl | apply Cell.there | apply Cell.app)))) rfl rfl rfl ?_
              refine XO_mapUpdate (m := mi) (ek := Value.int .i64) (ev := Value.int .i64) (a := p.sign)  p.id mpt_76 key_3 rfl rfl rfl rfl (by first | exact Upd.u0 | exact Upd.u1 | exact Upd.u2 | exact Upd.u3 | exact Upd.u4 | exact Upd.u5 | (repeat (first | exact Upd.here | apply Upd.there | apply upd_app))) ?_
              refine XO_nil ?_
              refine at_block_n ?_
              refine at_block_n ?_
              refine at_then ?_
              refine X_region ?_
              refine XO_v0 (ev_arB rfl rfl rfl (fun _ => by omega)) rfl rfl rfl ?_
              refine XO_v0 (ev_move rfl) rfl rfl rfl ?_
              refine XO_nil ?_
              first
              | exact at_met2 _ _ ⟨n - (k + 1), by omega, k + 1, _, _, _, rfl, rfl, rfl, rfl, by omega, hmi.put hp hk2 hnone, hmr.skip hp (by omega), hAll⟩ (.cons rfl (.cons rfl (.cons rfl (.cons rfl (.cons rfl (.cons rfl (.cons rfl .nil))))))) (by repeat (first | exact .refl | exact subL_left | refine subL_app ?_ | refine .drop ?_ | refine subL_add ?_))
              | exact at_met2 _ _ ⟨n - (k + 1), by omega, k + 1, _, _, _, rfl, rfl, rfl, rfl, by omega, hmi.skip hp hk2n, hmr.skip hp hk3n, hAll⟩ (.cons rfl (.cons rfl (.cons rfl (.cons rfl (.cons rfl (.cons rfl (.cons rfl .nil))))))) (by repeat (first | exact .refl | exact subL_left | refine subL_app ?_ | refine .drop ?_ | refine subL_add ?_))
              | exact at_metP _ _ (L9 ++ ((r_63, _) :: (r_62, _) :: (A ++ B))) ⟨n - (k + 1), by omega, k + 1, _, _, A ++ (L9 ++ B), rfl, rfl, rfl, rfl, by omega, hmi.skip hp hk2n, hmr.put hp hk3, hset (v9, _, _) L9 hO9⟩ (.cons rfl (.cons rfl (.cons rfl (.cons rfl (.cons rfl (.cons rfl (.cons rfl .nil))))))) perm_in (by repeat (first | exact .refl | exact subL_left | refine subL_app ?_ | refine .drop ?_ | refine subL_add ?_))
          · skip
            have hk2n : p.kind ≠ 2 := by simpa using hc72
            refine X_seq ?_
            refine X_region ?_
            refine XO_v0 (ev_cmp rfl rfl rfl) rfl rfl rfl ?_
            refine XO_v0 (ev_assign rfl) rfl rfl rfl ?_
            refine XO_nil ?_
            refine at_then ?_
            refine X_cond rfl (fun hc87 => ?_) (fun hc87 => ?_)
            · skip
              have hk3 : p.kind = 3 := by simpa using hc87
              obtain ⟨A, Lt, B, rfl, hOt, hset⟩ := hAll.at p.sign
              have hq := rem_le hmr hOt
              have hq2 := List.length_take_le k ps
              have hD := HLe.refl I3
              refine X_noP ?_
              refine X_drawS I3 [(b_13, .cells (encP p).toArray 53 (0, 0))] mixed ?_
              refine XD_take 0 rfl (ev_move rfl) (.none rfl) rfl rfl rfl (by kernel_rfl) (by kernel_rfl) (by kernel_rfl) noP_ok hD (by repeat (first | exact .refl | exact subL_nil | refine .keep ?_ | refine .drop ?_ | refine subL_add ?_)) ?_
              refine XD_take 1 rfl (ev_fieldAddr rfl fld_53_2) (.none rfl) rfl rfl rfl (by kernel_rfl) (by kernel_rfl) (by kernel_rfl) noP_ok hD (by repeat (first | exact .refl | exact subL_nil | refine .keep ?_ | refine .drop ?_ | refine subL_add ?_)) ?_
              refine XD_take 2 rfl (ev_load rfl sct_3 (fun hg => by first | exact Sl.get0 hS2 hy rfl | exact Cell.h0 rfl | exact Cell.h1 rfl | exact Cell.h2 rfl | exact Cell.h3 rfl | exact Cell.h4 rfl | exact Cell.h5 rfl | (repeat (first | exact Cell.here rfl | apply Cell.there | apply Cell.app)))) (.none rfl) rfl rfl rfl (by kernel_rfl) (by kernel_rfl) (by kernel_rfl) noP_ok hD (by repeat (first | exact .refl | exact subL_nil | refine .keep ?_ | refine .drop ?_ | refine subL_add ?_)) ?_
              refine XD_take 3 rfl (ev_move rfl) (.none rfl) rfl rfl rfl (by kernel_rfl) (by kernel_rfl) (by kernel_rfl) noP_ok hD (by repeat (first | exact .refl | exact subL_nil | refine .keep ?_ | refine .drop ?_ | refine subL_add ?_)) ?_
              refine XD_take 4 rfl (ev_fieldAddr rfl fld_53_2) (.none rfl) rfl rfl rfl (by kernel_rfl) (by kernel_rfl) (by kernel_rfl) noP_ok hD (by repeat (first | exact .refl | exact subL_nil | refine .keep ?_ | refine .drop ?_ | refine subL_add ?_)) ?_
              refine XD_take 5 rfl (ev_load rfl sct_3 (fun hg => by first | exact Sl.get0 hS2 hy rfl | exact Cell.h0 rfl | exact Cell.h1 rfl | exact Cell.h2 rfl | exact Cell.h3 rfl | exact Cell.h4 rfl | exact Cell.h5 rfl | (repeat (first | exact Cell.here rfl | apply Cell.there | apply Cell.app)))) (.none rfl) rfl rfl rfl (by kernel_rfl) (by kernel_rfl) (by kernel_rfl) noP_ok hD (by repeat (first | exact .refl | exact subL_nil | refine .keep ?_ | refine .drop ?_ | refine subL_add ?_)) ?_
              refine XD_take 7 rfl (ev_fieldAddr rfl fld_53_0) (.none rfl) rfl rfl rfl (by kernel_rfl) (by kernel_rfl) (by kernel_rfl) noP_ok hD (by repeat (first | exact .refl | exact subL_nil | refine .keep ?_ | refine .drop ?_ | refine subL_add ?_)) ?_
              refine XD_take 8 rfl (ev_load rfl sct_3 (fun hg => by first | exact Sl.get0 hS2 hy rfl | exact Cell.h0 rfl | exact Cell.h1 rfl | exact Cell.h2 rfl | exact Cell.h3 rfl | exact Cell.h4 rfl | exact Cell.h5 rfl | (repeat (first | exact Cell.here rfl | apply Cell.there | apply Cell.app)))) (.none rfl) rfl rfl rfl (by kernel_rfl) (by kernel_rfl) (by kernel_rfl) noP_ok hD (by repeat (first | exact .refl | exact subL_nil | refine .keep ?_ | refine .drop ?_ | refine subL_add ?_)) ?_
              refine XD_two 6 9 rfl rfl (by kernel_rfl) ?_ ?_
              · skip
                refine XO_v0 (ev_lookupT (m := mr) (ek := Value.int .i64) (a := p.sign)  mpt_77 key_3 rfl rfl (fun _ => .inr (by simp))) rfl rfl rfl ?_
                refine XO_nil ?_
                refine at_D hD (by repeat (first | exact .refl | exact subL_nil | refine .keep ?_ | refine .drop ?_ | refine subL_add ?_)) ?_
                refine XD_one 9 rfl (by kernel_rfl) ?_
                refine XO_buildSlice (ps := [(0, _)]) (m := [encI p.id]) elt_23 rfl (.cons rfl (.nil)) rfl (by simp [encI_len]) (by decide) (by decide) rfl rfl (fun b_98 => ?_)
                refine XO_nil ?_
                refine at_D hD (by repeat (first | exact .refl | exact subL_nil | refine .keep ?_ | refine .drop ?_ | refine subL_add ?_)) ?_
                refine XD_one 10 rfl (by kernel_rfl) ?_
                refine XO_append (v := _) (ys := [p.id].flatMap encI) (L := Lt) rfl rfl elt_23 hOt (by repeat (first | exact .cons .here .nil | exact split_all | exact split_app | apply split_cons | apply split_skip)) ⟨rfl, fun _ => rfl, Cells.here⟩ (one_I [p.id]) (by omega) rfl rfl ?_
                intro v9 L9 hO9 _
                refine XO_nil ?_
                refine at_D hD (by repeat (first | exact .refl | exact subL_nil | refine .keep ?_ | refine .drop ?_ | refine subL_add ?_)) ?_
                refine XD_one 11 rfl (by kernel_rfl) ?_
                refine XO_mapUpdate (m := mr) (ek := Value.int .i64) (ev := fstT) (a := p.sign)  (v9, ((mget mr p.sign).getD nilT).2.1 + 1, ((mget mr p.sign).getD nilT).2.2 ++ [p.id].flatMap encI) mpt_77 key_3 rfl rfl rfl rfl (by first | exact Upd.u0 | exact Upd.u1 | exact Upd.u2 | exact Upd.u3 | exact Upd.u4 | exact Upd.u5 | (repeat (first | exact Upd.here | apply Upd.there | apply upd_app))) ?_
                refine XO_nil ?_
                refine at_D hD (by repeat (first | exact .refl | exact subL_nil | refine .keep ?_ | refine .drop ?_ | refine subL_add ?_)) ?_
                refine XD_done (by kernel_rfl) ?_
                refine at_noP ?_
                refine at_block_n ?_
                refine at_block_n ?_
                refine at_then ?_
                refine X_region ?_
                refine XO_v0 (ev_arB rfl rfl rfl (fun _ => by omega)) rfl rfl rfl ?_
                refine XO_v0 (ev_move rfl) rfl rfl rfl ?_
                refine XO_nil ?_
                first
                | exact at_met2 _ _ ⟨n - (k + 1), by omega, k + 1, _, _, _, rfl, rfl, rfl, rfl, by omega, hmi.put hp hk2 hnone, hmr.skip hp (by omega), hAll⟩ (.cons rfl (.cons rfl (.cons rfl (.cons rfl (.cons rfl (.cons rfl (.cons rfl .nil))))))) (by repeat (first | exact .refl | exact subL_left | refine subL_app ?_ | refine .drop ?_ | refine subL_add ?_))
                | exact at_met2 _ _ ⟨n - (k + 1), by omega, k + 1, _, _, _, rfl, rfl, rfl, rfl, by omega, hmi.skip hp hk2n, hmr.skip hp hk3n, hAll⟩ (.cons rfl (.cons rfl (.cons rfl (.cons rfl (.cons rfl (.cons rfl (.cons rfl .nil))))))) (by repeat (first | exact .refl | exact subL_left | refine subL_app ?_ | refine .drop ?_ | refine subL_add ?_))
                | exact at_metP _ _ (L9 ++ ((r_63, _) :: (r_62, _) :: (A ++ B))) ⟨n - (k + 1), by omega, k + 1, _, _, A ++ (L9 ++ B), rfl, rfl, rfl, rfl, by omega, hmi.skip hp hk2n, hmr.put hp hk3, hset (v9, _, _) L9 hO9⟩ (.cons rfl (.cons rfl (.cons rfl (.cons rfl (.cons rfl (.cons rfl (.cons rfl .nil))))))) perm_in (by repeat (first | exact .refl | exact subL_left | refine subL_app ?_ | refine .drop ?_ | refine subL_add ?_))
              · skip
                refine XO_buildSlice (ps := [(0, _)]) (m := [encI p.id]) elt_23 rfl (.cons rfl (.nil)) rfl (by simp [encI_len]) (by decide) (by decide) rfl rfl (fun b_98 => ?_)
                refine XO_nil ?_
                refine at_D hD (by repeat (first | exact .refl | exact subL_nil | refine .keep ?_ | refine .drop ?_ | refine subL_add ?_)) ?_
                refine XD_one 6 rfl (by kernel_rfl) ?_
                refine XO_v0 (ev_lookupT (m := mr) (ek := Value.int .i64) (a := p.sign)  mpt_77 key_3 rfl rfl (fun _ => .inr (by simp))) rfl rfl rfl ?_
                refine XO_nil ?_
                refine at_D hD (by repeat (first | exact .refl | exact subL_nil | refine .keep ?_ | refine .drop ?_ | refine subL_add ?_)) ?_
                refine XD_one 10 rfl (by kernel_rfl) ?_
                refine XO_append (v := _) (ys := [p.id].flatMap encI) (L := Lt) rfl rfl elt_23 hOt (by repeat (first | exact .cons .here .nil | exact split_all | exact split_app | apply split_cons | apply split_skip)) ⟨rfl, fun _ => rfl, Cells.here⟩ (one_I [p.id]) (by omega) rfl rfl ?_
                intro v9 L9 hO9 _
                refine XO_nil ?_
                refine at_D hD (by repeat (first | exact .refl | exact subL_nil | refine .keep ?_ | refine .drop ?_ | refine subL_add ?_)) ?_
                refine XD_one 11 rfl (by kernel_rfl) ?_
                refine XO_mapUpdate (m := mr) (ek := Value.int .i64) (ev := fstT) (a := p.sign)  (v9, ((mget mr p.sign).getD nilT).2.1 + 1, ((mget mr p.sign).getD nilT).2.2 ++ [p.id].flatMap encI) mpt_77 key_3 rfl rfl rfl rfl (by first | exact Upd.u0 | exact Upd.u1 | exact Upd.u2 | exact Upd.u3 | exact Upd.u4 | exact Upd.u5 | (repeat (first | exact Upd.here | apply Upd.there | apply upd_app))) ?_
                refine XO_nil ?_
                refine at_D hD (by repeat (first | exact .refl | exact subL_nil | refine .keep ?_ | refine .drop ?_ | refine subL_add ?_)) ?_
                refine XD_done (by kernel_rfl) ?_
                refine at_noP ?_
                refine at_block_n ?_
                refine at_block_n ?_
                refine at_then ?_
                refine X_region ?_
                refine XO_v0 (ev_arB rfl rfl rfl (fun _ => by omega)) rfl rfl rfl ?_
                refine XO_v0 (ev_move rfl) rfl rfl rfl ?_
                refine XO_nil ?_
                first
                | exact at_met2 _ _ ⟨n - (k + 1), by omega, k + 1, _, _, _, rfl, rfl, rfl, rfl, by omega, hmi.put hp hk2 hnone, hmr.skip hp (by omega), hAll⟩ (.cons rfl (.cons rfl (.cons rfl (.cons rfl (.cons rfl (.cons rfl (.cons rfl .nil))))))) (by repeat (first | exact .refl | exact subL_left | refine subL_app ?_ | refine .drop ?_ | refine subL_add ?_))
                | exact at_met2 _ _ ⟨n - (k + 1), by omega, k + 1, _, _, _, rfl, rfl, rfl, rfl, by omega, hmi.skip hp hk2n, hmr.skip hp hk3n, hAll⟩ (.cons rfl (.cons rfl (.cons rfl (.cons rfl (.cons rfl (.cons rfl (.cons rfl .nil))))))) (by repeat (first | exact .refl | exact subL_left | refine subL_app ?_ | refine .drop ?_ | refine subL_add ?_))
                | exact at_metP _ _ (L9 ++ ((r_63, _) :: (r_62, _) :: (A ++ B))) ⟨n - (k + 1), by omega, k + 1, _, _, A ++ (L9 ++ B), rfl, rfl, rfl, rfl, by omega, hmi.skip hp hk2n, hmr.put hp hk3, hset (v9, _, _) L9 hO9⟩ (.cons rfl (.cons rfl (.cons rfl (.cons rfl (.cons rfl (.cons rfl (.cons rfl .nil))))))) perm_in (by repeat (first | exact .refl | exact subL_left | refine subL_app ?_ | refine .drop ?_ | refine subL_add ?_))
            · skip
              have hk3n : p.kind ≠ 3 := by simpa using hc87
              refine X_skip ?_
              refine at_block_n ?_
              refine at_block_n ?_
              refine at_then ?_
              refine X_region ?_
              refine XO_v0 (ev_arB rfl rfl rfl (fun _ => by omega)) rfl rfl rfl ?_
              refine XO_v0 (ev_move rfl) rfl rfl rfl ?_
              refine XO_nil ?_
              first
              | exact at_met2 _ _ ⟨n - (k + 1), by omega, k + 1, _, _, _, rfl, rfl, rfl, rfl, by omega, hmi.put hp hk2 hnone, hmr.skip hp (by omega), hAll⟩ (.cons rfl (.cons rfl (.cons rfl (.cons rfl (.cons rfl (.cons rfl (.cons rfl .nil))))))) (by repeat (first | exact .refl | exact subL_left | refine subL_app ?_ | refine .drop ?_ | refine subL_add ?_))
              | exact at_met2 _ _ ⟨n - (k + 1), by omega, k + 1, _, _, _, rfl, rfl, rfl, rfl, by omega, hmi.skip hp hk2n, hmr.skip hp hk3n, hAll⟩ (.cons rfl (.cons rfl (.cons rfl (.cons rfl (.cons rfl (.cons rfl (.cons rfl .nil))))))) (by repeat (first | exact .refl | exact subL_left | refine subL_app ?_ | refine .drop ?_ | refine subL_add ?_))
              | exact at_metP _ _ (L9 ++ ((r_63, _) :: (r_62, _) :: (A ++ B))) ⟨n - (k + 1), by omega, k + 1, _, _, A ++ (L9 ++ B), rfl, rfl, rfl, rfl, by omega, hmi.skip hp hk2n, hmr.put hp hk3, hset (v9, _, _) L9 hO9⟩ (.cons rfl (.cons rfl (.cons rfl (.cons rfl (.cons rfl (.cons rfl (.cons rfl .nil))))))) perm_in (by repeat (first | exact .refl | exact subL_left | refine subL_app ?_ | refine .drop ?_ | refine subL_add ?_))
        · skip
          have hge_k : n ≤ k := by have h := hc67; simp at h; omega
          rw [take_all hP.len hge_k] at hmi hmr
          refine X_exit ?_
          refine at_then_e ?_
          refine at_then_e ?_
          refine at_block_hit ?_
          refine at_then ?_
          refine X_seq ?_
          refine X_seq ?_
          refine X_freezeAll (fun I5 hI5 hb5 => ?_)
          have hP := hP.mono hI5
          have hOn := hOn.mono hI5
          have hIc := hIc.trans hI5
          have hmiI : I5 r_62 = some (mapO (Value.int .i64) (Value.int .i64) mi) := hb5 _ _ (by simp)
          have hmrI : I5 r_63 = some (mapO (Value.int .i64) fstT mr) := hb5 _ _ (by simp)
          have hrem := rem_sl hmr hAll (fun b o h => hb5 b o (by simp [h]))
          obtain ⟨m, hm1, hm2⟩ := hOn
          refine X_region ?_
          refine XO_v0 (ev_move rfl) rfl rfl rfl ?_
          refine XO_v0 (ev_lenS rfl slt_22) rfl rfl rfl ?_
          refine XO_v0 (ev_move rfl) rfl rfl rfl ?_
          refine XO_nil ?_
          refine at_then ?_
          refine X_block ?_
          refine X_loopT [(9, _), (10, _), (11, _), (101, _), (102, _)] (.cons rfl (.cons rfl (.cons rfl (.cons rfl (.cons rfl .nil))))) (fun T L0 mz E I' loc' => ∃ (k : Nat), mz = n - k ∧ E = (103, .int .i64 k) :: T ∧ I5 = I' ∧ [] = loc' ∧ k ≤ n ∧ (ps.take k).all (tgP ps) = true) _ _ _ _ ⟨0, rfl, rfl, rfl, rfl, Nat.zero_le _, rfl⟩ (.cons rfl (.cons rfl (.cons rfl (.cons rfl (.cons rfl (.cons rfl .nil)))))) (HLe.refl _) rfl ?_
          rintro mz E I' loc' ⟨k, rfl, rfl, rfl, rfl, hk, htg⟩
          refine X_seq ?_
          refine X_region ?_
          refine XO_v0 (ev_cmp rfl rfl rfl) rfl rfl rfl ?_
          refine XO_nil ?_
          refine at_then ?_
          refine X_seq ?_
          refine X_cond rfl (fun hc104 => ?_) (fun hc104 => ?_)
          · skip
            have hlt_k : k < n := by have h := hc104; simp at h; omega
            have hP1 := hP.1
            obtain ⟨p, hp, hN⟩ := hP.at hlt_k
            have hpm := List.mem_of_getElem? hp
            have hN : Sl I5 1 encI p.a p.n p.c p.needs := hN
            have hpn := hnd p hpm
            obtain ⟨ref, hget, sn, hsn, hsq⟩ := hm2.get ⟨p, hpm, rfl⟩
            refine X_skip ?_
            refine at_then ?_
            refine X_seq ?_
            refine X_block ?_
            refine X_seq ?_
            refine X_region ?_
            refine XO_v0 (ev_indexSl rfl rfl slt_22 (by assumption) (fun hg => by first | omega | (simp [conj] at hg; omega))) rfl rfl rfl ?_
            refine XO_v0 (ev_loadA rfl agt_53 (fun hg => by first | exact Sl.getA hP1 hp | exact Cells.g0 | exact Cells.g1 | exact Cells.g2 | exact Cells.g3 | exact Cells.g4 | exact Cells.g5 | exact Cells.s0 (vs := [_, _, _, _, _, _, _, _, _, _, _, _, _, _, _, _, _, _, _]) rfl | exact Cells.s1 (vs := [_, _, _, _, _, _, _, _, _, _, _, _, _, _, _, _, _, _, _]) rfl | exact Cells.s2 (vs := [_, _, _, _, _, _, _, _, _, _, _, _, _, _, _, _, _, _, _]) rfl | exact Cells.s3 (vs := [_, _, _, _, _, _, _, _, _, _, _, _, _, _, _, _, _, _, _]) rfl | exact Cells.s4 (vs := [_, _, _, _, _, _, _, _, _, _, _, _, _, _, _, _, _, _, _]) rfl | exact Cells.s5 (vs := [_, _, _, _, _, _, _, _, _, _, _, _, _, _, _, _, _, _, _]) rfl | (repeat (first | exact Cells.here | apply Cells.there | apply Cells.app))) rfl) rfl rfl rfl ?_
            refine XO_alloc zt_53 rfl rfl (fun b_17 => ?_)
            refine XO_storeA rfl rfl szt_53 rfl rfl rfl rfl (by first | exact Upd.u0 | exact Upd.u1 | exact Upd.u2 | exact Upd.u3 | exact Upd.u4 | exact Upd.u5 | (repeat (first | exact Upd.here | apply Upd.there | apply upd_app))) ?_
            refine XO_nil ?_
            refine at_then ?_
            refine X_seq ?_
            refine X_seq ?_
            refine X_region ?_
            refine XO_v0 (ev_move rfl) rfl rfl rfl ?_
            refine XO_v0 (ev_fieldAddr rfl fld_53_2) rfl rfl rfl ?_
            refine XO_v0 (ev_load rfl sct_3 (fun hg => by first | exact Sl.get0 hS2 hy rfl | exact Cell.h0 rfl | exact Cell.h1 rfl | exact Cell.h2 rfl | exact Cell.h3 rfl | exact Cell.h4 rfl | exact Cell.h5 rfl | (repeat (first | exact Cell.here rfl | apply Cell.there | apply Cell.app)))) rfl rfl rfl ?_
            refine XO_v0 (ev_lookupOkI (m := mi) (ek := Value.int .i64) (a := p.sign)  mpt_76 key_3 rfl rfl (fun _ => .inl hmiI)) rfl rfl rfl ?_
            refine XO_v0 (ev_move rfl) rfl rfl rfl ?_
            refine XO_v0 (ev_extract rfl rfl) rfl rfl rfl ?_
            refine XO_v0 (ev_extract rfl rfl) rfl rfl rfl ?_
            refine XO_v0 (ev_assign rfl) rfl rfl rfl ?_
            refine XO_v0 (ev_assign rfl) rfl rfl rfl ?_
            refine XO_nil ?_
            refine at_then ?_
            refine X_seq ?_
            refine X_region ?_
            refine XO_v0 (ev_move rfl) rfl rfl rfl ?_
            refine XO_v0 (ev_move rfl) rfl rfl rfl ?_
            refine XO_pushT 1 rfl rfl rfl ?_
            refine XO_v1 (ev_fieldAddr rfl fld_53_0) (.some rfl rfl rfl rfl gbt) rfl rfl rfl ?_
            refine XO_v1 (ev_load rfl sct_3 (fun hg => by first | exact Sl.get0 hS2 hy rfl | exact Cell.h0 rfl | exact Cell.h1 rfl | exact Cell.h2 rfl | exact Cell.h3 rfl | exact Cell.h4 rfl | exact Cell.h5 rfl | (repeat (first | exact Cell.here rfl | apply Cell.there | apply Cell.app)))) (.some rfl rfl rfl rfl gbt) rfl rfl rfl ?_
            refine XO_v1 (ev_move rfl) (.some rfl rfl rfl rfl gbt) rfl rfl rfl ?_
            refine XO_v1 (ev_cmp rfl rfl rfl) (.some rfl rfl rfl rfl gbt) rfl rfl rfl ?_
            refine XO_and0 rfl rfl rfl rfl rfl ?_
            refine XO_v0 (ev_move rfl) rfl rfl rfl ?_
            refine XO_pushT 7 rfl rfl rfl ?_
            refine XO_v1 (ev_move rfl) (.some rfl rfl rfl rfl gbt) rfl rfl rfl ?_
            refine XO_v1 (ev_fieldAddr rfl fld_53_0) (.some rfl rfl rfl rfl gbt) rfl rfl rfl ?_
            refine XO_v1 (ev_load rfl sct_3 (fun hg => by first | exact Sl.get0 hS2 hy rfl | exact Cell.h0 rfl | exact Cell.h1 rfl | exact Cell.h2 rfl | exact Cell.h3 rfl | exact Cell.h4 rfl | exact Cell.h5 rfl | (repeat (first | exact Cell.here rfl | apply Cell.there | apply Cell.app)))) (.some rfl rfl rfl rfl gbt) rfl rfl rfl ?_
            refine XO_v1 (ev_lookupG (m := m) (ek := Value.int .i64) (ev := refV) (a := p.id) hget mpt_74 key_3 rfl rfl (fun _ => .inl hm1)) (.some rfl rfl rfl rfl gbt) rfl rfl rfl ?_
            refine XO_v1 (ev_move rfl) (.some rfl rfl rfl rfl gbt) rfl rfl rfl ?_
            refine XO_v1 (ev_lookupBool (m := sn) mpt_71 key_3 rfl rfl (fun _ => .inl hsn)) (.some rfl rfl rfl rfl gbt) rfl rfl rfl ?_
            refine XO_v1 (ev_not rfl) (.some rfl rfl rfl rfl gbt) rfl rfl rfl ?_
            refine XO_and0 rfl rfl rfl rfl rfl ?_
            refine XO_nil ?_
            refine at_then ?_
            refine X_cond rfl (fun hc129 => ?_) (fun hc129 => ?_)
            · skip
              have hA := hc129
              simp only [show ∀ x, (mget sn x).getD false = onF ps p.id x from fun x => hsq.mem x] at hA
              have hbad : chkR ps = 380 := chkR_4 hlen h0 hls (by rw [tog_eq hL hmi]; exact all_no hp (by unfold tgP; rw [← tg_ins hmi, hA]; rfl))
              refine X_seq ?_
              refine X_region ?_
              refine XO_v0 (ev_assign rfl) rfl rfl rfl ?_
              refine XO_nil ?_
              refine at_then ?_
              refine X_ret ?_
              refine at_then_r ?_
              refine at_block_r ?_
              refine at_then_r ?_
              refine at_then_r ?_
              refine at_block_r ?_
              refine at_then_r ?_
              first
              | exact at_ret1 rfl rfl (fun w hw => ⟨by rw [chkR_1 hlen], (hw.mono hIc).drop⟩)
              | exact at_ret1 rfl rfl (fun w hw => ⟨by rw [hbad], (hw.mono hIc).drop⟩)
              | exact at_ret1 rfl rfl (fun w hw => ⟨by rw [chkR_5 hlen h0 hls htog], (hw.mono hIc).drop⟩)
            · skip
              have hA := hc129
              simp only [show ∀ x, (mget sn x).getD false = onF ps p.id x from fun x => hsq.mem x] at hA
              refine X_skip ?_
              refine at_then ?_
              refine X_seq ?_
              obtain ⟨av2, c2, hv2, hS2⟩ := hrem p.sign
              have hk3l := kindL_len (c := 3) (ps := ps) (s := p.sign)
              have hpl := hP.len
              refine X_region ?_
              refine XO_v0 (ev_move rfl) rfl rfl rfl ?_
              refine XO_v0 (ev_fieldAddr rfl fld_53_2) rfl rfl rfl ?_
              refine XO_v0 (ev_load rfl sct_3 (fun hg => by first | exact Sl.get0 hS2 hy rfl | exact Cell.h0 rfl | exact Cell.h1 rfl | exact Cell.h2 rfl | exact Cell.h3 rfl | exact Cell.h4 rfl | exact Cell.h5 rfl | (repeat (first | exact Cell.here rfl | apply Cell.there | apply Cell.app)))) rfl rfl rfl ?_
              refine XO_v0 (ev_lookupTE (m := mr) (ek := Value.int .i64) (a := p.sign) hv2 mpt_77 key_3 rfl rfl (fun _ => .inl hmrI)) rfl rfl rfl ?_
              refine XO_v0 (ev_lenS rfl slt_23) rfl rfl rfl ?_
              refine XO_v0 (ev_move rfl) rfl rfl rfl ?_
              refine XO_nil ?_
              refine at_then ?_
              refine X_block ?_
              refine X_loopT [(9, _), (10, _), (11, _), (17, _), (101, _), (102, _), (103, _), (133, _), (134, _)] (.cons rfl (.cons rfl (.cons rfl (.cons rfl (.cons rfl (.cons rfl (.cons rfl (.cons rfl (.cons rfl .nil))))))))) (fun T L0 mz E I' loc' => ∃ (j : Nat), mz = (kindL 3 ps p.sign).length - j ∧ E = (135, .int .i64 j) :: T ∧ I5 = I' ∧ [(b_17, .cells (encP p).toArray 53 (0, 0))] = loc' ∧ j ≤ (kindL 3 ps p.sign).length ∧ ((kindL 3 ps p.sign).take j).any (onF ps p.id) = false) _ _ _ _ ⟨0, rfl, rfl, rfl, rfl, Nat.zero_le _, rfl⟩ (.cons rfl (.cons rfl (.cons rfl (.cons rfl (.cons rfl (.cons rfl (.cons rfl (.cons rfl (.cons rfl (.cons rfl .nil)))))))))) (HLe.refl _) rfl ?_
              rintro mz E I' loc' ⟨j, rfl, rfl, rfl, rfl, hj, hno⟩
              refine X_seq ?_
              refine X_region ?_
              refine XO_v0 (ev_cmp rfl rfl rfl) rfl rfl rfl ?_
              refine XO_nil ?_
              refine at_then ?_
              refine X_seq ?_
              refine X_cond rfl (fun hc136 => ?_) (fun hc136 => ?_)
              · skip
                have hlt_j : j < (kindL 3 ps p.sign).length := by have h := hc136; simp at h; omega
                obtain ⟨y, hy⟩ := hS2.at hlt_j
                refine X_skip ?_
                refine at_then ?_
                refine X_seq ?_
                refine X_block ?_
                refine X_seq ?_
                refine X_region ?_
                refine XO_v0 (ev_indexSl rfl rfl slt_23 (by assumption) (fun hg => by first | omega | (simp [conj] at hg; omega))) rfl rfl rfl ?_
                refine XO_v0 (ev_load rfl sct_3 (fun hg => by first | exact Sl.get0 hS2 hy rfl | exact Cell.h0 rfl | exact Cell.h1 rfl | exact Cell.h2 rfl | exact Cell.h3 rfl | exact Cell.h4 rfl | exact Cell.h5 rfl | (repeat (first | exact Cell.here rfl | apply Cell.there | apply Cell.app)))) rfl rfl rfl ?_
                refine XO_v0 (ev_assign rfl) rfl rfl rfl ?_
                refine XO_nil ?_
                refine at_then ?_
                refine X_seq ?_
                refine X_region ?_
                refine XO_v0 (ev_move rfl) rfl rfl rfl ?_
                refine XO_v0 (ev_fieldAddr rfl fld_53_0) rfl rfl rfl ?_
                refine XO_v0 (ev_load rfl sct_3 (fun hg => by first | exact Sl.get0 hS2 hy rfl | exact Cell.h0 rfl | exact Cell.h1 rfl | exact Cell.h2 rfl | exact Cell.h3 rfl | exact Cell.h4 rfl | exact Cell.h5 rfl | (repeat (first | exact Cell.here rfl | apply Cell.there | apply Cell.app)))) rfl rfl rfl ?_
                refine XO_v0 (ev_lookupG (m := m) (ek := Value.int .i64) (ev := refV) (a := p.id) hget mpt_74 key_3 rfl rfl (fun _ => .inl hm1)) rfl rfl rfl ?_
                refine XO_v0 (ev_move rfl) rfl rfl rfl ?_
                refine XO_v0 (ev_lookupBool (m := sn) mpt_71 key_3 rfl rfl (fun _ => .inl hsn)) rfl rfl rfl ?_
                refine XO_nil ?_
                refine at_then ?_
                refine X_cond rfl (fun hc144 => ?_) (fun hc144 => ?_)
                · skip
                  have hon := hc144
                  simp only [show ∀ x, (mget sn x).getD false = onF ps p.id x from fun x => hsq.mem x] at hon
                  have hbad : chkR ps = 380 := chkR_4 hlen h0 hls (by rw [tog_eq hL hmi]; exact all_no hp (by unfold tgP; rw [any_yes hy hon, Bool.or_true]; rfl))
                  refine X_seq ?_
                  refine X_region ?_
                  refine XO_v0 (ev_assign rfl) rfl rfl rfl ?_
                  refine XO_nil ?_
                  refine at_then ?_
                  refine X_ret ?_
                  refine at_block_r ?_
                  refine at_then_r ?_
                  refine at_then_r ?_
                  refine at_block_r ?_
                  refine at_block_r ?_
                  refine at_then_r ?_
                  refine at_then_r ?_
                  refine at_block_r ?_
                  refine at_then_r ?_
                  first
                  | exact at_ret1 rfl rfl (fun w hw => ⟨by rw [chkR_1 hlen], (hw.mono hIc).drop⟩)
                  | exact at_ret1 rfl rfl (fun w hw => ⟨by rw [hbad], (hw.mono hIc).drop⟩)
                  | exact at_ret1 rfl rfl (fun w hw => ⟨by rw [chkR_5 hlen h0 hls htog], (hw.mono hIc).drop⟩)
                · skip
                  have hon := hc144
                  simp only [show ∀ x, (mget sn x).getD false = onF ps p.id x from fun x => hsq.mem x] at hon
                  refine X_skip ?_
                  refine at_block_n ?_
                  refine at_then ?_
                  refine X_region ?_
                  refine XO_v0 (ev_arB rfl rfl rfl (fun _ => by omega)) rfl rfl rfl ?_
                  refine XO_v0 (ev_move rfl) rfl rfl rfl ?_
                  refine XO_nil ?_
                  exact at_met2 _ _ ⟨(kindL 3 ps p.sign).length - (j + 1), by omega, j + 1, rfl, rfl, rfl, rfl, by omega, any_no hy hno hon⟩ (.cons rfl (.cons rfl (.cons rfl (.cons rfl (.cons rfl (.cons rfl (.cons rfl (.cons rfl (.cons rfl (.cons rfl .nil)))))))))) (by repeat (first | exact .refl | exact subL_left | refine subL_app ?_ | refine .drop ?_ | refine subL_add ?_))
              · skip
                have hge_j : (kindL 3 ps p.sign).length ≤ j := by have h := hc136; simp at h; omega
                rw [take_all rfl hge_j] at hno
                have htp : tgP ps p = true := by unfold tgP; rw [← tg_ins hmi, hA, hno]; rfl
                refine X_exit ?_
                refine at_then_e ?_
                refine at_then_e ?_
                refine at_block_hit ?_
                refine at_block_n ?_
                refine at_then ?_
                refine X_region ?_
                refine XO_v0 (ev_arB rfl rfl rfl (fun _ => by omega)) rfl rfl rfl ?_
                refine XO_v0 (ev_move rfl) rfl rfl rfl ?_
                refine XO_nil ?_
                exact at_met2 _ _ ⟨n - (k + 1), by omega, k + 1, rfl, rfl, rfl, rfl, by omega, all_yes hp htg htp⟩ (.cons rfl (.cons rfl (.cons rfl (.cons rfl (.cons rfl (.cons rfl .nil)))))) (by repeat (first | exact .refl | exact subL_left | refine subL_app ?_ | refine .drop ?_ | refine subL_add ?_))
          · skip
            have hge_k : n ≤ k := by have h := hc104; simp at h; omega
            have htog : togA ps = true := by rw [tog_eq hL hmi]; rw [take_all hP.len hge_k] at htg; exact htg
            refine X_exit ?_
            refine at_then_e ?_
            refine at_then_e ?_
            refine at_block_hit ?_
            refine at_then ?_
            refine X_seq ?_
            refine X_region ?_
            refine XO_v0 (ev_assign rfl) rfl rfl rfl ?_
            refine XO_nil ?_
            refine at_then ?_
            refine X_ret ?_
            first
            | exact at_ret1 rfl rfl (fun w hw => ⟨by rw [chkR_1 hlen], (hw.mono hIc).drop⟩)
            | exact at_ret1 rfl rfl (fun w hw => ⟨by rw [hbad], (hw.mono hIc).drop⟩)
            | exact at_ret1 rfl rfl (fun w hw => ⟨by rw [chkR_5 hlen h0 hls htog], (hw.mono hIc).drop⟩)
end Go.Proofs.YtccomeanpppfmaaGreat
end
section
namespace Go.Proofs.YtccomeanpppfmaaGreat
open Go Go.Kn Go.Proofs
/-- A list and an error. -/
def Res2 (e : Int) (xs : List Int) : Value → HMap → Go.Kn.Loc → Prop := fun v I' L => L = [] ∧ ∃ av c, v = .tuple #[.slice av xs.length c, .int .i64 e] ∧ Sl I' 1 encI av xs.length c xs
theorem Res2.empty {e : Int} {xs : List Int} {I : HMap} (h : xs = []) : Res2 e xs (.tuple #[.slice none 0 0, .int .i64 e]) I [] := by
  subst h
  exact ⟨rfl, none, 0, rfl, .nil⟩
theorem Res2.good {e e' : Int} {xs ys : List Int} {I : HMap} {av : Option Addr} {n c : Nat} (h : e = e') (hx : ys = xs) (hS : Sl I 1 encI av n c ys) : Res2 e' xs (.tuple #[.slice av n c, .int .i64 e]) I [] := by
  subst h; subst hx
  have hn := hS.len
  subst hn
  exact ⟨rfl, av, c, rfl, hS⟩
def clE (ps : List Pt) (ids : List Int) : Int := if ids.length > 512 then 2 else if chB ps ids then 0 else 380
theorem cloE_ok {ps : List Pt} {ids : List Int} (h : chkR ps = 0) : cloE ps ids = clE ps ids := by unfold cloE clE; rw [if_neg (by omega)]
theorem cloE_bad {ps : List Pt} {ids : List Int} (h : chkR ps ≠ 0) : cloE ps ids = chkR ps := by unfold cloE; rw [if_pos h]
theorem clE_1 {ps : List Pt} {ids : List Int} (h : ids.length > 512) : clE ps ids = 2 := by unfold clE; rw [if_pos h]
theorem clE_2 {ps : List Pt} {ids : List Int} (h : ¬ ids.length > 512) (h2 : chB ps ids = false) : clE ps ids = 380 := by unfold clE; rw [if_neg h, h2]; rfl
theorem clE_3 {ps : List Pt} {ids : List Int} (h : ¬ ids.length > 512) (h2 : chB ps ids = true) : clE ps ids = 0 := by unfold clE; rw [if_neg h, h2]; rfl
theorem ch_inc {ps : List Pt} {ids : List Int} (h : incB ids = false) : chB ps ids = false := by unfold chB; rw [h]; rfl
theorem ch_has {ps : List Pt} {ids : List Int} {k : Nat} {x : Int} (hx : ids[k]? = some x) (h : hasI ps x = false) : chB ps ids = false := by unfold chB; rw [all_no hx h, Bool.and_false]
theorem ch_all {ps : List Pt} {ids : List Int} (h : incB ids = true) (h2 : ids.all (hasI ps) = true) : chB ps ids = true := by unfold chB; rw [h, h2]; rfl
/-- What a closure's list has when k IDs are done, and some more. -/
def CloM (ps : List Pt) (ids : List Int) (k : Nat) (zs : List Int) (S : Int → Bool) : Prop := ∀ x, x ∈ zs ↔ (x ∈ ids ∨ ∃ n ∈ ids.take k, onF ps n x = true) ∨ S x = true
theorem CloM.start {ps : List Pt} {ids : List Int} : CloM ps ids 0 ids (fun _ => false) := fun x => by simp
theorem CloM.put {ps : List Pt} {ids zs : List Int} {k : Nat} {S S' : Int → Bool} {a : Int} (h : CloM ps ids k zs S) (e : ∀ x, S' x = (decide (a = x) || S x)) : CloM ps ids k (zs ++ [a]) S' := fun x => by
  rw [List.mem_append, h x, e x]
  simp only [List.mem_singleton, Bool.or_eq_true, decide_eq_true_eq]
  constructor
  · rintro (h | h)
    · rcases h with h | h
      · exact .inl h
      · exact .inr (.inr h)
    · exact .inr (.inl h.symm)
  · rintro (h | h | h)
    · exact .inl (.inl h)
    · exact .inr h.symm
    · exact .inl (.inr h)
theorem CloM.next {ps : List Pt} {ids zs : List Int} {k : Nat} {S : Int → Bool} {n : Int} (h : CloM ps ids k zs S) (hn : ids[k]? = some n) (e : ∀ x, S x = onF ps n x) : CloM ps ids (k + 1) zs (fun _ => false) := fun x => by
  rw [h x, e x, take_snoc hn]
  simp only [List.mem_append, List.mem_singleton, Bool.false_eq_true, or_false]
  constructor
  · rintro (h | h)
    · rcases h with h | ⟨m, hm, h⟩
      · exact .inl h
      · exact .inr ⟨m, .inl hm, h⟩
    · exact .inr ⟨n, .inr rfl, h⟩
  · rintro (h | ⟨m, hm | rfl, h⟩)
    · exact .inl (.inl h)
    · exact .inl (.inr ⟨m, hm, h⟩)
    · exact .inr h
theorem CloM.congr {ps : List Pt} {ids zs : List Int} {k : Nat} {S S' : Int → Bool} (h : CloM ps ids k zs S) (e : ∀ x, S x = S' x) : CloM ps ids k zs S' := fun x => by rw [h x, e x]
theorem clo_made {ps : List Pt} {ids zs : List Int} {n : Nat} (hL : Lst ps) (h : CloM ps ids n zs (fun _ => false)) (hn : ids.length = n) (hall : ids.all (hasI ps) = true) : Lib.compact (sortI (zs ++ [])) = cloF ps ids := by
  rw [List.append_nil]
  refine comp_sort_eq (clo_sorted hL ids) fun x => ?_
  rw [h x, mem_clo, ← hn, List.take_length]
  simp only [Bool.false_eq_true, or_false]
  constructor
  · rintro (hx | ⟨m, hm, ho⟩)
    · exact ⟨hasI_iff.1 (List.all_eq_true.1 hall x hx), x, hx, .inl rfl⟩
    · exact ⟨(hL.on_lt ho).2, m, hm, .inr ho⟩
  · rintro ⟨_, m, hm, rfl | ho⟩
    · exact .inl hm
    · exact .inr ⟨m, hm, ho⟩
theorem on_few {ps : List Pt} (hL : Lst ps) {a : Int} {sn : List (Int × Bool)} (h : SetQ sn (onF ps a)) : sn.length ≤ ps.length := by
  have := List.Nodup.length_le_of_subset h.nodup (l₂ := idsP ps) (fun x hx => by
    obtain ⟨_, q, hq, e⟩ := hL.on_lt (h.key.2 hx)
    exact List.mem_map.2 ⟨q, hq, e⟩)
  simpa [idsP] using this
theorem OnL.hit {I : HMap} {m : List (Int × Nat)} {ps : List Pt} (h : OnL I m ps) {a : Int} {ref : Nat} (hg : mget m a = some ref) : hasI ps a = true ∧ OnS I ref (onF ps a) := by
  have hm := mget_mem hg
  refine ⟨?_, h.2 _ hm⟩
  have hk : a ∈ m.map (·.1) := List.mem_map.2 ⟨_, hm, rfl⟩
  rw [h.1] at hk
  obtain ⟨q, hq, e⟩ := List.mem_map.1 hk
  exact hasI_iff.2 ⟨q, hq, e⟩
theorem OnL.miss {I : HMap} {m : List (Int × Nat)} {ps : List Pt} (h : OnL I m ps) {a : Int} (hg : mget m a = none) : hasI ps a = false := by
  cases hh : hasI ps a with
  | false => rfl
  | true =>
    obtain ⟨ref, h1, _⟩ := h.get (hasI_iff.1 hh)
    rw [hg] at h1; cases h1
def vrE (ps : List Pt) (v : List Int) : Int := if v.length > 512 then 2 else if verB ps v then 0 else 380
theorem vr_eq {ps : List Pt} (hL : Lst ps) {v : List Int} {w : Int} (h : w = (resF (clE ps v) (cloF ps v)).length) : (if ((clE ps v == 0) && (w != (v.length : Int))) = true then 380 else clE ps v) = vrE ps v := by
  unfold vrE
  by_cases h1 : v.length > 512
  · rw [if_pos h1, clE_1 h1]; rfl
  · rw [if_neg h1]
    cases hc : chB ps v with
    | false =>
      rw [clE_2 h1 hc]
      unfold verB
      rw [hc]; rfl
    | true =>
      rw [clE_3 h1 hc, resF_ok rfl] at *
      have h2 := clo_len hL hc
      subst h
      cases hv : verB ps v with
      | true =>
        rw [hv] at h2
        simp at h2
        simp [h2]
      | false =>
        rw [hv] at h2
        simp at h2
        rw [if_pos]
        · rfl
        · simp; omega
def vsK (a b : List Int) (k : Nat) : List Int := if k = 0 then a else b
theorem two_at {I : HMap} {h1 h2 x : Hd} {k : Nat} {a b : List Int} (hx : [h1, h2][k]? = some x) (ha : Sl I 1 encI h1.a h1.n h1.c a) (hb : Sl I 1 encI h2.a h2.n h2.c b) : Sl I 1 encI x.a x.n x.c (vsK a b k) := by
  rcases k with _ | _ | k
  · cases hx; exact ha
  · cases hx; exact hb
  · simp at hx
theorem mrg_1 {ps : List Pt} {a b : List Int} (h : chkR ps ≠ 0) : mrgE ps a b = chkR ps := by unfold mrgE; rw [if_pos h]
theorem mrg_2 {ps : List Pt} {a b : List Int} (h : chkR ps = 0) (h2 : a.length > 512 ∨ b.length > 512) : mrgE ps a b = 2 := by
  unfold mrgE; rw [if_neg (by omega), if_pos (by simpa using h2)]
theorem vr_neg {ps : List Pt} {v : List Int} (h : ¬ v.length > 512) (h2 : vrE ps v ≠ 0) : verB ps v = false ∧ vrE ps v = 380 := by
  unfold vrE at *
  rw [if_neg h] at *
  cases hv : verB ps v with
  | true => rw [hv] at h2; exact absurd rfl h2
  | false => exact ⟨rfl, rfl⟩
theorem mrg_3 {ps : List Pt} {a b : List Int} (h : chkR ps = 0) (h2 : ¬ (a.length > 512 ∨ b.length > 512)) {k : Nat} (hk : vrE ps (vsK a b k) ≠ 0) : mrgE ps a b = vrE ps (vsK a b k) := by
  have hv := vr_neg (by unfold vsK; split <;> omega) hk
  rw [hv.2]
  unfold mrgE
  rw [if_neg (by omega), if_neg (by simpa using h2)]
  have h3 := hv.1
  unfold vsK at h3
  split at h3
  · rw [h3]; rfl
  · rw [h3, Bool.and_false]; rfl
theorem vr_ver {ps : List Pt} {v : List Int} (h : vrE ps v = 0) : verB ps v = true := by
  unfold vrE at h
  split at h
  · cases h
  · split at h
    · assumption
    · cases h
theorem mrg_4 {ps : List Pt} {a b : List Int} (h : chkR ps = 0) (h2 : ¬ (a.length > 512 ∨ b.length > 512)) (ha : vrE ps a = 0) (hb : vrE ps b = 0) : mrgE ps a b = 0 := by
  unfold mrgE
  rw [if_neg (by omega), if_neg (by simpa using h2), vr_ver ha, vr_ver hb]; rfl
theorem mrg_made {ps : List Pt} {a b : List Int} (hL : Lst ps) (ha : vrE ps a = 0) (hb : vrE ps b = 0) : Lib.compact (sortI (a ++ b)) = mrgF ps a b := by
  have va := (verB_iff hL).1 (vr_ver ha)
  have vb := (verB_iff hL).1 (vr_ver hb)
  exact comp_sort_eq (mrg_ver hL va vb).inc fun x => by rw [List.mem_append, mem_mrg' va vb]
theorem max_gt {n m : Nat} : decide (maxI (n : Int) (m : Int) > 512) = true ↔ n > 512 ∨ m > 512 := by
  unfold maxI
  split <;> simp <;> omega
theorem perm_snoc (x : Nat × Obj) (L : Go.Kn.Loc) : (x :: L).Perm (L ++ [x]) := (List.perm_append_comm (l₁ := L) (l₂ := [x])).symm
theorem two_le {h1 h2 x : Hd} {k : Nat} (hx : [h1, h2][k]? = some x) (ha : h1.n ≤ 100000) (hb : h2.n ≤ 100000) : x.n ≤ 100000 := by
  rcases k with _ | _ | k
  · cases hx; exact ha
  · cases hx; exact hb
  · simp at hx
end Go.Proofs.YtccomeanpppfmaaGreat
end
section
namespace Go.Proofs.YtccomeanpppfmaaGreat
open Go Go.Kn Go.Proofs
theorem w_closure {I : HMap} {av : Option Addr} {n c : Nat} {ps : List Pt} (hP : SlP I av n c ps) (hn : n ≤ 512) (hL : Lst ps) (hnd : ∀ p ∈ ps, p.n ≤ 100000) {bv : Option Addr} {n2 c2 : Nat} {ys : List Int} (hT : Sl I 1 encI bv n2 c2 ys) (hn2 : n2 ≤ 100000) : RetM Tryz.prog 28 [.slice av n c, .slice bv n2 c2] I [] (Res2 (clE ps ys) (resF (clE ps ys) (cloF ps ys))) := by
  intro g H w hw
  refine enter Tryz.func28 rfl Tryz.ntmps28 rfl hw ?_
  have hIc := HLe.refl I
  refine X_seq ?_
  refine X_region ?_
  refine XO_v0 (ev_assign rfl) rfl rfl rfl ?_
  refine XO_v0 (ev_assign rfl) rfl rfl rfl ?_
  refine XO_nil ?_
  refine at_then ?_
  refine X_seq ?_
  refine X_seq ?_
  refine X_region ?_
  refine XO_v0 (ev_move rfl) rfl rfl rfl ?_
  refine XO_v0 (ev_lenS rfl slt_23) rfl rfl rfl ?_
  refine XO_v0 (ev_cmp rfl rfl rfl) rfl rfl rfl ?_
  refine XO_nil ?_
  refine at_then ?_
  refine X_cond rfl (fun hc12 => ?_) (fun hc12 => ?_)
  · skip
    have hlen : ys.length > 512 := by rw [hT.len]; simp at hc12; omega
    refine X_seq ?_
    refine X_region ?_
    refine XO_v0 (ev_assign rfl) rfl rfl rfl ?_
    refine XO_v0 (ev_assign rfl) rfl rfl rfl ?_
    refine XO_nil ?_
    refine at_then ?_
    refine X_ret ?_
    refine at_then_r ?_
    first
    | exact at_ret2 rfl rfl rfl (fun w hw => ⟨_, I, [], rfl, hIc, hw.drop, by rw [clE_1 hlen]; exact Res2.empty rfl⟩)
    | exact at_ret2 rfl rfl rfl (fun w hw => ⟨_, I, [], rfl, hIc, hw.drop, by rw [hbad]; exact Res2.empty rfl⟩)
    | exact at_ret2 rfl rfl rfl (fun w hw => ⟨_, I, [], rfl, hIc, hw.drop, by rw [hgood]; exact Res2.good rfl (by rw [resF_ok rfl]; exact clo_made hL hM (by rw [hT.len]; omega) hall) hR⟩)
  · skip
    have hlen : ¬ ys.length > 512 := by rw [hT.len]; simp at hc12; omega
    refine X_skip ?_
    refine at_then ?_
    refine X_seq ?_
    refine X_region ?_
    refine XO_v0 (ev_move rfl) rfl rfl rfl ?_
    refine XO_callM (cap := []) (vs := [_]) rfl rfl fun_38 .nil (w_stands hP (by omega) hL hnd) rfl rfl ?_
    rintro vv1 I1 L1 hI1 ⟨rfl, r9, rfl, hOn⟩
    have hP := hP.mono hI1
    have hT := hT.mono hI1
    have hIc := hIc.trans hI1
    refine XO_v0 (ev_assign rfl) rfl rfl rfl ?_
    refine XO_nil ?_
    refine at_then ?_
    refine X_seq ?_
    refine X_region ?_
    refine XO_v0 (ev_move rfl) rfl rfl rfl ?_
    refine XO_callM (cap := []) (vs := [_]) rfl rfl fun_68 .nil (w_cloneI hT (by omega)) rfl rfl ?_
    rintro vv2 I2 L2 hI2 ⟨rfl, hO⟩
    have hP := hP.mono hI2
    have hT := hT.mono hI2
    have hOn := hOn.mono hI2
    have hIc := hIc.trans hI2
    refine XO_v0 (ev_assign rfl) rfl rfl rfl ?_
    refine XO_nil ?_
    refine at_then ?_
    refine X_seq ?_
    refine X_seq ?_
    refine X_dropTo _ subL_left ?_
    refine X_region ?_
    refine XO_v0 (ev_move rfl) rfl rfl rfl ?_
    refine XO_v0 (ev_lenS rfl slt_23) rfl rfl rfl ?_
    refine XO_v0 (ev_move rfl) rfl rfl rfl ?_
    refine XO_nil ?_
    refine at_then ?_
    refine X_block ?_
    refine X_loopT [(1, _), (6, _), (17, _), (18, _)] (.cons rfl (.cons rfl (.cons rfl (.cons rfl .nil)))) (fun T L0 mz E I' loc' => ∃ (k : Nat) (zs : List Int) (v : Value) (q : Nat) (L : Go.Kn.Loc), mz = n2 - k ∧ E = (4, v) :: (19, .int .i64 k) :: T ∧ I2 = I' ∧ L = loc' ∧ k ≤ n2 ∧ OwnS 3 1 v q (zs.flatMap encI) L ∧ q ≤ n2 + 512 * k ∧ CloM ps ys k zs (fun _ => false) ∧ (ys.take k).all (hasI ps) = true) _ _ _ _ ⟨0, ys, _, n2, _, rfl, rfl, rfl, rfl, Nat.zero_le _, hO, by omega, CloM.start, rfl⟩ (.cons rfl (.cons rfl (.cons rfl (.cons rfl (.cons rfl (.cons rfl .nil)))))) (HLe.refl _) rfl ?_
    rintro mz E I' loc' ⟨k, zs, v, q, L, rfl, rfl, rfl, rfl, hk, hO, hq5, hM, hall⟩
    refine X_seq ?_
    refine X_region ?_
    refine XO_v0 (ev_cmp rfl rfl rfl) rfl rfl rfl ?_
    refine XO_nil ?_
    refine at_then ?_
    refine X_seq ?_
    refine X_cond rfl (fun hc20 => ?_) (fun hc20 => ?_)
    · skip
      have hlt_k : k < n2 := by have h := hc20; simp at h; omega
      obtain ⟨y, hy⟩ := hT.at hlt_k
      refine X_skip ?_
      refine at_then ?_
      refine X_seq ?_
      refine X_block ?_
      refine X_seq ?_
      refine X_region ?_
      refine XO_v0 (ev_indexSl rfl rfl slt_23 (by assumption) (fun hg => by first | omega | (simp [conj] at hg; omega))) rfl rfl rfl ?_
      refine XO_v0 (ev_load rfl sct_3 (fun hg => by first | exact Sl.get0 hT hy rfl | exact Cell.h0 rfl | exact Cell.h1 rfl | exact Cell.h2 rfl | exact Cell.h3 rfl | exact Cell.h4 rfl | exact Cell.h5 rfl | (repeat (first | exact Cell.here rfl | apply Cell.there | apply Cell.app)))) rfl rfl rfl ?_
      refine XO_v0 (ev_assign rfl) rfl rfl rfl ?_
      refine XO_nil ?_
      refine at_then ?_
      refine X_seq ?_
      refine X_seq ?_
      obtain ⟨m, hm1, hm2⟩ := hOn
      refine X_region ?_
      refine XO_v0 (ev_move rfl) rfl rfl rfl ?_
      refine XO_v0 (ev_move rfl) rfl rfl rfl ?_
      refine XO_v0 (ev_lookupM (m := m) (ek := Value.int .i64) mpt_74 key_3 rfl rfl (fun _ => .inl hm1)) rfl rfl rfl ?_
      refine XO_v0 (ev_mapNil rfl rfl und_71) rfl rfl rfl ?_
      refine XO_nil ?_
      refine at_then ?_
      refine X_cond rfl (fun hc26 => ?_) (fun hc26 => ?_)
      · skip
        have hmiss : hasI ps y = false := hm2.miss (Option.isNone_iff_eq_none.1 hc26)
        have hbad : clE ps ys = 380 := clE_2 hlen (ch_has hy hmiss)
        refine X_seq ?_
        refine X_region ?_
        refine XO_v0 (ev_assign rfl) rfl rfl rfl ?_
        refine XO_v0 (ev_assign rfl) rfl rfl rfl ?_
        refine XO_nil ?_
        refine at_then ?_
        refine X_ret ?_
        refine at_then_r ?_
        refine at_block_r ?_
        refine at_then_r ?_
        refine at_then_r ?_
        refine at_block_r ?_
        refine at_then_r ?_
        first
        | exact at_ret2 rfl rfl rfl (fun w hw => ⟨_, I2, [], rfl, hIc, hw.drop, by rw [clE_1 hlen]; exact Res2.empty rfl⟩)
        | exact at_ret2 rfl rfl rfl (fun w hw => ⟨_, I2, [], rfl, hIc, hw.drop, by rw [hbad]; exact Res2.empty rfl⟩)
        | exact at_ret2 rfl rfl rfl (fun w hw => ⟨_, I2, [], rfl, hIc, hw.drop, by rw [hgood]; exact Res2.good rfl (by rw [resF_ok rfl]; exact clo_made hL hM (by rw [hT.len]; omega) hall) hR⟩)
      · skip
        obtain ⟨ref, hget⟩ : ∃ ref, mget m y = some ref := by cases hg : mget m y with | none => rw [hg] at hc26; cases hc26 | some r => exact ⟨r, rfl⟩
        obtain ⟨hhas, sn, hsn, hsq⟩ := hm2.hit hget
        have hfew := on_few hL hsq
        have hpl := hP.len
        refine X_skip ?_
        refine at_then ?_
        refine X_seq ?_
        refine X_region ?_
        refine XO_v0 (ev_move rfl) rfl rfl rfl ?_
        refine XO_v0 (ev_move rfl) rfl rfl rfl ?_
        refine XO_v0 (ev_lookupM (m := m) (ek := Value.int .i64) mpt_74 key_3 rfl rfl (fun _ => .inl hm1)) rfl rfl rfl ?_
        rw [hget]
        refine XO_range (ek := Value.int .i64) (ev := Value.bool) (m := sn) rfl mpt_71 rfl rfl (.inl hsn) (fun b_30 => ?_)
        refine XO_nil ?_
        refine at_then ?_
        refine X_block ?_
        refine X_loopT [(1, _), (6, _), (17, _), (18, _), (19, _), (30, _)] (.cons rfl (.cons rfl (.cons rfl (.cons rfl (.cons rfl (.cons rfl .nil)))))) (fun T L0 mz E I' loc' => ∃ (seen : List Nat) (zs : List Int) (v : Value) (q : Nat) (L : Go.Kn.Loc), mz = sn.length - seen.length ∧ E = (4, v) :: T ∧ I2 = I' ∧ (b_30, iterO ref sn.length seen) :: L = loc' ∧ OwnS 3 1 v q (zs.flatMap encI) L ∧ q ≤ n2 + 512 * k + seen.length ∧ CloM ps ys k zs (Seen sn seen) ∧ seen.Nodup ∧ ∀ i ∈ seen, i < sn.length) _ _ _ _ ⟨[], zs, v, q, L, rfl, rfl, rfl, rfl, hO, by simpa using hq5, hM.congr (fun x => (seen_nil sn x).symm), .nil, fun i h => by cases h⟩ (.cons rfl (.cons rfl (.cons rfl (.cons rfl (.cons rfl (.cons rfl (.cons rfl .nil))))))) (HLe.refl _) rfl ?_
        rintro mz E I' loc' ⟨seen, zs, v, q, L, rfl, rfl, rfl, rfl, hO, hq5, hM, hnd2, hlt⟩
        have hsl := seen_lt hnd2 hlt
        refine X_seq ?_
        refine X_region ?_
        refine XO_next2 (ek := Value.int .i64) (ev := Value.bool) (m := sn) (fun s' => (b_30, iterO ref sn.length s') :: L) rfl (fun s' => .here) rfl rfl rfl rfl rfl (.inl hsn) (by simp) ?_
        intro t tv s' hno hyes
        refine XO_nil ?_
        refine at_then ?_
        refine X_seq ?_
        refine X_cond rfl (fun hc32 => ?_) (fun hc32 => ?_)
        · skip
          obtain ⟨i, q, hq, hns, rfl⟩ := hyes hc32
          refine X_skip ?_
          refine at_then ?_
          refine X_block ?_
          refine X_seq ?_
          refine X_region ?_
          refine XO_v0 (ev_entry (ek := Value.int .i64) (ev := Value.bool) (m := sn) (p := q) (seen := seen) (i := i) rfl (.inl hsn) (.inr (by simp)) hq) rfl rfl rfl ?_
          refine XO_v0 (ev_extract rfl rfl) rfl rfl rfl ?_
          refine XO_v0 (ev_assign rfl) rfl rfl rfl ?_
          refine XO_nil ?_
          refine at_then ?_
          refine X_region ?_
          refine XO_v0 (ev_move rfl) rfl rfl rfl ?_
          refine XO_v0 (ev_move rfl) rfl rfl rfl ?_
          refine XO_buildSlice (ps := [(0, _)]) (m := [encI q.1]) elt_23 rfl (.cons rfl (.nil)) rfl (by simp [encI_len]) (by decide) (by decide) rfl rfl (fun b_37 => ?_)
          refine XO_append (v := _) (ys := [q.1].flatMap encI) (L := L) rfl rfl elt_23 hO (by repeat (first | exact .cons .here .nil | exact split_all | exact split_app | apply split_cons | apply split_skip)) ⟨rfl, fun _ => rfl, Cells.here⟩ (one_I [q.1]) (by omega) rfl rfl ?_
          intro v9 L9 hO9 _; rw [← List.flatMap_append] at hO9
          refine XO_v0 (ev_assign rfl) rfl rfl rfl ?_
          refine XO_nil ?_
          refine at_block_n ?_
          have hnd3 : (seen ++ [i]).Nodup := List.nodup_append.2 ⟨hnd2, by simp, fun a ha b hb e => hns (by simp at hb; subst hb; subst e; exact ha)⟩
          have hlt3 : ∀ j ∈ seen ++ [i], j < sn.length := fun j hj => (List.mem_append.1 hj).elim (hlt j) (fun h => by simp at h; subst h; exact (List.getElem?_eq_some_iff.1 hq).1)
          have hsl2 := seen_lt hnd3 hlt3
          rw [List.length_append, List.length_singleton] at hsl2
          exact at_metP _ _ (L9 ++ [(b_30, _)]) ⟨sn.length - (seen ++ [i]).length, by rw [List.length_append, List.length_singleton]; omega, seen ++ [i], zs ++ [q.1], v9, _, L9, rfl, rfl, rfl, rfl, hO9, by rw [List.length_append, List.length_singleton]; omega, hM.put (fun x => seen_snoc hq x), hnd3, hlt3⟩ (.cons rfl (.cons rfl (.cons rfl (.cons rfl (.cons rfl (.cons rfl (.cons rfl .nil))))))) (perm_snoc _ _) (by repeat (first | exact .refl | exact subL_left | refine subL_app ?_ | refine .drop ?_ | refine subL_add ?_))
        · skip
          obtain ⟨rfl, hall2⟩ := hno hc32
          refine X_exit ?_
          refine at_then_e ?_
          refine at_then_e ?_
          refine at_block_hit ?_
          refine at_block_n ?_
          refine at_then ?_
          refine X_region ?_
          refine XO_v0 (ev_arB rfl rfl rfl (fun _ => by omega)) rfl rfl rfl ?_
          refine XO_v0 (ev_move rfl) rfl rfl rfl ?_
          refine XO_nil ?_
          exact at_met2 _ _ ⟨n2 - (k + 1), by omega, k + 1, zs, v, q, L, rfl, rfl, rfl, rfl, by omega, hO, by omega, (hM.next hy (fun x => seen_all hsq hall2 x)), all_yes hy hall hhas⟩ (.cons rfl (.cons rfl (.cons rfl (.cons rfl (.cons rfl (.cons rfl .nil)))))) (by repeat (first | exact .refl | exact subL_left | refine subL_app ?_ | refine .drop ?_ | refine subL_add ?_))
    · skip
      have hge_k : n2 ≤ k := by have h := hc20; simp at h; omega
      rw [take_all hT.len hge_k] at hall
      have hk2 : n2 = k := by omega
      refine X_exit ?_
      refine at_then_e ?_
      refine at_then_e ?_
      refine at_block_hit ?_
      refine at_then ?_
      refine X_seq ?_
      refine X_seq ?_
      refine X_region ?_
      refine XO_v0 (ev_move rfl) rfl rfl rfl ?_
      refine XO_callV0 (cap := []) (vs := [_]) rfl rfl fun_70 (w_incr hT hn2) rfl rfl ?_
      refine XO_v0 (ev_not rfl) rfl rfl rfl ?_
      refine XO_nil ?_
      refine at_then ?_
      refine X_cond rfl (fun hc42 => ?_) (fun hc42 => ?_)
      · skip
        have hbad : clE ps ys = 380 := clE_2 hlen (ch_inc (by simpa using hc42))
        refine X_seq ?_
        refine X_region ?_
        refine XO_v0 (ev_assign rfl) rfl rfl rfl ?_
        refine XO_v0 (ev_assign rfl) rfl rfl rfl ?_
        refine XO_nil ?_
        refine at_then ?_
        refine X_ret ?_
        refine at_then_r ?_
        first
        | exact at_ret2 rfl rfl rfl (fun w hw => ⟨_, I2, [], rfl, hIc, hw.drop, by rw [clE_1 hlen]; exact Res2.empty rfl⟩)
        | exact at_ret2 rfl rfl rfl (fun w hw => ⟨_, I2, [], rfl, hIc, hw.drop, by rw [hbad]; exact Res2.empty rfl⟩)
        | exact at_ret2 rfl rfl rfl (fun w hw => ⟨_, I2, [], rfl, hIc, hw.drop, by rw [hgood]; exact Res2.good rfl (by rw [resF_ok rfl]; exact clo_made hL hM (by rw [hT.len]; omega) hall) hR⟩)
      · skip
        have hgood : clE ps ys = 0 := clE_3 hlen (ch_all (by simpa using hc42) hall)
        refine X_skip ?_
        refine at_then ?_
        refine X_seq ?_
        refine X_freezeO hO encI_len (by decide) (by repeat (first | exact .cons .here .nil | exact split_all | exact split_app | apply split_cons | apply split_skip)) (fun I5 hI5 af5 cf5 ef5 hZ => ?_)
        subst ef5
        have hP := hP.mono hI5
        have hT := hT.mono hI5
        have hOn := hOn.mono hI5
        have hIc := hIc.trans hI5
        refine X_region ?_
        refine XO_v0 (ev_move rfl) rfl rfl rfl ?_
        refine XO_callM (cap := []) (vs := [_, _]) rfl rfl fun_33 .nil (w_union hZ (by have := hT.len; omega) .nil (by omega)) rfl rfl ?_
        rintro vv6 I6 L6 hI6 ⟨rfl, av9, c9, rfl, hR⟩
        have hP := hP.mono hI6
        have hT := hT.mono hI6
        have hOn := hOn.mono hI6
        have hZ := hZ.mono hI6
        have hIc := hIc.trans hI6
        refine XO_v0 (ev_assign rfl) rfl rfl rfl ?_
        refine XO_v0 (ev_assign rfl) rfl rfl rfl ?_
        refine XO_nil ?_
        refine at_then ?_
        refine X_ret ?_
        first
        | exact at_ret2 rfl rfl rfl (fun w hw => ⟨_, I6, [], rfl, hIc, hw.drop, by rw [clE_1 hlen]; exact Res2.empty rfl⟩)
        | exact at_ret2 rfl rfl rfl (fun w hw => ⟨_, I6, [], rfl, hIc, hw.drop, by rw [hbad]; exact Res2.empty rfl⟩)
        | exact at_ret2 rfl rfl rfl (fun w hw => ⟨_, I6, [], rfl, hIc, hw.drop, by rw [hgood]; exact Res2.good rfl (by rw [resF_ok rfl]; exact clo_made hL hM (by rw [hT.len]; omega) hall) hR⟩)
theorem w_version {I : HMap} {av : Option Addr} {n c : Nat} {ps : List Pt} (hP : SlP I av n c ps) (hn : n ≤ 512) (hL : Lst ps) (hnd : ∀ p ∈ ps, p.n ≤ 100000) {bv : Option Addr} {n2 c2 : Nat} {ys : List Int} (hT : Sl I 1 encI bv n2 c2 ys) (hn2 : n2 ≤ 100000) : RetV Tryz.prog 32 [.slice av n c, .slice bv n2 c2] I (.int .i64 (vrE ps ys)) := by
  intro g H w hw
  refine enter Tryz.func32 rfl Tryz.ntmps32 rfl hw ?_
  have hIc := HLe.refl I
  refine X_seq ?_
  refine X_region ?_
  refine XO_v0 (ev_assign rfl) rfl rfl rfl ?_
  refine XO_nil ?_
  refine at_then ?_
  refine X_seq ?_
  refine X_region ?_
  refine XO_v0 (ev_move rfl) rfl rfl rfl ?_
  refine XO_v0 (ev_move rfl) rfl rfl rfl ?_
  refine XO_callM (cap := []) (vs := [_, _]) rfl rfl fun_28 .nil (w_closure hP hn hL hnd hT hn2) rfl rfl ?_
  rintro vv1 I1 L1 hI1 ⟨rfl, av9, c9, rfl, hR⟩
  have hP := hP.mono hI1
  have hT := hT.mono hI1
  have hIc := hIc.trans hI1
  refine XO_v0 (ev_move rfl) rfl rfl rfl ?_
  refine XO_v0 (ev_extract rfl rfl) rfl rfl rfl ?_
  refine XO_v0 (ev_extract rfl rfl) rfl rfl rfl ?_
  refine XO_v0 (ev_assign rfl) rfl rfl rfl ?_
  refine XO_v0 (ev_assign rfl) rfl rfl rfl ?_
  refine XO_nil ?_
  refine at_then ?_
  refine X_seq ?_
  refine X_seq ?_
  refine X_region ?_
  refine XO_v0 (ev_move rfl) rfl rfl rfl ?_
  refine XO_v0 (ev_cmp rfl rfl rfl) rfl rfl rfl ?_
  refine XO_v0 (ev_move rfl) rfl rfl rfl ?_
  refine XO_pushT 2 rfl rfl rfl ?_
  refine XO_v1 (ev_move rfl) (.some rfl rfl rfl rfl gbt) rfl rfl rfl ?_
  refine XO_v1 (ev_lenS rfl slt_23) (.some rfl rfl rfl rfl gbt) rfl rfl rfl ?_
  refine XO_v1 (ev_move rfl) (.some rfl rfl rfl rfl gbt) rfl rfl rfl ?_
  refine XO_v1 (ev_lenS rfl slt_23) (.some rfl rfl rfl rfl gbt) rfl rfl rfl ?_
  refine XO_v1 (ev_cmp rfl rfl rfl) (.some rfl rfl rfl rfl gbt) rfl rfl rfl ?_
  refine XO_and0 rfl rfl rfl rfl rfl ?_
  refine XO_nil ?_
  refine at_then ?_
  refine X_cond rfl (fun hc20 => ?_) (fun hc20 => ?_)
  · skip
    have hv : vrE ps ys = 380 := by rw [← vr_eq (v := ys) hL rfl, hT.len, if_pos hc20]
    refine X_seq ?_
    refine X_region ?_
    refine XO_v0 (ev_assign rfl) rfl rfl rfl ?_
    refine XO_nil ?_
    refine at_then ?_
    refine X_ret ?_
    refine at_then_r ?_
    exact at_ret1 rfl rfl (fun w hw => ⟨by rw [hv] <;> rfl, (hw.mono hIc).drop⟩)
  · skip
    have hv : vrE ps ys = clE ps ys := by rw [← vr_eq (v := ys) hL rfl, hT.len, if_neg (by rw [hc20]; exact Bool.false_ne_true)]
    refine X_skip ?_
    refine at_then ?_
    refine X_seq ?_
    refine X_region ?_
    refine XO_v0 (ev_move rfl) rfl rfl rfl ?_
    refine XO_v0 (ev_assign rfl) rfl rfl rfl ?_
    refine XO_nil ?_
    refine at_then ?_
    refine X_ret ?_
    exact at_ret1 rfl rfl (fun w hw => ⟨by rw [hv] <;> rfl, (hw.mono hIc).drop⟩)
theorem w_Closure {I : HMap} {av : Option Addr} {n c : Nat} {ps : List Pt} (hP : SlP I av n c ps) (hn : n ≤ 100000) {bv : Option Addr} {n2 c2 : Nat} {ys : List Int} (hT : Sl I 1 encI bv n2 c2 ys) (hn2 : n2 ≤ 100000) : RetM Tryz.prog 8 [.slice av n c, .slice bv n2 c2] I [] (Res2 (cloE ps ys) (resF (cloE ps ys) (cloF ps ys))) := by
  intro g H w hw
  refine enter Tryz.func8 rfl Tryz.ntmps8 rfl hw ?_
  have hIc := HLe.refl I
  refine X_seq ?_
  refine X_region ?_
  refine XO_v0 (ev_assign rfl) rfl rfl rfl ?_
  refine XO_v0 (ev_assign rfl) rfl rfl rfl ?_
  refine XO_nil ?_
  refine at_then ?_
  refine X_seq ?_
  refine X_seq ?_
  refine X_region ?_
  refine XO_v0 (ev_move rfl) rfl rfl rfl ?_
  refine XO_callV0 (cap := []) (vs := [_]) rfl rfl fun_12 (w_chkR hP hn) rfl rfl ?_
  refine XO_v0 (ev_assign rfl) rfl rfl rfl ?_
  refine XO_nil ?_
  refine at_then ?_
  refine X_seq ?_
  refine X_region ?_
  refine XO_v0 (ev_move rfl) rfl rfl rfl ?_
  refine XO_v0 (ev_cmp rfl rfl rfl) rfl rfl rfl ?_
  refine XO_nil ?_
  refine at_then ?_
  refine X_cond rfl (fun hc9 => ?_) (fun hc9 => ?_)
  · skip
    have hck : chkR ps ≠ 0 := by simpa using hc9
    refine X_seq ?_
    refine X_region ?_
    refine XO_v0 (ev_move rfl) rfl rfl rfl ?_
    refine XO_v0 (ev_assign rfl) rfl rfl rfl ?_
    refine XO_v0 (ev_assign rfl) rfl rfl rfl ?_
    refine XO_nil ?_
    refine at_then ?_
    refine X_ret ?_
    refine at_then_r ?_
    first
    | exact at_ret2 rfl rfl rfl (fun w hw => ⟨_, I, [], rfl, hIc, hw.drop, by rw [cloE_bad hck]; exact Res2.empty (resF_bad hck)⟩)
    | exact at_ret2 rfl rfl rfl (fun w hw => ⟨_, I, [], rfl, hIc, hw.drop, by rw [cloE_ok hck]; exact Res2.good rfl rfl hR⟩)
  · skip
    have hck : chkR ps = 0 := by simpa using hc9
    refine X_skip ?_
    refine at_then ?_
    refine X_seq ?_
    refine X_region ?_
    refine XO_v0 (ev_move rfl) rfl rfl rfl ?_
    refine XO_v0 (ev_move rfl) rfl rfl rfl ?_
    refine XO_callM (cap := []) (vs := [_, _]) rfl rfl fun_28 .nil (w_closure hP (by have := (chkR_ok hck).1; rw [hP.len] at this; omega) (chkR_lst hck) (nd_chk hP hck) hT hn2) rfl rfl ?_
    rintro vv1 I1 L1 hI1 ⟨rfl, av9, c9, rfl, hR⟩
    have hP := hP.mono hI1
    have hT := hT.mono hI1
    have hIc := hIc.trans hI1
    refine XO_v0 (ev_extract rfl rfl) rfl rfl rfl ?_
    refine XO_v0 (ev_extract rfl rfl) rfl rfl rfl ?_
    refine XO_v0 (ev_assign rfl) rfl rfl rfl ?_
    refine XO_v0 (ev_assign rfl) rfl rfl rfl ?_
    refine XO_nil ?_
    refine at_then ?_
    refine X_ret ?_
    first
    | exact at_ret2 rfl rfl rfl (fun w hw => ⟨_, I1, [], rfl, hIc, hw.drop, by rw [cloE_bad hck]; exact Res2.empty (resF_bad hck)⟩)
    | exact at_ret2 rfl rfl rfl (fun w hw => ⟨_, I1, [], rfl, hIc, hw.drop, by rw [cloE_ok hck]; exact Res2.good rfl rfl hR⟩)
theorem w_merge {I : HMap} {av : Option Addr} {n c : Nat} {ps : List Pt} (hP : SlP I av n c ps) (hn : n ≤ 100000) {bv : Option Addr} {n2 c2 : Nat} {ys : List Int} (hT : Sl I 1 encI bv n2 c2 ys) (hn2 : n2 ≤ 100000) {dv : Option Addr} {n3 c3 : Nat} {zs : List Int} (hU : Sl I 1 encI dv n3 c3 zs) (hn3 : n3 ≤ 100000) : RetM Tryz.prog 10 [.slice av n c, .slice bv n2 c2, .slice dv n3 c3] I [] (Res2 (mrgE ps ys zs) (resF (mrgE ps ys zs) (mrgF ps ys zs))) := by
  intro g H w hw
  refine enter Tryz.func10 rfl Tryz.ntmps10 rfl hw ?_
  have hIc := HLe.refl I
  refine X_seq ?_
  refine X_region ?_
  refine XO_v0 (ev_assign rfl) rfl rfl rfl ?_
  refine XO_v0 (ev_assign rfl) rfl rfl rfl ?_
  refine XO_nil ?_
  refine at_then ?_
  refine X_seq ?_
  refine X_seq ?_
  refine X_region ?_
  refine XO_v0 (ev_move rfl) rfl rfl rfl ?_
  refine XO_callV0 (cap := []) (vs := [_]) rfl rfl fun_12 (w_chkR hP hn) rfl rfl ?_
  refine XO_v0 (ev_assign rfl) rfl rfl rfl ?_
  refine XO_nil ?_
  refine at_then ?_
  refine X_seq ?_
  refine X_region ?_
  refine XO_v0 (ev_move rfl) rfl rfl rfl ?_
  refine XO_v0 (ev_cmp rfl rfl rfl) rfl rfl rfl ?_
  refine XO_nil ?_
  refine at_then ?_
  refine X_cond rfl (fun hc13 => ?_) (fun hc13 => ?_)
  · skip
    have hck : chkR ps ≠ 0 := by simpa using hc13
    refine X_seq ?_
    refine X_region ?_
    refine XO_v0 (ev_move rfl) rfl rfl rfl ?_
    refine XO_v0 (ev_assign rfl) rfl rfl rfl ?_
    refine XO_v0 (ev_assign rfl) rfl rfl rfl ?_
    refine XO_nil ?_
    refine at_then ?_
    refine X_ret ?_
    refine at_then_r ?_
    first
    | exact at_ret2 rfl rfl rfl (fun w hw => ⟨_, I, [], rfl, hIc, hw.drop, by rw [mrg_1 hck]; exact Res2.empty (resF_bad hck)⟩)
    | exact at_ret2 rfl rfl rfl (fun w hw => ⟨_, I, [], rfl, hIc, hw.drop, by rw [mrg_2 hck hlen]; exact Res2.empty rfl⟩)
    | exact at_ret2 rfl rfl rfl (fun w hw => ⟨_, I, [], rfl, hIc, hw.drop, by rw [mrg_3 hck hlen hv1]; exact Res2.empty (resF_bad hv1)⟩)
    | exact at_ret2 rfl rfl rfl (fun w hw => ⟨_, I, [], rfl, hIc, hw.drop, by have e0 := hv 0 (by omega); have e1 := hv 1 (by omega); rw [mrg_4 hck hlen e0 e1]; exact Res2.good rfl (by rw [resF_ok rfl]; exact mrg_made hL e0 e1) hR⟩)
  · skip
    have hck : chkR ps = 0 := by simpa using hc13
    have hn5 : n ≤ 512 := by have := (chkR_ok hck).1; rw [hP.len] at this; omega
    have hL := chkR_lst hck
    have hnd := nd_chk hP hck
    refine X_skip ?_
    refine at_then ?_
    refine X_seq ?_
    refine X_seq ?_
    refine X_region ?_
    refine XO_v0 (ev_move rfl) rfl rfl rfl ?_
    refine XO_v0 (ev_lenS rfl slt_23) rfl rfl rfl ?_
    refine XO_v0 (ev_move rfl) rfl rfl rfl ?_
    refine XO_v0 (ev_lenS rfl slt_23) rfl rfl rfl ?_
    refine XO_v0 (ev_max rfl rfl) rfl rfl rfl ?_
    refine XO_v0 (ev_cmp rfl rfl rfl) rfl rfl rfl ?_
    refine XO_nil ?_
    refine at_then ?_
    refine X_cond rfl (fun hc20 => ?_) (fun hc20 => ?_)
    · skip
      have hlen : ys.length > 512 ∨ zs.length > 512 := by rw [hT.len, hU.len]; exact max_gt.1 hc20
      refine X_seq ?_
      refine X_region ?_
      refine XO_v0 (ev_assign rfl) rfl rfl rfl ?_
      refine XO_v0 (ev_assign rfl) rfl rfl rfl ?_
      refine XO_nil ?_
      refine at_then ?_
      refine X_ret ?_
      refine at_then_r ?_
      first
      | exact at_ret2 rfl rfl rfl (fun w hw => ⟨_, I, [], rfl, hIc, hw.drop, by rw [mrg_1 hck]; exact Res2.empty (resF_bad hck)⟩)
      | exact at_ret2 rfl rfl rfl (fun w hw => ⟨_, I, [], rfl, hIc, hw.drop, by rw [mrg_2 hck hlen]; exact Res2.empty rfl⟩)
      | exact at_ret2 rfl rfl rfl (fun w hw => ⟨_, I, [], rfl, hIc, hw.drop, by rw [mrg_3 hck hlen hv1]; exact Res2.empty (resF_bad hv1)⟩)
      | exact at_ret2 rfl rfl rfl (fun w hw => ⟨_, I, [], rfl, hIc, hw.drop, by have e0 := hv 0 (by omega); have e1 := hv 1 (by omega); rw [mrg_4 hck hlen e0 e1]; exact Res2.good rfl (by rw [resF_ok rfl]; exact mrg_made hL e0 e1) hR⟩)
    · skip
      have hlen : ¬ (ys.length > 512 ∨ zs.length > 512) := by rw [hT.len, hU.len]; intro h; rw [max_gt.2 h] at hc20; cases hc20
      refine X_skip ?_
      refine at_then ?_
      refine X_seq ?_
      refine X_seq ?_
      refine X_region ?_
      refine XO_v0 (ev_move rfl) rfl rfl rfl ?_
      refine XO_v0 (ev_move rfl) rfl rfl rfl ?_
      refine XO_buildSlice (ps := [(0, _), (1, _)]) (m := [encH ⟨bv, n2, c2⟩, encH ⟨dv, n3, c3⟩]) elt_66 rfl (.cons rfl (.cons rfl (.nil))) rfl (by simp [encH_len]) (by decide) (by decide) rfl rfl (fun b_23 => ?_)
      refine XO_freeze .here (fun I1 hI1 hb1 => ?_)
      have hP := hP.mono hI1
      have hT := hT.mono hI1
      have hU := hU.mono hI1
      have hIc := hIc.trans hI1
      have hH := Sl.lit ([⟨bv, n2, c2⟩, ⟨dv, n3, c3⟩] : List Hd) rfl encH_len (show _ = some (Obj.cells (([⟨bv, n2, c2⟩, ⟨dv, n3, c3⟩] : List Hd).flatMap encH).toArray 23 (0, 0)) from hb1)
      refine XO_v0 (ev_lenS rfl slt_66) rfl rfl rfl ?_
      refine XO_v0 (ev_move rfl) rfl rfl rfl ?_
      refine XO_nil ?_
      refine at_then ?_
      refine X_block ?_
      refine X_loopT [(0, _), (1, _), (2, _), (23, _), (24, _)] (.cons rfl (.cons rfl (.cons rfl (.cons rfl (.cons rfl .nil))))) (fun T L0 mz E I' loc' => ∃ (k : Nat), mz = 2 - k ∧ E = (25, .int .i64 k) :: T ∧ I1 = I' ∧ L0 = loc' ∧ k ≤ 2 ∧ ∀ j, j < k → vrE ps (vsK ys zs j) = 0) _ _ _ _ ⟨0, rfl, rfl, rfl, rfl, Nat.zero_le _, fun j h => absurd h (by omega)⟩ (.cons rfl (.cons rfl (.cons rfl (.cons rfl (.cons rfl (.cons rfl .nil)))))) (HLe.refl _) rfl ?_
      rintro mz E I' loc' ⟨k, rfl, rfl, rfl, rfl, hk, hv⟩
      refine X_seq ?_
      refine X_region ?_
      refine XO_v0 (ev_cmp rfl rfl rfl) rfl rfl rfl ?_
      refine XO_nil ?_
      refine at_then ?_
      refine X_seq ?_
      refine X_cond rfl (fun hc26 => ?_) (fun hc26 => ?_)
      · skip
        have hlt_k : k < 2 := by have h := hc26; simp at h; omega
        obtain ⟨x, hx⟩ := hH.at hlt_k
        have hxn : x.n ≤ 100000 := two_le hx hn2 hn3
        refine X_skip ?_
        refine at_then ?_
        refine X_seq ?_
        refine X_block ?_
        refine X_seq ?_
        refine X_region ?_
        refine XO_v0 (ev_indexSl rfl rfl slt_66 (by assumption) (fun hg => by first | omega | (simp [conj] at hg; omega))) rfl rfl rfl ?_
        refine XO_v0 (ev_load rfl sct_23 (fun hg => by first | exact Sl.get0 hH hx rfl | exact Cell.h0 rfl | exact Cell.h1 rfl | exact Cell.h2 rfl | exact Cell.h3 rfl | exact Cell.h4 rfl | exact Cell.h5 rfl | (repeat (first | exact Cell.here rfl | apply Cell.there | apply Cell.app)))) rfl rfl rfl ?_
        refine XO_v0 (ev_assign rfl) rfl rfl rfl ?_
        refine XO_nil ?_
        refine at_then ?_
        refine X_seq ?_
        refine X_region ?_
        refine XO_v0 (ev_move rfl) rfl rfl rfl ?_
        refine XO_v0 (ev_move rfl) rfl rfl rfl ?_
        refine XO_callV0 (cap := []) (vs := [_, _]) rfl rfl fun_32 (w_version hP hn5 hL hnd (two_at hx hT hU) hxn) rfl rfl ?_
        refine XO_v0 (ev_assign rfl) rfl rfl rfl ?_
        refine XO_nil ?_
        refine at_then ?_
        refine X_seq ?_
        refine X_region ?_
        refine XO_v0 (ev_move rfl) rfl rfl rfl ?_
        refine XO_v0 (ev_cmp rfl rfl rfl) rfl rfl rfl ?_
        refine XO_nil ?_
        refine at_then ?_
        refine X_cond rfl (fun hc33 => ?_) (fun hc33 => ?_)
        · skip
          have hv1 : vrE ps (vsK ys zs k) ≠ 0 := by simpa using hc33
          refine X_seq ?_
          refine X_region ?_
          refine XO_v0 (ev_move rfl) rfl rfl rfl ?_
          refine XO_v0 (ev_assign rfl) rfl rfl rfl ?_
          refine XO_v0 (ev_assign rfl) rfl rfl rfl ?_
          refine XO_nil ?_
          refine at_then ?_
          refine X_ret ?_
          refine at_block_r ?_
          refine at_then_r ?_
          refine at_then_r ?_
          refine at_block_r ?_
          refine at_then_r ?_
          first
          | exact at_ret2 rfl rfl rfl (fun w hw => ⟨_, I1, [], rfl, hIc, hw.drop, by rw [mrg_1 hck]; exact Res2.empty (resF_bad hck)⟩)
          | exact at_ret2 rfl rfl rfl (fun w hw => ⟨_, I1, [], rfl, hIc, hw.drop, by rw [mrg_2 hck hlen]; exact Res2.empty rfl⟩)
          | exact at_ret2 rfl rfl rfl (fun w hw => ⟨_, I1, [], rfl, hIc, hw.drop, by rw [mrg_3 hck hlen hv1]; exact Res2.empty (resF_bad hv1)⟩)
          | exact at_ret2 rfl rfl rfl (fun w hw => ⟨_, I1, [], rfl, hIc, hw.drop, by have e0 := hv 0 (by omega); have e1 := hv 1 (by omega); rw [mrg_4 hck hlen e0 e1]; exact Res2.good rfl (by rw [resF_ok rfl]; exact mrg_made hL e0 e1) hR⟩)
        · skip
          have hv1 : vrE ps (vsK ys zs k) = 0 := by simpa using hc33
          refine X_skip ?_
          refine at_block_n ?_
          refine at_then ?_
          refine X_region ?_
          refine XO_v0 (ev_arB rfl rfl rfl (fun _ => by omega)) rfl rfl rfl ?_
          refine XO_v0 (ev_move rfl) rfl rfl rfl ?_
          refine XO_nil ?_
          exact at_met2 _ _ ⟨2 - (k + 1), by omega, k + 1, rfl, rfl, rfl, rfl, by omega, fun j h => by by_cases e : j = k; (subst e; exact hv1); exact hv j (by omega)⟩ (.cons rfl (.cons rfl (.cons rfl (.cons rfl (.cons rfl (.cons rfl .nil)))))) (by repeat (first | exact .refl | exact subL_left | refine subL_app ?_ | refine .drop ?_ | refine subL_add ?_))
      · skip
        have hge_k : 2 ≤ k := by have h := hc26; simp at h; omega
        refine X_exit ?_
        refine at_then_e ?_
        refine at_then_e ?_
        refine at_block_hit ?_
        refine at_then ?_
        refine X_seq ?_
        refine X_region ?_
        refine XO_v0 (ev_move rfl) rfl rfl rfl ?_
        refine XO_v0 (ev_move rfl) rfl rfl rfl ?_
        refine XO_callM (cap := []) (vs := [_, _]) rfl rfl fun_33 .nil (w_union hT (by omega) hU hn3) rfl rfl ?_
        rintro vv3 I3 L3 hI3 ⟨rfl, av9, c9, rfl, hR⟩
        have hP := hP.mono hI3
        have hT := hT.mono hI3
        have hU := hU.mono hI3
        have hH := hH.mono hI3
        have hIc := hIc.trans hI3
        refine XO_v0 (ev_assign rfl) rfl rfl rfl ?_
        refine XO_v0 (ev_assign rfl) rfl rfl rfl ?_
        refine XO_nil ?_
        refine at_then ?_
        refine X_ret ?_
        first
        | exact at_ret2 rfl rfl rfl (fun w hw => ⟨_, I3, [], rfl, hIc, hw.drop, by rw [mrg_1 hck]; exact Res2.empty (resF_bad hck)⟩)
        | exact at_ret2 rfl rfl rfl (fun w hw => ⟨_, I3, [], rfl, hIc, hw.drop, by rw [mrg_2 hck hlen]; exact Res2.empty rfl⟩)
        | exact at_ret2 rfl rfl rfl (fun w hw => ⟨_, I3, [], rfl, hIc, hw.drop, by rw [mrg_3 hck hlen hv1]; exact Res2.empty (resF_bad hv1)⟩)
        | exact at_ret2 rfl rfl rfl (fun w hw => ⟨_, I3, [], rfl, hIc, hw.drop, by have e0 := hv 0 (by omega); have e1 := hv 1 (by omega); rw [mrg_4 hck hlen e0 e1]; exact Res2.good rfl (by rw [resF_ok rfl]; exact mrg_made hL e0 e1) hR⟩)
end Go.Proofs.YtccomeanpppfmaaGreat
end
