/- The library's sort and Compact on a slice of one's own. Generic over the program: their contracts are hypotheses. -/
import Derived.Test.YtgfggmmffmfolaaEngK
import Derived.Sort.Row
import Derived.Sort.Grow
namespace Go.Kn
open Go Go.Sort
section
variable {g : World} {I I' H : HMap} {loc loc' L R : Loc} {w w' : World}
theorem St.grown (h : St g I H loc w) (os : Array Obj) : St g I H loc (grow w os) := by
  have key : ∀ (b : Nat) (o : Obj), w.heap[b]? = some o → (grow w os).heap[b]? = some o := fun b o e => by
    have hb : b < w.heap.size := (Array.getElem?_eq_some_iff.1 e).1
    simp only [grow]
    rw [Array.getElem?_append_left hb]; exact e
  exact ⟨h.os, h.tape, h.out, Nat.le_trans h.size (by simp [grow]), fun b o e => key b o (h.imm b o e), fun b o e => key b o (h.frm b o e), fun b o e => key b o (h.own b o e), h.sepIH, h.sepIL, h.nodup⟩
theorem St.aheadN (h : St g I H loc w) (n : Nat) : St g I H loc (Go.Sort.ahead w n) := ⟨h.os, h.tape, h.out, h.size, h.imm, h.frm, h.own, h.sepIH, h.sepIL, h.nodup⟩
theorem St.rowPut {α : Type} [Inhabited α] {enc : α → Value} {b : Nat} {cs : Array Value} {e : TypeId} {fz : Nat × Nat} (h : St g I H loc w) (d : Array α) (hu : Upd loc b (.cells cs e fz) (.cells (putCells enc 0 d cs) e fz) loc') : St g I H loc' (putRow enc w b 0 d) := by
  have hb := h.own _ _ hu.mem
  refine h.turn hu rfl rfl rfl (by simp) ?_ ?_
  · simp only [putRow, mapBlock, Array.getElem?_modify, if_pos rfl, hb, Option.map_some]; rfl
  · intro c hc
    simp only [putRow, mapBlock, Array.getElem?_modify, if_neg (Ne.symm hc)]
theorem take_put {α : Type} [Inhabited α] {enc : α → Value} {cs : Array Value} {n : Nat} (xs : List α) (hl : xs.length = n) (hc : n ≤ cs.size) : (putCells enc 0 xs.toArray cs).toList.take n = xs.map enc := by
  apply List.ext_getElem?
  intro i
  by_cases hi : i < n
  · rw [List.getElem?_take_of_lt hi, List.getElem?_map]
    have h1 : i < cs.size := by omega
    have h2 : i < xs.length := by omega
    have h3 : (putCells enc 0 xs.toArray cs)[i]? = some (enc xs[i]) := by
      simp only [putCells, Array.getElem?_mapIdx, Array.getElem?_eq_getElem h1, Option.map_some]
      have : (0 ≤ i ∧ i < 0 + xs.toArray.size) := by simp; omega
      rw [if_pos this]
      congr 2
      simp [h2]
    rw [Array.getElem?_toList, h3, List.getElem?_eq_getElem h2]; rfl
  · rw [List.getElem?_eq_none (by rw [List.length_take]; omega), List.getElem?_eq_none (by rw [List.length_map]; omega)]
theorem holds_own {α : Type} [Inhabited α] {enc : α → Value} {b : Nat} {cs : Array Value} {e : TypeId} (h : St g I H loc w) (hm : (b, Obj.cells cs e (0, 0)) ∈ loc) (xs : List α) (hl : cs.toList.take xs.length = xs.map enc) : Holds enc w b 0 xs.toArray := by
  have hb := h.own _ _ hm
  intro j hj
  have hj' : j < xs.length := by simpa using hj
  refine ⟨?_, ?_⟩
  · simp only [World.cell?, hb, Option.isSome_none, Bool.false_eq_true, if_false]
    have : (cs.toList.take xs.length)[j]? = some (enc xs[j]) := by rw [hl, List.getElem?_map, List.getElem?_eq_getElem hj']; rfl
    rw [List.getElem?_take_of_lt hj', Array.getElem?_toList] at this
    rw [show 0 + j = j from by omega, this]
    congr 2
    simp [hj']
  · simp only [World.frozen?, hb]; simp
/-- slices.Sort at one's own slice of ints, out of its contract. -/
theorem retSort {P : Program} {f : FuncId} {e : TypeId}
    (hs : ∀ (blk off cap : Nat) (zs : List Int) (w : World), Holds (Value.int .i64) w blk off zs.toArray → blk < w.heap.size → zs.length < 4611686018427387904 → Calls P f #[.slice (some ⟨blk, off, none⟩) zs.length cap] w fun e w' => e = .returned (.tuple #[]) ∧ ∃ n os, w' = grow (putRow (Value.int .i64) (Go.Sort.ahead w n) blk off (zs.mergeSort fun x y => decide (x ≤ y)).toArray) os)
    (h0 : ∀ (p : Option Addr) (cap : Nat) (w : World), Calls P f #[.slice p 0 cap] w fun e w' => e = .returned (.tuple #[]) ∧ w' = w)
    (zs : List Int) {v : Value} {n : Nat} {L : Loc} (hO : OwnS e 1 v n (zs.map (Value.int .i64)) L) (hn : n ≤ 1000000) (I : HMap) :
    RetM P f [v] I L (fun u I' L' => u = .tuple #[] ∧ I' = I ∧ OwnS e 1 v n ((zs.mergeSort fun x y => decide (x ≤ y)).map (Value.int .i64)) L') := by
  intro g H w hw
  have hl : zs.length = n := by have := hO.1; simpa using this
  subst hl
  rcases hO.2 with ⟨rfl, h00, rfl⟩ | ⟨b, c, cur, rfl, rfl, hc, hc2, hsz, htk⟩
  · have : zs = [] := List.length_eq_zero_iff.1 h00
    subst this
    refine (h0 none 0 w).mono ?_
    rintro e w' ⟨rfl, rfl⟩
    refine ⟨_, I, [], rfl, HLe.refl _, hw, rfl, rfl, by simp [List.mergeSort], .inl ⟨rfl, rfl, rfl⟩⟩
  · rw [Nat.mul_one] at hsz htk
    have hb := hw.own b _ (List.mem_singleton.2 rfl)
    refine (hs b 0 c zs w (holds_own hw (List.mem_singleton.2 rfl) zs htk) (Array.getElem?_eq_some_iff.1 hb).1 (by omega)).mono ?_
    rintro e w' ⟨rfl, k, os, rfl⟩
    refine ⟨_, I, _, rfl, HLe.refl _, (((hw.aheadN k).rowPut _ .here).grown os), rfl, rfl, by simp [List.length_mergeSort], .inr ⟨b, c, _, rfl, rfl, hc, hc2, by simp [putCells, hsz], ?_⟩⟩
    rw [Nat.mul_one]
    exact take_put _ (by simp [List.length_mergeSort]) (by omega)
theorem retCompact {P : Program} {f : FuncId} {e : TypeId} (co : List Int → List Int) (hco : ∀ zs, (co zs).length ≤ zs.length) (hcn : co [] = [])
    (hs : ∀ (blk off cap : Nat) (zs : List Int) (w : World), Holds (Value.int .i64) w blk off zs.toArray → zs.length ≤ 9223372036854775807 → zs.length ≤ cap → Calls P f #[.slice (some ⟨blk, off, none⟩) zs.length cap] w fun e w' => e = .returned (.slice (some ⟨blk, off, none⟩) (co zs).length cap) ∧ ∃ q, w' = putRow (Value.int .i64) (Go.Sort.ahead w q) blk off (co zs ++ List.replicate (zs.length - (co zs).length) 0).toArray)
    (h0 : ∀ (p : Option Addr) (cap : Nat) (w : World), Calls P f #[.slice p 0 cap] w fun e w' => e = .returned (.slice p 0 cap) ∧ w' = w)
    (zs : List Int) {v : Value} {n : Nat} {L : Loc} (hO : OwnS e 1 v n (zs.map (Value.int .i64)) L) (hn : n ≤ 1000000) (I : HMap) :
    RetM P f [v] I L (fun u I' L' => I' = I ∧ OwnS e 1 u (co zs).length ((co zs).map (Value.int .i64)) L') := by
  intro g H w hw
  have hl : zs.length = n := by have := hO.1; simpa using this
  subst hl
  have hle := hco zs
  rcases hO.2 with ⟨rfl, h00, rfl⟩ | ⟨b, c, cur, rfl, rfl, hc, hc2, hsz, htk⟩
  · have : zs = [] := List.length_eq_zero_iff.1 h00
    subst this
    refine (h0 none 0 w).mono ?_
    rintro e w' ⟨rfl, rfl⟩
    refine ⟨_, I, [], rfl, HLe.refl _, hw, rfl, by simp [hcn], .inl ⟨rfl, by simp [hcn], rfl⟩⟩
  · rw [Nat.mul_one] at hsz htk
    refine (hs b 0 c zs w (holds_own hw (List.mem_singleton.2 rfl) zs htk) (by omega) hc).mono ?_
    rintro e w' ⟨rfl, k, rfl⟩
    refine ⟨_, I, _, rfl, HLe.refl _, (hw.aheadN k).rowPut _ .here, rfl, by simp, .inr ⟨b, c, _, rfl, rfl, by omega, hc2, by simp [putCells, hsz], ?_⟩⟩
    rw [Nat.mul_one]
    have h1 := take_put (enc := Value.int .i64) (cs := cur) (n := zs.length) (co zs ++ List.replicate (zs.length - (co zs).length) 0) (by simp; omega) (by omega)
    have h2 := congrArg (List.take (co zs).length) h1
    rw [List.take_take, Nat.min_eq_left hle] at h2
    rw [h2]; simp
end
end Go.Kn
