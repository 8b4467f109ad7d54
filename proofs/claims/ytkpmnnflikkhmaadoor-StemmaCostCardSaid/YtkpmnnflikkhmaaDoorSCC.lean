/- stemmaCost_holds, part C of the proof: what its theorems say holds without further conditions. -/
import Derived.Shelf.Small.Bits
import Derived.Shelf.Strconv.Itoa0
import Derived.Shelf.Sort.Plain
import Derived.Ground.Names2Prog
import Derived.Shelf.Slices.SearchI
import Derived.Shelf.Slices.In.SortNone
import Derived.Ground.SlsfProg
import Derived.Shelf.SlSortCmp.Insertion
import Derived.Shelf.SlSortCmp.SiftDown1
import Derived.Shelf.SlSortCmp.HeapSort1
import Derived.Shelf.SlSortCmp.Insertion1
import Derived.Shelf.SlSortCmp.Median1
import Derived.Shelf.SlSortCmp.Pivot1
import Derived.Shelf.SlSortCmp.ReverseRange1
import Derived.Shelf.SlSortCmp.PartialInsertion1
import Derived.Shelf.SlSortCmp.PartitionEqual1
import Derived.Shelf.SlSortCmp.Partition1
import Derived.Shelf.SlSortCmp.Pdq1
import Derived.Shelf.SlSortCmp.Whole1
import Derived.Shelf.SlSortCmp.NoneTotal
import Derived.Test.YtkpmnnflikkhmaaDoorProg
import Derived.Test.YtkpmnnflikkhmaaDoorSCB
section
namespace Go.Proofs
open Go.Shelf
def Tryd.lays189_ren : Go.Shelf.Ren := ⟨fun | 189 => 50 | 125 => 62 | 257 => 64 | 128 => 82 | 129 => 83 | 294 => 84 | 295 => 85 | 296 => 86 | 297 => 87 | 298 => 88 | 299 => 89 | 216 => 90 | 300 => 91 | 301 => 92 | 328 => 104 | 329 => 100 | 330 => 101 | 331 => 105 | 332 => 106 | 215 => 65 | 343 => 108 | n => n, fun | 28 => 22 | 3 => 3 | 46 => 48 | 0 => 0 | 51 => 64 | 53 => 66 | 4 => 4 | 183 => 90 | 182 => 89 | 131 => 94 | 5 => 5 | 9 => 9 | 218 => 107 | 222 => 111 | 228 => 117 | 229 => 118 | n => n, fun | n => n⟩
theorem Tryd.lays189 : Go.Proofs.Lays.n189 Tryd.prog Tryd.lays189_ren := {
  mixed := by kernel_rfl
  f125 := Tryd.func62.trans (congrArg some (by kernel_rfl))
  f128 := Tryd.func82.trans (congrArg some (by kernel_rfl))
  f129 := Tryd.func83.trans (congrArg some (by kernel_rfl))
  f189 := Tryd.func50.trans (congrArg some (by kernel_rfl))
  f215 := Tryd.func65.trans (congrArg some (by kernel_rfl))
  f216 := Tryd.func90.trans (congrArg some (by kernel_rfl))
  f257 := Tryd.func64.trans (congrArg some (by kernel_rfl))
  f294 := Tryd.func84.trans (congrArg some (by kernel_rfl))
  f295 := Tryd.func85.trans (congrArg some (by kernel_rfl))
  f296 := Tryd.func86.trans (congrArg some (by kernel_rfl))
  f297 := Tryd.func87.trans (congrArg some (by kernel_rfl))
  f298 := Tryd.func88.trans (congrArg some (by kernel_rfl))
  f299 := Tryd.func89.trans (congrArg some (by kernel_rfl))
  f300 := Tryd.func91.trans (congrArg some (by kernel_rfl))
  f301 := Tryd.func92.trans (congrArg some (by kernel_rfl))
  f328 := Tryd.func104.trans (congrArg some (by kernel_rfl))
  f329 := Tryd.func100.trans (congrArg some (by kernel_rfl))
  f330 := Tryd.func101.trans (congrArg some (by kernel_rfl))
  f331 := Tryd.func105.trans (congrArg some (by kernel_rfl))
  f332 := Tryd.func106.trans (congrArg some (by kernel_rfl))
  f343 := Tryd.func108.trans (congrArg some (by kernel_rfl))
  t0 := Tryd.underlying0
  a0 := Tryd.isAgg0
  z0 := Tryd.sizeOf0
  v0 := Tryd.zeroValue0
  t3 := Tryd.underlying3
  a3 := Tryd.isAgg3
  z3 := Tryd.sizeOf3
  v3 := Tryd.zeroValue3
  t4 := Tryd.underlying4
  a4 := Tryd.isAgg4
  z4 := Tryd.sizeOf4
  v4 := Tryd.zeroValue4
  t5 := Tryd.underlying5
  a5 := Tryd.isAgg5
  z5 := Tryd.sizeOf5
  v5 := Tryd.zeroValue5
  t9 := Tryd.underlying9
  a9 := Tryd.isAgg9
  z9 := Tryd.sizeOf9
  v9 := Tryd.zeroValue9
  t28 := Tryd.underlying22
  a28 := Tryd.isAgg22
  z28 := Tryd.sizeOf22
  v28 := Tryd.zeroValue22
  t46 := Tryd.underlying48
  a46 := Tryd.isAgg48
  z46 := Tryd.sizeOf48
  v46 := Tryd.zeroValue48
  t51 := Tryd.underlying64
  a51 := Tryd.isAgg64
  z51 := Tryd.sizeOf64
  v51 := Tryd.zeroValue64
  t53 := Tryd.underlying66
  a53 := Tryd.isAgg66
  z53 := Tryd.sizeOf66
  v53 := Tryd.zeroValue66
  t131 := Tryd.underlying94
  a131 := Tryd.isAgg94
  z131 := Tryd.sizeOf94
  v131 := Tryd.zeroValue94
  t182 := Tryd.underlying89
  a182 := Tryd.isAgg89
  z182 := Tryd.sizeOf89
  v182 := Tryd.zeroValue89
  t183 := Tryd.underlying90
  a183 := Tryd.isAgg90
  z183 := Tryd.sizeOf90
  v183 := Tryd.zeroValue90
  t218 := Tryd.underlying107
  a218 := Tryd.isAgg107
  z218 := Tryd.sizeOf107
  v218 := Tryd.zeroValue107
  t222 := Tryd.underlying111
  a222 := Tryd.isAgg111
  z222 := Tryd.sizeOf111
  v222 := Tryd.zeroValue111
  t228 := Tryd.underlying117
  a228 := Tryd.isAgg117
  z228 := Tryd.sizeOf117
  v228 := Tryd.zeroValue117
  t229 := Tryd.underlying118
  a229 := Tryd.isAgg118
  z229 := Tryd.sizeOf118
  v229 := Tryd.zeroValue118 }
open Go.Sort Go.RowKit in
theorem Tryd.slices_Sort_int (blk off cap : Nat) (zs : List Int) (w : World) (hH : Holds (Value.int .i64) w blk off zs.toArray) (hblk : blk < w.heap.size) (hsz : zs.length < 4611686018427387904) :
    Calls Tryd.prog 50 #[.slice (some ⟨blk, off, none⟩) zs.length cap] w fun e w' =>
      e = .returned (.tuple #[]) ∧ ∃ n os, w' = grow (putRow (Value.int .i64) (Sort.ahead w n) blk off (zs.mergeSort fun x y => decide (x ≤ y)).toArray) os := Any.slices_Sort_int Tryd.lays189 blk off cap zs w hH hblk hsz
open Go.RowKit Go.Sort in
theorem Tryd.slices_Sort_int_none (p : Option Addr) (cap : Nat) (w : World) :
    Calls Tryd.prog 50 #[.slice p 0 cap] w fun e w' => e = .returned (.tuple #[]) ∧ w' = w := Any.slices_Sort_int_none Tryd.lays189 p cap w
def Tryd.laysSlF6_f47_ren : Go.Shelf.Ren := ⟨fun | 6 => 47 | 15 => 62 | 14 => 61 | 28 => 82 | 29 => 83 | 20 => 74 | 21 => 75 | 22 => 76 | 23 => 77 | 24 => 78 | 25 => 79 | 26 => 80 | 27 => 81 | 46 => 99 | 47 => 100 | 48 => 101 | 49 => 102 | 50 => 103 | 57 => 107 | n => n, fun | 22 => 28 | 24 => 22 | 25 => 58 | 3 => 3 | 39 => 48 | 0 => 0 | 53 => 64 | 55 => 66 | 4 => 4 | 46 => 90 | 45 => 89 | 50 => 94 | 5 => 5 | 9 => 9 | 66 => 107 | 70 => 111 | 76 => 117 | 77 => 118 | n => n, fun | n => n⟩
theorem Tryd.laysSlF6_f47 : Go.Proofs.SlLaysF.n6 Tryd.prog Tryd.laysSlF6_f47_ren := {
  mixed := by kernel_rfl
  f6 := ⟨Tryd.f47.name, by decide, Tryd.func47.trans (congrArg some (by kernel_rfl))⟩
  f14 := ⟨Tryd.f61.name, by decide, Tryd.func61.trans (congrArg some (by kernel_rfl))⟩
  f15 := Tryd.func62.trans (congrArg some (by kernel_rfl))
  f20 := ⟨Tryd.f74.name, by decide, Tryd.func74.trans (congrArg some (by kernel_rfl))⟩
  f21 := ⟨Tryd.f75.name, by decide, Tryd.func75.trans (congrArg some (by kernel_rfl))⟩
  f22 := ⟨Tryd.f76.name, by decide, Tryd.func76.trans (congrArg some (by kernel_rfl))⟩
  f23 := ⟨Tryd.f77.name, by decide, Tryd.func77.trans (congrArg some (by kernel_rfl))⟩
  f24 := ⟨Tryd.f78.name, by decide, Tryd.func78.trans (congrArg some (by kernel_rfl))⟩
  f25 := ⟨Tryd.f79.name, by decide, Tryd.func79.trans (congrArg some (by kernel_rfl))⟩
  f26 := ⟨Tryd.f80.name, by decide, Tryd.func80.trans (congrArg some (by kernel_rfl))⟩
  f27 := ⟨Tryd.f81.name, by decide, Tryd.func81.trans (congrArg some (by kernel_rfl))⟩
  f28 := Tryd.func82.trans (congrArg some (by kernel_rfl))
  f29 := Tryd.func83.trans (congrArg some (by kernel_rfl))
  f46 := ⟨Tryd.f99.name, by decide, Tryd.func99.trans (congrArg some (by kernel_rfl))⟩
  f47 := Tryd.func100.trans (congrArg some (by kernel_rfl))
  f48 := Tryd.func101.trans (congrArg some (by kernel_rfl))
  f49 := ⟨Tryd.f102.name, by decide, Tryd.func102.trans (congrArg some (by kernel_rfl))⟩
  f50 := ⟨Tryd.f103.name, by decide, Tryd.func103.trans (congrArg some (by kernel_rfl))⟩
  f57 := ⟨Tryd.f107.name, by decide, Tryd.func107.trans (congrArg some (by kernel_rfl))⟩
  t0 := Tryd.underlying0
  a0 := Tryd.isAgg0
  z0 := Tryd.sizeOf0
  v0 := Tryd.zeroValue0
  t3 := Tryd.underlying3
  a3 := Tryd.isAgg3
  z3 := Tryd.sizeOf3
  v3 := Tryd.zeroValue3
  t4 := Tryd.underlying4
  a4 := Tryd.isAgg4
  z4 := Tryd.sizeOf4
  v4 := Tryd.zeroValue4
  t5 := Tryd.underlying5
  a5 := Tryd.isAgg5
  z5 := Tryd.sizeOf5
  v5 := Tryd.zeroValue5
  t9 := Tryd.underlying9
  a9 := Tryd.isAgg9
  z9 := Tryd.sizeOf9
  v9 := Tryd.zeroValue9
  t22 := Tryd.underlying28
  a22 := Tryd.isAgg28
  z22 := Tryd.sizeOf28
  v22 := Tryd.zeroValue28
  a24 := Tryd.isAgg22
  z24 := Tryd.sizeOf22
  t25 := Tryd.underlying58
  a25 := Tryd.isAgg58
  z25 := Tryd.sizeOf58
  v25 := Tryd.zeroValue58
  t39 := Tryd.underlying48
  a39 := Tryd.isAgg48
  z39 := Tryd.sizeOf48
  v39 := Tryd.zeroValue48
  t45 := Tryd.underlying89
  a45 := Tryd.isAgg89
  z45 := Tryd.sizeOf89
  v45 := Tryd.zeroValue89
  t46 := Tryd.underlying90
  a46 := Tryd.isAgg90
  z46 := Tryd.sizeOf90
  v46 := Tryd.zeroValue90
  t50 := Tryd.underlying94
  a50 := Tryd.isAgg94
  z50 := Tryd.sizeOf94
  v50 := Tryd.zeroValue94
  t53 := Tryd.underlying64
  a53 := Tryd.isAgg64
  z53 := Tryd.sizeOf64
  v53 := Tryd.zeroValue64
  t55 := Tryd.underlying66
  a55 := Tryd.isAgg66
  z55 := Tryd.sizeOf66
  v55 := Tryd.zeroValue66
  t66 := Tryd.underlying107
  a66 := Tryd.isAgg107
  z66 := Tryd.sizeOf107
  v66 := Tryd.zeroValue107
  t70 := Tryd.underlying111
  a70 := Tryd.isAgg111
  z70 := Tryd.sizeOf111
  v70 := Tryd.zeroValue111
  t76 := Tryd.underlying117
  a76 := Tryd.isAgg117
  z76 := Tryd.sizeOf117
  v76 := Tryd.zeroValue117
  t77 := Tryd.underlying118
  a77 := Tryd.isAgg118
  z77 := Tryd.sizeOf118
  v77 := Tryd.zeroValue118 }
open Go.RowKit Go.Lib Go.Sort in
theorem Tryd.slices_SortFunc {α : Type} [Inhabited α] (enc : α → Value) (h1 : OneCell enc) (cf : α → α → Int) (hO : SWO (ltOf cf)) (g : Nat) (cb : Array Value) (blk off cap : Nat) (d : Array α) (w : World) (eg : ∀ args w, (callFunc g args).run Tryd.prog w = .ok (.enter g args) w) (hcmp : CmpLays1 Tryd.prog g cb enc cf blk off d.size w) (hH : Holds enc w blk off d) (hblk : blk < w.heap.size) (hsz : d.size < 4611686018427387904) :
    Calls Tryd.prog 47 #[.slice (some ⟨blk, off, none⟩) d.size cap, .func (.func g) #[] cb] w fun e w' =>
      e = .returned (.tuple #[]) ∧ ∃ d' n os, PermIn 0 d.size d d' ∧ SortedIn (ltOf cf) 0 d.size d' ∧ w' = sortWorld enc w blk off n d' os := Any.slices_SortFunc Tryd.laysSlF6_f47 enc h1 cf hO g cb blk off cap d w eg hcmp hH hblk hsz
def Tryd.laysSlF06_f47_ren : Go.Shelf.Ren := ⟨fun | 6 => 47 | 15 => 62 | 14 => 61 | 28 => 82 | 29 => 83 | 20 => 74 | 21 => 75 | 22 => 76 | 23 => 77 | 24 => 78 | 25 => 79 | 26 => 80 | 27 => 81 | 46 => 99 | 47 => 100 | 48 => 101 | 49 => 102 | 50 => 103 | 57 => 107 | n => n, fun | 22 => 28 | 24 => 22 | 25 => 58 | 3 => 3 | 39 => 48 | 0 => 0 | 53 => 64 | 55 => 66 | 4 => 4 | 46 => 90 | 45 => 89 | 50 => 94 | 5 => 5 | 9 => 9 | 66 => 107 | 70 => 111 | 76 => 117 | 77 => 118 | n => n, fun | n => n⟩
theorem Tryd.laysSlF06_f47 : Go.Proofs.SlLaysF0.n6 Tryd.prog Tryd.laysSlF06_f47_ren := {
  mixed := by kernel_rfl
  f6 := ⟨Tryd.f47.name, by decide, Tryd.func47.trans (congrArg some (by kernel_rfl))⟩
  f14 := ⟨Tryd.f61.name, by decide, Tryd.func61.trans (congrArg some (by kernel_rfl))⟩
  f15 := Tryd.func62.trans (congrArg some (by kernel_rfl))
  f20 := ⟨Tryd.f74.name, by decide, Tryd.func74.trans (congrArg some (by kernel_rfl))⟩
  f21 := ⟨Tryd.f75.name, by decide, Tryd.func75.trans (congrArg some (by kernel_rfl))⟩
  f22 := ⟨Tryd.f76.name, by decide, Tryd.func76.trans (congrArg some (by kernel_rfl))⟩
  f23 := ⟨Tryd.f77.name, by decide, Tryd.func77.trans (congrArg some (by kernel_rfl))⟩
  f24 := ⟨Tryd.f78.name, by decide, Tryd.func78.trans (congrArg some (by kernel_rfl))⟩
  f25 := ⟨Tryd.f79.name, by decide, Tryd.func79.trans (congrArg some (by kernel_rfl))⟩
  f26 := ⟨Tryd.f80.name, by decide, Tryd.func80.trans (congrArg some (by kernel_rfl))⟩
  f27 := ⟨Tryd.f81.name, by decide, Tryd.func81.trans (congrArg some (by kernel_rfl))⟩
  f28 := Tryd.func82.trans (congrArg some (by kernel_rfl))
  f29 := Tryd.func83.trans (congrArg some (by kernel_rfl))
  f46 := ⟨Tryd.f99.name, by decide, Tryd.func99.trans (congrArg some (by kernel_rfl))⟩
  f47 := Tryd.func100.trans (congrArg some (by kernel_rfl))
  f48 := Tryd.func101.trans (congrArg some (by kernel_rfl))
  f49 := ⟨Tryd.f102.name, by decide, Tryd.func102.trans (congrArg some (by kernel_rfl))⟩
  f50 := ⟨Tryd.f103.name, by decide, Tryd.func103.trans (congrArg some (by kernel_rfl))⟩
  f57 := ⟨Tryd.f107.name, by decide, Tryd.func107.trans (congrArg some (by kernel_rfl))⟩
  t0 := Tryd.underlying0
  a0 := Tryd.isAgg0
  z0 := Tryd.sizeOf0
  v0 := Tryd.zeroValue0
  t3 := Tryd.underlying3
  a3 := Tryd.isAgg3
  z3 := Tryd.sizeOf3
  v3 := Tryd.zeroValue3
  t4 := Tryd.underlying4
  a4 := Tryd.isAgg4
  z4 := Tryd.sizeOf4
  v4 := Tryd.zeroValue4
  t5 := Tryd.underlying5
  a5 := Tryd.isAgg5
  z5 := Tryd.sizeOf5
  v5 := Tryd.zeroValue5
  t9 := Tryd.underlying9
  a9 := Tryd.isAgg9
  z9 := Tryd.sizeOf9
  v9 := Tryd.zeroValue9
  t22 := Tryd.underlying28
  a22 := Tryd.isAgg28
  z22 := Tryd.sizeOf28
  v22 := Tryd.zeroValue28
  t25 := Tryd.underlying58
  a25 := Tryd.isAgg58
  z25 := Tryd.sizeOf58
  v25 := Tryd.zeroValue58
  t39 := Tryd.underlying48
  a39 := Tryd.isAgg48
  z39 := Tryd.sizeOf48
  v39 := Tryd.zeroValue48
  t45 := Tryd.underlying89
  a45 := Tryd.isAgg89
  z45 := Tryd.sizeOf89
  v45 := Tryd.zeroValue89
  t46 := Tryd.underlying90
  a46 := Tryd.isAgg90
  z46 := Tryd.sizeOf90
  v46 := Tryd.zeroValue90
  t50 := Tryd.underlying94
  a50 := Tryd.isAgg94
  z50 := Tryd.sizeOf94
  v50 := Tryd.zeroValue94
  t53 := Tryd.underlying64
  a53 := Tryd.isAgg64
  z53 := Tryd.sizeOf64
  v53 := Tryd.zeroValue64
  t55 := Tryd.underlying66
  a55 := Tryd.isAgg66
  z55 := Tryd.sizeOf66
  v55 := Tryd.zeroValue66
  t66 := Tryd.underlying107
  a66 := Tryd.isAgg107
  z66 := Tryd.sizeOf107
  v66 := Tryd.zeroValue107
  t70 := Tryd.underlying111
  a70 := Tryd.isAgg111
  z70 := Tryd.sizeOf111
  v70 := Tryd.zeroValue111
  t76 := Tryd.underlying117
  a76 := Tryd.isAgg117
  z76 := Tryd.sizeOf117
  v76 := Tryd.zeroValue117
  t77 := Tryd.underlying118
  a77 := Tryd.isAgg118
  z77 := Tryd.sizeOf118
  v77 := Tryd.zeroValue118 }
open Go.RowKit Go.Lib Go.Sort in
theorem Tryd.slices_SortFunc_none {α : Type} [Inhabited α] (p : Option Addr) (cap : Nat) (fv : Value) (w : World) :
    Calls Tryd.prog 47 #[.slice p 0 cap, fv] w fun e w' => e = .returned (.tuple #[]) ∧ w' = w := AnyF.slices_SortFunc_none Tryd.laysSlF06_f47 p cap fv w
end Go.Proofs
end
section
namespace Go.Proofs.YtkpmnnflikkhmaaDoor
open Go Go.Kn Go.Proofs
theorem fun_63 : Fun Tryd.prog 63 := .of Tryd.func63 (by kernel_rfl) (by kernel_rfl)
theorem und_3 : Tryd.prog.underlying 3 = some (.int .i64) := by kernel_rfl
theorem flat_intI (zs : List Int) : zs.flatMap encI = zs.map (Value.int .i64) := by
  induction zs with
  | nil => rfl
  | cons z zs ih => rw [List.flatMap_cons, ih]; rfl
theorem w_sortF {zs : List Int} {v : Value} {n : Nat} {L : Go.Kn.Loc} (hO : OwnS 3 1 v n (zs.flatMap encI) L) (hn : n ≤ 1000000) (I : HMap) : RetM Tryd.prog 50 [v] I L (fun u I' L' => u = .tuple #[] ∧ I' = I ∧ OwnS 3 1 v n ((sortI zs).flatMap encI) L') := by
  rw [flat_intI] at hO
  rw [flat_intI]
  exact retSort Tryd.slices_Sort_int Tryd.slices_Sort_int_none zs hO hn I
theorem w_grow (I : HMap) (k : Nat) (hk : k ≤ 100000) : RetM Tryd.prog 63 [.slice none 0 0, .int .i64 k] I [] (fun v I' L => I' = I ∧ OwnS 3 1 v 0 [] L) := by
  intro g H w hw
  refine enter Tryd.func63 rfl Tryd.ntmps63 rfl hw ?_
  refine X_seq ?_
  refine X_region ?_
  refine XO_v0 (ev_assign rfl) rfl rfl rfl ?_
  refine XO_nil ?_
  refine at_then ?_
  refine X_seq ?_
  refine X_seq ?_
  refine X_region ?_
  refine XO_v0 (ev_move rfl) rfl rfl rfl ?_
  refine XO_v0 (ev_cmp rfl rfl rfl) rfl rfl rfl ?_
  refine XO_nil ?_
  refine at_then ?_
  refine X_cond rfl (fun hc6 => ?_) (fun hc6 => ?_)
  · skip
    have h := hc6; simp at h; omega
  · skip
    refine X_skip ?_
    refine at_then ?_
    refine X_seq ?_
    refine X_seq ?_
    refine X_region ?_
    refine XO_v0 (ev_move rfl) rfl rfl rfl ?_
    refine XO_v0 (ev_move rfl) rfl rfl rfl ?_
    refine XO_v0 (ev_cap rfl slt_22) rfl rfl rfl ?_
    refine XO_v0 (ev_move rfl) rfl rfl rfl ?_
    refine XO_v0 (ev_lenS rfl slt_22) rfl rfl rfl ?_
    refine XO_v0 (ev_arB rfl rfl rfl (fun _ => by omega)) rfl rfl rfl ?_
    refine XO_v0 (ev_arB rfl rfl rfl (fun _ => by omega)) rfl rfl rfl ?_
    refine XO_v0 (ev_assign rfl) rfl rfl rfl ?_
    refine XO_nil ?_
    refine at_then ?_
    refine X_seq ?_
    refine X_region ?_
    refine XO_v0 (ev_move rfl) rfl rfl rfl ?_
    refine XO_v0 (ev_cmp rfl rfl rfl) rfl rfl rfl ?_
    refine XO_nil ?_
    refine at_then ?_
    refine X_cond rfl (fun hc16 => ?_) (fun hc16 => ?_)
    · skip
      have hk1 : 0 < k := by have h := hc16; simp at h; omega
      refine X_region ?_
      refine XO_v0 (ev_move rfl) rfl rfl rfl ?_
      refine XO_v0 (ev_move rfl) rfl rfl rfl ?_
      refine XO_v0 (ev_cap rfl slt_22) rfl rfl rfl ?_
      refine XO_v0 (ev_sliceHi rfl rfl slt_22 (fun hg => by first | omega | (simp [conj] at hg; omega))) rfl rfl rfl ?_
      refine XO_v0 (ev_move rfl) rfl rfl rfl ?_
      refine XO_appendZ0 rfl rfl elt_22 und_3 (by omega) (by decide) (by omega) rfl rfl (fun b9 c9 zs9 hz1 hz2 hz3 => ?_)
      refine XO_v0 (ev_move rfl) rfl rfl rfl ?_
      refine XO_v0 (ev_lenS rfl slt_22) rfl rfl rfl ?_
      refine XO_v0 (ev_sliceHi rfl rfl slt_22 (fun hg => by first | omega | (simp [conj] at hg; omega))) rfl rfl rfl ?_
      refine XO_v0 (ev_assign rfl) rfl rfl rfl ?_
      refine XO_nil ?_
      refine at_then ?_
      refine X_seq ?_
      refine X_region ?_
      refine XO_v0 (ev_move rfl) rfl rfl rfl ?_
      refine XO_v0 (ev_assign rfl) rfl rfl rfl ?_
      refine XO_nil ?_
      refine at_then ?_
      refine X_ret ?_
      first
      | exact at_ret1 rfl rfl (fun w hw => ⟨_, I, _, rfl, HLe.refl _, hw, rfl, rfl, .inr ⟨b9, c9, zs9.toArray, rfl, rfl, Nat.zero_le _, hz2, by simpa using hz3, by simp⟩⟩)
      | exact at_ret1 rfl rfl (fun w hw => ⟨_, I, [], rfl, HLe.refl _, hw, rfl, OwnS.nil⟩)
    · skip
      have hk0 : k = 0 := by have h := hc16; simp at h; omega
      refine X_skip ?_
      refine at_then ?_
      refine X_seq ?_
      refine X_region ?_
      refine XO_v0 (ev_move rfl) rfl rfl rfl ?_
      refine XO_v0 (ev_assign rfl) rfl rfl rfl ?_
      refine XO_nil ?_
      refine at_then ?_
      refine X_ret ?_
      first
      | exact at_ret1 rfl rfl (fun w hw => ⟨_, I, _, rfl, HLe.refl _, hw, rfl, rfl, .inr ⟨b9, c9, zs9.toArray, rfl, rfl, Nat.zero_le _, hz2, by simpa using hz3, by simp⟩⟩)
      | exact at_ret1 rfl rfl (fun w hw => ⟨_, I, [], rfl, HLe.refl _, hw, rfl, OwnS.nil⟩)
theorem w_concat {I : HMap} {av : Option Addr} {n c : Nat} {vss : List (List Int)} (hV : SlN I av n c vss) (hn : n ≤ 100000) (hf : vss.flatten.length ≤ 100000) : RetM Tryd.prog 49 [.slice av n c] I [] (fun v I' L => I' = I ∧ OwnS 3 1 v vss.flatten.length (vss.flatten.flatMap encI) L) := by
  intro g H w hw
  refine enter Tryd.func49 rfl Tryd.ntmps49 rfl hw ?_
  obtain ⟨hs, hV⟩ := hV
  have hH := hV.1
  have hlV := hV.len
  refine X_seq ?_
  refine X_region ?_
  refine XO_v0 (ev_assign rfl) rfl rfl rfl ?_
  refine XO_nil ?_
  refine at_then ?_
  refine X_seq ?_
  refine X_region ?_
  refine XO_v0 (ev_assign rfl) rfl rfl rfl ?_
  refine XO_nil ?_
  refine at_then ?_
  refine X_seq ?_
  refine X_seq ?_
  refine X_region ?_
  refine XO_v0 (ev_move rfl) rfl rfl rfl ?_
  refine XO_v0 (ev_lenS rfl slt_28) rfl rfl rfl ?_
  refine XO_v0 (ev_move rfl) rfl rfl rfl ?_
  refine XO_nil ?_
  refine at_then ?_
  refine X_block ?_
  refine X_loopT [(0, _), (9, _), (10, _)] (.cons rfl (.cons rfl (.cons rfl .nil))) (fun T L0 mz E I' loc' => ∃ (k : Nat), mz = n - k ∧ E = (3, .int .i64 ((vss.take k).flatten.length : Nat)) :: (11, .int .i64 k) :: T ∧ I = I' ∧ [] = loc' ∧ k ≤ n) _ _ _ _ ⟨0, rfl, rfl, rfl, rfl, Nat.zero_le _⟩ (.cons rfl (.cons rfl (.cons rfl (.cons rfl (.cons rfl .nil))))) (HLe.refl _) rfl ?_
  rintro mz E I' loc' ⟨k, rfl, rfl, rfl, rfl, hk⟩
  refine X_seq ?_
  refine X_region ?_
  refine XO_v0 (ev_cmp rfl rfl rfl) rfl rfl rfl ?_
  refine XO_nil ?_
  refine at_then ?_
  refine X_seq ?_
  refine X_cond rfl (fun hc12 => ?_) (fun hc12 => ?_)
  · skip
    have hlt_k : k < n := by have h := hc12; simp at h; omega
    obtain ⟨x, v, hx, hv, hQ⟩ := hV.at hlt_k
    have hfs := flat_step hv
    have hfs2 : (vss.take (k + 1)).flatten.length = (vss.take k).flatten.length + x.n := by rw [hfs, List.length_append, hQ.len]
    refine X_skip ?_
    refine at_then ?_
    refine X_seq ?_
    refine X_block ?_
    refine X_seq ?_
    refine X_region ?_
    refine XO_v0 (ev_indexSl rfl rfl slt_28 hH (fun hg => by first | omega | (simp [conj] at hg; omega))) rfl rfl rfl ?_
    refine XO_v0 (ev_load rfl sct_22 (fun hg => by first | exact Sl.get0 hH hx rfl | exact Cell.h0 rfl | exact Cell.h1 rfl | exact Cell.h2 rfl | exact Cell.h3 rfl | exact Cell.h4 rfl | exact Cell.h5 rfl | (repeat (first | exact Cell.here rfl | apply Cell.there | apply Cell.app)))) rfl rfl rfl ?_
    refine XO_v0 (ev_assign rfl) rfl rfl rfl ?_
    refine XO_nil ?_
    refine at_then ?_
    refine X_seq ?_
    refine X_region ?_
    refine XO_v0 (ev_move rfl) rfl rfl rfl ?_
    refine XO_v0 (ev_move rfl) rfl rfl rfl ?_
    refine XO_v0 (ev_lenS rfl slt_22) rfl rfl rfl ?_
    refine XO_v0 (ev_arB rfl rfl rfl (fun _ => by first | omega | (have hfl := flat_le (vss := vss) k; have hfl2 := flat_le (vss := vss) (k + 1); omega))) rfl rfl rfl ?_
    refine XO_v0 (ev_assign rfl) rfl rfl rfl ?_
    refine XO_nil ?_
    refine at_then ?_
    refine X_seq ?_
    refine X_region ?_
    refine XO_v0 (ev_move rfl) rfl rfl rfl ?_
    refine XO_v0 (ev_cmp rfl rfl rfl) rfl rfl rfl ?_
    refine XO_nil ?_
    refine at_then ?_
    refine X_cond rfl (fun hc20 => ?_) (fun hc20 => ?_)
    · skip
      have h := hc20; simp at h; omega
    · skip
      rw [show (((vss.take k).flatten.length : Nat) : Int) + (x.n : Int) = (((vss.take (k + 1)).flatten.length : Nat) : Int) from by omega]
      refine X_skip ?_
      refine at_block_n ?_
      refine at_then ?_
      refine X_region ?_
      refine XO_v0 (ev_arB rfl rfl rfl (fun _ => by first | omega | (have hfl := flat_le (vss := vss) k; have hfl2 := flat_le (vss := vss) (k + 1); omega))) rfl rfl rfl ?_
      refine XO_v0 (ev_move rfl) rfl rfl rfl ?_
      refine XO_nil ?_
      exact at_met2 _ _ ⟨n - (k + 1), by omega, k + 1, rfl, rfl, rfl, rfl, by omega⟩ (.cons rfl (.cons rfl (.cons rfl (.cons rfl (.cons rfl .nil))))) (by repeat (first | exact .refl | exact subL_left | refine subL_app ?_ | refine .drop ?_ | refine subL_add ?_))
  · skip
    have hge_k : n ≤ k := by have h := hc12; simp at h; omega
    rw [List.take_of_length_le (show vss.length ≤ k by omega)]
    refine X_exit ?_
    refine at_then_e ?_
    refine at_then_e ?_
    refine at_block_hit ?_
    refine at_then ?_
    refine X_seq ?_
    refine X_region ?_
    refine XO_v0 (ev_move rfl) rfl rfl rfl ?_
    refine XO_callM (cap := []) (vs := [_, _]) rfl rfl fun_63 .nil (w_grow _ vss.flatten.length (by omega)) rfl rfl ?_
    rintro vv2 I2 L2 hI2 ⟨rfl, hG⟩
    rw [List.append_nil]
    refine XO_v0 (ev_assign rfl) rfl rfl rfl ?_
    refine XO_nil ?_
    refine at_then ?_
    refine X_seq ?_
    refine X_seq ?_
    refine X_region ?_
    refine XO_v0 (ev_move rfl) rfl rfl rfl ?_
    refine XO_v0 (ev_lenS rfl slt_28) rfl rfl rfl ?_
    refine XO_v0 (ev_move rfl) rfl rfl rfl ?_
    refine XO_nil ?_
    refine at_then ?_
    refine X_block ?_
    refine X_loopT [(25, _), (26, _)] (.cons rfl (.cons rfl .nil)) (fun T L0 mz E I' loc' => ∃ (k : Nat) (v6 : Value) (L : Go.Kn.Loc), mz = n - k ∧ E = (6, v6) :: (27, .int .i64 k) :: T ∧ I2 = I' ∧ L = loc' ∧ k ≤ n ∧ OwnS 3 1 v6 (vss.take k).flatten.length ((vss.take k).flatten.flatMap encI) L) _ _ _ _ ⟨0, _, _, rfl, rfl, rfl, rfl, Nat.zero_le _, hG⟩ (.cons rfl (.cons rfl (.cons rfl (.cons rfl .nil)))) (HLe.refl _) rfl ?_
    rintro mz E I' loc' ⟨k, v6, L, rfl, rfl, rfl, rfl, hk, hO⟩
    refine X_seq ?_
    refine X_region ?_
    refine XO_v0 (ev_cmp rfl rfl rfl) rfl rfl rfl ?_
    refine XO_nil ?_
    refine at_then ?_
    refine X_seq ?_
    refine X_cond rfl (fun hc28 => ?_) (fun hc28 => ?_)
    · skip
      have hlt_k : k < n := by have h := hc28; simp at h; omega
      obtain ⟨x, v, hx, hv, hQ⟩ := hV.at hlt_k
      have hxl := hQ.len
      have hfl := flat_le (vss := vss) (k + 1)
      rw [flat_step hv, List.length_append] at hfl
      refine X_skip ?_
      refine at_then ?_
      refine X_seq ?_
      refine X_block ?_
      refine X_seq ?_
      refine X_region ?_
      refine XO_v0 (ev_indexSl rfl rfl slt_28 hH (fun hg => by first | omega | (simp [conj] at hg; omega))) rfl rfl rfl ?_
      refine XO_v0 (ev_load rfl sct_22 (fun hg => by first | exact Sl.get0 hH hx rfl | exact Cell.h0 rfl | exact Cell.h1 rfl | exact Cell.h2 rfl | exact Cell.h3 rfl | exact Cell.h4 rfl | exact Cell.h5 rfl | (repeat (first | exact Cell.here rfl | apply Cell.there | apply Cell.app)))) rfl rfl rfl ?_
      refine XO_v0 (ev_assign rfl) rfl rfl rfl ?_
      refine XO_nil ?_
      refine at_then ?_
      refine X_region ?_
      refine XO_v0 (ev_move rfl) rfl rfl rfl ?_
      refine XO_v0 (ev_move rfl) rfl rfl rfl ?_
      refine XO_append (v := _) (ys := v.flatMap encI) (L := L) rfl rfl elt_22 hO (by repeat (first | exact .cons .here .nil | exact split_all | exact split_app | apply split_cons | apply split_skip)) (hQ.src encI_len) (one_I _) (by omega) rfl rfl ?_
      intro v9 L9 hO9 _; rw [← List.flatMap_append] at hO9
      refine XO_v0 (ev_assign rfl) rfl rfl rfl ?_
      refine XO_nil ?_
      refine at_block_n ?_
      refine at_then ?_
      refine X_region ?_
      refine XO_v0 (ev_arB rfl rfl rfl (fun _ => by first | omega | (have hfl := flat_le (vss := vss) k; have hfl2 := flat_le (vss := vss) (k + 1); omega))) rfl rfl rfl ?_
      refine XO_v0 (ev_move rfl) rfl rfl rfl ?_
      refine XO_nil ?_
      exact at_met2 _ _ ⟨n - (k + 1), by omega, k + 1, _, _, rfl, rfl, rfl, rfl, by omega, by rw [flat_step hv, List.length_append, hQ.len]; exact hO9⟩ (.cons rfl (.cons rfl (.cons rfl (.cons rfl .nil)))) (by repeat (first | exact .refl | exact subL_left | refine subL_app ?_ | refine .drop ?_ | refine subL_add ?_))
    · skip
      have hge_k : n ≤ k := by have h := hc28; simp at h; omega
      rw [List.take_of_length_le (show vss.length ≤ k by omega)] at hO
      refine X_exit ?_
      refine at_then_e ?_
      refine at_then_e ?_
      refine at_block_hit ?_
      refine at_then ?_
      refine X_seq ?_
      refine X_region ?_
      refine XO_v0 (ev_move rfl) rfl rfl rfl ?_
      refine XO_v0 (ev_assign rfl) rfl rfl rfl ?_
      refine XO_nil ?_
      refine at_then ?_
      refine X_ret ?_
      exact at_ret1 rfl rfl (fun w hw => ⟨_, _, L, rfl, HLe.refl _, hw, rfl, hO⟩)
theorem w_concat2 {I : HMap} {b : Nat} {x y : List Int} (hV : SlN I (some ⟨b, 0, none⟩) 2 2 [x, y]) (hx : x.length ≤ 1000) (hy : y.length ≤ 1000) : RetM Tryd.prog 49 [.slice (some ⟨b, 0, none⟩) 2 2] I [] (fun v I' L => I' = I ∧ OwnS 3 1 v (x ++ y).length ((x ++ y).flatMap encI) L) := by
  have h := w_concat hV (by omega) (by simp; omega)
  have e : [x, y].flatten = x ++ y := by simp
  rw [e] at h; exact h
theorem w_trees1 (I : HMap) (s : Int) : RetM Tryd.prog 32 [.int .i64 s] I [] (fun v I' L => L = [] ∧ ∃ b, v = .func (.func 48) #[] #[capP b] ∧ Cell I' [] b 0 (.int .i64 s)) := by
  intro g H w hw
  refine enter Tryd.func32 rfl Tryd.ntmps32 rfl hw ?_
  refine X_seq ?_
  refine X_region ?_
  refine XO_box rfl rfl rfl (fun b_1 => ?_)
  refine XO_v0 (ev_assign rfl) rfl rfl rfl ?_
  refine XO_nil ?_
  refine at_then ?_
  refine X_seq ?_
  refine X_region ?_
  refine XO_v0 (ev_makeFunc (us := []) (vs := [_]) rfl rfl) rfl rfl rfl ?_
  refine XO_v0 (ev_assign rfl) rfl rfl rfl ?_
  refine XO_nil ?_
  refine at_then ?_
  refine X_ret ?_
  exact at_ret1 rfl rfl (fun w hw => by obtain ⟨I9, h91, h92, h93⟩ := hw.freezeAll; exact ⟨_, I9, [], rfl, h91, h92, rfl, b_1, rfl, (.imm (h93 _ _ (List.mem_singleton.2 rfl)) rfl)⟩)
end Go.Proofs.YtkpmnnflikkhmaaDoor
end
section
namespace Go.Proofs.YtkpmnnflikkhmaaDoor
open Go Go.Kn Go.Proofs
theorem fun_32 : Fun Tryd.prog 32 := .of Tryd.func32 (by kernel_rfl) (by kernel_rfl)
theorem fun_48 : Fun Tryd.prog 48 := .of Tryd.func48 (by kernel_rfl) (by kernel_rfl)
theorem fun_49 : Fun Tryd.prog 49 := .of Tryd.func49 (by kernel_rfl) (by kernel_rfl)
theorem fun_50 : Fun Tryd.prog 50 := .of Tryd.func50 (by kernel_rfl) (by kernel_rfl)
theorem sct_69 : ScT Tryd.prog 69 := .of (by kernel_rfl)
theorem szt_22 : SzT Tryd.prog 22 1 := .of (by kernel_rfl)
theorem zt_22 : ZeroT Tryd.prog 22 (.slice none 0 0) := .of (by kernel_rfl)
theorem zt_3 : ZeroT Tryd.prog 3 (.int .i64 0) := .of (by kernel_rfl)
theorem w_tree_step {I : HMap} {b : Nat} (f : Nat) (hf7 : f ≤ 7) (s : Int) (hs : 1 ≤ s ∧ s ≤ 63) (hb : Cell I [] b 0 (.int .i64 s)) (ih : ∀ I', HLe I I' → ∀ (s' : Int) (b' : Nat), (1 ≤ s' ∧ s' ≤ 63) → popF s' < popF s → Cell I' [] b' 0 (.int .i64 s') → SeqR Tryd.prog 48 [capP b'] I' relS (treesI f s')) : SeqR Tryd.prog 48 [capP b] I relS (treesI (f + 1) s) := by
  intro g l J Jx hJm hY I0 H w h0 hJ hw
  have hb := hb.mono h0
  refine enterMs Tryd.func48 rfl Tryd.ntmps48 rfl hw ?_
  have hI0 := HLe.refl I0
  refine X_seq ?_
  refine X_region ?_
  refine XO_box rfl rfl rfl (fun b_2 => ?_)
  refine XO_nil ?_
  refine at_then ?_
  refine X_seq ?_
  refine X_seq ?_
  refine X_freeze .here (fun I1 hI1 hb1 => ?_)
  have hb := hb.mono hI1
  have hI0 := hI0.trans hI1
  have hy2 : Cell I1 [] b_2 0 (.func (.yield l) #[] #[]) := .imm hb1 rfl
  refine X_region ?_
  refine XO_v0 (ev_load rfl sct_3 (fun hg => by first | exact hb.any | exact hy2.any | exact hc3.any | exact hc4.any | exact Cell.h0 rfl | exact Cell.h1 rfl | exact Cell.h2 rfl | exact Cell.h3 rfl | exact Cell.h4 rfl | exact Cell.h5 rfl | (repeat (first | exact Cell.here rfl | apply Cell.there | apply Cell.app)))) rfl rfl rfl ?_
  refine XO_callV0 (cap := []) (vs := [_]) rfl rfl fun_44 (w_single _ _) rfl rfl ?_
  refine XO_nil ?_
  refine at_then ?_
  refine X_cond rfl (fun hc8 => ?_) (fun hc8 => ?_)
  · skip
    have hsing : singF s = true := hc8
    refine X_seq ?_
    refine X_region ?_
    refine XO_v0 (ev_load rfl sct_69 (fun hg => by first | exact hb.any | exact hy2.any | exact hc3.any | exact hc4.any | exact Cell.h0 rfl | exact Cell.h1 rfl | exact Cell.h2 rfl | exact Cell.h3 rfl | exact Cell.h4 rfl | exact Cell.h5 rfl | (repeat (first | exact Cell.here rfl | apply Cell.there | apply Cell.app)))) rfl rfl rfl ?_
    refine XO_yield0 (vs := [.slice none 0 0]) rfl rfl rfl rfl (hY _ ([] : List Int) _ _ _ (by rw [treesI_1 hsing]; exact List.prefix_rfl) (h0.trans hI0) ⟨_, _, _, rfl, Sl.nil⟩ (hJm _ _ _ _ hI0 hJ)) ?_
    rintro t9 I2 H2 hI2 hpost
    have hb := hb.mono hI2
    have hy2 := hy2.mono hI2
    have hI0 := hI0.trans hI2
    refine XO_nil ?_
    refine at_then ?_
    refine X_ret ?_
    refine at_then_r ?_
    first
    | exact at_retMs (L := []) (ms := []) (fun a ha w hw => res0 rfl a w) (fun w hw => ⟨_, _, _, rfl, hI0, hw, by rw [treesI_1 hsing]; cases t9 with
      | true => exact .inl hpost
      | false => exact .inr ⟨_, List.prefix_rfl, hpost⟩⟩)
    | exact at_normM (at_retMs (L := [(_, _)]) (fun a ha w hw => res0 rfl a w) (fun w hw => ⟨_, _, _, rfl, hI0, hw.drop, .inl hJd⟩))
    | exact at_retMs (L := []) (fun a ha w hw => res0 rfl a w) (fun w hw => ⟨_, _, _, rfl, hI0, hw, .inr hJx⟩)
  · skip
    have hns : singF s = false := hc8
    refine X_skip ?_
    refine at_then ?_
    refine X_seq ?_
    refine X_region ?_
    refine XO_v0 (ev_load rfl sct_3 (fun hg => by first | exact hb.any | exact hy2.any | exact hc3.any | exact hc4.any | exact Cell.h0 rfl | exact Cell.h1 rfl | exact Cell.h2 rfl | exact Cell.h3 rfl | exact Cell.h4 rfl | exact Cell.h5 rfl | (repeat (first | exact Cell.here rfl | apply Cell.there | apply Cell.app)))) rfl rfl rfl ?_
    refine XO_v0 (ev_ar rfl rfl rfl) rfl rfl rfl ?_
    refine XO_v0 (ev_load rfl sct_3 (fun hg => by first | exact hb.any | exact hy2.any | exact hc3.any | exact hc4.any | exact Cell.h0 rfl | exact Cell.h1 rfl | exact Cell.h2 rfl | exact Cell.h3 rfl | exact Cell.h4 rfl | exact Cell.h5 rfl | (repeat (first | exact Cell.here rfl | apply Cell.there | apply Cell.app)))) rfl rfl rfl ?_
    refine XO_v0 (ev_and rfl rfl) rfl rfl rfl ?_
    refine XO_alloc zt_3 rfl rfl (fun b_3 => ?_)
    refine XO_store rfl rfl szt_3 rfl rfl (by first | exact Upd.u0 | exact Upd.u1 | exact Upd.u2 | exact Upd.u3 | exact Upd.u4 | exact Upd.u5 | (repeat (first | exact Upd.here | apply Upd.there | apply upd_app))) rfl ?_
    refine XO_nil ?_
    have hn0 := next_in (a := s) (s := s) (by omega) (by omega)
    refine at_then ?_
    refine X_block ?_
    refine X_loopMH (fun m ms E I' H' loc' => ∃ (a : Int) (q : Nat) (dn : List (List Int)) (b3 : Nat), m = a.toNat ∧ E = [(1, capP b), (2, capP b_2), (3, capP b3)] ∧ loc' = [(b3, .cells #[.int .i64 a] 3 (0, 0))] ++ MB ms ∧ HLe I0 I' ∧ HLe I1 I' ∧ (0 ≤ a ∧ a < s ∧ andI a s = a ∧ a.toNat < q ∧ dn ++ (subR s q a).flatMap (brI f s) = (treesI (f + 1) s)) ∧ J dn I' H') _ _ _ ⟨nextS s s, 64, [], b_3, rfl, rfl, rfl, hI0, HLe.refl _, ⟨hn0.1, by omega, next_sub hs (by omega), by omega, by rw [treesI_2 hns]; rfl⟩, hJm _ _ _ _ hI0 hJ⟩ (.cons rfl (.cons rfl (.cons rfl .nil))) (by repeat (first | exact .refl | exact subL_left | exact subL_nil | refine subL_app ?_ | refine .keep ?_ | refine .drop ?_ | refine subL_add ?_)) ?_
    rintro m ms E J1 H1 loc' ⟨a, q, dn, b3, rfl, rfl, rfl, hI9, hIl, ⟨ha0, ha1, ha2, haq, hdn⟩, hJd⟩
    have hb := hb.mono hIl
    have hy2 := hy2.mono hIl
    have hI0 := hI0.trans hIl
    have hC := HLe.refl J1
    refine X_seq ?_
    refine X_seq ?_
    refine X_region ?_
    refine XO_v0 (ev_load rfl sct_3 (fun hg => by first | exact hb.any | exact hy2.any | exact hc3.any | exact hc4.any | exact Cell.h0 rfl | exact Cell.h1 rfl | exact Cell.h2 rfl | exact Cell.h3 rfl | exact Cell.h4 rfl | exact Cell.h5 rfl | (repeat (first | exact Cell.here rfl | apply Cell.there | apply Cell.app)))) rfl rfl rfl ?_
    refine XO_v0 (ev_cmp rfl rfl rfl) rfl rfl rfl ?_
    refine XO_nil ?_
    refine at_then ?_
    refine X_cond rfl (fun hc16 => ?_) (fun hc16 => ?_)
    · skip
      have ha : a > 0 := by simpa using hc16
      obtain ⟨q, rfl⟩ : ∃ q0, q = q0 + 1 := ⟨q - 1, by omega⟩
      have hna := next_in (a := a) (s := s) (by omega) (by omega)
      refine X_skip ?_
      refine at_then ?_
      refine X_seq ?_
      refine X_block ?_
      refine X_seq ?_
      refine X_seq ?_
      refine X_freeze .here (fun I3 hI3 hb3 => ?_)
      have hb := hb.mono hI3
      have hy2 := hy2.mono hI3
      have hI0 := hI0.trans hI3
      have hIl := hIl.trans hI3
      have hC := hC.trans hI3
      have hc3 : Cell I3 [] b3 0 (.int .i64 a) := .imm hb3 rfl
      refine X_region ?_
      refine XO_v0 (ev_load rfl sct_3 (fun hg => by first | exact hb.any | exact hy2.any | exact hc3.any | exact hc4.any | exact Cell.h0 rfl | exact Cell.h1 rfl | exact Cell.h2 rfl | exact Cell.h3 rfl | exact Cell.h4 rfl | exact Cell.h5 rfl | (repeat (first | exact Cell.here rfl | apply Cell.there | apply Cell.app)))) rfl rfl rfl ?_
      refine XO_v0 (ev_load rfl sct_3 (fun hg => by first | exact hb.any | exact hy2.any | exact hc3.any | exact hc4.any | exact Cell.h0 rfl | exact Cell.h1 rfl | exact Cell.h2 rfl | exact Cell.h3 rfl | exact Cell.h4 rfl | exact Cell.h5 rfl | (repeat (first | exact Cell.here rfl | apply Cell.there | apply Cell.app)))) rfl rfl rfl ?_
      refine XO_v0 (ev_neg rfl) rfl rfl rfl ?_
      refine XO_v0 (ev_and rfl rfl) rfl rfl rfl ?_
      refine XO_v0 (ev_load rfl sct_3 (fun hg => by first | exact hb.any | exact hy2.any | exact hc3.any | exact hc4.any | exact Cell.h0 rfl | exact Cell.h1 rfl | exact Cell.h2 rfl | exact Cell.h3 rfl | exact Cell.h4 rfl | exact Cell.h5 rfl | (repeat (first | exact Cell.here rfl | apply Cell.there | apply Cell.app)))) rfl rfl rfl ?_
      refine XO_v0 (ev_load rfl sct_3 (fun hg => by first | exact hb.any | exact hy2.any | exact hc3.any | exact hc4.any | exact Cell.h0 rfl | exact Cell.h1 rfl | exact Cell.h2 rfl | exact Cell.h3 rfl | exact Cell.h4 rfl | exact Cell.h5 rfl | (repeat (first | exact Cell.here rfl | apply Cell.there | apply Cell.app)))) rfl rfl rfl ?_
      refine XO_v0 (ev_neg rfl) rfl rfl rfl ?_
      refine XO_v0 (ev_and rfl rfl) rfl rfl rfl ?_
      refine XO_v0 (ev_cmp rfl rfl rfl) rfl rfl rfl ?_
      refine XO_nil ?_
      refine at_then ?_
      refine X_cond rfl (fun hc29 => ?_) (fun hc29 => ?_)
      · skip
        have hlow : lowS a s = false := by unfold lowS; simpa using hc29
        refine X_exit ?_
        refine at_then_e ?_
        refine at_block_hit ?_
        refine at_then ?_
        refine X_seq ?_
        refine X_seq ?_
        refine X_region ?_
        refine XO_v0 (ev_load rfl sct_3 (fun hg => by first | exact hb.any | exact hy2.any | exact hc3.any | exact hc4.any | exact Cell.h0 rfl | exact Cell.h1 rfl | exact Cell.h2 rfl | exact Cell.h3 rfl | exact Cell.h4 rfl | exact Cell.h5 rfl | (repeat (first | exact Cell.here rfl | apply Cell.there | apply Cell.app)))) rfl rfl rfl ?_
        refine XO_nil ?_
        refine at_then ?_
        refine X_region ?_
        refine XO_alloc zt_3 rfl rfl (fun b_3 => ?_)
        refine XO_store rfl rfl szt_3 rfl rfl (by first | exact Upd.u0 | exact Upd.u1 | exact Upd.u2 | exact Upd.u3 | exact Upd.u4 | exact Upd.u5 | (repeat (first | exact Upd.here | apply Upd.there | apply upd_app))) rfl ?_
        refine XO_nil ?_
        refine at_then ?_
        refine X_region ?_
        refine XO_v0 (ev_load rfl sct_3 (fun hg => by first | exact hb.any | exact hy2.any | exact hc3.any | exact hc4.any | exact Cell.h0 rfl | exact Cell.h1 rfl | exact Cell.h2 rfl | exact Cell.h3 rfl | exact Cell.h4 rfl | exact Cell.h5 rfl | (repeat (first | exact Cell.here rfl | apply Cell.there | apply Cell.app)))) rfl rfl rfl ?_
        refine XO_v0 (ev_ar rfl rfl rfl) rfl rfl rfl ?_
        refine XO_v0 (ev_load rfl sct_3 (fun hg => by first | exact hb.any | exact hy2.any | exact hc3.any | exact hc4.any | exact Cell.h0 rfl | exact Cell.h1 rfl | exact Cell.h2 rfl | exact Cell.h3 rfl | exact Cell.h4 rfl | exact Cell.h5 rfl | (repeat (first | exact Cell.here rfl | apply Cell.there | apply Cell.app)))) rfl rfl rfl ?_
        refine XO_v0 (ev_and rfl rfl) rfl rfl rfl ?_
        refine XO_store rfl rfl szt_3 rfl rfl (by first | exact Upd.u0 | exact Upd.u1 | exact Upd.u2 | exact Upd.u3 | exact Upd.u4 | exact Upd.u5 | (repeat (first | exact Upd.here | apply Upd.there | apply upd_app))) rfl ?_
        refine XO_nil ?_
        first
        | exact at_metMH rfl rfl _ _ ⟨(nextS s a).toNat, by omega, nextS s a, q, dn ++ blkI (treesI f a) (treesI f (s - a)) s, b_3, rfl, rfl, rfl, hI0, hIl, ⟨hna.1, by omega, next_sub hs (by omega), by omega, out_yes ha hdn hlow⟩, hJ1⟩ (.cons rfl (.cons rfl (.cons rfl .nil))) (by repeat (first | exact .refl | exact subL_left | exact subL_nil | refine subL_app ?_ | refine .keep ?_ | refine .drop ?_ | refine subL_add ?_))
        | exact at_metMH rfl rfl _ _ ⟨(nextS s a).toNat, by omega, nextS s a, q, dn, b_3, rfl, rfl, rfl, hI0, hIl, ⟨hna.1, by omega, next_sub hs (by omega), by omega, out_no ha hdn hlow⟩, hJm _ _ _ _ hC hJd⟩ (.cons rfl (.cons rfl (.cons rfl .nil))) (by repeat (first | exact .refl | exact subL_left | exact subL_nil | refine subL_app ?_ | refine .keep ?_ | refine .drop ?_ | refine subL_add ?_))
      · skip
        have hlow : lowS a s = true := by unfold lowS; simpa using hc29
        have hpop := low_pop hs (by omega) ha2 hlow
        refine X_skip ?_
        refine at_then ?_
        refine X_seq ?_
        refine X_region ?_
        refine XO_v0 (ev_load rfl sct_3 (fun hg => by first | exact hb.any | exact hy2.any | exact hc3.any | exact hc4.any | exact Cell.h0 rfl | exact Cell.h1 rfl | exact Cell.h2 rfl | exact Cell.h3 rfl | exact Cell.h4 rfl | exact Cell.h5 rfl | (repeat (first | exact Cell.here rfl | apply Cell.there | apply Cell.app)))) rfl rfl rfl ?_
        refine XO_callM (cap := []) (vs := [_]) rfl rfl fun_32 .nil (w_trees1 _ a) rfl rfl ?_
        rintro vv4 I4 L4 hI4 ⟨rfl, b5, rfl, hc5⟩
        have hb := hb.mono hI4
        have hy2 := hy2.mono hI4
        have hc3 := hc3.mono hI4
        have hI0 := hI0.trans hI4
        have hIl := hIl.trans hI4
        have hC := hC.trans hI4
        refine XO_nil ?_
        refine at_then ?_
        refine X_block ?_
        refine X_rangeFuncR (rel := relS) (xs := treesI f a) (L := []) (fun pre I' H' L' => L' = [] ∧ HLe I0 I' ∧ J (dn ++ blkI pre (treesI f (s - a)) s) I' H') (fun cd pre I' H' L' => cd = .ret ∧ L' = [] ∧ HLe I0 I' ∧ ∃ p, p <+: (treesI (f + 1) s) ∧ Jx p I' H') (fun pre x E2 I2 H2 L2 => ∃ b4 n4 c4 a4, E2 = [(1, capP b), (2, capP b_2), (3, capP b3), (4, capP b4)] ∧ L2 = [(b4, .cells #[.slice a4 n4 c4] 22 (0, 0))] ∧ Sl I2 1 encI a4 n4 c4 x ∧ HLe I0 I2 ∧ J (dn ++ blkI pre (treesI f (s - a)) s) I2 H2) (fun pre I1 I2 H' L' h12 ⟨e1, e2, e3⟩ => ⟨e1, e2.trans h12, hJm _ _ _ _ h12 e3⟩) rfl fun_48 (ih _ (h0.trans hI0) a b5 ⟨by omega, by omega⟩ hpop.1 hc5) rfl ⟨rfl, hI0, by rw [blk_nil, List.append_nil]; exact hJm _ _ _ _ hC hJd⟩ ?_ ?_ ?_ ?_
        · rintro l9 Z pre x v I1 H1 L1 hpre hI1 ⟨a4, n4, c4, rfl, hx4⟩ ⟨rfl, hI01, hJ1⟩
          refine X_region ?_
          refine XO_alloc zt_22 rfl rfl (fun b_4 => ?_)
          refine XO_store rfl rfl szt_22 rfl rfl (by first | exact Upd.u0 | exact Upd.u1 | exact Upd.u2 | exact Upd.u3 | exact Upd.u4 | exact Upd.u5 | (repeat (first | exact Upd.here | apply Upd.there | apply upd_app))) rfl ?_
          refine XO_nil ?_
          exact at_met' _ ⟨HLe.refl _, [(b_4, _)], rfl, b_4, n4, c4, a4, rfl, rfl, hx4, hI01, hJ1⟩ (.cons rfl (.cons rfl (.cons rfl (.cons rfl .nil))))
        · rintro l9 Z pre x E2 I2 H2 L2 hl9 hpre hI2 ⟨b4, n4, c4, a4, rfl, rfl, hx4, hI02, hJ1⟩
          have hb := hb.mono hI2
          have hy2 := hy2.mono hI2
          have hc3 := hc3.mono hI2
          have hc5 := hc5.mono hI2
          have hI0 := hI0.trans hI2
          have hIl := hIl.trans hI2
          have hC := hC.trans hI2
          have hR := HLe.refl I2
          refine X_freeze .here (fun I5 hI5 hb5 => ?_)
          have hb := hb.mono hI5
          have hy2 := hy2.mono hI5
          have hc3 := hc3.mono hI5
          have hc5 := hc5.mono hI5
          have hx4 := hx4.mono hI5
          have hI0 := hI0.trans hI5
          have hIl := hIl.trans hI5
          have hC := hC.trans hI5
          have hR := hR.trans hI5
          have hc4 : Cell I5 [] b4 0 (.slice a4 n4 c4) := .imm hb5 rfl
          have hxl := row_pre hf7 hpre
          have hx4l := hx4.len
          refine X_block ?_
          refine X_seq ?_
          refine X_region ?_
          refine XO_v0 (ev_load rfl sct_3 (fun hg => by first | exact hb.any | exact hy2.any | exact hc3.any | exact hc4.any | exact Cell.h0 rfl | exact Cell.h1 rfl | exact Cell.h2 rfl | exact Cell.h3 rfl | exact Cell.h4 rfl | exact Cell.h5 rfl | (repeat (first | exact Cell.here rfl | apply Cell.there | apply Cell.app)))) rfl rfl rfl ?_
          refine XO_v0 (ev_load rfl sct_3 (fun hg => by first | exact hb.any | exact hy2.any | exact hc3.any | exact hc4.any | exact Cell.h0 rfl | exact Cell.h1 rfl | exact Cell.h2 rfl | exact Cell.h3 rfl | exact Cell.h4 rfl | exact Cell.h5 rfl | (repeat (first | exact Cell.here rfl | apply Cell.there | apply Cell.app)))) rfl rfl rfl ?_
          refine XO_v0 (ev_andNot rfl rfl) rfl rfl rfl ?_
          refine XO_callM (cap := []) (vs := [_]) rfl rfl fun_32 .nil (w_trees1 _ _) rfl rfl ?_
          rintro vv6 I6 L6 hI6 ⟨rfl, b6, rfl, hc6⟩
          have hb := hb.mono hI6
          have hy2 := hy2.mono hI6
          have hc3 := hc3.mono hI6
          have hc5 := hc5.mono hI6
          have hx4 := hx4.mono hI6
          have hc4 := hc4.mono hI6
          have hI0 := hI0.trans hI6
          have hIl := hIl.trans hI6
          have hC := hC.trans hI6
          have hR := hR.trans hI6
          rw [less_eq hs (by omega) ha2] at hc6
          refine XO_nil ?_
          refine at_then ?_
          refine X_block ?_
          refine X_rangeFuncRI (Z := Z) hl9 (rel := relS) (xs := treesI f (s - a)) (L := []) (fun pre2 I' H' L' => L' = [] ∧ HLe I0 I' ∧ J (dn ++ (blkI pre (treesI f (s - a)) s ++ pre2.map (srtI s x))) I' H') (fun cd pre2 I' H' L' => cd = .ret ∧ L' = [] ∧ HLe I0 I' ∧ ∃ p, p <+: (treesI (f + 1) s) ∧ Jx p I' H') (fun pre2 y E2 I2 H2 L2 => ∃ n5 c5 a5, E2 = [(1, capP b), (2, capP b_2), (3, capP b3), (4, capP b4), (5, .slice a5 n5 c5)] ∧ L2 = [] ∧ Sl I2 1 encI a5 n5 c5 y ∧ HLe I0 I2 ∧ J (dn ++ (blkI pre (treesI f (s - a)) s ++ pre2.map (srtI s x))) I2 H2) (fun pre I1 I2 H' L' h12 ⟨e1, e2, e3⟩ => ⟨e1, e2.trans h12, hJm _ _ _ _ h12 e3⟩) rfl fun_48 (ih _ (h0.trans hI0) (s - a) b6 ⟨by omega, by omega⟩ hpop.2 hc6) rfl ⟨rfl, hI0, by rw [List.map_nil, List.append_nil]; exact hJm _ _ _ _ hR hJ1⟩ ?_ ?_ ?_ ?_
          · rintro l8 Z2 pre2 y v I1 H1 L1 hpre2 hI1 ⟨a5, n5, c5, rfl, hx5⟩ ⟨rfl, hI01, hJ2⟩
            refine X_region ?_
            refine XO_v0 (ev_assign rfl) rfl rfl rfl ?_
            refine XO_nil ?_
            exact at_met' _ ⟨HLe.refl _, [], rfl, n5, c5, a5, rfl, rfl, hx5, hI01, hJ2⟩ (.cons rfl (.cons rfl (.cons rfl (.cons rfl (.cons rfl .nil)))))
          · rintro l8 Z2 pre2 y E2 I2 H2 L2 hl8 hpre2 hI2 ⟨n5, c5, a5, rfl, rfl, hx5, hI02, hJ2⟩
            have hb := hb.mono hI2
            have hy2 := hy2.mono hI2
            have hc3 := hc3.mono hI2
            have hc5 := hc5.mono hI2
            have hx4 := hx4.mono hI2
            have hc4 := hc4.mono hI2
            have hc6 := hc6.mono hI2
            have hI0 := hI0.trans hI2
            have hIl := hIl.trans hI2
            have hC := hC.trans hI2
            have hR := hR.trans hI2
            have hR2 := HLe.refl I2
            have hyl := row_pre hf7 hpre2
            have hx5l := hx5.len
            have hxyl : (x ++ y).length ≤ 254 := by rw [List.length_append]; omega
            have hpx : (dn ++ (blkI pre (treesI f (s - a)) s ++ pre2.map (srtI s x))) ++ [srtI s x y] <+: (treesI (f + 1) s) := out_pre ha hdn hlow (blk_pre hpre hpre2)
            refine X_block ?_
            refine X_seq ?_
            have hD := HLe.refl I2
            refine X_noP ?_
            refine X_drawS I2 [] mixed ?_
            refine XD_take 0 rfl (ev_load rfl sct_22 (fun hg => by first | exact hb.any | exact hy2.any | exact hc3.any | exact hc4.any | exact Cell.h0 rfl | exact Cell.h1 rfl | exact Cell.h2 rfl | exact Cell.h3 rfl | exact Cell.h4 rfl | exact Cell.h5 rfl | (repeat (first | exact Cell.here rfl | apply Cell.there | apply Cell.app)))) (.none rfl) rfl rfl rfl (by kernel_rfl) (by kernel_rfl) (by kernel_rfl) noP_ok hD (by repeat (first | exact .refl | exact subL_nil | refine .keep ?_ | refine .drop ?_ | refine subL_add ?_)) ?_
            refine XD_take 1 rfl (ev_move rfl) (.none rfl) rfl rfl rfl (by kernel_rfl) (by kernel_rfl) (by kernel_rfl) noP_ok hD (by repeat (first | exact .refl | exact subL_nil | refine .keep ?_ | refine .drop ?_ | refine subL_add ?_)) ?_
            refine XD_take 4 rfl (ev_load rfl sct_3 (fun hg => by first | exact hb.any | exact hy2.any | exact hc3.any | exact hc4.any | exact Cell.h0 rfl | exact Cell.h1 rfl | exact Cell.h2 rfl | exact Cell.h3 rfl | exact Cell.h4 rfl | exact Cell.h5 rfl | (repeat (first | exact Cell.here rfl | apply Cell.there | apply Cell.app)))) (.none rfl) rfl rfl rfl (by kernel_rfl) (by kernel_rfl) (by kernel_rfl) noP_ok hD (by repeat (first | exact .refl | exact subL_nil | refine .keep ?_ | refine .drop ?_ | refine subL_add ?_)) ?_
            refine XD_two 2 5 rfl rfl (by kernel_rfl) ?_ ?_
            · skip
              refine XO_buildSlice (ps := [(0, _), (1, _)]) (m := [encH ⟨a4, n4, c4⟩, encH ⟨a5, n5, c5⟩]) elt_28 rfl (.cons rfl (.cons rfl (.nil))) rfl (by simp [encH_len, encI_len]) (by decide) (by decide) rfl rfl (fun b_40 => ?_)
              refine XO_nil ?_
              refine at_D hD (by repeat (first | exact .refl | exact subL_nil | refine .keep ?_ | refine .drop ?_ | refine subL_add ?_)) ?_
              refine XD_two 3 5 rfl rfl (by kernel_rfl) ?_ ?_
              · skip
                refine XO_freeze (b := b_40) (by repeat (first | exact Take.here | apply Take.there)) (fun I7 hI7 hb7 => ?_)
                have hb := hb.mono hI7
                have hy2 := hy2.mono hI7
                have hc3 := hc3.mono hI7
                have hc5 := hc5.mono hI7
                have hx4 := hx4.mono hI7
                have hc4 := hc4.mono hI7
                have hc6 := hc6.mono hI7
                have hx5 := hx5.mono hI7
                have hI0 := hI0.trans hI7
                have hIl := hIl.trans hI7
                have hC := hC.trans hI7
                have hR := hR.trans hI7
                have hR2 := hR2.trans hI7
                have hD := hD.trans hI7
                have hVV := two_rows hb7 hx4 hx5
                refine XO_callM (cap := []) (vs := [_]) rfl rfl fun_49 .nil (w_concat2 hVV (by omega) (by omega)) rfl rfl ?_
                rintro vv8 I8 L8 hI8 ⟨rfl, hO6⟩
                have hb := hb.mono hI8
                have hy2 := hy2.mono hI8
                have hc3 := hc3.mono hI8
                have hc5 := hc5.mono hI8
                have hx4 := hx4.mono hI8
                have hc4 := hc4.mono hI8
                have hc6 := hc6.mono hI8
                have hx5 := hx5.mono hI8
                have hI0 := hI0.trans hI8
                have hIl := hIl.trans hI8
                have hC := hC.trans hI8
                have hR := hR.trans hI8
                have hR2 := hR2.trans hI8
                have hD := hD.trans hI8
                refine XO_nil ?_
                refine at_D hD (by repeat (first | exact .refl | exact subL_nil | refine .keep ?_ | refine .drop ?_ | refine subL_add ?_)) ?_
                refine XD_one 5 rfl (by kernel_rfl) ?_
                refine XO_buildSlice (ps := [(0, _)]) (m := [encI s]) elt_22 rfl (.cons rfl (.nil)) rfl (by simp [encH_len, encI_len]) (by decide) (by decide) rfl rfl (fun b_43 => ?_)
                refine XO_nil ?_
                refine at_D hD (by repeat (first | exact .refl | exact subL_nil | refine .keep ?_ | refine .drop ?_ | refine subL_add ?_)) ?_
                refine XD_one 6 rfl (by kernel_rfl) ?_
                refine XO_append (v := _) (ys := [s].flatMap encI) (L := _) rfl rfl elt_22 hO6 (by repeat (first | exact .cons .here .nil | exact split_all | exact split_app | apply split_cons | apply split_skip)) ⟨rfl, fun _ => rfl, by repeat (first | exact Cells.here | apply Cells.there | apply Cells.app)⟩ (one_I [s]) (by omega) rfl rfl ?_
                intro v9 L9 hO9 _; rw [← List.flatMap_append] at hO9
                refine XO_nil ?_
                refine at_D hD (by repeat (first | exact .refl | exact subL_nil | refine .keep ?_ | refine .drop ?_ | refine subL_add ?_)) ?_
                refine XD_take 7 rfl (ev_assign rfl) (.none rfl) rfl rfl rfl (by kernel_rfl) (by kernel_rfl) (by kernel_rfl) noP_ok hD (by repeat (first | exact .refl | exact subL_nil | refine .keep ?_ | refine .drop ?_ | refine subL_add ?_)) ?_
                refine XD_done (by kernel_rfl) ?_
                refine at_noP ?_
                refine at_then ?_
                refine X_seq ?_
                refine X_region ?_
                refine XO_v0 (ev_move rfl) rfl rfl rfl ?_
                refine XO_callM (cap := []) (vs := [_]) rfl rfl fun_50 (by repeat (first | exact .cons .here .nil | exact split_all | exact split_app | apply split_cons | apply split_skip)) (w_sortF hO9 (by omega) _) rfl rfl ?_
                rintro vv9 I9 L9 hI9 ⟨rfl, rfl, hO10⟩
                have hb := hb.mono hI9
                have hy2 := hy2.mono hI9
                have hc3 := hc3.mono hI9
                have hc5 := hc5.mono hI9
                have hx4 := hx4.mono hI9
                have hc4 := hc4.mono hI9
                have hc6 := hc6.mono hI9
                have hx5 := hx5.mono hI9
                have hI0 := hI0.trans hI9
                have hIl := hIl.trans hI9
                have hC := hC.trans hI9
                have hR := hR.trans hI9
                have hR2 := hR2.trans hI9
                refine XO_nil ?_
                refine at_then ?_
                refine X_seq ?_
                refine X_freezeO hO10 encI_len (by decide) (by repeat (first | exact split_app | exact split_all)) (fun I10 hI10 af10 cf10 ef10 hl6 => ?_)
                subst ef10
                have hb := hb.mono hI10
                have hy2 := hy2.mono hI10
                have hc3 := hc3.mono hI10
                have hc5 := hc5.mono hI10
                have hx4 := hx4.mono hI10
                have hc4 := hc4.mono hI10
                have hc6 := hc6.mono hI10
                have hx5 := hx5.mono hI10
                have hI0 := hI0.trans hI10
                have hIl := hIl.trans hI10
                have hC := hC.trans hI10
                have hR := hR.trans hI10
                have hR2 := hR2.trans hI10
                refine X_region ?_
                refine XO_v0 (ev_load rfl sct_69 (fun hg => by first | exact hb.any | exact hy2.any | exact hc3.any | exact hc4.any | exact Cell.h0 rfl | exact Cell.h1 rfl | exact Cell.h2 rfl | exact Cell.h3 rfl | exact Cell.h4 rfl | exact Cell.h5 rfl | (repeat (first | exact Cell.here rfl | apply Cell.there | apply Cell.app)))) rfl rfl rfl ?_
                refine XO_v0 (ev_move rfl) rfl rfl rfl ?_
                refine XO_yield0 (vs := [_]) rfl rfl rfl rfl (hY _ (srtI s x y) _ _ _ hpx (h0.trans hI0) ⟨_, _, _, rfl, hl6⟩ (hJm _ _ _ _ hR2 hJ2)) ?_
                rintro t9 I11 H11 hI11 hpost
                have hb := hb.mono hI11
                have hy2 := hy2.mono hI11
                have hc3 := hc3.mono hI11
                have hc5 := hc5.mono hI11
                have hx4 := hx4.mono hI11
                have hc4 := hc4.mono hI11
                have hc6 := hc6.mono hI11
                have hx5 := hx5.mono hI11
                have hl6 := hl6.mono hI11
                have hI0 := hI0.trans hI11
                have hIl := hIl.trans hI11
                have hC := hC.trans hI11
                have hR := hR.trans hI11
                have hR2 := hR2.trans hI11
                refine XO_v0 (ev_not rfl) rfl rfl rfl ?_
                refine XO_nil ?_
                refine at_then ?_
                refine X_cond rfl (fun hc50 => ?_) (fun hc50 => ?_)
                · skip
                  have ht : t9 = false := by simpa using hc50
                  refine X_ret ?_
                  refine at_block_r ?_
                  exact at_roundZ_ret (L := []) ⟨hR2, rfl, rfl, hI0, _, hpx, by have h9 := hpost; rw [ht] at h9; simpa using h9⟩ (by repeat (first | exact .refl | exact subL_left | exact subL_nil | refine subL_app ?_ | refine .keep ?_ | refine .drop ?_ | refine subL_add ?_))
                · skip
                  have ht : t9 = true := by simpa using hc50
                  refine X_skip ?_
                  refine at_block_n ?_
                  exact at_roundZ (L := []) ⟨hR2, rfl, hI0, by have h9 := hpost; rw [ht] at h9; simpa [List.append_assoc] using h9⟩ (by repeat (first | exact .refl | exact subL_left | exact subL_nil | refine subL_app ?_ | refine .keep ?_ | refine .drop ?_ | refine subL_add ?_))
              · skip
                refine XO_buildSlice (ps := [(0, _)]) (m := [encI s]) elt_22 rfl (.cons rfl (.nil)) rfl (by simp [encH_len, encI_len]) (by decide) (by decide) rfl rfl (fun b_43 => ?_)
                refine XO_nil ?_
                refine at_D hD (by repeat (first | exact .refl | exact subL_nil | refine .keep ?_ | refine .drop ?_ | refine subL_add ?_)) ?_
                refine XD_one 3 rfl (by kernel_rfl) ?_
                refine XO_freeze (b := b_40) (by repeat (first | exact Take.here | apply Take.there)) (fun I12 hI12 hb12 => ?_)
                have hb := hb.mono hI12
                have hy2 := hy2.mono hI12
                have hc3 := hc3.mono hI12
                have hc5 := hc5.mono hI12
                have hx4 := hx4.mono hI12
                have hc4 := hc4.mono hI12
                have hc6 := hc6.mono hI12
                have hx5 := hx5.mono hI12
                have hI0 := hI0.trans hI12
                have hIl := hIl.trans hI12
                have hC := hC.trans hI12
                have hR := hR.trans hI12
                have hR2 := hR2.trans hI12
                have hD := hD.trans hI12
                have hVV := two_rows hb12 hx4 hx5
                refine XO_callM (cap := []) (vs := [_]) rfl rfl fun_49 .nil (w_concat2 hVV (by omega) (by omega)) rfl rfl ?_
                rintro vv13 I13 L13 hI13 ⟨rfl, hO6⟩
                have hb := hb.mono hI13
                have hy2 := hy2.mono hI13
                have hc3 := hc3.mono hI13
                have hc5 := hc5.mono hI13
                have hx4 := hx4.mono hI13
                have hc4 := hc4.mono hI13
                have hc6 := hc6.mono hI13
                have hx5 := hx5.mono hI13
                have hI0 := hI0.trans hI13
                have hIl := hIl.trans hI13
                have hC := hC.trans hI13
                have hR := hR.trans hI13
                have hR2 := hR2.trans hI13
                have hD := hD.trans hI13
                refine XO_nil ?_
                refine at_D hD (by repeat (first | exact .refl | exact subL_nil | refine .keep ?_ | refine .drop ?_ | refine subL_add ?_)) ?_
                refine XD_one 6 rfl (by kernel_rfl) ?_
                refine XO_append (v := _) (ys := [s].flatMap encI) (L := _) rfl rfl elt_22 hO6 (by repeat (first | exact .cons .here .nil | exact split_all | exact split_app | apply split_cons | apply split_skip)) ⟨rfl, fun _ => rfl, by repeat (first | exact Cells.here | apply Cells.there | apply Cells.app)⟩ (one_I [s]) (by omega) rfl rfl ?_
                intro v9 L9 hO9 _; rw [← List.flatMap_append] at hO9
                refine XO_nil ?_
                refine at_D hD (by repeat (first | exact .refl | exact subL_nil | refine .keep ?_ | refine .drop ?_ | refine subL_add ?_)) ?_
                refine XD_take 7 rfl (ev_assign rfl) (.none rfl) rfl rfl rfl (by kernel_rfl) (by kernel_rfl) (by kernel_rfl) noP_ok hD (by repeat (first | exact .refl | exact subL_nil | refine .keep ?_ | refine .drop ?_ | refine subL_add ?_)) ?_
                refine XD_done (by kernel_rfl) ?_
                refine at_noP ?_
                refine at_then ?_
                refine X_seq ?_
                refine X_region ?_
                refine XO_v0 (ev_move rfl) rfl rfl rfl ?_
                refine XO_callM (cap := []) (vs := [_]) rfl rfl fun_50 (by repeat (first | exact .cons .here .nil | exact split_all | exact split_app | apply split_cons | apply split_skip)) (w_sortF hO9 (by omega) _) rfl rfl ?_
                rintro vv14 I14 L14 hI14 ⟨rfl, rfl, hO10⟩
                have hb := hb.mono hI14
                have hy2 := hy2.mono hI14
                have hc3 := hc3.mono hI14
                have hc5 := hc5.mono hI14
                have hx4 := hx4.mono hI14
                have hc4 := hc4.mono hI14
                have hc6 := hc6.mono hI14
                have hx5 := hx5.mono hI14
                have hI0 := hI0.trans hI14
                have hIl := hIl.trans hI14
                have hC := hC.trans hI14
                have hR := hR.trans hI14
                have hR2 := hR2.trans hI14
                refine XO_nil ?_
                refine at_then ?_
                refine X_seq ?_
                refine X_freezeO hO10 encI_len (by decide) (by repeat (first | exact split_app | exact split_all)) (fun I15 hI15 af15 cf15 ef15 hl6 => ?_)
                subst ef15
                have hb := hb.mono hI15
                have hy2 := hy2.mono hI15
                have hc3 := hc3.mono hI15
                have hc5 := hc5.mono hI15
                have hx4 := hx4.mono hI15
                have hc4 := hc4.mono hI15
                have hc6 := hc6.mono hI15
                have hx5 := hx5.mono hI15
                have hI0 := hI0.trans hI15
                have hIl := hIl.trans hI15
                have hC := hC.trans hI15
                have hR := hR.trans hI15
                have hR2 := hR2.trans hI15
                refine X_region ?_
                refine XO_v0 (ev_load rfl sct_69 (fun hg => by first | exact hb.any | exact hy2.any | exact hc3.any | exact hc4.any | exact Cell.h0 rfl | exact Cell.h1 rfl | exact Cell.h2 rfl | exact Cell.h3 rfl | exact Cell.h4 rfl | exact Cell.h5 rfl | (repeat (first | exact Cell.here rfl | apply Cell.there | apply Cell.app)))) rfl rfl rfl ?_
                refine XO_v0 (ev_move rfl) rfl rfl rfl ?_
                refine XO_yield0 (vs := [_]) rfl rfl rfl rfl (hY _ (srtI s x y) _ _ _ hpx (h0.trans hI0) ⟨_, _, _, rfl, hl6⟩ (hJm _ _ _ _ hR2 hJ2)) ?_
                rintro t9 I16 H16 hI16 hpost
                have hb := hb.mono hI16
                have hy2 := hy2.mono hI16
                have hc3 := hc3.mono hI16
                have hc5 := hc5.mono hI16
                have hx4 := hx4.mono hI16
                have hc4 := hc4.mono hI16
                have hc6 := hc6.mono hI16
                have hx5 := hx5.mono hI16
                have hl6 := hl6.mono hI16
                have hI0 := hI0.trans hI16
                have hIl := hIl.trans hI16
                have hC := hC.trans hI16
                have hR := hR.trans hI16
                have hR2 := hR2.trans hI16
                refine XO_v0 (ev_not rfl) rfl rfl rfl ?_
                refine XO_nil ?_
                refine at_then ?_
                refine X_cond rfl (fun hc50 => ?_) (fun hc50 => ?_)
                · skip
                  have ht : t9 = false := by simpa using hc50
                  refine X_ret ?_
                  refine at_block_r ?_
                  exact at_roundZ_ret (L := []) ⟨hR2, rfl, rfl, hI0, _, hpx, by have h9 := hpost; rw [ht] at h9; simpa using h9⟩ (by repeat (first | exact .refl | exact subL_left | exact subL_nil | refine subL_app ?_ | refine .keep ?_ | refine .drop ?_ | refine subL_add ?_))
                · skip
                  have ht : t9 = true := by simpa using hc50
                  refine X_skip ?_
                  refine at_block_n ?_
                  exact at_roundZ (L := []) ⟨hR2, rfl, hI0, by have h9 := hpost; rw [ht] at h9; simpa [List.append_assoc] using h9⟩ (by repeat (first | exact .refl | exact subL_left | exact subL_nil | refine subL_app ?_ | refine .keep ?_ | refine .drop ?_ | refine subL_add ?_))
            · skip
              refine XO_buildSlice (ps := [(0, _)]) (m := [encI s]) elt_22 rfl (.cons rfl (.nil)) rfl (by simp [encH_len, encI_len]) (by decide) (by decide) rfl rfl (fun b_43 => ?_)
              refine XO_nil ?_
              refine at_D hD (by repeat (first | exact .refl | exact subL_nil | refine .keep ?_ | refine .drop ?_ | refine subL_add ?_)) ?_
              refine XD_one 2 rfl (by kernel_rfl) ?_
              refine XO_buildSlice (ps := [(0, _), (1, _)]) (m := [encH ⟨a4, n4, c4⟩, encH ⟨a5, n5, c5⟩]) elt_28 rfl (.cons rfl (.cons rfl (.nil))) rfl (by simp [encH_len, encI_len]) (by decide) (by decide) rfl rfl (fun b_40 => ?_)
              refine XO_nil ?_
              refine at_D hD (by repeat (first | exact .refl | exact subL_nil | refine .keep ?_ | refine .drop ?_ | refine subL_add ?_)) ?_
              refine XD_one 3 rfl (by kernel_rfl) ?_
              refine XO_freeze (b := b_40) (by repeat (first | exact Take.here | apply Take.there)) (fun I17 hI17 hb17 => ?_)
              have hb := hb.mono hI17
              have hy2 := hy2.mono hI17
              have hc3 := hc3.mono hI17
              have hc5 := hc5.mono hI17
              have hx4 := hx4.mono hI17
              have hc4 := hc4.mono hI17
              have hc6 := hc6.mono hI17
              have hx5 := hx5.mono hI17
              have hI0 := hI0.trans hI17
              have hIl := hIl.trans hI17
              have hC := hC.trans hI17
              have hR := hR.trans hI17
              have hR2 := hR2.trans hI17
              have hD := hD.trans hI17
              have hVV := two_rows hb17 hx4 hx5
              refine XO_callM (cap := []) (vs := [_]) rfl rfl fun_49 .nil (w_concat2 hVV (by omega) (by omega)) rfl rfl ?_
              rintro vv18 I18 L18 hI18 ⟨rfl, hO6⟩
              have hb := hb.mono hI18
              have hy2 := hy2.mono hI18
              have hc3 := hc3.mono hI18
              have hc5 := hc5.mono hI18
              have hx4 := hx4.mono hI18
              have hc4 := hc4.mono hI18
              have hc6 := hc6.mono hI18
              have hx5 := hx5.mono hI18
              have hI0 := hI0.trans hI18
              have hIl := hIl.trans hI18
              have hC := hC.trans hI18
              have hR := hR.trans hI18
              have hR2 := hR2.trans hI18
              have hD := hD.trans hI18
              refine XO_nil ?_
              refine at_D hD (by repeat (first | exact .refl | exact subL_nil | refine .keep ?_ | refine .drop ?_ | refine subL_add ?_)) ?_
              refine XD_one 6 rfl (by kernel_rfl) ?_
              refine XO_append (v := _) (ys := [s].flatMap encI) (L := _) rfl rfl elt_22 hO6 (by repeat (first | exact .cons .here .nil | exact split_all | exact split_app | apply split_cons | apply split_skip)) ⟨rfl, fun _ => rfl, by repeat (first | exact Cells.here | apply Cells.there | apply Cells.app)⟩ (one_I [s]) (by omega) rfl rfl ?_
              intro v9 L9 hO9 _; rw [← List.flatMap_append] at hO9
              refine XO_nil ?_
              refine at_D hD (by repeat (first | exact .refl | exact subL_nil | refine .keep ?_ | refine .drop ?_ | refine subL_add ?_)) ?_
              refine XD_take 7 rfl (ev_assign rfl) (.none rfl) rfl rfl rfl (by kernel_rfl) (by kernel_rfl) (by kernel_rfl) noP_ok hD (by repeat (first | exact .refl | exact subL_nil | refine .keep ?_ | refine .drop ?_ | refine subL_add ?_)) ?_
              refine XD_done (by kernel_rfl) ?_
              refine at_noP ?_
              refine at_then ?_
              refine X_seq ?_
              refine X_region ?_
              refine XO_v0 (ev_move rfl) rfl rfl rfl ?_
              refine XO_callM (cap := []) (vs := [_]) rfl rfl fun_50 (by repeat (first | exact .cons .here .nil | exact split_all | exact split_app | apply split_cons | apply split_skip)) (w_sortF hO9 (by omega) _) rfl rfl ?_
              rintro vv19 I19 L19 hI19 ⟨rfl, rfl, hO10⟩
              have hb := hb.mono hI19
              have hy2 := hy2.mono hI19
              have hc3 := hc3.mono hI19
              have hc5 := hc5.mono hI19
              have hx4 := hx4.mono hI19
              have hc4 := hc4.mono hI19
              have hc6 := hc6.mono hI19
              have hx5 := hx5.mono hI19
              have hI0 := hI0.trans hI19
              have hIl := hIl.trans hI19
              have hC := hC.trans hI19
              have hR := hR.trans hI19
              have hR2 := hR2.trans hI19
              refine XO_nil ?_
              refine at_then ?_
              refine X_seq ?_
              refine X_freezeO hO10 encI_len (by decide) (by repeat (first | exact split_app | exact split_all)) (fun I20 hI20 af20 cf20 ef20 hl6 => ?_)
              subst ef20
              have hb := hb.mono hI20
              have hy2 := hy2.mono hI20
              have hc3 := hc3.mono hI20
              have hc5 := hc5.mono hI20
              have hx4 := hx4.mono hI20
              have hc4 := hc4.mono hI20
              have hc6 := hc6.mono hI20
              have hx5 := hx5.mono hI20
              have hI0 := hI0.trans hI20
              have hIl := hIl.trans hI20
              have hC := hC.trans hI20
              have hR := hR.trans hI20
              have hR2 := hR2.trans hI20
              refine X_region ?_
              refine XO_v0 (ev_load rfl sct_69 (fun hg => by first | exact hb.any | exact hy2.any | exact hc3.any | exact hc4.any | exact Cell.h0 rfl | exact Cell.h1 rfl | exact Cell.h2 rfl | exact Cell.h3 rfl | exact Cell.h4 rfl | exact Cell.h5 rfl | (repeat (first | exact Cell.here rfl | apply Cell.there | apply Cell.app)))) rfl rfl rfl ?_
              refine XO_v0 (ev_move rfl) rfl rfl rfl ?_
              refine XO_yield0 (vs := [_]) rfl rfl rfl rfl (hY _ (srtI s x y) _ _ _ hpx (h0.trans hI0) ⟨_, _, _, rfl, hl6⟩ (hJm _ _ _ _ hR2 hJ2)) ?_
              rintro t9 I21 H21 hI21 hpost
              have hb := hb.mono hI21
              have hy2 := hy2.mono hI21
              have hc3 := hc3.mono hI21
              have hc5 := hc5.mono hI21
              have hx4 := hx4.mono hI21
              have hc4 := hc4.mono hI21
              have hc6 := hc6.mono hI21
              have hx5 := hx5.mono hI21
              have hl6 := hl6.mono hI21
              have hI0 := hI0.trans hI21
              have hIl := hIl.trans hI21
              have hC := hC.trans hI21
              have hR := hR.trans hI21
              have hR2 := hR2.trans hI21
              refine XO_v0 (ev_not rfl) rfl rfl rfl ?_
              refine XO_nil ?_
              refine at_then ?_
              refine X_cond rfl (fun hc50 => ?_) (fun hc50 => ?_)
              · skip
                have ht : t9 = false := by simpa using hc50
                refine X_ret ?_
                refine at_block_r ?_
                exact at_roundZ_ret (L := []) ⟨hR2, rfl, rfl, hI0, _, hpx, by have h9 := hpost; rw [ht] at h9; simpa using h9⟩ (by repeat (first | exact .refl | exact subL_left | exact subL_nil | refine subL_app ?_ | refine .keep ?_ | refine .drop ?_ | refine subL_add ?_))
              · skip
                have ht : t9 = true := by simpa using hc50
                refine X_skip ?_
                refine at_block_n ?_
                exact at_roundZ (L := []) ⟨hR2, rfl, hI0, by have h9 := hpost; rw [ht] at h9; simpa [List.append_assoc] using h9⟩ (by repeat (first | exact .refl | exact subL_left | exact subL_nil | refine subL_app ?_ | refine .keep ?_ | refine .drop ?_ | refine subL_add ?_))
          · rintro I1 H1 L1 hI1 ⟨rfl, hI01, hJ2⟩
            have hb := hb.mono hI1
            have hy2 := hy2.mono hI1
            have hc3 := hc3.mono hI1
            have hc5 := hc5.mono hI1
            have hx4 := hx4.mono hI1
            have hc4 := hc4.mono hI1
            have hc6 := hc6.mono hI1
            have hI0 := hI0.trans hI1
            have hIl := hIl.trans hI1
            have hC := hC.trans hI1
            have hR := hR.trans hI1
            refine at_block_n ?_
            refine at_block_n ?_
            exact at_roundZ (L := []) ⟨hR, rfl, hI0, by rw [← blk_next]; exact hJ2⟩ (by repeat (first | exact .refl | exact subL_left | exact subL_nil | refine subL_app ?_ | refine .keep ?_ | refine .drop ?_ | refine subL_add ?_))
          · rintro cd pre2 I1 H1 L1 hI1 hpre2 ⟨rfl, rfl, hI01, hJx⟩
            have hb := hb.mono hI1
            have hy2 := hy2.mono hI1
            have hc3 := hc3.mono hI1
            have hc5 := hc5.mono hI1
            have hx4 := hx4.mono hI1
            have hc4 := hc4.mono hI1
            have hc6 := hc6.mono hI1
            have hI0 := hI0.trans hI1
            have hIl := hIl.trans hI1
            have hC := hC.trans hI1
            have hR := hR.trans hI1
            refine X_ret ?_
            refine at_block_r ?_
            refine at_block_r ?_
            exact at_roundZ_ret (L := []) ⟨hR, rfl, rfl, hI0, hJx⟩ (by repeat (first | exact .refl | exact subL_left | exact subL_nil | refine subL_app ?_ | refine .keep ?_ | refine .drop ?_ | refine subL_add ?_))
        · rintro bd I1 H1 L1 hI1 ⟨rfl, hI01, hJ1⟩
          have hb := hb.mono hI1
          have hy2 := hy2.mono hI1
          have hc3 := hc3.mono hI1
          have hc5 := hc5.mono hI1
          have hI0 := hI0.trans hI1
          have hIl := hIl.trans hI1
          have hC := hC.trans hI1
          refine at_block_n ?_
          refine at_block_n ?_
          refine at_then ?_
          refine X_seq ?_
          refine X_seq ?_
          refine X_region ?_
          refine XO_v0 (ev_load rfl sct_3 (fun hg => by first | exact hb.any | exact hy2.any | exact hc3.any | exact hc4.any | exact Cell.h0 rfl | exact Cell.h1 rfl | exact Cell.h2 rfl | exact Cell.h3 rfl | exact Cell.h4 rfl | exact Cell.h5 rfl | (repeat (first | exact Cell.here rfl | apply Cell.there | apply Cell.app)))) rfl rfl rfl ?_
          refine XO_nil ?_
          refine at_then ?_
          refine X_region ?_
          refine XO_alloc zt_3 rfl rfl (fun b_3 => ?_)
          refine XO_store rfl rfl szt_3 rfl rfl (by first | exact Upd.u0 | exact Upd.u1 | exact Upd.u2 | exact Upd.u3 | exact Upd.u4 | exact Upd.u5 | (repeat (first | exact Upd.here | apply Upd.there | apply upd_app))) rfl ?_
          refine XO_nil ?_
          refine at_then ?_
          refine X_region ?_
          refine XO_v0 (ev_load rfl sct_3 (fun hg => by first | exact hb.any | exact hy2.any | exact hc3.any | exact hc4.any | exact Cell.h0 rfl | exact Cell.h1 rfl | exact Cell.h2 rfl | exact Cell.h3 rfl | exact Cell.h4 rfl | exact Cell.h5 rfl | (repeat (first | exact Cell.here rfl | apply Cell.there | apply Cell.app)))) rfl rfl rfl ?_
          refine XO_v0 (ev_ar rfl rfl rfl) rfl rfl rfl ?_
          refine XO_v0 (ev_load rfl sct_3 (fun hg => by first | exact hb.any | exact hy2.any | exact hc3.any | exact hc4.any | exact Cell.h0 rfl | exact Cell.h1 rfl | exact Cell.h2 rfl | exact Cell.h3 rfl | exact Cell.h4 rfl | exact Cell.h5 rfl | (repeat (first | exact Cell.here rfl | apply Cell.there | apply Cell.app)))) rfl rfl rfl ?_
          refine XO_v0 (ev_and rfl rfl) rfl rfl rfl ?_
          refine XO_store rfl rfl szt_3 rfl rfl (by first | exact Upd.u0 | exact Upd.u1 | exact Upd.u2 | exact Upd.u3 | exact Upd.u4 | exact Upd.u5 | (repeat (first | exact Upd.here | apply Upd.there | apply upd_app))) rfl ?_
          refine XO_nil ?_
          first
          | exact at_metMH rfl rfl _ _ ⟨(nextS s a).toNat, by omega, nextS s a, q, dn ++ blkI (treesI f a) (treesI f (s - a)) s, b_3, rfl, rfl, rfl, hI0, hIl, ⟨hna.1, by omega, next_sub hs (by omega), by omega, out_yes ha hdn hlow⟩, hJ1⟩ (.cons rfl (.cons rfl (.cons rfl .nil))) (by repeat (first | exact .refl | exact subL_left | exact subL_nil | refine subL_app ?_ | refine .keep ?_ | refine .drop ?_ | refine subL_add ?_))
          | exact at_metMH rfl rfl _ _ ⟨(nextS s a).toNat, by omega, nextS s a, q, dn, b_3, rfl, rfl, rfl, hI0, hIl, ⟨hna.1, by omega, next_sub hs (by omega), by omega, out_no ha hdn hlow⟩, hJm _ _ _ _ hC hJd⟩ (.cons rfl (.cons rfl (.cons rfl .nil))) (by repeat (first | exact .refl | exact subL_left | exact subL_nil | refine subL_app ?_ | refine .keep ?_ | refine .drop ?_ | refine subL_add ?_))
        · rintro cd bd pre I1 H1 L1 hI1 hpre ⟨rfl, rfl, hI01, hJx⟩
          have hb := hb.mono hI1
          have hy2 := hy2.mono hI1
          have hc3 := hc3.mono hI1
          have hc5 := hc5.mono hI1
          have hI0 := hI0.trans hI1
          have hIl := hIl.trans hI1
          have hC := hC.trans hI1
          refine X_ret ?_
          refine at_block_r ?_
          refine at_block_r ?_
          refine at_then_r ?_
          refine at_then_r ?_
          refine at_block_r ?_
          first
          | exact at_retMs (L := []) (ms := []) (fun a ha w hw => res0 rfl a w) (fun w hw => ⟨_, _, _, rfl, hI0, hw, by rw [treesI_1 hsing]; cases t9 with
      | true => exact .inl hpost
      | false => exact .inr ⟨_, List.prefix_rfl, hpost⟩⟩)
          | exact at_normM (at_retMs (L := [(_, _)]) (fun a ha w hw => res0 rfl a w) (fun w hw => ⟨_, _, _, rfl, hI0, hw.drop, .inl hJd⟩))
          | exact at_retMs (L := []) (fun a ha w hw => res0 rfl a w) (fun w hw => ⟨_, _, _, rfl, hI0, hw, .inr hJx⟩)
    · skip
      have ha : ¬ a > 0 := by simpa using hc16
      have hdn2 : dn = (treesI (f + 1) s) := by rw [← hdn, sub_end ha]; simp
      rw [hdn2] at hJd
      refine X_exit ?_
      refine at_then_e ?_
      refine at_then_e ?_
      refine at_block_hit ?_
      first
      | exact at_retMs (L := []) (ms := []) (fun a ha w hw => res0 rfl a w) (fun w hw => ⟨_, _, _, rfl, hI0, hw, by rw [treesI_1 hsing]; cases t9 with
      | true => exact .inl hpost
      | false => exact .inr ⟨_, List.prefix_rfl, hpost⟩⟩)
      | exact at_normM (at_retMs (L := [(_, _)]) (fun a ha w hw => res0 rfl a w) (fun w hw => ⟨_, _, _, rfl, hI0, hw.drop, .inl hJd⟩))
      | exact at_retMs (L := []) (fun a ha w hw => res0 rfl a w) (fun w hw => ⟨_, _, _, rfl, hI0, hw, .inr hJx⟩)
end Go.Proofs.YtkpmnnflikkhmaaDoor
end
section
namespace Go.Proofs.YtkpmnnflikkhmaaDoor
open Go Go.Kn Go.Proofs
def cmpI (x y : Int) : Int := if x < y then -1 else if x > y then 1 else 0
def cmpF : List Int → List Int → Int
  | [], [] => 0
  | [], _ :: _ => -1
  | _ :: _, [] => 1
  | x :: a, y :: b => if cmpI x y ≠ 0 then cmpI x y else cmpF a b
theorem cmp_ne {a b : List Int} {k : Nat} {x y : Int} (hx : a[k]? = some x) (hy : b[k]? = some y) (h : cmpI x y ≠ 0) : cmpF (a.drop k) (b.drop k) = cmpI x y := by rw [drop_cons hx, drop_cons hy, cmpF, if_pos h]
theorem cmp_eq {a b : List Int} {k : Nat} {x y : Int} (hx : a[k]? = some x) (hy : b[k]? = some y) (h : cmpI x y = 0) : cmpF (a.drop k) (b.drop k) = cmpF (a.drop (k + 1)) (b.drop (k + 1)) := by rw [drop_cons hx, drop_cons hy, cmpF, if_neg (fun e => e h)]
theorem cmp_1 {a b : List Int} {k : Nat} {x : Int} (hx : a[k]? = some x) (h : b.length ≤ k) : cmpF (a.drop k) (b.drop k) = 1 := by rw [drop_cons hx, List.drop_eq_nil_of_le h]; rfl
theorem cmp_2 {a b : List Int} {k : Nat} (h : a.length ≤ k) (h2 : k < b.length) : cmpF (a.drop k) (b.drop k) = -1 := by rw [List.drop_eq_nil_of_le h, List.drop_eq_getElem_cons h2]; rfl
theorem cmp_0 {a b : List Int} {k : Nat} (h : a.length ≤ k) (h2 : b.length ≤ k) : cmpF (a.drop k) (b.drop k) = 0 := by rw [List.drop_eq_nil_of_le h, List.drop_eq_nil_of_le h2]; rfl
theorem cmpI_anti (x y : Int) : cmpI y x = - cmpI x y := by unfold cmpI; split <;> split <;> (try split) <;> omega
theorem cmpI_0 {x y : Int} : cmpI x y = 0 ↔ x = y := by
  unfold cmpI
  split
  · constructor <;> intro h <;> omega
  · split
    · constructor <;> intro h <;> omega
    · constructor <;> intro h <;> omega
theorem cmpI_neg {x y : Int} : cmpI x y < 0 ↔ x < y := by
  unfold cmpI
  split
  · constructor <;> intro h <;> omega
  · split
    · constructor <;> intro h <;> omega
    · constructor <;> intro h <;> omega
theorem cmp_anti : ∀ (a b : List Int), cmpF b a = - cmpF a b
  | [], [] => rfl
  | [], _ :: _ => rfl
  | _ :: _, [] => rfl
  | x :: a, y :: b => by
    simp only [cmpF]
    have h := cmpI_anti x y
    by_cases e : cmpI x y = 0
    · rw [if_neg (by omega), if_neg (by omega), cmp_anti a b]
    · rw [if_pos (by omega), if_pos e, h]
theorem cmp_same : ∀ {a b : List Int}, cmpF a b = 0 → a = b
  | [], [], _ => rfl
  | x :: a, y :: b, h => by
    simp only [cmpF] at h
    by_cases e : cmpI x y = 0
    · rw [if_neg (by omega)] at h
      rw [cmpI_0.1 e, cmp_same h]
    · rw [if_pos e] at h; exact absurd h e
theorem cmp_refl : ∀ (a : List Int), cmpF a a = 0
  | [] => rfl
  | x :: a => by
    simp only [cmpF]
    rw [if_neg (fun h => h (cmpI_0.2 rfl)), cmp_refl a]
theorem cmp_trans : ∀ {a b c : List Int}, cmpF a b < 0 → cmpF b c < 0 → cmpF a c < 0
  | [], [], _, h, _ => by simp [cmpF] at h
  | [], _ :: _, [], _, h => by simp [cmpF] at h
  | [], _ :: _, _ :: _, _, _ => by simp [cmpF]
  | _ :: _, [], _, h, _ => by simp [cmpF] at h
  | _ :: _, _ :: _, [], _, h => by simp [cmpF] at h
  | x :: a, y :: b, z :: c, h1, h2 => by
    simp only [cmpF] at h1 h2 ⊢
    by_cases e1 : cmpI x y = 0
    · rw [if_neg (by omega)] at h1
      have := cmpI_0.1 e1
      subst this
      by_cases e2 : cmpI x z = 0
      · rw [if_neg (by omega)] at h2 ⊢
        exact cmp_trans h1 h2
      · rw [if_pos e2] at h2 ⊢; exact h2
    · rw [if_pos e1] at h1
      by_cases e2 : cmpI y z = 0
      · have := cmpI_0.1 e2
        subst this
        rw [if_pos e1]; exact h1
      · rw [if_pos e2] at h2
        have h3 := cmpI_neg.1 h1
        have h4 := cmpI_neg.1 h2
        have h5 : cmpI x z < 0 := cmpI_neg.2 (by omega)
        rw [if_pos (by omega)]; exact h5
/-- Not above. -/
def leF (x y : List Int) : Prop := ¬ cmpF y x < 0
theorem leF_anti {x y : List Int} (h : leF x y) (g : leF y x) : x = y := by
  unfold leF at h g
  have := cmp_anti x y
  exact cmp_same (by omega)
theorem leF_of_lt {x y : List Int} (h : cmpF x y < 0) : leF x y := by unfold leF; have := cmp_anti x y; omega
theorem sort_one {a b : List (List Int)} (ha : a.Pairwise leF) (hb : b.Pairwise leF) (h : a.Perm b) : a = b :=
  List.Perm.eq_of_pairwise (le := leF) (fun _ _ _ _ h1 h2 => leF_anti h1 h2) ha hb h
/-- What the program's All holds. -/
def AllOK (n : Int) (vss : List (List Int)) : Prop := vss.Perm (treesI 7 (allS n)) ∧ vss.Pairwise leF
/-! ### Sorting that the kernel can run -/
def insK (x : Int) : List Int → List Int
  | [] => [x]
  | y :: l => if x ≤ y then x :: y :: l else y :: insK x l
def isoK : List Int → List Int
  | [] => []
  | x :: l => insK x (isoK l)
theorem ins_perm (x : Int) : ∀ (l : List Int), (insK x l).Perm (x :: l)
  | [] => .refl _
  | y :: l => by
    unfold insK
    split
    · exact .refl _
    · exact ((ins_perm x l).cons y).trans (.swap ..)
theorem iso_perm : ∀ (l : List Int), (isoK l).Perm l
  | [] => .refl _
  | x :: l => (ins_perm x _).trans ((iso_perm l).cons x)
theorem ins_pair {x : Int} : ∀ {l : List Int}, l.Pairwise (· ≤ ·) → (insK x l).Pairwise (· ≤ ·)
  | [], _ => by simp [insK]
  | y :: l, h => by
    unfold insK
    rw [List.pairwise_cons] at h
    split
    · rename_i hxy
      refine List.pairwise_cons.2 ⟨fun z hz => ?_, List.pairwise_cons.2 h⟩
      rcases List.mem_cons.1 hz with rfl | hz
      · exact hxy
      · have := h.1 z hz; omega
    · rename_i hxy
      refine List.pairwise_cons.2 ⟨fun z hz => ?_, ins_pair h.2⟩
      rcases List.mem_cons.1 ((ins_perm x l).mem_iff.1 hz) with rfl | hz
      · omega
      · exact h.1 z hz
theorem iso_pair : ∀ (l : List Int), (isoK l).Pairwise (· ≤ ·)
  | [] => .nil
  | _ :: l => ins_pair (iso_pair l)
theorem sortI_iso (l : List Int) : sortI l = isoK l := by
  unfold sortI
  refine List.Perm.eq_of_pairwise (le := (· ≤ ·)) (fun a b _ _ h1 h2 => by omega) ?_ (iso_pair l) ((List.mergeSort_perm _ _).trans (iso_perm l).symm)
  have := List.pairwise_mergeSort (le := fun x y : Int => decide (x ≤ y)) (fun a b c => by simp; omega) (fun a b => by simp; omega) l
  exact this.imp fun h => by simpa using h
def treesL : Nat → Int → List (List Int)
  | 0, _ => []
  | f + 1, s => if singF s = true then [[]] else (subR s 64 (nextS s s)).flatMap fun a => if lowS a s then (treesL f a).flatMap fun x => (treesL f (s - a)).map fun y => isoK ((x ++ y) ++ [s]) else []
theorem treesI_L : ∀ (f : Nat) (s : Int), treesI f s = treesL f s
  | 0, _ => rfl
  | f + 1, s => by
    simp only [treesI, treesL]
    split
    · rfl
    · congr 1
      funext a
      split
      · unfold blkI
        rw [treesI_L f a, treesI_L f (s - a)]
        congr 1
        funext x
        congr 1
        funext y
        exact sortI_iso _
      · rfl
theorem both_perm {lt : List Int → List Int → Bool} : ∀ (a b : List (List Int)), (bothG lt a b).Perm (a ++ b)
  | a, [] => by simp [bothG]
  | a, y :: b => by
    simp only [bothG]
    have h := both_perm (lt := lt) (a.dropWhile fun x => lt x y) b
    have e : (a.takeWhile fun x => lt x y) ++ (a.dropWhile fun x => lt x y) = a := List.takeWhile_append_dropWhile
    calc (a.takeWhile (fun x => lt x y) ++ y :: bothG lt (a.dropWhile fun x => lt x y) b).Perm (a.takeWhile (fun x => lt x y) ++ y :: ((a.dropWhile fun x => lt x y) ++ b)) := (h.cons y).append_left _
      _ |>.Perm (y :: (a.takeWhile (fun x => lt x y) ++ ((a.dropWhile fun x => lt x y) ++ b))) := List.perm_middle
      _ = y :: (a ++ b) := by rw [← List.append_assoc, e]
      _ |>.Perm (a ++ y :: b) := List.perm_middle.symm
theorem sortF_perm : ∀ (f : Nat) (l : List (List Int)), (sortF f l).Perm l
  | 0, _ => .refl _
  | f + 1, l => by
    simp only [sortF]
    split
    · exact .refl _
    · refine (both_perm _ _).trans ?_
      have h := (sortF_perm f (l.take (l.length / 2))).append (sortF_perm f (l.drop (l.length / 2)))
      rw [List.take_append_drop] at h
      exact h
def strictB : List (List Int) → Bool
  | [] => true
  | x :: l => (match l with | [] => true | y :: _ => decide (cmpF x y < 0)) && strictB l
theorem strict_pair : ∀ {l : List (List Int)}, strictB l = true → l.Pairwise (fun x y => cmpF x y < 0)
  | [], _ => .nil
  | x :: l, h => by
    simp only [strictB, Bool.and_eq_true] at h
    have ih := strict_pair h.2
    refine List.pairwise_cons.2 ⟨fun z hz => ?_, ih⟩
    cases l with
    | nil => cases hz
    | cons y l =>
      have h1 : cmpF x y < 0 := by simpa using h.1
      rcases List.mem_cons.1 hz with rfl | hz
      · exact h1
      · exact cmp_trans h1 ((List.pairwise_cons.1 ih).1 z hz)
theorem five_tab : ((List.range 6).all fun n => n == 0 || (strictB (allL (n : Int)) && decide (sortF 946 (treesL 7 (allS (n : Int))) = allL (n : Int)))) = true := by kernel_rfl
theorem all_5 {n : Nat} (h1 : 1 ≤ n) (h5 : n ≤ 5) : (allL (n : Int)).Pairwise (fun x y => cmpF x y < 0) ∧ (treesI 7 (allS (n : Int))).Perm (allL (n : Int)) := by
  have h := List.all_eq_true.1 five_tab n (List.mem_range.2 (by omega))
  have hne : (n == 0) = false := by simp; omega
  rw [hne, Bool.false_or, Bool.and_eq_true, decide_eq_true_eq] at h
  refine ⟨strict_pair h.1, ?_⟩
  rw [treesI_L, ← h.2]
  exact (sortF_perm _ _).symm
theorem allok_5 {n : Nat} {vss : List (List Int)} (h1 : 1 ≤ n) (h5 : n ≤ 5) (h : AllOK (n : Int) vss) : vss = allL (n : Int) := by
  obtain ⟨g1, g2⟩ := all_5 h1 h5
  exact sort_one h.2 (g1.imp leF_of_lt) (h.1.trans g2)
/-- How many there are. -/
def cntI : Nat → Int → Nat
  | 0, _ => 0
  | f + 1, s => if singF s = true then 1 else ((subR s 64 (nextS s s)).map fun a => if lowS a s then cntI f a * cntI f (s - a) else 0).sum
theorem blk_len {X Y : List (List Int)} {s : Int} : (blkI X Y s).length = X.length * Y.length := by
  unfold blkI
  induction X with
  | nil => simp
  | cons x X ih => rw [List.flatMap_cons, List.length_append, ih, List.length_map, List.length_cons, Nat.succ_mul, Nat.add_comm]
theorem treesI_len : ∀ (f : Nat) (s : Int), (treesI f s).length = cntI f s
  | 0, _ => rfl
  | f + 1, s => by
    simp only [treesI, cntI]
    split
    · rfl
    · rw [List.length_flatMap]
      congr 1
      refine List.map_congr_left fun a _ => ?_
      split
      · rw [blk_len, treesI_len f a, treesI_len f (s - a)]
      · rfl
theorem cntI_tab : ((List.range 7).all fun n => n == 0 || decide (cntI 7 (allS (n : Int)) ≤ 945)) = true := by kernel_rfl
theorem cntI_6 : (cntI 7 (allS 6) == 945) = true := by kernel_rfl
theorem all_len {n : Nat} (h1 : 1 ≤ n) (h6 : n ≤ 6) : (treesI 7 (allS (n : Int))).length ≤ 945 := by
  have h := List.all_eq_true.1 cntI_tab n (List.mem_range.2 (by omega))
  have hne : (n == 0) = false := by simp; omega
  rw [hne, Bool.false_or, decide_eq_true_eq] at h
  rw [treesI_len]; exact h
theorem all_945 : (treesI 7 (allS 6)).length = 945 := by rw [treesI_len]; exact eq_of_beq cntI_6
theorem pop_pos_tab : ((List.range 64).all fun s => s == 0 || decide (1 ≤ popF (s : Int))) = true := by kernel_rfl
theorem pop_pos {s : Int} (hs : 1 ≤ s ∧ s ≤ 63) : 1 ≤ popF s := by
  have h := List.all_eq_true.1 pop_pos_tab s.toNat (List.mem_range.2 (by omega))
  rw [show ((s.toNat : Nat) : Int) = s by omega, show (s.toNat == 0) = false by simp; omega, Bool.false_or, decide_eq_true_eq] at h
  exact h
/-! ### Heads with what they stand for -/
structure HdP (I : HMap) where
  h : Hd
  v : List Int
  ok : Sl I 1 encI h.a h.n h.c v
  len : v.length ≤ 1000
instance (I : HMap) : Inhabited (HdP I) := ⟨⟨⟨none, 0, 0⟩, [], Sl.nil, by simp⟩⟩
def encP {I : HMap} (p : HdP I) : Value := .slice p.h.a p.h.n p.h.c
def cmpP {I : HMap} (p q : HdP I) : Int := cmpF p.v q.v
theorem rel_list {I : HMap} : ∀ {hs : List Hd} {vss : List (List Int)}, RelH I hs vss → (∀ r ∈ vss, r.length ≤ 1000) → ∃ zs : List (HdP I), zs.map (fun p => p.h) = hs ∧ zs.map (fun p => p.v) = vss
  | [], [], _, _ => ⟨[], rfl, rfl⟩
  | [], _ :: _, h, _ => by have := h.1; simp at this
  | _ :: _, [], h, _ => by have := h.1; simp at this
  | hd :: hs, v :: vss, h, hl => by
    obtain ⟨zs, h1, h2⟩ := rel_list (I := I) (hs := hs) (vss := vss) ⟨by have := h.1; simpa using this, fun k x y a b => h.2 (k + 1) x y (by simpa using a) (by simpa using b)⟩ (fun r hr => hl r (List.mem_cons_of_mem _ hr))
    exact ⟨⟨hd, v, h.2 0 hd v rfl rfl, hl v (List.mem_cons_self ..)⟩ :: zs, by rw [List.map_cons, h1], by rw [List.map_cons, h2]⟩
theorem list_rel {I : HMap} (zs : List (HdP I)) : RelH I (zs.map fun p => p.h) (zs.map fun p => p.v) := by
  refine ⟨by rw [List.length_map, List.length_map], fun k h v a b => ?_⟩
  rw [List.getElem?_map] at a b
  obtain ⟨p, hp, rfl⟩ := Option.map_eq_some_iff.1 a
  rw [hp] at b
  cases b
  exact p.ok
theorem flat_H (hs : List Hd) : hs.flatMap encH = hs.map fun h => Value.slice h.a h.n h.c := by
  induction hs with
  | nil => rfl
  | cons h hs ih => rw [List.flatMap_cons, ih]; rfl
end Go.Proofs.YtkpmnnflikkhmaaDoor
end
section
namespace Go.Proofs.YtkpmnnflikkhmaaDoor
open Go Go.Kn Go.Proofs
theorem fun_51 : Fun Tryd.prog 51 := .of Tryd.func51 (by kernel_rfl) (by kernel_rfl)
theorem fun_60 : Fun Tryd.prog 60 := .of Tryd.func60 (by kernel_rfl) (by kernel_rfl)
theorem fun_65 : Fun Tryd.prog 65 := .of Tryd.func65 (by kernel_rfl) (by kernel_rfl)
theorem szt_28 : SzT Tryd.prog 28 1 := .of (by kernel_rfl)
theorem w_tree : ∀ (f : Nat), f ≤ 8 → ∀ (I : HMap) (s : Int) (b : Nat), (1 ≤ s ∧ s ≤ 63) → popF s ≤ f → Cell I [] b 0 (.int .i64 s) → SeqR Tryd.prog 48 [capP b] I relS (treesI f s)
  | 0, _, _, s, _, hs, hp, _ => by have := pop_pos hs; omega
  | f + 1, hf, I, s, b, hs, hp, hb => w_tree_step f (by omega) s hs hb fun I' _ s' b' hs' hlt hb' => w_tree f (by omega) I' s' b' hs' (by omega) hb'
theorem w_appendSeq {I : HMap} {f : Nat} {cap : List Value} {ys : List (List Int)} (hF : Fun Tryd.prog f) (hseq : SeqR Tryd.prog f cap I relS ys) (hy : ys.length ≤ 100000) : RetM Tryd.prog 60 [.slice none 0 0, .func (.func f) #[] cap.toArray] I [] ((fun v I' L => ∃ hs, OwnS 22 1 v (ys).length (hs.flatMap encH) L ∧ RelH I' hs ys)) := by
  intro g H w hw
  refine enterMs Tryd.func60 rfl Tryd.ntmps60 rfl hw ?_
  refine X_seq ?_
  refine X_region ?_
  refine XO_box rfl rfl rfl (fun b_2 => ?_)
  refine XO_v0 (ev_assign rfl) rfl rfl rfl ?_
  refine XO_nil ?_
  refine at_then ?_
  refine X_seq ?_
  refine X_seq ?_
  refine X_region ?_
  refine XO_v0 (ev_move rfl) rfl rfl rfl ?_
  refine XO_nil ?_
  refine at_then ?_
  refine X_block ?_
  refine X_rangeFuncR (ms := []) (rel := relS) (L := [(b_2, .cells #[.slice none 0 0] 28 (0, 0))]) (fun pre I' H' L' => ∃ (v : Value) (q : Nat) (L : Go.Kn.Loc) (hs : List Hd), L' = L ++ [(b_2, .cells #[v] 28 (0, 0))] ∧ H' = H ∧ HLe I I' ∧ OwnS 22 1 v q (hs.flatMap encH) L ∧ q = pre.length ∧ RelH I' hs pre) (fun _ _ _ _ _ => False) (fun pre x E2 I2 H2 L2 => ∃ (v : Value) (q : Nat) (L : Go.Kn.Loc) (hs : List Hd) (a5 : Option Addr) (n5 c5 : Nat), E2 = [(2, capP b_2), (5, .slice a5 n5 c5)] ∧ L2 = L ++ [(b_2, .cells #[v] 28 (0, 0))] ∧ H2 = H ∧ HLe I I2 ∧ OwnS 22 1 v q (hs.flatMap encH) L ∧ q = pre.length ∧ RelH I2 hs pre ∧ Sl I2 1 encI a5 n5 c5 x) (fun pre I1 I2 H' L' h12 ⟨v, q, L, hs, e1, e2, e3, e4, e5, e6⟩ => ⟨v, q, L, hs, e1, e2, e3.trans h12, e4, e5, e6.mono h12⟩) rfl hF hseq rfl ⟨_, 0, [], [], rfl, rfl, HLe.refl _, OwnS.nil, rfl, RelH.nil⟩ ?_ ?_ ?_ ?_
  · rintro l9 Z pre x v0 I1 H1 L1 hpre hI1 ⟨a5, n5, c5, rfl, hx5⟩ ⟨v, q, L, hs, rfl, rfl, hI01, hO, hq, hre⟩
    refine X_region ?_
    refine XO_v0 (ev_assign rfl) rfl rfl rfl ?_
    refine XO_nil ?_
    exact at_met' _ ⟨HLe.refl _, _, rfl, v, q, L, hs, a5, n5, c5, rfl, rfl, rfl, hI01, hO, hq, hre, hx5⟩ (.cons rfl (.cons rfl .nil))
  · rintro l9 Z pre x E2 I2 H2 L2 hl9 hpre hI2 ⟨v, q, L, hs, a5, n5, c5, rfl, rfl, rfl, hI02, hO, hq, hre, hx5⟩
    have hlen := hpre.length_le
    rw [List.length_append, List.length_singleton] at hlen
    rw [List.append_assoc]
    refine X_block ?_
    refine X_region ?_
    refine XO_v0 (ev_load rfl sct_28 (fun hg => by first | exact Cell.app (Cell.here rfl) | exact Cell.there (Cell.app (Cell.here rfl)) | exact (Cell.app (Cell.here rfl)).any | exact Cell.lft (Cell.app (Cell.here rfl)) | exact Cell.h0 rfl | exact Cell.h1 rfl | exact Cell.h2 rfl | exact Cell.h3 rfl | exact Cell.h4 rfl | exact Cell.h5 rfl | (repeat (first | exact Cell.here rfl | apply Cell.there | apply Cell.app)))) rfl rfl rfl ?_
    refine XO_v0 (ev_move rfl) rfl rfl rfl ?_
    refine XO_buildSlice (ps := [(0, _)]) (m := [encH ⟨a5, n5, c5⟩]) elt_28 rfl (.cons rfl (.nil)) rfl (by simp [encH_len]) (by decide) (by decide) rfl rfl (fun b_10 => ?_)
    refine XO_append (v := _) (ys := [(⟨a5, n5, c5⟩ : Hd)].flatMap encH) (L := L) rfl rfl elt_28 hO (split_mid (A := [_]) (B := _ :: Z)) ⟨rfl, fun _ => rfl, by repeat (first | exact Cells.here | apply Cells.there | apply Cells.app)⟩ (one_H _) (by omega) rfl rfl ?_
    intro v9 L9 hO9 _; rw [← List.flatMap_append] at hO9
    refine XO_store rfl rfl szt_28 hO9.one rfl (by first | exact upd_app (.there .here) | exact upd_app (.there (.there .here)) | exact Upd.u0 | exact Upd.u1 | exact Upd.u2 | exact Upd.u3 | exact Upd.u4 | exact Upd.u5 | (repeat (first | exact Upd.here | apply Upd.there | apply upd_app))) rfl ?_
    refine XO_nil ?_
    refine at_block_n ?_
    exact at_roundZ (L := L9 ++ [(b_2, _)]) ⟨HLe.refl _, v9, q + 1, L9, hs ++ [⟨a5, n5, c5⟩], rfl, rfl, hI02, hO9, by rw [List.length_append, List.length_singleton]; omega, hre.snoc (hd := ⟨a5, n5, c5⟩) hx5⟩ (by rw [List.append_assoc]; exact subL_keepL (by repeat (first | exact .refl | refine .keep ?_ | refine .drop ?_)))
  · rintro bd I1 H1 L1 hI1 ⟨v, q, L, hs, rfl, rfl, hI01, hO, hq, hre⟩
    refine at_block_n ?_
    refine at_then ?_
    refine X_seq ?_
    refine X_region ?_
    refine XO_v0 (ev_load rfl sct_28 (fun hg => by first | exact Cell.app (Cell.here rfl) | exact Cell.there (Cell.app (Cell.here rfl)) | exact (Cell.app (Cell.here rfl)).any | exact Cell.lft (Cell.app (Cell.here rfl)) | exact Cell.h0 rfl | exact Cell.h1 rfl | exact Cell.h2 rfl | exact Cell.h3 rfl | exact Cell.h4 rfl | exact Cell.h5 rfl | (repeat (first | exact Cell.here rfl | apply Cell.there | apply Cell.app)))) rfl rfl rfl ?_
    refine XO_v0 (ev_assign rfl) rfl rfl rfl ?_
    refine XO_nil ?_
    refine at_then ?_
    refine X_ret ?_
    exact at_retMs (L := L ++ [(b_2, _)]) (ms := [bd]) (fun a ha w hw => res1 rfl rfl a ha w) (fun w hw => ⟨_, I1, L, rfl, hI01, hw.subL subL_left, hs, by rw [← hq]; exact hO, hre⟩)
  · rintro cd bd pre I1 H1 L1 hI1 hpre hF; exact hF.elim
theorem w_collect {I : HMap} {f : Nat} {cap : List Value} {ys : List (List Int)} (hF : Fun Tryd.prog f) (hseq : SeqR Tryd.prog f cap I relS ys) (hy : ys.length ≤ 100000) : RetM Tryd.prog 46 [.func (.func f) #[] cap.toArray] I [] ((fun v I' L => ∃ hs, OwnS 22 1 v (ys).length (hs.flatMap encH) L ∧ RelH I' hs ys)) := by
  intro g H w hw
  refine enter Tryd.func46 rfl Tryd.ntmps46 rfl hw ?_
  have hIc := HLe.refl I
  refine X_seq ?_
  refine X_region ?_
  refine XO_v0 (ev_assign rfl) rfl rfl rfl ?_
  refine XO_nil ?_
  refine at_then ?_
  refine X_seq ?_
  refine X_region ?_
  refine XO_v0 (ev_move rfl) rfl rfl rfl ?_
  refine XO_callM (cap := []) (vs := [_, _]) rfl rfl fun_60 .nil (w_appendSeq hF hseq hy) rfl rfl ?_
  rintro vv1 I1 L1 hI1 ⟨hs, hO, hre⟩
  have hIc := hIc.trans hI1
  rw [List.append_nil]
  refine XO_v0 (ev_assign rfl) rfl rfl rfl ?_
  refine XO_nil ?_
  refine at_then ?_
  refine X_ret ?_
  exact at_ret1 rfl rfl (fun w hw => ⟨_, _, _, rfl, hIc, hw, hs, hO, hre⟩)
theorem w_nan (I : HMap) (x : Int) : RetV Tryd.prog 65 [.int .i64 x] I (.bool false) := by
  intro g H w hw
  refine enter Tryd.func65 rfl Tryd.ntmps65 rfl hw ?_
  refine X_seq ?_
  refine X_region ?_
  refine XO_v0 (ev_assign rfl) rfl rfl rfl ?_
  refine XO_nil ?_
  refine at_then ?_
  refine X_seq ?_
  refine X_region ?_
  refine XO_v0 (ev_move rfl) rfl rfl rfl ?_
  refine XO_v0 (ev_move rfl) rfl rfl rfl ?_
  refine XO_v0 (ev_cmp rfl rfl rfl) rfl rfl rfl ?_
  refine XO_v0 (ev_assign rfl) rfl rfl rfl ?_
  refine XO_nil ?_
  refine at_then ?_
  refine X_ret ?_
  first
  | exact at_ret1 rfl rfl (fun w hw => ⟨by simp, hw.drop⟩)
  | exact at_ret1 rfl rfl (fun w hw => ⟨by rw [show (x != x) = false from by simp], hw.drop⟩)
theorem w_cmp (I : HMap) (x y : Int) : RetV Tryd.prog 51 [.int .i64 x, .int .i64 y] I (.int .i64 (cmpI x y)) := by
  intro g H w hw
  refine enter Tryd.func51 rfl Tryd.ntmps51 rfl hw ?_
  refine X_seq ?_
  refine X_region ?_
  refine XO_v0 (ev_assign rfl) rfl rfl rfl ?_
  refine XO_nil ?_
  refine at_then ?_
  refine X_seq ?_
  refine X_region ?_
  refine XO_v0 (ev_move rfl) rfl rfl rfl ?_
  refine XO_callV0 (cap := []) (vs := [_]) rfl rfl fun_65 (w_nan _ _) rfl rfl ?_
  refine XO_v0 (ev_assign rfl) rfl rfl rfl ?_
  refine XO_nil ?_
  refine at_then ?_
  refine X_seq ?_
  refine X_region ?_
  refine XO_v0 (ev_move rfl) rfl rfl rfl ?_
  refine XO_callV0 (cap := []) (vs := [_]) rfl rfl fun_65 (w_nan _ _) rfl rfl ?_
  refine XO_v0 (ev_assign rfl) rfl rfl rfl ?_
  refine XO_nil ?_
  refine at_then ?_
  refine X_seq ?_
  refine X_seq ?_
  refine X_region ?_
  refine XO_v0 (ev_move rfl) rfl rfl rfl ?_
  refine XO_nil ?_
  refine at_then ?_
  refine X_cond rfl (fun hc11 => ?_) (fun hc11 => ?_)
  · skip
    cases hc11
  · skip
    refine X_skip ?_
    refine at_then ?_
    refine X_seq ?_
    refine X_seq ?_
    refine X_region ?_
    refine XO_v0 (ev_move rfl) rfl rfl rfl ?_
    refine XO_nil ?_
    refine at_then ?_
    refine X_cond rfl (fun hc13 => ?_) (fun hc13 => ?_)
    · skip
      cases hc13
    · skip
      refine X_skip ?_
      refine at_then ?_
      refine X_seq ?_
      refine X_seq ?_
      refine X_region ?_
      refine XO_v0 (ev_move rfl) rfl rfl rfl ?_
      refine XO_v0 (ev_move rfl) rfl rfl rfl ?_
      refine XO_v0 (ev_cmp rfl rfl rfl) rfl rfl rfl ?_
      refine XO_nil ?_
      refine at_then ?_
      refine X_cond rfl (fun hc16 => ?_) (fun hc16 => ?_)
      · skip
        have h1 : x < y := by simpa using hc16
        refine X_seq ?_
        refine X_region ?_
        refine XO_v0 (ev_assign rfl) rfl rfl rfl ?_
        refine XO_nil ?_
        refine at_then ?_
        refine X_ret ?_
        refine at_then_r ?_
        first
        | exact at_ret1 rfl rfl (fun w hw => ⟨by unfold cmpI; rw [if_pos h1], hw.drop⟩)
        | exact at_ret1 rfl rfl (fun w hw => ⟨by unfold cmpI; rw [if_neg h1, if_pos h2], hw.drop⟩)
        | exact at_ret1 rfl rfl (fun w hw => ⟨by unfold cmpI; rw [if_neg h1, if_neg h2], hw.drop⟩)
      · skip
        have h1 : ¬ x < y := by simpa using hc16
        refine X_skip ?_
        refine at_then ?_
        refine X_seq ?_
        refine X_seq ?_
        refine X_region ?_
        refine XO_v0 (ev_move rfl) rfl rfl rfl ?_
        refine XO_v0 (ev_move rfl) rfl rfl rfl ?_
        refine XO_v0 (ev_cmp rfl rfl rfl) rfl rfl rfl ?_
        refine XO_nil ?_
        refine at_then ?_
        refine X_cond rfl (fun hc19 => ?_) (fun hc19 => ?_)
        · skip
          have h2 : x > y := by simpa using hc19
          refine X_seq ?_
          refine X_region ?_
          refine XO_v0 (ev_assign rfl) rfl rfl rfl ?_
          refine XO_nil ?_
          refine at_then ?_
          refine X_ret ?_
          refine at_then_r ?_
          first
          | exact at_ret1 rfl rfl (fun w hw => ⟨by unfold cmpI; rw [if_pos h1], hw.drop⟩)
          | exact at_ret1 rfl rfl (fun w hw => ⟨by unfold cmpI; rw [if_neg h1, if_pos h2], hw.drop⟩)
          | exact at_ret1 rfl rfl (fun w hw => ⟨by unfold cmpI; rw [if_neg h1, if_neg h2], hw.drop⟩)
        · skip
          have h2 : ¬ x > y := by simpa using hc19
          refine X_skip ?_
          refine at_then ?_
          refine X_seq ?_
          refine X_region ?_
          refine XO_v0 (ev_assign rfl) rfl rfl rfl ?_
          refine XO_nil ?_
          refine at_then ?_
          refine X_ret ?_
          first
          | exact at_ret1 rfl rfl (fun w hw => ⟨by unfold cmpI; rw [if_pos h1], hw.drop⟩)
          | exact at_ret1 rfl rfl (fun w hw => ⟨by unfold cmpI; rw [if_neg h1, if_pos h2], hw.drop⟩)
          | exact at_ret1 rfl rfl (fun w hw => ⟨by unfold cmpI; rw [if_neg h1, if_neg h2], hw.drop⟩)
theorem w_compare {I : HMap} {av : Option Addr} {n c : Nat} {xs : List Int} (hS : Sl I 1 encI av n c xs) (hn : n ≤ 100000) {bv : Option Addr} {n2 c2 : Nat} {ys : List Int} (hT : Sl I 1 encI bv n2 c2 ys) (hn2 : n2 ≤ 100000) : RetV Tryd.prog 33 [.slice av n c, .slice bv n2 c2] I (.int .i64 (cmpF xs ys)) := by
  intro g H w hw
  refine enter Tryd.func33 rfl Tryd.ntmps33 rfl hw ?_
  have hl1 := hS.len
  have hl2 := hT.len
  refine X_seq ?_
  refine X_region ?_
  refine XO_v0 (ev_assign rfl) rfl rfl rfl ?_
  refine XO_nil ?_
  refine at_then ?_
  refine X_seq ?_
  refine X_seq ?_
  refine X_region ?_
  refine XO_v0 (ev_move rfl) rfl rfl rfl ?_
  refine XO_v0 (ev_lenS rfl slt_22) rfl rfl rfl ?_
  refine XO_v0 (ev_move rfl) rfl rfl rfl ?_
  refine XO_nil ?_
  refine at_then ?_
  refine X_block ?_
  refine X_loopT [(0, _), (1, _), (9, _), (10, _)] (.cons rfl (.cons rfl (.cons rfl (.cons rfl .nil)))) (fun T L0 mz E I' loc' => ∃ (k : Nat), mz = n - k ∧ E = (11, .int .i64 k) :: T ∧ I = I' ∧ L0 = loc' ∧ k ≤ n ∧ cmpF xs ys = cmpF (xs.drop k) (ys.drop k)) _ _ _ _ ⟨0, rfl, rfl, rfl, rfl, Nat.zero_le _, rfl⟩ (.cons rfl (.cons rfl (.cons rfl (.cons rfl (.cons rfl .nil))))) (HLe.refl _) rfl ?_
  rintro mz E I' loc' ⟨k, rfl, rfl, rfl, rfl, hk, hcm⟩
  refine X_seq ?_
  refine X_region ?_
  refine XO_v0 (ev_cmp rfl rfl rfl) rfl rfl rfl ?_
  refine XO_nil ?_
  refine at_then ?_
  refine X_seq ?_
  refine X_cond rfl (fun hc12 => ?_) (fun hc12 => ?_)
  · skip
    have hlt_k : k < n := by have h := hc12; simp at h; omega
    obtain ⟨x, hx⟩ := hS.at hlt_k
    refine X_skip ?_
    refine at_then ?_
    refine X_seq ?_
    refine X_block ?_
    refine X_seq ?_
    refine X_region ?_
    refine XO_v0 (ev_move rfl) rfl rfl rfl ?_
    refine XO_v0 (ev_indexSl rfl rfl slt_22 hS (fun hg => by first | omega | (simp [conj] at hg; omega))) rfl rfl rfl ?_
    refine XO_v0 (ev_load rfl sct_3 (fun hg => by first | exact Sl.get0 hS hx rfl | exact Sl.get0 hT hy rfl | exact Cell.h0 rfl | exact Cell.h1 rfl | exact Cell.h2 rfl | exact Cell.h3 rfl | exact Cell.h4 rfl | exact Cell.h5 rfl | (repeat (first | exact Cell.here rfl | apply Cell.there | apply Cell.app)))) rfl rfl rfl ?_
    refine XO_v0 (ev_assign rfl) rfl rfl rfl ?_
    refine XO_v0 (ev_assign rfl) rfl rfl rfl ?_
    refine XO_nil ?_
    refine at_then ?_
    refine X_seq ?_
    refine X_seq ?_
    refine X_region ?_
    refine XO_v0 (ev_move rfl) rfl rfl rfl ?_
    refine XO_v0 (ev_move rfl) rfl rfl rfl ?_
    refine XO_v0 (ev_lenS rfl slt_22) rfl rfl rfl ?_
    refine XO_v0 (ev_cmp rfl rfl rfl) rfl rfl rfl ?_
    refine XO_nil ?_
    refine at_then ?_
    refine X_cond rfl (fun hc19 => ?_) (fun hc19 => ?_)
    · skip
      have hk2 : n2 ≤ k := by have h := hc19; simp at h; omega
      refine X_seq ?_
      refine X_region ?_
      refine XO_v0 (ev_assign rfl) rfl rfl rfl ?_
      refine XO_nil ?_
      refine at_then ?_
      refine X_ret ?_
      refine at_then_r ?_
      refine at_block_r ?_
      refine at_then_r ?_
      refine at_then_r ?_
      refine at_block_r ?_
      refine at_then_r ?_
      first
      | exact at_ret1 rfl rfl (fun w hw => ⟨by rw [hcm, cmp_1 hx (by omega)], hw.drop⟩)
      | exact at_ret1 rfl rfl (fun w hw => ⟨by rw [hcm, cmp_ne hx hy (by simpa using hc28)], hw.drop⟩)
      | exact at_ret1 rfl rfl (fun w hw => ⟨by rw [hcm]; rw [cmp_2 (by omega) (by omega)], hw.drop⟩)
      | exact at_ret1 rfl rfl (fun w hw => ⟨by rw [hcm, cmp_0 (by omega) (by omega)], hw.drop⟩)
    · skip
      have hk2 : k < n2 := by have h := hc19; simp at h; omega
      obtain ⟨y, hy⟩ := hT.at hk2
      refine X_skip ?_
      refine at_then ?_
      refine X_seq ?_
      refine X_region ?_
      refine XO_v0 (ev_move rfl) rfl rfl rfl ?_
      refine XO_v0 (ev_move rfl) rfl rfl rfl ?_
      refine XO_v0 (ev_indexSl rfl rfl slt_22 hT (fun hg => by first | omega | (simp [conj] at hg; omega))) rfl rfl rfl ?_
      refine XO_v0 (ev_load rfl sct_3 (fun hg => by first | exact Sl.get0 hS hx rfl | exact Sl.get0 hT hy rfl | exact Cell.h0 rfl | exact Cell.h1 rfl | exact Cell.h2 rfl | exact Cell.h3 rfl | exact Cell.h4 rfl | exact Cell.h5 rfl | (repeat (first | exact Cell.here rfl | apply Cell.there | apply Cell.app)))) rfl rfl rfl ?_
      refine XO_v0 (ev_assign rfl) rfl rfl rfl ?_
      refine XO_nil ?_
      refine at_then ?_
      refine X_seq ?_
      refine X_region ?_
      refine XO_v0 (ev_move rfl) rfl rfl rfl ?_
      refine XO_v0 (ev_move rfl) rfl rfl rfl ?_
      refine XO_callV0 (cap := []) (vs := [_, _]) rfl rfl fun_51 (w_cmp _ _ _) rfl rfl ?_
      refine XO_v0 (ev_assign rfl) rfl rfl rfl ?_
      refine XO_nil ?_
      refine at_then ?_
      refine X_seq ?_
      refine X_region ?_
      refine XO_v0 (ev_move rfl) rfl rfl rfl ?_
      refine XO_v0 (ev_cmp rfl rfl rfl) rfl rfl rfl ?_
      refine XO_nil ?_
      refine at_then ?_
      refine X_cond rfl (fun hc28 => ?_) (fun hc28 => ?_)
      · skip
        refine X_seq ?_
        refine X_region ?_
        refine XO_v0 (ev_move rfl) rfl rfl rfl ?_
        refine XO_v0 (ev_assign rfl) rfl rfl rfl ?_
        refine XO_nil ?_
        refine at_then ?_
        refine X_ret ?_
        refine at_block_r ?_
        refine at_then_r ?_
        refine at_then_r ?_
        refine at_block_r ?_
        refine at_then_r ?_
        first
        | exact at_ret1 rfl rfl (fun w hw => ⟨by rw [hcm, cmp_1 hx (by omega)], hw.drop⟩)
        | exact at_ret1 rfl rfl (fun w hw => ⟨by rw [hcm, cmp_ne hx hy (by simpa using hc28)], hw.drop⟩)
        | exact at_ret1 rfl rfl (fun w hw => ⟨by rw [hcm]; rw [cmp_2 (by omega) (by omega)], hw.drop⟩)
        | exact at_ret1 rfl rfl (fun w hw => ⟨by rw [hcm, cmp_0 (by omega) (by omega)], hw.drop⟩)
      · skip
        refine X_skip ?_
        refine at_block_n ?_
        refine at_then ?_
        refine X_region ?_
        refine XO_v0 (ev_arB rfl rfl rfl (fun _ => by omega)) rfl rfl rfl ?_
        refine XO_v0 (ev_move rfl) rfl rfl rfl ?_
        refine XO_nil ?_
        exact at_met2 _ _ ⟨n - (k + 1), by omega, k + 1, rfl, rfl, rfl, rfl, by omega, by rw [hcm, cmp_eq hx hy (by simpa using hc28)]⟩ (.cons rfl (.cons rfl (.cons rfl (.cons rfl (.cons rfl .nil))))) (by repeat (first | exact .refl | exact subL_left | refine subL_app ?_ | refine .drop ?_ | refine subL_add ?_))
  · skip
    have hge_k : n ≤ k := by have h := hc12; simp at h; omega
    refine X_exit ?_
    refine at_then_e ?_
    refine at_then_e ?_
    refine at_block_hit ?_
    refine at_then ?_
    refine X_seq ?_
    refine X_seq ?_
    refine X_region ?_
    refine XO_v0 (ev_move rfl) rfl rfl rfl ?_
    refine XO_v0 (ev_lenS rfl slt_22) rfl rfl rfl ?_
    refine XO_v0 (ev_move rfl) rfl rfl rfl ?_
    refine XO_v0 (ev_lenS rfl slt_22) rfl rfl rfl ?_
    refine XO_v0 (ev_cmp rfl rfl rfl) rfl rfl rfl ?_
    refine XO_nil ?_
    refine at_then ?_
    refine X_cond rfl (fun hc35 => ?_) (fun hc35 => ?_)
    · skip
      have hlt : n < n2 := by have h := hc35; simp at h; omega
      refine X_seq ?_
      refine X_region ?_
      refine XO_v0 (ev_assign rfl) rfl rfl rfl ?_
      refine XO_nil ?_
      refine at_then ?_
      refine X_ret ?_
      refine at_then_r ?_
      first
      | exact at_ret1 rfl rfl (fun w hw => ⟨by rw [hcm, cmp_1 hx (by omega)], hw.drop⟩)
      | exact at_ret1 rfl rfl (fun w hw => ⟨by rw [hcm, cmp_ne hx hy (by simpa using hc28)], hw.drop⟩)
      | exact at_ret1 rfl rfl (fun w hw => ⟨by rw [hcm]; rw [cmp_2 (by omega) (by omega)], hw.drop⟩)
      | exact at_ret1 rfl rfl (fun w hw => ⟨by rw [hcm, cmp_0 (by omega) (by omega)], hw.drop⟩)
    · skip
      have hlt : ¬ n < n2 := by have h := hc35; simp at h; omega
      refine X_skip ?_
      refine at_then ?_
      refine X_seq ?_
      refine X_region ?_
      refine XO_v0 (ev_assign rfl) rfl rfl rfl ?_
      refine XO_nil ?_
      refine at_then ?_
      refine X_ret ?_
      first
      | exact at_ret1 rfl rfl (fun w hw => ⟨by rw [hcm, cmp_1 hx (by omega)], hw.drop⟩)
      | exact at_ret1 rfl rfl (fun w hw => ⟨by rw [hcm, cmp_ne hx hy (by simpa using hc28)], hw.drop⟩)
      | exact at_ret1 rfl rfl (fun w hw => ⟨by rw [hcm]; rw [cmp_2 (by omega) (by omega)], hw.drop⟩)
      | exact at_ret1 rfl rfl (fun w hw => ⟨by rw [hcm, cmp_0 (by omega) (by omega)], hw.drop⟩)
end Go.Proofs.YtkpmnnflikkhmaaDoor
end
section
namespace Go.Proofs.YtkpmnnflikkhmaaDoor
open Go Go.Kn Go.Proofs
theorem fun_31 : Fun Tryd.prog 31 := .of Tryd.func31 (by kernel_rfl) (by kernel_rfl)
theorem fun_33 : Fun Tryd.prog 33 := .of Tryd.func33 (by kernel_rfl) (by kernel_rfl)
theorem fun_46 : Fun Tryd.prog 46 := .of Tryd.func46 (by kernel_rfl) (by kernel_rfl)
theorem fun_47 : Fun Tryd.prog 47 := .of Tryd.func47 (by kernel_rfl) (by kernel_rfl)
theorem swoP (I : HMap) : Go.Sort.SWO (Go.Proofs.ltOf (cmpP (I := I))) := by
  have key : ∀ a b c : List Int, ¬ cmpF a b < 0 → ¬ cmpF b c < 0 → ¬ cmpF a c < 0 := fun a b c h1 h2 h3 => by
    have a1 := cmp_anti a b
    have a2 := cmp_anti b c
    by_cases e : cmpF c b = 0
    · have := cmp_same e
      subst this
      exact h1 h3
    · exact h1 (cmp_trans h3 (by omega))
  refine ⟨fun x => ?_, fun x y z h1 h2 => ?_, fun x y z h1 h2 => ?_⟩
  · unfold Go.Proofs.ltOf cmpP; rw [cmp_refl]; rfl
  · unfold Go.Proofs.ltOf cmpP at *
    exact decide_eq_true (cmp_trans (of_decide_eq_true h1) (of_decide_eq_true h2))
  · unfold Go.Proofs.ltOf cmpP at *
    exact decide_eq_false (key _ _ _ (of_decide_eq_false h1) (of_decide_eq_false h2))
theorem w_sortL {I : HMap} {hs : List Hd} {vss : List (List Int)} {v : Value} {n : Nat} {L : Go.Kn.Loc} (hO : OwnS 22 1 v n (hs.flatMap encH) L) (hn : n ≤ 1000000) (hre : RelH I hs vss) (hl : ∀ r ∈ vss, r.length ≤ 1000) :
    RetM Tryd.prog 47 [v, .func (.func 33) #[] #[]] I L (fun u I' L' => u = .tuple #[] ∧ I' = I ∧ ∃ hs' vss', vss'.Perm vss ∧ vss'.Pairwise leF ∧ RelH I hs' vss' ∧ OwnS 22 1 v n (hs'.flatMap encH) L') := by
  obtain ⟨zs, h1, h2⟩ := rel_list hre hl
  have e : hs.flatMap encH = zs.map encP := by rw [flat_H, ← h1, List.map_map]; rfl
  rw [e] at hO
  intro g H w hw
  refine (retSort1 (α := HdP I) (enc := encP) (cf := cmpP (I := I)) (fun blk off cap d w hC hH hb hs => Tryd.slices_SortFunc (α := HdP I) encP (fun _ => rfl) cmpP (swoP I) 33 #[] blk off cap d w (fun args w => run_callFunc fun_33 args w) hC hH hb hs) (Tryd.slices_SortFunc_none (α := HdP I)) I
    (fun I' hI x y => w_compare (x.ok.mono hI) (by have := x.ok.len; have := x.len; omega) (y.ok.mono hI) (by have := y.ok.len; have := y.len; omega)) zs hO hn g H w hw).mono ?_
  rintro ed w' ⟨u, I', L', he, hI, hs', rfl, rfl, zs', hp, hpw, hO'⟩
  refine ⟨_, I', L', he, hI, hs', rfl, rfl, zs'.map (·.h), zs'.map (·.v), ?_, ?_, list_rel zs', ?_⟩
  · rw [← h2]; exact hp.map _
  · rw [List.pairwise_map]
    refine hpw.imp fun h => ?_
    unfold leF
    exact of_decide_eq_false h
  · have e : (zs'.map (·.h)).flatMap encH = zs'.map encP := by rw [flat_H, List.map_map]; rfl
    rw [e]; exact hO'
theorem w_sortedF {I : HMap} {f : Nat} {cap : List Value} {ys : List (List Int)} (hF : Fun Tryd.prog f) (hseq : SeqR Tryd.prog f cap I relS ys) (hy : ys.length ≤ 100000) (hl : ∀ r ∈ ys, r.length ≤ 1000) : RetM Tryd.prog 31 [.func (.func f) #[] cap.toArray, .func (.func 33) #[] #[]] I [] (fun v I' L => ∃ hs vss, vss.Perm ys ∧ vss.Pairwise leF ∧ OwnS 22 1 v ys.length (hs.flatMap encH) L ∧ RelH I' hs vss) := by
  intro g H w hw
  refine enter Tryd.func31 rfl Tryd.ntmps31 rfl hw ?_
  have hIc := HLe.refl I
  refine X_seq ?_
  refine X_region ?_
  refine XO_v0 (ev_assign rfl) rfl rfl rfl ?_
  refine XO_nil ?_
  refine at_then ?_
  refine X_seq ?_
  refine X_region ?_
  refine XO_v0 (ev_move rfl) rfl rfl rfl ?_
  refine XO_callM (cap := []) (vs := [_]) rfl rfl fun_46 .nil (w_collect hF hseq hy) rfl rfl ?_
  rintro vv1 I1 L1 hI1 ⟨hs, hO, hre⟩
  have hIc := hIc.trans hI1
  rw [List.append_nil]
  refine XO_v0 (ev_assign rfl) rfl rfl rfl ?_
  refine XO_nil ?_
  refine at_then ?_
  refine X_seq ?_
  refine X_region ?_
  refine XO_v0 (ev_move rfl) rfl rfl rfl ?_
  refine XO_v0 (ev_move rfl) rfl rfl rfl ?_
  refine XO_callM (cap := []) (vs := [_, _]) rfl rfl fun_47 split_all (w_sortL hO (by omega) hre hl) rfl rfl ?_
  rintro vv2 I2 L2 hI2 ⟨rfl, rfl, hs2, vss, hp, hpw, hre2, hO2⟩
  have hIc := hIc.trans hI2
  rw [List.append_nil]
  refine XO_nil ?_
  refine at_then ?_
  refine X_seq ?_
  refine X_region ?_
  refine XO_v0 (ev_move rfl) rfl rfl rfl ?_
  refine XO_v0 (ev_assign rfl) rfl rfl rfl ?_
  refine XO_nil ?_
  refine at_then ?_
  refine X_ret ?_
  exact at_ret1 rfl rfl (fun w hw => ⟨_, _, _, rfl, hIc, hw, hs2, vss, hp, hpw, hO2, hre2⟩)
theorem w_All (I : HMap) (m : Int) : RetM Tryd.prog 15 [.int .i64 m] I [] (fun v I' L => L = [] ∧ ∃ vss, (allE m = 0 → AllOK m vss) ∧ (allE m ≠ 0 → vss = []) ∧ SlNTup (allE m) vss v I' []) := by
  intro g H w hw
  refine enter Tryd.func15 rfl Tryd.ntmps15 rfl hw ?_
  have hIc := HLe.refl I
  refine X_seq ?_
  refine X_region ?_
  refine XO_v0 (ev_assign rfl) rfl rfl rfl ?_
  refine XO_v0 (ev_assign rfl) rfl rfl rfl ?_
  refine XO_nil ?_
  refine at_then ?_
  refine X_seq ?_
  refine X_block ?_
  refine X_seq ?_
  refine X_region ?_
  refine XO_v0 (ev_move rfl) rfl rfl rfl ?_
  refine XO_v0 (ev_cmp rfl rfl rfl) rfl rfl rfl ?_
  refine XO_v0 (ev_assign rfl) rfl rfl rfl ?_
  refine XO_nil ?_
  refine at_then ?_
  refine X_cond rfl (fun hc4 => ?_) (fun hc4 => ?_)
  · skip
    have h6 : m > 6 := by simpa using hc4
    refine X_seq ?_
    refine X_region ?_
    refine XO_v0 (ev_assign rfl) rfl rfl rfl ?_
    refine XO_v0 (ev_assign rfl) rfl rfl rfl ?_
    refine XO_nil ?_
    refine at_then ?_
    refine X_ret ?_
    refine at_block_r ?_
    refine at_then_r ?_
    first
    | exact at_ret2 rfl rfl rfl (fun w hw => ⟨_, I, [], rfl, hIc, hw.drop, rfl, [], fun h => by rw [allE_1 h6] at h; omega, fun _ => rfl, by rw [allE_1 h6]; exact .empty rfl⟩)
    | exact at_ret2 rfl rfl rfl (fun w hw => ⟨_, I, [], rfl, hIc, hw.drop, rfl, [], fun h => by rw [allE_2 h6 h1] at h; omega, fun _ => rfl, by rw [allE_2 h6 h1]; exact .empty rfl⟩)
    | exact at_ret2 rfl rfl rfl (fun w hw => by obtain ⟨I9, av9, c9, h1', h2', rfl, h4'⟩ := OwnS.freeze (R := []) hO encH_len (by decide) (by rw [List.append_nil]; exact hw); exact ⟨_, I9, [], rfl, hIc.trans h1', h2', rfl, vss, fun _ => ⟨hp, hpw⟩, fun h => absurd (allE_3 h6 h1) h, by rw [allE_3 h6 h1]; exact ⟨rfl, av9, c9, by rw [hp.length_eq], by rw [hp.length_eq]; exact ⟨hs, h4', hre.mono h1'⟩⟩⟩)
  · skip
    have h6 : ¬ m > 6 := by simpa using hc4
    refine X_seq ?_
    refine X_region ?_
    refine XO_v0 (ev_move rfl) rfl rfl rfl ?_
    refine XO_v0 (ev_cmp rfl rfl rfl) rfl rfl rfl ?_
    refine XO_v0 (ev_assign rfl) rfl rfl rfl ?_
    refine XO_nil ?_
    refine at_then ?_
    refine X_cond rfl (fun hc7 => ?_) (fun hc7 => ?_)
    · skip
      have h1 : m < 1 := by simpa using hc7
      refine X_seq ?_
      refine X_region ?_
      refine XO_v0 (ev_assign rfl) rfl rfl rfl ?_
      refine XO_v0 (ev_assign rfl) rfl rfl rfl ?_
      refine XO_nil ?_
      refine at_then ?_
      refine X_ret ?_
      refine at_block_r ?_
      refine at_then_r ?_
      first
      | exact at_ret2 rfl rfl rfl (fun w hw => ⟨_, I, [], rfl, hIc, hw.drop, rfl, [], fun h => by rw [allE_1 h6] at h; omega, fun _ => rfl, by rw [allE_1 h6]; exact .empty rfl⟩)
      | exact at_ret2 rfl rfl rfl (fun w hw => ⟨_, I, [], rfl, hIc, hw.drop, rfl, [], fun h => by rw [allE_2 h6 h1] at h; omega, fun _ => rfl, by rw [allE_2 h6 h1]; exact .empty rfl⟩)
      | exact at_ret2 rfl rfl rfl (fun w hw => by obtain ⟨I9, av9, c9, h1', h2', rfl, h4'⟩ := OwnS.freeze (R := []) hO encH_len (by decide) (by rw [List.append_nil]; exact hw); exact ⟨_, I9, [], rfl, hIc.trans h1', h2', rfl, vss, fun _ => ⟨hp, hpw⟩, fun h => absurd (allE_3 h6 h1) h, by rw [allE_3 h6 h1]; exact ⟨rfl, av9, c9, by rw [hp.length_eq], by rw [hp.length_eq]; exact ⟨hs, h4', hre.mono h1'⟩⟩⟩)
    · skip
      have h1 : ¬ m < 1 := by simpa using hc7
      have hal := all_in (n := m) (by omega)
      have hsh := shl_in (n := m) (by omega)
      have hln := all_len (n := m.toNat) (by omega) (by omega)
      rw [show ((m.toNat : Nat) : Int) = m by omega] at hln
      refine X_skip ?_
      refine at_block_n ?_
      refine at_then ?_
      refine X_seq ?_
      refine X_region ?_
      refine XO_v0 (ev_move rfl) rfl rfl rfl ?_
      refine XO_v0 (ev_shl rfl rfl (fun hg => by omega)) rfl rfl rfl ?_
      refine XO_v0 (ev_arB rfl rfl rfl (fun hg => by first | omega | (simp [conj] at hg; omega))) rfl rfl rfl ?_
      refine XO_callM (cap := []) (vs := [_]) rfl rfl fun_32 .nil (w_trees1 _ (allS m)) rfl rfl ?_
      rintro vv1 I1 L1 hI1 ⟨rfl, b5, rfl, hc5⟩
      have hIc := hIc.trans hI1
      refine XO_callM (cap := []) (vs := [_, _]) rfl rfl fun_31 .nil (w_sortedF fun_48 (w_tree 7 (by omega) _ (allS m) b5 hal (by have := pop_7 hal; omega) hc5) (by omega) (fun r hr => by have := treesI_row 7 _ r hr; omega)) rfl rfl ?_
      rintro vv2 I2 L2 hI2 ⟨hs, vss, hp, hpw, hO, hre⟩
      have hc5 := hc5.mono hI2
      have hIc := hIc.trans hI2
      simp only [List.append_nil]
      refine XO_v0 (ev_assign rfl) rfl rfl rfl ?_
      refine XO_v0 (ev_assign rfl) rfl rfl rfl ?_
      refine XO_nil ?_
      refine at_then ?_
      refine X_ret ?_
      first
      | exact at_ret2 rfl rfl rfl (fun w hw => ⟨_, I2, [], rfl, hIc, hw.drop, rfl, [], fun h => by rw [allE_1 h6] at h; omega, fun _ => rfl, by rw [allE_1 h6]; exact .empty rfl⟩)
      | exact at_ret2 rfl rfl rfl (fun w hw => ⟨_, I2, [], rfl, hIc, hw.drop, rfl, [], fun h => by rw [allE_2 h6 h1] at h; omega, fun _ => rfl, by rw [allE_2 h6 h1]; exact .empty rfl⟩)
      | exact at_ret2 rfl rfl rfl (fun w hw => by obtain ⟨I9, av9, c9, h1', h2', rfl, h4'⟩ := OwnS.freeze (R := []) hO encH_len (by decide) (by rw [List.append_nil]; exact hw); exact ⟨_, I9, [], rfl, hIc.trans h1', h2', rfl, vss, fun _ => ⟨hp, hpw⟩, fun h => absurd (allE_3 h6 h1) h, by rw [allE_3 h6 h1]; exact ⟨rfl, av9, c9, by rw [hp.length_eq], by rw [hp.length_eq]; exact ⟨hs, h4', hre.mono h1'⟩⟩⟩)
end Go.Proofs.YtkpmnnflikkhmaaDoor
end
section
namespace Go.Proofs.YtkpmnnflikkhmaaDoor
open Go Go.Kn Go.Proofs
/-- What the program's loop holds: a round more. -/
def bsiS (rows : List (List Int)) (p : Int × List (List Int)) (x : List Int) : Int × List (List Int) :=
  let c := priceF rows x
  let t := decide ((p.2.length : Int) = 0) || decide (c < p.1)
  (if t then c else p.1, if c == (if t then c else p.1) then (if t then [] else p.2) ++ [x] else if t then [] else p.2)
def bsiK (rows : List (List Int)) (l : List (List Int)) (k : Nat) : Int × List (List Int) := (l.take k).foldl (bsiS rows) (0, [])
theorem bsi_next {rows l : List (List Int)} {k : Nat} {x : List Int} (hx : l[k]? = some x) : bsiK rows l (k + 1) = bsiS rows (bsiK rows l k) x := by
  unfold bsiK
  rw [take_snoc hx, List.foldl_append]; rfl
def tkB (rows l : List (List Int)) (k : Nat) (x : List Int) : Bool := decide (((bsiK rows l k).2.length : Int) = 0) || decide (priceF rows x < (bsiK rows l k).1)
def mdB (rows l : List (List Int)) (k : Nat) (x : List Int) : Int := if tkB rows l k x then priceF rows x else (bsiK rows l k).1
def mdO (rows l : List (List Int)) (k : Nat) (x : List Int) : List (List Int) := if tkB rows l k x then [] else (bsiK rows l k).2
theorem bsi_eq {rows l : List (List Int)} {k : Nat} {x : List Int} (hx : l[k]? = some x) : bsiK rows l (k + 1) = (mdB rows l k x, if priceF rows x == mdB rows l k x then mdO rows l k x ++ [x] else mdO rows l k x) := by rw [bsi_next hx]; rfl
theorem bsi_yes {rows l : List (List Int)} {k : Nat} {x : List Int} (hx : l[k]? = some x) (h : (priceF rows x == mdB rows l k x) = true) : bsiK rows l (k + 1) = (mdB rows l k x, mdO rows l k x ++ [x]) := by rw [bsi_eq hx, if_pos h]
theorem bsi_no {rows l : List (List Int)} {k : Nat} {x : List Int} (hx : l[k]? = some x) (h : (priceF rows x == mdB rows l k x) = false) : bsiK rows l (k + 1) = (mdB rows l k x, mdO rows l k x) := by rw [bsi_eq hx, if_neg (by rw [h]; decide)]
theorem md_yes {rows l : List (List Int)} {k : Nat} {x : List Int} (h : tkB rows l k x = true) : mdB rows l k x = priceF rows x ∧ mdO rows l k x = [] := by unfold mdB mdO; rw [if_pos h, if_pos h]; exact ⟨rfl, rfl⟩
theorem md_no {rows l : List (List Int)} {k : Nat} {x : List Int} (h : tkB rows l k x = false) : mdB rows l k x = (bsiK rows l k).1 ∧ mdO rows l k x = (bsiK rows l k).2 := by unfold mdB mdO; rw [if_neg (by rw [h]; decide), if_neg (by rw [h]; decide)]; exact ⟨rfl, rfl⟩
theorem price_pos {rows : List (List Int)} {cl : List Int} (h : 0 < (rows.getD 0 []).length → True) : 0 ≤ priceF rows cl := by
  unfold priceF
  have : ∀ k, 0 ≤ priceK rows cl k := by
    intro k
    induction k with
    | zero => exact Int.le_refl _
    | succ k ih =>
      rw [price_step]
      have := (minK_in (cs := costsF rows cl k 64 (allS rows.length)) (costs_in _ _) (by rw [costs_len]; exact st_pos) (costsF rows cl k 64 (allS rows.length)).length).1
      have e : leastF (costsF rows cl k 64 (allS rows.length)) = minK (costsF rows cl k 64 (allS rows.length)) (costsF rows cl k 64 (allS rows.length)).length := rfl
      omega
  exact this _
/-- Both loops hold the same, but for the start. -/
theorem bsi_bst {rows l : List (List Int)} (hl : l = allL rows.length) : ∀ k, k ≤ l.length → (k = 0 ∧ bsiK rows l k = (0, []) ∧ bstK rows k = (-1, [])) ∨ (1 ≤ k ∧ bsiK rows l k = bstK rows k ∧ (bstK rows k).2 ≠ [] ∧ 0 ≤ (bstK rows k).1) := by
  subst hl
  intro k
  induction k with
  | zero => intro _; left; exact ⟨rfl, rfl, rfl⟩
  | succ k ih =>
    intro hk
    right
    have hx : (allL (rows.length : Int))[k]? = some ((allL (rows.length : Int))[k]'(by omega)) := List.getElem?_eq_getElem _
    generalize (allL (rows.length : Int))[k]'(by omega) = x at hx
    have hp := price_pos (rows := rows) (cl := x) fun _ => trivial
    rw [bsi_next hx, bst_next hx]
    rcases ih (by omega) with ⟨rfl, h1, h2⟩ | ⟨h0, h1, h2, h3⟩
    · rw [h1, h2]
      unfold bsiS bstS lessB
      simp
      omega
    · rw [h1]
      generalize bstK rows k = p at h1 h2 h3
      obtain ⟨b, o⟩ := p
      simp only at h2 h3
      have ho : decide ((o.length : Int) = 0) = false := decide_eq_false (by
        intro e
        exact h2 (List.eq_nil_of_length_eq_zero (by omega)))
      have hb : decide (b < 0) = false := decide_eq_false (by omega)
      unfold bsiS bstS lessB
      simp only [ho, hb, Bool.false_or]
      refine ⟨by omega, trivial, ?_, ?_⟩
      · by_cases hc : priceF rows x < b
        · simp [hc]
        · simp only [hc, decide_false, Bool.false_eq_true, if_false]
          split
          · simp
          · exact h2
      · by_cases hc : priceF rows x < b
        · simp [hc]; omega
        · simp [hc]; omega
theorem all_ne {n : Nat} (h1 : 1 ≤ n) (h5 : n ≤ 5) : 0 < (allL (n : Int)).length := by
  have ht : ((List.range 6).all fun n => n == 0 || decide (0 < (allL (n : Int)).length)) = true := by kernel_rfl
  have h := List.all_eq_true.1 ht n (List.mem_range.2 (by omega))
  rw [show (n == 0) = false by simp; omega, Bool.false_or, decide_eq_true_eq] at h
  exact h
theorem best_same {rows l : List (List Int)} (h1 : 1 ≤ rows.length) (h5 : rows.length ≤ 5) (hl : l = allL rows.length) : bsiK rows l l.length = bstK rows (allL rows.length).length := by
  have h0 := all_ne h1 h5
  rcases bsi_bst hl l.length (Nat.le_refl _) with ⟨e, _⟩ | ⟨_, e, _⟩
  · rw [hl] at e; omega
  · rw [e, hl]
end Go.Proofs.YtkpmnnflikkhmaaDoor
end
section
namespace Go.Proofs.YtkpmnnflikkhmaaDoor
open Go Go.Kn Go.Proofs
theorem fun_15 : Fun Tryd.prog 15 := .of Tryd.func15 (by kernel_rfl) (by kernel_rfl)
theorem fun_36 : Fun Tryd.prog 36 := .of Tryd.func36 (by kernel_rfl) (by kernel_rfl)
theorem fun_37 : Fun Tryd.prog 37 := .of Tryd.func37 (by kernel_rfl) (by kernel_rfl)
theorem w_Cost {I : HMap} {av : Option Addr} {n c : Nat} {xs : List Int} (hS : Sl I 1 encI av n c xs) (hn : n ≤ 100000) {bv : Option Addr} {n2 c2 : Nat} {rows : List (List Int)} (hV : SlN I bv n2 c2 rows) (hn2 : n2 ≤ 100000) (hDb : DebOK I) : RetV Tryd.prog 19 [.slice bv n2 c2, .slice av n c] I (.tuple #[.int .i64 (costA rows xs), .int .i64 (costE rows xs)]) := by
  intro g H w hw
  refine enter Tryd.func19 rfl Tryd.ntmps19 rfl hw ?_
  have hlV := hV.len
  subst hlV
  refine X_seq ?_
  refine X_region ?_
  refine XO_v0 (ev_assign rfl) rfl rfl rfl ?_
  refine XO_v0 (ev_assign rfl) rfl rfl rfl ?_
  refine XO_nil ?_
  refine at_then ?_
  refine X_seq ?_
  refine X_seq ?_
  refine X_region ?_
  refine XO_v0 (ev_move rfl) rfl rfl rfl ?_
  refine XO_callV0 (cap := []) (vs := [_]) rfl rfl fun_36 (w_table hV hn2) rfl rfl ?_
  refine XO_v0 (ev_assign rfl) rfl rfl rfl ?_
  refine XO_nil ?_
  refine at_then ?_
  refine X_seq ?_
  refine X_region ?_
  refine XO_v0 (ev_move rfl) rfl rfl rfl ?_
  refine XO_v0 (ev_cmp rfl rfl rfl) rfl rfl rfl ?_
  refine XO_nil ?_
  refine at_then ?_
  refine X_cond rfl (fun hc9 => ?_) (fun hc9 => ?_)
  · skip
    have hr0 : rowsN rows ≠ 0 := by simpa using hc9
    obtain ⟨e1, e2⟩ := cost_1 (cl := xs) hr0
    refine X_seq ?_
    refine X_region ?_
    refine XO_v0 (ev_move rfl) rfl rfl rfl ?_
    refine XO_v0 (ev_assign rfl) rfl rfl rfl ?_
    refine XO_v0 (ev_assign rfl) rfl rfl rfl ?_
    refine XO_nil ?_
    refine at_then ?_
    refine X_ret ?_
    refine at_then_r ?_
    first
    | exact at_ret2 rfl rfl rfl (fun w hw => ⟨by rw [e1, e2], hw.drop⟩)
  · skip
    have hr0 : rowsN rows = 0 := by simpa using hc9
    refine X_skip ?_
    refine at_then ?_
    refine X_seq ?_
    refine X_seq ?_
    refine X_region ?_
    refine XO_v0 (ev_move rfl) rfl rfl rfl ?_
    refine XO_v0 (ev_lenS rfl slt_28) rfl rfl rfl ?_
    refine XO_v0 (ev_move rfl) rfl rfl rfl ?_
    refine XO_callV0 (cap := []) (vs := [_, _]) rfl rfl fun_13 (w_check hS _) rfl rfl ?_
    refine XO_v0 (ev_assign rfl) rfl rfl rfl ?_
    refine XO_nil ?_
    refine at_then ?_
    refine X_seq ?_
    refine X_region ?_
    refine XO_v0 (ev_move rfl) rfl rfl rfl ?_
    refine XO_v0 (ev_cmp rfl rfl rfl) rfl rfl rfl ?_
    refine XO_nil ?_
    refine at_then ?_
    refine X_cond rfl (fun hc16 => ?_) (fun hc16 => ?_)
    · skip
      have hc0 : chkN rows.length xs ≠ 0 := by simpa using hc16
      obtain ⟨e1, e2⟩ := cost_2 hr0 hc0
      refine X_seq ?_
      refine X_region ?_
      refine XO_v0 (ev_move rfl) rfl rfl rfl ?_
      refine XO_v0 (ev_assign rfl) rfl rfl rfl ?_
      refine XO_v0 (ev_assign rfl) rfl rfl rfl ?_
      refine XO_nil ?_
      refine at_then ?_
      refine X_ret ?_
      refine at_then_r ?_
      first
      | exact at_ret2 rfl rfl rfl (fun w hw => ⟨by rw [e1, e2], hw.drop⟩)
    · skip
      have hc0 : chkN rows.length xs = 0 := by simpa using hc16
      obtain ⟨e1, e2⟩ := cost_3 hr0 hc0
      refine X_skip ?_
      refine at_then ?_
      refine X_seq ?_
      refine X_region ?_
      refine XO_v0 (ev_move rfl) rfl rfl rfl ?_
      refine XO_v0 (ev_move rfl) rfl rfl rfl ?_
      refine XO_callV0 (cap := []) (vs := [_, _]) rfl rfl fun_37 (w_cost hS hn hV hn2 hDb hr0 hc0) rfl rfl ?_
      refine XO_v0 (ev_assign rfl) rfl rfl rfl ?_
      refine XO_v0 (ev_assign rfl) rfl rfl rfl ?_
      refine XO_nil ?_
      refine at_then ?_
      refine X_ret ?_
      first
      | exact at_ret2 rfl rfl rfl (fun w hw => ⟨by rw [e1, e2], hw.drop⟩)
theorem w_Best {I : HMap} {bv : Option Addr} {n2 c2 : Nat} {rows : List (List Int)} (hV : SlN I bv n2 c2 rows) (hn2 : n2 ≤ 100000) (hDb : DebOK I) (h5 : rows.length ≠ 6) : RetM Tryd.prog 21 [.slice bv n2 c2] I [] (BestQ rows) := by
  intro g H w hw
  refine enter Tryd.func21 rfl Tryd.ntmps21 rfl hw ?_
  have hIc := HLe.refl I
  have hlV := hV.len
  subst hlV
  refine X_seq ?_
  refine X_region ?_
  refine XO_v0 (ev_assign rfl) rfl rfl rfl ?_
  refine XO_v0 (ev_assign rfl) rfl rfl rfl ?_
  refine XO_v0 (ev_assign rfl) rfl rfl rfl ?_
  refine XO_nil ?_
  refine at_then ?_
  refine X_seq ?_
  refine X_seq ?_
  refine X_region ?_
  refine XO_v0 (ev_move rfl) rfl rfl rfl ?_
  refine XO_callV0 (cap := []) (vs := [_]) rfl rfl fun_36 (w_table hV hn2) rfl rfl ?_
  refine XO_v0 (ev_assign rfl) rfl rfl rfl ?_
  refine XO_nil ?_
  refine at_then ?_
  refine X_seq ?_
  refine X_region ?_
  refine XO_v0 (ev_move rfl) rfl rfl rfl ?_
  refine XO_v0 (ev_cmp rfl rfl rfl) rfl rfl rfl ?_
  refine XO_nil ?_
  refine at_then ?_
  refine X_cond rfl (fun hc13 => ?_) (fun hc13 => ?_)
  · skip
    have hr0 : rowsN rows ≠ 0 := by simpa using hc13
    refine X_seq ?_
    refine X_region ?_
    refine XO_v0 (ev_move rfl) rfl rfl rfl ?_
    refine XO_v0 (ev_assign rfl) rfl rfl rfl ?_
    refine XO_v0 (ev_assign rfl) rfl rfl rfl ?_
    refine XO_v0 (ev_assign rfl) rfl rfl rfl ?_
    refine XO_nil ?_
    refine at_then ?_
    refine X_ret ?_
    refine at_then_r ?_
    first
    | exact at_ret3 rfl rfl rfl rfl (fun w hw => ⟨_, I, [], rfl, hIc, hw.drop, BestQ.bad hr0⟩)
    | exact at_ret3 rfl rfl rfl rfl (fun w hw => by rw [best_same hr1 h5 rfl] at hre hb; obtain ⟨I9, h91, h92, h93⟩ := OwnS.res hO encH_len (by decide) hw; obtain ⟨_, a9, c9, e9, h94⟩ := h93; have hrel := hre.mono h91; rw [hrel.1] at e9 h94; obtain ⟨u1, u2⟩ := best_ok hr0; rw [← u1] at e9 h94 hrel; rw [← u2] at hb; subst e9; exact ⟨_, I9, [], rfl, hIc.trans h91, h92, rfl, a9, c9, by rw [hb, hr0], _, h94, hrel⟩)
  · skip
    have hr0 : rowsN rows = 0 := by simpa using hc13
    obtain ⟨hr1, hr6, _⟩ := rows_ok hr0
    have h5 : rows.length ≤ 5 := by omega
    refine X_skip ?_
    refine at_then ?_
    refine X_seq ?_
    refine X_region ?_
    refine XO_v0 (ev_move rfl) rfl rfl rfl ?_
    refine XO_v0 (ev_lenS rfl slt_28) rfl rfl rfl ?_
    refine XO_callM (cap := []) (vs := [_]) rfl rfl fun_15 .nil (w_All _ (rows.length : Int)) rfl rfl ?_
    rintro vv1 I1 L1 hI1 ⟨rfl, vss, hok, _, hAl⟩
    have hV := hV.mono hI1
    have hDb := hDb.mono hI1
    have hIc := hIc.trans hI1
    have hae : allE (rows.length : Int) = 0 := allE_3 (by omega) (by omega)
    obtain ⟨_, aA, cA, rfl, hA⟩ := hAl
    have hvs := allok_5 hr1 h5 (hok hae)
    subst hvs
    rw [hae]
    obtain ⟨gs, hA⟩ := hA
    have hln : (allL rows.length).length ≤ 945 := by unfold allL; rw [sort_len]; exact trees_few (by omega) (all_in (n := (rows.length : Int)) ⟨by omega, by omega⟩)
    refine XO_v0 (ev_move rfl) rfl rfl rfl ?_
    refine XO_v0 (ev_extract rfl rfl) rfl rfl rfl ?_
    refine XO_v0 (ev_extract rfl rfl) rfl rfl rfl ?_
    refine XO_v0 (ev_assign rfl) rfl rfl rfl ?_
    refine XO_v0 (ev_assign rfl) rfl rfl rfl ?_
    refine XO_nil ?_
    refine at_then ?_
    refine X_seq ?_
    refine X_seq ?_
    refine X_region ?_
    refine XO_v0 (ev_move rfl) rfl rfl rfl ?_
    refine XO_v0 (ev_lenS rfl slt_28) rfl rfl rfl ?_
    refine XO_v0 (ev_move rfl) rfl rfl rfl ?_
    refine XO_nil ?_
    refine at_then ?_
    refine X_block ?_
    refine X_loopT [(0, _), (21, _), (22, _)] (.cons rfl (.cons rfl (.cons rfl .nil))) (fun T L0 mz E I' loc' => ∃ (i : Nat) (b : Int) (v : Value) (q : Nat) (os : List Hd) (L : Go.Kn.Loc), mz = (allL rows.length).length - i ∧ E = (2, v) :: (3, .int .i64 b) :: (23, .int .i64 i) :: T ∧ HLe I1 I' ∧ L = loc' ∧ i ≤ (allL rows.length).length ∧ OwnS 22 1 v q (os.flatMap encH) L ∧ RelH I' os (bsiK rows (allL rows.length) i).2 ∧ b = (bsiK rows (allL rows.length) i).1 ∧ q ≤ i) _ _ _ _ ⟨0, _, _, 0, [], [], rfl, rfl, HLe.refl _, rfl, Nat.zero_le _, OwnS.nil, RelH.nil, rfl, Nat.le_refl _⟩ (.cons rfl (.cons rfl (.cons rfl (.cons rfl (.cons rfl (.cons rfl .nil)))))) (HLe.refl _) rfl ?_
    rintro mz E J2 loc' ⟨i, b, v, q, os, L, rfl, rfl, hJ, rfl, hi, hO, hre, hb, hq⟩
    have hV := hV.mono hJ
    have hDb := hDb.mono hJ
    have hA := hA.mono hJ
    have hIc := hIc.trans hJ
    have hB0 := hJ
    refine X_seq ?_
    refine X_region ?_
    refine XO_v0 (ev_cmp rfl rfl rfl) rfl rfl rfl ?_
    refine XO_nil ?_
    refine at_then ?_
    refine X_seq ?_
    refine X_cond rfl (fun hc24 => ?_) (fun hc24 => ?_)
    · skip
      have hlt_i : i < (allL rows.length).length := by have h := hc24; simp at h; omega
      obtain ⟨y, yv, hgy, hyy, hQy⟩ := hA.at hlt_i
      have hys : yv.length ≤ 100000 := tree_short _ (mem_sort _ _ (List.mem_of_getElem? hyy))
      refine X_skip ?_
      refine at_then ?_
      refine X_seq ?_
      refine X_block ?_
      refine X_seq ?_
      refine X_region ?_
      refine XO_v0 (ev_indexSl rfl rfl slt_28 hA.1 (fun hg => by first | omega | (simp [conj] at hg; omega))) rfl rfl rfl ?_
      refine XO_v0 (ev_load rfl sct_22 (fun hg => by first | exact Sl.get0 hA.1 hgy rfl | exact Cell.h0 rfl | exact Cell.h1 rfl | exact Cell.h2 rfl | exact Cell.h3 rfl | exact Cell.h4 rfl | exact Cell.h5 rfl | (repeat (first | exact Cell.here rfl | apply Cell.there | apply Cell.app)))) rfl rfl rfl ?_
      refine XO_v0 (ev_assign rfl) rfl rfl rfl ?_
      refine XO_nil ?_
      refine at_then ?_
      refine X_seq ?_
      refine X_region ?_
      refine XO_v0 (ev_move rfl) rfl rfl rfl ?_
      refine XO_v0 (ev_move rfl) rfl rfl rfl ?_
      refine XO_callV0 (cap := []) (vs := [_, _]) rfl rfl fun_37 (w_cost hQy (by rw [← hQy.len]; exact hys) hV hn2 hDb hr0 (all_chk hr1 h5 (List.mem_of_getElem? hyy))) rfl rfl ?_
      refine XO_v0 (ev_assign rfl) rfl rfl rfl ?_
      refine XO_nil ?_
      refine at_then ?_
      refine X_cutT [(0, _), (8, _), (9, _), (21, _), (22, _), (23, _)] (.cons rfl (.cons rfl (.cons rfl (.cons rfl (.cons rfl (.cons rfl .nil)))))) (fun T L0 E I' loc' => ∃ (b : Int) (v : Value) (q : Nat) (os : List Hd) (L : Go.Kn.Loc), E = (2, v) :: (3, .int .i64 b) :: T ∧ HLe J2 I' ∧ L = loc' ∧ OwnS 22 1 v q (os.flatMap encH) L ∧ RelH I' os (mdO rows (allL rows.length) i yv) ∧ b = mdB rows (allL rows.length) i yv ∧ q ≤ i) ?_ ?_
      · skip
        have hKc9 := HLe.refl J2
        refine X_seq ?_
        obtain ⟨va, vc, rfl⟩ := valn hO
        have hql : ((os.length : Nat) : Int) = (q : Int) := by have h1 := hO.1; rw [flat_len encH_len] at h1; omega
        refine X_region ?_
        refine XO_v0 (ev_move rfl) rfl rfl rfl ?_
        refine XO_v0 (ev_lenS rfl slt_28) rfl rfl rfl ?_
        refine XO_v0 (ev_cmp rfl rfl rfl) rfl rfl rfl ?_
        refine XO_v0 (ev_move rfl) rfl rfl rfl ?_
        refine XO_pushF 3 rfl rfl rfl ?_
        refine XO_v1 (ev_move rfl) (.some rfl rfl rfl rfl gbf) rfl rfl rfl ?_
        refine XO_v1 (ev_move rfl) (.some rfl rfl rfl rfl gbf) rfl rfl rfl ?_
        refine XO_v1 (ev_cmp rfl rfl rfl) (.some rfl rfl rfl rfl gbf) rfl rfl rfl ?_
        refine XO_or0 rfl rfl rfl rfl rfl ?_
        refine XO_nil ?_
        refine at_then ?_
        refine X_cond rfl (fun hc37 => ?_) (fun hc37 => ?_)
        · skip
          have hlb : tkB rows (allL rows.length) i yv = true := by unfold tkB; rw [← hb, ← hre.1, hql]; simpa using hc37
          refine X_region ?_
          refine XO_v0 (ev_move rfl) rfl rfl rfl ?_
          refine XO_v0 (ev_assign rfl) rfl rfl rfl ?_
          refine XO_v0 (ev_assign rfl) rfl rfl rfl ?_
          refine XO_nil ?_
          first
          | exact at_met2 _ _ ⟨_, _, 0, [], [], rfl, hKc9, rfl, OwnS.nil, by rw [(md_yes hlb).2]; exact RelH.nil, by rw [(md_yes hlb).1], Nat.zero_le _⟩ (.cons rfl (.cons rfl (.cons rfl (.cons rfl (.cons rfl (.cons rfl (.cons rfl (.cons rfl .nil)))))))) (by repeat (first | exact .refl | exact subL_left | refine subL_app ?_ | refine .drop ?_ | refine subL_add ?_))
          | exact at_met2 _ _ ⟨_, _, _, _, _, rfl, hKc9, rfl, hO, by rw [(md_no hlb).2]; exact hre, by rw [(md_no hlb).1]; exact hb, hq⟩ (.cons rfl (.cons rfl (.cons rfl (.cons rfl (.cons rfl (.cons rfl (.cons rfl (.cons rfl .nil)))))))) (by repeat (first | exact .refl | exact subL_left | refine subL_app ?_ | refine .drop ?_ | refine subL_add ?_))
        · skip
          have hlb : tkB rows (allL rows.length) i yv = false := by unfold tkB; rw [← hb, ← hre.1, hql]; simpa using hc37
          refine X_skip ?_
          first
          | exact at_met2 _ _ ⟨_, _, 0, [], [], rfl, hKc9, rfl, OwnS.nil, by rw [(md_yes hlb).2]; exact RelH.nil, by rw [(md_yes hlb).1], Nat.zero_le _⟩ (.cons rfl (.cons rfl (.cons rfl (.cons rfl (.cons rfl (.cons rfl (.cons rfl (.cons rfl .nil)))))))) (by repeat (first | exact .refl | exact subL_left | refine subL_app ?_ | refine .drop ?_ | refine subL_add ?_))
          | exact at_met2 _ _ ⟨_, _, _, _, _, rfl, hKc9, rfl, hO, by rw [(md_no hlb).2]; exact hre, by rw [(md_no hlb).1]; exact hb, hq⟩ (.cons rfl (.cons rfl (.cons rfl (.cons rfl (.cons rfl (.cons rfl (.cons rfl (.cons rfl .nil)))))))) (by repeat (first | exact .refl | exact subL_left | refine subL_app ?_ | refine .drop ?_ | refine subL_add ?_))
      · rintro E J3 loc' ⟨b, v, q, os, L, rfl, hJc, rfl, hO, hre2, hb2, hq⟩
        have hV := hV.mono hJc
        have hDb := hDb.mono hJc
        have hA := hA.mono hJc
        have hre := hre.mono hJc
        have hQy := hQy.mono hJc
        have hIc := hIc.trans hJc
        have hB0 := hB0.trans hJc
        refine X_seq ?_
        refine X_region ?_
        refine XO_v0 (ev_move rfl) rfl rfl rfl ?_
        refine XO_v0 (ev_move rfl) rfl rfl rfl ?_
        refine XO_v0 (ev_cmp rfl rfl rfl) rfl rfl rfl ?_
        refine XO_nil ?_
        refine at_then ?_
        refine X_cond rfl (fun hc41 => ?_) (fun hc41 => ?_)
        · skip
          refine X_region ?_
          refine XO_v0 (ev_move rfl) rfl rfl rfl ?_
          refine XO_v0 (ev_move rfl) rfl rfl rfl ?_
          refine XO_buildSlice (ps := [(0, _)]) (m := [encH y]) elt_28 rfl (.cons rfl (.nil)) rfl (by simp [encH_len]) (by decide) (by decide) rfl rfl (fun b_44 => ?_)
          refine XO_append (v := _) (ys := [y].flatMap encH) (L := L) rfl rfl elt_28 hO (by repeat (first | exact .cons .here .nil | exact split_all | exact split_app | apply split_cons | apply split_skip)) ⟨rfl, fun _ => rfl, Cells.here⟩ (one_H [y]) (by omega) rfl rfl ?_
          intro v9 L9 hO9 _; rw [← List.flatMap_append] at hO9
          refine XO_v0 (ev_assign rfl) rfl rfl rfl ?_
          refine XO_nil ?_
          refine at_block_n ?_
          refine at_then ?_
          refine X_region ?_
          refine XO_v0 (ev_arB rfl rfl rfl (fun hg => by first | omega | (simp [conj] at hg; omega))) rfl rfl rfl ?_
          refine XO_v0 (ev_move rfl) rfl rfl rfl ?_
          refine XO_nil ?_
          first
          | exact at_met2 _ _ ⟨(allL rows.length).length - (i + 1), by omega, i + 1, _, _, _, _, _, rfl, rfl, hB0, rfl, by omega, hO, by rw [bsi_no hyy (by rw [← hb2]; exact hc41)]; exact hre2, by rw [bsi_no hyy (by rw [← hb2]; exact hc41)]; exact hb2, by omega⟩ (.cons rfl (.cons rfl (.cons rfl (.cons rfl (.cons rfl (.cons rfl .nil)))))) (by repeat (first | exact .refl | exact subL_left | refine subL_app ?_ | refine .drop ?_ | refine subL_add ?_))
          | exact at_met2 _ _ ⟨(allL rows.length).length - (i + 1), by omega, i + 1, _, _, _, _, _, rfl, rfl, hB0, rfl, by omega, hO9, by rw [bsi_yes hyy (by rw [← hb2]; exact hc41)]; exact hre2.snoc hQy, by rw [bsi_yes hyy (by rw [← hb2]; exact hc41)]; exact hb2, by omega⟩ (.cons rfl (.cons rfl (.cons rfl (.cons rfl (.cons rfl (.cons rfl .nil)))))) (by repeat (first | exact .refl | exact subL_left | refine subL_app ?_ | refine .drop ?_ | refine subL_add ?_))
        · skip
          refine X_skip ?_
          refine at_block_n ?_
          refine at_then ?_
          refine X_region ?_
          refine XO_v0 (ev_arB rfl rfl rfl (fun hg => by first | omega | (simp [conj] at hg; omega))) rfl rfl rfl ?_
          refine XO_v0 (ev_move rfl) rfl rfl rfl ?_
          refine XO_nil ?_
          first
          | exact at_met2 _ _ ⟨(allL rows.length).length - (i + 1), by omega, i + 1, _, _, _, _, _, rfl, rfl, hB0, rfl, by omega, hO, by rw [bsi_no hyy (by rw [← hb2]; exact hc41)]; exact hre2, by rw [bsi_no hyy (by rw [← hb2]; exact hc41)]; exact hb2, by omega⟩ (.cons rfl (.cons rfl (.cons rfl (.cons rfl (.cons rfl (.cons rfl .nil)))))) (by repeat (first | exact .refl | exact subL_left | refine subL_app ?_ | refine .drop ?_ | refine subL_add ?_))
          | exact at_met2 _ _ ⟨(allL rows.length).length - (i + 1), by omega, i + 1, _, _, _, _, _, rfl, rfl, hB0, rfl, by omega, hO9, by rw [bsi_yes hyy (by rw [← hb2]; exact hc41)]; exact hre2.snoc hQy, by rw [bsi_yes hyy (by rw [← hb2]; exact hc41)]; exact hb2, by omega⟩ (.cons rfl (.cons rfl (.cons rfl (.cons rfl (.cons rfl (.cons rfl .nil)))))) (by repeat (first | exact .refl | exact subL_left | refine subL_app ?_ | refine .drop ?_ | refine subL_add ?_))
    · skip
      have hge_i : (allL rows.length).length ≤ i := by have h := hc24; simp at h; omega
      have hie : i = (allL rows.length).length := by omega
      subst hie
      refine X_exit ?_
      refine at_then_e ?_
      refine at_then_e ?_
      refine at_block_hit ?_
      refine at_then ?_
      refine X_seq ?_
      refine X_region ?_
      refine XO_v0 (ev_move rfl) rfl rfl rfl ?_
      refine XO_v0 (ev_move rfl) rfl rfl rfl ?_
      refine XO_v0 (ev_assign rfl) rfl rfl rfl ?_
      refine XO_v0 (ev_assign rfl) rfl rfl rfl ?_
      refine XO_v0 (ev_assign rfl) rfl rfl rfl ?_
      refine XO_nil ?_
      refine at_then ?_
      refine X_ret ?_
      first
      | exact at_ret3 rfl rfl rfl rfl (fun w hw => ⟨_, J2, [], rfl, hIc, hw.drop, BestQ.bad hr0⟩)
      | exact at_ret3 rfl rfl rfl rfl (fun w hw => by rw [best_same hr1 h5 rfl] at hre hb; obtain ⟨I9, h91, h92, h93⟩ := OwnS.res hO encH_len (by decide) hw; obtain ⟨_, a9, c9, e9, h94⟩ := h93; have hrel := hre.mono h91; rw [hrel.1] at e9 h94; obtain ⟨u1, u2⟩ := best_ok hr0; rw [← u1] at e9 h94 hrel; rw [← u2] at hb; subst e9; exact ⟨_, I9, [], rfl, hIc.trans h91, h92, rfl, a9, c9, by rw [hb, hr0], _, h94, hrel⟩)
end Go.Proofs.YtkpmnnflikkhmaaDoor
end
section
namespace Go.Proofs.YtkpmnnflikkhmaaDoor
open Go Go.Kn Go.Proofs
theorem fun_11 : Fun Tryd.prog 11 := .of Tryd.func11 (by kernel_rfl) (by kernel_rfl)
theorem fun_17 : Fun Tryd.prog 17 := .of Tryd.func17 (by kernel_rfl) (by kernel_rfl)
theorem fun_19 : Fun Tryd.prog 19 := .of Tryd.func19 (by kernel_rfl) (by kernel_rfl)
theorem fun_21 : Fun Tryd.prog 21 := .of Tryd.func21 (by kernel_rfl) (by kernel_rfl)
theorem lit_rows {I : HMap} {b t n : Nat} (hs : List Hd) {vss : List (List Int)} (hn : hs.length = n) (h : I b = some (.cells (hs.flatMap encH).toArray t (0, 0))) (r : RelH I hs vss) : SlN I (some ⟨b, 0, none⟩) n n vss := ⟨hs, Sl.lit hs hn encH_len h, r⟩
theorem s_all3 {I : HMap} : RetM Tryd.prog 15 [.int .i64 3] I [] (fun v I' L => L = [] ∧ ∃ a c, v = .tuple #[.slice a 3 c, .int .i64 0] ∧ SlN I' a 3 c [[3, 7], [5, 7], [6, 7]]) := by
  intro g H w hw
  refine (w_All I 3 g H w hw).mono ?_
  rintro ed w' ⟨v, I', L', he, hI, hs, rfl, vss, hok, _, _, a, c, hv, hS⟩
  have e0 : allE 3 = 0 := rfl
  have e1 := allok_5 (n := 3) (by decide) (by decide) (hok e0)
  have e2 : allL ((3 : Nat) : Int) = [[3, 7], [5, 7], [6, 7]] := by kernel_rfl
  rw [e2] at e1
  subst e1
  rw [e0] at hv
  exact ⟨_, I', [], he, hI, hs, rfl, a, c, hv, hS⟩
theorem s_all6 {I : HMap} : RetM Tryd.prog 15 [.int .i64 6] I [] (fun v I' L => L = [] ∧ ∃ a c, v = .tuple #[.slice a 945 c, .int .i64 0]) := by
  intro g H w hw
  refine (w_All I 6 g H w hw).mono ?_
  rintro ed w' ⟨v, I', L', he, hI, hs, rfl, vss, hok, _, _, a, c, hv, hS⟩
  have e0 : allE 6 = 0 := rfl
  have hl : vss.length = 945 := (hok e0).1.length_eq.trans all_945
  rw [e0, hl] at hv
  exact ⟨_, I', [], he, hI, hs, rfl, a, c, hv⟩
theorem s_same {I : HMap} {av bv : Option Addr} {n c c2 : Nat} {vss : List (List Int)} (hV : SlN I av n c vss) (hW : SlN I bv n c2 vss) (hn : n ≤ 100000) (hr : ∀ r ∈ vss, r.length ≤ 100000) : RetV Tryd.prog 17 [.slice av n c, .slice bv n c2] I (.bool true) := by
  have h := w_same hV hW hn hr
  rw [same_self] at h; exact h
theorem s_best1 {I : HMap} {av : Option Addr} {c : Nat} (hV : SlN I av 3 c [[5, 8], [5, 4], [9, 4]]) (hDb : DebOK I) : RetM Tryd.prog 21 [.slice av 3 c] I [] (fun v I' L => L = [] ∧ ∃ a c, v = .tuple #[.slice a 3 c, .int .i64 4, .int .i64 0] ∧ SlN I' a 3 c [[3, 7], [5, 7], [6, 7]]) := by
  intro g H w hw
  refine (w_Best hV (by decide) hDb (by decide) g H w hw).mono ?_
  rintro ed w' ⟨v, I', L', he, hI, hs, rfl, a, c', hv, hS⟩
  have e1 : bestL [[5, 8], [5, 4], [9, 4]] = [[3, 7], [5, 7], [6, 7]] := by kernel_rfl
  have e2 : bestB [[5, 8], [5, 4], [9, 4]] = 4 := by kernel_rfl
  have e3 : rowsN [[5, 8], [5, 4], [9, 4]] = 0 := by kernel_rfl
  rw [e1] at hS hv
  rw [e2, e3] at hv
  exact ⟨_, I', [], he, hI, hs, rfl, a, c', hv, hS⟩
theorem s_best2 {I : HMap} {av : Option Addr} {c : Nat} (hV : SlN I av 1 c [[7]]) (hDb : DebOK I) : RetM Tryd.prog 21 [.slice av 1 c] I [] (fun v I' L => L = [] ∧ ∃ a c, v = .tuple #[.slice a 1 c, .int .i64 0, .int .i64 0] ∧ SlN I' a 1 c [[]]) := by
  intro g H w hw
  refine (w_Best hV (by decide) hDb (by decide) g H w hw).mono ?_
  rintro ed w' ⟨v, I', L', he, hI, hs, rfl, a, c', hv, hS⟩
  have e1 : bestL [[7]] = [[]] := by kernel_rfl
  have e2 : bestB [[7]] = 0 := by kernel_rfl
  have e3 : rowsN [[7]] = 0 := by kernel_rfl
  rw [e1] at hS hv
  rw [e2, e3] at hv
  exact ⟨_, I', [], he, hI, hs, rfl, a, c', hv, hS⟩
theorem s_best3 {I : HMap} {av : Option Addr} {c : Nat} (hV : SlN I av 0 c []) (hDb : DebOK I) : RetM Tryd.prog 21 [.slice av 0 c] I [] (fun v I' L => L = [] ∧ ∃ a c, v = .tuple #[.slice a 0 c, .int .i64 0, .int .i64 420] ∧ SlN I' a 0 c []) := by
  intro g H w hw
  refine (w_Best hV (by decide) hDb (by decide) g H w hw).mono ?_
  rintro ed w' ⟨v, I', L', he, hI, hs, rfl, a, c', hv, hS⟩
  have e1 : bestL [] = [] := by kernel_rfl
  have e2 : bestB [] = 0 := by kernel_rfl
  have e3 : rowsN [] = 420 := by kernel_rfl
  rw [e1] at hS hv
  rw [e2, e3] at hv
  exact ⟨_, I', [], he, hI, hs, rfl, a, c', hv, hS⟩
theorem s_cost1 {I : HMap} {av bv : Option Addr} {c c2 : Nat} (hV : SlN I av 3 c [[5], [5], [9]]) (hS : Sl I 1 encI bv 2 c2 [6, 7]) (hDb : DebOK I) : RetV Tryd.prog 19 [.slice av 3 c, .slice bv 2 c2] I (.tuple #[.int .i64 2, .int .i64 0]) := by
  have h := w_Cost hS (by decide) hV (by decide) hDb
  have e1 : costA [[5], [5], [9]] [6, 7] = 2 := by kernel_rfl
  have e2 : costE [[5], [5], [9]] [6, 7] = 0 := by kernel_rfl
  rw [e1, e2] at h; exact h
theorem s_cost2 {I : HMap} {av bv : Option Addr} {c c2 : Nat} (hV : SlN I av 3 c [[0], [0], [9]]) (hS : Sl I 1 encI bv 2 c2 [3, 7]) (hDb : DebOK I) : RetV Tryd.prog 19 [.slice av 3 c, .slice bv 2 c2] I (.tuple #[.int .i64 1, .int .i64 0]) := by
  have h := w_Cost hS (by decide) hV (by decide) hDb
  have e1 : costA [[0], [0], [9]] [3, 7] = 1 := by kernel_rfl
  have e2 : costE [[0], [0], [9]] [3, 7] = 0 := by kernel_rfl
  rw [e1, e2] at h; exact h
theorem s_cost3 {I : HMap} {av bv : Option Addr} {c c2 : Nat} (hV : SlN I av 3 c [[8589934592], [5], [5]]) (hS : Sl I 1 encI bv 2 c2 [3, 7]) (hDb : DebOK I) : RetV Tryd.prog 19 [.slice av 3 c, .slice bv 2 c2] I (.tuple #[.int .i64 0, .int .i64 0]) := by
  have h := w_Cost hS (by decide) hV (by decide) hDb
  have e1 : costA [[8589934592], [5], [5]] [3, 7] = 0 := by kernel_rfl
  have e2 : costE [[8589934592], [5], [5]] [3, 7] = 0 := by kernel_rfl
  rw [e1, e2] at h; exact h
theorem s_chk1 {I : HMap} {av : Option Addr} {c : Nat} (hS : Sl I 1 encI av 0 c []) : RetV Tryd.prog 13 [.int .i64 1, .slice av 0 c] I (.int .i64 0) := by
  have h := w_check hS 1
  have e : chkN 1 [] = 0 := by kernel_rfl
  rw [e] at h; exact h
theorem s_chk2 {I : HMap} {av : Option Addr} {c : Nat} (hS : Sl I 1 encI av 0 c []) : RetV Tryd.prog 13 [.int .i64 0, .slice av 0 c] I (.int .i64 420) := by
  have h := w_check hS 0
  have e : chkN 0 [] = 420 := by kernel_rfl
  rw [e] at h; exact h
theorem s_chk3 {I : HMap} {av : Option Addr} {c : Nat} (hS : Sl I 1 encI av 0 c []) : RetV Tryd.prog 13 [.int .i64 7, .slice av 0 c] I (.int .i64 2) := by
  have h := w_check hS 7
  have e : chkN 7 [] = 2 := by kernel_rfl
  rw [e] at h; exact h
theorem s_chk4 {I : HMap} {av : Option Addr} {c : Nat} (hS : Sl I 1 encI av 2 c [4, 7]) : RetV Tryd.prog 13 [.int .i64 3, .slice av 2 c] I (.int .i64 420) := by
  have h := w_check hS 3
  have e : chkN 3 [4, 7] = 420 := by kernel_rfl
  rw [e] at h; exact h
theorem s_parts1 {I : HMap} {av : Option Addr} {c : Nat} (hS : Sl I 1 encI av 2 c [3, 7]) : RetV Tryd.prog 11 [.int .i64 3, .slice av 2 c, .int .i64 7] I (.tuple #[.int .i64 3, .int .i64 4, .int .i64 0]) := by
  have h := w_Parts hS (by decide) 3 7
  have e1 : iA 3 [3, 7] 7 = 3 := by kernel_rfl
  have e2 : iB 3 [3, 7] 7 = 4 := by kernel_rfl
  have e3 : partsE 3 [3, 7] 7 = 0 := by kernel_rfl
  rw [e1, e2, e3] at h; exact h
theorem s_parts2 {I : HMap} {av : Option Addr} {c : Nat} (hS : Sl I 1 encI av 2 c [3, 7]) : RetV Tryd.prog 11 [.int .i64 3, .slice av 2 c, .int .i64 4] I (.tuple #[.int .i64 0, .int .i64 0, .int .i64 1]) := by
  have h := w_Parts hS (by decide) 3 4
  have e1 : iA 3 [3, 7] 4 = 0 := by kernel_rfl
  have e2 : iB 3 [3, 7] 4 = 0 := by kernel_rfl
  have e3 : partsE 3 [3, 7] 4 = 1 := by kernel_rfl
  rw [e1, e2, e3] at h; exact h
set_option maxRecDepth 100000 in
theorem w_sane {I : HMap} (hDb : DebOK I) : RetV Tryd.prog 10 [] I (.bool true) := by
  intro g H w hw
  refine enter Tryd.func10 rfl Tryd.ntmps10 rfl hw ?_
  have hIc := HLe.refl I
  refine X_seq ?_
  refine X_region ?_
  refine XO_v0 (ev_assign rfl) rfl rfl rfl ?_
  refine XO_nil ?_
  refine at_then ?_
  refine X_seq ?_
  refine X_region ?_
  refine XO_buildSlice (ps := [(0, _), (1, _)]) (m := [encI 3, encI 7]) elt_22 rfl (.cons rfl (.cons rfl (.nil))) rfl (by simp [encI_len, encH_len]) (by decide) (by decide) rfl rfl (fun b_27 => ?_)
  refine XO_buildSlice (ps := [(0, _), (1, _)]) (m := [encI 5, encI 7]) elt_22 rfl (.cons rfl (.cons rfl (.nil))) rfl (by simp [encI_len, encH_len]) (by decide) (by decide) rfl rfl (fun b_28 => ?_)
  refine XO_buildSlice (ps := [(0, _), (1, _)]) (m := [encI 6, encI 7]) elt_22 rfl (.cons rfl (.cons rfl (.nil))) rfl (by simp [encI_len, encH_len]) (by decide) (by decide) rfl rfl (fun b_29 => ?_)
  refine XO_buildSlice (ps := [(0, _), (1, _), (2, _)]) (m := [encH ⟨some ⟨b_27, 0, none⟩, 2, 2⟩, encH ⟨some ⟨b_28, 0, none⟩, 2, 2⟩, encH ⟨some ⟨b_29, 0, none⟩, 2, 2⟩]) elt_28 rfl (.cons rfl (.cons rfl (.cons rfl (.nil)))) rfl (by simp [encI_len, encH_len]) (by decide) (by decide) rfl rfl (fun b_30 => ?_)
  refine XO_v0 (ev_assign rfl) rfl rfl rfl ?_
  refine XO_nil ?_
  refine at_then ?_
  refine X_seq ?_
  refine X_region ?_
  refine XO_freezeAll (fun I1 hI1 hall1 => ?_)
  have hDb := hDb.mono hI1
  have hIc := hIc.trans hI1
  have hT3 : SlN I1 (some ⟨b_30, 0, none⟩) 3 3 [[3, 7], [5, 7], [6, 7]] := lit_rows (vss := [[3, 7], [5, 7], [6, 7]]) ([⟨some ⟨b_27, 0, none⟩, 2, 2⟩, ⟨some ⟨b_28, 0, none⟩, 2, 2⟩, ⟨some ⟨b_29, 0, none⟩, 2, 2⟩] : List Hd) rfl (show _ = some (Obj.cells (([⟨some ⟨b_27, 0, none⟩, 2, 2⟩, ⟨some ⟨b_28, 0, none⟩, 2, 2⟩, ⟨some ⟨b_29, 0, none⟩, 2, 2⟩] : List Hd).flatMap encH).toArray 22 (0, 0)) from hall1 _ _ (by repeat (first | exact List.mem_cons_self .. | apply List.mem_cons_of_mem))) (((RelH.nil.snoc (hd := ⟨some ⟨b_27, 0, none⟩, 2, 2⟩) (Sl.lit ([3, 7] : List Int) rfl encI_len (show _ = some (Obj.cells (([3, 7] : List Int).flatMap encI).toArray 3 (0, 0)) from hall1 _ _ (by repeat (first | exact List.mem_cons_self .. | apply List.mem_cons_of_mem))))).snoc (hd := ⟨some ⟨b_28, 0, none⟩, 2, 2⟩) (Sl.lit ([5, 7] : List Int) rfl encI_len (show _ = some (Obj.cells (([5, 7] : List Int).flatMap encI).toArray 3 (0, 0)) from hall1 _ _ (by repeat (first | exact List.mem_cons_self .. | apply List.mem_cons_of_mem))))).snoc (hd := ⟨some ⟨b_29, 0, none⟩, 2, 2⟩) (Sl.lit ([6, 7] : List Int) rfl encI_len (show _ = some (Obj.cells (([6, 7] : List Int).flatMap encI).toArray 3 (0, 0)) from hall1 _ _ (by repeat (first | exact List.mem_cons_self .. | apply List.mem_cons_of_mem)))))
  refine XO_callM (cap := []) (vs := [_]) rfl rfl fun_15 .nil (s_all3) rfl rfl ?_
  rintro vv2 I2 L2 hI2 ⟨rfl, a2, c2, rfl, hAl3⟩
  have hDb := hDb.mono hI2
  have hT3 := hT3.mono hI2
  have hIc := hIc.trans hI2
  refine XO_v0 (ev_move rfl) rfl rfl rfl ?_
  refine XO_v0 (ev_extract rfl rfl) rfl rfl rfl ?_
  refine XO_v0 (ev_extract rfl rfl) rfl rfl rfl ?_
  refine XO_v0 (ev_assign rfl) rfl rfl rfl ?_
  refine XO_v0 (ev_assign rfl) rfl rfl rfl ?_
  refine XO_nil ?_
  refine at_then ?_
  refine X_seq ?_
  refine X_region ?_
  refine XO_callM (cap := []) (vs := [_]) rfl rfl fun_15 .nil (s_all6) rfl rfl ?_
  rintro vv3 I3 L3 hI3 ⟨rfl, a3, c3, rfl⟩
  have hDb := hDb.mono hI3
  have hT3 := hT3.mono hI3
  have hAl3 := hAl3.mono hI3
  have hIc := hIc.trans hI3
  refine XO_v0 (ev_move rfl) rfl rfl rfl ?_
  refine XO_v0 (ev_extract rfl rfl) rfl rfl rfl ?_
  refine XO_v0 (ev_extract rfl rfl) rfl rfl rfl ?_
  refine XO_v0 (ev_assign rfl) rfl rfl rfl ?_
  refine XO_v0 (ev_assign rfl) rfl rfl rfl ?_
  refine XO_nil ?_
  refine at_then ?_
  refine X_seq ?_
  refine X_region ?_
  refine XO_buildSlice (ps := [(0, _), (1, _)]) (m := [encI 3, encI 7]) elt_22 rfl (.cons rfl (.cons rfl (.nil))) rfl (by simp [encI_len, encH_len]) (by decide) (by decide) rfl rfl (fun b_40 => ?_)
  refine XO_freezeAll (fun I4 hI4 hall4 => ?_)
  have hDb := hDb.mono hI4
  have hT3 := hT3.mono hI4
  have hAl3 := hAl3.mono hI4
  have hIc := hIc.trans hI4
  have hP1 : Sl I4 1 encI (some ⟨b_40, 0, none⟩) 2 2 [3, 7] := (Sl.lit ([3, 7] : List Int) rfl encI_len (show _ = some (Obj.cells (([3, 7] : List Int).flatMap encI).toArray 3 (0, 0)) from hall4 _ _ (by repeat (first | exact List.mem_cons_self .. | apply List.mem_cons_of_mem))))
  refine XO_callV0 (cap := []) (vs := [_, _, _]) rfl rfl fun_11 (s_parts1 hP1) rfl rfl ?_
  refine XO_v0 (ev_move rfl) rfl rfl rfl ?_
  refine XO_v0 (ev_extract rfl rfl) rfl rfl rfl ?_
  refine XO_v0 (ev_extract rfl rfl) rfl rfl rfl ?_
  refine XO_v0 (ev_extract rfl rfl) rfl rfl rfl ?_
  refine XO_v0 (ev_assign rfl) rfl rfl rfl ?_
  refine XO_v0 (ev_assign rfl) rfl rfl rfl ?_
  refine XO_v0 (ev_assign rfl) rfl rfl rfl ?_
  refine XO_nil ?_
  refine at_then ?_
  refine X_seq ?_
  refine X_region ?_
  refine XO_buildSlice (ps := [(0, _), (1, _)]) (m := [encI 3, encI 7]) elt_22 rfl (.cons rfl (.cons rfl (.nil))) rfl (by simp [encI_len, encH_len]) (by decide) (by decide) rfl rfl (fun b_46 => ?_)
  refine XO_freezeAll (fun I5 hI5 hall5 => ?_)
  have hDb := hDb.mono hI5
  have hT3 := hT3.mono hI5
  have hAl3 := hAl3.mono hI5
  have hIc := hIc.trans hI5
  have hP2 : Sl I5 1 encI (some ⟨b_46, 0, none⟩) 2 2 [3, 7] := (Sl.lit ([3, 7] : List Int) rfl encI_len (show _ = some (Obj.cells (([3, 7] : List Int).flatMap encI).toArray 3 (0, 0)) from hall5 _ _ (by repeat (first | exact List.mem_cons_self .. | apply List.mem_cons_of_mem))))
  refine XO_callV0 (cap := []) (vs := [_, _, _]) rfl rfl fun_11 (s_parts2 hP2) rfl rfl ?_
  refine XO_v0 (ev_move rfl) rfl rfl rfl ?_
  refine XO_v0 (ev_extract rfl rfl) rfl rfl rfl ?_
  refine XO_v0 (ev_extract rfl rfl) rfl rfl rfl ?_
  refine XO_v0 (ev_extract rfl rfl) rfl rfl rfl ?_
  refine XO_v0 (ev_assign rfl) rfl rfl rfl ?_
  refine XO_v0 (ev_assign rfl) rfl rfl rfl ?_
  refine XO_v0 (ev_assign rfl) rfl rfl rfl ?_
  refine XO_nil ?_
  refine at_then ?_
  refine X_seq ?_
  refine X_region ?_
  refine XO_buildSlice (ps := [(0, _)]) (m := [encI 5]) elt_22 rfl (.cons rfl (.nil)) rfl (by simp [encI_len, encH_len]) (by decide) (by decide) rfl rfl (fun b_52 => ?_)
  refine XO_buildSlice (ps := [(0, _)]) (m := [encI 5]) elt_22 rfl (.cons rfl (.nil)) rfl (by simp [encI_len, encH_len]) (by decide) (by decide) rfl rfl (fun b_53 => ?_)
  refine XO_buildSlice (ps := [(0, _)]) (m := [encI 9]) elt_22 rfl (.cons rfl (.nil)) rfl (by simp [encI_len, encH_len]) (by decide) (by decide) rfl rfl (fun b_54 => ?_)
  refine XO_buildSlice (ps := [(0, _), (1, _), (2, _)]) (m := [encH ⟨some ⟨b_52, 0, none⟩, 1, 1⟩, encH ⟨some ⟨b_53, 0, none⟩, 1, 1⟩, encH ⟨some ⟨b_54, 0, none⟩, 1, 1⟩]) elt_28 rfl (.cons rfl (.cons rfl (.cons rfl (.nil)))) rfl (by simp [encI_len, encH_len]) (by decide) (by decide) rfl rfl (fun b_55 => ?_)
  refine XO_buildSlice (ps := [(0, _), (1, _)]) (m := [encI 6, encI 7]) elt_22 rfl (.cons rfl (.cons rfl (.nil))) rfl (by simp [encI_len, encH_len]) (by decide) (by decide) rfl rfl (fun b_56 => ?_)
  refine XO_freezeAll (fun I6 hI6 hall6 => ?_)
  have hDb := hDb.mono hI6
  have hT3 := hT3.mono hI6
  have hAl3 := hAl3.mono hI6
  have hIc := hIc.trans hI6
  have hV1 : SlN I6 (some ⟨b_55, 0, none⟩) 3 3 [[5], [5], [9]] := lit_rows (vss := [[5], [5], [9]]) ([⟨some ⟨b_52, 0, none⟩, 1, 1⟩, ⟨some ⟨b_53, 0, none⟩, 1, 1⟩, ⟨some ⟨b_54, 0, none⟩, 1, 1⟩] : List Hd) rfl (show _ = some (Obj.cells (([⟨some ⟨b_52, 0, none⟩, 1, 1⟩, ⟨some ⟨b_53, 0, none⟩, 1, 1⟩, ⟨some ⟨b_54, 0, none⟩, 1, 1⟩] : List Hd).flatMap encH).toArray 22 (0, 0)) from hall6 _ _ (by repeat (first | exact List.mem_cons_self .. | apply List.mem_cons_of_mem))) (((RelH.nil.snoc (hd := ⟨some ⟨b_52, 0, none⟩, 1, 1⟩) (Sl.lit ([5] : List Int) rfl encI_len (show _ = some (Obj.cells (([5] : List Int).flatMap encI).toArray 3 (0, 0)) from hall6 _ _ (by repeat (first | exact List.mem_cons_self .. | apply List.mem_cons_of_mem))))).snoc (hd := ⟨some ⟨b_53, 0, none⟩, 1, 1⟩) (Sl.lit ([5] : List Int) rfl encI_len (show _ = some (Obj.cells (([5] : List Int).flatMap encI).toArray 3 (0, 0)) from hall6 _ _ (by repeat (first | exact List.mem_cons_self .. | apply List.mem_cons_of_mem))))).snoc (hd := ⟨some ⟨b_54, 0, none⟩, 1, 1⟩) (Sl.lit ([9] : List Int) rfl encI_len (show _ = some (Obj.cells (([9] : List Int).flatMap encI).toArray 3 (0, 0)) from hall6 _ _ (by repeat (first | exact List.mem_cons_self .. | apply List.mem_cons_of_mem)))))
  have hC1 : Sl I6 1 encI (some ⟨b_56, 0, none⟩) 2 2 [6, 7] := (Sl.lit ([6, 7] : List Int) rfl encI_len (show _ = some (Obj.cells (([6, 7] : List Int).flatMap encI).toArray 3 (0, 0)) from hall6 _ _ (by repeat (first | exact List.mem_cons_self .. | apply List.mem_cons_of_mem))))
  refine XO_callV0 (cap := []) (vs := [_, _]) rfl rfl fun_19 (s_cost1 hV1 hC1 hDb) rfl rfl ?_
  refine XO_v0 (ev_move rfl) rfl rfl rfl ?_
  refine XO_v0 (ev_extract rfl rfl) rfl rfl rfl ?_
  refine XO_v0 (ev_extract rfl rfl) rfl rfl rfl ?_
  refine XO_v0 (ev_assign rfl) rfl rfl rfl ?_
  refine XO_v0 (ev_assign rfl) rfl rfl rfl ?_
  refine XO_nil ?_
  refine at_then ?_
  refine X_seq ?_
  refine X_region ?_
  refine XO_buildSlice (ps := [(0, _), (1, _)]) (m := [encI 5, encI 8]) elt_22 rfl (.cons rfl (.cons rfl (.nil))) rfl (by simp [encI_len, encH_len]) (by decide) (by decide) rfl rfl (fun b_61 => ?_)
  refine XO_buildSlice (ps := [(0, _), (1, _)]) (m := [encI 5, encI 4]) elt_22 rfl (.cons rfl (.cons rfl (.nil))) rfl (by simp [encI_len, encH_len]) (by decide) (by decide) rfl rfl (fun b_62 => ?_)
  refine XO_buildSlice (ps := [(0, _), (1, _)]) (m := [encI 9, encI 4]) elt_22 rfl (.cons rfl (.cons rfl (.nil))) rfl (by simp [encI_len, encH_len]) (by decide) (by decide) rfl rfl (fun b_63 => ?_)
  refine XO_buildSlice (ps := [(0, _), (1, _), (2, _)]) (m := [encH ⟨some ⟨b_61, 0, none⟩, 2, 2⟩, encH ⟨some ⟨b_62, 0, none⟩, 2, 2⟩, encH ⟨some ⟨b_63, 0, none⟩, 2, 2⟩]) elt_28 rfl (.cons rfl (.cons rfl (.cons rfl (.nil)))) rfl (by simp [encI_len, encH_len]) (by decide) (by decide) rfl rfl (fun b_64 => ?_)
  refine XO_freezeAll (fun I7 hI7 hall7 => ?_)
  have hDb := hDb.mono hI7
  have hT3 := hT3.mono hI7
  have hAl3 := hAl3.mono hI7
  have hIc := hIc.trans hI7
  have hB1 : SlN I7 (some ⟨b_64, 0, none⟩) 3 3 [[5, 8], [5, 4], [9, 4]] := lit_rows (vss := [[5, 8], [5, 4], [9, 4]]) ([⟨some ⟨b_61, 0, none⟩, 2, 2⟩, ⟨some ⟨b_62, 0, none⟩, 2, 2⟩, ⟨some ⟨b_63, 0, none⟩, 2, 2⟩] : List Hd) rfl (show _ = some (Obj.cells (([⟨some ⟨b_61, 0, none⟩, 2, 2⟩, ⟨some ⟨b_62, 0, none⟩, 2, 2⟩, ⟨some ⟨b_63, 0, none⟩, 2, 2⟩] : List Hd).flatMap encH).toArray 22 (0, 0)) from hall7 _ _ (by repeat (first | exact List.mem_cons_self .. | apply List.mem_cons_of_mem))) (((RelH.nil.snoc (hd := ⟨some ⟨b_61, 0, none⟩, 2, 2⟩) (Sl.lit ([5, 8] : List Int) rfl encI_len (show _ = some (Obj.cells (([5, 8] : List Int).flatMap encI).toArray 3 (0, 0)) from hall7 _ _ (by repeat (first | exact List.mem_cons_self .. | apply List.mem_cons_of_mem))))).snoc (hd := ⟨some ⟨b_62, 0, none⟩, 2, 2⟩) (Sl.lit ([5, 4] : List Int) rfl encI_len (show _ = some (Obj.cells (([5, 4] : List Int).flatMap encI).toArray 3 (0, 0)) from hall7 _ _ (by repeat (first | exact List.mem_cons_self .. | apply List.mem_cons_of_mem))))).snoc (hd := ⟨some ⟨b_63, 0, none⟩, 2, 2⟩) (Sl.lit ([9, 4] : List Int) rfl encI_len (show _ = some (Obj.cells (([9, 4] : List Int).flatMap encI).toArray 3 (0, 0)) from hall7 _ _ (by repeat (first | exact List.mem_cons_self .. | apply List.mem_cons_of_mem)))))
  refine XO_callM (cap := []) (vs := [_]) rfl rfl fun_21 .nil (s_best1 hB1 hDb) rfl rfl ?_
  rintro vv8 I8 L8 hI8 ⟨rfl, a8, c8, rfl, hBb1⟩
  have hDb := hDb.mono hI8
  have hT3 := hT3.mono hI8
  have hAl3 := hAl3.mono hI8
  have hIc := hIc.trans hI8
  refine XO_v0 (ev_move rfl) rfl rfl rfl ?_
  refine XO_v0 (ev_extract rfl rfl) rfl rfl rfl ?_
  refine XO_v0 (ev_extract rfl rfl) rfl rfl rfl ?_
  refine XO_v0 (ev_extract rfl rfl) rfl rfl rfl ?_
  refine XO_v0 (ev_assign rfl) rfl rfl rfl ?_
  refine XO_v0 (ev_assign rfl) rfl rfl rfl ?_
  refine XO_v0 (ev_assign rfl) rfl rfl rfl ?_
  refine XO_nil ?_
  refine at_then ?_
  refine X_seq ?_
  refine X_region ?_
  refine XO_buildSlice (ps := [(0, _)]) (m := [encI 7]) elt_22 rfl (.cons rfl (.nil)) rfl (by simp [encI_len, encH_len]) (by decide) (by decide) rfl rfl (fun b_70 => ?_)
  refine XO_buildSlice (ps := [(0, _)]) (m := [encH ⟨some ⟨b_70, 0, none⟩, 1, 1⟩]) elt_28 rfl (.cons rfl (.nil)) rfl (by simp [encI_len, encH_len]) (by decide) (by decide) rfl rfl (fun b_71 => ?_)
  refine XO_freezeAll (fun I9 hI9 hall9 => ?_)
  have hDb := hDb.mono hI9
  have hT3 := hT3.mono hI9
  have hAl3 := hAl3.mono hI9
  have hBb1 := hBb1.mono hI9
  have hIc := hIc.trans hI9
  have hB2 : SlN I9 (some ⟨b_71, 0, none⟩) 1 1 [[7]] := lit_rows (vss := [[7]]) ([⟨some ⟨b_70, 0, none⟩, 1, 1⟩] : List Hd) rfl (show _ = some (Obj.cells (([⟨some ⟨b_70, 0, none⟩, 1, 1⟩] : List Hd).flatMap encH).toArray 22 (0, 0)) from hall9 _ _ (by repeat (first | exact List.mem_cons_self .. | apply List.mem_cons_of_mem))) (RelH.nil.snoc (hd := ⟨some ⟨b_70, 0, none⟩, 1, 1⟩) (Sl.lit ([7] : List Int) rfl encI_len (show _ = some (Obj.cells (([7] : List Int).flatMap encI).toArray 3 (0, 0)) from hall9 _ _ (by repeat (first | exact List.mem_cons_self .. | apply List.mem_cons_of_mem)))))
  refine XO_callM (cap := []) (vs := [_]) rfl rfl fun_21 .nil (s_best2 hB2 hDb) rfl rfl ?_
  rintro vv10 I10 L10 hI10 ⟨rfl, a10, c10, rfl, hBb2⟩
  have hDb := hDb.mono hI10
  have hT3 := hT3.mono hI10
  have hAl3 := hAl3.mono hI10
  have hBb1 := hBb1.mono hI10
  have hIc := hIc.trans hI10
  refine XO_v0 (ev_move rfl) rfl rfl rfl ?_
  refine XO_v0 (ev_extract rfl rfl) rfl rfl rfl ?_
  refine XO_v0 (ev_extract rfl rfl) rfl rfl rfl ?_
  refine XO_v0 (ev_extract rfl rfl) rfl rfl rfl ?_
  refine XO_v0 (ev_assign rfl) rfl rfl rfl ?_
  refine XO_v0 (ev_assign rfl) rfl rfl rfl ?_
  refine XO_v0 (ev_assign rfl) rfl rfl rfl ?_
  refine XO_nil ?_
  refine at_then ?_
  refine X_seq ?_
  refine X_region ?_
  refine XO_callM (cap := []) (vs := [_]) rfl rfl fun_21 .nil (s_best3 SlN.none hDb) rfl rfl ?_
  rintro vv11 I11 L11 hI11 ⟨rfl, a11, c11, rfl, _⟩
  have hDb := hDb.mono hI11
  have hT3 := hT3.mono hI11
  have hAl3 := hAl3.mono hI11
  have hBb1 := hBb1.mono hI11
  have hBb2 := hBb2.mono hI11
  have hIc := hIc.trans hI11
  refine XO_v0 (ev_move rfl) rfl rfl rfl ?_
  refine XO_v0 (ev_extract rfl rfl) rfl rfl rfl ?_
  refine XO_v0 (ev_extract rfl rfl) rfl rfl rfl ?_
  refine XO_v0 (ev_extract rfl rfl) rfl rfl rfl ?_
  refine XO_v0 (ev_assign rfl) rfl rfl rfl ?_
  refine XO_v0 (ev_assign rfl) rfl rfl rfl ?_
  refine XO_v0 (ev_assign rfl) rfl rfl rfl ?_
  refine XO_nil ?_
  refine at_then ?_
  refine X_seq ?_
  refine X_region ?_
  refine XO_buildSlice (ps := [(0, _)]) (m := [encI 0]) elt_22 rfl (.cons rfl (.nil)) rfl (by simp [encI_len, encH_len]) (by decide) (by decide) rfl rfl (fun b_82 => ?_)
  refine XO_buildSlice (ps := [(0, _)]) (m := [encI 0]) elt_22 rfl (.cons rfl (.nil)) rfl (by simp [encI_len, encH_len]) (by decide) (by decide) rfl rfl (fun b_83 => ?_)
  refine XO_buildSlice (ps := [(0, _)]) (m := [encI 9]) elt_22 rfl (.cons rfl (.nil)) rfl (by simp [encI_len, encH_len]) (by decide) (by decide) rfl rfl (fun b_84 => ?_)
  refine XO_buildSlice (ps := [(0, _), (1, _), (2, _)]) (m := [encH ⟨some ⟨b_82, 0, none⟩, 1, 1⟩, encH ⟨some ⟨b_83, 0, none⟩, 1, 1⟩, encH ⟨some ⟨b_84, 0, none⟩, 1, 1⟩]) elt_28 rfl (.cons rfl (.cons rfl (.cons rfl (.nil)))) rfl (by simp [encI_len, encH_len]) (by decide) (by decide) rfl rfl (fun b_85 => ?_)
  refine XO_buildSlice (ps := [(0, _), (1, _)]) (m := [encI 3, encI 7]) elt_22 rfl (.cons rfl (.cons rfl (.nil))) rfl (by simp [encI_len, encH_len]) (by decide) (by decide) rfl rfl (fun b_86 => ?_)
  refine XO_freezeAll (fun I12 hI12 hall12 => ?_)
  have hDb := hDb.mono hI12
  have hT3 := hT3.mono hI12
  have hAl3 := hAl3.mono hI12
  have hBb1 := hBb1.mono hI12
  have hBb2 := hBb2.mono hI12
  have hIc := hIc.trans hI12
  have hV2 : SlN I12 (some ⟨b_85, 0, none⟩) 3 3 [[0], [0], [9]] := lit_rows (vss := [[0], [0], [9]]) ([⟨some ⟨b_82, 0, none⟩, 1, 1⟩, ⟨some ⟨b_83, 0, none⟩, 1, 1⟩, ⟨some ⟨b_84, 0, none⟩, 1, 1⟩] : List Hd) rfl (show _ = some (Obj.cells (([⟨some ⟨b_82, 0, none⟩, 1, 1⟩, ⟨some ⟨b_83, 0, none⟩, 1, 1⟩, ⟨some ⟨b_84, 0, none⟩, 1, 1⟩] : List Hd).flatMap encH).toArray 22 (0, 0)) from hall12 _ _ (by repeat (first | exact List.mem_cons_self .. | apply List.mem_cons_of_mem))) (((RelH.nil.snoc (hd := ⟨some ⟨b_82, 0, none⟩, 1, 1⟩) (Sl.lit ([0] : List Int) rfl encI_len (show _ = some (Obj.cells (([0] : List Int).flatMap encI).toArray 3 (0, 0)) from hall12 _ _ (by repeat (first | exact List.mem_cons_self .. | apply List.mem_cons_of_mem))))).snoc (hd := ⟨some ⟨b_83, 0, none⟩, 1, 1⟩) (Sl.lit ([0] : List Int) rfl encI_len (show _ = some (Obj.cells (([0] : List Int).flatMap encI).toArray 3 (0, 0)) from hall12 _ _ (by repeat (first | exact List.mem_cons_self .. | apply List.mem_cons_of_mem))))).snoc (hd := ⟨some ⟨b_84, 0, none⟩, 1, 1⟩) (Sl.lit ([9] : List Int) rfl encI_len (show _ = some (Obj.cells (([9] : List Int).flatMap encI).toArray 3 (0, 0)) from hall12 _ _ (by repeat (first | exact List.mem_cons_self .. | apply List.mem_cons_of_mem)))))
  have hC2 : Sl I12 1 encI (some ⟨b_86, 0, none⟩) 2 2 [3, 7] := (Sl.lit ([3, 7] : List Int) rfl encI_len (show _ = some (Obj.cells (([3, 7] : List Int).flatMap encI).toArray 3 (0, 0)) from hall12 _ _ (by repeat (first | exact List.mem_cons_self .. | apply List.mem_cons_of_mem))))
  refine XO_callV0 (cap := []) (vs := [_, _]) rfl rfl fun_19 (s_cost2 hV2 hC2 hDb) rfl rfl ?_
  refine XO_v0 (ev_move rfl) rfl rfl rfl ?_
  refine XO_v0 (ev_extract rfl rfl) rfl rfl rfl ?_
  refine XO_v0 (ev_extract rfl rfl) rfl rfl rfl ?_
  refine XO_v0 (ev_assign rfl) rfl rfl rfl ?_
  refine XO_v0 (ev_assign rfl) rfl rfl rfl ?_
  refine XO_nil ?_
  refine at_then ?_
  refine X_seq ?_
  refine X_region ?_
  refine XO_buildSlice (ps := [(0, _)]) (m := [encI 8589934592]) elt_22 rfl (.cons rfl (.nil)) rfl (by simp [encI_len, encH_len]) (by decide) (by decide) rfl rfl (fun b_91 => ?_)
  refine XO_buildSlice (ps := [(0, _)]) (m := [encI 5]) elt_22 rfl (.cons rfl (.nil)) rfl (by simp [encI_len, encH_len]) (by decide) (by decide) rfl rfl (fun b_92 => ?_)
  refine XO_buildSlice (ps := [(0, _)]) (m := [encI 5]) elt_22 rfl (.cons rfl (.nil)) rfl (by simp [encI_len, encH_len]) (by decide) (by decide) rfl rfl (fun b_93 => ?_)
  refine XO_buildSlice (ps := [(0, _), (1, _), (2, _)]) (m := [encH ⟨some ⟨b_91, 0, none⟩, 1, 1⟩, encH ⟨some ⟨b_92, 0, none⟩, 1, 1⟩, encH ⟨some ⟨b_93, 0, none⟩, 1, 1⟩]) elt_28 rfl (.cons rfl (.cons rfl (.cons rfl (.nil)))) rfl (by simp [encI_len, encH_len]) (by decide) (by decide) rfl rfl (fun b_94 => ?_)
  refine XO_buildSlice (ps := [(0, _), (1, _)]) (m := [encI 3, encI 7]) elt_22 rfl (.cons rfl (.cons rfl (.nil))) rfl (by simp [encI_len, encH_len]) (by decide) (by decide) rfl rfl (fun b_95 => ?_)
  refine XO_freezeAll (fun I13 hI13 hall13 => ?_)
  have hDb := hDb.mono hI13
  have hT3 := hT3.mono hI13
  have hAl3 := hAl3.mono hI13
  have hBb1 := hBb1.mono hI13
  have hBb2 := hBb2.mono hI13
  have hIc := hIc.trans hI13
  have hV3 : SlN I13 (some ⟨b_94, 0, none⟩) 3 3 [[8589934592], [5], [5]] := lit_rows (vss := [[8589934592], [5], [5]]) ([⟨some ⟨b_91, 0, none⟩, 1, 1⟩, ⟨some ⟨b_92, 0, none⟩, 1, 1⟩, ⟨some ⟨b_93, 0, none⟩, 1, 1⟩] : List Hd) rfl (show _ = some (Obj.cells (([⟨some ⟨b_91, 0, none⟩, 1, 1⟩, ⟨some ⟨b_92, 0, none⟩, 1, 1⟩, ⟨some ⟨b_93, 0, none⟩, 1, 1⟩] : List Hd).flatMap encH).toArray 22 (0, 0)) from hall13 _ _ (by repeat (first | exact List.mem_cons_self .. | apply List.mem_cons_of_mem))) (((RelH.nil.snoc (hd := ⟨some ⟨b_91, 0, none⟩, 1, 1⟩) (Sl.lit ([8589934592] : List Int) rfl encI_len (show _ = some (Obj.cells (([8589934592] : List Int).flatMap encI).toArray 3 (0, 0)) from hall13 _ _ (by repeat (first | exact List.mem_cons_self .. | apply List.mem_cons_of_mem))))).snoc (hd := ⟨some ⟨b_92, 0, none⟩, 1, 1⟩) (Sl.lit ([5] : List Int) rfl encI_len (show _ = some (Obj.cells (([5] : List Int).flatMap encI).toArray 3 (0, 0)) from hall13 _ _ (by repeat (first | exact List.mem_cons_self .. | apply List.mem_cons_of_mem))))).snoc (hd := ⟨some ⟨b_93, 0, none⟩, 1, 1⟩) (Sl.lit ([5] : List Int) rfl encI_len (show _ = some (Obj.cells (([5] : List Int).flatMap encI).toArray 3 (0, 0)) from hall13 _ _ (by repeat (first | exact List.mem_cons_self .. | apply List.mem_cons_of_mem)))))
  have hC3 : Sl I13 1 encI (some ⟨b_95, 0, none⟩) 2 2 [3, 7] := (Sl.lit ([3, 7] : List Int) rfl encI_len (show _ = some (Obj.cells (([3, 7] : List Int).flatMap encI).toArray 3 (0, 0)) from hall13 _ _ (by repeat (first | exact List.mem_cons_self .. | apply List.mem_cons_of_mem))))
  refine XO_callV0 (cap := []) (vs := [_, _]) rfl rfl fun_19 (s_cost3 hV3 hC3 hDb) rfl rfl ?_
  refine XO_v0 (ev_move rfl) rfl rfl rfl ?_
  refine XO_v0 (ev_extract rfl rfl) rfl rfl rfl ?_
  refine XO_v0 (ev_extract rfl rfl) rfl rfl rfl ?_
  refine XO_v0 (ev_assign rfl) rfl rfl rfl ?_
  refine XO_v0 (ev_assign rfl) rfl rfl rfl ?_
  refine XO_nil ?_
  refine at_then ?_
  refine X_seq ?_
  refine X_seq ?_
  refine X_region ?_
  refine XO_v0 (ev_move rfl) rfl rfl rfl ?_
  refine XO_v0 (ev_cmp rfl rfl rfl) rfl rfl rfl ?_
  refine XO_v0 (ev_move rfl) rfl rfl rfl ?_
  refine XO_want (dj := 101) rfl rfl rfl ?_
  refine XO_v0 (ev_move rfl) rfl rfl rfl ?_
  refine XO_want (dj := 101) rfl rfl rfl ?_
  refine XO_v0 (ev_cmp rfl rfl rfl) rfl rfl rfl ?_
  refine XO_v0 (ev_pickb rfl rfl rfl) rfl rfl rfl ?_
  refine XO_v0 (ev_move rfl) rfl rfl rfl ?_
  refine XO_want (dj := 105) rfl rfl rfl ?_
  refine XO_v0 (ev_move rfl) rfl rfl rfl ?_
  refine XO_want (dj := 105) rfl rfl rfl ?_
  refine XO_v0 (ev_cmp rfl rfl rfl) rfl rfl rfl ?_
  refine XO_v0 (ev_pickb rfl rfl rfl) rfl rfl rfl ?_
  refine XO_v0 (ev_move rfl) rfl rfl rfl ?_
  refine XO_want (dj := 109) rfl rfl rfl ?_
  refine XO_v0 (ev_move rfl) rfl rfl rfl ?_
  refine XO_want (dj := 109) rfl rfl rfl ?_
  refine XO_v0 (ev_cmp rfl rfl rfl) rfl rfl rfl ?_
  refine XO_v0 (ev_pickb rfl rfl rfl) rfl rfl rfl ?_
  refine XO_v0 (ev_move rfl) rfl rfl rfl ?_
  refine XO_want (dj := 113) rfl rfl rfl ?_
  refine XO_v0 (ev_move rfl) rfl rfl rfl ?_
  refine XO_want (dj := 113) rfl rfl rfl ?_
  refine XO_v0 (ev_cmp rfl rfl rfl) rfl rfl rfl ?_
  refine XO_v0 (ev_pickb rfl rfl rfl) rfl rfl rfl ?_
  refine XO_v0 (ev_move rfl) rfl rfl rfl ?_
  refine XO_want (dj := 117) rfl rfl rfl ?_
  refine XO_v0 (ev_move rfl) rfl rfl rfl ?_
  refine XO_want (dj := 117) rfl rfl rfl ?_
  refine XO_v0 (ev_cmp rfl rfl rfl) rfl rfl rfl ?_
  refine XO_v0 (ev_pickb rfl rfl rfl) rfl rfl rfl ?_
  refine XO_v0 (ev_move rfl) rfl rfl rfl ?_
  refine XO_want (dj := 121) rfl rfl rfl ?_
  refine XO_v0 (ev_move rfl) rfl rfl rfl ?_
  refine XO_want (dj := 121) rfl rfl rfl ?_
  refine XO_v0 (ev_cmp rfl rfl rfl) rfl rfl rfl ?_
  refine XO_v0 (ev_pickb rfl rfl rfl) rfl rfl rfl ?_
  refine XO_v0 (ev_move rfl) rfl rfl rfl ?_
  refine XO_want (dj := 125) rfl rfl rfl ?_
  refine XO_v0 (ev_move rfl) rfl rfl rfl ?_
  refine XO_want (dj := 125) rfl rfl rfl ?_
  refine XO_v0 (ev_cmp rfl rfl rfl) rfl rfl rfl ?_
  refine XO_v0 (ev_pickb rfl rfl rfl) rfl rfl rfl ?_
  refine XO_v0 (ev_move rfl) rfl rfl rfl ?_
  refine XO_want (dj := 129) rfl rfl rfl ?_
  refine XO_v0 (ev_move rfl) rfl rfl rfl ?_
  refine XO_want (dj := 129) rfl rfl rfl ?_
  refine XO_v0 (ev_cmp rfl rfl rfl) rfl rfl rfl ?_
  refine XO_v0 (ev_pickb rfl rfl rfl) rfl rfl rfl ?_
  refine XO_v0 (ev_move rfl) rfl rfl rfl ?_
  refine XO_want (dj := 133) rfl rfl rfl ?_
  refine XO_v0 (ev_move rfl) rfl rfl rfl ?_
  refine XO_want (dj := 133) rfl rfl rfl ?_
  refine XO_v0 (ev_cmp rfl rfl rfl) rfl rfl rfl ?_
  refine XO_v0 (ev_pickb rfl rfl rfl) rfl rfl rfl ?_
  refine XO_nil ?_
  refine at_then ?_
  refine X_cond rfl (fun hc136 => ?_) (fun hc136 => ?_)
  · skip
    exact absurd hc136 (by decide)
  · skip
    refine X_skip ?_
    refine at_then ?_
    refine X_seq ?_
    refine X_seq ?_
    refine X_region ?_
    refine XO_callV0 (cap := []) (vs := [_, _]) rfl rfl fun_13 (s_chk1 Sl.nil) rfl rfl ?_
    refine XO_v0 (ev_cmp rfl rfl rfl) rfl rfl rfl ?_
    refine XO_v0 (ev_move rfl) rfl rfl rfl ?_
    refine XO_want (dj := 139) rfl rfl rfl ?_
    refine XO_callV0 (cap := []) (vs := [_, _]) rfl rfl fun_13 (s_chk2 Sl.nil) rfl rfl ?_
    refine XO_want (dj := 139) rfl rfl rfl ?_
    refine XO_v0 (ev_cmp rfl rfl rfl) rfl rfl rfl ?_
    refine XO_v0 (ev_pickb rfl rfl rfl) rfl rfl rfl ?_
    refine XO_v0 (ev_move rfl) rfl rfl rfl ?_
    refine XO_want (dj := 143) rfl rfl rfl ?_
    refine XO_callV0 (cap := []) (vs := [_, _]) rfl rfl fun_13 (s_chk3 Sl.nil) rfl rfl ?_
    refine XO_want (dj := 143) rfl rfl rfl ?_
    refine XO_v0 (ev_cmp rfl rfl rfl) rfl rfl rfl ?_
    refine XO_v0 (ev_pickb rfl rfl rfl) rfl rfl rfl ?_
    refine XO_v0 (ev_move rfl) rfl rfl rfl ?_
    refine XO_want (dj := 147) rfl rfl rfl ?_
    refine XO_buildSlice (ps := [(0, _), (1, _)]) (m := [encI 4, encI 7]) elt_22 rfl (.cons rfl (.cons rfl (.nil))) rfl (by simp [encI_len, encH_len]) (by decide) (by decide) rfl rfl (fun b_148 => ?_)
    refine XO_freezeAll (fun I14 hI14 hall14 => ?_)
    have hDb := hDb.mono hI14
    have hT3 := hT3.mono hI14
    have hAl3 := hAl3.mono hI14
    have hBb1 := hBb1.mono hI14
    have hBb2 := hBb2.mono hI14
    have hIc := hIc.trans hI14
    have hC4 : Sl I14 1 encI (some ⟨b_148, 0, none⟩) 2 2 [4, 7] := (Sl.lit ([4, 7] : List Int) rfl encI_len (show _ = some (Obj.cells (([4, 7] : List Int).flatMap encI).toArray 3 (0, 0)) from hall14 _ _ (by repeat (first | exact List.mem_cons_self .. | apply List.mem_cons_of_mem))))
    refine XO_want (dj := 147) rfl rfl rfl ?_
    refine XO_callV0 (cap := []) (vs := [_, _]) rfl rfl fun_13 (s_chk4 hC4) rfl rfl ?_
    refine XO_want (dj := 147) rfl rfl rfl ?_
    refine XO_v0 (ev_cmp rfl rfl rfl) rfl rfl rfl ?_
    refine XO_v0 (ev_pickb rfl rfl rfl) rfl rfl rfl ?_
    refine XO_nil ?_
    refine at_then ?_
    refine X_cond rfl (fun hc151 => ?_) (fun hc151 => ?_)
    · skip
      exact absurd hc151 (by decide)
    · skip
      refine X_skip ?_
      refine at_then ?_
      refine X_seq ?_
      refine X_region ?_
      refine XO_v0 (ev_move rfl) rfl rfl rfl ?_
      refine XO_v0 (ev_move rfl) rfl rfl rfl ?_
      refine XO_callV0 (cap := []) (vs := [_, _]) rfl rfl fun_17 (s_same hAl3 hT3 (by decide) (by decide)) rfl rfl ?_
      refine XO_v0 (ev_move rfl) rfl rfl rfl ?_
      refine XO_want (dj := 155) rfl rfl rfl ?_
      refine XO_v0 (ev_move rfl) rfl rfl rfl ?_
      refine XO_want (dj := 155) rfl rfl rfl ?_
      refine XO_v0 (ev_lenS rfl slt_28) rfl rfl rfl ?_
      refine XO_want (dj := 155) rfl rfl rfl ?_
      refine XO_v0 (ev_cmp rfl rfl rfl) rfl rfl rfl ?_
      refine XO_v0 (ev_pickb rfl rfl rfl) rfl rfl rfl ?_
      refine XO_v0 (ev_move rfl) rfl rfl rfl ?_
      refine XO_want (dj := 160) rfl rfl rfl ?_
      refine XO_v0 (ev_move rfl) rfl rfl rfl ?_
      refine XO_want (dj := 160) rfl rfl rfl ?_
      refine XO_v0 (ev_cmp rfl rfl rfl) rfl rfl rfl ?_
      refine XO_v0 (ev_pickb rfl rfl rfl) rfl rfl rfl ?_
      refine XO_v0 (ev_move rfl) rfl rfl rfl ?_
      refine XO_want (dj := 164) rfl rfl rfl ?_
      refine XO_v0 (ev_move rfl) rfl rfl rfl ?_
      refine XO_want (dj := 164) rfl rfl rfl ?_
      refine XO_v0 (ev_cmp rfl rfl rfl) rfl rfl rfl ?_
      refine XO_v0 (ev_pickb rfl rfl rfl) rfl rfl rfl ?_
      refine XO_v0 (ev_move rfl) rfl rfl rfl ?_
      refine XO_want (dj := 168) rfl rfl rfl ?_
      refine XO_v0 (ev_move rfl) rfl rfl rfl ?_
      refine XO_want (dj := 168) rfl rfl rfl ?_
      refine XO_v0 (ev_cmp rfl rfl rfl) rfl rfl rfl ?_
      refine XO_v0 (ev_pickb rfl rfl rfl) rfl rfl rfl ?_
      refine XO_v0 (ev_move rfl) rfl rfl rfl ?_
      refine XO_want (dj := 172) rfl rfl rfl ?_
      refine XO_v0 (ev_move rfl) rfl rfl rfl ?_
      refine XO_want (dj := 172) rfl rfl rfl ?_
      refine XO_v0 (ev_cmp rfl rfl rfl) rfl rfl rfl ?_
      refine XO_v0 (ev_pickb rfl rfl rfl) rfl rfl rfl ?_
      refine XO_v0 (ev_move rfl) rfl rfl rfl ?_
      refine XO_want (dj := 176) rfl rfl rfl ?_
      refine XO_v0 (ev_move rfl) rfl rfl rfl ?_
      refine XO_want (dj := 176) rfl rfl rfl ?_
      refine XO_v0 (ev_move rfl) rfl rfl rfl ?_
      refine XO_want (dj := 176) rfl rfl rfl ?_
      refine XO_callV0 (cap := []) (vs := [_, _]) rfl rfl fun_17 (s_same hBb1 hT3 (by decide) (by decide)) rfl rfl ?_
      refine XO_v0 (ev_pickb rfl rfl rfl) rfl rfl rfl ?_
      refine XO_v0 (ev_move rfl) rfl rfl rfl ?_
      refine XO_want (dj := 181) rfl rfl rfl ?_
      refine XO_v0 (ev_move rfl) rfl rfl rfl ?_
      refine XO_want (dj := 181) rfl rfl rfl ?_
      refine XO_buildSlice (ps := [(0, _)]) (m := [encH ⟨none, 0, 0⟩]) elt_28 rfl (.cons rfl (.nil)) rfl (by simp [encI_len, encH_len]) (by decide) (by decide) rfl rfl (fun b_183 => ?_)
      refine XO_freezeAll (fun I15 hI15 hall15 => ?_)
      have hDb := hDb.mono hI15
      have hT3 := hT3.mono hI15
      have hAl3 := hAl3.mono hI15
      have hBb1 := hBb1.mono hI15
      have hBb2 := hBb2.mono hI15
      have hIc := hIc.trans hI15
      have hT1 : SlN I15 (some ⟨b_183, 0, none⟩) 1 1 [[]] := lit_rows (vss := [[]]) ([⟨none, 0, 0⟩] : List Hd) rfl (show _ = some (Obj.cells (([⟨none, 0, 0⟩] : List Hd).flatMap encH).toArray 22 (0, 0)) from hall15 _ _ (by repeat (first | exact List.mem_cons_self .. | apply List.mem_cons_of_mem))) (RelH.nil.snoc (hd := ⟨none, 0, 0⟩) Sl.nil)
      refine XO_want (dj := 181) rfl rfl rfl ?_
      refine XO_callV0 (cap := []) (vs := [_, _]) rfl rfl fun_17 (s_same hBb2 hT1 (by decide) (by decide)) rfl rfl ?_
      refine XO_v0 (ev_pickb rfl rfl rfl) rfl rfl rfl ?_
      refine XO_v0 (ev_move rfl) rfl rfl rfl ?_
      refine XO_want (dj := 186) rfl rfl rfl ?_
      refine XO_v0 (ev_move rfl) rfl rfl rfl ?_
      refine XO_want (dj := 186) rfl rfl rfl ?_
      refine XO_v0 (ev_cmp rfl rfl rfl) rfl rfl rfl ?_
      refine XO_v0 (ev_pickb rfl rfl rfl) rfl rfl rfl ?_
      refine XO_v0 (ev_move rfl) rfl rfl rfl ?_
      refine XO_want (dj := 190) rfl rfl rfl ?_
      refine XO_v0 (ev_move rfl) rfl rfl rfl ?_
      refine XO_want (dj := 190) rfl rfl rfl ?_
      refine XO_v0 (ev_cmp rfl rfl rfl) rfl rfl rfl ?_
      refine XO_v0 (ev_pickb rfl rfl rfl) rfl rfl rfl ?_
      refine XO_v0 (ev_move rfl) rfl rfl rfl ?_
      refine XO_want (dj := 194) rfl rfl rfl ?_
      refine XO_v0 (ev_move rfl) rfl rfl rfl ?_
      refine XO_want (dj := 194) rfl rfl rfl ?_
      refine XO_v0 (ev_cmp rfl rfl rfl) rfl rfl rfl ?_
      refine XO_v0 (ev_pickb rfl rfl rfl) rfl rfl rfl ?_
      refine XO_v0 (ev_assign rfl) rfl rfl rfl ?_
      refine XO_nil ?_
      refine at_then ?_
      refine X_ret ?_
      exact at_ret1 rfl rfl (fun w hw => ⟨by rfl, (hw.mono hIc).drop⟩)
end Go.Proofs.YtkpmnnflikkhmaaDoor
end
section
namespace Go.Proofs.YtkpmnnflikkhmaaDoor
open Go Go.Kn Go.Proofs
theorem single_no {n : Nat} {cl : List Int} (hc : chkN n cl = 0) {s : Int} (hs : s ∈ cl) : singF s = false := by
  have hle := (chkN_ok hc).2.2.2 s hs
  obtain ⟨a1, a2, a3⟩ := split_spec (chkN_split hc s hs) (Nat.le_refl 1)
  have a3 : splitP cl s (splitR cl s 1) = true := a3
  unfold splitP at a3
  simp only [Bool.and_eq_true] at a3
  generalize splitR cl s 1 = a at a1 a2 a3
  cases h : singF s with
  | false => rfl
  | true =>
    exfalso
    have k1 := a3.1.1.1
    rw [sub_I (by omega) (by omega)] at k1
    have ht : ((List.range 64).all fun s => (List.range 64).all fun a => a == 0 || !(singF (s : Int)) || !(subN a s) || (a == s)) = true := by kernel_rfl
    have h0 := List.all_eq_true.1 ht s.toNat (List.mem_range.2 (by omega))
    have h0 := List.all_eq_true.1 h0 a.toNat (List.mem_range.2 (by omega))
    rw [show ((s.toNat : Nat) : Int) = s by omega, h, k1, show (a.toNat == 0) = false by simp; omega] at h0
    have : a.toNat = s.toNat := by simpa using h0
    omega
theorem parts_both {m : Int} {cl : List Int} {s : Int} : iA m cl s = partsA m cl s ∧ iB m cl s = partsB m cl s := by
  by_cases h : partsE m cl s = 0
  · obtain ⟨e1, e2⟩ := iA_ok h
    obtain ⟨e3, e4⟩ := partsA_ok h
    have hc : chkN m cl = 0 := by
      unfold partsE at h
      by_cases e : chkN m cl = 0
      · exact e
      · rw [if_pos e] at h; exact absurd h e
    have hin : s ∈ cl := by
      unfold partsE at h
      rw [if_neg (fun e => e hc)] at h
      cases e : cl.any (fun c => c == s) with
      | true => simpa using e
      | false => rw [e] at h; simp at h
    obtain ⟨n, rfl⟩ : ∃ n : Nat, m = n := ⟨m.toNat, by have := chkN_ok hc; omega⟩
    obtain ⟨g1, g2, _⟩ := parts_eq hc hin (single_no hc hin)
    rw [e1, e2, e3, e4, g1, g2]
    exact ⟨rfl, rfl⟩
  · obtain ⟨e1, e2⟩ := iA_bad h
    obtain ⟨e3, e4⟩ := partsA_bad h
    rw [e1, e2, e3, e4]
    exact ⟨rfl, rfl⟩
def smallF (rows : List (List Int)) (l : Int) : Bool := rows.all (fun r => !decide ((r.length : Int) > l)) && decide ((rows.length : Int) ≤ 5)
end Go.Proofs.YtkpmnnflikkhmaaDoor
end
section
namespace Go.Proofs.YtkpmnnflikkhmaaDoor
open Go Go.Kn Go.Proofs
theorem fun_10 : Fun Tryd.prog 10 := .of Tryd.func10 (by kernel_rfl) (by kernel_rfl)
theorem w_small {I : HMap} {bv : Option Addr} {n2 c2 : Nat} {rows : List (List Int)} (hV : SlN I bv n2 c2 rows) (hbg : n2 ≤ 9223372036854775807) (l : Int) : RetV Tryd.prog 23 [.slice bv n2 c2, .int .i64 l] I (.bool (smallF rows l)) := by
  intro g H w hw
  refine enter Tryd.func23 rfl Tryd.ntmps23 rfl hw ?_
  obtain ⟨hs, hV⟩ := hV
  have hH := hV.1
  have hlV := hV.len
  refine X_seq ?_
  refine X_region ?_
  refine XO_v0 (ev_assign rfl) rfl rfl rfl ?_
  refine XO_nil ?_
  refine at_then ?_
  refine X_seq ?_
  refine X_seq ?_
  refine X_region ?_
  refine XO_v0 (ev_move rfl) rfl rfl rfl ?_
  refine XO_v0 (ev_lenS rfl slt_28) rfl rfl rfl ?_
  refine XO_v0 (ev_move rfl) rfl rfl rfl ?_
  refine XO_nil ?_
  refine at_then ?_
  refine X_block ?_
  refine X_loopT [(0, _), (1, _), (7, _), (8, _)] (.cons rfl (.cons rfl (.cons rfl (.cons rfl .nil)))) (fun T L0 mz E I' loc' => ∃ (k : Nat), mz = n2 - k ∧ E = (9, .int .i64 k) :: T ∧ I = I' ∧ L0 = loc' ∧ k ≤ n2 ∧ (rows.take k).all (fun r => !decide ((r.length : Int) > l)) = true) _ _ _ _ ⟨0, rfl, rfl, rfl, rfl, Nat.zero_le _, rfl⟩ (.cons rfl (.cons rfl (.cons rfl (.cons rfl (.cons rfl .nil))))) (HLe.refl _) rfl ?_
  rintro mz E I' loc' ⟨k, rfl, rfl, rfl, rfl, hk, hall⟩
  refine X_seq ?_
  refine X_region ?_
  refine XO_v0 (ev_cmp rfl rfl rfl) rfl rfl rfl ?_
  refine XO_nil ?_
  refine at_then ?_
  refine X_seq ?_
  refine X_cond rfl (fun hc10 => ?_) (fun hc10 => ?_)
  · skip
    have hlt_k : k < n2 := by have h := hc10; simp at h; omega
    obtain ⟨x, v, hx, hv, hQ⟩ := hV.at hlt_k
    refine X_skip ?_
    refine at_then ?_
    refine X_seq ?_
    refine X_block ?_
    refine X_seq ?_
    refine X_region ?_
    refine XO_v0 (ev_indexSl rfl rfl slt_28 (by assumption) (fun hg => by first | omega | (simp [conj] at hg; omega))) rfl rfl rfl ?_
    refine XO_v0 (ev_load rfl sct_22 (fun hg => by first | exact Sl.get0 hH hx rfl | exact Cell.h0 rfl | exact Cell.h1 rfl | exact Cell.h2 rfl | exact Cell.h3 rfl | exact Cell.h4 rfl | exact Cell.h5 rfl | (repeat (first | exact Cell.here rfl | apply Cell.there | apply Cell.app)))) rfl rfl rfl ?_
    refine XO_v0 (ev_assign rfl) rfl rfl rfl ?_
    refine XO_nil ?_
    refine at_then ?_
    refine X_seq ?_
    refine X_region ?_
    refine XO_v0 (ev_move rfl) rfl rfl rfl ?_
    refine XO_v0 (ev_lenS rfl slt_22) rfl rfl rfl ?_
    refine XO_v0 (ev_move rfl) rfl rfl rfl ?_
    refine XO_v0 (ev_cmp rfl rfl rfl) rfl rfl rfl ?_
    refine XO_nil ?_
    refine at_then ?_
    refine X_cond rfl (fun hc16 => ?_) (fun hc16 => ?_)
    · skip
      refine X_seq ?_
      refine X_region ?_
      refine XO_v0 (ev_assign rfl) rfl rfl rfl ?_
      refine XO_nil ?_
      refine at_then ?_
      refine X_ret ?_
      refine at_block_r ?_
      refine at_then_r ?_
      refine at_then_r ?_
      refine at_block_r ?_
      refine at_then_r ?_
      first
      | exact at_ret1 rfl rfl (fun w hw => ⟨by unfold smallF; rw [List.all_eq_false.2 ⟨v, List.mem_of_getElem? hv, by rw [hQ.len, hc16]; decide⟩]; rfl, hw.drop⟩)
      | exact at_ret1 rfl rfl (fun w hw => ⟨by unfold smallF; rw [hall, hlV]; rfl, hw.drop⟩)
    · skip
      refine X_skip ?_
      refine at_block_n ?_
      refine at_then ?_
      refine X_region ?_
      refine XO_v0 (ev_arB rfl rfl rfl (fun _ => by omega)) rfl rfl rfl ?_
      refine XO_v0 (ev_move rfl) rfl rfl rfl ?_
      refine XO_nil ?_
      exact at_met2 _ _ ⟨n2 - (k + 1), by omega, k + 1, rfl, rfl, rfl, rfl, by omega, by rw [List.take_add_one, hv, List.all_append, hall, Option.toList_some, List.all_cons, List.all_nil, hQ.len, hc16]; rfl⟩ (.cons rfl (.cons rfl (.cons rfl (.cons rfl (.cons rfl .nil))))) (by repeat (first | exact .refl | exact subL_left | refine subL_app ?_ | refine .drop ?_ | refine subL_add ?_))
  · skip
    have hge_k : n2 ≤ k := by have h := hc10; simp at h; omega
    rw [take_all hlV hge_k] at hall
    refine X_exit ?_
    refine at_then_e ?_
    refine at_then_e ?_
    refine at_block_hit ?_
    refine at_then ?_
    refine X_seq ?_
    refine X_region ?_
    refine XO_v0 (ev_move rfl) rfl rfl rfl ?_
    refine XO_v0 (ev_lenS rfl slt_28) rfl rfl rfl ?_
    refine XO_v0 (ev_cmp rfl rfl rfl) rfl rfl rfl ?_
    refine XO_v0 (ev_assign rfl) rfl rfl rfl ?_
    refine XO_nil ?_
    refine at_then ?_
    refine X_ret ?_
    first
    | exact at_ret1 rfl rfl (fun w hw => ⟨by unfold smallF; rw [List.all_eq_false.2 ⟨v, List.mem_of_getElem? hv, by rw [hQ.len, hc16]; decide⟩]; rfl, hw.drop⟩)
    | exact at_ret1 rfl rfl (fun w hw => ⟨by unfold smallF; rw [hall, hlV]; rfl, hw.drop⟩)
end Go.Proofs.YtkpmnnflikkhmaaDoor
end
section
namespace Go.Proofs.YtkpmnnflikkhmaaDoor
open Go Go.Kn Go.Proofs
section
variable {n : Nat} {cl : List Int} (hc : chkN n cl = 0)
include hc
theorem right_rise : cl.Pairwise (· < ·) := by
  have h := hc
  unfold chkN at h
  repeat (split at h; · cases h)
  rename_i h3 _ _
  have h3 : (List.range cl.length).all (cladeP (allS n) cl) = true := by simpa using h3
  refine pair_of_next (fun a b c h1 h2 => by omega) fun k hk => ?_
  have h4 := List.all_eq_true.1 h3 (k + 1) (List.mem_range.2 hk)
  unfold cladeP at h4
  have e1 : cl.getD (k + 1) 0 = cl[k + 1] := getD_of (List.getElem?_eq_getElem hk)
  have e2 : cl.getD (((k + 1 : Nat) : Int) - 1).toNat 0 = cl[k] := by
    rw [show (((k + 1 : Nat) : Int) - 1).toNat = k by omega]
    exact getD_of (List.getElem?_eq_getElem (by omega))
  rw [e1, e2] at h4
  simp at h4
  have := h4.2
  omega
end
end Go.Proofs.YtkpmnnflikkhmaaDoor
end
section
namespace Go.Proofs.YtkpmnnflikkhmaaDoor
open Go Go.Kn Go.Proofs
theorem fun_23 : Fun Tryd.prog 23 := .of Tryd.func23 (by kernel_rfl) (by kernel_rfl)
end Go.Proofs.YtkpmnnflikkhmaaDoor
end
section
namespace Go.Proofs.YtkpmnnflikkhmaaDoor
open Go Go.Kn Go.Proofs
inductive Tr where
  | leaf (w : Nat)
  | node (a b : Tr)
def Tr.mask : Tr → Nat
  | .leaf w => 2 ^ w
  | .node a b => a.mask + b.mask
def Tr.ok (n : Nat) : Tr → Prop
  | .leaf w => w < n
  | .node a b => a.ok n ∧ b.ok n ∧ a.mask &&& b.mask = 0
def Tr.has (w : Nat) : Tr → Prop
  | .leaf v => v = w
  | .node a b => a.has w ∨ b.has w
def Tr.sets : Tr → List Nat
  | .leaf _ => []
  | .node a b => (a.mask + b.mask) :: (a.sets ++ b.sets)
/-! ### The least below -/
def bl (S : List Int) (f : Int → Int) (x : Int) : Int := (S.map fun y => stepF x y + f y).foldl minI 1048576
def mn (S : List Int) (f : Int → Int) : Int := leastF (S.map f)
theorem bl_le {S : List Int} {f : Int → Int} {x y : Int} (h : y ∈ S) : bl S f x ≤ stepF x y + f y := (min_fold _ _).1 _ (List.mem_map.2 ⟨y, h, rfl⟩)
theorem bl_ge {S : List Int} {f : Int → Int} {x c : Int} (h : ∀ y ∈ S, c ≤ stepF x y + f y) (h1 : c ≤ 1048576) : c ≤ bl S f x := by
  rcases (min_fold (S.map fun y => stepF x y + f y) 1048576).2.2 with e | e
  · unfold bl; rw [e]; exact h1
  · obtain ⟨y, hy, e2⟩ := List.mem_map.1 e
    have := h y hy
    unfold bl; rw [← e2]; exact this
theorem below_bl {st : List Int} {f : Int → Int} {x : Int} : belowF st (st.map f) x = bl st f x := by
  unfold belowF bl
  rw [best_fold]
  congr 1
  refine List.ext_getElem (by simp) fun i h1 h2 => ?_
  simp at h1
  rw [List.getElem_map, List.getElem_map, List.getElem_range]
  rw [getD_of (List.getElem?_eq_getElem h1), getD_of (x := f st[i]) (by rw [List.getElem?_map, List.getElem?_eq_getElem h1]; rfl)]
theorem mn_le {S : List Int} {f : Int → Int} {y : Int} (h : y ∈ S) : mn S f ≤ f y :=
  (least_in (List.ne_nil_of_mem (List.mem_map.2 ⟨y, h, rfl⟩))).2 _ (List.mem_map.2 ⟨y, h, rfl⟩)
theorem mn_at {S : List Int} {f : Int → Int} (h : S ≠ []) : ∃ y ∈ S, mn S f = f y := by
  obtain ⟨y, hy, e⟩ := List.mem_map.1 (least_in (xs := S.map f) (by simpa using h)).1
  exact ⟨y, hy, e.symm⟩
def cT (S : List Int) (u : Nat → Int) : Tr → Int → Int
  | .leaf w, x => leafG (u w) x
  | .node a b, x => bl S (cT S u a) x + bl S (cT S u b) x
theorem leafG_in (u x : Int) : leafG u x = 0 ∨ leafG u x = 1048576 := by unfold leafG; split <;> simp
theorem bl_nn {S : List Int} {f : Int → Int} {x : Int} (h : ∀ y ∈ S, 0 ≤ f y) : 0 ≤ bl S f x := bl_ge (fun y hy => by have := h y hy; have := (step_in x y).1; omega) (by decide)
theorem cT_nn {S : List Int} {u : Nat → Int} : ∀ (T : Tr) (x : Int), 0 ≤ cT S u T x
  | .leaf w, x => by unfold cT; rcases leafG_in (u w) x with h | h <;> omega
  | .node a b, x => by
    unfold cT
    have h1 := bl_nn (x := x) fun y (_ : y ∈ S) => cT_nn (S := S) (u := u) a y
    have h2 := bl_nn (x := x) fun y (_ : y ∈ S) => cT_nn (S := S) (u := u) b y
    omega
theorem mask_pos : ∀ T : Tr, 1 ≤ T.mask
  | .leaf w => Nat.one_le_two_pow
  | .node a b => by have := mask_pos a; have := mask_pos b; show 1 ≤ a.mask + b.mask; omega
/-- Each tree costs little at some state. -/
theorem step_self (x : Int) : stepF x x = 0 := by unfold stepF; rw [if_pos rfl]
theorem cT_small {S : List Int} {u : Nat → Int} (h0 : 0 ∈ S) : ∀ (n : Nat) (T : Tr), T.ok n → (∀ w, w < n → u w = 8589934592 ∨ u w ∈ S) → ∃ x ∈ S, cT S u T x ≤ 8 * ((T.mask : Int) - 1)
  | n, .leaf w, hT, hu => by
    rcases hu w hT with h | h
    · exact ⟨0, h0, by unfold cT leafG; rw [if_neg (by simp [h])]; have := mask_pos (.leaf w); omega⟩
    · exact ⟨u w, h, by unfold cT leafG; rw [if_neg (by simp)]; have := mask_pos (.leaf w); omega⟩
  | n, .node a b, ⟨ha, hb, hd⟩, hu => by
    obtain ⟨x, hx, h1⟩ := cT_small h0 n a ha hu
    obtain ⟨y, hy, h2⟩ := cT_small h0 n b hb hu
    refine ⟨x, hx, ?_⟩
    unfold cT
    have e1 := bl_le (f := cT S u a) (x := x) hx
    rw [step_self] at e1
    have e2 := bl_le (f := cT S u b) (x := x) hy
    have e3 := (step_in x y).2
    have hm : ((Tr.node a b).mask : Int) = a.mask + b.mask := by show ((a.mask + b.mask : Nat) : Int) = _; omega
    have := mask_pos b
    have := mask_pos a
    omega
end Go.Proofs.YtkpmnnflikkhmaaDoor
end
section
namespace Go.Proofs.YtkpmnnflikkhmaaDoor
open Go Go.Kn Go.Proofs
def treeT (cl : List Int) : Nat → Int → Tr
  | 0, _ => .leaf 0
  | f + 1, s => if singF s = true then .leaf (witF s) else .node (treeT cl f (splitF cl s)) (treeT cl f (s - splitF cl s))
theorem treeT_1 {cl : List Int} {f : Nat} {s : Int} (h : singF s = true) : treeT cl (f + 1) s = .leaf (witF s) := by simp only [treeT]; rw [if_pos h]
theorem treeT_2 {cl : List Int} {f : Nat} {s : Int} (h : singF s = false) : treeT cl (f + 1) s = .node (treeT cl f (splitF cl s)) (treeT cl f (s - splitF cl s)) := by simp only [treeT]; rw [if_neg (by rw [h]; decide)]
theorem wit_pow_tab : ((List.range 64).all fun s => !singF (s : Int) || (2 ^ witF (s : Int) == s)) = true := by kernel_rfl
theorem wit_pow {s : Int} (hs : 1 ≤ s ∧ s ≤ 63) (h : singF s = true) : 2 ^ witF s = s.toNat := by
  have h0 := List.all_eq_true.1 wit_pow_tab s.toNat (List.mem_range.2 (by omega))
  rw [show ((s.toNat : Nat) : Int) = s by omega, h] at h0
  simpa using h0
theorem pow_sing_tab : ((List.range 6).all fun w => singF ((2 ^ w : Nat) : Int) && (witF ((2 ^ w : Nat) : Int) == w) && decide (2 ^ w < 64)) = true := by kernel_rfl
theorem pow_sing {w : Nat} (h : w < 6) : singF ((2 ^ w : Nat) : Int) = true ∧ witF ((2 ^ w : Nat) : Int) = w ∧ 2 ^ w < 64 := by
  have h0 := List.all_eq_true.1 pow_sing_tab w (List.mem_range.2 h)
  simp only [Bool.and_eq_true, beq_iff_eq, decide_eq_true_eq] at h0
  exact ⟨h0.1.1, h0.1.2, h0.2⟩
section
variable {n : Nat} {cl : List Int} (hc : chkN n cl = 0)
include hc
theorem treeT_ok : ∀ (f : Nat) (s : Int), s.toNat ≤ f → OkS n cl s → (treeT cl f s).ok n ∧ (treeT cl f s).mask = s.toNat ∧ ∀ c ∈ (treeT cl f s).sets, (c : Int) ∈ cl
  | 0, s, hf, h => by have := h.1; omega
  | f + 1, s, hf, h => by
    have hle := ok_le hc h
    have h6 := (chkN_ok hc).2.1
    cases h1 : singF s with
    | true =>
      rw [treeT_1 h1]
      exact ⟨wit_n (n := n) (by omega) hle h1 h.2.1, wit_pow hle h1, fun c hcm => by cases hcm⟩
    | false =>
      obtain ⟨hin, o1, o2, o3, o4, o5, _⟩ := first_part hc h h1
      obtain ⟨q1, _, _⟩ := pair_ok (by omega) (by omega) o5
      obtain ⟨i1, i2, i3⟩ := treeT_ok f _ (by omega) o1
      obtain ⟨j1, j2, j3⟩ := treeT_ok f _ (by omega) o2
      rw [treeT_2 h1]
      refine ⟨⟨i1, j1, ?_⟩, ?_, fun c hcm => ?_⟩
      · rw [i2, j2, show (s - splitF cl s).toNat = s.toNat - (splitF cl s).toNat by omega, Nat.and_comm]; exact q1
      · show _ + _ = _
        rw [i2, j2]; omega
      · rcases List.mem_cons.1 hcm with rfl | hcm
        · rw [i2, j2, show (((splitF cl s).toNat + (s - splitF cl s).toNat : Nat) : Int) = s by omega]; exact hin
        · rcases List.mem_append.1 hcm with hcm | hcm
          · exact i3 c hcm
          · exact j3 c hcm
end
def uF (rows : List (List Int)) (l : Nat) (w : Nat) : Int := (rows.getD w []).getD l 0
theorem costs_tree {rows : List (List Int)} {cl : List Int} {l n : Nat} (hc : chkN n cl = 0) : ∀ (f : Nat) (s : Int), s.toNat ≤ f → OkS n cl s → costsF rows cl l f s = (statesF rows l).map (cT (statesF rows l) (uF rows l) (treeT cl f s))
  | 0, s, hf, h => by have := h.1; omega
  | f + 1, s, hf, h => by
    have hle := ok_le hc h
    cases h1 : singF s with
    | true =>
      have hz : (andI s (IntKind.i64.wrap (s - 1)) == 0) = true := by unfold singF at h1; rw [Bool.and_eq_true] at h1; exact h1.2
      rw [costs_leaf hz, treeT_1 h1]; rfl
    | false =>
      have hz : (andI s (IntKind.i64.wrap (s - 1)) == 0) = false := by unfold singF at h1; rw [decide_eq_true (show s > 0 by omega), Bool.true_and] at h1; exact h1
      obtain ⟨hin, o1, o2, o3, o4, o5, _⟩ := first_part hc h h1
      rw [costs_two hz, treeT_2 h1, costs_tree hc f _ (by omega) o1, costs_tree hc f _ (by omega) o2]
      refine List.map_congr_left fun x _ => ?_
      unfold twoG
      rw [below_bl, below_bl]; rfl
theorem mask_in {n : Nat} (h6 : n ≤ 6) : ∀ {T : Tr}, T.ok n → T.mask < 64 ∧ ∃ q, subN T.mask q = true ∧ q = 2 ^ n - 1
  | .leaf w, h => by
    have hw : w < n := h
    refine ⟨(pow_sing (by omega)).2.2, _, ?_, rfl⟩
    have ht : ((List.range 7).all fun n => (List.range n).all fun w => subN (2 ^ w) (2 ^ n - 1)) = true := by kernel_rfl
    have h0 := List.all_eq_true.1 ht n (List.mem_range.2 (by omega))
    exact List.all_eq_true.1 h0 w (List.mem_range.2 hw)
  | .node a b, ⟨ha, hb, hd⟩ => by
    obtain ⟨a1, q, a2, rfl⟩ := mask_in h6 ha
    obtain ⟨b1, q', b2, rfl⟩ := mask_in h6 hb
    have ht : ((List.range 64).all fun a => (List.range 64).all fun b => !(a &&& b == 0) || decide (a + b < 64) && (List.range 7).all fun n => !subN a (2 ^ n - 1) || !subN b (2 ^ n - 1) || subN (a + b) (2 ^ n - 1)) = true := by kernel_rfl
    have h0 := List.all_eq_true.1 ht a.mask (List.mem_range.2 a1)
    have h0 := List.all_eq_true.1 h0 b.mask (List.mem_range.2 b1)
    rw [show (a.mask &&& b.mask == 0) = true by rw [hd]; rfl, Bool.not_true, Bool.false_or, Bool.and_eq_true, decide_eq_true_eq] at h0
    have h1 := List.all_eq_true.1 h0.2 n (List.mem_range.2 (by omega))
    rw [a2, b2] at h1
    exact ⟨h0.1, _, by show subN (a.mask + b.mask) _ = true; simpa using h1, rfl⟩
theorem two_tab : ((List.range 64).all fun a => (List.range 64).all fun b => a == 0 || b == 0 || !(a &&& b == 0) || ((lowS (a : Int) ((a + b : Nat) : Int) || lowS (b : Int) ((a + b : Nat) : Int)) && (andI (a : Int) ((a + b : Nat) : Int) == (a : Int)) && (andI (b : Int) ((a + b : Nat) : Int) == (b : Int)) && subN a (a + b) && subN b (a + b) && (popF (a : Int) + popF (b : Int) == popF ((a + b : Nat) : Int)))) = true := by kernel_rfl
theorem two_ok {a b : Nat} (ha : 1 ≤ a ∧ a < 64) (hb : 1 ≤ b ∧ b < 64) (h : a &&& b = 0) : (lowS (a : Int) ((a + b : Nat) : Int) = true ∨ lowS (b : Int) ((a + b : Nat) : Int) = true) ∧ andI (a : Int) ((a + b : Nat) : Int) = (a : Int) ∧ andI (b : Int) ((a + b : Nat) : Int) = (b : Int) ∧ subN a (a + b) = true ∧ subN b (a + b) = true ∧ popF (a : Int) + popF (b : Int) = popF ((a + b : Nat) : Int) := by
  have h0 := List.all_eq_true.1 two_tab a (List.mem_range.2 ha.2)
  have h0 := List.all_eq_true.1 h0 b (List.mem_range.2 hb.2)
  rw [h, show (a == 0) = false by simp; omega, show (b == 0) = false by simp; omega] at h0
  simpa [and_assoc] using h0
theorem sets_in {n : Nat} (h6 : n ≤ 6) : ∀ {T : Tr}, T.ok n → T.sets.length + 1 = popF (T.mask : Int) ∧ T.sets.Nodup ∧ ∀ c ∈ T.sets, 1 ≤ c ∧ subN c T.mask = true
  | .leaf w, h => by
    have hw : w < n := h
    refine ⟨?_, .nil, fun c hc => by cases hc⟩
    have ht : ((List.range 6).all fun w => popF ((2 ^ w : Nat) : Int) == 1) = true := by kernel_rfl
    have h0 := List.all_eq_true.1 ht w (List.mem_range.2 (by omega))
    exact (eq_of_beq h0).symm
  | .node a b, ⟨ha, hb, hd⟩ => by
    obtain ⟨a1, a2, a3⟩ := sets_in h6 ha
    obtain ⟨b1, b2, b3⟩ := sets_in h6 hb
    have pa := mask_pos a
    have pb := mask_pos b
    obtain ⟨t1, t2, t3, t4, t5, t6⟩ := two_ok ⟨pa, (mask_in h6 ha).1⟩ ⟨pb, (mask_in h6 hb).1⟩ hd
    have lea : ∀ c ∈ a.sets, c ≤ a.mask := fun c hc => sub_le (a3 c hc).2
    have leb : ∀ c ∈ b.sets, c ≤ b.mask := fun c hc => sub_le (b3 c hc).2
    refine ⟨?_, ?_, fun c hc => ?_⟩
    · show (a.sets ++ b.sets).length + 1 + 1 = popF ((a.mask + b.mask : Nat) : Int)
      rw [List.length_append, ← t6]; omega
    · show ((a.mask + b.mask) :: (a.sets ++ b.sets)).Nodup
      rw [List.nodup_cons, List.nodup_append]
      refine ⟨fun hm => ?_, a2, b2, fun x hx y hy e => ?_⟩
      · rcases List.mem_append.1 hm with hm | hm
        · have := lea _ hm; omega
        · have := leb _ hm; omega
      · subst e
        have := sub_both (a3 x hx).2 (b3 x hy).2 (by rw [Nat.and_comm]; exact hd)
        have := (a3 x hx).1
        omega
    · rcases List.mem_cons.1 hc with rfl | hc
      · exact ⟨by omega, sub_refl _⟩
      · rcases List.mem_append.1 hc with hc | hc
        · exact ⟨(a3 c hc).1, sub_trans (a3 c hc).2 t4⟩
        · exact ⟨(b3 c hc).1, sub_trans (b3 c hc).2 t5⟩
theorem all_mask_tab : ((List.range 7).all fun n => n == 0 || ((allS (n : Int) == ((2 ^ n - 1 : Nat) : Int)) && (popF (allS (n : Int)) == n))) = true := by kernel_rfl
theorem all_mask {n : Nat} (h1 : 1 ≤ n) (h6 : n ≤ 6) : allS (n : Int) = ((2 ^ n - 1 : Nat) : Int) := by
  have h := List.all_eq_true.1 all_mask_tab n (List.mem_range.2 (by omega))
  rw [show (n == 0) = false by simp; omega, Bool.false_or, Bool.and_eq_true] at h
  exact eq_of_beq h.1
end Go.Proofs.YtkpmnnflikkhmaaDoor
end
section
namespace Go.Proofs.YtkpmnnflikkhmaaDoor
open Go Go.Kn Go.Proofs
theorem bl_at {S : List Int} {f : Int → Int} {x : Int} : bl S f x = 1048576 ∨ ∃ y ∈ S, bl S f x = stepF x y + f y := by
  rcases (min_fold (S.map fun y => stepF x y + f y) 1048576).2.2 with e | e
  · exact .inl e
  · obtain ⟨y, hy, e2⟩ := List.mem_map.1 e
    exact .inr ⟨y, hy, e2.symm⟩
section
variable {S S' : List Int} {u u' : Nat → Int} {p : Int} {k : Nat} (h0 : 0 ∈ S') (hp : p ∈ S') (hz : p ≠ 0 ∨ ∀ y ∈ S', y = 0)
include h0 hp hz
end
theorem sub_has_tab : ((List.range 6).all fun w => (List.range 6).all (fun v => !subN (2 ^ w) (2 ^ v) || v == w) && (List.range 64).all fun a => (List.range 64).all fun b => !(a &&& b == 0) || !subN (2 ^ w) (a + b) || subN (2 ^ w) a || subN (2 ^ w) b) = true := by kernel_rfl
theorem sub_has {n w : Nat} (h6 : n ≤ 6) (hw : w < n) : ∀ {T : Tr}, T.ok n → subN (2 ^ w) T.mask = true → T.has w
  | .leaf v, hT, h => by
    have hv : v < n := hT
    have h0 := List.all_eq_true.1 sub_has_tab w (List.mem_range.2 (by omega))
    rw [Bool.and_eq_true] at h0
    have h0 := List.all_eq_true.1 h0.1 v (List.mem_range.2 (by omega))
    have h : subN (2 ^ w) (2 ^ v) = true := h
    rw [h] at h0
    show v = w
    simpa using h0
  | .node a b, ⟨ha, hb, hd⟩, h => by
    have h0 := List.all_eq_true.1 sub_has_tab w (List.mem_range.2 (by omega))
    rw [Bool.and_eq_true] at h0
    have h0 := List.all_eq_true.1 h0.2 a.mask (List.mem_range.2 (mask_in h6 ha).1)
    have h0 := List.all_eq_true.1 h0 b.mask (List.mem_range.2 (mask_in h6 hb).1)
    have h : subN (2 ^ w) (a.mask + b.mask) = true := h
    rw [h, hd] at h0
    have h0 : subN (2 ^ w) a.mask = true ∨ subN (2 ^ w) b.mask = true := by simpa using h0
    rcases h0 with h0 | h0
    · exact .inl (sub_has h6 hw ha h0)
    · exact .inr (sub_has h6 hw hb h0)
theorem uF_in {rows : List (List Int)} {l w : Nat} (h : w < rows.length) : uF rows l w = 8589934592 ∨ uF rows l w ∈ statesF rows l := by
  by_cases e : uF rows l w = 8589934592
  · exact .inl e
  · right
    rw [st_mem]
    refine .inr ⟨⟨rows.getD w [], ?_, rfl⟩, e⟩
    unfold List.getD
    rw [List.getElem?_eq_getElem h]
    exact List.getElem_mem h
end Go.Proofs.YtkpmnnflikkhmaaDoor
end
section
namespace Go.Proofs.YtkpmnnflikkhmaaDoor
open Go Go.Kn Go.Proofs
section
variable {rows : List (List Int)} {k : Nat} (h : rowsN rows = 0) (hk : k ≤ (rows.getD 0 []).length)
include h hk
end
/-! ### Other numbers -/
theorem sub_perm {α : Type} [BEq α] [LawfulBEq α] : ∀ {a b : List α}, a.Nodup → (∀ x ∈ a, x ∈ b) → a.length ≤ b.length ∧ (b.length ≤ a.length → a.Perm b)
  | [], b, _, _ => ⟨Nat.zero_le _, fun h => by rw [List.eq_nil_of_length_eq_zero (Nat.le_zero.1 h)]⟩
  | x :: a, b, hn, hs => by
    obtain ⟨h1, h2⟩ := List.nodup_cons.1 hn
    have hx := hs x (List.mem_cons_self ..)
    have hp := List.perm_cons_erase hx
    obtain ⟨i1, i2⟩ := sub_perm (a := a) (b := b.erase x) h2 fun y hy => (List.mem_erase_of_ne (by intro e; subst e; exact h1 hy)).2 (hs y (List.mem_cons_of_mem _ hy))
    have hl := hp.length_eq
    rw [List.length_cons] at hl
    refine ⟨by rw [List.length_cons]; omega, fun h => ?_⟩
    rw [List.length_cons] at h
    exact ((i2 (by omega)).cons x).trans hp.symm
section
variable {n : Nat} {π : Nat → Nat} (h6 : n ≤ 6) (hlt : ∀ w, w < n → π w < n) (hi : ∀ v w, v < n → w < n → π v = π w → v = w)
include h6 hlt hi
end
theorem tree_sets {n : Nat} {cl : List Int} (hc : chkN n cl = 0) {T : Tr} (hT : T.ok n) (hm : (T.mask : Int) = allS n) (hs : ∀ c ∈ T.sets, (c : Int) ∈ cl) : (T.sets.map fun c : Nat => (c : Int)).Perm cl := by
  obtain ⟨n1, n6, h3, _⟩ := chkN_ok hc
  obtain ⟨s1, s2, s3⟩ := sets_in (by omega) hT
  have hpop := (all_sub (n := n) (by omega) (by omega)).2
  rw [hm, hpop] at s1
  refine (sub_perm ?_ fun x hx => ?_).2 ?_
  · rw [List.nodup_iff_pairwise_ne] at s2 ⊢
    rw [List.pairwise_map]
    exact s2.imp fun h e => h (by omega)
  · obtain ⟨c, h1, rfl⟩ := List.mem_map.1 hx
    exact hs c h1
  · rw [List.length_map]; omega
end Go.Proofs.YtkpmnnflikkhmaaDoor
end
section
namespace Go.Proofs.YtkpmnnflikkhmaaDoor
open Go Go.Kn Go.Proofs
def Tr.keys : Tr → List Int
  | .leaf w => [((2 ^ w : Nat) : Int)]
  | .node a b => ((a.mask + b.mask : Nat) : Int) :: (a.keys ++ b.keys)
def costT (g : Int → Int) : Tr → Int
  | .leaf _ => 0
  | .node a b => stepF (g ((a.mask + b.mask : Nat) : Int)) (g (a.mask : Int)) + stepF (g ((a.mask + b.mask : Nat) : Int)) (g (b.mask : Int)) + costT g a + costT g b
def GivT (S : List Int) (u : Nat → Int) (g : Int → Int) : Tr → Prop
  | .leaf w => (u w ≠ 8589934592 → g ((2 ^ w : Nat) : Int) = u w) ∧ g ((2 ^ w : Nat) : Int) ∈ S
  | .node a b => g ((a.mask + b.mask : Nat) : Int) ∈ S ∧ GivT S u g a ∧ GivT S u g b
theorem mask_key : ∀ T : Tr, (T.mask : Int) ∈ T.keys
  | .leaf _ => List.mem_cons_self ..
  | .node _ _ => List.mem_cons_self ..
theorem giv_in {S : List Int} {u : Nat → Int} {g : Int → Int} : ∀ {T : Tr}, GivT S u g T → g (T.mask : Int) ∈ S
  | .leaf _, h => h.2
  | .node _ _, h => h.1
theorem costT_congr {g g' : Int → Int} : ∀ {T : Tr}, (∀ k ∈ T.keys, g k = g' k) → costT g T = costT g' T
  | .leaf _, _ => rfl
  | .node a b, h => by
    have ha : ∀ k ∈ a.keys, g k = g' k := fun k hk => h k (List.mem_cons_of_mem _ (List.mem_append_left _ hk))
    have hb : ∀ k ∈ b.keys, g k = g' k := fun k hk => h k (List.mem_cons_of_mem _ (List.mem_append_right _ hk))
    unfold costT
    rw [h _ (List.mem_cons_self ..), ha _ (mask_key a), hb _ (mask_key b), costT_congr ha, costT_congr hb]
theorem givT_congr {S : List Int} {u : Nat → Int} {g g' : Int → Int} : ∀ {T : Tr}, (∀ k ∈ T.keys, g k = g' k) → GivT S u g T → GivT S u g' T
  | .leaf w, h, hg => by
    have e := h _ (List.mem_cons_self ..)
    exact ⟨fun hu => by rw [← e]; exact hg.1 hu, by rw [← e]; exact hg.2⟩
  | .node a b, h, hg => by
    have ha : ∀ k ∈ a.keys, g k = g' k := fun k hk => h k (List.mem_cons_of_mem _ (List.mem_append_left _ hk))
    have hb : ∀ k ∈ b.keys, g k = g' k := fun k hk => h k (List.mem_cons_of_mem _ (List.mem_append_right _ hk))
    exact ⟨by rw [← h _ (List.mem_cons_self ..)]; exact hg.1, givT_congr ha hg.2.1, givT_congr hb hg.2.2⟩
theorem giv_le {S : List Int} {u : Nat → Int} {g : Int → Int} : ∀ {T : Tr}, GivT S u g T → cT S u T (g (T.mask : Int)) ≤ costT g T
  | .leaf w, h => by
    show leafG (u w) (g ((2 ^ w : Nat) : Int)) ≤ 0
    unfold leafG
    by_cases e : u w = 8589934592
    · rw [e]; simp
    · rw [h.1 e]; simp
  | .node a b, h => by
    have ia := giv_le h.2.1
    have ib := giv_le h.2.2
    have la := bl_le (f := cT S u a) (x := g ((a.mask + b.mask : Nat) : Int)) (giv_in h.2.1)
    have lb := bl_le (f := cT S u b) (x := g ((a.mask + b.mask : Nat) : Int)) (giv_in h.2.2)
    show bl S (cT S u a) (g ((a.mask + b.mask : Nat) : Int)) + bl S (cT S u b) (g ((a.mask + b.mask : Nat) : Int)) ≤ _
    unfold costT
    omega
theorem keys_sub {n : Nat} (h6 : n ≤ 6) : ∀ {T : Tr}, T.ok n → ∀ k ∈ T.keys, 1 ≤ k ∧ subN k.toNat T.mask = true
  | .leaf w, _, k, hk => by
    rw [List.mem_singleton.1 hk]
    have : 1 ≤ 2 ^ w := Nat.one_le_two_pow
    exact ⟨by omega, by rw [Int.toNat_natCast]; exact sub_refl _⟩
  | .node a b, ⟨ha, hb, hd⟩, k, hk => by
    have pa := mask_pos a
    have pb := mask_pos b
    obtain ⟨_, _, _, t4, t5, _⟩ := two_ok ⟨pa, (mask_in h6 ha).1⟩ ⟨pb, (mask_in h6 hb).1⟩ hd
    rcases List.mem_cons.1 hk with rfl | hk
    · exact ⟨by omega, by rw [Int.toNat_natCast]; exact sub_refl _⟩
    · rcases List.mem_append.1 hk with hk | hk
      · obtain ⟨h1, h2⟩ := keys_sub h6 ha k hk
        exact ⟨h1, sub_trans h2 t4⟩
      · obtain ⟨h1, h2⟩ := keys_sub h6 hb k hk
        exact ⟨h1, sub_trans h2 t5⟩
theorem giv_ex {S : List Int} {u : Nat → Int} {n : Nat} (h6 : n ≤ 6) : ∀ (T : Tr), T.ok n → ∀ x ∈ S, cT S u T x < 1048576 → ∃ g, GivT S u g T ∧ g (T.mask : Int) = x ∧ costT g T ≤ cT S u T x
  | .leaf w, _, x, hx, h => by
    refine ⟨fun _ => x, ⟨fun hu => ?_, hx⟩, rfl, ?_⟩
    · have h : leafG (u w) x < 1048576 := h
      unfold leafG at h
      by_cases e : u w = x
      · exact e.symm
      · rw [if_pos (by simp [hu, e])] at h; omega
    · show (0 : Int) ≤ leafG (u w) x
      rcases leafG_in (u w) x with e | e <;> omega
  | .node a b, ⟨ha, hb, hd⟩, x, hx, h => by
    have h : bl S (cT S u a) x + bl S (cT S u b) x < 1048576 := h
    have na := bl_nn (S := S) (x := x) fun y _ => cT_nn (S := S) (u := u) a y
    have nb := bl_nn (S := S) (x := x) fun y _ => cT_nn (S := S) (u := u) b y
    rcases bl_at (S := S) (f := cT S u a) (x := x) with ea | ⟨y, hy, ea⟩
    · omega
    rcases bl_at (S := S) (f := cT S u b) (x := x) with eb | ⟨z, hz, eb⟩
    · omega
    have sy := (step_in x y).1
    have sz := (step_in x z).1
    obtain ⟨ga, a1, a2, a3⟩ := giv_ex (u := u) h6 a ha y hy (by omega)
    obtain ⟨gb, b1, b2, b3⟩ := giv_ex (u := u) h6 b hb z hz (by omega)
    have pa := mask_pos a
    have pb := mask_pos b
    have ka : ∀ k ∈ a.keys, (if k = ((a.mask + b.mask : Nat) : Int) then x else if k ∈ a.keys then ga k else gb k) = ga k := fun k hk => by
      obtain ⟨k1, k2⟩ := keys_sub h6 ha k hk
      have := sub_le k2
      rw [if_neg (by omega), if_pos hk]
    have kb : ∀ k ∈ b.keys, (if k = ((a.mask + b.mask : Nat) : Int) then x else if k ∈ a.keys then ga k else gb k) = gb k := fun k hk => by
      obtain ⟨k1, k2⟩ := keys_sub h6 hb k hk
      have := sub_le k2
      rw [if_neg (by omega), if_neg]
      intro hka
      obtain ⟨_, k3⟩ := keys_sub h6 ha k hka
      have := sub_both k3 k2 (by rw [Nat.and_comm]; exact hd)
      omega
    refine ⟨fun k => if k = ((a.mask + b.mask : Nat) : Int) then x else if k ∈ a.keys then ga k else gb k, ⟨by simp only [if_true]; exact hx, givT_congr (fun k hk => (ka k hk).symm) a1, givT_congr (fun k hk => (kb k hk).symm) b1⟩, ?_, ?_⟩
    · show (if ((a.mask + b.mask : Nat) : Int) = ((a.mask + b.mask : Nat) : Int) then x else _) = x
      rw [if_pos rfl]
    · unfold costT
      rw [costT_congr ka, costT_congr kb, ka _ (mask_key a), kb _ (mask_key b), if_pos rfl, a2, b2]
      show _ ≤ bl S (cT S u a) x + bl S (cT S u b) x
      omega
theorem giv_mn {S : List Int} {u : Nat → Int} {n : Nat} (h6 : n ≤ 6) (h0 : 0 ∈ S) {T : Tr} (hT : T.ok n) (hu : ∀ w, w < n → u w = 8589934592 ∨ u w ∈ S) : (∀ g, GivT S u g T → mn S (cT S u T) ≤ costT g T) ∧ (∃ g, GivT S u g T ∧ costT g T ≤ mn S (cT S u T)) ∧ mn S (cT S u T) < 1048576 := by
  obtain ⟨z, hz1, hz2⟩ := cT_small (u := u) h0 n T hT hu
  have hm6 := (mask_in h6 hT).1
  have hle := mn_le (f := cT S u T) hz1
  refine ⟨fun g hg => Int.le_trans (mn_le (giv_in hg)) (giv_le hg), ?_, by omega⟩
  obtain ⟨x, hx, e⟩ := mn_at (f := cT S u T) (List.ne_nil_of_mem h0)
  rw [e]
  obtain ⟨g, g1, _, g3⟩ := giv_ex (u := u) h6 T hT x hx (by omega)
  exact ⟨g, g1, g3⟩
/-! ### As the search goes -/
def SetQ (O St : List Int) (k : Nat) (G h : Int → Int) : Prop := (∀ y, y ∉ O.drop k → h y = G y) ∧ ∀ y ∈ O.drop k, h y ∈ St
def GiveQ (O St : List Int) (cost : (Int → Int) → Int) (k : Nat) (G : Int → Int) (b b' : Int) (G' : Int → Int) : Prop :=
  (∀ y, y ∉ O.drop k → G' y = G y) ∧ b' ≤ b ∧ (∀ h, SetQ O St k G h → b' ≤ cost h) ∧ (b' = b ∨ ∃ h, SetQ O St k G h ∧ b' = cost h)
def LoopQ (O St : List Int) (cost : (Int → Int) → Int) (k : Nat) (G : Int → Int) (b : Int) (o : Int) (i : Nat) (b' : Int) (G' : Int → Int) : Prop :=
  (∀ y, y ∉ O.drop k → G' y = G y) ∧ b' ≤ b ∧ (∀ h, SetQ O St k G h → h o ∈ St.take i → b' ≤ cost h) ∧ (b' = b ∨ ∃ h, SetQ O St k G h ∧ b' = cost h)
theorem give_end {O St : List Int} {cost : (Int → Int) → Int} {k : Nat} {G : Int → Int} {b : Int} (hk : O.length ≤ k) : GiveQ O St cost k G b (minI b (cost G)) G := by
  have hd : O.drop k = [] := List.drop_eq_nil_of_le hk
  have hG : ∀ h, SetQ O St k G h → h = G := fun h ⟨h1, _⟩ => by funext y; exact h1 y (by rw [hd]; exact fun h => nomatch h)
  have hs : SetQ O St k G G := ⟨fun _ _ => rfl, fun y hy => by rw [hd] at hy; cases hy⟩
  refine ⟨fun _ _ => rfl, ?_, fun h hh => ?_, ?_⟩
  · unfold minI; split <;> omega
  · rw [hG h hh]; unfold minI; split <;> omega
  · by_cases e : b ≤ cost G
    · left; unfold minI; split <;> omega
    · right; exact ⟨G, hs, by unfold minI; split <;> omega⟩
theorem loop_0 {O St : List Int} {cost : (Int → Int) → Int} {k : Nat} {G : Int → Int} {b o : Int} : LoopQ O St cost k G b o 0 b G := ⟨fun _ _ => rfl, Int.le_refl _, fun h _ hm => by simp at hm, .inl rfl⟩
theorem loop_1 {O St : List Int} {cost : (Int → Int) → Int} {k i : Nat} {G G1 G2 G' : Int → Int} {b b1 b2 o s : Int} (hn : O.Nodup) (ho : O[k]? = some o) (hs : St[i]? = some s) (h : LoopQ O St cost k G b o i b1 G1) (hu : ∀ y, G2 y = if y = o then s else G1 y) (hg : GiveQ O St cost (k + 1) G2 b1 b2 G') : LoopQ O St cost k G b o (i + 1) b2 G' := by
  obtain ⟨l1, l2, l3, l4⟩ := h
  obtain ⟨g1, g2, g3, g4⟩ := hg
  have hd := drop_cons ho
  have hnd : o ∉ O.drop (k + 1) := by
    have h1 : (O.drop k).Nodup := hn.sublist (List.drop_sublist ..)
    rw [hd] at h1
    exact (List.nodup_cons.1 h1).1
  have hno : ∀ y, y ∉ O.drop k → y ≠ o ∧ y ∉ O.drop (k + 1) := fun y hy => by
    rw [hd, List.mem_cons, not_or] at hy; exact hy
  have hsm : s ∈ St := List.mem_of_getElem? hs
  refine ⟨fun y hy => ?_, by omega, fun h hh hm => ?_, ?_⟩
  · obtain ⟨y1, y2⟩ := hno y hy
    rw [g1 y y2, hu, if_neg y1]; exact l1 y hy
  · rw [List.take_add_one, hs] at hm
    rcases List.mem_append.1 hm with hm | hm
    · have := l3 h hh hm; omega
    · have e : h o = s := by simpa using hm
      refine g3 h ⟨fun y hy => ?_, fun y hy => hh.2 y (by rw [hd]; exact List.mem_cons_of_mem _ hy)⟩
      rw [hu]
      by_cases ey : y = o
      · rw [if_pos ey, ey, e]
      · rw [if_neg ey]
        have hyk : y ∉ O.drop k := by rw [hd, List.mem_cons, not_or]; exact ⟨ey, hy⟩
        rw [hh.1 y hyk, l1 y hyk]
  · rcases g4 with g4 | ⟨h, hh, g4⟩
    · rcases l4 with l4 | ⟨h, hh, l4⟩
      · exact .inl (by omega)
      · exact .inr ⟨h, hh, by omega⟩
    · refine .inr ⟨h, ⟨fun y hy => ?_, fun y hy => ?_⟩, g4⟩
      · obtain ⟨y1, y2⟩ := hno y hy
        rw [hh.1 y y2, hu, if_neg y1]; exact l1 y hy
      · rw [hd] at hy
        rcases List.mem_cons.1 hy with rfl | hy
        · rw [hh.1 _ hnd, hu, if_pos rfl]; exact hsm
        · exact hh.2 y hy
theorem loop_end {O St : List Int} {cost : (Int → Int) → Int} {k : Nat} {G G' : Int → Int} {b b' o : Int} (ho : O[k]? = some o) (h : LoopQ O St cost k G b o St.length b' G') : GiveQ O St cost k G b b' G' := by
  obtain ⟨l1, l2, l3, l4⟩ := h
  refine ⟨l1, l2, fun h hh => l3 h hh ?_, l4⟩
  rw [List.take_length]
  exact hh.2 o (by rw [drop_cons ho]; exact List.mem_cons_self ..)
end Go.Proofs.YtkpmnnflikkhmaaDoor
end
section
namespace Go.Proofs.YtkpmnnflikkhmaaDoor
open Go Go.Kn Go.Proofs
def sumI : List Int → Int
  | [] => 0
  | x :: l => x + sumI l
theorem sumI_app : ∀ a b : List Int, sumI (a ++ b) = sumI a + sumI b
  | [], b => by show sumI b = 0 + sumI b; omega
  | x :: a, b => by show x + sumI (a ++ b) = x + sumI a + sumI b; rw [sumI_app a b]; omega
theorem sumI_perm {a b : List Int} (h : a.Perm b) : sumI a = sumI b := by
  induction h with
  | nil => rfl
  | cons x _ ih => show x + _ = x + _; rw [ih]
  | swap x y l => show y + (x + sumI l) = x + (y + sumI l); omega
  | trans _ _ i1 i2 => rw [i1, i2]
def termF (cl : List Int) (h : Int → Int) (c : Int) : Int := stepF (h c) (h (splitF cl c)) + stepF (h c) (h (c - splitF cl c))
def costK (cl : List Int) (h : Int → Int) (k : Nat) : Int := (cl.take k).foldl (fun s c => s + termF cl h c) 0
def costC (cl : List Int) (h : Int → Int) : Int := costK cl h cl.length
theorem costK_step {cl : List Int} {h : Int → Int} {k : Nat} {c : Int} (hc : cl[k]? = some c) : costK cl h (k + 1) = costK cl h k + termF cl h c := by
  unfold costK; rw [List.take_add_one, hc, List.foldl_append]; rfl
theorem term_in {cl : List Int} {h : Int → Int} {c : Int} : 0 ≤ termF cl h c ∧ termF cl h c ≤ 8 := by
  unfold termF
  have := step_in (h c) (h (splitF cl c))
  have := step_in (h c) (h (c - splitF cl c))
  omega
theorem costK_in {cl : List Int} {h : Int → Int} : ∀ k, k ≤ cl.length → 0 ≤ costK cl h k ∧ costK cl h k ≤ 8 * k
  | 0, _ => by unfold costK; simp
  | k + 1, hk => by
    rw [costK_step (List.getElem?_eq_getElem (show k < cl.length by omega))]
    have := costK_in (cl := cl) (h := h) k (by omega)
    have := term_in (cl := cl) (h := h) (c := cl[k]'(by omega))
    omega
theorem fold_sum {F : Int → Int} : ∀ (l : List Int) (a : Int), l.foldl (fun s c => s + F c) a = a + sumI (l.map F)
  | [], a => by show a = a + 0; omega
  | x :: l, a => by rw [List.foldl_cons, fold_sum l]; show _ = a + (F x + sumI (l.map F)); omega
theorem costT_sum {n : Nat} {cl : List Int} (hc : chkN n cl = 0) {h : Int → Int} : ∀ (f : Nat) (s : Int), s.toNat ≤ f → OkS n cl s → costT h (treeT cl f s) = sumI ((treeT cl f s).sets.map fun k : Nat => termF cl h (k : Int))
  | 0, s, hf, h => by have := h.1; omega
  | f + 1, s, hf, hs => by
    have hle := ok_le hc hs
    cases h1 : singF s with
    | true => rw [treeT_1 h1]; rfl
    | false =>
      obtain ⟨hin, o1, o2, o3, o4, o5, _⟩ := first_part hc hs h1
      obtain ⟨_, i2, _⟩ := treeT_ok hc f _ (by omega) o1
      obtain ⟨_, j2, _⟩ := treeT_ok hc f _ (by omega) o2
      have i1 := costT_sum hc (h := h) f _ (by omega) o1
      have j1 := costT_sum hc (h := h) f _ (by omega) o2
      rw [treeT_2 h1]
      show stepF (h _) (h _) + stepF (h _) (h _) + costT h _ + costT h _ = termF cl h _ + sumI (((treeT cl f (splitF cl s)).sets ++ (treeT cl f (s - splitF cl s)).sets).map _)
      rw [List.map_append, sumI_app, ← i1, ← j1]
      have e : (((treeT cl f (splitF cl s)).mask + (treeT cl f (s - splitF cl s)).mask : Nat) : Int) = s := by rw [i2, j2]; omega
      rw [e, i2, j2, show ((splitF cl s).toNat : Int) = splitF cl s by omega, show ((s - splitF cl s).toNat : Int) = s - splitF cl s by omega]
      show stepF (h s) (h (splitF cl s)) + stepF (h s) (h (s - splitF cl s)) + _ + _ = stepF (h s) (h (splitF cl s)) + stepF (h s) (h (s - splitF cl s)) + _
      omega
theorem costC_tree {n : Nat} {cl : List Int} (hc : chkN n cl = 0) {h : Int → Int} : costC cl h = costT h (treeT cl 64 (allS n)) := by
  obtain ⟨n1, n6, _⟩ := chkN_ok hc
  have hal := all_in (n := (n : Int)) ⟨n1, n6⟩
  rw [costT_sum hc 64 _ (by omega) (ok_all hc)]
  obtain ⟨t1, t2, t3⟩ := treeT_ok hc 64 (allS n) (by omega) (ok_all hc)
  have hp := tree_sets hc t1 (by rw [t2]; omega) t3
  unfold costC costK
  rw [List.take_length, fold_sum, Int.zero_add]
  have := sumI_perm (hp.map (termF cl h))
  rw [List.map_map] at this
  exact this.symm
section
variable {S : List Int} {u : Nat → Int} {n : Nat} {cl : List Int}
theorem giv_keys {g : Int → Int} : ∀ {T : Tr}, GivT S u g T → T.ok n → (∀ c ∈ T.sets, (c : Int) ∈ cl) → ∀ k ∈ T.keys, k ∈ cl ∨ ∃ w, w < n ∧ k = ((2 ^ w : Nat) : Int) ∧ (u w ≠ 8589934592 → g k = u w)
  | .leaf w, hg, hT, _, k, hk => by
    have e : k = ((2 ^ w : Nat) : Int) := List.mem_singleton.1 hk
    exact .inr ⟨w, hT, e, fun hu => by rw [e]; exact hg.1 hu⟩
  | .node a b, hg, hT, hs, k, hk => by
    rcases List.mem_cons.1 hk with rfl | hk
    · exact .inl (hs _ (List.mem_cons_self ..))
    · rcases List.mem_append.1 hk with hk | hk
      · exact giv_keys hg.2.1 hT.1 (fun c h => hs c (List.mem_cons_of_mem _ (List.mem_append_left _ h))) k hk
      · exact giv_keys hg.2.2 hT.2.1 (fun c h => hs c (List.mem_cons_of_mem _ (List.mem_append_right _ h))) k hk
theorem giv_sets {g : Int → Int} : ∀ {T : Tr}, GivT S u g T → ∀ c ∈ T.sets, g (c : Int) ∈ S
  | .leaf _, _, c, hc => by cases hc
  | .node a b, hg, c, hc => by
    rcases List.mem_cons.1 hc with rfl | hc
    · exact hg.1
    · rcases List.mem_append.1 hc with hc | hc
      · exact giv_sets hg.2.1 c hc
      · exact giv_sets hg.2.2 c hc
theorem giv_leaf {g : Int → Int} : ∀ {T : Tr}, GivT S u g T → ∀ w, T.has w → g ((2 ^ w : Nat) : Int) ∈ S
  | .leaf v, hg, w, hw => by
    have e : v = w := hw
    rw [← e]; exact hg.2
  | .node a b, hg, w, hw => by
    rcases hw with hw | hw
    · exact giv_leaf hg.2.1 w hw
    · exact giv_leaf hg.2.2 w hw
theorem giv_of {h : Int → Int} (h1 : ∀ k ∈ cl, h k ∈ S) (h2 : ∀ w, w < n → (u w ≠ 8589934592 → h ((2 ^ w : Nat) : Int) = u w) ∧ h ((2 ^ w : Nat) : Int) ∈ S) : ∀ {T : Tr}, T.ok n → (∀ c ∈ T.sets, (c : Int) ∈ cl) → GivT S u h T
  | .leaf w, hT, _ => h2 w hT
  | .node a b, hT, hs => ⟨h1 _ (hs _ (List.mem_cons_self ..)), giv_of h1 h2 hT.1 (fun c h => hs c (List.mem_cons_of_mem _ (List.mem_append_left _ h))), giv_of h1 h2 hT.2.1 (fun c h => hs c (List.mem_cons_of_mem _ (List.mem_append_right _ h)))⟩
end
theorem pow_inj_tab : ((List.range 6).all fun v => (List.range 6).all fun w => v == w || !(2 ^ v == 2 ^ w)) = true := by kernel_rfl
theorem pow_inj {v w : Nat} (hv : v < 6) (hw : w < 6) (h : 2 ^ v = 2 ^ w) : v = w := by
  have h0 := List.all_eq_true.1 pow_inj_tab v (List.mem_range.2 hv)
  have h0 := List.all_eq_true.1 h0 w (List.mem_range.2 hw)
  rw [h] at h0
  simpa using h0
theorem give_min {rows : List (List Int)} {cl O St : List Int} {l : Nat} {G0 G' : Int → Int} {b : Int} (hr : rowsN rows = 0) (hc : chkN rows.length cl = 0) (hO : ∀ y, y ∈ O ↔ (∃ w, w < rows.length ∧ uF rows l w = 8589934592 ∧ y = ((2 ^ w : Nat) : Int)) ∨ y ∈ cl) (hSt : ∀ y, y ∈ St ↔ y ∈ statesF rows l) (hG : ∀ w, w < rows.length → uF rows l w ≠ 8589934592 → G0 ((2 ^ w : Nat) : Int) = uF rows l w) (h : GiveQ O St (costC cl) 0 G0 1048576 b G') : b = leastF (costsF rows cl l 64 (allS rows.length)) := by
  obtain ⟨n1, n6, _⟩ := rows_ok hr
  have hal := all_in (n := (rows.length : Int)) ⟨by omega, by omega⟩
  have hal2 := all_mask n1 n6
  obtain ⟨t1, t2, t3⟩ := treeT_ok hc 64 (allS rows.length) (by omega) (ok_all hc)
  have hm0 : ((treeT cl 64 (allS rows.length)).mask : Int) = allS rows.length := by rw [t2]; exact Int.toNat_of_nonneg (Int.le_trans (by decide) hal.1)
  have e : leastF (costsF rows cl l 64 (allS rows.length)) = mn (statesF rows l) (cT (statesF rows l) (uF rows l) (treeT cl 64 (allS rows.length))) := by rw [costs_tree hc 64 _ (by omega) (ok_all hc)]; rfl
  have hcost : ∀ h, costC cl h = costT h (treeT cl 64 (allS rows.length)) := fun h => costC_tree hc
  rw [e]
  generalize treeT cl 64 (allS rows.length) = T at t1 t2 t3 hcost hm0
  have h0 : (0 : Int) ∈ statesF rows l := st_mem.2 (.inl rfl)
  obtain ⟨m1, ⟨g, m2, m3⟩, m4⟩ := giv_mn (u := uF rows l) n6 h0 t1 fun w hw => uF_in (rows := rows) (l := l) hw
  obtain ⟨_, q2, q3, q4⟩ := h
  have hno : ∀ w, w < rows.length → uF rows l w ≠ 8589934592 → ((2 ^ w : Nat) : Int) ∉ O := fun w hw hu hm => by
    rcases (hO _).1 hm with ⟨v, hv, hv2, hv3⟩ | hm
    · have := pow_inj (v := w) (w := v) (by omega) (by omega) (by omega)
      subst this
      exact hu hv2
    · have h9 := single_no hc hm
      rw [(pow_sing (w := w) (by omega)).1] at h9
      cases h9
  have hset : ∀ f, SetQ O St 0 G0 f → GivT (statesF rows l) (uF rows l) f T := fun f ⟨f1, f2⟩ => by
    rw [List.drop_zero] at f1 f2
    refine giv_of (fun k hk => (hSt _).1 (f2 k ((hO k).2 (.inr hk)))) (fun w hw => ?_) t1 t3
    by_cases hu : uF rows l w = 8589934592
    · exact ⟨fun h => absurd hu h, (hSt _).1 (f2 _ ((hO _).2 (.inl ⟨w, hw, hu, rfl⟩)))⟩
    · have e1 := f1 _ (hno w hw hu)
      have e2 := hG w hw hu
      refine ⟨fun _ => by rw [e1, e2], ?_⟩
      rw [e1, e2]
      exact (uF_in hw).resolve_left hu
  have hle : b ≤ mn (statesF rows l) (cT (statesF rows l) (uF rows l) T) := by
    have hs : SetQ O St 0 G0 (fun y => if y ∈ O then g y else G0 y) := by
      refine ⟨fun y hy => ?_, fun y hy => ?_⟩
      · rw [List.drop_zero] at hy
        show (if y ∈ O then g y else G0 y) = G0 y
        rw [if_neg hy]
      · rw [List.drop_zero] at hy
        show (if y ∈ O then g y else G0 y) ∈ St
        rw [if_pos hy, hSt]
        rcases (hO y).1 hy with ⟨w, hw, hw2, rfl⟩ | hm
        · have hm : 2 ^ w ≤ 32 := by
            have : 2 ^ w ≤ 2 ^ 5 := Nat.pow_le_pow_right (by decide) (by omega)
            omega
          refine giv_leaf m2 w (sub_has n6 hw t1 ?_)
          rw [t2, hal2, Int.toNat_natCast]
          obtain ⟨_, q, x1, x2⟩ := mask_in (T := .leaf w) n6 hw
          rw [← x2]; exact x1
        · have hp := tree_sets hc t1 hm0 t3
          obtain ⟨k, hk, rfl⟩ := List.mem_map.1 (hp.mem_iff.2 hm)
          exact giv_sets m2 k hk
    have hq := q3 _ hs
    rw [hcost, costT_congr (g' := g) (T := T) fun k hk => ?_] at hq
    · omega
    · by_cases hkO : k ∈ O
      · rw [if_pos hkO]
      · rw [if_neg hkO]
        rcases giv_keys m2 t1 t3 k hk with h | ⟨w, hw, rfl, h⟩
        · exact absurd ((hO k).2 (.inr h)) hkO
        · by_cases hu : uF rows l w = 8589934592
          · exact absurd ((hO _).2 (.inl ⟨w, hw, hu, rfl⟩)) hkO
          · rw [hG w hw hu, h hu]
  rcases q4 with q4 | ⟨f, hf, q4⟩
  · omega
  · have := m1 f (hset f hf)
    rw [hcost] at q4
    omega
end Go.Proofs.YtkpmnnflikkhmaaDoor
end
section
namespace Go.Proofs.YtkpmnnflikkhmaaDoor
open Go Go.Kn Go.Proofs
def opL (rows : List (List Int)) (l k : Nat) : List Int := ((List.range k).filter fun w => uF rows l w == 8589934592).map fun w => ((2 ^ w : Nat) : Int)
theorem op_yes {rows : List (List Int)} {l k : Nat} (h : uF rows l k = 8589934592) : opL rows l (k + 1) = opL rows l k ++ [((2 ^ k : Nat) : Int)] := by
  unfold opL; rw [List.range_succ, List.filter_append, List.map_append]; simp [h]
theorem op_no {rows : List (List Int)} {l k : Nat} (h : uF rows l k ≠ 8589934592) : opL rows l (k + 1) = opL rows l k := by
  unfold opL; rw [List.range_succ, List.filter_append, List.map_append]; simp [h]
def stL (rows : List (List Int)) (l k : Nat) : List Int := 0 :: (((List.range k).map fun w => uF rows l w).filter fun x => x != 8589934592)
theorem sl_yes {rows : List (List Int)} {l k : Nat} (h : uF rows l k ≠ 8589934592) : stL rows l (k + 1) = stL rows l k ++ [uF rows l k] := by
  unfold stL; rw [List.range_succ, List.map_append, List.filter_append]; simp [h]
theorem sl_no {rows : List (List Int)} {l k : Nat} (h : uF rows l k = 8589934592) : stL rows l (k + 1) = stL rows l k := by
  unfold stL; rw [List.range_succ, List.map_append, List.filter_append]; simp [h]
theorem op_mem {rows : List (List Int)} {l k : Nat} {y : Int} : y ∈ opL rows l k ↔ ∃ w, w < k ∧ uF rows l w = 8589934592 ∧ y = ((2 ^ w : Nat) : Int) := by
  unfold opL
  rw [List.mem_map]
  constructor
  · rintro ⟨w, hw, rfl⟩
    rw [List.mem_filter, List.mem_range, beq_iff_eq] at hw
    exact ⟨w, hw.1, hw.2, rfl⟩
  · rintro ⟨w, h1, h2, rfl⟩
    exact ⟨w, by rw [List.mem_filter, List.mem_range, beq_iff_eq]; exact ⟨h1, h2⟩, rfl⟩
theorem sl_mem {rows : List (List Int)} {l : Nat} {y : Int} : y ∈ stL rows l rows.length ↔ y ∈ statesF rows l := by
  unfold stL
  rw [st_mem, List.mem_cons, List.mem_filter, List.mem_map, bne_iff_ne]
  constructor
  · rintro (h | ⟨⟨w, hw, rfl⟩, h⟩)
    · exact .inl h
    · have hw := List.mem_range.1 hw
      refine .inr ⟨⟨rows.getD w [], ?_, rfl⟩, h⟩
      unfold List.getD; rw [List.getElem?_eq_getElem hw]; exact List.getElem_mem hw
  · rintro (h | ⟨⟨r, hr, rfl⟩, h⟩)
    · exact .inl h
    · obtain ⟨w, hw, rfl⟩ := List.getElem_of_mem hr
      refine .inr ⟨⟨w, List.mem_range.2 hw, ?_⟩, h⟩
      unfold uF
      rw [getD_of (List.getElem?_eq_getElem hw)]
theorem open_mem {rows : List (List Int)} {cl : List Int} {l : Nat} (y : Int) : y ∈ opL rows l rows.length ++ cl ↔ (∃ w, w < rows.length ∧ uF rows l w = 8589934592 ∧ y = ((2 ^ w : Nat) : Int)) ∨ y ∈ cl := by
  rw [List.mem_append, op_mem]
theorem open_nd {rows : List (List Int)} {cl : List Int} {l : Nat} (hr : rowsN rows = 0) (hc : chkN rows.length cl = 0) : (opL rows l rows.length ++ cl).Nodup := by
  obtain ⟨n1, n6, _⟩ := rows_ok hr
  rw [List.nodup_append]
  refine ⟨?_, ?_, fun x hx y hy e => ?_⟩
  · unfold opL
    rw [List.nodup_iff_pairwise_ne, List.pairwise_map]
    have h := (List.nodup_range (n := rows.length)).filter fun w => uF rows l w == 8589934592
    refine List.Pairwise.imp_of_mem (fun {a b} ha hb hab e => ?_) h
    have ha := List.mem_range.1 (List.mem_filter.1 ha).1
    have hb := List.mem_range.1 (List.mem_filter.1 hb).1
    exact hab (pow_inj (by omega) (by omega) (by omega))
  · exact List.nodup_iff_pairwise_ne.2 ((right_rise hc).imp fun h => by omega)
  · subst e
    obtain ⟨w, hw, _, rfl⟩ := op_mem.1 hx
    have h9 := single_no hc hy
    rw [(pow_sing (w := w) (by omega)).1] at h9
    cases h9
theorem least_cap {rows : List (List Int)} {cl : List Int} {k : Nat} {s : Int} : 0 ≤ leastF (costsF rows cl k 64 s) ∧ leastF (costsF rows cl k 64 s) ≤ 1099511627776 := by
  have hl : (costsF rows cl k 64 s).length = (statesF rows k).length := costs_len
  have hsp := st_pos (rows := rows) (l := k)
  exact minK_in (cs := costsF rows cl k 64 s) (costs_in _ _) (by omega) (costsF rows cl k 64 s).length
def mG (m : List (Int × Int)) (y : Int) : Int := (mget m y).getD 0
theorem mG_set {m : List (Int × Int)} {k v : Int} (y : Int) : mG (mset m k v) y = if y = k then v else mG m y := by
  unfold mG
  rw [mget_mset]
  by_cases e : k = y
  · rw [if_pos e, if_pos e.symm]; rfl
  · rw [if_neg e, if_neg fun h => e h.symm]
def GivM (rows : List (List Int)) (l k : Nat) (m : List (Int × Int)) : Prop := ∀ w, w < k → uF rows l w ≠ 8589934592 → mG m ((2 ^ w : Nat) : Int) = uF rows l w
theorem givM_0 {rows : List (List Int)} {l : Nat} : GivM rows l 0 [] := fun w h => by omega
theorem givM_no {rows : List (List Int)} {l k : Nat} {m : List (Int × Int)} (h : GivM rows l k m) (hu : uF rows l k = 8589934592) : GivM rows l (k + 1) m := fun w hw hu2 => by
  by_cases e : w = k
  · exact absurd (e ▸ hu) hu2
  · exact h w (by omega) hu2
theorem givM_yes {rows : List (List Int)} {l k : Nat} {m : List (Int × Int)} (hk : k < 6) (h : GivM rows l k m) : GivM rows l (k + 1) (mset m ((2 ^ k : Nat) : Int) (uF rows l k)) := fun w hw hu2 => by
  rw [mG_set]
  by_cases e : w = k
  · rw [if_pos (by rw [e]), e]
  · rw [if_neg fun h9 => e (pow_inj (by omega) (by omega) (by omega))]
    exact h w (by omega) hu2
theorem shl_tab : ((List.range 6).all fun w => IntKind.i64.wrap (1 * 2 ^ (min ((w : Nat) : Int).toNat IntKind.i64.bits)) == ((2 ^ w : Nat) : Int)) = true := by kernel_rfl
theorem shl_at {w : Nat} (h : w < 6) : IntKind.i64.wrap (1 * 2 ^ (min ((w : Nat) : Int).toNat IntKind.i64.bits)) = ((2 ^ w : Nat) : Int) := eq_of_beq (List.all_eq_true.1 shl_tab w (List.mem_range.2 h))
theorem both_tab : ((List.range 64).all fun s => (List.range 64).all fun a => !subN a s || (andI (a : Int) ((s - a : Nat) : Int) == 0 && orI (a : Int) ((s - a : Nat) : Int) == (s : Int))) = true := by kernel_rfl
theorem both_at {n : Nat} {cl : List Int} (hc : chkN n cl = 0) {s : Int} (hin : s ∈ cl) : andI (splitF cl s) (s - splitF cl s) = 0 ∧ orI (splitF cl s) (s - splitF cl s) = s ∧ splitF cl s ≠ 0 ∧ s - splitF cl s ≠ 0 := by
  have hs := ok_le hc (ok_of hc hin)
  obtain ⟨_, o1, o2, o3, o4, o5, _⟩ := first_part hc (ok_of hc hin) (single_no hc hin)
  have h := List.all_eq_true.1 both_tab s.toNat (List.mem_range.2 (by omega))
  have h := List.all_eq_true.1 h (splitF cl s).toNat (List.mem_range.2 (by omega))
  rw [o5, Bool.not_true, Bool.false_or, Bool.and_eq_true, beq_iff_eq, beq_iff_eq, show ((s.toNat - (splitF cl s).toNat : Nat) : Int) = s - splitF cl s by omega, show ((splitF cl s).toNat : Int) = splitF cl s by omega, show (s.toNat : Int) = s by omega] at h
  exact ⟨h.1, h.2, by omega, by omega⟩
/-- What the closure that gives states holds. -/
structure GvE (I : HMap) (fid gid bop bst bgi bse bcl bro bsp rm : Nat) (caps : List Value) (ao as9 av bv : Option Addr) (no co ns cs n c n2 c2 : Nat) (O St xs : List Int) (rows : List (List Int)) : Prop where
  op : Cell I [] bop 0 (.slice ao no co)
  st : Cell I [] bst 0 (.slice as9 ns cs)
  gi : Cell I [] bgi 0 (.map (some rm))
  se : Cell I [] bse 0 (.func (.func fid) #[] caps.toArray)
  cl : Cell I [] bcl 0 (.slice av n c)
  ro : Cell I [] bro 0 (.slice bv n2 c2)
  sp : Cell I [] bsp 0 (.func (.func gid) #[] #[])
  hO : Sl I 1 encI ao no co O
  hT : Sl I 1 encI as9 ns cs St
  hS : Sl I 1 encI av n c xs
  hV : SlN I bv n2 c2 rows
theorem GvE.mono {I I' : HMap} {fid gid bop bst bgi bse bcl bro bsp rm : Nat} {caps : List Value} {ao as9 av bv : Option Addr} {no co ns cs n c n2 c2 : Nat} {O St xs : List Int} {rows : List (List Int)} (h : GvE I fid gid bop bst bgi bse bcl bro bsp rm caps ao as9 av bv no co ns cs n c n2 c2 O St xs rows) (hI : HLe I I') : GvE I' fid gid bop bst bgi bse bcl bro bsp rm caps ao as9 av bv no co ns cs n c n2 c2 O St xs rows :=
  ⟨h.op.mono hI, h.st.mono hI, h.gi.mono hI, h.se.mono hI, h.cl.mono hI, h.ro.mono hI, h.sp.mono hI, h.hO.mono hI, h.hT.mono hI, h.hS.mono hI, h.hV.mono hI⟩
end Go.Proofs.YtkpmnnflikkhmaaDoor
end
