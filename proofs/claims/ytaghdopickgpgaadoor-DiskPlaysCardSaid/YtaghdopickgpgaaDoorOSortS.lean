import Derived.Shelf.Sort.Plain
import Derived.Shelf.Slices.In.SortNone
import Derived.Test.YtaghdopickgpgaaDoorOBase
namespace Go.Proofs.YtaghdopickgpgaaDoor
open Go Go.RowKit Go.Shelf
set_option linter.unusedVariables false
set_option linter.unusedSimpArgs false

/-! The library's slices.Sort at []string (printed by olays.py). -/
def sortRenS : Go.Shelf.Ren := ⟨fun | 125 => 68 | 128 => 82 | 129 => 83 | 190 => 50 | 258 => 67 | 302 => 73 | 303 => 74 | 304 => 75 | 305 => 76 | 306 => 77 | 307 => 78 | 308 => 79 | 309 => 80 | 310 => 81 | 329 => 88 | 330 => 89 | 333 => 87 | 334 => 90 | 335 => 91 | 336 => 92 | 344 => 97 | n => n, fun | 0 => 0 | 3 => 3 | 4 => 4 | 5 => 5 | 9 => 9 | 31 => 22 | 46 => 100 | 51 => 113 | 53 => 115 | 131 => 84 | 182 => 106 | 183 => 107 | 218 => 117 | 222 => 121 | 228 => 131 | 229 => 132 | n => n, fun n => n⟩
set_option maxRecDepth 100000 in
theorem sortLaysS : Lays.n190 Tryd.prog sortRenS :=
  { mixed := by kernel_rfl
    f125 := Tryd.func68.trans (congrArg some (by kernel_rfl))
    f128 := Tryd.func82.trans (congrArg some (by kernel_rfl))
    f129 := Tryd.func83.trans (congrArg some (by kernel_rfl))
    f190 := Tryd.func50.trans (congrArg some (by kernel_rfl))
    f258 := Tryd.func67.trans (congrArg some (by kernel_rfl))
    f302 := Tryd.func73.trans (congrArg some (by kernel_rfl))
    f303 := Tryd.func74.trans (congrArg some (by kernel_rfl))
    f304 := Tryd.func75.trans (congrArg some (by kernel_rfl))
    f305 := Tryd.func76.trans (congrArg some (by kernel_rfl))
    f306 := Tryd.func77.trans (congrArg some (by kernel_rfl))
    f307 := Tryd.func78.trans (congrArg some (by kernel_rfl))
    f308 := Tryd.func79.trans (congrArg some (by kernel_rfl))
    f309 := Tryd.func80.trans (congrArg some (by kernel_rfl))
    f310 := Tryd.func81.trans (congrArg some (by kernel_rfl))
    f329 := Tryd.func88.trans (congrArg some (by kernel_rfl))
    f330 := Tryd.func89.trans (congrArg some (by kernel_rfl))
    f333 := Tryd.func87.trans (congrArg some (by kernel_rfl))
    f334 := Tryd.func90.trans (congrArg some (by kernel_rfl))
    f335 := Tryd.func91.trans (congrArg some (by kernel_rfl))
    f336 := Tryd.func92.trans (congrArg some (by kernel_rfl))
    f344 := Tryd.func97.trans (congrArg some (by kernel_rfl))
    t0 := Tryd.underlying0
    a0 := Tryd.isAgg0
    z0 := Tryd.sizeOf0
    v0 := Tryd.zeroValue0
    t3 := Tryd.underlying3
    a3 := Tryd.isAgg3
    z3 := Tryd.sizeOf3
    v3 := Tryd.zeroValue3
    t4 := Tryd.underlying4
    a4 := Tryd.isAgg4
    z4 := Tryd.sizeOf4
    v4 := Tryd.zeroValue4
    t5 := Tryd.underlying5
    a5 := Tryd.isAgg5
    z5 := Tryd.sizeOf5
    v5 := Tryd.zeroValue5
    t9 := Tryd.underlying9
    a9 := Tryd.isAgg9
    z9 := Tryd.sizeOf9
    v9 := Tryd.zeroValue9
    t31 := Tryd.underlying22
    a31 := Tryd.isAgg22
    z31 := Tryd.sizeOf22
    v31 := Tryd.zeroValue22
    t46 := Tryd.underlying100
    a46 := Tryd.isAgg100
    z46 := Tryd.sizeOf100
    v46 := Tryd.zeroValue100
    t51 := Tryd.underlying113
    a51 := Tryd.isAgg113
    z51 := Tryd.sizeOf113
    v51 := Tryd.zeroValue113
    t53 := Tryd.underlying115
    a53 := Tryd.isAgg115
    z53 := Tryd.sizeOf115
    v53 := Tryd.zeroValue115
    t131 := Tryd.underlying84
    a131 := Tryd.isAgg84
    z131 := Tryd.sizeOf84
    v131 := Tryd.zeroValue84
    t182 := Tryd.underlying106
    a182 := Tryd.isAgg106
    z182 := Tryd.sizeOf106
    v182 := Tryd.zeroValue106
    t183 := Tryd.underlying107
    a183 := Tryd.isAgg107
    z183 := Tryd.sizeOf107
    v183 := Tryd.zeroValue107
    t218 := Tryd.underlying117
    a218 := Tryd.isAgg117
    z218 := Tryd.sizeOf117
    v218 := Tryd.zeroValue117
    t222 := Tryd.underlying121
    a222 := Tryd.isAgg121
    z222 := Tryd.sizeOf121
    v222 := Tryd.zeroValue121
    t228 := Tryd.underlying131
    a228 := Tryd.isAgg131
    z228 := Tryd.sizeOf131
    v228 := Tryd.zeroValue131
    t229 := Tryd.underlying132
    a229 := Tryd.isAgg132
    z229 := Tryd.sizeOf132
    v229 := Tryd.zeroValue132 }
theorem sort_strs (blk off cap : Nat) (ss : List (List UInt8)) (w : World) (hH : Go.Sort.Holds encStr w blk off ss.toArray) (hblk : blk < w.heap.size) (hsz : ss.length < 4611686018427387904) :
    Calls Tryd.prog 50 #[.slice (some ⟨blk, off, none⟩) ss.length cap] w fun e w' =>
      e = .returned (.tuple #[]) ∧ ∃ n os, w' = Go.Sort.grow (Go.Sort.putRow encStr (Go.Sort.ahead w n) blk off (ss.mergeSort fun x y => decide (x ≤ y)).toArray) os :=
  Any.slices_Sort_string sortLaysS blk off cap ss w hH hblk hsz
theorem sort_none (p : Option Addr) (cap : Nat) (w : World) : Calls Tryd.prog 50 #[.slice p 0 cap] w fun e w' => e = .returned (.tuple #[]) ∧ w' = w :=
  Any.slices_Sort_string_none sortLaysS p cap w
end Go.Proofs.YtaghdopickgpgaaDoor
