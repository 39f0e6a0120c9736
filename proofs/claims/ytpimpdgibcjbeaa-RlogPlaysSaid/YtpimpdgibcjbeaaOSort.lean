import Derived.Shelf.Sort.Plain
import Derived.Sort.OwnSortedInts
import Derived.Test.YtpimpdgibcjbeaaOBase
namespace Go.Proofs.Ytpimpdgibcjbeaa
open Go Go.RowKit Go.Shelf
set_option linter.unusedVariables false
set_option linter.unusedSimpArgs false

/-! The library's slices.Sort at []int. -/
def sortRen : Go.Shelf.Ren := ⟨fun | 125 => 51 | 128 => 63 | 129 => 64 | 189 => 41 | 215 => 70 | 216 => 60 | 257 => 50 | 294 => 54 | 295 => 55 | 296 => 56 | 297 => 57 | 298 => 58 | 299 => 59 | 300 => 61 | 301 => 62 | 328 => 65 | 329 => 66 | 330 => 67 | 331 => 68 | 332 => 69 | 343 => 71 | n => n, fun | 0 => 0 | 3 => 3 | 4 => 4 | 5 => 5 | 9 => 9 | 28 => 22 | 46 => 82 | 51 => 93 | 53 => 95 | 131 => 90 | 182 => 86 | 183 => 87 | 218 => 96 | 222 => 100 | 228 => 102 | 229 => 26 | n => n, fun n => n⟩
set_option maxRecDepth 100000 in
theorem sortLays : Lays.n189 Try.prog sortRen :=
  { mixed := by kernel_rfl
    f125 := Try.func51.trans (congrArg some (by kernel_rfl))
    f128 := Try.func63.trans (congrArg some (by kernel_rfl))
    f129 := Try.func64.trans (congrArg some (by kernel_rfl))
    f189 := Try.func41.trans (congrArg some (by kernel_rfl))
    f215 := Try.func70.trans (congrArg some (by kernel_rfl))
    f216 := Try.func60.trans (congrArg some (by kernel_rfl))
    f257 := Try.func50.trans (congrArg some (by kernel_rfl))
    f294 := Try.func54.trans (congrArg some (by kernel_rfl))
    f295 := Try.func55.trans (congrArg some (by kernel_rfl))
    f296 := Try.func56.trans (congrArg some (by kernel_rfl))
    f297 := Try.func57.trans (congrArg some (by kernel_rfl))
    f298 := Try.func58.trans (congrArg some (by kernel_rfl))
    f299 := Try.func59.trans (congrArg some (by kernel_rfl))
    f300 := Try.func61.trans (congrArg some (by kernel_rfl))
    f301 := Try.func62.trans (congrArg some (by kernel_rfl))
    f328 := Try.func65.trans (congrArg some (by kernel_rfl))
    f329 := Try.func66.trans (congrArg some (by kernel_rfl))
    f330 := Try.func67.trans (congrArg some (by kernel_rfl))
    f331 := Try.func68.trans (congrArg some (by kernel_rfl))
    f332 := Try.func69.trans (congrArg some (by kernel_rfl))
    f343 := Try.func71.trans (congrArg some (by kernel_rfl))
    t0 := Try.underlying0
    a0 := Try.isAgg0
    z0 := Try.sizeOf0
    v0 := Try.zeroValue0
    t3 := Try.underlying3
    a3 := Try.isAgg3
    z3 := Try.sizeOf3
    v3 := Try.zeroValue3
    t4 := Try.underlying4
    a4 := Try.isAgg4
    z4 := Try.sizeOf4
    v4 := Try.zeroValue4
    t5 := Try.underlying5
    a5 := Try.isAgg5
    z5 := Try.sizeOf5
    v5 := Try.zeroValue5
    t9 := Try.underlying9
    a9 := Try.isAgg9
    z9 := Try.sizeOf9
    v9 := Try.zeroValue9
    t28 := Try.underlying22
    a28 := Try.isAgg22
    z28 := Try.sizeOf22
    v28 := Try.zeroValue22
    t46 := Try.underlying82
    a46 := Try.isAgg82
    z46 := Try.sizeOf82
    v46 := Try.zeroValue82
    t51 := Try.underlying93
    a51 := Try.isAgg93
    z51 := Try.sizeOf93
    v51 := Try.zeroValue93
    t53 := Try.underlying95
    a53 := Try.isAgg95
    z53 := Try.sizeOf95
    v53 := Try.zeroValue95
    t131 := Try.underlying90
    a131 := Try.isAgg90
    z131 := Try.sizeOf90
    v131 := Try.zeroValue90
    t182 := Try.underlying86
    a182 := Try.isAgg86
    z182 := Try.sizeOf86
    v182 := Try.zeroValue86
    t183 := Try.underlying87
    a183 := Try.isAgg87
    z183 := Try.sizeOf87
    v183 := Try.zeroValue87
    t218 := Try.underlying96
    a218 := Try.isAgg96
    z218 := Try.sizeOf96
    v218 := Try.zeroValue96
    t222 := Try.underlying100
    a222 := Try.isAgg100
    z222 := Try.sizeOf100
    v222 := Try.zeroValue100
    t228 := Try.underlying102
    a228 := Try.isAgg102
    z228 := Try.sizeOf102
    v228 := Try.zeroValue102
    t229 := Try.underlying26
    a229 := Try.isAgg26
    z229 := Try.sizeOf26
    v229 := Try.zeroValue26
  }
theorem sort_ints (blk off cap : Nat) (zs : List Int) (w : World) (hH : Go.Sort.Holds (Value.int .i64) w blk off zs.toArray) (hblk : blk < w.heap.size) (hsz : zs.length < 4611686018427387904) :
    Calls Try.prog 41 #[.slice (some ⟨blk, off, none⟩) zs.length cap] w fun e w' =>
      e = .returned (.tuple #[]) ∧ ∃ n os, w' = Go.Sort.grow (Go.Sort.putRow (Value.int .i64) (Go.Sort.ahead w n) blk off (zs.mergeSort fun x y => decide (x ≤ y)).toArray) os :=
  Any.slices_Sort_int sortLays blk off cap zs w hH hblk hsz
end Go.Proofs.Ytpimpdgibcjbeaa
