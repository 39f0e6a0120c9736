import Derived.Shelf.Sort.Plain
import Derived.Sort.OwnSortedInts
import Derived.Test.YtcpenjbgiecgnaaOBase
namespace Go.Proofs.Ytcpenjbgiecgnaa
open Go Go.RowKit Go.Shelf
set_option linter.unusedVariables false
set_option linter.unusedSimpArgs false

/-! The library's slices.Sort at []int. -/
def sortRen : Go.Shelf.Ren := ⟨fun | 125 => 53 | 128 => 66 | 129 => 67 | 189 => 39 | 215 => 73 | 216 => 63 | 257 => 52 | 294 => 57 | 295 => 58 | 296 => 59 | 297 => 60 | 298 => 61 | 299 => 62 | 300 => 64 | 301 => 65 | 328 => 68 | 329 => 69 | 330 => 70 | 331 => 71 | 332 => 72 | 343 => 74 | n => n, fun | 0 => 0 | 3 => 3 | 4 => 4 | 5 => 5 | 9 => 9 | 28 => 40 | 46 => 97 | 51 => 129 | 53 => 96 | 131 => 126 | 182 => 120 | 183 => 121 | 218 => 131 | 222 => 135 | 228 => 137 | 229 => 138 | n => n, fun n => n⟩
set_option maxRecDepth 100000 in
theorem sortLays : Lays.n189 Try.prog sortRen :=
  { mixed := by kernel_rfl
    f125 := Try.func53.trans (congrArg some (by kernel_rfl))
    f128 := Try.func66.trans (congrArg some (by kernel_rfl))
    f129 := Try.func67.trans (congrArg some (by kernel_rfl))
    f189 := Try.func39.trans (congrArg some (by kernel_rfl))
    f215 := Try.func73.trans (congrArg some (by kernel_rfl))
    f216 := Try.func63.trans (congrArg some (by kernel_rfl))
    f257 := Try.func52.trans (congrArg some (by kernel_rfl))
    f294 := Try.func57.trans (congrArg some (by kernel_rfl))
    f295 := Try.func58.trans (congrArg some (by kernel_rfl))
    f296 := Try.func59.trans (congrArg some (by kernel_rfl))
    f297 := Try.func60.trans (congrArg some (by kernel_rfl))
    f298 := Try.func61.trans (congrArg some (by kernel_rfl))
    f299 := Try.func62.trans (congrArg some (by kernel_rfl))
    f300 := Try.func64.trans (congrArg some (by kernel_rfl))
    f301 := Try.func65.trans (congrArg some (by kernel_rfl))
    f328 := Try.func68.trans (congrArg some (by kernel_rfl))
    f329 := Try.func69.trans (congrArg some (by kernel_rfl))
    f330 := Try.func70.trans (congrArg some (by kernel_rfl))
    f331 := Try.func71.trans (congrArg some (by kernel_rfl))
    f332 := Try.func72.trans (congrArg some (by kernel_rfl))
    f343 := Try.func74.trans (congrArg some (by kernel_rfl))
    t0 := Try.underlying0
    a0 := Try.isAgg0
    z0 := Try.sizeOf0
    v0 := Try.zeroValue0
    t3 := Try.underlying3
    a3 := Try.isAgg3
    z3 := Try.sizeOf3
    v3 := Try.zeroValue3
    t4 := Try.underlying4
    a4 := Try.isAgg4
    z4 := Try.sizeOf4
    v4 := Try.zeroValue4
    t5 := Try.underlying5
    a5 := Try.isAgg5
    z5 := Try.sizeOf5
    v5 := Try.zeroValue5
    t9 := Try.underlying9
    a9 := Try.isAgg9
    z9 := Try.sizeOf9
    v9 := Try.zeroValue9
    t28 := Try.underlying40
    a28 := Try.isAgg40
    z28 := Try.sizeOf40
    v28 := Try.zeroValue40
    t46 := Try.underlying97
    a46 := Try.isAgg97
    z46 := Try.sizeOf97
    v46 := Try.zeroValue97
    t51 := Try.underlying129
    a51 := Try.isAgg129
    z51 := Try.sizeOf129
    v51 := Try.zeroValue129
    t53 := Try.underlying96
    a53 := Try.isAgg96
    z53 := Try.sizeOf96
    v53 := Try.zeroValue96
    t131 := Try.underlying126
    a131 := Try.isAgg126
    z131 := Try.sizeOf126
    v131 := Try.zeroValue126
    t182 := Try.underlying120
    a182 := Try.isAgg120
    z182 := Try.sizeOf120
    v182 := Try.zeroValue120
    t183 := Try.underlying121
    a183 := Try.isAgg121
    z183 := Try.sizeOf121
    v183 := Try.zeroValue121
    t218 := Try.underlying131
    a218 := Try.isAgg131
    z218 := Try.sizeOf131
    v218 := Try.zeroValue131
    t222 := Try.underlying135
    a222 := Try.isAgg135
    z222 := Try.sizeOf135
    v222 := Try.zeroValue135
    t228 := Try.underlying137
    a228 := Try.isAgg137
    z228 := Try.sizeOf137
    v228 := Try.zeroValue137
    t229 := Try.underlying138
    a229 := Try.isAgg138
    z229 := Try.sizeOf138
    v229 := Try.zeroValue138
  }
theorem sort_ints (blk off cap : Nat) (zs : List Int) (w : World) (hH : Go.Sort.Holds (Value.int .i64) w blk off zs.toArray) (hblk : blk < w.heap.size) (hsz : zs.length < 4611686018427387904) :
    Calls Try.prog 39 #[.slice (some ⟨blk, off, none⟩) zs.length cap] w fun e w' =>
      e = .returned (.tuple #[]) ∧ ∃ n os, w' = Go.Sort.grow (Go.Sort.putRow (Value.int .i64) (Go.Sort.ahead w n) blk off (zs.mergeSort fun x y => decide (x ≤ y)).toArray) os :=
  Any.slices_Sort_int sortLays blk off cap zs w hH hblk hsz
end Go.Proofs.Ytcpenjbgiecgnaa
