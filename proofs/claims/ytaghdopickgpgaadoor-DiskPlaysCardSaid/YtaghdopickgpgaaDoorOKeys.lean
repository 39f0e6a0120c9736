import Derived.Shelf.SlIter.Keys
import Derived.Shelf.SlIter.Sorted
import Derived.Test.YtaghdopickgpgaaDoorOSortS
namespace Go.Proofs.YtaghdopickgpgaaDoor
open Go Go.RowKit Go.Shelf
set_option linter.unusedVariables false
set_option linter.unusedSimpArgs false

/-! slices.Sorted(maps.Keys(m)) (printed by olays.py). -/
def keysRen : Go.Shelf.Ren := ⟨fun | 6 => 34 | 7 => 35 | 8 => 49 | 9 => 50 | 10 => 51 | 11 => 66 | n => n, fun | 0 => 0 | 3 => 64 | 4 => 4 | 23 => 60 | 24 => 22 | 26 => 9 | 27 => 72 | 28 => 73 | 33 => 82 | n => n, fun n => n⟩
set_option maxRecDepth 100000 in
theorem keysLays : SlLaysZ.n7 Tryd.prog keysRen :=
  { mixed := by kernel_rfl
    f7 := ⟨Tryd.f35.name, by kernel_rfl, Tryd.func35.trans (congrArg some (by kernel_rfl))⟩
    f10 := ⟨Tryd.f51.name, by kernel_rfl, Tryd.func51.trans (congrArg some (by kernel_rfl))⟩
    t0 := Tryd.underlying0
    a0 := Tryd.isAgg0
    z0 := Tryd.sizeOf0
    v0 := Tryd.zeroValue0
    t4 := Tryd.underlying4
    a4 := Tryd.isAgg4
    z4 := Tryd.sizeOf4
    v4 := Tryd.zeroValue4
    t23 := Tryd.underlying60
    a23 := Tryd.isAgg60
    z23 := Tryd.sizeOf60
    v23 := Tryd.zeroValue60
    t26 := Tryd.underlying9
    a26 := Tryd.isAgg9
    z26 := Tryd.sizeOf9
    v26 := Tryd.zeroValue9
    t27 := Tryd.underlying72
    a27 := Tryd.isAgg72
    z27 := Tryd.sizeOf72
    v27 := Tryd.zeroValue72
    t28 := Tryd.underlying73
    a28 := Tryd.isAgg73
    z28 := Tryd.sizeOf73
    v28 := Tryd.zeroValue73
    t33 := Tryd.underlying82
    a33 := Tryd.isAgg82
    z33 := Tryd.sizeOf82
    v33 := Tryd.zeroValue82 }
def sortedRen0 : Go.Shelf.Ren := ⟨fun | 6 => 34 | 7 => 35 | 8 => 49 | 9 => 50 | 10 => 51 | 11 => 66 | n => n, fun | 0 => 0 | 3 => 64 | 4 => 4 | 23 => 60 | 24 => 22 | 26 => 9 | 27 => 72 | 28 => 73 | 33 => 82 | n => n, fun n => n⟩
set_option maxRecDepth 100000 in
theorem sortedLays0 : SlLaysZ.n6 Tryd.prog sortedRen0 :=
  { mixed := by kernel_rfl
    f6 := ⟨Tryd.f34.name, by kernel_rfl, Tryd.func34.trans (congrArg some (by kernel_rfl))⟩
    f8 := ⟨Tryd.f49.name, by kernel_rfl, Tryd.func49.trans (congrArg some (by kernel_rfl))⟩
    f11 := ⟨Tryd.f66.name, by kernel_rfl, Tryd.func66.trans (congrArg some (by kernel_rfl))⟩
    t0 := Tryd.underlying0
    a0 := Tryd.isAgg0
    z0 := Tryd.sizeOf0
    v0 := Tryd.zeroValue0
    t24 := Tryd.underlying22
    a24 := Tryd.isAgg22
    z24 := Tryd.sizeOf22
    v24 := Tryd.zeroValue22
    t26 := Tryd.underlying9
    a26 := Tryd.isAgg9
    z26 := Tryd.sizeOf9
    v26 := Tryd.zeroValue9
    t28 := Tryd.underlying73
    a28 := Tryd.isAgg73
    z28 := Tryd.sizeOf73
    v28 := Tryd.zeroValue73
    i26 := by kernel_rfl }
end Go.Proofs.YtaghdopickgpgaaDoor
