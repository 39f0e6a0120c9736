import Derived.Shelf.Strings.SlTrimAscii
import Derived.Test.YtaghdopickgpgaaDoorOBase
namespace Go.Proofs.YtaghdopickgpgaaDoor
open Go Go.RowKit Go.Shelf
set_option linter.unusedVariables false
set_option linter.unusedSimpArgs false

/-! The library's strings.Trim at an ASCII cutset (printed by olays.py). -/
def trimRen : Go.Shelf.Ren := ⟨fun | 119 => 94 | 120 => 86 | 137 => 93 | 151 => 71 | 152 => 85 | 160 => 48 | 197 => 70 | 217 => 98 | 224 => 95 | 225 => 96 | 227 => 61 | 228 => 69 | 231 => 59 | 232 => 60 | 233 => 62 | 234 => 63 | 235 => 64 | 236 => 65 | 260 => 84 | 266 => 99 | 271 => 72 | n => n, fun | 0 => 0 | 3 => 3 | 4 => 4 | 5 => 5 | 9 => 9 | 21 => 21 | 46 => 100 | 105 => 102 | 116 => 92 | 117 => 93 | 119 => 123 | 124 => 96 | 138 => 125 | 139 => 126 | n => n, fun | 3 => 0 | 4 => 1 | n => n⟩
set_option maxRecDepth 100000 in
theorem trimLays : Lays.n160 Tryd.prog trimRen :=
  { mixed := by kernel_rfl
    f119 := Tryd.func94.trans (congrArg some (by kernel_rfl))
    f120 := Tryd.func86.trans (congrArg some (by kernel_rfl))
    f137 := Tryd.func93.trans (congrArg some (by kernel_rfl))
    f151 := Tryd.func71.trans (congrArg some (by kernel_rfl))
    f152 := Tryd.func85.trans (congrArg some (by kernel_rfl))
    f160 := Tryd.func48.trans (congrArg some (by kernel_rfl))
    f197 := Tryd.func70.trans (congrArg some (by kernel_rfl))
    f217 := Tryd.func98.trans (congrArg some (by kernel_rfl))
    f224 := Tryd.func95.trans (congrArg some (by kernel_rfl))
    f225 := Tryd.func96.trans (congrArg some (by kernel_rfl))
    f227 := Tryd.func61.trans (congrArg some (by kernel_rfl))
    f228 := Tryd.func69.trans (congrArg some (by kernel_rfl))
    f231 := Tryd.func59.trans (congrArg some (by kernel_rfl))
    f232 := Tryd.func60.trans (congrArg some (by kernel_rfl))
    f233 := Tryd.func62.trans (congrArg some (by kernel_rfl))
    f234 := Tryd.func63.trans (congrArg some (by kernel_rfl))
    f235 := Tryd.func64.trans (congrArg some (by kernel_rfl))
    f236 := Tryd.func65.trans (congrArg some (by kernel_rfl))
    f260 := Tryd.func84.trans (congrArg some (by kernel_rfl))
    f266 := Tryd.func99.trans (congrArg some (by kernel_rfl))
    f271 := Tryd.func72.trans (congrArg some (by kernel_rfl))
    t0 := Tryd.underlying0
    a0 := Tryd.isAgg0
    z0 := Tryd.sizeOf0
    v0 := Tryd.zeroValue0
    t3 := Tryd.underlying3
    a3 := Tryd.isAgg3
    z3 := Tryd.sizeOf3
    v3 := Tryd.zeroValue3
    t4 := Tryd.underlying4
    a4 := Tryd.isAgg4
    z4 := Tryd.sizeOf4
    v4 := Tryd.zeroValue4
    t5 := Tryd.underlying5
    a5 := Tryd.isAgg5
    z5 := Tryd.sizeOf5
    v5 := Tryd.zeroValue5
    t9 := Tryd.underlying9
    a9 := Tryd.isAgg9
    z9 := Tryd.sizeOf9
    v9 := Tryd.zeroValue9
    t21 := Tryd.underlying21
    a21 := Tryd.isAgg21
    z21 := Tryd.sizeOf21
    v21 := Tryd.zeroValue21
    t46 := Tryd.underlying100
    a46 := Tryd.isAgg100
    z46 := Tryd.sizeOf100
    v46 := Tryd.zeroValue100
    t105 := Tryd.underlying102
    a105 := Tryd.isAgg102
    z105 := Tryd.sizeOf102
    v105 := Tryd.zeroValue102
    t116 := Tryd.underlying92
    a116 := Tryd.isAgg92
    z116 := Tryd.sizeOf92
    t117 := Tryd.underlying93
    a117 := Tryd.isAgg93
    z117 := Tryd.sizeOf93
    v117 := Tryd.zeroValue93
    t119 := Tryd.underlying123
    a119 := Tryd.isAgg123
    z119 := Tryd.sizeOf123
    t124 := Tryd.underlying96
    a124 := Tryd.isAgg96
    z124 := Tryd.sizeOf96
    v124 := Tryd.zeroValue96
    t138 := Tryd.underlying125
    a138 := Tryd.isAgg125
    z138 := Tryd.sizeOf125
    v138 := Tryd.zeroValue125
    t139 := Tryd.underlying126
    a139 := Tryd.isAgg126
    z139 := Tryd.sizeOf126
    v139 := Tryd.zeroValue126
    g3 := by kernel_rfl
    g4 := by kernel_rfl }
theorem trim_ (s cutset : ByteArray) (w : World) (hs : s.size ≤ 9223372036854775807) (hcs : cutset.size < 4294967281) (hascii : ∀ (j : Nat) b, cutset.data.toList[j]? = some b → b.toNat < 128) :
    Calls Tryd.prog 48 #[.string s, .string cutset] w fun e w' => e = .returned (.string ⟨(Lib.trimS s.data.toList cutset.data.toList).toArray⟩) ∧ Below w.heap.size w w' :=
  Any.strings_Trim_laid trimLays (by kernel_rfl) s cutset w hs hcs hascii
end Go.Proofs.YtaghdopickgpgaaDoor
