/- The layings of the library's contracts. -/
import Derived.Test.YtfenjmhhggekaaaDoorProg
import Derived.Shelf.Strings.SlTrimAscii
set_option linter.all false
set_option linter.unusedVariables false
set_option linter.unusedSimpArgs false
namespace Go.Proofs
open Go.Shelf
def Tryd.trimLays_ren : Go.Shelf.Ren := ⟨fun | 160 => 63 | 232 => 94 | 231 => 93 | 227 => 95 | 234 => 97 | 233 => 96 | 236 => 99 | 235 => 98 | 228 => 123 | 271 => 126 | 151 => 125 | 197 => 124 | 120 => 137 | 152 => 136 | 260 => 135 | 137 => 146 | 119 => 147 | 224 => 144 | 225 => 143 | 217 => 142 | 266 => 148 | n => n, fun | 9 => 9 | 4 => 4 | 3 => 3 | 5 => 5 | 117 => 124 | 116 => 123 | 0 => 0 | 124 => 127 | 21 => 21 | 105 => 145 | 46 => 148 | 119 => 157 | 139 => 160 | 138 => 159 | n => n, fun | 3 => 1 | 4 => 2 | n => n⟩
theorem Tryd.trimLays : Lays.n160 Tryd.prog Tryd.trimLays_ren := {
    mixed := (by kernel_rfl)
    f119 := Tryd.func147.trans (congrArg some (by kernel_rfl))
    f120 := Tryd.func137.trans (congrArg some (by kernel_rfl))
    f137 := Tryd.func146.trans (congrArg some (by kernel_rfl))
    f151 := Tryd.func125.trans (congrArg some (by kernel_rfl))
    f152 := Tryd.func136.trans (congrArg some (by kernel_rfl))
    f160 := Tryd.func63.trans (congrArg some (by kernel_rfl))
    f197 := Tryd.func124.trans (congrArg some (by kernel_rfl))
    f217 := Tryd.func142.trans (congrArg some (by kernel_rfl))
    f224 := Tryd.func144.trans (congrArg some (by kernel_rfl))
    f225 := Tryd.func143.trans (congrArg some (by kernel_rfl))
    f227 := Tryd.func95.trans (congrArg some (by kernel_rfl))
    f228 := Tryd.func123.trans (congrArg some (by kernel_rfl))
    f231 := Tryd.func93.trans (congrArg some (by kernel_rfl))
    f232 := Tryd.func94.trans (congrArg some (by kernel_rfl))
    f233 := Tryd.func96.trans (congrArg some (by kernel_rfl))
    f234 := Tryd.func97.trans (congrArg some (by kernel_rfl))
    f235 := Tryd.func98.trans (congrArg some (by kernel_rfl))
    f236 := Tryd.func99.trans (congrArg some (by kernel_rfl))
    f260 := Tryd.func135.trans (congrArg some (by kernel_rfl))
    f266 := Tryd.func148.trans (congrArg some (by kernel_rfl))
    f271 := Tryd.func126.trans (congrArg some (by kernel_rfl))
    t0 := Tryd.underlying0
    a0 := Tryd.isAgg0
    z0 := Tryd.sizeOf0
    v0 := Tryd.zeroValue0
    t3 := Tryd.underlying3
    a3 := Tryd.isAgg3
    z3 := Tryd.sizeOf3
    v3 := Tryd.zeroValue3
    t4 := Tryd.underlying4
    a4 := Tryd.isAgg4
    z4 := Tryd.sizeOf4
    v4 := Tryd.zeroValue4
    t5 := Tryd.underlying5
    a5 := Tryd.isAgg5
    z5 := Tryd.sizeOf5
    v5 := Tryd.zeroValue5
    t9 := Tryd.underlying9
    a9 := Tryd.isAgg9
    z9 := Tryd.sizeOf9
    v9 := Tryd.zeroValue9
    t21 := Tryd.underlying21
    a21 := Tryd.isAgg21
    z21 := Tryd.sizeOf21
    v21 := Tryd.zeroValue21
    t46 := Tryd.underlying148
    a46 := Tryd.isAgg148
    z46 := Tryd.sizeOf148
    v46 := Tryd.zeroValue148
    t105 := Tryd.underlying145
    a105 := Tryd.isAgg145
    z105 := Tryd.sizeOf145
    v105 := Tryd.zeroValue145
    t116 := Tryd.underlying123
    a116 := Tryd.isAgg123
    z116 := Tryd.sizeOf123
    t117 := Tryd.underlying124
    a117 := Tryd.isAgg124
    z117 := Tryd.sizeOf124
    v117 := Tryd.zeroValue124
    t119 := Tryd.underlying157
    a119 := Tryd.isAgg157
    z119 := Tryd.sizeOf157
    t124 := Tryd.underlying127
    a124 := Tryd.isAgg127
    z124 := Tryd.sizeOf127
    v124 := Tryd.zeroValue127
    t138 := Tryd.underlying159
    a138 := Tryd.isAgg159
    z138 := Tryd.sizeOf159
    v138 := Tryd.zeroValue159
    t139 := Tryd.underlying160
    a139 := Tryd.isAgg160
    z139 := Tryd.sizeOf160
    v139 := Tryd.zeroValue160
    g3 := (by kernel_rfl)
    g4 := (by kernel_rfl) }
end Go.Proofs
