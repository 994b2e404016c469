/- What the claim stands on, part 10: rules of the walk, contracts of the functions, plain laws. -/
import Derived.Shelf.SlGeneric
import Derived.Shelf.SlIter.Nil
import Derived.Shelf.SortM.Plain
import Derived.Shelf.SortM.SortNone
import Derived.Shelf.Strings.SlTrimAscii
import Derived.Shelf.Strings.BuilderK
import Derived.Shelf.Strconv.Itoa4
import Derived.Shelf.Small.Strs
import Derived.Shelf.SlicesE.Index
import Derived.Shelf.SlSortCmp.NoneTotal
import Derived.Shelf.SlMaps.Clone
import Derived.Ground.GgzProg
import Derived.Ground.SlgmProg
import Derived.Ground.NamesProg
import Derived.Ground.SlmcProg
import Derived.Ground.SlsfProg
import Derived.Ground.SlgnProg
import Derived.Test.YtnfeemhpoaflfaaGreatDoorProg
import Derived.Test.YtnfeemhpoaflfaaGreatDoorKSums6
import Derived.Test.YtnfeemhpoaflfaaGreatDoorKSums4
import Derived.Lib.AppendStr
set_option linter.unusedVariables false
namespace Go.Proofs
open Go.Shelf
def Tryz.keys49_ren : Go.Shelf.Ren := ⟨fun | 7 => 49 | 10 => 64 | n => n, fun | 23 => 51 | 26 => 9 | 3 => 2 | 28 => 99 | 0 => 0 | 27 => 98 | 33 => 95 | 4 => 4 | n => n, fun | n => n⟩
theorem Tryz.keys49 : Go.Proofs.SlLaysZ.n7 Tryz.prog Tryz.keys49_ren := {
  mixed := by kernel_rfl
  f7 := ⟨Tryz.f49.name, by decide, Tryz.func49.trans (congrArg some (by kernel_rfl))⟩
  f10 := ⟨Tryz.f64.name, by decide, Tryz.func64.trans (congrArg some (by kernel_rfl))⟩
  t0 := Tryz.underlying0
  a0 := Tryz.isAgg0
  z0 := Tryz.sizeOf0
  v0 := Tryz.zeroValue0
  t4 := Tryz.underlying4
  a4 := Tryz.isAgg4
  z4 := Tryz.sizeOf4
  v4 := Tryz.zeroValue4
  t23 := Tryz.underlying51
  a23 := Tryz.isAgg51
  z23 := Tryz.sizeOf51
  v23 := Tryz.zeroValue51
  t26 := Tryz.underlying9
  a26 := Tryz.isAgg9
  z26 := Tryz.sizeOf9
  v26 := Tryz.zeroValue9
  t27 := Tryz.underlying98
  a27 := Tryz.isAgg98
  z27 := Tryz.sizeOf98
  v27 := Tryz.zeroValue98
  t28 := Tryz.underlying99
  a28 := Tryz.isAgg99
  z28 := Tryz.sizeOf99
  v28 := Tryz.zeroValue99
  t33 := Tryz.underlying95
  a33 := Tryz.isAgg95
  z33 := Tryz.sizeOf95
  v33 := Tryz.zeroValue95 }
def Tryz.sorted48_ren : Go.Shelf.Ren := ⟨fun | 6 => 48 | 8 => 62 | 9 => 63 | 11 => 81 | 13 => 72 | 12 => 82 | 23 => 96 | 24 => 84 | 14 => 101 | 15 => 102 | 16 => 103 | 17 => 104 | 18 => 105 | 19 => 106 | 20 => 107 | 21 => 108 | 22 => 109 | 25 => 120 | 26 => 113 | 27 => 114 | 28 => 121 | 29 => 122 | 30 => 123 | 31 => 129 | n => n, fun | 26 => 9 | 28 => 99 | 24 => 96 | 0 => 0 | 3 => 3 | 37 => 120 | 48 => 133 | 50 => 36 | 4 => 4 | 40 => 138 | 39 => 137 | 45 => 87 | 5 => 5 | 9 => 9 | 51 => 154 | 55 => 158 | 57 => 165 | 58 => 166 | 33 => 95 | n => n, fun | n => n⟩
theorem Tryz.sorted48 : Go.Proofs.SlLaysZ.n6 Tryz.prog Tryz.sorted48_ren := {
  mixed := by kernel_rfl
  f6 := ⟨Tryz.f48.name, by decide, Tryz.func48.trans (congrArg some (by kernel_rfl))⟩
  f8 := ⟨Tryz.f62.name, by decide, Tryz.func62.trans (congrArg some (by kernel_rfl))⟩
  f11 := ⟨Tryz.f81.name, by decide, Tryz.func81.trans (congrArg some (by kernel_rfl))⟩
  t0 := Tryz.underlying0
  a0 := Tryz.isAgg0
  z0 := Tryz.sizeOf0
  v0 := Tryz.zeroValue0
  t24 := Tryz.underlying96
  a24 := Tryz.isAgg96
  z24 := Tryz.sizeOf96
  v24 := Tryz.zeroValue96
  t26 := Tryz.underlying9
  a26 := Tryz.isAgg9
  z26 := Tryz.sizeOf9
  v26 := Tryz.zeroValue9
  t28 := Tryz.underlying99
  a28 := Tryz.isAgg99
  z28 := Tryz.sizeOf99
  v28 := Tryz.zeroValue99
  i26 := by kernel_rfl }
def Tryz.sort63_ren : Go.Shelf.Ren := ⟨fun | 6 => 63 | 8 => 72 | 9 => 82 | 19 => 96 | 20 => 84 | 21 => 101 | 22 => 102 | 23 => 103 | 24 => 104 | 25 => 105 | 26 => 106 | 27 => 107 | 28 => 108 | 29 => 109 | 36 => 120 | 31 => 113 | 32 => 114 | 37 => 121 | 38 => 122 | 39 => 123 | 41 => 129 | n => n, fun | 27 => 96 | 29 => 9 | 3 => 3 | 32 => 120 | 26 => 96 | 0 => 0 | 44 => 133 | 46 => 36 | 4 => 4 | 36 => 138 | 35 => 137 | 41 => 87 | 5 => 5 | 9 => 9 | 53 => 154 | 57 => 158 | 63 => 165 | 64 => 166 | n => n, fun | n => n⟩
theorem Tryz.sort63 : Go.Proofs.SlLaysM.n6 Tryz.prog Tryz.sort63_ren := {
  mixed := by kernel_rfl
  f6 := ⟨Tryz.f63.name, by decide, Tryz.func63.trans (congrArg some (by kernel_rfl))⟩
  f8 := Tryz.func72.trans (congrArg some (by kernel_rfl))
  f9 := ⟨Tryz.f82.name, by decide, Tryz.func82.trans (congrArg some (by kernel_rfl))⟩
  f19 := Tryz.func96.trans (congrArg some (by kernel_rfl))
  f20 := Tryz.func84.trans (congrArg some (by kernel_rfl))
  f21 := ⟨Tryz.f101.name, by decide, Tryz.func101.trans (congrArg some (by kernel_rfl))⟩
  f22 := ⟨Tryz.f102.name, by decide, Tryz.func102.trans (congrArg some (by kernel_rfl))⟩
  f23 := ⟨Tryz.f103.name, by decide, Tryz.func103.trans (congrArg some (by kernel_rfl))⟩
  f24 := ⟨Tryz.f104.name, by decide, Tryz.func104.trans (congrArg some (by kernel_rfl))⟩
  f25 := ⟨Tryz.f105.name, by decide, Tryz.func105.trans (congrArg some (by kernel_rfl))⟩
  f26 := ⟨Tryz.f106.name, by decide, Tryz.func106.trans (congrArg some (by kernel_rfl))⟩
  f27 := ⟨Tryz.f107.name, by decide, Tryz.func107.trans (congrArg some (by kernel_rfl))⟩
  f28 := ⟨Tryz.f108.name, by decide, Tryz.func108.trans (congrArg some (by kernel_rfl))⟩
  f29 := ⟨Tryz.f109.name, by decide, Tryz.func109.trans (congrArg some (by kernel_rfl))⟩
  f31 := Tryz.func113.trans (congrArg some (by kernel_rfl))
  f32 := Tryz.func114.trans (congrArg some (by kernel_rfl))
  f36 := ⟨Tryz.f120.name, by decide, Tryz.func120.trans (congrArg some (by kernel_rfl))⟩
  f37 := ⟨Tryz.f121.name, by decide, Tryz.func121.trans (congrArg some (by kernel_rfl))⟩
  f38 := ⟨Tryz.f122.name, by decide, Tryz.func122.trans (congrArg some (by kernel_rfl))⟩
  f39 := ⟨Tryz.f123.name, by decide, Tryz.func123.trans (congrArg some (by kernel_rfl))⟩
  f41 := ⟨Tryz.f129.name, by decide, Tryz.func129.trans (congrArg some (by kernel_rfl))⟩
  t0 := Tryz.underlying0
  a0 := Tryz.isAgg0
  z0 := Tryz.sizeOf0
  v0 := Tryz.zeroValue0
  t3 := Tryz.underlying3
  a3 := Tryz.isAgg3
  z3 := Tryz.sizeOf3
  v3 := Tryz.zeroValue3
  t4 := Tryz.underlying4
  a4 := Tryz.isAgg4
  z4 := Tryz.sizeOf4
  v4 := Tryz.zeroValue4
  t5 := Tryz.underlying5
  a5 := Tryz.isAgg5
  z5 := Tryz.sizeOf5
  v5 := Tryz.zeroValue5
  t9 := Tryz.underlying9
  a9 := Tryz.isAgg9
  z9 := Tryz.sizeOf9
  v9 := Tryz.zeroValue9
  t26 := Tryz.underlying96
  a26 := Tryz.isAgg96
  z26 := Tryz.sizeOf96
  v26 := Tryz.zeroValue96
  t27 := Tryz.underlying96
  a27 := Tryz.isAgg96
  z27 := Tryz.sizeOf96
  v27 := Tryz.zeroValue96
  t29 := Tryz.underlying9
  a29 := Tryz.isAgg9
  z29 := Tryz.sizeOf9
  v29 := Tryz.zeroValue9
  t32 := Tryz.underlying120
  a32 := Tryz.isAgg120
  z32 := Tryz.sizeOf120
  v32 := Tryz.zeroValue120
  t35 := Tryz.underlying137
  a35 := Tryz.isAgg137
  z35 := Tryz.sizeOf137
  v35 := Tryz.zeroValue137
  t36 := Tryz.underlying138
  a36 := Tryz.isAgg138
  z36 := Tryz.sizeOf138
  v36 := Tryz.zeroValue138
  t41 := Tryz.underlying87
  a41 := Tryz.isAgg87
  z41 := Tryz.sizeOf87
  v41 := Tryz.zeroValue87
  t44 := Tryz.underlying133
  a44 := Tryz.isAgg133
  z44 := Tryz.sizeOf133
  v44 := Tryz.zeroValue133
  t46 := Tryz.underlying36
  a46 := Tryz.isAgg36
  z46 := Tryz.sizeOf36
  v46 := Tryz.zeroValue36
  t53 := Tryz.underlying154
  a53 := Tryz.isAgg154
  z53 := Tryz.sizeOf154
  v53 := Tryz.zeroValue154
  t57 := Tryz.underlying158
  a57 := Tryz.isAgg158
  z57 := Tryz.sizeOf158
  v57 := Tryz.zeroValue158
  t63 := Tryz.underlying165
  a63 := Tryz.isAgg165
  z63 := Tryz.sizeOf165
  v63 := Tryz.zeroValue165
  t64 := Tryz.underlying166
  a64 := Tryz.isAgg166
  z64 := Tryz.sizeOf166
  v64 := Tryz.zeroValue166 }
def Tryz.clone35_ren : Go.Shelf.Ren := ⟨fun | 5 => 35 | 7 => 58 | n => n, fun | 23 => 51 | 25 => 9 | 3 => 2 | 4 => 4 | 20 => 20 | n => n, fun | n => n⟩
def Tryz.clone36_ren : Go.Shelf.Ren := ⟨fun | 5 => 36 | 7 => 58 | n => n, fun | 23 => 52 | 25 => 60 | 3 => 62 | 4 => 4 | 20 => 20 | n => n, fun | n => n⟩
def Tryz.sortf54_ren : Go.Shelf.Ren := ⟨fun | 6 => 54 | 15 => 72 | 14 => 71 | 28 => 96 | 29 => 84 | 20 => 88 | 21 => 89 | 22 => 90 | 23 => 91 | 24 => 92 | 25 => 93 | 26 => 94 | 27 => 95 | 46 => 112 | 47 => 113 | 48 => 114 | 49 => 115 | 50 => 116 | 57 => 124 | n => n, fun | 22 => 74 | 24 => 60 | 25 => 80 | 3 => 3 | 39 => 120 | 0 => 0 | 53 => 133 | 55 => 36 | 4 => 4 | 46 => 138 | 45 => 137 | 50 => 87 | 5 => 5 | 9 => 9 | 66 => 154 | 70 => 158 | 76 => 165 | 77 => 166 | n => n, fun | n => n⟩
theorem Tryz.sortf54 : Go.Proofs.SlLaysF0.n6 Tryz.prog Tryz.sortf54_ren := {
  mixed := by kernel_rfl
  f6 := ⟨Tryz.f54.name, by decide, Tryz.func54.trans (congrArg some (by kernel_rfl))⟩
  f14 := ⟨Tryz.f71.name, by decide, Tryz.func71.trans (congrArg some (by kernel_rfl))⟩
  f15 := Tryz.func72.trans (congrArg some (by kernel_rfl))
  f20 := ⟨Tryz.f88.name, by decide, Tryz.func88.trans (congrArg some (by kernel_rfl))⟩
  f21 := ⟨Tryz.f89.name, by decide, Tryz.func89.trans (congrArg some (by kernel_rfl))⟩
  f22 := ⟨Tryz.f90.name, by decide, Tryz.func90.trans (congrArg some (by kernel_rfl))⟩
  f23 := ⟨Tryz.f91.name, by decide, Tryz.func91.trans (congrArg some (by kernel_rfl))⟩
  f24 := ⟨Tryz.f92.name, by decide, Tryz.func92.trans (congrArg some (by kernel_rfl))⟩
  f25 := ⟨Tryz.f93.name, by decide, Tryz.func93.trans (congrArg some (by kernel_rfl))⟩
  f26 := ⟨Tryz.f94.name, by decide, Tryz.func94.trans (congrArg some (by kernel_rfl))⟩
  f27 := ⟨Tryz.f95.name, by decide, Tryz.func95.trans (congrArg some (by kernel_rfl))⟩
  f28 := Tryz.func96.trans (congrArg some (by kernel_rfl))
  f29 := Tryz.func84.trans (congrArg some (by kernel_rfl))
  f46 := ⟨Tryz.f112.name, by decide, Tryz.func112.trans (congrArg some (by kernel_rfl))⟩
  f47 := Tryz.func113.trans (congrArg some (by kernel_rfl))
  f48 := Tryz.func114.trans (congrArg some (by kernel_rfl))
  f49 := ⟨Tryz.f115.name, by decide, Tryz.func115.trans (congrArg some (by kernel_rfl))⟩
  f50 := ⟨Tryz.f116.name, by decide, Tryz.func116.trans (congrArg some (by kernel_rfl))⟩
  f57 := ⟨Tryz.f124.name, by decide, Tryz.func124.trans (congrArg some (by kernel_rfl))⟩
  t0 := Tryz.underlying0
  a0 := Tryz.isAgg0
  z0 := Tryz.sizeOf0
  v0 := Tryz.zeroValue0
  t3 := Tryz.underlying3
  a3 := Tryz.isAgg3
  z3 := Tryz.sizeOf3
  v3 := Tryz.zeroValue3
  t4 := Tryz.underlying4
  a4 := Tryz.isAgg4
  z4 := Tryz.sizeOf4
  v4 := Tryz.zeroValue4
  t5 := Tryz.underlying5
  a5 := Tryz.isAgg5
  z5 := Tryz.sizeOf5
  v5 := Tryz.zeroValue5
  t9 := Tryz.underlying9
  a9 := Tryz.isAgg9
  z9 := Tryz.sizeOf9
  v9 := Tryz.zeroValue9
  t22 := Tryz.underlying74
  a22 := Tryz.isAgg74
  z22 := Tryz.sizeOf74
  v22 := Tryz.zeroValue74
  t25 := Tryz.underlying80
  a25 := Tryz.isAgg80
  z25 := Tryz.sizeOf80
  v25 := Tryz.zeroValue80
  t39 := Tryz.underlying120
  a39 := Tryz.isAgg120
  z39 := Tryz.sizeOf120
  v39 := Tryz.zeroValue120
  t45 := Tryz.underlying137
  a45 := Tryz.isAgg137
  z45 := Tryz.sizeOf137
  v45 := Tryz.zeroValue137
  t46 := Tryz.underlying138
  a46 := Tryz.isAgg138
  z46 := Tryz.sizeOf138
  v46 := Tryz.zeroValue138
  t50 := Tryz.underlying87
  a50 := Tryz.isAgg87
  z50 := Tryz.sizeOf87
  v50 := Tryz.zeroValue87
  t53 := Tryz.underlying133
  a53 := Tryz.isAgg133
  z53 := Tryz.sizeOf133
  v53 := Tryz.zeroValue133
  t55 := Tryz.underlying36
  a55 := Tryz.isAgg36
  z55 := Tryz.sizeOf36
  v55 := Tryz.zeroValue36
  t66 := Tryz.underlying154
  a66 := Tryz.isAgg154
  z66 := Tryz.sizeOf154
  v66 := Tryz.zeroValue154
  t70 := Tryz.underlying158
  a70 := Tryz.isAgg158
  z70 := Tryz.sizeOf158
  v70 := Tryz.zeroValue158
  t76 := Tryz.underlying165
  a76 := Tryz.isAgg165
  z76 := Tryz.sizeOf165
  v76 := Tryz.zeroValue165
  t77 := Tryz.underlying166
  a77 := Tryz.isAgg166
  z77 := Tryz.sizeOf166
  v77 := Tryz.zeroValue166 }
def Tryz.contains44_ren : Go.Shelf.Ren := ⟨fun | 31 => 44 | 29 => 60 | n => n, fun | 22 => 93 | 23 => 27 | 4 => 4 | 3 => 3 | 0 => 0 | n => n, fun | n => n⟩
def Tryz.trim61_ren : Go.Shelf.Ren := ⟨fun | 160 => 61 | 232 => 75 | 231 => 74 | 227 => 76 | 234 => 78 | 233 => 77 | 236 => 80 | 235 => 79 | 228 => 97 | 271 => 100 | 151 => 99 | 197 => 98 | 120 => 119 | 152 => 118 | 260 => 117 | 137 => 125 | 119 => 126 | 224 => 127 | 225 => 128 | 217 => 130 | 266 => 131 | n => n, fun | 9 => 9 | 4 => 4 | 3 => 3 | 5 => 5 | 117 => 124 | 116 => 123 | 0 => 0 | 124 => 127 | 21 => 21 | 105 => 145 | 46 => 120 | 119 => 168 | 139 => 171 | 138 => 170 | n => n, fun | 3 => 4 | 4 => 5 | n => n⟩
theorem Tryz.trim61 : Go.Proofs.Lays.n160 Tryz.prog Tryz.trim61_ren := {
  mixed := by kernel_rfl
  f119 := Tryz.func126.trans (congrArg some (by kernel_rfl))
  f120 := Tryz.func119.trans (congrArg some (by kernel_rfl))
  f137 := Tryz.func125.trans (congrArg some (by kernel_rfl))
  f151 := Tryz.func99.trans (congrArg some (by kernel_rfl))
  f152 := Tryz.func118.trans (congrArg some (by kernel_rfl))
  f160 := Tryz.func61.trans (congrArg some (by kernel_rfl))
  f197 := Tryz.func98.trans (congrArg some (by kernel_rfl))
  f217 := Tryz.func130.trans (congrArg some (by kernel_rfl))
  f224 := Tryz.func127.trans (congrArg some (by kernel_rfl))
  f225 := Tryz.func128.trans (congrArg some (by kernel_rfl))
  f227 := Tryz.func76.trans (congrArg some (by kernel_rfl))
  f228 := Tryz.func97.trans (congrArg some (by kernel_rfl))
  f231 := Tryz.func74.trans (congrArg some (by kernel_rfl))
  f232 := Tryz.func75.trans (congrArg some (by kernel_rfl))
  f233 := Tryz.func77.trans (congrArg some (by kernel_rfl))
  f234 := Tryz.func78.trans (congrArg some (by kernel_rfl))
  f235 := Tryz.func79.trans (congrArg some (by kernel_rfl))
  f236 := Tryz.func80.trans (congrArg some (by kernel_rfl))
  f260 := Tryz.func117.trans (congrArg some (by kernel_rfl))
  f266 := Tryz.func131.trans (congrArg some (by kernel_rfl))
  f271 := Tryz.func100.trans (congrArg some (by kernel_rfl))
  t0 := Tryz.underlying0
  a0 := Tryz.isAgg0
  z0 := Tryz.sizeOf0
  v0 := Tryz.zeroValue0
  t3 := Tryz.underlying3
  a3 := Tryz.isAgg3
  z3 := Tryz.sizeOf3
  v3 := Tryz.zeroValue3
  t4 := Tryz.underlying4
  a4 := Tryz.isAgg4
  z4 := Tryz.sizeOf4
  v4 := Tryz.zeroValue4
  t5 := Tryz.underlying5
  a5 := Tryz.isAgg5
  z5 := Tryz.sizeOf5
  v5 := Tryz.zeroValue5
  t9 := Tryz.underlying9
  a9 := Tryz.isAgg9
  z9 := Tryz.sizeOf9
  v9 := Tryz.zeroValue9
  t21 := Tryz.underlying21
  a21 := Tryz.isAgg21
  z21 := Tryz.sizeOf21
  v21 := Tryz.zeroValue21
  t46 := Tryz.underlying120
  a46 := Tryz.isAgg120
  z46 := Tryz.sizeOf120
  v46 := Tryz.zeroValue120
  t105 := Tryz.underlying145
  a105 := Tryz.isAgg145
  z105 := Tryz.sizeOf145
  v105 := Tryz.zeroValue145
  t116 := Tryz.underlying123
  a116 := Tryz.isAgg123
  z116 := Tryz.sizeOf123
  t117 := Tryz.underlying124
  a117 := Tryz.isAgg124
  z117 := Tryz.sizeOf124
  v117 := Tryz.zeroValue124
  t119 := Tryz.underlying168
  a119 := Tryz.isAgg168
  z119 := Tryz.sizeOf168
  t124 := Tryz.underlying127
  a124 := Tryz.isAgg127
  z124 := Tryz.sizeOf127
  v124 := Tryz.zeroValue127
  t138 := Tryz.underlying170
  a138 := Tryz.isAgg170
  z138 := Tryz.sizeOf170
  v138 := Tryz.zeroValue170
  t139 := Tryz.underlying171
  a139 := Tryz.isAgg171
  z139 := Tryz.sizeOf171
  v139 := Tryz.zeroValue171
  g3 := by kernel_rfl
  g4 := by kernel_rfl }
def Tryz.compare31_ren : Go.Shelf.Ren := ⟨fun | 106 => 31 | 213 => 56 | 265 => 73 | n => n, fun | 9 => 9 | 3 => 3 | n => n, fun | n => n⟩
theorem Tryz.compare31 : Go.Proofs.Lays.n106 Tryz.prog Tryz.compare31_ren := {
  mixed := by kernel_rfl
  f106 := Tryz.func31.trans (congrArg some (by kernel_rfl))
  f213 := Tryz.func56.trans (congrArg some (by kernel_rfl))
  f265 := Tryz.func73.trans (congrArg some (by kernel_rfl))
  t3 := Tryz.underlying3
  a3 := Tryz.isAgg3
  z3 := Tryz.sizeOf3
  v3 := Tryz.zeroValue3
  t9 := Tryz.underlying9
  a9 := Tryz.isAgg9
  z9 := Tryz.sizeOf9
  v9 := Tryz.zeroValue9 }
def Tryz.fmtint27_ren : Go.Shelf.Ren := ⟨fun | 173 => 27 | 246 => 52 | 283 => 66 | 284 => 67 | 285 => 68 | 286 => 69 | 129 => 84 | 317 => 83 | 318 => 85 | 319 => 86 | 320 => 87 | 337 => 110 | 338 => 111 | n => n, fun | 2 => 2 | 3 => 3 | 9 => 9 | 4 => 4 | 171 => 112 | 0 => 0 | 53 => 36 | 37 => 66 | 5 => 5 | 173 => 115 | 212 => 132 | 51 => 133 | 20 => 20 | 213 => 134 | 46 => 120 | 232 => 163 | 233 => 164 | n => n, fun | 17 => 1 | 18 => 2 | 19 => 3 | n => n⟩
theorem Tryz.fmtint27 : Go.Proofs.LaysM.n173 Tryz.prog Tryz.fmtint27_ren := {
  mixed := by kernel_rfl
  f129 := Tryz.func84.trans (congrArg some (by kernel_rfl))
  f173 := Tryz.func27.trans (congrArg some (by kernel_rfl))
  f246 := Tryz.func52.trans (congrArg some (by kernel_rfl))
  f283 := Tryz.func66.trans (congrArg some (by kernel_rfl))
  f284 := Tryz.func67.trans (congrArg some (by kernel_rfl))
  f285 := Tryz.func68.trans (congrArg some (by kernel_rfl))
  f286 := Tryz.func69.trans (congrArg some (by kernel_rfl))
  f317 := Tryz.func83.trans (congrArg some (by kernel_rfl))
  f318 := Tryz.func85.trans (congrArg some (by kernel_rfl))
  f319 := Tryz.func86.trans (congrArg some (by kernel_rfl))
  f320 := Tryz.func87.trans (congrArg some (by kernel_rfl))
  f337 := Tryz.func110.trans (congrArg some (by kernel_rfl))
  f338 := Tryz.func111.trans (congrArg some (by kernel_rfl))
  t0 := Tryz.underlying0
  a0 := Tryz.isAgg0
  z0 := Tryz.sizeOf0
  v0 := Tryz.zeroValue0
  t2 := Tryz.underlying2
  a2 := Tryz.isAgg2
  z2 := Tryz.sizeOf2
  v2 := Tryz.zeroValue2
  t3 := Tryz.underlying3
  a3 := Tryz.isAgg3
  z3 := Tryz.sizeOf3
  v3 := Tryz.zeroValue3
  t4 := Tryz.underlying4
  a4 := Tryz.isAgg4
  z4 := Tryz.sizeOf4
  v4 := Tryz.zeroValue4
  t5 := Tryz.underlying5
  a5 := Tryz.isAgg5
  z5 := Tryz.sizeOf5
  v5 := Tryz.zeroValue5
  t9 := Tryz.underlying9
  a9 := Tryz.isAgg9
  z9 := Tryz.sizeOf9
  v9 := Tryz.zeroValue9
  t20 := Tryz.underlying20
  a20 := Tryz.isAgg20
  z20 := Tryz.sizeOf20
  v20 := Tryz.zeroValue20
  t37 := Tryz.underlying66
  a37 := Tryz.isAgg66
  z37 := Tryz.sizeOf66
  v37 := Tryz.zeroValue66
  t46 := Tryz.underlying120
  a46 := Tryz.isAgg120
  z46 := Tryz.sizeOf120
  v46 := Tryz.zeroValue120
  t51 := Tryz.underlying133
  a51 := Tryz.isAgg133
  z51 := Tryz.sizeOf133
  v51 := Tryz.zeroValue133
  t53 := Tryz.underlying36
  a53 := Tryz.isAgg36
  z53 := Tryz.sizeOf36
  v53 := Tryz.zeroValue36
  t171 := Tryz.underlying112
  a171 := Tryz.isAgg112
  z171 := Tryz.sizeOf112
  v171 := Tryz.zeroValue112
  t173 := Tryz.underlying115
  a173 := Tryz.isAgg115
  z173 := Tryz.sizeOf115
  v173 := Tryz.zeroValue115
  t212 := Tryz.underlying132
  a212 := Tryz.isAgg132
  z212 := Tryz.sizeOf132
  v212 := Tryz.zeroValue132
  t213 := Tryz.underlying134
  a213 := Tryz.isAgg134
  z213 := Tryz.sizeOf134
  t232 := Tryz.underlying163
  a232 := Tryz.isAgg163
  z232 := Tryz.sizeOf163
  v232 := Tryz.zeroValue163
  t233 := Tryz.underlying164
  a233 := Tryz.isAgg164
  z233 := Tryz.sizeOf164
  v233 := Tryz.zeroValue164
  g17 := by kernel_rfl
  g18 := by kernel_rfl
  g19 := by kernel_rfl
  i0 := by kernel_rfl
  i2 := by kernel_rfl
  i3 := by kernel_rfl
  i4 := by kernel_rfl
  i5 := by kernel_rfl
  i9 := by kernel_rfl
  i20 := by kernel_rfl
  i37 := by kernel_rfl
  i46 := by kernel_rfl
  i51 := by kernel_rfl
  i53 := by kernel_rfl
  i171 := by kernel_rfl
  i173 := by kernel_rfl
  i212 := by kernel_rfl
  i232 := by kernel_rfl
  i233 := by kernel_rfl
  m17 := by kernel_rfl
  m18 := by kernel_rfl
  m19 := by kernel_rfl }
def Tryz.itoa32_ren : Go.Shelf.Ren := ⟨fun | 171 => 32 | 243 => 57 | 246 => 52 | 283 => 66 | 284 => 67 | 285 => 68 | 286 => 69 | 129 => 84 | 317 => 83 | 318 => 85 | 319 => 86 | 320 => 87 | 337 => 110 | 338 => 111 | n => n, fun | 3 => 3 | 9 => 9 | 2 => 2 | 4 => 4 | 171 => 112 | 0 => 0 | 53 => 36 | 37 => 66 | 5 => 5 | 173 => 115 | 212 => 132 | 51 => 133 | 20 => 20 | 213 => 134 | 46 => 120 | 232 => 163 | 233 => 164 | n => n, fun | 17 => 1 | 18 => 2 | 19 => 3 | n => n⟩
theorem Tryz.itoa32 : Go.Proofs.Lays.n171 Tryz.prog Tryz.itoa32_ren := {
  mixed := by kernel_rfl
  f129 := Tryz.func84.trans (congrArg some (by kernel_rfl))
  f171 := Tryz.func32.trans (congrArg some (by kernel_rfl))
  f243 := Tryz.func57.trans (congrArg some (by kernel_rfl))
  f246 := Tryz.func52.trans (congrArg some (by kernel_rfl))
  f283 := Tryz.func66.trans (congrArg some (by kernel_rfl))
  f284 := Tryz.func67.trans (congrArg some (by kernel_rfl))
  f285 := Tryz.func68.trans (congrArg some (by kernel_rfl))
  f286 := Tryz.func69.trans (congrArg some (by kernel_rfl))
  f317 := Tryz.func83.trans (congrArg some (by kernel_rfl))
  f318 := Tryz.func85.trans (congrArg some (by kernel_rfl))
  f319 := Tryz.func86.trans (congrArg some (by kernel_rfl))
  f320 := Tryz.func87.trans (congrArg some (by kernel_rfl))
  f337 := Tryz.func110.trans (congrArg some (by kernel_rfl))
  f338 := Tryz.func111.trans (congrArg some (by kernel_rfl))
  t0 := Tryz.underlying0
  a0 := Tryz.isAgg0
  z0 := Tryz.sizeOf0
  v0 := Tryz.zeroValue0
  t2 := Tryz.underlying2
  a2 := Tryz.isAgg2
  z2 := Tryz.sizeOf2
  v2 := Tryz.zeroValue2
  t3 := Tryz.underlying3
  a3 := Tryz.isAgg3
  z3 := Tryz.sizeOf3
  v3 := Tryz.zeroValue3
  t4 := Tryz.underlying4
  a4 := Tryz.isAgg4
  z4 := Tryz.sizeOf4
  v4 := Tryz.zeroValue4
  t5 := Tryz.underlying5
  a5 := Tryz.isAgg5
  z5 := Tryz.sizeOf5
  v5 := Tryz.zeroValue5
  t9 := Tryz.underlying9
  a9 := Tryz.isAgg9
  z9 := Tryz.sizeOf9
  v9 := Tryz.zeroValue9
  t20 := Tryz.underlying20
  a20 := Tryz.isAgg20
  z20 := Tryz.sizeOf20
  v20 := Tryz.zeroValue20
  t37 := Tryz.underlying66
  a37 := Tryz.isAgg66
  z37 := Tryz.sizeOf66
  v37 := Tryz.zeroValue66
  t46 := Tryz.underlying120
  a46 := Tryz.isAgg120
  z46 := Tryz.sizeOf120
  v46 := Tryz.zeroValue120
  t51 := Tryz.underlying133
  a51 := Tryz.isAgg133
  z51 := Tryz.sizeOf133
  v51 := Tryz.zeroValue133
  t53 := Tryz.underlying36
  a53 := Tryz.isAgg36
  z53 := Tryz.sizeOf36
  v53 := Tryz.zeroValue36
  t171 := Tryz.underlying112
  a171 := Tryz.isAgg112
  z171 := Tryz.sizeOf112
  v171 := Tryz.zeroValue112
  t173 := Tryz.underlying115
  a173 := Tryz.isAgg115
  z173 := Tryz.sizeOf115
  v173 := Tryz.zeroValue115
  t212 := Tryz.underlying132
  a212 := Tryz.isAgg132
  z212 := Tryz.sizeOf132
  v212 := Tryz.zeroValue132
  t213 := Tryz.underlying134
  a213 := Tryz.isAgg134
  z213 := Tryz.sizeOf134
  t232 := Tryz.underlying163
  a232 := Tryz.isAgg163
  z232 := Tryz.sizeOf163
  v232 := Tryz.zeroValue163
  t233 := Tryz.underlying164
  a233 := Tryz.isAgg164
  z233 := Tryz.sizeOf164
  v233 := Tryz.zeroValue164
  g17 := by kernel_rfl
  g18 := by kernel_rfl
  g19 := by kernel_rfl }
def Tryz.bstring33_ren : Go.Shelf.Ren := ⟨fun | 169 => 33 | n => n, fun | 70 => 65 | 9 => 9 | 0 => 0 | 72 => 68 | 37 => 66 | 127 => 105 | 3 => 3 | 5 => 5 | n => n, fun | n => n⟩
theorem Tryz.bstring33 : Go.Proofs.Lays.n169 Tryz.prog Tryz.bstring33_ren := {
  mixed := by kernel_rfl
  f169 := Tryz.func33.trans (congrArg some (by kernel_rfl))
  t0 := Tryz.underlying0
  a0 := Tryz.isAgg0
  z0 := Tryz.sizeOf0
  v0 := Tryz.zeroValue0
  t3 := Tryz.underlying3
  a3 := Tryz.isAgg3
  z3 := Tryz.sizeOf3
  v3 := Tryz.zeroValue3
  t9 := Tryz.underlying9
  a9 := Tryz.isAgg9
  z9 := Tryz.sizeOf9
  v9 := Tryz.zeroValue9
  t37 := Tryz.underlying66
  a37 := Tryz.isAgg66
  z37 := Tryz.sizeOf66
  v37 := Tryz.zeroValue66
  t70 := Tryz.underlying65
  a70 := Tryz.isAgg65
  z70 := Tryz.sizeOf65
  v70 := Tryz.zeroValue65
  t72 := Tryz.underlying68
  a72 := Tryz.isAgg68
  z72 := Tryz.sizeOf68
  v72 := Tryz.zeroValue68
  t127 := Tryz.underlying105
  a127 := Tryz.isAgg105
  z127 := Tryz.sizeOf105
  v127 := Tryz.zeroValue105 }
theorem Tryz.bstring33_x : Builder.Extra Tryz.prog Tryz.bstring33_ren := {
  sizeBuilder := by kernel_rfl
  liesBuilder := by kernel_rfl
  t5 := Tryz.underlying5
  a5 := Tryz.isAgg5
  z5 := Tryz.sizeOf5
  v5 := Tryz.zeroValue5
  infoByte := by kernel_rfl
  cellsByte := by kernel_rfl
  sizeByte := by kernel_rfl
  neB5 := by decide }
def Tryz.bwrite26_ren : Go.Shelf.Ren := ⟨fun | 166 => 26 | 240 => 51 | 276 => 65 | n => n, fun | 0 => 0 | 3 => 3 | 4 => 4 | 9 => 9 | 20 => 20 | 37 => 66 | 70 => 65 | 72 => 68 | 75 => 70 | 164 => 110 | 80 => 33 | 5 => 5 | n => n, fun | n => n⟩
theorem Tryz.bwrite26 : Go.Proofs.Lays.n166 Tryz.prog Tryz.bwrite26_ren := {
  mixed := by kernel_rfl
  f166 := Tryz.func26.trans (congrArg some (by kernel_rfl))
  f240 := Tryz.func51.trans (congrArg some (by kernel_rfl))
  f276 := Tryz.func65.trans (congrArg some (by kernel_rfl))
  t0 := Tryz.underlying0
  a0 := Tryz.isAgg0
  z0 := Tryz.sizeOf0
  v0 := Tryz.zeroValue0
  t3 := Tryz.underlying3
  a3 := Tryz.isAgg3
  z3 := Tryz.sizeOf3
  v3 := Tryz.zeroValue3
  t4 := Tryz.underlying4
  a4 := Tryz.isAgg4
  z4 := Tryz.sizeOf4
  v4 := Tryz.zeroValue4
  t9 := Tryz.underlying9
  a9 := Tryz.isAgg9
  z9 := Tryz.sizeOf9
  v9 := Tryz.zeroValue9
  t20 := Tryz.underlying20
  a20 := Tryz.isAgg20
  z20 := Tryz.sizeOf20
  v20 := Tryz.zeroValue20
  t37 := Tryz.underlying66
  a37 := Tryz.isAgg66
  z37 := Tryz.sizeOf66
  v37 := Tryz.zeroValue66
  t70 := Tryz.underlying65
  a70 := Tryz.isAgg65
  z70 := Tryz.sizeOf65
  v70 := Tryz.zeroValue65
  t72 := Tryz.underlying68
  a72 := Tryz.isAgg68
  z72 := Tryz.sizeOf68
  v72 := Tryz.zeroValue68
  t75 := Tryz.underlying70
  a75 := Tryz.isAgg70
  z75 := Tryz.sizeOf70
  v75 := Tryz.zeroValue70
  t164 := Tryz.underlying110
  a164 := Tryz.isAgg110
  z164 := Tryz.sizeOf110
  v164 := Tryz.zeroValue110 }
theorem Tryz.bwrite26_x : Builder.Extra Tryz.prog Tryz.bwrite26_ren := {
  sizeBuilder := by kernel_rfl
  liesBuilder := by kernel_rfl
  t5 := Tryz.underlying5
  a5 := Tryz.isAgg5
  z5 := Tryz.sizeOf5
  v5 := Tryz.zeroValue5
  infoByte := by kernel_rfl
  cellsByte := by kernel_rfl
  sizeByte := by kernel_rfl
  neB5 := by decide }
end Go.Proofs
namespace Go.Proofs.YtnfeemhpoaflfaaGreatDoor
open Go.Q Go.RowKit

theorem Trim_calls (w : World) (s : List UInt8) (hs : s.length ≤ 9223372036854775807) : Calls Tryz.prog 61 ⟨[.string (str s), .string (str lettersB)]⟩ w (fun e w' => e = .returned (.string (str (Lib.trimS s lettersB))) ∧ Keeps none_ w w') :=
 (Go.Proofs.Any.strings_Trim_laid Go.Proofs.Tryz.trim61 (by kernel_rfl) (str s) (str lettersB) w hs (by decide) (Go.Proofs.ascii_of_all (by decide))).mono fun e w' ⟨he, hb⟩ => ⟨by rw [he]; rfl, Keeps.of_below hb⟩

theorem Name_calls (w : World) (n : List UInt8)  : Calls Tryz.prog 47 ⟨[(Value.string (str n))]⟩ w (fun e w' => e = .returned (.bool (nameOk n)) ∧ Keeps none_ w w') := by
 have K0 : Keeps none_ w w := Keeps.refl w
 refine q_calls Tryz.func47 (by kernel_rfl) (by kernel_rfl) ?_
 refine qs ?_
 refine qg ?_
 refine og 1 [(0, (Value.string (str n))), (2, (Value.bool false))] 1 ?_
 refine od ?_
 refine qs ?_
 refine qg ?_
 refine og 1 [(0, (Value.string (str n))), (2, (Value.bool false)), (3, (Value.string (str n)))] 1 ?_
 refine Ops.go (v := (Value.bool (!(n == ([] : List UInt8))))) (by kernel_rfl) (Runs.strne (t := 9) (by kernel_rfl)) (d := (some 4)) (by kernel_rfl) rfl ?_
 refine og 1 [(0, (Value.string (str n))), (2, (Value.bool false)), (5, (Value.bool (!(n == ([] : List UInt8)))))] 3 ?_
 refine Ops.split (!(n == ([] : List UInt8))) (fun h1 => ?_) (fun h1 => ?_)
 ·rw [h1]
  have p2 : (n == ([] : List UInt8)) = false := (bnot_true h1)
  refine og 5 [(0, (Value.string (str n))), (2, (Value.bool false)), (10, (Value.bool (decide (((n.length : Nat) : Int) ≤ 24))))] 8 ?_
  refine Ops.split (decide (((n.length : Nat) : Int) ≤ 24)) (fun h3 => ?_) (fun h3 => ?_)
  ·rw [h3]
   have p4 : ((n.length : Nat) : Int) ≤ 24 := of_decide_eq_true h3
   refine og 1 [(2, (Value.bool false)), (10, (Value.bool true)), (11, (Value.string (str n)))] 9 ?_
   refine Ops.call (by kernel_rfl) (d := (some 12)) (by kernel_rfl) (Trim_calls _ n (by omega)) ?_
   rintro _ w6 ⟨rfl, K5⟩
   refine ⟨_, _, rfl, rfl, ?_⟩
   replace K0 := K0.t0 K5
   clear K5
   refine Ops.go (v := (Value.bool ((Lib.trimS n lettersB) == ([] : List UInt8)))) (by kernel_rfl) (Runs.streq (t := 9) (by kernel_rfl)) (d := (some 13)) (by kernel_rfl) rfl ?_
   refine og 2 [(2, (Value.bool ((Lib.trimS n lettersB) == ([] : List UInt8))))] 13 ?_
   refine od ?_
   refine q_ret (by kernel_rfl) ?_
   refine ⟨(Value.bool ((Lib.trimS n lettersB) == ([] : List UInt8))), retv_tmp rfl rfl, ?_⟩
   have e : nameOk n = ((Lib.trimS n lettersB) == ([] : List UInt8)) := by unfold nameOk; rw [show decide (1 ≤ n.length ∧ n.length ≤ 24) = true from decide_eq_true ⟨by have := List.length_pos_iff.2 (show n ≠ [] by simp_all); omega, by omega⟩, Bool.true_and]; exact (trim_letters n).symm
   exact ⟨by rw [e], K0⟩
  ·rw [h3]
   have p7 : ¬ (((n.length : Nat) : Int) ≤ 24) := of_decide_eq_false h3
   refine og 5 [(2, (Value.bool false))] 13 ?_
   refine od ?_
   refine q_ret (by kernel_rfl) ?_
   refine ⟨(Value.bool false), retv_tmp rfl rfl, ?_⟩
   have e : nameOk n = false := by unfold nameOk; rw [Bool.and_eq_false_iff]; left; exact decide_eq_false (by intro h; first | omega | (subst_vars; simp at h) | (simp_all))
   exact ⟨by rw [e], K0⟩
 ·rw [h1]
  have p8 : (n == ([] : List UInt8)) = true := (bnot_false h1)
  refine og 10 [(2, (Value.bool false))] 13 ?_
  refine od ?_
  refine q_ret (by kernel_rfl) ?_
  refine ⟨(Value.bool false), retv_tmp rfl rfl, ?_⟩
  have e : nameOk n = false := by unfold nameOk; rw [Bool.and_eq_false_iff]; left; exact decide_eq_false (by intro h; first | omega | (subst_vars; simp at h) | (simp_all))
  exact ⟨by rw [e], K0⟩

theorem Keys_calls (w : World) (mb : Nat) : Calls Tryz.prog 49 ⟨[.map (some mb)]⟩ w (fun e w' => ∃ c, e = .returned (Value.func (Fn.func 64) ⟨[]⟩ ⟨[ptr c]⟩) ∧ Keeps none_ w w' ∧ Has w' c (rowL [.map (some mb)] 51) ∧ c = w.heap.size) :=
 (callsIn_wide.1 (AnyZ.keys_in Go.Proofs.Tryz.keys49 Fence.wide 5 trivial rfl (some mb) w)).mono fun e w' ⟨he, hw⟩ => ⟨_, he, by rw [hw]; exact Keeps.alloc _ _, by rw [hw]; exact Has.new _ _, rfl⟩

theorem Sorts (m : Nat) : AnyZ.SortsIn Tryz.prog Go.Proofs.Tryz.sorted48_ren Fence.wide m :=
 ⟨fun blk off cap ss W hH hblk hsz => callsIn_wide.2 (AnyM.slices_Sort_string Go.Proofs.Tryz.sort63 blk off cap ss W hH hblk hsz), fun p cap W => callsIn_wide.2 (AnyM.slices_Sort_string_none Go.Proofs.Tryz.sort63 p cap W)⟩

theorem Sorted_calls (w : World) (c mb : Nat) (m : List (List UInt8 × Int)) (S : List RowM) (Hc : Has w c (rowL [.map (some mb)] 51)) (Hm : HasMap w mb kstr ki64 m) (hL : LMap m S) (hl : S.length ≤ 1000) : Calls Tryz.prog 48 ⟨[Value.func (Fn.func 64) ⟨[]⟩ ⟨[ptr c]⟩]⟩ w (fun e w' => ∃ v, e = .returned v ∧ Keeps none_ w w' ∧ OwnT w' w.heap.size 9 1 kcell v (S.map (·.name))) := by
 obtain ⟨D, hown, hk, hs⟩ := Hm.owns (k := 9) Tryz.underlying9 (fun x hx => by have := hL.names_ok x hx; unfold maxLen; omega) (by have := hL.len; unfold maxLen; omega)
 have hml : m.length ≤ 1000 := by have := hL.len; omega
 have hseq := AnyZ.keys_gives (ρ := Go.Proofs.Tryz.keys49_ren) { Go.Proofs.Tryz.keys49 with } Fence.wide 2 trivial rfl (by omega) c mb m.length D w Hc.lt (by simpa using Hc.cell 0) hown
 have cS := AnyZ.sorted_in Go.Proofs.Tryz.sorted48 Fence.wide 5 trivial trivial trivial trivial rfl (by omega) (Sorts _) (enters_of Tryz.func63 (by kernel_rfl) rfl) 64 #[ptr c] trivial (enters_of Tryz.func64 (by kernel_rfl) rfl) _ (Maps.size D) (by rw [hs]; unfold maxLen; omega) (by rw [hs]; omega) w hseq
 refine (callsIn_wide.1 cS).mono ?_
 rintro e w' ⟨v, ss, rfl, hp, hrow, hnil, hb⟩
 have hp2 : ss.Perm (S.map (·.name)) := (hp.trans hk).trans (by rw [← wpair_map_fst]; exact (hL.perm.map (·.1)).symm)
 rw [sorted_namesW hL.led.sorted hp2] at hrow
 have hl : ss.length = (S.map (·.name)).length := hp2.length_eq
 refine ⟨v, rfl, Keeps.of_below hb, ?_⟩
 unfold OwnT
 rw [← hl, kcells]
 exact hrow
theorem tyR : ElemTy Tryz.prog 28 47 2 24 := elemTy (by kernel_rfl)

theorem rows_calls (w : World) (b mb kb : Nat) (m : List (List UInt8 × Int)) (S : List RowM) (Hb : Has w b (rowL [.map (some mb), .map (some kb)] 54)) (Hm : HasMap w mb kstr ki64 m) (hne : b ≠ mb) (hL : LMap m S) (hSl : S.length ≤ 1000) : Calls Tryz.prog 23 ⟨[(ptr b)]⟩ w (fun e w' => ∃ A c, e = .returned (.slice A S.length c) ∧ Keeps none_ w w' ∧ OwnR w' w.heap.size 47 (.slice A S.length c) S) := by
 have Hbl := Hb.lt
 have Hml := Hm.lt
 have hlen : (S.map (·.name)).length = S.length := List.length_map ..
 have K0 : Keeps none_ w w := Keeps.refl w
 refine q_calls Tryz.func23 (by kernel_rfl) (by kernel_rfl) ?_
 refine qs ?_
 refine qg ?_
 refine og 1 [(0, (ptr b)), (2, (Value.slice none 0 0))] 1 ?_
 refine od ?_
 refine qs ?_
 refine qg ?_
 refine og 1 [(0, (ptr b)), (2, (Value.slice none 0 0)), (3, (Value.slice none 0 0))] 1 ?_
 refine od ?_
 refine qs ?_
 refine qs ?_
 refine qg ?_
 refine og 3 [(0, (ptr b)), (2, (Value.slice none 0 0)), (3, (Value.slice none 0 0)), (8, (ptr b))] 3 ?_
 refine Ops.go (v := (Value.map (some mb))) (by kernel_rfl) (Runs.load (t := 51) (a := ⟨b, 0, none⟩) (by kernel_rfl) (Hb.loads (by kernel_rfl))) (d := (some 9)) (by kernel_rfl) rfl ?_
 refine Ops.call (by kernel_rfl) (d := (some 10)) (by kernel_rfl) (Keys_calls _ mb) ?_
 rintro _ w2 ⟨kc1, rfl, K3, H4, hc5⟩
 have lkc1b : b < kc1 := by have := Hb.lt; omega
 have lkc1mb : mb < kc1 := by have := Hm.lt; omega
 have nkc1 : w.heap.size ≤ kc1 := by have := K0.size; omega
 refine ⟨_, _, rfl, rfl, ?_⟩
 replace K0 := K0.t0 K3
 replace Hb := Hb.keep K3 (fun h => h)
 replace Hm := Hm.keep K3 (fun h => h)
 clear K3
 refine Ops.call (by kernel_rfl) (d := (some 11)) (by kernel_rfl) (Sorted_calls _ kc1 mb m S H4 Hm hL (by omega)) ?_
 rintro _ w9 ⟨v6, rfl, K10, hO11⟩
 obtain ⟨A7, c8, rfl⟩ := RdT.form kcell_len (by decide) (OwnT.rd hO11)
 have ob13 : ∀ i, ((Value.slice A7 ((S.map (·.name)).length) c8)).ownBlock = some i → i ≠ b := fun i hi => by have := (World.ownsRow.lt hO11 i hi).1; have := Hb.lt; omega
 have ob14 : ∀ i, ((Value.slice A7 ((S.map (·.name)).length) c8)).ownBlock = some i → i ≠ mb := fun i hi => by have := (World.ownsRow.lt hO11 i hi).1; have := Hm.lt; omega
 have ob15 : ∀ i, ((Value.slice A7 ((S.map (·.name)).length) c8)).ownBlock = some i → i ≠ kc1 := fun i hi => by have := (World.ownsRow.lt hO11 i hi).1; have := H4.lt; omega
 have O12 := own_base hO11 K0.size
 clear hO11
 refine ⟨_, _, rfl, rfl, ?_⟩
 replace K0 := K0.t0 K10
 replace Hb := Hb.keep K10 (fun h => h)
 replace Hm := Hm.keep K10 (fun h => h)
 replace H4 := H4.keep K10 (fun h => h)
 clear K10
 refine og 2 [(0, (ptr b)), (2, (Value.slice none 0 0)), (3, (Value.slice none 0 0)), (11, (Value.slice A7 ((S.map (·.name)).length) c8)), (12, (i64 (((S.map (·.name)).length : Nat) : Int))), (13, (i64 0))] 8 ?_
 refine od ?_
 refine q_block (id := 0) (by kernel_rfl) ?_
 refine q_keep (R := [(0, (ptr b)), (2, (Value.slice none 0 0)), (3, (Value.slice none 0 0)), (11, (Value.slice A7 ((S.map (·.name)).length) c8)), (12, (i64 (((S.map (·.name)).length : Nat) : Int))), (13, (i64 0))]) (by kernel_rfl) ?_
 refine q_loop (fun (gs : (Option Addr) × Nat × Nat × (List RowM)) L (wx : World) => match gs with | (VA, vc, i, l) => L = [(0, (ptr b)), (2, (Value.slice none 0 0)), (3, (Value.slice VA l.length vc)), (11, (Value.slice A7 ((S.map (·.name)).length) c8)), (12, (i64 (((S.map (·.name)).length : Nat) : Int))), (13, (i64 ((i : Nat) : Int)))] ∧ OwnT wx w.heap.size 9 1 kcell (Value.slice A7 ((S.map (·.name)).length) c8) (S.map (·.name)) ∧ (∀ i, ((Value.slice A7 ((S.map (·.name)).length) c8)).ownBlock = some i → i ≠ b) ∧ (∀ i, ((Value.slice A7 ((S.map (·.name)).length) c8)).ownBlock = some i → i ≠ mb) ∧ (∀ i, ((Value.slice A7 ((S.map (·.name)).length) c8)).ownBlock = some i → i ≠ kc1) ∧ (∀ i, ((Value.slice VA l.length vc)).ownBlock = some i → ((Value.slice A7 ((S.map (·.name)).length) c8)).ownBlock = some i → False) ∧ OwnR wx w.heap.size 47 (Value.slice VA l.length vc) l ∧ (∀ i, ((Value.slice VA l.length vc)).ownBlock = some i → i ≠ b) ∧ (∀ i, ((Value.slice VA l.length vc)).ownBlock = some i → i ≠ mb) ∧ (∀ i, ((Value.slice VA l.length vc)).ownBlock = some i → i ≠ kc1) ∧ (∀ i, ((Value.slice A7 ((S.map (·.name)).length) c8)).ownBlock = some i → ((Value.slice VA l.length vc)).ownBlock = some i → False) ∧ i ≤ S.length ∧ l = S.take i ∧ Keeps none_ w wx ∧ Has wx b (rowL [(Value.map (some mb)), (Value.map (some kb))] 54) ∧ HasMap wx mb kstr ki64 m ∧ Has wx kc1 (rowL [(Value.map (some mb))] 51)) (fun (gs : (Option Addr) × Nat × Nat × (List RowM)) => match gs with | (VA, vc, i, l) => S.length - i) (none, 0, 0, []) (by kernel_rfl) ⟨rfl, O12, ob13, ob14, ob15, (fun _ h => by cases h), (OwnT.nil _ _ _ _ _), (fun i hi => by cases hi), (fun i hi => by cases hi), (fun i hi => by cases hi), (fun _ _ h => by cases h), Nat.zero_le _, rfl, K0, Hb, Hm, H4⟩ ?_
 clear Hb Hm H4 O12 K0
 rintro ⟨VA, vc, i, l⟩ _ w16 ⟨rfl, hON, obNb, obNmb, obNkc1, ooNV, hOV, obVb, obVmb, obVkc1, ooVN, hi, hE, K17, H18, H19, H20⟩
 have hrl := congrArg List.length hE
 rw [List.length_take] at hrl
 refine qs ?_
 refine qg ?_
 refine og 1 [(0, (ptr b)), (2, (Value.slice none 0 0)), (3, (Value.slice VA l.length vc)), (11, (Value.slice A7 ((S.map (·.name)).length) c8)), (12, (i64 (((S.map (·.name)).length : Nat) : Int))), (13, (i64 ((i : Nat) : Int))), (14, (Value.bool (decide (((i : Nat) : Int) < (((S.map (·.name)).length : Nat) : Int)))))] 1 ?_
 refine od ?_
 refine qs ?_
 refine q_cond (o := .tmp 14) (b := (decide (((i : Nat) : Int) < (((S.map (·.name)).length : Nat) : Int)))) (by kernel_rfl) rfl (fun h21 => ?_) (fun h21 => ?_)
 ·rw [h21]
  have p22 : ((i : Nat) : Int) < (((S.map (·.name)).length : Nat) : Int) := of_decide_eq_true h21
  obtain ⟨a, ha⟩ : ∃ y, S[i]? = some y := ⟨_, List.getElem?_eq_getElem (by omega)⟩
  have hgm := hL.at_ ha
  have hao := hL.led.ok a (List.mem_of_getElem? ha)
  have hal := (nameOk_len hao.name).2
  have hna := nameW_at ha
  have hrt := takeR ha
  obtain ⟨rb23, ro24, hA25⟩ := Rd.addr (OwnT.rd hON) (by omega)
  refine q_skip (by kernel_rfl) ?_
  refine qs ?_
  refine q_block (id := 1) (by kernel_rfl) ?_
  refine qs ?_
  refine qg ?_
  refine Ops.go (by kernel_rfl) (Runs.ixSliceE (k := IntKind.i64) (t := 96) (len := ((S.map (·.name)).length)) (cap := c8) (s := 1) (off' := ro24 + i) (i := ((i : Nat) : Int)) hA25 (by kernel_rfl) (by kernel_rfl) (by omega) (by omega) (by omega)) (d := (some 15)) (by kernel_rfl) rfl ?_
  refine Ops.go (v := (Value.string (str a.name))) (by kernel_rfl) (Runs.load (t := 9) (a := ⟨rb23, ro24 + i, none⟩) (by kernel_rfl) (RdT.ld1 (f := kcell) (x := a.name) kcell_len (OwnT.rd hON) (by kernel_rfl) hA25 hna rfl)) (d := (some 16)) (by kernel_rfl) rfl ?_
  refine og 1 [(0, (ptr b)), (2, (Value.slice none 0 0)), (3, (Value.slice VA l.length vc)), (5, (Value.string (str a.name))), (11, (Value.slice A7 ((S.map (·.name)).length) c8)), (12, (i64 (((S.map (·.name)).length : Nat) : Int))), (13, (i64 ((i : Nat) : Int))), (14, (Value.bool true))] 3 ?_
  refine od ?_
  refine qg ?_
  refine og 5 [(0, (ptr b)), (2, (Value.slice none 0 0)), (3, (Value.slice VA l.length vc)), (5, (Value.string (str a.name))), (11, (Value.slice A7 ((S.map (·.name)).length) c8)), (12, (i64 (((S.map (·.name)).length : Nat) : Int))), (13, (i64 ((i : Nat) : Int))), (14, (Value.bool true)), (17, (Value.slice VA l.length vc)), (18, (Value.string (str a.name))), (21, (ptr b))] 5 ?_
  refine Ops.go (v := (Value.map (some mb))) (by kernel_rfl) (Runs.load (t := 51) (a := ⟨b, 0, none⟩) (by kernel_rfl) (H18.loads (by kernel_rfl))) (d := (some 22)) (by kernel_rfl) rfl ?_
  refine og 1 [(0, (ptr b)), (2, (Value.slice none 0 0)), (3, (Value.slice VA l.length vc)), (5, (Value.string (str a.name))), (11, (Value.slice A7 ((S.map (·.name)).length) c8)), (12, (i64 (((S.map (·.name)).length : Nat) : Int))), (13, (i64 ((i : Nat) : Int))), (14, (Value.bool true)), (17, (Value.slice VA l.length vc)), (18, (Value.string (str a.name))), (22, (Value.map (some mb))), (23, (Value.string (str a.name)))] 7 ?_
  refine Ops.go (v := (i64 a.amount)) (by kernel_rfl) (Runs.lookup_some (ok := false) (vf := ki64) (a := a.amount) KT Tryz.underlying51 H19 hgm (by kernel_rfl)) (d := (some 24)) (by kernel_rfl) rfl ?_
  refine og 1 [(0, (ptr b)), (2, (Value.slice none 0 0)), (3, (Value.slice VA l.length vc)), (5, (Value.string (str a.name))), (11, (Value.slice A7 ((S.map (·.name)).length) c8)), (12, (i64 (((S.map (·.name)).length : Nat) : Int))), (13, (i64 ((i : Nat) : Int))), (14, (Value.bool true)), (17, (Value.slice VA l.length vc)), (25, (agg [(Value.string (str a.name)), (i64 a.amount)]))] 9 ?_
  refine Ops.new (o := rowL [(Value.string (str a.name)), (i64 a.amount)] 47) (V := fun b => (Value.slice (some ⟨b, 0, none⟩) 1 1)) (by kernel_rfl) (d := (some 26)) (by kernel_rfl) (fun b => rfl) (fun b26 w27 hb28 H29 K30 hs31 => ?_)
  have lb26b : b < b26 := by have := H18.lt; omega
  have lb26mb : mb < b26 := by have := H19.lt; omega
  have lb26kc1 : kc1 < b26 := by have := H20.lt; omega
  have nb26 : w.heap.size ≤ b26 := by have := K17.size; omega
  have ob32 : ∀ i, ((Value.slice A7 ((S.map (·.name)).length) c8)).ownBlock = some i → i < b26 := fun i hi => by have := (World.ownsRow.lt hON i hi).2; omega
  have ob33 : ∀ i, ((Value.slice VA l.length vc)).ownBlock = some i → i < b26 := fun i hi => by have := (World.ownsRow.lt hOV i hi).2; omega
  replace K17 := K17.trans K30 (U := none_) (fun i h1 h2 => h2) (fun i h1 h2 => by exact h2)
  replace H18 := H18.keep K30 (fun h => h)
  replace H19 := H19.keep K30 (fun h => h)
  replace H20 := H20.keep K30 (fun h => h)
  replace hON := own_keep0 hON K30
  replace hOV := own_keep0 hOV K30
  clear K30 hs31
  obtain ⟨v34, w35, hr36, hO37, hK38, hg39⟩ := OwnT.app (ty := 28) RowM.two RowM.one tyR hOV (show RdT _ 2 RowM.cells _ [(⟨a.name, a.amount⟩ : RowM)] from Rd.lit H29 (n := 1) rfl (by decide)) (by simp only [List.length_cons, List.length_nil]; omega) (by simp only [List.length_cons, List.length_nil]; omega) K17.size
  obtain ⟨A41, c42, rfl⟩ := RdT.form RowM.two (by decide) (OwnT.rd hO37)
  have ob43 : ∀ i, ((Value.slice A41 ((l ++ [(⟨a.name, a.amount⟩ : RowM)]).length) c42)).ownBlock = some i → i ≠ b := fun i hi => by rcases hg39 i hi with h | h; (have := obVb i h; omega); (have := H18.lt; omega)
  have ob44 : ∀ i, ((Value.slice A41 ((l ++ [(⟨a.name, a.amount⟩ : RowM)]).length) c42)).ownBlock = some i → i ≠ mb := fun i hi => by rcases hg39 i hi with h | h; (have := obVmb i h; omega); (have := H19.lt; omega)
  have ob45 : ∀ i, ((Value.slice A41 ((l ++ [(⟨a.name, a.amount⟩ : RowM)]).length) c42)).ownBlock = some i → i ≠ kc1 := fun i hi => by rcases hg39 i hi with h | h; (have := obVkc1 i h; omega); (have := H20.lt; omega)
  have ob46 : ∀ i, ((Value.slice A41 ((l ++ [(⟨a.name, a.amount⟩ : RowM)]).length) c42)).ownBlock = some i → i ≠ b26 := fun i hi => by rcases hg39 i hi with h | h; (have := ob33 i h; omega); (have := H29.lt; omega)
  have oo47 : ∀ i, ((Value.slice A7 ((S.map (·.name)).length) c8)).ownBlock = some i → ((Value.slice A41 ((l ++ [(⟨a.name, a.amount⟩ : RowM)]).length) c42)).ownBlock = some i → False := fun i hi hs => by rcases hg39 i hs with h | h; (exact ooVN i hi h); (have := (World.ownsRow.lt hON i hi).2; omega)
  have oo48 : ∀ i, ((Value.slice A41 ((l ++ [(⟨a.name, a.amount⟩ : RowM)]).length) c42)).ownBlock = some i → ((Value.slice A7 ((S.map (·.name)).length) c8)).ownBlock = some i → False := fun i hi hs => oo47 i hs hi
  have K40 := hK38
  refine Ops.go (v := (Value.slice A41 ((l ++ [(⟨a.name, a.amount⟩ : RowM)]).length) c42)) (by kernel_rfl) (Runs.append (ts := #[28, 28]) (ty := 28) (vs := [(Value.slice VA l.length vc), (Value.slice (some ⟨b26, 0, none⟩) 1 1)]) (by kernel_rfl) hr36) (d := (some 27)) (by kernel_rfl) rfl ?_
  replace K17 := K17.trans K40 (U := none_) (fun i h1 h2 => h2) (fun i h1 h2 => by have h2 : ((Value.slice VA l.length vc)).ownBlock = some i := h2; exfalso; have := (World.ownsRow.lt hOV i h2).1; omega)
  replace H18 := H18.keep K40 (by intro h; change ((Value.slice VA l.length vc)).ownBlock = some b at h; have := obVb b h; omega)
  replace H19 := H19.keep K40 (by intro h; change ((Value.slice VA l.length vc)).ownBlock = some mb at h; have := obVmb mb h; omega)
  replace H20 := H20.keep K40 (by intro h; change ((Value.slice VA l.length vc)).ownBlock = some kc1 at h; have := obVkc1 kc1 h; omega)
  replace H29 := H29.keep K40 (by intro h; change ((Value.slice VA l.length vc)).ownBlock = some b26 at h; have := ob33 b26 h; omega)
  replace hON := own_keep hON K40 (fun i hi hs => by have hs : ((Value.slice VA l.length vc)).ownBlock = some i := hs; exact ooVN i hi hs)
  clear hOV
  clear K40 hr36 hK38 hg39
  refine og 1 [(0, (ptr b)), (2, (Value.slice none 0 0)), (3, (Value.slice A41 ((l ++ [(⟨a.name, a.amount⟩ : RowM)]).length) c42)), (5, (Value.string (str a.name))), (11, (Value.slice A7 ((S.map (·.name)).length) c8)), (12, (i64 (((S.map (·.name)).length : Nat) : Int))), (13, (i64 ((i : Nat) : Int))), (14, (Value.bool true))] 12 ?_
  refine od ?_
  refine qg ?_
  refine og 1 [(0, (ptr b)), (2, (Value.slice none 0 0)), (3, (Value.slice A41 ((l ++ [(⟨a.name, a.amount⟩ : RowM)]).length) c42)), (5, (Value.string (str a.name))), (11, (Value.slice A7 ((S.map (·.name)).length) c8)), (12, (i64 (((S.map (·.name)).length : Nat) : Int))), (13, (i64 ((i : Nat) : Int))), (14, (Value.bool true)), (28, (i64 (IntKind.i64.wrap (((i : Nat) : Int) + 1))))] 1 ?_
  have e49 : IntKind.i64.wrap (((i : Nat) : Int) + 1) = ((i + 1 : Nat) : Int) := by rw [wrap_i64 (by omega) (by omega)]; omega
  rw [e49]
  clear e49
  refine og 1 [(0, (ptr b)), (2, (Value.slice none 0 0)), (3, (Value.slice A41 ((l ++ [(⟨a.name, a.amount⟩ : RowM)]).length) c42)), (5, (Value.string (str a.name))), (11, (Value.slice A7 ((S.map (·.name)).length) c8)), (12, (i64 (((S.map (·.name)).length : Nat) : Int))), (13, (i64 ((i + 1 : Nat) : Int))), (14, (Value.bool true))] 2 ?_
  refine Ops.keep (R := [(0, (ptr b)), (2, (Value.slice none 0 0)), (3, (Value.slice A41 ((l ++ [(⟨a.name, a.amount⟩ : RowM)]).length) c42)), (11, (Value.slice A7 ((S.map (·.name)).length) c8)), (12, (i64 (((S.map (·.name)).length : Nat) : Int))), (13, (i64 ((i + 1 : Nat) : Int)))]) (by kernel_rfl) ?_
  refine od ?_
  exact ⟨(A41, c42, i + 1, l ++ [(⟨a.name, a.amount⟩ : RowM)]), ⟨rfl, hON, obNb, obNmb, obNkc1, oo48, hO37, ob43, ob44, ob45, oo47, (by omega), (by rw [hrt, ← hE]; first | done | rfl), K17, H18, H19, H20⟩, (show S.length - (i + 1) < S.length - i from by omega)⟩
 ·rw [h21]
  have p50 : ¬ (((i : Nat) : Int) < (((S.map (·.name)).length : Nat) : Int)) := of_decide_eq_false h21
  refine q_exit (id := 0) (by kernel_rfl) ?_
  refine qs ?_
  refine qg ?_
  refine og 2 [(2, (Value.slice VA l.length vc))] 2 ?_
  refine od ?_
  refine q_ret (by kernel_rfl) ?_
  refine ⟨(Value.slice VA l.length vc), retv_tmp rfl rfl, ?_⟩
  have e : l = S := by rw [hE, List.take_of_length_le (by omega)]
  rw [e] at hOV
  rw [e]
  exact ⟨_, _, rfl, K17, hOV⟩
end Go.Proofs.YtnfeemhpoaflfaaGreatDoor
namespace Go.Proofs.YtnfeemhpoaflfaaGreatDoor
open Go.Q Go.RowKit

theorem Wrong_calls (w : World) (o : Opm)  : Calls Tryz.prog 22 ⟨[(agg [(i64 o.kind), (Value.string (str o.frm)), (Value.string (str o.to)), (i64 o.amount), (Value.string (str o.key)), (i64 o.slot), (i64 o.shard)])]⟩ w (fun e w' => e = .returned (i64 (wrongE o)) ∧ Keeps none_ w w') := by
 have K0 : Keeps none_ w w := Keeps.refl w
 refine q_calls Tryz.func22 (by kernel_rfl) (by kernel_rfl) ?_
 refine qs ?_
 refine qg ?_
 refine Ops.new (o := rowL [(i64 o.kind), (Value.string (str o.frm)), (Value.string (str o.to)), (i64 o.amount), (Value.string (str o.key)), (i64 o.slot), (i64 o.shard)] 24) (V := fun b => (ptr b)) (by kernel_rfl) (d := (some 1)) (by kernel_rfl) (fun b => rfl) (fun b1 w2 hb3 H4 K5 hs6 => ?_)
 have nb1 : w.heap.size ≤ b1 := by have := K0.size; omega
 replace K0 := K0.t0 K5
 clear K5 hs6
 refine og 1 [(1, (ptr b1)), (2, (i64 0))] 2 ?_
 refine od ?_
 refine qs ?_
 refine qs ?_
 refine qg ?_
 refine og 1 [(1, (ptr b1)), (2, (i64 0)), (4, (ptr b1))] 1 ?_
 refine Ops.go (v := (i64 o.kind)) (by kernel_rfl) (Runs.load (t := 3) (a := ⟨b1, 0, none⟩) (by kernel_rfl) (H4.loads (by kernel_rfl))) (d := (some 5)) (by kernel_rfl) rfl ?_
 refine od ?_
 refine q_block (id := 0) (by kernel_rfl) ?_
 refine qs ?_
 refine qg ?_
 refine og 2 [(1, (ptr b1)), (2, (i64 0)), (5, (i64 o.kind)), (6, (Value.bool (o.kind == 6)))] 2 ?_
 refine od ?_
 refine q_cond (o := .tmp 6) (b := (o.kind == 6)) (by kernel_rfl) rfl (fun h7 => ?_) (fun h7 => ?_)
 ·rw [h7]
  have p8 : o.kind = 6 := of_beq_t h7
  refine qs ?_
  refine qg ?_
  refine og 1 [(1, (ptr b1)), (2, (i64 0)), (5, (i64 o.kind))] 1 ?_
  refine od ?_
  refine q_ret (by kernel_rfl) ?_
  refine ⟨(i64 0), retv_tmp rfl rfl, ?_⟩
  have e : wrongE o = 0 := by unfold wrongE; rw [if_pos (by omega)]
  exact ⟨by rw [e], K0⟩
 ·rw [h7]
  have p9 : ¬ (o.kind = 6) := of_beq_f h7
  refine qs ?_
  refine qg ?_
  refine og 2 [(1, (ptr b1)), (2, (i64 0)), (5, (i64 o.kind)), (8, (Value.bool (o.kind == 7)))] 2 ?_
  refine od ?_
  refine q_cond (o := .tmp 8) (b := (o.kind == 7)) (by kernel_rfl) rfl (fun h10 => ?_) (fun h10 => ?_)
  ·rw [h10]
   have p11 : o.kind = 7 := of_beq_t h10
   refine qs ?_
   refine qs ?_
   refine qg ?_
   refine og 1 [(1, (ptr b1)), (2, (i64 0)), (5, (i64 o.kind)), (10, (Value.pointer (some ⟨b1, 5, none⟩)))] 1 ?_
   refine Ops.go (v := (i64 o.slot)) (by kernel_rfl) (Runs.load (t := 3) (a := ⟨b1, 5, none⟩) (by kernel_rfl) (H4.loads (by kernel_rfl))) (d := (some 11)) (by kernel_rfl) rfl ?_
   refine og 2 [(1, (ptr b1)), (2, (i64 0)), (5, (i64 o.kind)), (13, (Value.bool (decide (o.slot < 0))))] 4 ?_
   refine Ops.split (decide (o.slot < 0)) (fun h12 => ?_) (fun h12 => ?_)
   ·rw [h12]
    have p13 : o.slot < 0 := of_decide_eq_true h12
    refine og 14 [(1, (ptr b1)), (2, (i64 0)), (5, (i64 o.kind)), (27, (Value.bool true))] 18 ?_
    refine od ?_
    refine q_then (o := .tmp 27) (by kernel_rfl) rfl ?_
    refine qs ?_
    refine qg ?_
    refine og 1 [(1, (ptr b1)), (2, (i64 1)), (5, (i64 o.kind))] 1 ?_
    refine od ?_
    refine q_ret (by kernel_rfl) ?_
    refine ⟨(i64 1), retv_tmp rfl rfl, ?_⟩
    have e : wrongE o = 1 := by unfold wrongE; rw [if_neg (by omega), if_pos (by omega), if_pos (by omega)]
    exact ⟨by rw [e], K0⟩
   ·rw [h12]
    have p14 : ¬ (o.slot < 0) := of_decide_eq_false h12
    refine og 1 [(1, (ptr b1)), (2, (i64 0)), (5, (i64 o.kind)), (13, (Value.bool false)), (14, (Value.pointer (some ⟨b1, 5, none⟩)))] 5 ?_
    refine Ops.go (v := (i64 o.slot)) (by kernel_rfl) (Runs.load (t := 3) (a := ⟨b1, 5, none⟩) (by kernel_rfl) (H4.loads (by kernel_rfl))) (d := (some 15)) (by kernel_rfl) rfl ?_
    refine og 3 [(1, (ptr b1)), (2, (i64 0)), (5, (i64 o.kind)), (18, (Value.bool (decide (o.slot ≥ 16))))] 9 ?_
    refine Ops.split (decide (o.slot ≥ 16)) (fun h15 => ?_) (fun h15 => ?_)
    ·rw [h15]
     have p16 : o.slot ≥ 16 := of_decide_eq_true h15
     refine og 9 [(1, (ptr b1)), (2, (i64 0)), (5, (i64 o.kind)), (27, (Value.bool true))] 18 ?_
     refine od ?_
     refine q_then (o := .tmp 27) (by kernel_rfl) rfl ?_
     refine qs ?_
     refine qg ?_
     refine og 1 [(1, (ptr b1)), (2, (i64 1)), (5, (i64 o.kind))] 1 ?_
     refine od ?_
     refine q_ret (by kernel_rfl) ?_
     refine ⟨(i64 1), retv_tmp rfl rfl, ?_⟩
     have e : wrongE o = 1 := by unfold wrongE; rw [if_neg (by omega), if_pos (by omega), if_pos (by omega)]
     exact ⟨by rw [e], K0⟩
    ·rw [h15]
     have p17 : ¬ (o.slot ≥ 16) := of_decide_eq_false h15
     refine og 1 [(1, (ptr b1)), (2, (i64 0)), (5, (i64 o.kind)), (18, (Value.bool false)), (19, (Value.pointer (some ⟨b1, 6, none⟩)))] 10 ?_
     refine Ops.go (v := (i64 o.shard)) (by kernel_rfl) (Runs.load (t := 3) (a := ⟨b1, 6, none⟩) (by kernel_rfl) (H4.loads (by kernel_rfl))) (d := (some 20)) (by kernel_rfl) rfl ?_
     refine og 3 [(1, (ptr b1)), (2, (i64 0)), (5, (i64 o.kind)), (23, (Value.bool (decide (o.shard < 1))))] 14 ?_
     refine Ops.split (decide (o.shard < 1)) (fun h18 => ?_) (fun h18 => ?_)
     ·rw [h18]
      have p19 : o.shard < 1 := of_decide_eq_true h18
      refine og 4 [(1, (ptr b1)), (2, (i64 0)), (5, (i64 o.kind)), (27, (Value.bool true))] 18 ?_
      refine od ?_
      refine q_then (o := .tmp 27) (by kernel_rfl) rfl ?_
      refine qs ?_
      refine qg ?_
      refine og 1 [(1, (ptr b1)), (2, (i64 1)), (5, (i64 o.kind))] 1 ?_
      refine od ?_
      refine q_ret (by kernel_rfl) ?_
      refine ⟨(i64 1), retv_tmp rfl rfl, ?_⟩
      have e : wrongE o = 1 := by unfold wrongE; rw [if_neg (by omega), if_pos (by omega), if_pos (by omega)]
      exact ⟨by rw [e], K0⟩
     ·rw [h18]
      have p20 : ¬ (o.shard < 1) := of_decide_eq_false h18
      refine og 1 [(1, (ptr b1)), (2, (i64 0)), (5, (i64 o.kind)), (23, (Value.bool false)), (24, (Value.pointer (some ⟨b1, 6, none⟩)))] 15 ?_
      refine Ops.go (v := (i64 o.shard)) (by kernel_rfl) (Runs.load (t := 3) (a := ⟨b1, 6, none⟩) (by kernel_rfl) (H4.loads (by kernel_rfl))) (d := (some 25)) (by kernel_rfl) rfl ?_
      refine og 2 [(1, (ptr b1)), (2, (i64 0)), (5, (i64 o.kind)), (27, (Value.bool (decide (o.shard > 3))))] 18 ?_
      refine od ?_
      refine q_cond (o := .tmp 27) (b := (decide (o.shard > 3))) (by kernel_rfl) rfl (fun h21 => ?_) (fun h21 => ?_)
      ·rw [h21]
       have p22 : o.shard > 3 := of_decide_eq_true h21
       refine qs ?_
       refine qg ?_
       refine og 1 [(1, (ptr b1)), (2, (i64 1)), (5, (i64 o.kind))] 1 ?_
       refine od ?_
       refine q_ret (by kernel_rfl) ?_
       refine ⟨(i64 1), retv_tmp rfl rfl, ?_⟩
       have e : wrongE o = 1 := by unfold wrongE; rw [if_neg (by omega), if_pos (by omega), if_pos (by omega)]
       exact ⟨by rw [e], K0⟩
      ·rw [h21]
       have p23 : ¬ (o.shard > 3) := of_decide_eq_false h21
       refine q_skip (by kernel_rfl) ?_
       refine qs ?_
       refine qg ?_
       refine og 1 [(1, (ptr b1)), (2, (i64 0)), (5, (i64 o.kind))] 1 ?_
       refine od ?_
       refine q_ret (by kernel_rfl) ?_
       refine ⟨(i64 0), retv_tmp rfl rfl, ?_⟩
       have e : wrongE o = 0 := by unfold wrongE; rw [if_neg (by omega), if_pos (by omega), if_neg (by omega)]
       exact ⟨by rw [e], K0⟩
  ·rw [h10]
   have p24 : ¬ (o.kind = 7) := of_beq_f h10
   refine qs ?_
   refine qs ?_
   refine qg ?_
   refine og 2 [(1, (ptr b1)), (2, (i64 0)), (5, (i64 o.kind)), (28, (Value.bool (o.kind == 1)))] 2 ?_
   refine od ?_
   refine q_cond (o := .tmp 28) (b := (o.kind == 1)) (by kernel_rfl) rfl (fun h25 => ?_) (fun h25 => ?_)
   ·rw [h25]
    have p26 : o.kind = 1 := of_beq_t h25
    refine q_skip (by kernel_rfl) ?_
    refine q_then (o := .tmp 28) (by kernel_rfl) rfl ?_
    refine q_skip (by kernel_rfl) ?_
    refine qs ?_
    refine qg ?_
    refine og 1 [(1, (ptr b1)), (2, (i64 0)), (34, (ptr b1))] 1 ?_
    refine Ops.go (v := (i64 o.kind)) (by kernel_rfl) (Runs.load (t := 3) (a := ⟨b1, 0, none⟩) (by kernel_rfl) (H4.loads (by kernel_rfl))) (d := (some 35)) (by kernel_rfl) rfl ?_
    refine og 2 [(1, (ptr b1)), (2, (i64 0)), (3, (Value.bool (o.kind == 4)))] 4 ?_
    refine od ?_
    refine qs ?_
    refine q_block (id := 1) (by kernel_rfl) ?_
    refine qs ?_
    refine qg ?_
    refine og 1 [(1, (ptr b1)), (2, (i64 0)), (3, (Value.bool (o.kind == 4))), (38, (Value.pointer (some ⟨b1, 1, none⟩)))] 1 ?_
    refine Ops.go (v := (Value.string (str o.frm))) (by kernel_rfl) (Runs.load (t := 9) (a := ⟨b1, 1, none⟩) (by kernel_rfl) (H4.loads (by kernel_rfl))) (d := (some 39)) (by kernel_rfl) rfl ?_
    refine Ops.call (by kernel_rfl) (d := (some 40)) (by kernel_rfl) (Name_calls _ o.frm) ?_
    rintro _ w28 ⟨rfl, K27⟩
    refine ⟨_, _, rfl, rfl, ?_⟩
    replace K0 := K0.t0 K27
    replace H4 := H4.keep K27 (fun h => h)
    clear K27
    refine og 2 [(1, (ptr b1)), (2, (i64 0)), (3, (Value.bool (o.kind == 4))), (37, (Value.bool (!(nameOk o.frm))))] 5 ?_
    refine od ?_
    refine q_cond (o := .tmp 37) (b := (!(nameOk o.frm))) (by kernel_rfl) rfl (fun h29 => ?_) (fun h29 => ?_)
    ·rw [h29]
     have p30 : (nameOk o.frm) = false := (bnot_true h29)
     refine qs ?_
     refine qg ?_
     refine og 1 [(1, (ptr b1)), (2, (i64 46)), (3, (Value.bool (o.kind == 4)))] 1 ?_
     refine od ?_
     refine q_ret (by kernel_rfl) ?_
     refine ⟨(i64 46), retv_tmp rfl rfl, ?_⟩
     have e : wrongE o = 46 := by unfold wrongE; rw [if_neg (by omega), if_neg (by omega), if_neg (by omega), if_pos (by assumption)]
     exact ⟨by rw [e], K0⟩
    ·rw [h29]
     have p31 : (nameOk o.frm) = true := (bnot_false h29)
     refine qs ?_
     refine qg ?_
     refine og 1 [(1, (ptr b1)), (2, (i64 0)), (3, (Value.bool (o.kind == 4))), (43, (ptr b1))] 1 ?_
     refine Ops.go (v := (i64 o.kind)) (by kernel_rfl) (Runs.load (t := 3) (a := ⟨b1, 0, none⟩) (by kernel_rfl) (H4.loads (by kernel_rfl))) (d := (some 44)) (by kernel_rfl) rfl ?_
     refine og 2 [(1, (ptr b1)), (2, (i64 0)), (3, (Value.bool (o.kind == 4))), (42, (Value.bool (o.kind == 5)))] 4 ?_
     refine od ?_
     refine q_cond (o := .tmp 42) (b := (o.kind == 5)) (by kernel_rfl) rfl (fun h32 => ?_) (fun h32 => ?_)
     ·rw [h32]
      have p33 : o.kind = 5 := of_beq_t h32
      refine qs ?_
      refine qg ?_
      refine og 1 [(1, (ptr b1)), (2, (i64 0)), (3, (Value.bool (o.kind == 4)))] 1 ?_
      refine od ?_
      refine q_ret (by kernel_rfl) ?_
      refine ⟨(i64 0), retv_tmp rfl rfl, ?_⟩
      exfalso; omega
     ·rw [h32]
      have p34 : ¬ (o.kind = 5) := of_beq_f h32
      refine qs ?_
      refine qs ?_
      refine qg ?_
      refine og 1 [(1, (ptr b1)), (2, (i64 0)), (3, (Value.bool (o.kind == 4))), (47, (Value.pointer (some ⟨b1, 4, none⟩)))] 1 ?_
      refine Ops.go (v := (Value.string (str o.key))) (by kernel_rfl) (Runs.load (t := 9) (a := ⟨b1, 4, none⟩) (by kernel_rfl) (H4.loads (by kernel_rfl))) (d := (some 48)) (by kernel_rfl) rfl ?_
      refine Ops.call (by kernel_rfl) (d := (some 49)) (by kernel_rfl) (Name_calls _ o.key) ?_
      rintro _ w36 ⟨rfl, K35⟩
      refine ⟨_, _, rfl, rfl, ?_⟩
      replace K0 := K0.t0 K35
      replace H4 := H4.keep K35 (fun h => h)
      clear K35
      refine og 2 [(1, (ptr b1)), (2, (i64 0)), (3, (Value.bool (o.kind == 4))), (46, (Value.bool (!(nameOk o.key))))] 5 ?_
      refine od ?_
      refine q_cond (o := .tmp 46) (b := (!(nameOk o.key))) (by kernel_rfl) rfl (fun h37 => ?_) (fun h37 => ?_)
      ·rw [h37]
       have p38 : (nameOk o.key) = false := (bnot_true h37)
       refine q_skip (by kernel_rfl) ?_
       refine q_then (o := .tmp 46) (by kernel_rfl) rfl ?_
       refine qs ?_
       refine qg ?_
       refine og 1 [(1, (ptr b1)), (2, (i64 46)), (3, (Value.bool (o.kind == 4)))] 1 ?_
       refine od ?_
       refine q_ret (by kernel_rfl) ?_
       refine ⟨(i64 46), retv_tmp rfl rfl, ?_⟩
       have e : wrongE o = 46 := by unfold wrongE; rw [if_neg (by omega), if_neg (by omega), if_neg (by omega), if_neg (ne_of_t (by assumption)), if_neg (by omega), if_pos (by assumption)]
       exact ⟨by rw [e], K0⟩
      ·rw [h37]
       have p39 : (nameOk o.key) = true := (bnot_false h37)
       refine qg ?_
       refine og 2 [(1, (ptr b1)), (2, (i64 0)), (3, (Value.bool (o.kind == 4))), (46, (Value.bool false)), (52, (Value.bool (o.kind == 4)))] 2 ?_
       refine Ops.split (o.kind == 4) (fun h40 => ?_) (fun h40 => ?_)
       ·rw [h40]
        have p41 : o.kind = 4 := of_beq_t h40
        refine og 1 [(1, (ptr b1)), (2, (i64 0)), (3, (Value.bool true)), (46, (Value.bool false)), (52, (Value.bool true)), (53, (Value.pointer (some ⟨b1, 2, none⟩)))] 3 ?_
        refine Ops.go (v := (Value.string (str o.to))) (by kernel_rfl) (Runs.load (t := 9) (a := ⟨b1, 2, none⟩) (by kernel_rfl) (H4.loads (by kernel_rfl))) (d := (some 54)) (by kernel_rfl) rfl ?_
        refine Ops.call (by kernel_rfl) (d := (some 55)) (by kernel_rfl) (Name_calls _ o.to) ?_
        rintro _ w43 ⟨rfl, K42⟩
        refine ⟨_, _, rfl, rfl, ?_⟩
        replace K0 := K0.t0 K42
        replace H4 := H4.keep K42 (fun h => h)
        clear K42
        refine og 3 [(1, (ptr b1)), (2, (i64 0)), (3, (Value.bool true)), (46, (Value.bool (!(nameOk o.to))))] 8 ?_
        refine od ?_
        refine q_cond (o := .tmp 46) (b := (!(nameOk o.to))) (by kernel_rfl) rfl (fun h44 => ?_) (fun h44 => ?_)
        ·rw [h44]
         have p45 : (nameOk o.to) = false := (bnot_true h44)
         refine qs ?_
         refine qg ?_
         refine og 1 [(1, (ptr b1)), (2, (i64 46)), (3, (Value.bool true))] 1 ?_
         refine od ?_
         refine q_ret (by kernel_rfl) ?_
         refine ⟨(i64 46), retv_tmp rfl rfl, ?_⟩
         exfalso; omega
        ·rw [h44]
         have p46 : (nameOk o.to) = true := (bnot_false h44)
         refine qs ?_
         refine qg ?_
         refine og 1 [(1, (ptr b1)), (2, (i64 0)), (3, (Value.bool true)), (59, (ptr b1))] 1 ?_
         refine Ops.go (v := (i64 o.kind)) (by kernel_rfl) (Runs.load (t := 3) (a := ⟨b1, 0, none⟩) (by kernel_rfl) (H4.loads (by kernel_rfl))) (d := (some 60)) (by kernel_rfl) rfl ?_
         refine og 2 [(1, (ptr b1)), (2, (i64 0)), (3, (Value.bool true)), (58, (Value.bool (o.kind == 1)))] 4 ?_
         refine od ?_
         rw [h25]
         refine q_then (o := .tmp 58) (by kernel_rfl) rfl ?_
         refine qs ?_
         refine qg ?_
         refine og 1 [(1, (ptr b1)), (2, (i64 0)), (3, (Value.bool true))] 1 ?_
         refine od ?_
         refine q_ret (by kernel_rfl) ?_
         refine ⟨(i64 0), retv_tmp rfl rfl, ?_⟩
         exfalso; omega
       ·rw [h40]
        have p47 : ¬ (o.kind = 4) := of_beq_f h40
        refine og 6 [(1, (ptr b1)), (2, (i64 0)), (3, (Value.bool false)), (46, (Value.bool false))] 8 ?_
        refine od ?_
        refine q_else (o := .tmp 46) (by kernel_rfl) rfl ?_
        refine qs ?_
        refine qg ?_
        refine og 1 [(1, (ptr b1)), (2, (i64 0)), (3, (Value.bool false)), (59, (ptr b1))] 1 ?_
        refine Ops.go (v := (i64 o.kind)) (by kernel_rfl) (Runs.load (t := 3) (a := ⟨b1, 0, none⟩) (by kernel_rfl) (H4.loads (by kernel_rfl))) (d := (some 60)) (by kernel_rfl) rfl ?_
        refine og 2 [(1, (ptr b1)), (2, (i64 0)), (3, (Value.bool false)), (58, (Value.bool (o.kind == 1)))] 4 ?_
        refine od ?_
        rw [h25]
        refine q_then (o := .tmp 58) (by kernel_rfl) rfl ?_
        refine qs ?_
        refine qg ?_
        refine og 1 [(1, (ptr b1)), (2, (i64 0)), (3, (Value.bool false))] 1 ?_
        refine od ?_
        refine q_ret (by kernel_rfl) ?_
        refine ⟨(i64 0), retv_tmp rfl rfl, ?_⟩
        have e : wrongE o = 0 := by unfold wrongE; rw [if_neg (by omega), if_neg (by omega), if_neg (by omega), if_neg (ne_of_t (by assumption)), if_neg (by omega), if_neg (ne_of_t (by assumption)), if_pos (by omega)]
        exact ⟨by rw [e], K0⟩
   ·rw [h25]
    have p48 : ¬ (o.kind = 1) := of_beq_f h25
    refine qs ?_
    refine qg ?_
    refine og 2 [(1, (ptr b1)), (2, (i64 0)), (5, (i64 o.kind)), (28, (Value.bool (o.kind == 2)))] 2 ?_
    refine od ?_
    refine q_cond (o := .tmp 28) (b := (o.kind == 2)) (by kernel_rfl) rfl (fun h49 => ?_) (fun h49 => ?_)
    ·rw [h49]
     have p50 : o.kind = 2 := of_beq_t h49
     refine q_skip (by kernel_rfl) ?_
     refine q_then (o := .tmp 28) (by kernel_rfl) rfl ?_
     refine q_skip (by kernel_rfl) ?_
     refine qs ?_
     refine qg ?_
     refine og 1 [(1, (ptr b1)), (2, (i64 0)), (34, (ptr b1))] 1 ?_
     refine Ops.go (v := (i64 o.kind)) (by kernel_rfl) (Runs.load (t := 3) (a := ⟨b1, 0, none⟩) (by kernel_rfl) (H4.loads (by kernel_rfl))) (d := (some 35)) (by kernel_rfl) rfl ?_
     refine og 2 [(1, (ptr b1)), (2, (i64 0)), (3, (Value.bool (o.kind == 4)))] 4 ?_
     refine od ?_
     refine qs ?_
     refine q_block (id := 1) (by kernel_rfl) ?_
     refine qs ?_
     refine qg ?_
     refine og 1 [(1, (ptr b1)), (2, (i64 0)), (3, (Value.bool (o.kind == 4))), (38, (Value.pointer (some ⟨b1, 1, none⟩)))] 1 ?_
     refine Ops.go (v := (Value.string (str o.frm))) (by kernel_rfl) (Runs.load (t := 9) (a := ⟨b1, 1, none⟩) (by kernel_rfl) (H4.loads (by kernel_rfl))) (d := (some 39)) (by kernel_rfl) rfl ?_
     refine Ops.call (by kernel_rfl) (d := (some 40)) (by kernel_rfl) (Name_calls _ o.frm) ?_
     rintro _ w52 ⟨rfl, K51⟩
     refine ⟨_, _, rfl, rfl, ?_⟩
     replace K0 := K0.t0 K51
     replace H4 := H4.keep K51 (fun h => h)
     clear K51
     refine og 2 [(1, (ptr b1)), (2, (i64 0)), (3, (Value.bool (o.kind == 4))), (37, (Value.bool (!(nameOk o.frm))))] 5 ?_
     refine od ?_
     refine q_cond (o := .tmp 37) (b := (!(nameOk o.frm))) (by kernel_rfl) rfl (fun h53 => ?_) (fun h53 => ?_)
     ·rw [h53]
      have p54 : (nameOk o.frm) = false := (bnot_true h53)
      refine qs ?_
      refine qg ?_
      refine og 1 [(1, (ptr b1)), (2, (i64 46)), (3, (Value.bool (o.kind == 4)))] 1 ?_
      refine od ?_
      refine q_ret (by kernel_rfl) ?_
      refine ⟨(i64 46), retv_tmp rfl rfl, ?_⟩
      have e : wrongE o = 46 := by unfold wrongE; rw [if_neg (by omega), if_neg (by omega), if_neg (by omega), if_pos (by assumption)]
      exact ⟨by rw [e], K0⟩
     ·rw [h53]
      have p55 : (nameOk o.frm) = true := (bnot_false h53)
      refine qs ?_
      refine qg ?_
      refine og 1 [(1, (ptr b1)), (2, (i64 0)), (3, (Value.bool (o.kind == 4))), (43, (ptr b1))] 1 ?_
      refine Ops.go (v := (i64 o.kind)) (by kernel_rfl) (Runs.load (t := 3) (a := ⟨b1, 0, none⟩) (by kernel_rfl) (H4.loads (by kernel_rfl))) (d := (some 44)) (by kernel_rfl) rfl ?_
      refine og 2 [(1, (ptr b1)), (2, (i64 0)), (3, (Value.bool (o.kind == 4))), (42, (Value.bool (o.kind == 5)))] 4 ?_
      refine od ?_
      refine q_cond (o := .tmp 42) (b := (o.kind == 5)) (by kernel_rfl) rfl (fun h56 => ?_) (fun h56 => ?_)
      ·rw [h56]
       have p57 : o.kind = 5 := of_beq_t h56
       refine qs ?_
       refine qg ?_
       refine og 1 [(1, (ptr b1)), (2, (i64 0)), (3, (Value.bool (o.kind == 4)))] 1 ?_
       refine od ?_
       refine q_ret (by kernel_rfl) ?_
       refine ⟨(i64 0), retv_tmp rfl rfl, ?_⟩
       exfalso; omega
      ·rw [h56]
       have p58 : ¬ (o.kind = 5) := of_beq_f h56
       refine qs ?_
       refine qs ?_
       refine qg ?_
       refine og 1 [(1, (ptr b1)), (2, (i64 0)), (3, (Value.bool (o.kind == 4))), (47, (Value.pointer (some ⟨b1, 4, none⟩)))] 1 ?_
       refine Ops.go (v := (Value.string (str o.key))) (by kernel_rfl) (Runs.load (t := 9) (a := ⟨b1, 4, none⟩) (by kernel_rfl) (H4.loads (by kernel_rfl))) (d := (some 48)) (by kernel_rfl) rfl ?_
       refine Ops.call (by kernel_rfl) (d := (some 49)) (by kernel_rfl) (Name_calls _ o.key) ?_
       rintro _ w60 ⟨rfl, K59⟩
       refine ⟨_, _, rfl, rfl, ?_⟩
       replace K0 := K0.t0 K59
       replace H4 := H4.keep K59 (fun h => h)
       clear K59
       refine og 2 [(1, (ptr b1)), (2, (i64 0)), (3, (Value.bool (o.kind == 4))), (46, (Value.bool (!(nameOk o.key))))] 5 ?_
       refine od ?_
       refine q_cond (o := .tmp 46) (b := (!(nameOk o.key))) (by kernel_rfl) rfl (fun h61 => ?_) (fun h61 => ?_)
       ·rw [h61]
        have p62 : (nameOk o.key) = false := (bnot_true h61)
        refine q_skip (by kernel_rfl) ?_
        refine q_then (o := .tmp 46) (by kernel_rfl) rfl ?_
        refine qs ?_
        refine qg ?_
        refine og 1 [(1, (ptr b1)), (2, (i64 46)), (3, (Value.bool (o.kind == 4)))] 1 ?_
        refine od ?_
        refine q_ret (by kernel_rfl) ?_
        refine ⟨(i64 46), retv_tmp rfl rfl, ?_⟩
        have e : wrongE o = 46 := by unfold wrongE; rw [if_neg (by omega), if_neg (by omega), if_neg (by omega), if_neg (ne_of_t (by assumption)), if_neg (by omega), if_pos (by assumption)]
        exact ⟨by rw [e], K0⟩
       ·rw [h61]
        have p63 : (nameOk o.key) = true := (bnot_false h61)
        refine qg ?_
        refine og 2 [(1, (ptr b1)), (2, (i64 0)), (3, (Value.bool (o.kind == 4))), (46, (Value.bool false)), (52, (Value.bool (o.kind == 4)))] 2 ?_
        refine Ops.split (o.kind == 4) (fun h64 => ?_) (fun h64 => ?_)
        ·rw [h64]
         have p65 : o.kind = 4 := of_beq_t h64
         refine og 1 [(1, (ptr b1)), (2, (i64 0)), (3, (Value.bool true)), (46, (Value.bool false)), (52, (Value.bool true)), (53, (Value.pointer (some ⟨b1, 2, none⟩)))] 3 ?_
         refine Ops.go (v := (Value.string (str o.to))) (by kernel_rfl) (Runs.load (t := 9) (a := ⟨b1, 2, none⟩) (by kernel_rfl) (H4.loads (by kernel_rfl))) (d := (some 54)) (by kernel_rfl) rfl ?_
         refine Ops.call (by kernel_rfl) (d := (some 55)) (by kernel_rfl) (Name_calls _ o.to) ?_
         rintro _ w67 ⟨rfl, K66⟩
         refine ⟨_, _, rfl, rfl, ?_⟩
         replace K0 := K0.t0 K66
         replace H4 := H4.keep K66 (fun h => h)
         clear K66
         refine og 3 [(1, (ptr b1)), (2, (i64 0)), (3, (Value.bool true)), (46, (Value.bool (!(nameOk o.to))))] 8 ?_
         refine od ?_
         refine q_cond (o := .tmp 46) (b := (!(nameOk o.to))) (by kernel_rfl) rfl (fun h68 => ?_) (fun h68 => ?_)
         ·rw [h68]
          have p69 : (nameOk o.to) = false := (bnot_true h68)
          refine qs ?_
          refine qg ?_
          refine og 1 [(1, (ptr b1)), (2, (i64 46)), (3, (Value.bool true))] 1 ?_
          refine od ?_
          refine q_ret (by kernel_rfl) ?_
          refine ⟨(i64 46), retv_tmp rfl rfl, ?_⟩
          exfalso; omega
         ·rw [h68]
          have p70 : (nameOk o.to) = true := (bnot_false h68)
          refine qs ?_
          refine qg ?_
          refine og 1 [(1, (ptr b1)), (2, (i64 0)), (3, (Value.bool true)), (59, (ptr b1))] 1 ?_
          refine Ops.go (v := (i64 o.kind)) (by kernel_rfl) (Runs.load (t := 3) (a := ⟨b1, 0, none⟩) (by kernel_rfl) (H4.loads (by kernel_rfl))) (d := (some 60)) (by kernel_rfl) rfl ?_
          refine og 2 [(1, (ptr b1)), (2, (i64 0)), (3, (Value.bool true)), (58, (Value.bool (o.kind == 1)))] 4 ?_
          refine od ?_
          rw [h25]
          refine q_else (o := .tmp 58) (by kernel_rfl) rfl ?_
          refine qs ?_
          refine qg ?_
          refine og 1 [(1, (ptr b1)), (2, (i64 0)), (3, (Value.bool true)), (63, (Value.pointer (some ⟨b1, 3, none⟩)))] 1 ?_
          refine Ops.go (v := (i64 o.amount)) (by kernel_rfl) (Runs.load (t := 2) (a := ⟨b1, 3, none⟩) (by kernel_rfl) (H4.loads (by kernel_rfl))) (d := (some 64)) (by kernel_rfl) rfl ?_
          refine og 2 [(1, (ptr b1)), (2, (i64 0)), (3, (Value.bool true)), (62, (Value.bool (decide (o.amount < 1))))] 4 ?_
          refine od ?_
          refine q_cond (o := .tmp 62) (b := (decide (o.amount < 1))) (by kernel_rfl) rfl (fun h71 => ?_) (fun h71 => ?_)
          ·rw [h71]
           have p72 : o.amount < 1 := of_decide_eq_true h71
           refine qs ?_
           refine qg ?_
           refine og 1 [(1, (ptr b1)), (2, (i64 47)), (3, (Value.bool true))] 1 ?_
           refine od ?_
           refine q_ret (by kernel_rfl) ?_
           refine ⟨(i64 47), retv_tmp rfl rfl, ?_⟩
           exfalso; omega
          ·rw [h71]
           have p73 : ¬ (o.amount < 1) := of_decide_eq_false h71
           refine qs ?_
           refine qg ?_
           refine og 3 [(1, (ptr b1)), (2, (i64 0)), (68, (Value.bool true)), (69, (Value.pointer (some ⟨b1, 1, none⟩)))] 3 ?_
           refine Ops.go (v := (Value.string (str o.frm))) (by kernel_rfl) (Runs.load (t := 9) (a := ⟨b1, 1, none⟩) (by kernel_rfl) (H4.loads (by kernel_rfl))) (d := (some 70)) (by kernel_rfl) rfl ?_
           refine og 1 [(2, (i64 0)), (68, (Value.bool true)), (70, (Value.string (str o.frm))), (71, (Value.pointer (some ⟨b1, 2, none⟩)))] 5 ?_
           refine Ops.go (v := (Value.string (str o.to))) (by kernel_rfl) (Runs.load (t := 9) (a := ⟨b1, 2, none⟩) (by kernel_rfl) (H4.loads (by kernel_rfl))) (d := (some 72)) (by kernel_rfl) rfl ?_
           refine Ops.go (v := (Value.bool (o.frm == o.to))) (by kernel_rfl) (Runs.streq (t := 9) (by kernel_rfl)) (d := (some 73)) (by kernel_rfl) rfl ?_
           refine og 2 [(2, (i64 0)), (66, (Value.bool (o.frm == o.to)))] 9 ?_
           refine od ?_
           refine q_cond (o := .tmp 66) (b := (o.frm == o.to)) (by kernel_rfl) rfl (fun h74 => ?_) (fun h74 => ?_)
           ·rw [h74]
            have p75 : (o.frm == o.to) = true := h74
            refine qs ?_
            refine qg ?_
            refine og 1 [(2, (i64 44))] 1 ?_
            refine od ?_
            refine q_ret (by kernel_rfl) ?_
            refine ⟨(i64 44), retv_tmp rfl rfl, ?_⟩
            exfalso; omega
           ·rw [h74]
            have p76 : (o.frm == o.to) = false := h74
            refine q_skip (by kernel_rfl) ?_
            refine qs ?_
            refine qg ?_
            refine og 1 [(2, (i64 0))] 1 ?_
            refine od ?_
            refine q_ret (by kernel_rfl) ?_
            refine ⟨(i64 0), retv_tmp rfl rfl, ?_⟩
            exfalso; omega
        ·rw [h64]
         have p77 : ¬ (o.kind = 4) := of_beq_f h64
         refine og 6 [(1, (ptr b1)), (2, (i64 0)), (3, (Value.bool false)), (46, (Value.bool false))] 8 ?_
         refine od ?_
         refine q_else (o := .tmp 46) (by kernel_rfl) rfl ?_
         refine qs ?_
         refine qg ?_
         refine og 1 [(1, (ptr b1)), (2, (i64 0)), (3, (Value.bool false)), (59, (ptr b1))] 1 ?_
         refine Ops.go (v := (i64 o.kind)) (by kernel_rfl) (Runs.load (t := 3) (a := ⟨b1, 0, none⟩) (by kernel_rfl) (H4.loads (by kernel_rfl))) (d := (some 60)) (by kernel_rfl) rfl ?_
         refine og 2 [(1, (ptr b1)), (2, (i64 0)), (3, (Value.bool false)), (58, (Value.bool (o.kind == 1)))] 4 ?_
         refine od ?_
         rw [h25]
         refine q_else (o := .tmp 58) (by kernel_rfl) rfl ?_
         refine qs ?_
         refine qg ?_
         refine og 1 [(1, (ptr b1)), (2, (i64 0)), (3, (Value.bool false)), (63, (Value.pointer (some ⟨b1, 3, none⟩)))] 1 ?_
         refine Ops.go (v := (i64 o.amount)) (by kernel_rfl) (Runs.load (t := 2) (a := ⟨b1, 3, none⟩) (by kernel_rfl) (H4.loads (by kernel_rfl))) (d := (some 64)) (by kernel_rfl) rfl ?_
         refine og 2 [(1, (ptr b1)), (2, (i64 0)), (3, (Value.bool false)), (62, (Value.bool (decide (o.amount < 1))))] 4 ?_
         refine od ?_
         refine q_cond (o := .tmp 62) (b := (decide (o.amount < 1))) (by kernel_rfl) rfl (fun h78 => ?_) (fun h78 => ?_)
         ·rw [h78]
          have p79 : o.amount < 1 := of_decide_eq_true h78
          refine qs ?_
          refine qg ?_
          refine og 1 [(1, (ptr b1)), (2, (i64 47)), (3, (Value.bool false))] 1 ?_
          refine od ?_
          refine q_ret (by kernel_rfl) ?_
          refine ⟨(i64 47), retv_tmp rfl rfl, ?_⟩
          have e : wrongE o = 47 := by unfold wrongE; rw [if_neg (by omega), if_neg (by omega), if_neg (by omega), if_neg (ne_of_t (by assumption)), if_neg (by omega), if_neg (ne_of_t (by assumption)), if_neg (by omega), if_neg (by omega), if_pos (by omega)]
          exact ⟨by rw [e], K0⟩
         ·rw [h78]
          have p80 : ¬ (o.amount < 1) := of_decide_eq_false h78
          refine qs ?_
          refine qg ?_
          refine og 9 [(2, (i64 0)), (66, (Value.bool false))] 9 ?_
          refine od ?_
          refine q_else (o := .tmp 66) (by kernel_rfl) rfl ?_
          refine q_skip (by kernel_rfl) ?_
          refine qs ?_
          refine qg ?_
          refine og 1 [(2, (i64 0))] 1 ?_
          refine od ?_
          refine q_ret (by kernel_rfl) ?_
          refine ⟨(i64 0), retv_tmp rfl rfl, ?_⟩
          have e : wrongE o = 0 := by unfold wrongE; rw [if_neg (by omega), if_neg (by omega), if_neg (by omega), if_neg (ne_of_t (by assumption)), if_neg (by omega), if_neg (ne_of_t (by assumption)), if_neg (by omega), if_neg (by omega), if_neg (by omega), if_neg (by omega)]
          exact ⟨by rw [e], K0⟩
    ·rw [h49]
     have p81 : ¬ (o.kind = 2) := of_beq_f h49
     refine qs ?_
     refine qg ?_
     refine og 2 [(1, (ptr b1)), (2, (i64 0)), (5, (i64 o.kind)), (28, (Value.bool (o.kind == 3)))] 2 ?_
     refine od ?_
     refine q_cond (o := .tmp 28) (b := (o.kind == 3)) (by kernel_rfl) rfl (fun h82 => ?_) (fun h82 => ?_)
     ·rw [h82]
      have p83 : o.kind = 3 := of_beq_t h82
      refine q_skip (by kernel_rfl) ?_
      refine q_then (o := .tmp 28) (by kernel_rfl) rfl ?_
      refine q_skip (by kernel_rfl) ?_
      refine qs ?_
      refine qg ?_
      refine og 1 [(1, (ptr b1)), (2, (i64 0)), (34, (ptr b1))] 1 ?_
      refine Ops.go (v := (i64 o.kind)) (by kernel_rfl) (Runs.load (t := 3) (a := ⟨b1, 0, none⟩) (by kernel_rfl) (H4.loads (by kernel_rfl))) (d := (some 35)) (by kernel_rfl) rfl ?_
      refine og 2 [(1, (ptr b1)), (2, (i64 0)), (3, (Value.bool (o.kind == 4)))] 4 ?_
      refine od ?_
      refine qs ?_
      refine q_block (id := 1) (by kernel_rfl) ?_
      refine qs ?_
      refine qg ?_
      refine og 1 [(1, (ptr b1)), (2, (i64 0)), (3, (Value.bool (o.kind == 4))), (38, (Value.pointer (some ⟨b1, 1, none⟩)))] 1 ?_
      refine Ops.go (v := (Value.string (str o.frm))) (by kernel_rfl) (Runs.load (t := 9) (a := ⟨b1, 1, none⟩) (by kernel_rfl) (H4.loads (by kernel_rfl))) (d := (some 39)) (by kernel_rfl) rfl ?_
      refine Ops.call (by kernel_rfl) (d := (some 40)) (by kernel_rfl) (Name_calls _ o.frm) ?_
      rintro _ w85 ⟨rfl, K84⟩
      refine ⟨_, _, rfl, rfl, ?_⟩
      replace K0 := K0.t0 K84
      replace H4 := H4.keep K84 (fun h => h)
      clear K84
      refine og 2 [(1, (ptr b1)), (2, (i64 0)), (3, (Value.bool (o.kind == 4))), (37, (Value.bool (!(nameOk o.frm))))] 5 ?_
      refine od ?_
      refine q_cond (o := .tmp 37) (b := (!(nameOk o.frm))) (by kernel_rfl) rfl (fun h86 => ?_) (fun h86 => ?_)
      ·rw [h86]
       have p87 : (nameOk o.frm) = false := (bnot_true h86)
       refine qs ?_
       refine qg ?_
       refine og 1 [(1, (ptr b1)), (2, (i64 46)), (3, (Value.bool (o.kind == 4)))] 1 ?_
       refine od ?_
       refine q_ret (by kernel_rfl) ?_
       refine ⟨(i64 46), retv_tmp rfl rfl, ?_⟩
       have e : wrongE o = 46 := by unfold wrongE; rw [if_neg (by omega), if_neg (by omega), if_neg (by omega), if_pos (by assumption)]
       exact ⟨by rw [e], K0⟩
      ·rw [h86]
       have p88 : (nameOk o.frm) = true := (bnot_false h86)
       refine qs ?_
       refine qg ?_
       refine og 1 [(1, (ptr b1)), (2, (i64 0)), (3, (Value.bool (o.kind == 4))), (43, (ptr b1))] 1 ?_
       refine Ops.go (v := (i64 o.kind)) (by kernel_rfl) (Runs.load (t := 3) (a := ⟨b1, 0, none⟩) (by kernel_rfl) (H4.loads (by kernel_rfl))) (d := (some 44)) (by kernel_rfl) rfl ?_
       refine og 2 [(1, (ptr b1)), (2, (i64 0)), (3, (Value.bool (o.kind == 4))), (42, (Value.bool (o.kind == 5)))] 4 ?_
       refine od ?_
       refine q_cond (o := .tmp 42) (b := (o.kind == 5)) (by kernel_rfl) rfl (fun h89 => ?_) (fun h89 => ?_)
       ·rw [h89]
        have p90 : o.kind = 5 := of_beq_t h89
        refine qs ?_
        refine qg ?_
        refine og 1 [(1, (ptr b1)), (2, (i64 0)), (3, (Value.bool (o.kind == 4)))] 1 ?_
        refine od ?_
        refine q_ret (by kernel_rfl) ?_
        refine ⟨(i64 0), retv_tmp rfl rfl, ?_⟩
        exfalso; omega
       ·rw [h89]
        have p91 : ¬ (o.kind = 5) := of_beq_f h89
        refine qs ?_
        refine qs ?_
        refine qg ?_
        refine og 1 [(1, (ptr b1)), (2, (i64 0)), (3, (Value.bool (o.kind == 4))), (47, (Value.pointer (some ⟨b1, 4, none⟩)))] 1 ?_
        refine Ops.go (v := (Value.string (str o.key))) (by kernel_rfl) (Runs.load (t := 9) (a := ⟨b1, 4, none⟩) (by kernel_rfl) (H4.loads (by kernel_rfl))) (d := (some 48)) (by kernel_rfl) rfl ?_
        refine Ops.call (by kernel_rfl) (d := (some 49)) (by kernel_rfl) (Name_calls _ o.key) ?_
        rintro _ w93 ⟨rfl, K92⟩
        refine ⟨_, _, rfl, rfl, ?_⟩
        replace K0 := K0.t0 K92
        replace H4 := H4.keep K92 (fun h => h)
        clear K92
        refine og 2 [(1, (ptr b1)), (2, (i64 0)), (3, (Value.bool (o.kind == 4))), (46, (Value.bool (!(nameOk o.key))))] 5 ?_
        refine od ?_
        refine q_cond (o := .tmp 46) (b := (!(nameOk o.key))) (by kernel_rfl) rfl (fun h94 => ?_) (fun h94 => ?_)
        ·rw [h94]
         have p95 : (nameOk o.key) = false := (bnot_true h94)
         refine q_skip (by kernel_rfl) ?_
         refine q_then (o := .tmp 46) (by kernel_rfl) rfl ?_
         refine qs ?_
         refine qg ?_
         refine og 1 [(1, (ptr b1)), (2, (i64 46)), (3, (Value.bool (o.kind == 4)))] 1 ?_
         refine od ?_
         refine q_ret (by kernel_rfl) ?_
         refine ⟨(i64 46), retv_tmp rfl rfl, ?_⟩
         have e : wrongE o = 46 := by unfold wrongE; rw [if_neg (by omega), if_neg (by omega), if_neg (by omega), if_neg (ne_of_t (by assumption)), if_neg (by omega), if_pos (by assumption)]
         exact ⟨by rw [e], K0⟩
        ·rw [h94]
         have p96 : (nameOk o.key) = true := (bnot_false h94)
         refine qg ?_
         refine og 2 [(1, (ptr b1)), (2, (i64 0)), (3, (Value.bool (o.kind == 4))), (46, (Value.bool false)), (52, (Value.bool (o.kind == 4)))] 2 ?_
         refine Ops.split (o.kind == 4) (fun h97 => ?_) (fun h97 => ?_)
         ·rw [h97]
          have p98 : o.kind = 4 := of_beq_t h97
          refine og 1 [(1, (ptr b1)), (2, (i64 0)), (3, (Value.bool true)), (46, (Value.bool false)), (52, (Value.bool true)), (53, (Value.pointer (some ⟨b1, 2, none⟩)))] 3 ?_
          refine Ops.go (v := (Value.string (str o.to))) (by kernel_rfl) (Runs.load (t := 9) (a := ⟨b1, 2, none⟩) (by kernel_rfl) (H4.loads (by kernel_rfl))) (d := (some 54)) (by kernel_rfl) rfl ?_
          refine Ops.call (by kernel_rfl) (d := (some 55)) (by kernel_rfl) (Name_calls _ o.to) ?_
          rintro _ w100 ⟨rfl, K99⟩
          refine ⟨_, _, rfl, rfl, ?_⟩
          replace K0 := K0.t0 K99
          replace H4 := H4.keep K99 (fun h => h)
          clear K99
          refine og 3 [(1, (ptr b1)), (2, (i64 0)), (3, (Value.bool true)), (46, (Value.bool (!(nameOk o.to))))] 8 ?_
          refine od ?_
          refine q_cond (o := .tmp 46) (b := (!(nameOk o.to))) (by kernel_rfl) rfl (fun h101 => ?_) (fun h101 => ?_)
          ·rw [h101]
           have p102 : (nameOk o.to) = false := (bnot_true h101)
           refine qs ?_
           refine qg ?_
           refine og 1 [(1, (ptr b1)), (2, (i64 46)), (3, (Value.bool true))] 1 ?_
           refine od ?_
           refine q_ret (by kernel_rfl) ?_
           refine ⟨(i64 46), retv_tmp rfl rfl, ?_⟩
           exfalso; omega
          ·rw [h101]
           have p103 : (nameOk o.to) = true := (bnot_false h101)
           refine qs ?_
           refine qg ?_
           refine og 1 [(1, (ptr b1)), (2, (i64 0)), (3, (Value.bool true)), (59, (ptr b1))] 1 ?_
           refine Ops.go (v := (i64 o.kind)) (by kernel_rfl) (Runs.load (t := 3) (a := ⟨b1, 0, none⟩) (by kernel_rfl) (H4.loads (by kernel_rfl))) (d := (some 60)) (by kernel_rfl) rfl ?_
           refine og 2 [(1, (ptr b1)), (2, (i64 0)), (3, (Value.bool true)), (58, (Value.bool (o.kind == 1)))] 4 ?_
           refine od ?_
           rw [h25]
           refine q_else (o := .tmp 58) (by kernel_rfl) rfl ?_
           refine qs ?_
           refine qg ?_
           refine og 1 [(1, (ptr b1)), (2, (i64 0)), (3, (Value.bool true)), (63, (Value.pointer (some ⟨b1, 3, none⟩)))] 1 ?_
           refine Ops.go (v := (i64 o.amount)) (by kernel_rfl) (Runs.load (t := 2) (a := ⟨b1, 3, none⟩) (by kernel_rfl) (H4.loads (by kernel_rfl))) (d := (some 64)) (by kernel_rfl) rfl ?_
           refine og 2 [(1, (ptr b1)), (2, (i64 0)), (3, (Value.bool true)), (62, (Value.bool (decide (o.amount < 1))))] 4 ?_
           refine od ?_
           refine q_cond (o := .tmp 62) (b := (decide (o.amount < 1))) (by kernel_rfl) rfl (fun h104 => ?_) (fun h104 => ?_)
           ·rw [h104]
            have p105 : o.amount < 1 := of_decide_eq_true h104
            refine qs ?_
            refine qg ?_
            refine og 1 [(1, (ptr b1)), (2, (i64 47)), (3, (Value.bool true))] 1 ?_
            refine od ?_
            refine q_ret (by kernel_rfl) ?_
            refine ⟨(i64 47), retv_tmp rfl rfl, ?_⟩
            exfalso; omega
           ·rw [h104]
            have p106 : ¬ (o.amount < 1) := of_decide_eq_false h104
            refine qs ?_
            refine qg ?_
            refine og 3 [(1, (ptr b1)), (2, (i64 0)), (68, (Value.bool true)), (69, (Value.pointer (some ⟨b1, 1, none⟩)))] 3 ?_
            refine Ops.go (v := (Value.string (str o.frm))) (by kernel_rfl) (Runs.load (t := 9) (a := ⟨b1, 1, none⟩) (by kernel_rfl) (H4.loads (by kernel_rfl))) (d := (some 70)) (by kernel_rfl) rfl ?_
            refine og 1 [(2, (i64 0)), (68, (Value.bool true)), (70, (Value.string (str o.frm))), (71, (Value.pointer (some ⟨b1, 2, none⟩)))] 5 ?_
            refine Ops.go (v := (Value.string (str o.to))) (by kernel_rfl) (Runs.load (t := 9) (a := ⟨b1, 2, none⟩) (by kernel_rfl) (H4.loads (by kernel_rfl))) (d := (some 72)) (by kernel_rfl) rfl ?_
            refine Ops.go (v := (Value.bool (o.frm == o.to))) (by kernel_rfl) (Runs.streq (t := 9) (by kernel_rfl)) (d := (some 73)) (by kernel_rfl) rfl ?_
            refine og 2 [(2, (i64 0)), (66, (Value.bool (o.frm == o.to)))] 9 ?_
            refine od ?_
            refine q_cond (o := .tmp 66) (b := (o.frm == o.to)) (by kernel_rfl) rfl (fun h107 => ?_) (fun h107 => ?_)
            ·rw [h107]
             have p108 : (o.frm == o.to) = true := h107
             refine qs ?_
             refine qg ?_
             refine og 1 [(2, (i64 44))] 1 ?_
             refine od ?_
             refine q_ret (by kernel_rfl) ?_
             refine ⟨(i64 44), retv_tmp rfl rfl, ?_⟩
             exfalso; omega
            ·rw [h107]
             have p109 : (o.frm == o.to) = false := h107
             refine q_skip (by kernel_rfl) ?_
             refine qs ?_
             refine qg ?_
             refine og 1 [(2, (i64 0))] 1 ?_
             refine od ?_
             refine q_ret (by kernel_rfl) ?_
             refine ⟨(i64 0), retv_tmp rfl rfl, ?_⟩
             exfalso; omega
         ·rw [h97]
          have p110 : ¬ (o.kind = 4) := of_beq_f h97
          refine og 6 [(1, (ptr b1)), (2, (i64 0)), (3, (Value.bool false)), (46, (Value.bool false))] 8 ?_
          refine od ?_
          refine q_else (o := .tmp 46) (by kernel_rfl) rfl ?_
          refine qs ?_
          refine qg ?_
          refine og 1 [(1, (ptr b1)), (2, (i64 0)), (3, (Value.bool false)), (59, (ptr b1))] 1 ?_
          refine Ops.go (v := (i64 o.kind)) (by kernel_rfl) (Runs.load (t := 3) (a := ⟨b1, 0, none⟩) (by kernel_rfl) (H4.loads (by kernel_rfl))) (d := (some 60)) (by kernel_rfl) rfl ?_
          refine og 2 [(1, (ptr b1)), (2, (i64 0)), (3, (Value.bool false)), (58, (Value.bool (o.kind == 1)))] 4 ?_
          refine od ?_
          rw [h25]
          refine q_else (o := .tmp 58) (by kernel_rfl) rfl ?_
          refine qs ?_
          refine qg ?_
          refine og 1 [(1, (ptr b1)), (2, (i64 0)), (3, (Value.bool false)), (63, (Value.pointer (some ⟨b1, 3, none⟩)))] 1 ?_
          refine Ops.go (v := (i64 o.amount)) (by kernel_rfl) (Runs.load (t := 2) (a := ⟨b1, 3, none⟩) (by kernel_rfl) (H4.loads (by kernel_rfl))) (d := (some 64)) (by kernel_rfl) rfl ?_
          refine og 2 [(1, (ptr b1)), (2, (i64 0)), (3, (Value.bool false)), (62, (Value.bool (decide (o.amount < 1))))] 4 ?_
          refine od ?_
          refine q_cond (o := .tmp 62) (b := (decide (o.amount < 1))) (by kernel_rfl) rfl (fun h111 => ?_) (fun h111 => ?_)
          ·rw [h111]
           have p112 : o.amount < 1 := of_decide_eq_true h111
           refine qs ?_
           refine qg ?_
           refine og 1 [(1, (ptr b1)), (2, (i64 47)), (3, (Value.bool false))] 1 ?_
           refine od ?_
           refine q_ret (by kernel_rfl) ?_
           refine ⟨(i64 47), retv_tmp rfl rfl, ?_⟩
           have e : wrongE o = 47 := by unfold wrongE; rw [if_neg (by omega), if_neg (by omega), if_neg (by omega), if_neg (ne_of_t (by assumption)), if_neg (by omega), if_neg (ne_of_t (by assumption)), if_neg (by omega), if_neg (by omega), if_pos (by omega)]
           exact ⟨by rw [e], K0⟩
          ·rw [h111]
           have p113 : ¬ (o.amount < 1) := of_decide_eq_false h111
           refine qs ?_
           refine qg ?_
           refine og 9 [(2, (i64 0)), (66, (Value.bool false))] 9 ?_
           refine od ?_
           refine q_else (o := .tmp 66) (by kernel_rfl) rfl ?_
           refine q_skip (by kernel_rfl) ?_
           refine qs ?_
           refine qg ?_
           refine og 1 [(2, (i64 0))] 1 ?_
           refine od ?_
           refine q_ret (by kernel_rfl) ?_
           refine ⟨(i64 0), retv_tmp rfl rfl, ?_⟩
           have e : wrongE o = 0 := by unfold wrongE; rw [if_neg (by omega), if_neg (by omega), if_neg (by omega), if_neg (ne_of_t (by assumption)), if_neg (by omega), if_neg (ne_of_t (by assumption)), if_neg (by omega), if_neg (by omega), if_neg (by omega), if_neg (by omega)]
           exact ⟨by rw [e], K0⟩
     ·rw [h82]
      have p114 : ¬ (o.kind = 3) := of_beq_f h82
      refine qs ?_
      refine qg ?_
      refine og 2 [(1, (ptr b1)), (2, (i64 0)), (5, (i64 o.kind)), (28, (Value.bool (o.kind == 4)))] 2 ?_
      refine od ?_
      refine q_cond (o := .tmp 28) (b := (o.kind == 4)) (by kernel_rfl) rfl (fun h115 => ?_) (fun h115 => ?_)
      ·rw [h115]
       have p116 : o.kind = 4 := of_beq_t h115
       refine q_skip (by kernel_rfl) ?_
       refine q_then (o := .tmp 28) (by kernel_rfl) rfl ?_
       refine q_skip (by kernel_rfl) ?_
       refine qs ?_
       refine qg ?_
       refine og 1 [(1, (ptr b1)), (2, (i64 0)), (34, (ptr b1))] 1 ?_
       refine Ops.go (v := (i64 o.kind)) (by kernel_rfl) (Runs.load (t := 3) (a := ⟨b1, 0, none⟩) (by kernel_rfl) (H4.loads (by kernel_rfl))) (d := (some 35)) (by kernel_rfl) rfl ?_
       refine og 2 [(1, (ptr b1)), (2, (i64 0)), (3, (Value.bool (o.kind == 4)))] 4 ?_
       refine od ?_
       refine qs ?_
       refine q_block (id := 1) (by kernel_rfl) ?_
       refine qs ?_
       refine qg ?_
       refine og 1 [(1, (ptr b1)), (2, (i64 0)), (3, (Value.bool (o.kind == 4))), (38, (Value.pointer (some ⟨b1, 1, none⟩)))] 1 ?_
       refine Ops.go (v := (Value.string (str o.frm))) (by kernel_rfl) (Runs.load (t := 9) (a := ⟨b1, 1, none⟩) (by kernel_rfl) (H4.loads (by kernel_rfl))) (d := (some 39)) (by kernel_rfl) rfl ?_
       refine Ops.call (by kernel_rfl) (d := (some 40)) (by kernel_rfl) (Name_calls _ o.frm) ?_
       rintro _ w118 ⟨rfl, K117⟩
       refine ⟨_, _, rfl, rfl, ?_⟩
       replace K0 := K0.t0 K117
       replace H4 := H4.keep K117 (fun h => h)
       clear K117
       refine og 2 [(1, (ptr b1)), (2, (i64 0)), (3, (Value.bool (o.kind == 4))), (37, (Value.bool (!(nameOk o.frm))))] 5 ?_
       refine od ?_
       refine q_cond (o := .tmp 37) (b := (!(nameOk o.frm))) (by kernel_rfl) rfl (fun h119 => ?_) (fun h119 => ?_)
       ·rw [h119]
        have p120 : (nameOk o.frm) = false := (bnot_true h119)
        refine qs ?_
        refine qg ?_
        refine og 1 [(1, (ptr b1)), (2, (i64 46)), (3, (Value.bool (o.kind == 4)))] 1 ?_
        refine od ?_
        refine q_ret (by kernel_rfl) ?_
        refine ⟨(i64 46), retv_tmp rfl rfl, ?_⟩
        have e : wrongE o = 46 := by unfold wrongE; rw [if_neg (by omega), if_neg (by omega), if_neg (by omega), if_pos (by assumption)]
        exact ⟨by rw [e], K0⟩
       ·rw [h119]
        have p121 : (nameOk o.frm) = true := (bnot_false h119)
        refine qs ?_
        refine qg ?_
        refine og 1 [(1, (ptr b1)), (2, (i64 0)), (3, (Value.bool (o.kind == 4))), (43, (ptr b1))] 1 ?_
        refine Ops.go (v := (i64 o.kind)) (by kernel_rfl) (Runs.load (t := 3) (a := ⟨b1, 0, none⟩) (by kernel_rfl) (H4.loads (by kernel_rfl))) (d := (some 44)) (by kernel_rfl) rfl ?_
        refine og 2 [(1, (ptr b1)), (2, (i64 0)), (3, (Value.bool (o.kind == 4))), (42, (Value.bool (o.kind == 5)))] 4 ?_
        refine od ?_
        refine q_cond (o := .tmp 42) (b := (o.kind == 5)) (by kernel_rfl) rfl (fun h122 => ?_) (fun h122 => ?_)
        ·rw [h122]
         have p123 : o.kind = 5 := of_beq_t h122
         refine qs ?_
         refine qg ?_
         refine og 1 [(1, (ptr b1)), (2, (i64 0)), (3, (Value.bool (o.kind == 4)))] 1 ?_
         refine od ?_
         refine q_ret (by kernel_rfl) ?_
         refine ⟨(i64 0), retv_tmp rfl rfl, ?_⟩
         exfalso; omega
        ·rw [h122]
         have p124 : ¬ (o.kind = 5) := of_beq_f h122
         refine qs ?_
         refine qs ?_
         refine qg ?_
         refine og 1 [(1, (ptr b1)), (2, (i64 0)), (3, (Value.bool (o.kind == 4))), (47, (Value.pointer (some ⟨b1, 4, none⟩)))] 1 ?_
         refine Ops.go (v := (Value.string (str o.key))) (by kernel_rfl) (Runs.load (t := 9) (a := ⟨b1, 4, none⟩) (by kernel_rfl) (H4.loads (by kernel_rfl))) (d := (some 48)) (by kernel_rfl) rfl ?_
         refine Ops.call (by kernel_rfl) (d := (some 49)) (by kernel_rfl) (Name_calls _ o.key) ?_
         rintro _ w126 ⟨rfl, K125⟩
         refine ⟨_, _, rfl, rfl, ?_⟩
         replace K0 := K0.t0 K125
         replace H4 := H4.keep K125 (fun h => h)
         clear K125
         refine og 2 [(1, (ptr b1)), (2, (i64 0)), (3, (Value.bool (o.kind == 4))), (46, (Value.bool (!(nameOk o.key))))] 5 ?_
         refine od ?_
         refine q_cond (o := .tmp 46) (b := (!(nameOk o.key))) (by kernel_rfl) rfl (fun h127 => ?_) (fun h127 => ?_)
         ·rw [h127]
          have p128 : (nameOk o.key) = false := (bnot_true h127)
          refine q_skip (by kernel_rfl) ?_
          refine q_then (o := .tmp 46) (by kernel_rfl) rfl ?_
          refine qs ?_
          refine qg ?_
          refine og 1 [(1, (ptr b1)), (2, (i64 46)), (3, (Value.bool (o.kind == 4)))] 1 ?_
          refine od ?_
          refine q_ret (by kernel_rfl) ?_
          refine ⟨(i64 46), retv_tmp rfl rfl, ?_⟩
          have e : wrongE o = 46 := by unfold wrongE; rw [if_neg (by omega), if_neg (by omega), if_neg (by omega), if_neg (ne_of_t (by assumption)), if_neg (by omega), if_pos (by assumption)]
          exact ⟨by rw [e], K0⟩
         ·rw [h127]
          have p129 : (nameOk o.key) = true := (bnot_false h127)
          refine qg ?_
          refine og 2 [(1, (ptr b1)), (2, (i64 0)), (3, (Value.bool (o.kind == 4))), (46, (Value.bool false)), (52, (Value.bool (o.kind == 4)))] 2 ?_
          rw [h115]
          refine og 1 [(1, (ptr b1)), (2, (i64 0)), (3, (Value.bool true)), (46, (Value.bool false)), (52, (Value.bool true)), (53, (Value.pointer (some ⟨b1, 2, none⟩)))] 3 ?_
          refine Ops.go (v := (Value.string (str o.to))) (by kernel_rfl) (Runs.load (t := 9) (a := ⟨b1, 2, none⟩) (by kernel_rfl) (H4.loads (by kernel_rfl))) (d := (some 54)) (by kernel_rfl) rfl ?_
          refine Ops.call (by kernel_rfl) (d := (some 55)) (by kernel_rfl) (Name_calls _ o.to) ?_
          rintro _ w131 ⟨rfl, K130⟩
          refine ⟨_, _, rfl, rfl, ?_⟩
          replace K0 := K0.t0 K130
          replace H4 := H4.keep K130 (fun h => h)
          clear K130
          refine og 3 [(1, (ptr b1)), (2, (i64 0)), (3, (Value.bool true)), (46, (Value.bool (!(nameOk o.to))))] 8 ?_
          refine od ?_
          refine q_cond (o := .tmp 46) (b := (!(nameOk o.to))) (by kernel_rfl) rfl (fun h132 => ?_) (fun h132 => ?_)
          ·rw [h132]
           have p133 : (nameOk o.to) = false := (bnot_true h132)
           refine qs ?_
           refine qg ?_
           refine og 1 [(1, (ptr b1)), (2, (i64 46)), (3, (Value.bool true))] 1 ?_
           refine od ?_
           refine q_ret (by kernel_rfl) ?_
           refine ⟨(i64 46), retv_tmp rfl rfl, ?_⟩
           have e : wrongE o = 46 := by unfold wrongE; rw [if_neg (by omega), if_neg (by omega), if_neg (by omega), if_neg (ne_of_t (by assumption)), if_neg (by omega), if_neg (ne_of_t (by assumption)), if_neg (by omega), if_pos ⟨by omega, by assumption⟩]
           exact ⟨by rw [e], K0⟩
          ·rw [h132]
           have p134 : (nameOk o.to) = true := (bnot_false h132)
           refine qs ?_
           refine qg ?_
           refine og 1 [(1, (ptr b1)), (2, (i64 0)), (3, (Value.bool true)), (59, (ptr b1))] 1 ?_
           refine Ops.go (v := (i64 o.kind)) (by kernel_rfl) (Runs.load (t := 3) (a := ⟨b1, 0, none⟩) (by kernel_rfl) (H4.loads (by kernel_rfl))) (d := (some 60)) (by kernel_rfl) rfl ?_
           refine og 2 [(1, (ptr b1)), (2, (i64 0)), (3, (Value.bool true)), (58, (Value.bool (o.kind == 1)))] 4 ?_
           refine od ?_
           rw [h25]
           refine q_else (o := .tmp 58) (by kernel_rfl) rfl ?_
           refine qs ?_
           refine qg ?_
           refine og 1 [(1, (ptr b1)), (2, (i64 0)), (3, (Value.bool true)), (63, (Value.pointer (some ⟨b1, 3, none⟩)))] 1 ?_
           refine Ops.go (v := (i64 o.amount)) (by kernel_rfl) (Runs.load (t := 2) (a := ⟨b1, 3, none⟩) (by kernel_rfl) (H4.loads (by kernel_rfl))) (d := (some 64)) (by kernel_rfl) rfl ?_
           refine og 2 [(1, (ptr b1)), (2, (i64 0)), (3, (Value.bool true)), (62, (Value.bool (decide (o.amount < 1))))] 4 ?_
           refine od ?_
           refine q_cond (o := .tmp 62) (b := (decide (o.amount < 1))) (by kernel_rfl) rfl (fun h135 => ?_) (fun h135 => ?_)
           ·rw [h135]
            have p136 : o.amount < 1 := of_decide_eq_true h135
            refine qs ?_
            refine qg ?_
            refine og 1 [(1, (ptr b1)), (2, (i64 47)), (3, (Value.bool true))] 1 ?_
            refine od ?_
            refine q_ret (by kernel_rfl) ?_
            refine ⟨(i64 47), retv_tmp rfl rfl, ?_⟩
            have e : wrongE o = 47 := by unfold wrongE; rw [if_neg (by omega), if_neg (by omega), if_neg (by omega), if_neg (ne_of_t (by assumption)), if_neg (by omega), if_neg (ne_of_t (by assumption)), if_neg (by omega), if_neg (and_ne_of_t (by assumption)), if_pos (by omega)]
            exact ⟨by rw [e], K0⟩
           ·rw [h135]
            have p137 : ¬ (o.amount < 1) := of_decide_eq_false h135
            refine qs ?_
            refine qg ?_
            refine og 3 [(1, (ptr b1)), (2, (i64 0)), (68, (Value.bool true)), (69, (Value.pointer (some ⟨b1, 1, none⟩)))] 3 ?_
            refine Ops.go (v := (Value.string (str o.frm))) (by kernel_rfl) (Runs.load (t := 9) (a := ⟨b1, 1, none⟩) (by kernel_rfl) (H4.loads (by kernel_rfl))) (d := (some 70)) (by kernel_rfl) rfl ?_
            refine og 1 [(2, (i64 0)), (68, (Value.bool true)), (70, (Value.string (str o.frm))), (71, (Value.pointer (some ⟨b1, 2, none⟩)))] 5 ?_
            refine Ops.go (v := (Value.string (str o.to))) (by kernel_rfl) (Runs.load (t := 9) (a := ⟨b1, 2, none⟩) (by kernel_rfl) (H4.loads (by kernel_rfl))) (d := (some 72)) (by kernel_rfl) rfl ?_
            refine Ops.go (v := (Value.bool (o.frm == o.to))) (by kernel_rfl) (Runs.streq (t := 9) (by kernel_rfl)) (d := (some 73)) (by kernel_rfl) rfl ?_
            refine og 2 [(2, (i64 0)), (66, (Value.bool (o.frm == o.to)))] 9 ?_
            refine od ?_
            refine q_cond (o := .tmp 66) (b := (o.frm == o.to)) (by kernel_rfl) rfl (fun h138 => ?_) (fun h138 => ?_)
            ·rw [h138]
             have p139 : (o.frm == o.to) = true := h138
             refine qs ?_
             refine qg ?_
             refine og 1 [(2, (i64 44))] 1 ?_
             refine od ?_
             refine q_ret (by kernel_rfl) ?_
             refine ⟨(i64 44), retv_tmp rfl rfl, ?_⟩
             have e : wrongE o = 44 := by unfold wrongE; rw [if_neg (by omega), if_neg (by omega), if_neg (by omega), if_neg (ne_of_t (by assumption)), if_neg (by omega), if_neg (ne_of_t (by assumption)), if_neg (by omega), if_neg (and_ne_of_t (by assumption)), if_neg (by omega), if_pos ⟨by omega, by first | exact beq_true_eq (by assumption) | exact (beq_true_eq (by assumption)).symm⟩]
             exact ⟨by rw [e], K0⟩
            ·rw [h138]
             have p140 : (o.frm == o.to) = false := h138
             refine q_skip (by kernel_rfl) ?_
             refine qs ?_
             refine qg ?_
             refine og 1 [(2, (i64 0))] 1 ?_
             refine od ?_
             refine q_ret (by kernel_rfl) ?_
             refine ⟨(i64 0), retv_tmp rfl rfl, ?_⟩
             have e : wrongE o = 0 := by unfold wrongE; rw [if_neg (by omega), if_neg (by omega), if_neg (by omega), if_neg (ne_of_t (by assumption)), if_neg (by omega), if_neg (ne_of_t (by assumption)), if_neg (by omega), if_neg (and_ne_of_t (by assumption)), if_neg (by omega), if_neg (and_ne (by first | exact beq_false_ne (by assumption) | exact fun h => beq_false_ne (by assumption) h.symm))]
             exact ⟨by rw [e], K0⟩
      ·rw [h115]
       have p141 : ¬ (o.kind = 4) := of_beq_f h115
       refine qg ?_
       refine og 2 [(1, (ptr b1)), (2, (i64 0)), (28, (Value.bool (o.kind == 5)))] 2 ?_
       refine od ?_
       refine q_cond (o := .tmp 28) (b := (o.kind == 5)) (by kernel_rfl) rfl (fun h142 => ?_) (fun h142 => ?_)
       ·rw [h142]
        have p143 : o.kind = 5 := of_beq_t h142
        refine q_skip (by kernel_rfl) ?_
        refine qs ?_
        refine qg ?_
        refine og 1 [(1, (ptr b1)), (2, (i64 0)), (34, (ptr b1))] 1 ?_
        refine Ops.go (v := (i64 o.kind)) (by kernel_rfl) (Runs.load (t := 3) (a := ⟨b1, 0, none⟩) (by kernel_rfl) (H4.loads (by kernel_rfl))) (d := (some 35)) (by kernel_rfl) rfl ?_
        refine og 2 [(1, (ptr b1)), (2, (i64 0)), (3, (Value.bool (o.kind == 4)))] 4 ?_
        refine od ?_
        refine qs ?_
        refine q_block (id := 1) (by kernel_rfl) ?_
        refine qs ?_
        refine qg ?_
        refine og 1 [(1, (ptr b1)), (2, (i64 0)), (3, (Value.bool (o.kind == 4))), (38, (Value.pointer (some ⟨b1, 1, none⟩)))] 1 ?_
        refine Ops.go (v := (Value.string (str o.frm))) (by kernel_rfl) (Runs.load (t := 9) (a := ⟨b1, 1, none⟩) (by kernel_rfl) (H4.loads (by kernel_rfl))) (d := (some 39)) (by kernel_rfl) rfl ?_
        refine Ops.call (by kernel_rfl) (d := (some 40)) (by kernel_rfl) (Name_calls _ o.frm) ?_
        rintro _ w145 ⟨rfl, K144⟩
        refine ⟨_, _, rfl, rfl, ?_⟩
        replace K0 := K0.t0 K144
        replace H4 := H4.keep K144 (fun h => h)
        clear K144
        refine og 2 [(1, (ptr b1)), (2, (i64 0)), (3, (Value.bool (o.kind == 4))), (37, (Value.bool (!(nameOk o.frm))))] 5 ?_
        refine od ?_
        refine q_cond (o := .tmp 37) (b := (!(nameOk o.frm))) (by kernel_rfl) rfl (fun h146 => ?_) (fun h146 => ?_)
        ·rw [h146]
         have p147 : (nameOk o.frm) = false := (bnot_true h146)
         refine qs ?_
         refine qg ?_
         refine og 1 [(1, (ptr b1)), (2, (i64 46)), (3, (Value.bool (o.kind == 4)))] 1 ?_
         refine od ?_
         refine q_ret (by kernel_rfl) ?_
         refine ⟨(i64 46), retv_tmp rfl rfl, ?_⟩
         have e : wrongE o = 46 := by unfold wrongE; rw [if_neg (by omega), if_neg (by omega), if_neg (by omega), if_pos (by assumption)]
         exact ⟨by rw [e], K0⟩
        ·rw [h146]
         have p148 : (nameOk o.frm) = true := (bnot_false h146)
         refine qs ?_
         refine qg ?_
         refine og 1 [(1, (ptr b1)), (2, (i64 0)), (3, (Value.bool (o.kind == 4))), (43, (ptr b1))] 1 ?_
         refine Ops.go (v := (i64 o.kind)) (by kernel_rfl) (Runs.load (t := 3) (a := ⟨b1, 0, none⟩) (by kernel_rfl) (H4.loads (by kernel_rfl))) (d := (some 44)) (by kernel_rfl) rfl ?_
         refine og 2 [(1, (ptr b1)), (2, (i64 0)), (3, (Value.bool (o.kind == 4))), (42, (Value.bool (o.kind == 5)))] 4 ?_
         refine od ?_
         rw [h142]
         refine q_then (o := .tmp 42) (by kernel_rfl) rfl ?_
         refine qs ?_
         refine qg ?_
         refine og 1 [(1, (ptr b1)), (2, (i64 0)), (3, (Value.bool (o.kind == 4)))] 1 ?_
         refine od ?_
         refine q_ret (by kernel_rfl) ?_
         refine ⟨(i64 0), retv_tmp rfl rfl, ?_⟩
         have e : wrongE o = 0 := by unfold wrongE; rw [if_neg (by omega), if_neg (by omega), if_neg (by omega), if_neg (ne_of_t (by assumption)), if_pos (by omega)]
         exact ⟨by rw [e], K0⟩
       ·rw [h142]
        have p149 : ¬ (o.kind = 5) := of_beq_f h142
        refine qs ?_
        refine qg ?_
        refine og 1 [(1, (ptr b1)), (2, (i64 1))] 1 ?_
        refine od ?_
        refine q_ret (by kernel_rfl) ?_
        refine ⟨(i64 1), retv_tmp rfl rfl, ?_⟩
        have e : wrongE o = 1 := by unfold wrongE; rw [if_neg (by omega), if_neg (by omega), if_pos (by omega)]
        exact ⟨by rw [e], K0⟩

end Go.Proofs.YtnfeemhpoaflfaaGreatDoor
namespace Go.Proofs.YtnfeemhpoaflfaaGreatDoor
open Go.Q Go.RowKit

set_option maxHeartbeats 4000000 in
theorem Do_calls (w : World) (b mb kb : Nat) (m : List (List UInt8 × Int)) (S : List RowM) (K : List KeptM) (o : Opm) (Hb : Has w b (rowL [.map (some mb), .map (some kb)] 54)) (Hm : HasMap w mb kstr ki64 m) (Hk : HasMap w kb kpair keptv (K.map KeptM.kv)) (hne : b ≠ mb ∧ b ≠ kb ∧ mb ≠ kb) (hB : LBook m S K) (hr : -9223372036854775808 ≤ o.amount ∧ o.amount ≤ 9223372036854775807) (hSl : S.length ≤ 1000) : Calls Tryz.prog 10 ⟨[(ptr b), (agg [(i64 o.kind), (Value.string (str o.frm)), (Value.string (str o.to)), (i64 o.amount), (Value.string (str o.key)), (i64 o.slot), (i64 o.shard)])]⟩ w (fun e w' => ∃ m' A c, e = .returned (agg [i64 (doR S K o).why, i64 (doR S K o).amount, .slice A (doR S K o).rows.length c]) ∧ Keeps (fun i => i = mb ∨ i = kb) w w' ∧ HasMap w' mb kstr ki64 m' ∧ HasMap w' kb kpair keptv ((doK S K o).map KeptM.kv) ∧ LBook m' (doS S K o) (doK S K o) ∧ OwnR w' w.heap.size 47 (.slice A (doR S K o).rows.length c) (doR S K o).rows) := by
 have Hbl := Hb.lt
 have Hml := Hm.lt
 have Hkl := Hk.lt
 have hL := hB.lmap
 have K0 : Keeps (fun i => i = mb ∨ i = kb) w w := (Keeps.refl w).mono (fun _ _ h => h.elim)
 refine q_calls Tryz.func10 (by kernel_rfl) (by kernel_rfl) ?_
 refine qs ?_
 refine qg ?_
 refine Ops.new (o := rowL [(i64 o.kind), (Value.string (str o.frm)), (Value.string (str o.to)), (i64 o.amount), (Value.string (str o.key)), (i64 o.slot), (i64 o.shard)] 24) (V := fun b => (ptr b)) (by kernel_rfl) (d := (some 3)) (by kernel_rfl) (fun b => rfl) (fun b1 w2 hb3 H4 K5 hs6 => ?_)
 have lb1b : b < b1 := by have := Hb.lt; omega
 have lb1mb : mb < b1 := by have := Hm.lt; omega
 have lb1kb : kb < b1 := by have := Hk.lt; omega
 have nb1 : w.heap.size ≤ b1 := by have := K0.size; omega
 replace K0 := K0.trans K5 (U := (fun i => i = mb ∨ i = kb)) (fun i h1 h2 => h2) (fun i h1 h2 => by exact h2.elim)
 replace Hb := Hb.keep K5 (fun h => h)
 replace Hm := Hm.keep K5 (fun h => h)
 replace Hk := Hk.keep K5 (fun h => h)
 clear K5 hs6
 refine Ops.new (o := rowL [(i64 0), (i64 0), (Value.slice none 0 0)] 30) (V := fun b => (ptr b)) (by kernel_rfl) (d := (some 4)) (by kernel_rfl) (fun b => rfl) (fun b7 w8 hb9 H10 K11 hs12 => ?_)
 have lb7b : b < b7 := by have := Hb.lt; omega
 have lb7mb : mb < b7 := by have := Hm.lt; omega
 have lb7kb : kb < b7 := by have := Hk.lt; omega
 have lb7b1 : b1 < b7 := by have := H4.lt; omega
 have nb7 : w.heap.size ≤ b7 := by have := K0.size; omega
 replace K0 := K0.trans K11 (U := (fun i => i = mb ∨ i = kb)) (fun i h1 h2 => h2) (fun i h1 h2 => by exact h2.elim)
 replace Hb := Hb.keep K11 (fun h => h)
 replace Hm := Hm.keep K11 (fun h => h)
 replace Hk := Hk.keep K11 (fun h => h)
 replace H4 := H4.keep K11 (fun h => h)
 clear K11 hs12
 refine od ?_
 refine qs ?_
 refine qs ?_
 refine qg ?_
 refine og 2 [(0, (ptr b)), (3, (ptr b1)), (4, (ptr b7)), (13, (Value.bool false))] 2 ?_
 refine od ?_
 refine q_else (o := .tmp 13) (by kernel_rfl) rfl ?_
 refine q_skip (by kernel_rfl) ?_
 refine qs ?_
 refine qs ?_
 refine qg ?_
 refine Ops.go (v := (agg [(i64 o.kind), (Value.string (str o.frm)), (Value.string (str o.to)), (i64 o.amount), (Value.string (str o.key)), (i64 o.slot), (i64 o.shard)])) (by kernel_rfl) (Runs.load (t := 24) (a := ⟨b1, 0, none⟩) (by kernel_rfl) (H4.loads (by kernel_rfl))) (d := (some 15)) (by kernel_rfl) rfl ?_
 refine Ops.call (by kernel_rfl) (d := (some 16)) (by kernel_rfl) (Wrong_calls _ o) ?_
 rintro _ w14 ⟨rfl, K13⟩
 refine ⟨_, _, rfl, rfl, ?_⟩
 replace K0 := K0.trans K13 (U := (fun i => i = mb ∨ i = kb)) (fun i h1 h2 => h2) (fun i h1 h2 => by exact h2.elim)
 replace Hb := Hb.keep K13 (fun h => h)
 replace Hm := Hm.keep K13 (fun h => h)
 replace Hk := Hk.keep K13 (fun h => h)
 replace H4 := H4.keep K13 (fun h => h)
 replace H10 := H10.keep K13 (fun h => h)
 clear K13
 refine og 1 [(0, (ptr b)), (3, (ptr b1)), (4, (ptr b7)), (5, (i64 (wrongE o)))] 3 ?_
 refine od ?_
 refine qs ?_
 refine qg ?_
 refine og 2 [(0, (ptr b)), (3, (ptr b1)), (4, (ptr b7)), (5, (i64 (wrongE o))), (18, (Value.bool ((wrongE o) != 0)))] 2 ?_
 refine od ?_
 refine q_cond (o := .tmp 18) (b := ((wrongE o) != 0)) (by kernel_rfl) rfl (fun h15 => ?_) (fun h15 => ?_)
 ·rw [h15]
  have p16 : ¬ (wrongE o = 0) := of_bne_t h15
  refine qs ?_
  refine qg ?_
  refine og 2 [(0, (ptr b)), (3, (ptr b1)), (4, (ptr b7)), (20, (agg [(i64 (wrongE o)), (i64 0), (Value.slice none 0 0)]))] 2 ?_
  refine Ops.put (t := 30) (b := b7) (off := 0) (v := (agg [(i64 (wrongE o)), (i64 0), (Value.slice none 0 0)])) (ys := [(i64 (wrongE o)), (i64 0), (Value.slice none 0 0)]) (by kernel_rfl) (by kernel_rfl) H10 (by kernel_rfl) (d := none) (by kernel_rfl) rfl (fun w17 H18 K19 => ?_)
  clear H10
  replace K0 := K0.trans K19 (U := (fun i => i = mb ∨ i = kb)) (fun i h1 h2 => h2) (fun i h1 h2 => by have h2 : i = b7 := h2; show i = mb ∨ i = kb; omega)
  replace Hb := Hb.keep K19 (by intro h; change b = b7 at h; omega)
  replace Hm := Hm.keep K19 (by intro h; change mb = b7 at h; omega)
  replace Hk := Hk.keep K19 (by intro h; change kb = b7 at h; omega)
  replace H4 := H4.keep K19 (by intro h; change b1 = b7 at h; omega)
  clear K19
  refine od ?_
  refine q_ret (by kernel_rfl) ?_
  refine ⟨(agg [(i64 (wrongE o)), (i64 0), (Value.slice none 0 0)]), retv_cell rfl rfl (H18.loads (by kernel_rfl)), ?_⟩
  have e0 := do_wrong (S := S) (K := K) (o := o) (by omega)
  obtain ⟨e1, e2, e3⟩ := e0
  rw [e1, e2, e3]
  exact ⟨_, none, 0, rfl, K0, Hm, Hk, hB, (OwnT.nil _ _ _ _ _)⟩
 ·rw [h15]
  have p20 : wrongE o = 0 := of_bne_f h15
  have hw : wrongE o = 0 := by omega
  refine q_skip (by kernel_rfl) ?_
  refine qs ?_
  refine q_draw (fun wz => Keeps none_ w14 wz) 12 (by kernel_rfl) (by kernel_rfl) (by kernel_rfl) (fun w21 K22 _ _ => ⟨K22, ?_⟩)
  replace K0 := K0.trans K22 (U := (fun i => i = mb ∨ i = kb)) (fun i h1 h2 => h2) (fun i h1 h2 => by exact h2.elim)
  replace Hb := Hb.keep K22 (fun h => h)
  replace Hm := Hm.keep K22 (fun h => h)
  replace Hk := Hk.keep K22 (fun h => h)
  replace H4 := H4.keep K22 (fun h => h)
  replace H10 := H10.keep K22 (fun h => h)
  refine Dr.strong (S' := (fun wz => Keeps none_ w21 wz)) (Keeps.refl w21) (fun wz hx => K22.trans hx (fun i _ h => h) (fun _ _ h => h)) ?_
  clear K22
  refine Dr.takes (fuel' := 9) (is' := [2, 1, 0]) [0, 1, 2] [(0, (ptr b)), (3, (ptr b1)), (4, (ptr b7)), (24, (ptr b))] (by kernel_rfl) rfl (by kernel_rfl) ?_
  refine Dr.take (i := 3) (v := (Value.map (some mb))) (by kernel_rfl) (by kernel_rfl) (fun wz hS => Runs.load (t := 51) (a := ⟨b, 0, none⟩) (by kernel_rfl) ((Hb.keep hS (fun h => h)).loads (by kernel_rfl))) (d := (some 25)) (by kernel_rfl) rfl ?_
  refine Dr.takes (fuel' := 7) (is' := [4, 3, 2, 1, 0]) [4] [(0, (ptr b)), (3, (ptr b1)), (4, (ptr b7)), (25, (Value.map (some mb))), (26, (Value.pointer (some ⟨b1, 1, none⟩)))] (by kernel_rfl) rfl (by kernel_rfl) ?_
  refine Dr.take (i := 5) (v := (Value.string (str o.frm))) (by kernel_rfl) (by kernel_rfl) (fun wz hS => Runs.load (t := 9) (a := ⟨b1, 1, none⟩) (by kernel_rfl) ((H4.keep hS (fun h => h)).loads (by kernel_rfl))) (d := (some 27)) (by kernel_rfl) rfl ?_
  rcases hg23 : getM m o.frm with _ | y24
  ·skip
   have hw25 := hL.got_none hg23
   refine Dr.take (i := 6) (v := (Value.tuple #[(i64 0), (Value.bool false)])) (by kernel_rfl) (by kernel_rfl) (fun wz hS => Runs.lookup_none (ok := true) (z := (i64 0)) KT Tryz.underlying51 (by kernel_rfl) (Hm.keep hS (fun h => h)) hg23 (by kernel_rfl)) (d := (some 28)) (by kernel_rfl) rfl ?_
   refine Dr.takes (fuel' := 0) (is' := [11, 10, 9, 8, 7, 6, 5, 4, 3, 2, 1, 0]) [7, 8, 9, 10, 11] [(0, (ptr b)), (3, (ptr b1)), (4, (ptr b7)), (6, (i64 0)), (7, (Value.bool false))] (by kernel_rfl) rfl (by kernel_rfl) ?_
   refine Dr.done (by kernel_rfl) ?_
   refine qs ?_
   refine qs ?_
   refine qg ?_
   refine og 1 [(0, (ptr b)), (3, (ptr b1)), (4, (ptr b7)), (6, (i64 0)), (7, (Value.bool false)), (31, (ptr b1))] 1 ?_
   refine Ops.go (v := (i64 o.kind)) (by kernel_rfl) (Runs.load (t := 3) (a := ⟨b1, 0, none⟩) (by kernel_rfl) (H4.loads (by kernel_rfl))) (d := (some 32)) (by kernel_rfl) rfl ?_
   refine od ?_
   refine q_block (id := 0) (by kernel_rfl) ?_
   refine qs ?_
   refine qg ?_
   refine og 2 [(0, (ptr b)), (3, (ptr b1)), (4, (ptr b7)), (6, (i64 0)), (7, (Value.bool false)), (32, (i64 o.kind)), (33, (Value.bool (o.kind == 7)))] 2 ?_
   refine od ?_
   refine q_cond (o := .tmp 33) (b := (o.kind == 7)) (by kernel_rfl) rfl (fun h26 => ?_) (fun h26 => ?_)
   ·rw [h26]
    have p27 : o.kind = 7 := of_beq_t h26
    refine qs ?_
    refine qg ?_
    refine og 1 [(0, (ptr b)), (3, (ptr b1)), (4, (ptr b7)), (6, (i64 0)), (7, (Value.bool false)), (32, (i64 o.kind)), (35, (agg [(i64 0), (i64 0), (Value.slice none 0 0)]))] 1 ?_
    refine Ops.put (t := 30) (b := b7) (off := 0) (v := (agg [(i64 0), (i64 0), (Value.slice none 0 0)])) (ys := [(i64 0), (i64 0), (Value.slice none 0 0)]) (by kernel_rfl) (by kernel_rfl) H10 (by kernel_rfl) (d := none) (by kernel_rfl) rfl (fun w28 H29 K30 => ?_)
    clear H10
    replace K0 := K0.trans K30 (U := (fun i => i = mb ∨ i = kb)) (fun i h1 h2 => h2) (fun i h1 h2 => by have h2 : i = b7 := h2; show i = mb ∨ i = kb; omega)
    replace Hb := Hb.keep K30 (by intro h; change b = b7 at h; omega)
    replace Hm := Hm.keep K30 (by intro h; change mb = b7 at h; omega)
    replace Hk := Hk.keep K30 (by intro h; change kb = b7 at h; omega)
    replace H4 := H4.keep K30 (by intro h; change b1 = b7 at h; omega)
    clear K30
    refine od ?_
    refine q_ret (by kernel_rfl) ?_
    refine ⟨(agg [(i64 0), (i64 0), (Value.slice none 0 0)]), retv_cell rfl rfl (H29.loads (by kernel_rfl)), ?_⟩
    have e0 := do_move (S := S) (K := K) (o := o) hw (by omega)
    obtain ⟨e1, e2, e3⟩ := e0
    rw [e1, e2, e3]
    exact ⟨_, none, 0, rfl, K0, Hm, Hk, hB, (OwnT.nil _ _ _ _ _)⟩
   ·rw [h26]
    have p31 : ¬ (o.kind = 7) := of_beq_f h26
    refine qs ?_
    refine qg ?_
    refine og 2 [(0, (ptr b)), (3, (ptr b1)), (4, (ptr b7)), (6, (i64 0)), (7, (Value.bool false)), (32, (i64 o.kind)), (36, (Value.bool (o.kind == 6)))] 2 ?_
    refine od ?_
    refine q_cond (o := .tmp 36) (b := (o.kind == 6)) (by kernel_rfl) rfl (fun h32 => ?_) (fun h32 => ?_)
    ·rw [h32]
     have p33 : o.kind = 6 := of_beq_t h32
     refine qs ?_
     refine qg ?_
     refine og 1 [(0, (ptr b)), (3, (ptr b1)), (4, (ptr b7)), (6, (i64 0)), (7, (Value.bool false)), (32, (i64 o.kind)), (38, (ptr b))] 1 ?_
     refine Ops.call (by kernel_rfl) (d := (some 39)) (by kernel_rfl) (rows_calls _ b mb kb m S Hb Hm (by omega) hL (by omega)) ?_
     rintro _ w36 ⟨A34, c35, rfl, K37, hO38⟩
     have ob40 : ∀ i, ((Value.slice A34 S.length c35)).ownBlock = some i → i ≠ b := fun i hi => by have := (World.ownsRow.lt hO38 i hi).1; have := Hb.lt; omega
     have ob41 : ∀ i, ((Value.slice A34 S.length c35)).ownBlock = some i → i ≠ mb := fun i hi => by have := (World.ownsRow.lt hO38 i hi).1; have := Hm.lt; omega
     have ob42 : ∀ i, ((Value.slice A34 S.length c35)).ownBlock = some i → i ≠ kb := fun i hi => by have := (World.ownsRow.lt hO38 i hi).1; have := Hk.lt; omega
     have ob43 : ∀ i, ((Value.slice A34 S.length c35)).ownBlock = some i → i ≠ b1 := fun i hi => by have := (World.ownsRow.lt hO38 i hi).1; have := H4.lt; omega
     have ob44 : ∀ i, ((Value.slice A34 S.length c35)).ownBlock = some i → i ≠ b7 := fun i hi => by have := (World.ownsRow.lt hO38 i hi).1; have := H10.lt; omega
     have O39 := own_base hO38 K0.size
     clear hO38
     refine ⟨_, _, rfl, rfl, ?_⟩
     replace K0 := K0.trans K37 (U := (fun i => i = mb ∨ i = kb)) (fun i h1 h2 => h2) (fun i h1 h2 => by exact h2.elim)
     replace Hb := Hb.keep K37 (fun h => h)
     replace Hm := Hm.keep K37 (fun h => h)
     replace Hk := Hk.keep K37 (fun h => h)
     replace H4 := H4.keep K37 (fun h => h)
     replace H10 := H10.keep K37 (fun h => h)
     clear K37
     refine og 1 [(0, (ptr b)), (3, (ptr b1)), (4, (ptr b7)), (6, (i64 0)), (7, (Value.bool false)), (32, (i64 o.kind)), (40, (agg [(i64 0), (i64 0), (Value.slice A34 S.length c35)]))] 3 ?_
     refine Ops.put (t := 30) (b := b7) (off := 0) (v := (agg [(i64 0), (i64 0), (Value.slice A34 S.length c35)])) (ys := [(i64 0), (i64 0), (Value.slice A34 S.length c35)]) (by kernel_rfl) (by kernel_rfl) H10 (by kernel_rfl) (d := none) (by kernel_rfl) rfl (fun w45 H46 K47 => ?_)
     clear H10
     replace K0 := K0.trans K47 (U := (fun i => i = mb ∨ i = kb)) (fun i h1 h2 => h2) (fun i h1 h2 => by have h2 : i = b7 := h2; show i = mb ∨ i = kb; omega)
     replace Hb := Hb.keep K47 (by intro h; change b = b7 at h; omega)
     replace Hm := Hm.keep K47 (by intro h; change mb = b7 at h; omega)
     replace Hk := Hk.keep K47 (by intro h; change kb = b7 at h; omega)
     replace H4 := H4.keep K47 (by intro h; change b1 = b7 at h; omega)
     replace O39 := own_keep O39 K47 (fun i hi hs => by have hs : i = b7 := hs; have := ob44 i hi; omega)
     clear K47
     refine od ?_
     refine q_ret (by kernel_rfl) ?_
     refine ⟨(agg [(i64 0), (i64 0), (Value.slice A34 S.length c35)]), retv_cell rfl rfl (H46.loads (by kernel_rfl)), ?_⟩
     have e0 := do_audit (S := S) (K := K) (o := o) hw (by omega)
     obtain ⟨e1, e2, e3⟩ := e0
     rw [e1, e2, e3]
     exact ⟨_, A34, c35, rfl, K0, Hm, Hk, hB, O39⟩
    ·rw [h32]
     have p48 : ¬ (o.kind = 6) := of_beq_f h32
     refine qs ?_
     refine qg ?_
     refine og 2 [(0, (ptr b)), (3, (ptr b1)), (4, (ptr b7)), (6, (i64 0)), (7, (Value.bool false)), (41, (Value.bool (o.kind == 5)))] 2 ?_
     refine od ?_
     refine q_cond (o := .tmp 41) (b := (o.kind == 5)) (by kernel_rfl) rfl (fun h49 => ?_) (fun h49 => ?_)
     ·rw [h49]
      have p50 : o.kind = 5 := of_beq_t h49
      refine qs ?_
      refine qs ?_
      refine qg ?_
      refine og 2 [(0, (ptr b)), (3, (ptr b1)), (4, (ptr b7)), (6, (i64 0)), (7, (Value.bool false)), (44, (Value.bool true))] 2 ?_
      refine od ?_
      refine q_then (o := .tmp 44) (by kernel_rfl) rfl ?_
      refine qs ?_
      refine qg ?_
      refine og 1 [(0, (ptr b)), (3, (ptr b1)), (4, (ptr b7)), (6, (i64 0)), (7, (Value.bool false)), (45, (agg [(i64 40), (i64 0), (Value.slice none 0 0)]))] 1 ?_
      refine Ops.put (t := 30) (b := b7) (off := 0) (v := (agg [(i64 40), (i64 0), (Value.slice none 0 0)])) (ys := [(i64 40), (i64 0), (Value.slice none 0 0)]) (by kernel_rfl) (by kernel_rfl) H10 (by kernel_rfl) (d := none) (by kernel_rfl) rfl (fun w51 H52 K53 => ?_)
      clear H10
      replace K0 := K0.trans K53 (U := (fun i => i = mb ∨ i = kb)) (fun i h1 h2 => h2) (fun i h1 h2 => by have h2 : i = b7 := h2; show i = mb ∨ i = kb; omega)
      replace Hb := Hb.keep K53 (by intro h; change b = b7 at h; omega)
      replace Hm := Hm.keep K53 (by intro h; change mb = b7 at h; omega)
      replace Hk := Hk.keep K53 (by intro h; change kb = b7 at h; omega)
      replace H4 := H4.keep K53 (by intro h; change b1 = b7 at h; omega)
      clear K53
      refine od ?_
      refine q_ret (by kernel_rfl) ?_
      refine ⟨(agg [(i64 40), (i64 0), (Value.slice none 0 0)]), retv_cell rfl rfl (H52.loads (by kernel_rfl)), ?_⟩
      have e0 := do_bal_none (S := S) (K := K) (o := o) hw (by omega) hw25
      obtain ⟨e1, e2, e3⟩ := e0
      rw [e1, e2, e3]
      exact ⟨_, none, 0, rfl, K0, Hm, Hk, hB, (OwnT.nil _ _ _ _ _)⟩
     ·rw [h49]
      have p54 : ¬ (o.kind = 5) := of_beq_f h49
      have hwa := wrong_act hw (by omega) (by omega) (by omega)
      have hro : -9223372036854775808 ≤ (plainE o).amount ∧ (plainE o).amount ≤ 9223372036854775807 := by unfold plainE; simp only; split <;> omega
      refine q_skip (by kernel_rfl) ?_
      refine qs ?_
      refine qg ?_
      refine Ops.go (v := (agg [(i64 o.kind), (Value.string (str o.frm)), (Value.string (str o.to)), (i64 o.amount), (Value.string (str o.key)), (i64 o.slot), (i64 o.shard)])) (by kernel_rfl) (Runs.load (t := 24) (a := ⟨b1, 0, none⟩) (by kernel_rfl) (H4.loads (by kernel_rfl))) (d := (some 48)) (by kernel_rfl) rfl ?_
      refine Ops.call (by kernel_rfl) (d := (some 49)) (by kernel_rfl) (plain_calls _ o) ?_
      rintro _ w56 ⟨rfl, K55⟩
      refine ⟨_, _, rfl, rfl, ?_⟩
      replace K0 := K0.trans K55 (U := (fun i => i = mb ∨ i = kb)) (fun i h1 h2 => h2) (fun i h1 h2 => by exact h2.elim)
      replace Hb := Hb.keep K55 (fun h => h)
      replace Hm := Hm.keep K55 (fun h => h)
      replace Hk := Hk.keep K55 (fun h => h)
      replace H4 := H4.keep K55 (fun h => h)
      replace H10 := H10.keep K55 (fun h => h)
      clear K55
      refine Ops.put (t := 24) (b := b1) (off := 0) (v := (agg [(i64 o.kind), (Value.string (str o.frm)), (Value.string (str ((plainE o).to))), (i64 ((plainE o).amount)), (Value.string (str o.key)), (i64 0), (i64 0)])) (ys := [(i64 o.kind), (Value.string (str o.frm)), (Value.string (str ((plainE o).to))), (i64 ((plainE o).amount)), (Value.string (str o.key)), (i64 0), (i64 0)]) (by kernel_rfl) (by kernel_rfl) H4 (by kernel_rfl) (d := none) (by kernel_rfl) rfl (fun w57 H58 K59 => ?_)
      clear H4
      replace K0 := K0.trans K59 (U := (fun i => i = mb ∨ i = kb)) (fun i h1 h2 => h2) (fun i h1 h2 => by have h2 : i = b1 := h2; show i = mb ∨ i = kb; omega)
      replace Hb := Hb.keep K59 (by intro h; change b = b1 at h; omega)
      replace Hm := Hm.keep K59 (by intro h; change mb = b1 at h; omega)
      replace Hk := Hk.keep K59 (by intro h; change kb = b1 at h; omega)
      replace H10 := H10.keep K59 (by intro h; change b7 = b1 at h; omega)
      clear K59
      refine od ?_
      refine qs ?_
      refine qg ?_
      refine og 1 [(0, (ptr b)), (3, (ptr b1)), (4, (ptr b7)), (6, (i64 0)), (7, (Value.bool false)), (50, (Value.pointer (some ⟨b1, 1, none⟩)))] 1 ?_
      refine Ops.go (v := (Value.string (str o.frm))) (by kernel_rfl) (Runs.load (t := 9) (a := ⟨b1, 1, none⟩) (by kernel_rfl) (H58.loads (by kernel_rfl))) (d := (some 51)) (by kernel_rfl) rfl ?_
      refine og 1 [(0, (ptr b)), (3, (ptr b1)), (4, (ptr b7)), (6, (i64 0)), (7, (Value.bool false)), (51, (Value.string (str o.frm))), (52, (Value.pointer (some ⟨b1, 4, none⟩)))] 3 ?_
      refine Ops.go (v := (Value.string (str o.key))) (by kernel_rfl) (Runs.load (t := 9) (a := ⟨b1, 4, none⟩) (by kernel_rfl) (H58.loads (by kernel_rfl))) (d := (some 53)) (by kernel_rfl) rfl ?_
      refine og 1 [(0, (ptr b)), (3, (ptr b1)), (4, (ptr b7)), (6, (i64 0)), (7, (Value.bool false)), (54, (agg [(Value.string (str o.frm)), (Value.string (str o.key))]))] 5 ?_
      refine Ops.new (o := rowL [(Value.string ByteArray.empty), (Value.string ByteArray.empty)] 60) (V := fun b => (ptr b)) (by kernel_rfl) (d := (some 8)) (by kernel_rfl) (fun b => rfl) (fun b60 w61 hb62 H63 K64 hs65 => ?_)
      have lb60b : b < b60 := by have := Hb.lt; omega
      have lb60mb : mb < b60 := by have := Hm.lt; omega
      have lb60kb : kb < b60 := by have := Hk.lt; omega
      have lb60b1 : b1 < b60 := by have := H58.lt; omega
      have lb60b7 : b7 < b60 := by have := H10.lt; omega
      have nb60 : w.heap.size ≤ b60 := by have := K0.size; omega
      replace K0 := K0.trans K64 (U := (fun i => i = mb ∨ i = kb)) (fun i h1 h2 => h2) (fun i h1 h2 => by exact h2.elim)
      replace Hb := Hb.keep K64 (fun h => h)
      replace Hm := Hm.keep K64 (fun h => h)
      replace Hk := Hk.keep K64 (fun h => h)
      replace H58 := H58.keep K64 (fun h => h)
      replace H10 := H10.keep K64 (fun h => h)
      clear K64 hs65
      refine Ops.put (t := 60) (b := b60) (off := 0) (v := (agg [(Value.string (str o.frm)), (Value.string (str o.key))])) (ys := [(Value.string (str o.frm)), (Value.string (str o.key))]) (by kernel_rfl) (by kernel_rfl) H63 (by kernel_rfl) (d := none) (by kernel_rfl) rfl (fun w66 H67 K68 => ?_)
      clear H63
      replace K0 := K0.trans K68 (U := (fun i => i = mb ∨ i = kb)) (fun i h1 h2 => h2) (fun i h1 h2 => by have h2 : i = b60 := h2; show i = mb ∨ i = kb; omega)
      replace Hb := Hb.keep K68 (by intro h; change b = b60 at h; omega)
      replace Hm := Hm.keep K68 (by intro h; change mb = b60 at h; omega)
      replace Hk := Hk.keep K68 (by intro h; change kb = b60 at h; omega)
      replace H58 := H58.keep K68 (by intro h; change b1 = b60 at h; omega)
      replace H10 := H10.keep K68 (by intro h; change b7 = b60 at h; omega)
      clear K68
      refine od ?_
      refine qs ?_
      refine qs ?_
      refine q_draw (fun wz => Keeps none_ w66 wz) 12 (by kernel_rfl) (by kernel_rfl) (by kernel_rfl) (fun w69 K70 _ _ => ⟨K70, ?_⟩)
      replace K0 := K0.trans K70 (U := (fun i => i = mb ∨ i = kb)) (fun i h1 h2 => h2) (fun i h1 h2 => by exact h2.elim)
      replace Hb := Hb.keep K70 (fun h => h)
      replace Hm := Hm.keep K70 (fun h => h)
      replace Hk := Hk.keep K70 (fun h => h)
      replace H58 := H58.keep K70 (fun h => h)
      replace H10 := H10.keep K70 (fun h => h)
      replace H67 := H67.keep K70 (fun h => h)
      refine Dr.strong (S' := (fun wz => Keeps none_ w69 wz)) (Keeps.refl w69) (fun wz hx => K70.trans hx (fun i _ h => h) (fun _ _ h => h)) ?_
      clear K70
      refine Dr.takes (fuel' := 9) (is' := [2, 1, 0]) [0, 1, 2] [(0, (ptr b)), (3, (ptr b1)), (4, (ptr b7)), (6, (i64 0)), (7, (Value.bool false)), (8, (ptr b60)), (58, (Value.pointer (some ⟨b, 1, none⟩)))] (by kernel_rfl) rfl (by kernel_rfl) ?_
      refine Dr.take (i := 3) (v := (Value.map (some kb))) (by kernel_rfl) (by kernel_rfl) (fun wz hS => Runs.load (t := 52) (a := ⟨b, 1, none⟩) (by kernel_rfl) ((Hb.keep hS (fun h => h)).loads (by kernel_rfl))) (d := (some 59)) (by kernel_rfl) rfl ?_
      refine Dr.take (i := 4) (v := (agg [(Value.string (str o.frm)), (Value.string (str o.key))])) (by kernel_rfl) (by kernel_rfl) (fun wz hS => Runs.load (t := 60) (a := ⟨b60, 0, none⟩) (by kernel_rfl) ((H67.keep hS (fun h => h)).loads (by kernel_rfl))) (d := (some 60)) (by kernel_rfl) rfl ?_
      rcases hg71 : getM (K.map KeptM.kv) (o.frm, o.key) with _ | y72
      ·skip
       have hk73 : findK K o.frm o.key = none := hg71
       refine Dr.take (i := 5) (v := (Value.tuple #[(agg [(i64 0), (Value.string ByteArray.empty), (Value.string ByteArray.empty), (i64 0), (Value.string ByteArray.empty), (i64 0), (i64 0), (i64 0)]), (Value.bool false)])) (by kernel_rfl) (by kernel_rfl) (fun wz hS => Runs.lookup_none (ok := true) (z := (agg [(i64 0), (Value.string ByteArray.empty), (Value.string ByteArray.empty), (i64 0), (Value.string ByteArray.empty), (i64 0), (i64 0), (i64 0)])) KT2 Tryz.underlying52 (by kernel_rfl) (Hk.keep hS (fun h => h)) hg71 (by kernel_rfl)) (d := (some 61)) (by kernel_rfl) rfl ?_
       refine Dr.takes (fuel' := 3) (is' := [8, 7, 6, 5, 4, 3, 2, 1, 0]) [6, 7, 8] [(0, (ptr b)), (3, (ptr b1)), (4, (ptr b7)), (6, (i64 0)), (7, (Value.bool false)), (8, (ptr b60)), (62, (agg [(i64 0), (Value.string ByteArray.empty), (Value.string ByteArray.empty), (i64 0), (Value.string ByteArray.empty), (i64 0), (i64 0), (i64 0)])), (63, (Value.bool false))] (by kernel_rfl) rfl (by kernel_rfl) ?_
       refine Dr.new (i := 9) (o := rowL [(i64 0), (Value.string ByteArray.empty), (Value.string ByteArray.empty), (i64 0), (Value.string ByteArray.empty), (i64 0), (i64 0), (i64 0)] 62) (V := fun b => (ptr b)) (by kernel_rfl) (by kernel_rfl) (d := (some 9)) (by kernel_rfl) (fun b => rfl) (fun b74 w75 hb76 H77 K78 hs79 => ?_)
       have lb74b : b < b74 := by have := Hb.lt; omega
       have lb74mb : mb < b74 := by have := Hm.lt; omega
       have lb74kb : kb < b74 := by have := Hk.lt; omega
       have lb74b1 : b1 < b74 := by have := H58.lt; omega
       have lb74b7 : b7 < b74 := by have := H10.lt; omega
       have lb74b60 : b60 < b74 := by have := H67.lt; omega
       have nb74 : w.heap.size ≤ b74 := by have := K0.size; omega
       replace K0 := K0.trans K78 (U := (fun i => i = mb ∨ i = kb)) (fun i h1 h2 => h2) (fun i h1 h2 => by exact h2.elim)
       replace Hb := Hb.keep K78 (fun h => h)
       replace Hm := Hm.keep K78 (fun h => h)
       replace Hk := Hk.keep K78 (fun h => h)
       replace H58 := H58.keep K78 (fun h => h)
       replace H10 := H10.keep K78 (fun h => h)
       replace H67 := H67.keep K78 (fun h => h)
       refine ⟨K78, ?_⟩
       refine Dr.strong (S' := (fun wz => Keeps (fun i => i = b74) w75 wz)) ((Keeps.refl w75).mono (fun _ _ h => h.elim)) (fun wz hx => K78.trans hx (U := none_) (fun i _ h => h) (fun i hi h => by have h : i = b74 := h; exfalso; omega)) ?_
       clear K78 hs79
       refine Dr.put (i := 10) (t := 62) (b := b74) (off := 0) (v := (agg [(i64 0), (Value.string ByteArray.empty), (Value.string ByteArray.empty), (i64 0), (Value.string ByteArray.empty), (i64 0), (i64 0), (i64 0)])) (ys := [(i64 0), (Value.string ByteArray.empty), (Value.string ByteArray.empty), (i64 0), (Value.string ByteArray.empty), (i64 0), (i64 0), (i64 0)]) (by kernel_rfl) (by kernel_rfl) (by kernel_rfl) H77 (by kernel_rfl) (d := none) (by kernel_rfl) rfl (fun w80 H81 K82 => ?_)
       clear H77
       replace K0 := K0.trans K82 (U := (fun i => i = mb ∨ i = kb)) (fun i h1 h2 => h2) (fun i h1 h2 => by have h2 : i = b74 := h2; show i = mb ∨ i = kb; omega)
       replace Hb := Hb.keep K82 (by intro h; change b = b74 at h; omega)
       replace Hm := Hm.keep K82 (by intro h; change mb = b74 at h; omega)
       replace Hk := Hk.keep K82 (by intro h; change kb = b74 at h; omega)
       replace H58 := H58.keep K82 (by intro h; change b1 = b74 at h; omega)
       replace H10 := H10.keep K82 (by intro h; change b7 = b74 at h; omega)
       replace H67 := H67.keep K82 (by intro h; change b60 = b74 at h; omega)
       refine ⟨K82, ?_⟩
       refine Dr.strong (S' := (fun wz => Keeps (fun i => i = b74) w80 wz)) ((Keeps.refl w80).mono (fun _ _ h => h.elim)) (fun wz hx => K82.trans hx (fun i _ h => by have h : i = b74 := h; show i = b74; omega) (fun _ _ h => h)) ?_
       clear K82
       refine Dr.takes (fuel' := 0) (is' := [11, 10, 9, 8, 7, 6, 5, 4, 3, 2, 1, 0]) [11] [(0, (ptr b)), (3, (ptr b1)), (4, (ptr b7)), (6, (i64 0)), (7, (Value.bool false)), (8, (ptr b60)), (9, (ptr b74)), (10, (Value.bool false))] (by kernel_rfl) rfl (by kernel_rfl) ?_
       refine Dr.done (by kernel_rfl) ?_
       refine qs ?_
       refine qg ?_
       refine og 1 [(0, (ptr b)), (3, (ptr b1)), (4, (ptr b7)), (6, (i64 0)), (7, (Value.bool false)), (8, (ptr b60)), (9, (ptr b74)), (64, (Value.bool false))] 1 ?_
       refine od ?_
       refine q_else (o := .tmp 64) (by kernel_rfl) rfl ?_
       refine q_skip (by kernel_rfl) ?_
       refine qs ?_
       refine qg ?_
       refine og 1 [(0, (ptr b)), (3, (ptr b1)), (4, (ptr b7)), (6, (i64 0)), (7, (Value.bool false)), (8, (ptr b60)), (73, (ptr b))] 1 ?_
       refine Ops.go (v := (agg [(i64 o.kind), (Value.string (str o.frm)), (Value.string (str ((plainE o).to))), (i64 ((plainE o).amount)), (Value.string (str o.key)), (i64 0), (i64 0)])) (by kernel_rfl) (Runs.load (t := 24) (a := ⟨b1, 0, none⟩) (by kernel_rfl) (H58.loads (by kernel_rfl))) (d := (some 74)) (by kernel_rfl) rfl ?_
       refine og 2 [(0, (ptr b)), (3, (ptr b1)), (4, (ptr b7)), (8, (ptr b60)), (73, (ptr b)), (74, (agg [(i64 o.kind), (Value.string (str o.frm)), (Value.string (str ((plainE o).to))), (i64 ((plainE o).amount)), (Value.string (str o.key)), (i64 0), (i64 0)])), (75, (i64 0)), (76, (Value.bool false))] 4 ?_
       refine Ops.call (by kernel_rfl) (d := (some 77)) (by kernel_rfl) (act_none _ b mb kb m S (plainE o) Hb Hm (by omega) hL hwa.1 hwa.2.1 (fun q => by have h1 := hwa.2.2.2.1 q; have h2 := plainE_amount o q; omega) hro (fun q => by have h2 := plainE_to o q; rw [h2]; exact (hwa.2.2.2.2 q).2) hg23) ?_
       rintro _ w84 ⟨m83, rfl, K85, Hm86, hL87⟩
       refine ⟨_, _, rfl, rfl, ?_⟩
       replace K0 := K0.trans K85 (U := (fun i => i = mb ∨ i = kb)) (fun i h1 h2 => h2) (fun i h1 h2 => by have h2 : i = mb := h2; show i = mb ∨ i = kb; omega)
       replace Hb := Hb.keep K85 (by intro h; change b = mb at h; omega)
       replace Hk := Hk.keep K85 (by intro h; change kb = mb at h; omega)
       replace H58 := H58.keep K85 (by intro h; change b1 = mb at h; omega)
       replace H10 := H10.keep K85 (by intro h; change b7 = mb at h; omega)
       replace H67 := H67.keep K85 (by intro h; change b60 = mb at h; omega)
       replace H81 := H81.keep K85 (by intro h; change b74 = mb at h; omega)
       clear K85
       refine og 1 [(0, (ptr b)), (3, (ptr b1)), (4, (ptr b7)), (8, (ptr b60)), (11, (i64 (actE S (plainE o))))] 6 ?_
       refine od ?_
       refine qs ?_
       refine q_draw (fun wz => Keeps (fun i => i = kb) w84 wz) 9 (by kernel_rfl) (by kernel_rfl) (by kernel_rfl) (fun w88 K89 _ _ => ⟨(K89.mono (fun _ _ h => h.elim)), ?_⟩)
       replace K0 := K0.trans K89 (U := (fun i => i = mb ∨ i = kb)) (fun i h1 h2 => h2) (fun i h1 h2 => by exact h2.elim)
       replace Hb := Hb.keep K89 (fun h => h)
       replace Hm86 := Hm86.keep K89 (fun h => h)
       replace Hk := Hk.keep K89 (fun h => h)
       replace H58 := H58.keep K89 (fun h => h)
       replace H10 := H10.keep K89 (fun h => h)
       replace H67 := H67.keep K89 (fun h => h)
       replace H81 := H81.keep K89 (fun h => h)
       refine Dr.strong (S' := (fun wz => Keeps (fun i => i = kb) w88 wz)) ((Keeps.refl w88).mono (fun _ _ h => h.elim)) (fun wz hx => K89.trans hx (fun i _ h => h.elim) (fun _ _ h => h)) ?_
       clear K89
       refine Dr.takes (fuel' := 6) (is' := [2, 1, 0]) [0, 1, 2] [(3, (ptr b1)), (4, (ptr b7)), (8, (ptr b60)), (11, (i64 (actE S (plainE o)))), (80, (Value.pointer (some ⟨b, 1, none⟩)))] (by kernel_rfl) rfl (by kernel_rfl) ?_
       refine Dr.take (i := 3) (v := (Value.map (some kb))) (by kernel_rfl) (by kernel_rfl) (fun wz hS => Runs.load (t := 52) (a := ⟨b, 1, none⟩) (by kernel_rfl) ((Hb.keep hS (by intro h; change b = kb at h; omega)).loads (by kernel_rfl))) (d := (some 81)) (by kernel_rfl) rfl ?_
       refine Dr.take (i := 4) (v := (agg [(Value.string (str o.frm)), (Value.string (str o.key))])) (by kernel_rfl) (by kernel_rfl) (fun wz hS => Runs.load (t := 60) (a := ⟨b60, 0, none⟩) (by kernel_rfl) ((H67.keep hS (by intro h; change b60 = kb at h; omega)).loads (by kernel_rfl))) (d := (some 82)) (by kernel_rfl) rfl ?_
       refine Dr.take (i := 5) (v := (agg [(i64 o.kind), (Value.string (str o.frm)), (Value.string (str ((plainE o).to))), (i64 ((plainE o).amount)), (Value.string (str o.key)), (i64 0), (i64 0)])) (by kernel_rfl) (by kernel_rfl) (fun wz hS => Runs.load (t := 24) (a := ⟨b1, 0, none⟩) (by kernel_rfl) ((H58.keep hS (by intro h; change b1 = kb at h; omega)).loads (by kernel_rfl))) (d := (some 83)) (by kernel_rfl) rfl ?_
       refine Dr.takes (fuel' := 1) (is' := [7, 6, 5, 4, 3, 2, 1, 0]) [6, 7] [(4, (ptr b7)), (11, (i64 (actE S (plainE o)))), (81, (Value.map (some kb))), (82, (agg [(Value.string (str o.frm)), (Value.string (str o.key))])), (85, (agg [(i64 o.kind), (Value.string (str o.frm)), (Value.string (str ((plainE o).to))), (i64 ((plainE o).amount)), (Value.string (str o.key)), (i64 0), (i64 0), (i64 (actE S (plainE o)))]))] (by kernel_rfl) rfl (by kernel_rfl) ?_
       obtain ⟨w90, hr91, K92, H93⟩ := HasMap.update KT2 Tryz.underlying52 Hk (o.frm, o.key) (⟨(plainE o), actE S (plainE o)⟩ : KeptM)
       refine Dr.goU (i := 8) (by kernel_rfl) (by kernel_rfl) (RunsU.of_update (by kernel_rfl) hr91) (d := none) (by kernel_rfl) rfl K92 ?_
       clear Hk
       replace K0 := K0.trans K92 (U := (fun i => i = mb ∨ i = kb)) (fun i h1 h2 => h2) (fun i h1 h2 => by have h2 : i = kb := h2; show i = mb ∨ i = kb; omega)
       replace Hb := Hb.keep K92 (by intro h; change b = kb at h; omega)
       replace Hm86 := Hm86.keep K92 (by intro h; change mb = kb at h; omega)
       replace H58 := H58.keep K92 (by intro h; change b1 = kb at h; omega)
       replace H10 := H10.keep K92 (by intro h; change b7 = kb at h; omega)
       replace H67 := H67.keep K92 (by intro h; change b60 = kb at h; omega)
       replace H81 := H81.keep K92 (by intro h; change b74 = kb at h; omega)
       refine Dr.strong (S' := (fun wz => Keeps (fun i => i = kb) w90 wz)) ((Keeps.refl w90).mono (fun _ _ h => h.elim)) (fun wz hx => K92.trans hx (fun i _ h => by have h : i = kb := h; show i = kb; omega) (fun _ _ h => h)) ?_
       clear K92 hr91
       refine Dr.done (by kernel_rfl) ?_
       refine qs ?_
       refine qg ?_
       refine og 2 [(4, (ptr b7)), (87, (agg [(i64 (actE S (plainE o))), (i64 0), (Value.slice none 0 0)]))] 2 ?_
       refine Ops.put (t := 30) (b := b7) (off := 0) (v := (agg [(i64 (actE S (plainE o))), (i64 0), (Value.slice none 0 0)])) (ys := [(i64 (actE S (plainE o))), (i64 0), (Value.slice none 0 0)]) (by kernel_rfl) (by kernel_rfl) H10 (by kernel_rfl) (d := none) (by kernel_rfl) rfl (fun w94 H95 K96 => ?_)
       clear H10
       replace K0 := K0.trans K96 (U := (fun i => i = mb ∨ i = kb)) (fun i h1 h2 => h2) (fun i h1 h2 => by have h2 : i = b7 := h2; show i = mb ∨ i = kb; omega)
       replace Hb := Hb.keep K96 (by intro h; change b = b7 at h; omega)
       replace Hm86 := Hm86.keep K96 (by intro h; change mb = b7 at h; omega)
       replace H93 := H93.keep K96 (by intro h; change kb = b7 at h; omega)
       replace H58 := H58.keep K96 (by intro h; change b1 = b7 at h; omega)
       replace H67 := H67.keep K96 (by intro h; change b60 = b7 at h; omega)
       replace H81 := H81.keep K96 (by intro h; change b74 = b7 at h; omega)
       clear K96
       refine od ?_
       refine q_ret (by kernel_rfl) ?_
       refine ⟨(agg [(i64 (actE S (plainE o))), (i64 0), (Value.slice none 0 0)]), retv_cell rfl rfl (H95.loads (by kernel_rfl)), ?_⟩
       have e0 := do_fresh (S := S) (K := K) (o := o) hw (by omega) (by omega) (by omega) hk73
       obtain ⟨e1, e2, e3⟩ := e0
       rw [e1, e2, e3]
       exact ⟨_, none, 0, rfl, K0, Hm86, by have h := H93; rwa [show putM (K.map KeptM.kv) (o.frm, o.key) (⟨plainE o, actE S (plainE o)⟩ : KeptM) = _ from putM_kept (x := ⟨plainE o, actE S (plainE o)⟩) hk73] at h, hB.fresh hw (by omega) (by omega) (by omega) hk73 hr hL87, (OwnT.nil _ _ _ _ _)⟩
      ·skip
       have hk97 : findK K o.frm o.key = some y72 := hg71
       have hy98 := hB.ledg.ok _ (findK_some hk97).1
       have hy99 := hy98.why
       have hy100 := hy98.kind
       refine Dr.take (i := 5) (v := (Value.tuple #[(agg [(i64 y72.op.kind), (Value.string (str y72.op.frm)), (Value.string (str y72.op.to)), (i64 y72.op.amount), (Value.string (str y72.op.key)), (i64 y72.op.slot), (i64 y72.op.shard), (i64 y72.why)]), (Value.bool true)])) (by kernel_rfl) (by kernel_rfl) (fun wz hS => Runs.lookup_some (ok := true) (vf := keptv) (a := (⟨y72.op, y72.why⟩ : KeptM)) KT2 Tryz.underlying52 (Hk.keep hS (fun h => h)) hg71 (by kernel_rfl)) (d := (some 61)) (by kernel_rfl) rfl ?_
       refine Dr.takes (fuel' := 3) (is' := [8, 7, 6, 5, 4, 3, 2, 1, 0]) [6, 7, 8] [(0, (ptr b)), (3, (ptr b1)), (4, (ptr b7)), (6, (i64 0)), (7, (Value.bool false)), (8, (ptr b60)), (62, (agg [(i64 y72.op.kind), (Value.string (str y72.op.frm)), (Value.string (str y72.op.to)), (i64 y72.op.amount), (Value.string (str y72.op.key)), (i64 y72.op.slot), (i64 y72.op.shard), (i64 y72.why)])), (63, (Value.bool true))] (by kernel_rfl) rfl (by kernel_rfl) ?_
       refine Dr.new (i := 9) (o := rowL [(i64 0), (Value.string ByteArray.empty), (Value.string ByteArray.empty), (i64 0), (Value.string ByteArray.empty), (i64 0), (i64 0), (i64 0)] 62) (V := fun b => (ptr b)) (by kernel_rfl) (by kernel_rfl) (d := (some 9)) (by kernel_rfl) (fun b => rfl) (fun b101 w102 hb103 H104 K105 hs106 => ?_)
       have lb101b : b < b101 := by have := Hb.lt; omega
       have lb101mb : mb < b101 := by have := Hm.lt; omega
       have lb101kb : kb < b101 := by have := Hk.lt; omega
       have lb101b1 : b1 < b101 := by have := H58.lt; omega
       have lb101b7 : b7 < b101 := by have := H10.lt; omega
       have lb101b60 : b60 < b101 := by have := H67.lt; omega
       have nb101 : w.heap.size ≤ b101 := by have := K0.size; omega
       replace K0 := K0.trans K105 (U := (fun i => i = mb ∨ i = kb)) (fun i h1 h2 => h2) (fun i h1 h2 => by exact h2.elim)
       replace Hb := Hb.keep K105 (fun h => h)
       replace Hm := Hm.keep K105 (fun h => h)
       replace Hk := Hk.keep K105 (fun h => h)
       replace H58 := H58.keep K105 (fun h => h)
       replace H10 := H10.keep K105 (fun h => h)
       replace H67 := H67.keep K105 (fun h => h)
       refine ⟨K105, ?_⟩
       refine Dr.strong (S' := (fun wz => Keeps (fun i => i = b101) w102 wz)) ((Keeps.refl w102).mono (fun _ _ h => h.elim)) (fun wz hx => K105.trans hx (U := none_) (fun i _ h => h) (fun i hi h => by have h : i = b101 := h; exfalso; omega)) ?_
       clear K105 hs106
       refine Dr.put (i := 10) (t := 62) (b := b101) (off := 0) (v := (agg [(i64 y72.op.kind), (Value.string (str y72.op.frm)), (Value.string (str y72.op.to)), (i64 y72.op.amount), (Value.string (str y72.op.key)), (i64 y72.op.slot), (i64 y72.op.shard), (i64 y72.why)])) (ys := [(i64 y72.op.kind), (Value.string (str y72.op.frm)), (Value.string (str y72.op.to)), (i64 y72.op.amount), (Value.string (str y72.op.key)), (i64 y72.op.slot), (i64 y72.op.shard), (i64 y72.why)]) (by kernel_rfl) (by kernel_rfl) (by kernel_rfl) H104 (by kernel_rfl) (d := none) (by kernel_rfl) rfl (fun w107 H108 K109 => ?_)
       clear H104
       replace K0 := K0.trans K109 (U := (fun i => i = mb ∨ i = kb)) (fun i h1 h2 => h2) (fun i h1 h2 => by have h2 : i = b101 := h2; show i = mb ∨ i = kb; omega)
       replace Hb := Hb.keep K109 (by intro h; change b = b101 at h; omega)
       replace Hm := Hm.keep K109 (by intro h; change mb = b101 at h; omega)
       replace Hk := Hk.keep K109 (by intro h; change kb = b101 at h; omega)
       replace H58 := H58.keep K109 (by intro h; change b1 = b101 at h; omega)
       replace H10 := H10.keep K109 (by intro h; change b7 = b101 at h; omega)
       replace H67 := H67.keep K109 (by intro h; change b60 = b101 at h; omega)
       refine ⟨K109, ?_⟩
       refine Dr.strong (S' := (fun wz => Keeps (fun i => i = b101) w107 wz)) ((Keeps.refl w107).mono (fun _ _ h => h.elim)) (fun wz hx => K109.trans hx (fun i _ h => by have h : i = b101 := h; show i = b101; omega) (fun _ _ h => h)) ?_
       clear K109
       refine Dr.takes (fuel' := 0) (is' := [11, 10, 9, 8, 7, 6, 5, 4, 3, 2, 1, 0]) [11] [(0, (ptr b)), (3, (ptr b1)), (4, (ptr b7)), (6, (i64 0)), (7, (Value.bool false)), (8, (ptr b60)), (9, (ptr b101)), (10, (Value.bool true))] (by kernel_rfl) rfl (by kernel_rfl) ?_
       refine Dr.done (by kernel_rfl) ?_
       refine qs ?_
       refine qg ?_
       refine og 1 [(0, (ptr b)), (3, (ptr b1)), (4, (ptr b7)), (6, (i64 0)), (7, (Value.bool false)), (8, (ptr b60)), (9, (ptr b101)), (64, (Value.bool true))] 1 ?_
       refine od ?_
       refine q_then (o := .tmp 64) (by kernel_rfl) rfl ?_
       refine qs ?_
       refine qs ?_
       refine qg ?_
       refine og 1 [(0, (ptr b)), (3, (ptr b1)), (4, (ptr b7)), (6, (i64 0)), (7, (Value.bool false)), (8, (ptr b60)), (9, (ptr b101)), (65, (ptr b101))] 1 ?_
       refine Ops.go (v := (agg [(i64 y72.op.kind), (Value.string (str y72.op.frm)), (Value.string (str y72.op.to)), (i64 y72.op.amount), (Value.string (str y72.op.key)), (i64 y72.op.slot), (i64 y72.op.shard)])) (by kernel_rfl) (Runs.load (t := 24) (a := ⟨b101, 0, none⟩) (by kernel_rfl) (H108.loads (by kernel_rfl))) (d := (some 66)) (by kernel_rfl) rfl ?_
       refine Ops.go (v := (agg [(i64 o.kind), (Value.string (str o.frm)), (Value.string (str ((plainE o).to))), (i64 ((plainE o).amount)), (Value.string (str o.key)), (i64 0), (i64 0)])) (by kernel_rfl) (Runs.load (t := 24) (a := ⟨b1, 0, none⟩) (by kernel_rfl) (H58.loads (by kernel_rfl))) (d := (some 67)) (by kernel_rfl) rfl ?_
       refine Ops.go (v := (Value.bool (!(aggB [(i64 y72.op.kind), (Value.string (str y72.op.frm)), (Value.string (str y72.op.to)), (i64 y72.op.amount), (Value.string (str y72.op.key)), (i64 y72.op.slot), (i64 y72.op.shard)] [(i64 o.kind), (Value.string (str o.frm)), (Value.string (str ((plainE o).to))), (i64 ((plainE o).amount)), (Value.string (str o.key)), (i64 0), (i64 0)])))) (by kernel_rfl) (Runs.aggne (t := 24) (by kernel_rfl) (by kernel_rfl)) (d := (some 68)) (by kernel_rfl) rfl ?_
       refine od ?_
       refine q_cond (o := .tmp 68) (b := (!(aggB [(i64 y72.op.kind), (Value.string (str y72.op.frm)), (Value.string (str y72.op.to)), (i64 y72.op.amount), (Value.string (str y72.op.key)), (i64 y72.op.slot), (i64 y72.op.shard)] [(i64 o.kind), (Value.string (str o.frm)), (Value.string (str ((plainE o).to))), (i64 ((plainE o).amount)), (Value.string (str o.key)), (i64 0), (i64 0)]))) (by kernel_rfl) rfl (fun h110 => ?_) (fun h110 => ?_)
       ·rw [h110]
        have p111 : (aggB [(i64 y72.op.kind), (Value.string (str y72.op.frm)), (Value.string (str y72.op.to)), (i64 y72.op.amount), (Value.string (str y72.op.key)), (i64 y72.op.slot), (i64 y72.op.shard)] [(i64 o.kind), (Value.string (str o.frm)), (Value.string (str ((plainE o).to))), (i64 ((plainE o).amount)), (Value.string (str o.key)), (i64 0), (i64 0)]) = false := (bnot_true h110)
        refine qs ?_
        refine qg ?_
        refine og 1 [(0, (ptr b)), (3, (ptr b1)), (4, (ptr b7)), (6, (i64 0)), (7, (Value.bool false)), (8, (ptr b60)), (9, (ptr b101)), (69, (agg [(i64 45), (i64 0), (Value.slice none 0 0)]))] 1 ?_
        refine Ops.put (t := 30) (b := b7) (off := 0) (v := (agg [(i64 45), (i64 0), (Value.slice none 0 0)])) (ys := [(i64 45), (i64 0), (Value.slice none 0 0)]) (by kernel_rfl) (by kernel_rfl) H10 (by kernel_rfl) (d := none) (by kernel_rfl) rfl (fun w112 H113 K114 => ?_)
        clear H10
        replace K0 := K0.trans K114 (U := (fun i => i = mb ∨ i = kb)) (fun i h1 h2 => h2) (fun i h1 h2 => by have h2 : i = b7 := h2; show i = mb ∨ i = kb; omega)
        replace Hb := Hb.keep K114 (by intro h; change b = b7 at h; omega)
        replace Hm := Hm.keep K114 (by intro h; change mb = b7 at h; omega)
        replace Hk := Hk.keep K114 (by intro h; change kb = b7 at h; omega)
        replace H58 := H58.keep K114 (by intro h; change b1 = b7 at h; omega)
        replace H67 := H67.keep K114 (by intro h; change b60 = b7 at h; omega)
        replace H108 := H108.keep K114 (by intro h; change b101 = b7 at h; omega)
        clear K114
        refine od ?_
        refine q_ret (by kernel_rfl) ?_
        refine ⟨(agg [(i64 45), (i64 0), (Value.slice none 0 0)]), retv_cell rfl rfl (H113.loads (by kernel_rfl)), ?_⟩
        have e0 := do_other (S := S) (K := K) (o := o) hw (by omega) (by omega) (by omega) hk97 (bnot_true h110)
        obtain ⟨e1, e2, e3⟩ := e0
        rw [e1, e2, e3]
        exact ⟨_, none, 0, rfl, K0, Hm, Hk, hB, (OwnT.nil _ _ _ _ _)⟩
       ·rw [h110]
        have p115 : (aggB [(i64 y72.op.kind), (Value.string (str y72.op.frm)), (Value.string (str y72.op.to)), (i64 y72.op.amount), (Value.string (str y72.op.key)), (i64 y72.op.slot), (i64 y72.op.shard)] [(i64 o.kind), (Value.string (str o.frm)), (Value.string (str ((plainE o).to))), (i64 ((plainE o).amount)), (Value.string (str o.key)), (i64 0), (i64 0)]) = true := (bnot_false h110)
        refine q_skip (by kernel_rfl) ?_
        refine qs ?_
        refine qg ?_
        refine og 1 [(0, (ptr b)), (3, (ptr b1)), (4, (ptr b7)), (6, (i64 0)), (7, (Value.bool false)), (8, (ptr b60)), (70, (Value.pointer (some ⟨b101, 7, none⟩)))] 1 ?_
        refine Ops.go (v := (i64 y72.why)) (by kernel_rfl) (Runs.load (t := 27) (a := ⟨b101, 7, none⟩) (by kernel_rfl) (H108.loads (by kernel_rfl))) (d := (some 71)) (by kernel_rfl) rfl ?_
        refine og 1 [(0, (ptr b)), (3, (ptr b1)), (4, (ptr b7)), (6, (i64 0)), (7, (Value.bool false)), (8, (ptr b60)), (72, (agg [(i64 y72.why), (i64 0), (Value.slice none 0 0)]))] 3 ?_
        refine Ops.put (t := 30) (b := b7) (off := 0) (v := (agg [(i64 y72.why), (i64 0), (Value.slice none 0 0)])) (ys := [(i64 y72.why), (i64 0), (Value.slice none 0 0)]) (by kernel_rfl) (by kernel_rfl) H10 (by kernel_rfl) (d := none) (by kernel_rfl) rfl (fun w116 H117 K118 => ?_)
        clear H10
        replace K0 := K0.trans K118 (U := (fun i => i = mb ∨ i = kb)) (fun i h1 h2 => h2) (fun i h1 h2 => by have h2 : i = b7 := h2; show i = mb ∨ i = kb; omega)
        replace Hb := Hb.keep K118 (by intro h; change b = b7 at h; omega)
        replace Hm := Hm.keep K118 (by intro h; change mb = b7 at h; omega)
        replace Hk := Hk.keep K118 (by intro h; change kb = b7 at h; omega)
        replace H58 := H58.keep K118 (by intro h; change b1 = b7 at h; omega)
        replace H67 := H67.keep K118 (by intro h; change b60 = b7 at h; omega)
        replace H108 := H108.keep K118 (by intro h; change b101 = b7 at h; omega)
        clear K118
        refine od ?_
        refine q_ret (by kernel_rfl) ?_
        refine ⟨(agg [(i64 y72.why), (i64 0), (Value.slice none 0 0)]), retv_cell rfl rfl (H117.loads (by kernel_rfl)), ?_⟩
        have e0 := do_again (S := S) (K := K) (o := o) hw (by omega) (by omega) (by omega) hk97 (bnot_false h110)
        obtain ⟨e1, e2, e3⟩ := e0
        rw [e1, e2, e3]
        exact ⟨_, none, 0, rfl, K0, Hm, Hk, hB, (OwnT.nil _ _ _ _ _)⟩
  ·skip
   obtain ⟨hw119, hr120, hr121⟩ := hL.got_some hg23
   refine Dr.take (i := 6) (v := (Value.tuple #[(i64 y24), (Value.bool true)])) (by kernel_rfl) (by kernel_rfl) (fun wz hS => Runs.lookup_some (ok := true) (vf := ki64) (a := y24) KT Tryz.underlying51 (Hm.keep hS (fun h => h)) hg23 (by kernel_rfl)) (d := (some 28)) (by kernel_rfl) rfl ?_
   refine Dr.takes (fuel' := 0) (is' := [11, 10, 9, 8, 7, 6, 5, 4, 3, 2, 1, 0]) [7, 8, 9, 10, 11] [(0, (ptr b)), (3, (ptr b1)), (4, (ptr b7)), (6, (i64 y24)), (7, (Value.bool true))] (by kernel_rfl) rfl (by kernel_rfl) ?_
   refine Dr.done (by kernel_rfl) ?_
   refine qs ?_
   refine qs ?_
   refine qg ?_
   refine og 1 [(0, (ptr b)), (3, (ptr b1)), (4, (ptr b7)), (6, (i64 y24)), (7, (Value.bool true)), (31, (ptr b1))] 1 ?_
   refine Ops.go (v := (i64 o.kind)) (by kernel_rfl) (Runs.load (t := 3) (a := ⟨b1, 0, none⟩) (by kernel_rfl) (H4.loads (by kernel_rfl))) (d := (some 32)) (by kernel_rfl) rfl ?_
   refine od ?_
   refine q_block (id := 0) (by kernel_rfl) ?_
   refine qs ?_
   refine qg ?_
   refine og 2 [(0, (ptr b)), (3, (ptr b1)), (4, (ptr b7)), (6, (i64 y24)), (7, (Value.bool true)), (32, (i64 o.kind)), (33, (Value.bool (o.kind == 7)))] 2 ?_
   refine od ?_
   refine q_cond (o := .tmp 33) (b := (o.kind == 7)) (by kernel_rfl) rfl (fun h122 => ?_) (fun h122 => ?_)
   ·rw [h122]
    have p123 : o.kind = 7 := of_beq_t h122
    refine qs ?_
    refine qg ?_
    refine og 1 [(0, (ptr b)), (3, (ptr b1)), (4, (ptr b7)), (6, (i64 y24)), (7, (Value.bool true)), (32, (i64 o.kind)), (35, (agg [(i64 0), (i64 0), (Value.slice none 0 0)]))] 1 ?_
    refine Ops.put (t := 30) (b := b7) (off := 0) (v := (agg [(i64 0), (i64 0), (Value.slice none 0 0)])) (ys := [(i64 0), (i64 0), (Value.slice none 0 0)]) (by kernel_rfl) (by kernel_rfl) H10 (by kernel_rfl) (d := none) (by kernel_rfl) rfl (fun w124 H125 K126 => ?_)
    clear H10
    replace K0 := K0.trans K126 (U := (fun i => i = mb ∨ i = kb)) (fun i h1 h2 => h2) (fun i h1 h2 => by have h2 : i = b7 := h2; show i = mb ∨ i = kb; omega)
    replace Hb := Hb.keep K126 (by intro h; change b = b7 at h; omega)
    replace Hm := Hm.keep K126 (by intro h; change mb = b7 at h; omega)
    replace Hk := Hk.keep K126 (by intro h; change kb = b7 at h; omega)
    replace H4 := H4.keep K126 (by intro h; change b1 = b7 at h; omega)
    clear K126
    refine od ?_
    refine q_ret (by kernel_rfl) ?_
    refine ⟨(agg [(i64 0), (i64 0), (Value.slice none 0 0)]), retv_cell rfl rfl (H125.loads (by kernel_rfl)), ?_⟩
    have e0 := do_move (S := S) (K := K) (o := o) hw (by omega)
    obtain ⟨e1, e2, e3⟩ := e0
    rw [e1, e2, e3]
    exact ⟨_, none, 0, rfl, K0, Hm, Hk, hB, (OwnT.nil _ _ _ _ _)⟩
   ·rw [h122]
    have p127 : ¬ (o.kind = 7) := of_beq_f h122
    refine qs ?_
    refine qg ?_
    refine og 2 [(0, (ptr b)), (3, (ptr b1)), (4, (ptr b7)), (6, (i64 y24)), (7, (Value.bool true)), (32, (i64 o.kind)), (36, (Value.bool (o.kind == 6)))] 2 ?_
    refine od ?_
    refine q_cond (o := .tmp 36) (b := (o.kind == 6)) (by kernel_rfl) rfl (fun h128 => ?_) (fun h128 => ?_)
    ·rw [h128]
     have p129 : o.kind = 6 := of_beq_t h128
     refine qs ?_
     refine qg ?_
     refine og 1 [(0, (ptr b)), (3, (ptr b1)), (4, (ptr b7)), (6, (i64 y24)), (7, (Value.bool true)), (32, (i64 o.kind)), (38, (ptr b))] 1 ?_
     refine Ops.call (by kernel_rfl) (d := (some 39)) (by kernel_rfl) (rows_calls _ b mb kb m S Hb Hm (by omega) hL (by omega)) ?_
     rintro _ w132 ⟨A130, c131, rfl, K133, hO134⟩
     have ob136 : ∀ i, ((Value.slice A130 S.length c131)).ownBlock = some i → i ≠ b := fun i hi => by have := (World.ownsRow.lt hO134 i hi).1; have := Hb.lt; omega
     have ob137 : ∀ i, ((Value.slice A130 S.length c131)).ownBlock = some i → i ≠ mb := fun i hi => by have := (World.ownsRow.lt hO134 i hi).1; have := Hm.lt; omega
     have ob138 : ∀ i, ((Value.slice A130 S.length c131)).ownBlock = some i → i ≠ kb := fun i hi => by have := (World.ownsRow.lt hO134 i hi).1; have := Hk.lt; omega
     have ob139 : ∀ i, ((Value.slice A130 S.length c131)).ownBlock = some i → i ≠ b1 := fun i hi => by have := (World.ownsRow.lt hO134 i hi).1; have := H4.lt; omega
     have ob140 : ∀ i, ((Value.slice A130 S.length c131)).ownBlock = some i → i ≠ b7 := fun i hi => by have := (World.ownsRow.lt hO134 i hi).1; have := H10.lt; omega
     have O135 := own_base hO134 K0.size
     clear hO134
     refine ⟨_, _, rfl, rfl, ?_⟩
     replace K0 := K0.trans K133 (U := (fun i => i = mb ∨ i = kb)) (fun i h1 h2 => h2) (fun i h1 h2 => by exact h2.elim)
     replace Hb := Hb.keep K133 (fun h => h)
     replace Hm := Hm.keep K133 (fun h => h)
     replace Hk := Hk.keep K133 (fun h => h)
     replace H4 := H4.keep K133 (fun h => h)
     replace H10 := H10.keep K133 (fun h => h)
     clear K133
     refine og 1 [(0, (ptr b)), (3, (ptr b1)), (4, (ptr b7)), (6, (i64 y24)), (7, (Value.bool true)), (32, (i64 o.kind)), (40, (agg [(i64 0), (i64 0), (Value.slice A130 S.length c131)]))] 3 ?_
     refine Ops.put (t := 30) (b := b7) (off := 0) (v := (agg [(i64 0), (i64 0), (Value.slice A130 S.length c131)])) (ys := [(i64 0), (i64 0), (Value.slice A130 S.length c131)]) (by kernel_rfl) (by kernel_rfl) H10 (by kernel_rfl) (d := none) (by kernel_rfl) rfl (fun w141 H142 K143 => ?_)
     clear H10
     replace K0 := K0.trans K143 (U := (fun i => i = mb ∨ i = kb)) (fun i h1 h2 => h2) (fun i h1 h2 => by have h2 : i = b7 := h2; show i = mb ∨ i = kb; omega)
     replace Hb := Hb.keep K143 (by intro h; change b = b7 at h; omega)
     replace Hm := Hm.keep K143 (by intro h; change mb = b7 at h; omega)
     replace Hk := Hk.keep K143 (by intro h; change kb = b7 at h; omega)
     replace H4 := H4.keep K143 (by intro h; change b1 = b7 at h; omega)
     replace O135 := own_keep O135 K143 (fun i hi hs => by have hs : i = b7 := hs; have := ob140 i hi; omega)
     clear K143
     refine od ?_
     refine q_ret (by kernel_rfl) ?_
     refine ⟨(agg [(i64 0), (i64 0), (Value.slice A130 S.length c131)]), retv_cell rfl rfl (H142.loads (by kernel_rfl)), ?_⟩
     have e0 := do_audit (S := S) (K := K) (o := o) hw (by omega)
     obtain ⟨e1, e2, e3⟩ := e0
     rw [e1, e2, e3]
     exact ⟨_, A130, c131, rfl, K0, Hm, Hk, hB, O135⟩
    ·rw [h128]
     have p144 : ¬ (o.kind = 6) := of_beq_f h128
     refine qs ?_
     refine qg ?_
     refine og 2 [(0, (ptr b)), (3, (ptr b1)), (4, (ptr b7)), (6, (i64 y24)), (7, (Value.bool true)), (41, (Value.bool (o.kind == 5)))] 2 ?_
     refine od ?_
     refine q_cond (o := .tmp 41) (b := (o.kind == 5)) (by kernel_rfl) rfl (fun h145 => ?_) (fun h145 => ?_)
     ·rw [h145]
      have p146 : o.kind = 5 := of_beq_t h145
      refine qs ?_
      refine qs ?_
      refine qg ?_
      refine og 2 [(0, (ptr b)), (3, (ptr b1)), (4, (ptr b7)), (6, (i64 y24)), (7, (Value.bool true)), (44, (Value.bool false))] 2 ?_
      refine od ?_
      refine q_else (o := .tmp 44) (by kernel_rfl) rfl ?_
      refine q_skip (by kernel_rfl) ?_
      refine qs ?_
      refine qg ?_
      refine og 2 [(0, (ptr b)), (3, (ptr b1)), (4, (ptr b7)), (6, (i64 y24)), (7, (Value.bool true)), (47, (agg [(i64 0), (i64 y24), (Value.slice none 0 0)]))] 2 ?_
      refine Ops.put (t := 30) (b := b7) (off := 0) (v := (agg [(i64 0), (i64 y24), (Value.slice none 0 0)])) (ys := [(i64 0), (i64 y24), (Value.slice none 0 0)]) (by kernel_rfl) (by kernel_rfl) H10 (by kernel_rfl) (d := none) (by kernel_rfl) rfl (fun w147 H148 K149 => ?_)
      clear H10
      replace K0 := K0.trans K149 (U := (fun i => i = mb ∨ i = kb)) (fun i h1 h2 => h2) (fun i h1 h2 => by have h2 : i = b7 := h2; show i = mb ∨ i = kb; omega)
      replace Hb := Hb.keep K149 (by intro h; change b = b7 at h; omega)
      replace Hm := Hm.keep K149 (by intro h; change mb = b7 at h; omega)
      replace Hk := Hk.keep K149 (by intro h; change kb = b7 at h; omega)
      replace H4 := H4.keep K149 (by intro h; change b1 = b7 at h; omega)
      clear K149
      refine od ?_
      refine q_ret (by kernel_rfl) ?_
      refine ⟨(agg [(i64 0), (i64 y24), (Value.slice none 0 0)]), retv_cell rfl rfl (H148.loads (by kernel_rfl)), ?_⟩
      have e0 := do_bal_some (S := S) (K := K) (o := o) hw (by omega) hw119
      obtain ⟨e1, e2, e3⟩ := e0
      rw [e1, e2, e3]
      exact ⟨_, none, 0, rfl, K0, Hm, Hk, hB, (OwnT.nil _ _ _ _ _)⟩
     ·rw [h145]
      have p150 : ¬ (o.kind = 5) := of_beq_f h145
      have hwa := wrong_act hw (by omega) (by omega) (by omega)
      have hro : -9223372036854775808 ≤ (plainE o).amount ∧ (plainE o).amount ≤ 9223372036854775807 := by unfold plainE; simp only; split <;> omega
      refine q_skip (by kernel_rfl) ?_
      refine qs ?_
      refine qg ?_
      refine Ops.go (v := (agg [(i64 o.kind), (Value.string (str o.frm)), (Value.string (str o.to)), (i64 o.amount), (Value.string (str o.key)), (i64 o.slot), (i64 o.shard)])) (by kernel_rfl) (Runs.load (t := 24) (a := ⟨b1, 0, none⟩) (by kernel_rfl) (H4.loads (by kernel_rfl))) (d := (some 48)) (by kernel_rfl) rfl ?_
      refine Ops.call (by kernel_rfl) (d := (some 49)) (by kernel_rfl) (plain_calls _ o) ?_
      rintro _ w152 ⟨rfl, K151⟩
      refine ⟨_, _, rfl, rfl, ?_⟩
      replace K0 := K0.trans K151 (U := (fun i => i = mb ∨ i = kb)) (fun i h1 h2 => h2) (fun i h1 h2 => by exact h2.elim)
      replace Hb := Hb.keep K151 (fun h => h)
      replace Hm := Hm.keep K151 (fun h => h)
      replace Hk := Hk.keep K151 (fun h => h)
      replace H4 := H4.keep K151 (fun h => h)
      replace H10 := H10.keep K151 (fun h => h)
      clear K151
      refine Ops.put (t := 24) (b := b1) (off := 0) (v := (agg [(i64 o.kind), (Value.string (str o.frm)), (Value.string (str ((plainE o).to))), (i64 ((plainE o).amount)), (Value.string (str o.key)), (i64 0), (i64 0)])) (ys := [(i64 o.kind), (Value.string (str o.frm)), (Value.string (str ((plainE o).to))), (i64 ((plainE o).amount)), (Value.string (str o.key)), (i64 0), (i64 0)]) (by kernel_rfl) (by kernel_rfl) H4 (by kernel_rfl) (d := none) (by kernel_rfl) rfl (fun w153 H154 K155 => ?_)
      clear H4
      replace K0 := K0.trans K155 (U := (fun i => i = mb ∨ i = kb)) (fun i h1 h2 => h2) (fun i h1 h2 => by have h2 : i = b1 := h2; show i = mb ∨ i = kb; omega)
      replace Hb := Hb.keep K155 (by intro h; change b = b1 at h; omega)
      replace Hm := Hm.keep K155 (by intro h; change mb = b1 at h; omega)
      replace Hk := Hk.keep K155 (by intro h; change kb = b1 at h; omega)
      replace H10 := H10.keep K155 (by intro h; change b7 = b1 at h; omega)
      clear K155
      refine od ?_
      refine qs ?_
      refine qg ?_
      refine og 1 [(0, (ptr b)), (3, (ptr b1)), (4, (ptr b7)), (6, (i64 y24)), (7, (Value.bool true)), (50, (Value.pointer (some ⟨b1, 1, none⟩)))] 1 ?_
      refine Ops.go (v := (Value.string (str o.frm))) (by kernel_rfl) (Runs.load (t := 9) (a := ⟨b1, 1, none⟩) (by kernel_rfl) (H154.loads (by kernel_rfl))) (d := (some 51)) (by kernel_rfl) rfl ?_
      refine og 1 [(0, (ptr b)), (3, (ptr b1)), (4, (ptr b7)), (6, (i64 y24)), (7, (Value.bool true)), (51, (Value.string (str o.frm))), (52, (Value.pointer (some ⟨b1, 4, none⟩)))] 3 ?_
      refine Ops.go (v := (Value.string (str o.key))) (by kernel_rfl) (Runs.load (t := 9) (a := ⟨b1, 4, none⟩) (by kernel_rfl) (H154.loads (by kernel_rfl))) (d := (some 53)) (by kernel_rfl) rfl ?_
      refine og 1 [(0, (ptr b)), (3, (ptr b1)), (4, (ptr b7)), (6, (i64 y24)), (7, (Value.bool true)), (54, (agg [(Value.string (str o.frm)), (Value.string (str o.key))]))] 5 ?_
      refine Ops.new (o := rowL [(Value.string ByteArray.empty), (Value.string ByteArray.empty)] 60) (V := fun b => (ptr b)) (by kernel_rfl) (d := (some 8)) (by kernel_rfl) (fun b => rfl) (fun b156 w157 hb158 H159 K160 hs161 => ?_)
      have lb156b : b < b156 := by have := Hb.lt; omega
      have lb156mb : mb < b156 := by have := Hm.lt; omega
      have lb156kb : kb < b156 := by have := Hk.lt; omega
      have lb156b1 : b1 < b156 := by have := H154.lt; omega
      have lb156b7 : b7 < b156 := by have := H10.lt; omega
      have nb156 : w.heap.size ≤ b156 := by have := K0.size; omega
      replace K0 := K0.trans K160 (U := (fun i => i = mb ∨ i = kb)) (fun i h1 h2 => h2) (fun i h1 h2 => by exact h2.elim)
      replace Hb := Hb.keep K160 (fun h => h)
      replace Hm := Hm.keep K160 (fun h => h)
      replace Hk := Hk.keep K160 (fun h => h)
      replace H154 := H154.keep K160 (fun h => h)
      replace H10 := H10.keep K160 (fun h => h)
      clear K160 hs161
      refine Ops.put (t := 60) (b := b156) (off := 0) (v := (agg [(Value.string (str o.frm)), (Value.string (str o.key))])) (ys := [(Value.string (str o.frm)), (Value.string (str o.key))]) (by kernel_rfl) (by kernel_rfl) H159 (by kernel_rfl) (d := none) (by kernel_rfl) rfl (fun w162 H163 K164 => ?_)
      clear H159
      replace K0 := K0.trans K164 (U := (fun i => i = mb ∨ i = kb)) (fun i h1 h2 => h2) (fun i h1 h2 => by have h2 : i = b156 := h2; show i = mb ∨ i = kb; omega)
      replace Hb := Hb.keep K164 (by intro h; change b = b156 at h; omega)
      replace Hm := Hm.keep K164 (by intro h; change mb = b156 at h; omega)
      replace Hk := Hk.keep K164 (by intro h; change kb = b156 at h; omega)
      replace H154 := H154.keep K164 (by intro h; change b1 = b156 at h; omega)
      replace H10 := H10.keep K164 (by intro h; change b7 = b156 at h; omega)
      clear K164
      refine od ?_
      refine qs ?_
      refine qs ?_
      refine q_draw (fun wz => Keeps none_ w162 wz) 12 (by kernel_rfl) (by kernel_rfl) (by kernel_rfl) (fun w165 K166 _ _ => ⟨K166, ?_⟩)
      replace K0 := K0.trans K166 (U := (fun i => i = mb ∨ i = kb)) (fun i h1 h2 => h2) (fun i h1 h2 => by exact h2.elim)
      replace Hb := Hb.keep K166 (fun h => h)
      replace Hm := Hm.keep K166 (fun h => h)
      replace Hk := Hk.keep K166 (fun h => h)
      replace H154 := H154.keep K166 (fun h => h)
      replace H10 := H10.keep K166 (fun h => h)
      replace H163 := H163.keep K166 (fun h => h)
      refine Dr.strong (S' := (fun wz => Keeps none_ w165 wz)) (Keeps.refl w165) (fun wz hx => K166.trans hx (fun i _ h => h) (fun _ _ h => h)) ?_
      clear K166
      refine Dr.takes (fuel' := 9) (is' := [2, 1, 0]) [0, 1, 2] [(0, (ptr b)), (3, (ptr b1)), (4, (ptr b7)), (6, (i64 y24)), (7, (Value.bool true)), (8, (ptr b156)), (58, (Value.pointer (some ⟨b, 1, none⟩)))] (by kernel_rfl) rfl (by kernel_rfl) ?_
      refine Dr.take (i := 3) (v := (Value.map (some kb))) (by kernel_rfl) (by kernel_rfl) (fun wz hS => Runs.load (t := 52) (a := ⟨b, 1, none⟩) (by kernel_rfl) ((Hb.keep hS (fun h => h)).loads (by kernel_rfl))) (d := (some 59)) (by kernel_rfl) rfl ?_
      refine Dr.take (i := 4) (v := (agg [(Value.string (str o.frm)), (Value.string (str o.key))])) (by kernel_rfl) (by kernel_rfl) (fun wz hS => Runs.load (t := 60) (a := ⟨b156, 0, none⟩) (by kernel_rfl) ((H163.keep hS (fun h => h)).loads (by kernel_rfl))) (d := (some 60)) (by kernel_rfl) rfl ?_
      rcases hg167 : getM (K.map KeptM.kv) (o.frm, o.key) with _ | y168
      ·skip
       have hk169 : findK K o.frm o.key = none := hg167
       refine Dr.take (i := 5) (v := (Value.tuple #[(agg [(i64 0), (Value.string ByteArray.empty), (Value.string ByteArray.empty), (i64 0), (Value.string ByteArray.empty), (i64 0), (i64 0), (i64 0)]), (Value.bool false)])) (by kernel_rfl) (by kernel_rfl) (fun wz hS => Runs.lookup_none (ok := true) (z := (agg [(i64 0), (Value.string ByteArray.empty), (Value.string ByteArray.empty), (i64 0), (Value.string ByteArray.empty), (i64 0), (i64 0), (i64 0)])) KT2 Tryz.underlying52 (by kernel_rfl) (Hk.keep hS (fun h => h)) hg167 (by kernel_rfl)) (d := (some 61)) (by kernel_rfl) rfl ?_
       refine Dr.takes (fuel' := 3) (is' := [8, 7, 6, 5, 4, 3, 2, 1, 0]) [6, 7, 8] [(0, (ptr b)), (3, (ptr b1)), (4, (ptr b7)), (6, (i64 y24)), (7, (Value.bool true)), (8, (ptr b156)), (62, (agg [(i64 0), (Value.string ByteArray.empty), (Value.string ByteArray.empty), (i64 0), (Value.string ByteArray.empty), (i64 0), (i64 0), (i64 0)])), (63, (Value.bool false))] (by kernel_rfl) rfl (by kernel_rfl) ?_
       refine Dr.new (i := 9) (o := rowL [(i64 0), (Value.string ByteArray.empty), (Value.string ByteArray.empty), (i64 0), (Value.string ByteArray.empty), (i64 0), (i64 0), (i64 0)] 62) (V := fun b => (ptr b)) (by kernel_rfl) (by kernel_rfl) (d := (some 9)) (by kernel_rfl) (fun b => rfl) (fun b170 w171 hb172 H173 K174 hs175 => ?_)
       have lb170b : b < b170 := by have := Hb.lt; omega
       have lb170mb : mb < b170 := by have := Hm.lt; omega
       have lb170kb : kb < b170 := by have := Hk.lt; omega
       have lb170b1 : b1 < b170 := by have := H154.lt; omega
       have lb170b7 : b7 < b170 := by have := H10.lt; omega
       have lb170b156 : b156 < b170 := by have := H163.lt; omega
       have nb170 : w.heap.size ≤ b170 := by have := K0.size; omega
       replace K0 := K0.trans K174 (U := (fun i => i = mb ∨ i = kb)) (fun i h1 h2 => h2) (fun i h1 h2 => by exact h2.elim)
       replace Hb := Hb.keep K174 (fun h => h)
       replace Hm := Hm.keep K174 (fun h => h)
       replace Hk := Hk.keep K174 (fun h => h)
       replace H154 := H154.keep K174 (fun h => h)
       replace H10 := H10.keep K174 (fun h => h)
       replace H163 := H163.keep K174 (fun h => h)
       refine ⟨K174, ?_⟩
       refine Dr.strong (S' := (fun wz => Keeps (fun i => i = b170) w171 wz)) ((Keeps.refl w171).mono (fun _ _ h => h.elim)) (fun wz hx => K174.trans hx (U := none_) (fun i _ h => h) (fun i hi h => by have h : i = b170 := h; exfalso; omega)) ?_
       clear K174 hs175
       refine Dr.put (i := 10) (t := 62) (b := b170) (off := 0) (v := (agg [(i64 0), (Value.string ByteArray.empty), (Value.string ByteArray.empty), (i64 0), (Value.string ByteArray.empty), (i64 0), (i64 0), (i64 0)])) (ys := [(i64 0), (Value.string ByteArray.empty), (Value.string ByteArray.empty), (i64 0), (Value.string ByteArray.empty), (i64 0), (i64 0), (i64 0)]) (by kernel_rfl) (by kernel_rfl) (by kernel_rfl) H173 (by kernel_rfl) (d := none) (by kernel_rfl) rfl (fun w176 H177 K178 => ?_)
       clear H173
       replace K0 := K0.trans K178 (U := (fun i => i = mb ∨ i = kb)) (fun i h1 h2 => h2) (fun i h1 h2 => by have h2 : i = b170 := h2; show i = mb ∨ i = kb; omega)
       replace Hb := Hb.keep K178 (by intro h; change b = b170 at h; omega)
       replace Hm := Hm.keep K178 (by intro h; change mb = b170 at h; omega)
       replace Hk := Hk.keep K178 (by intro h; change kb = b170 at h; omega)
       replace H154 := H154.keep K178 (by intro h; change b1 = b170 at h; omega)
       replace H10 := H10.keep K178 (by intro h; change b7 = b170 at h; omega)
       replace H163 := H163.keep K178 (by intro h; change b156 = b170 at h; omega)
       refine ⟨K178, ?_⟩
       refine Dr.strong (S' := (fun wz => Keeps (fun i => i = b170) w176 wz)) ((Keeps.refl w176).mono (fun _ _ h => h.elim)) (fun wz hx => K178.trans hx (fun i _ h => by have h : i = b170 := h; show i = b170; omega) (fun _ _ h => h)) ?_
       clear K178
       refine Dr.takes (fuel' := 0) (is' := [11, 10, 9, 8, 7, 6, 5, 4, 3, 2, 1, 0]) [11] [(0, (ptr b)), (3, (ptr b1)), (4, (ptr b7)), (6, (i64 y24)), (7, (Value.bool true)), (8, (ptr b156)), (9, (ptr b170)), (10, (Value.bool false))] (by kernel_rfl) rfl (by kernel_rfl) ?_
       refine Dr.done (by kernel_rfl) ?_
       refine qs ?_
       refine qg ?_
       refine og 1 [(0, (ptr b)), (3, (ptr b1)), (4, (ptr b7)), (6, (i64 y24)), (7, (Value.bool true)), (8, (ptr b156)), (9, (ptr b170)), (64, (Value.bool false))] 1 ?_
       refine od ?_
       refine q_else (o := .tmp 64) (by kernel_rfl) rfl ?_
       refine q_skip (by kernel_rfl) ?_
       refine qs ?_
       refine qg ?_
       refine og 1 [(0, (ptr b)), (3, (ptr b1)), (4, (ptr b7)), (6, (i64 y24)), (7, (Value.bool true)), (8, (ptr b156)), (73, (ptr b))] 1 ?_
       refine Ops.go (v := (agg [(i64 o.kind), (Value.string (str o.frm)), (Value.string (str ((plainE o).to))), (i64 ((plainE o).amount)), (Value.string (str o.key)), (i64 0), (i64 0)])) (by kernel_rfl) (Runs.load (t := 24) (a := ⟨b1, 0, none⟩) (by kernel_rfl) (H154.loads (by kernel_rfl))) (d := (some 74)) (by kernel_rfl) rfl ?_
       refine og 2 [(0, (ptr b)), (3, (ptr b1)), (4, (ptr b7)), (8, (ptr b156)), (73, (ptr b)), (74, (agg [(i64 o.kind), (Value.string (str o.frm)), (Value.string (str ((plainE o).to))), (i64 ((plainE o).amount)), (Value.string (str o.key)), (i64 0), (i64 0)])), (75, (i64 y24)), (76, (Value.bool true))] 4 ?_
       refine Ops.call (by kernel_rfl) (d := (some 77)) (by kernel_rfl) (act_some _ b mb kb m S (plainE o) Hb Hm (by omega) hL hwa.1 hwa.2.1 (fun q => by have h1 := hwa.2.2.2.1 q; have h2 := plainE_amount o q; omega) hro (fun q => by have h2 := plainE_to o q; rw [h2]; exact (hwa.2.2.2.2 q).2) y24 hg23) ?_
       rintro _ w180 ⟨m179, rfl, K181, Hm182, hL183⟩
       refine ⟨_, _, rfl, rfl, ?_⟩
       replace K0 := K0.trans K181 (U := (fun i => i = mb ∨ i = kb)) (fun i h1 h2 => h2) (fun i h1 h2 => by have h2 : i = mb := h2; show i = mb ∨ i = kb; omega)
       replace Hb := Hb.keep K181 (by intro h; change b = mb at h; omega)
       replace Hk := Hk.keep K181 (by intro h; change kb = mb at h; omega)
       replace H154 := H154.keep K181 (by intro h; change b1 = mb at h; omega)
       replace H10 := H10.keep K181 (by intro h; change b7 = mb at h; omega)
       replace H163 := H163.keep K181 (by intro h; change b156 = mb at h; omega)
       replace H177 := H177.keep K181 (by intro h; change b170 = mb at h; omega)
       clear K181
       refine og 1 [(0, (ptr b)), (3, (ptr b1)), (4, (ptr b7)), (8, (ptr b156)), (11, (i64 (actE S (plainE o))))] 6 ?_
       refine od ?_
       refine qs ?_
       refine q_draw (fun wz => Keeps (fun i => i = kb) w180 wz) 9 (by kernel_rfl) (by kernel_rfl) (by kernel_rfl) (fun w184 K185 _ _ => ⟨(K185.mono (fun _ _ h => h.elim)), ?_⟩)
       replace K0 := K0.trans K185 (U := (fun i => i = mb ∨ i = kb)) (fun i h1 h2 => h2) (fun i h1 h2 => by exact h2.elim)
       replace Hb := Hb.keep K185 (fun h => h)
       replace Hm182 := Hm182.keep K185 (fun h => h)
       replace Hk := Hk.keep K185 (fun h => h)
       replace H154 := H154.keep K185 (fun h => h)
       replace H10 := H10.keep K185 (fun h => h)
       replace H163 := H163.keep K185 (fun h => h)
       replace H177 := H177.keep K185 (fun h => h)
       refine Dr.strong (S' := (fun wz => Keeps (fun i => i = kb) w184 wz)) ((Keeps.refl w184).mono (fun _ _ h => h.elim)) (fun wz hx => K185.trans hx (fun i _ h => h.elim) (fun _ _ h => h)) ?_
       clear K185
       refine Dr.takes (fuel' := 6) (is' := [2, 1, 0]) [0, 1, 2] [(3, (ptr b1)), (4, (ptr b7)), (8, (ptr b156)), (11, (i64 (actE S (plainE o)))), (80, (Value.pointer (some ⟨b, 1, none⟩)))] (by kernel_rfl) rfl (by kernel_rfl) ?_
       refine Dr.take (i := 3) (v := (Value.map (some kb))) (by kernel_rfl) (by kernel_rfl) (fun wz hS => Runs.load (t := 52) (a := ⟨b, 1, none⟩) (by kernel_rfl) ((Hb.keep hS (by intro h; change b = kb at h; omega)).loads (by kernel_rfl))) (d := (some 81)) (by kernel_rfl) rfl ?_
       refine Dr.take (i := 4) (v := (agg [(Value.string (str o.frm)), (Value.string (str o.key))])) (by kernel_rfl) (by kernel_rfl) (fun wz hS => Runs.load (t := 60) (a := ⟨b156, 0, none⟩) (by kernel_rfl) ((H163.keep hS (by intro h; change b156 = kb at h; omega)).loads (by kernel_rfl))) (d := (some 82)) (by kernel_rfl) rfl ?_
       refine Dr.take (i := 5) (v := (agg [(i64 o.kind), (Value.string (str o.frm)), (Value.string (str ((plainE o).to))), (i64 ((plainE o).amount)), (Value.string (str o.key)), (i64 0), (i64 0)])) (by kernel_rfl) (by kernel_rfl) (fun wz hS => Runs.load (t := 24) (a := ⟨b1, 0, none⟩) (by kernel_rfl) ((H154.keep hS (by intro h; change b1 = kb at h; omega)).loads (by kernel_rfl))) (d := (some 83)) (by kernel_rfl) rfl ?_
       refine Dr.takes (fuel' := 1) (is' := [7, 6, 5, 4, 3, 2, 1, 0]) [6, 7] [(4, (ptr b7)), (11, (i64 (actE S (plainE o)))), (81, (Value.map (some kb))), (82, (agg [(Value.string (str o.frm)), (Value.string (str o.key))])), (85, (agg [(i64 o.kind), (Value.string (str o.frm)), (Value.string (str ((plainE o).to))), (i64 ((plainE o).amount)), (Value.string (str o.key)), (i64 0), (i64 0), (i64 (actE S (plainE o)))]))] (by kernel_rfl) rfl (by kernel_rfl) ?_
       obtain ⟨w186, hr187, K188, H189⟩ := HasMap.update KT2 Tryz.underlying52 Hk (o.frm, o.key) (⟨(plainE o), actE S (plainE o)⟩ : KeptM)
       refine Dr.goU (i := 8) (by kernel_rfl) (by kernel_rfl) (RunsU.of_update (by kernel_rfl) hr187) (d := none) (by kernel_rfl) rfl K188 ?_
       clear Hk
       replace K0 := K0.trans K188 (U := (fun i => i = mb ∨ i = kb)) (fun i h1 h2 => h2) (fun i h1 h2 => by have h2 : i = kb := h2; show i = mb ∨ i = kb; omega)
       replace Hb := Hb.keep K188 (by intro h; change b = kb at h; omega)
       replace Hm182 := Hm182.keep K188 (by intro h; change mb = kb at h; omega)
       replace H154 := H154.keep K188 (by intro h; change b1 = kb at h; omega)
       replace H10 := H10.keep K188 (by intro h; change b7 = kb at h; omega)
       replace H163 := H163.keep K188 (by intro h; change b156 = kb at h; omega)
       replace H177 := H177.keep K188 (by intro h; change b170 = kb at h; omega)
       refine Dr.strong (S' := (fun wz => Keeps (fun i => i = kb) w186 wz)) ((Keeps.refl w186).mono (fun _ _ h => h.elim)) (fun wz hx => K188.trans hx (fun i _ h => by have h : i = kb := h; show i = kb; omega) (fun _ _ h => h)) ?_
       clear K188 hr187
       refine Dr.done (by kernel_rfl) ?_
       refine qs ?_
       refine qg ?_
       refine og 2 [(4, (ptr b7)), (87, (agg [(i64 (actE S (plainE o))), (i64 0), (Value.slice none 0 0)]))] 2 ?_
       refine Ops.put (t := 30) (b := b7) (off := 0) (v := (agg [(i64 (actE S (plainE o))), (i64 0), (Value.slice none 0 0)])) (ys := [(i64 (actE S (plainE o))), (i64 0), (Value.slice none 0 0)]) (by kernel_rfl) (by kernel_rfl) H10 (by kernel_rfl) (d := none) (by kernel_rfl) rfl (fun w190 H191 K192 => ?_)
       clear H10
       replace K0 := K0.trans K192 (U := (fun i => i = mb ∨ i = kb)) (fun i h1 h2 => h2) (fun i h1 h2 => by have h2 : i = b7 := h2; show i = mb ∨ i = kb; omega)
       replace Hb := Hb.keep K192 (by intro h; change b = b7 at h; omega)
       replace Hm182 := Hm182.keep K192 (by intro h; change mb = b7 at h; omega)
       replace H189 := H189.keep K192 (by intro h; change kb = b7 at h; omega)
       replace H154 := H154.keep K192 (by intro h; change b1 = b7 at h; omega)
       replace H163 := H163.keep K192 (by intro h; change b156 = b7 at h; omega)
       replace H177 := H177.keep K192 (by intro h; change b170 = b7 at h; omega)
       clear K192
       refine od ?_
       refine q_ret (by kernel_rfl) ?_
       refine ⟨(agg [(i64 (actE S (plainE o))), (i64 0), (Value.slice none 0 0)]), retv_cell rfl rfl (H191.loads (by kernel_rfl)), ?_⟩
       have e0 := do_fresh (S := S) (K := K) (o := o) hw (by omega) (by omega) (by omega) hk169
       obtain ⟨e1, e2, e3⟩ := e0
       rw [e1, e2, e3]
       exact ⟨_, none, 0, rfl, K0, Hm182, by have h := H189; rwa [show putM (K.map KeptM.kv) (o.frm, o.key) (⟨plainE o, actE S (plainE o)⟩ : KeptM) = _ from putM_kept (x := ⟨plainE o, actE S (plainE o)⟩) hk169] at h, hB.fresh hw (by omega) (by omega) (by omega) hk169 hr hL183, (OwnT.nil _ _ _ _ _)⟩
      ·skip
       have hk193 : findK K o.frm o.key = some y168 := hg167
       have hy194 := hB.ledg.ok _ (findK_some hk193).1
       have hy195 := hy194.why
       have hy196 := hy194.kind
       refine Dr.take (i := 5) (v := (Value.tuple #[(agg [(i64 y168.op.kind), (Value.string (str y168.op.frm)), (Value.string (str y168.op.to)), (i64 y168.op.amount), (Value.string (str y168.op.key)), (i64 y168.op.slot), (i64 y168.op.shard), (i64 y168.why)]), (Value.bool true)])) (by kernel_rfl) (by kernel_rfl) (fun wz hS => Runs.lookup_some (ok := true) (vf := keptv) (a := (⟨y168.op, y168.why⟩ : KeptM)) KT2 Tryz.underlying52 (Hk.keep hS (fun h => h)) hg167 (by kernel_rfl)) (d := (some 61)) (by kernel_rfl) rfl ?_
       refine Dr.takes (fuel' := 3) (is' := [8, 7, 6, 5, 4, 3, 2, 1, 0]) [6, 7, 8] [(0, (ptr b)), (3, (ptr b1)), (4, (ptr b7)), (6, (i64 y24)), (7, (Value.bool true)), (8, (ptr b156)), (62, (agg [(i64 y168.op.kind), (Value.string (str y168.op.frm)), (Value.string (str y168.op.to)), (i64 y168.op.amount), (Value.string (str y168.op.key)), (i64 y168.op.slot), (i64 y168.op.shard), (i64 y168.why)])), (63, (Value.bool true))] (by kernel_rfl) rfl (by kernel_rfl) ?_
       refine Dr.new (i := 9) (o := rowL [(i64 0), (Value.string ByteArray.empty), (Value.string ByteArray.empty), (i64 0), (Value.string ByteArray.empty), (i64 0), (i64 0), (i64 0)] 62) (V := fun b => (ptr b)) (by kernel_rfl) (by kernel_rfl) (d := (some 9)) (by kernel_rfl) (fun b => rfl) (fun b197 w198 hb199 H200 K201 hs202 => ?_)
       have lb197b : b < b197 := by have := Hb.lt; omega
       have lb197mb : mb < b197 := by have := Hm.lt; omega
       have lb197kb : kb < b197 := by have := Hk.lt; omega
       have lb197b1 : b1 < b197 := by have := H154.lt; omega
       have lb197b7 : b7 < b197 := by have := H10.lt; omega
       have lb197b156 : b156 < b197 := by have := H163.lt; omega
       have nb197 : w.heap.size ≤ b197 := by have := K0.size; omega
       replace K0 := K0.trans K201 (U := (fun i => i = mb ∨ i = kb)) (fun i h1 h2 => h2) (fun i h1 h2 => by exact h2.elim)
       replace Hb := Hb.keep K201 (fun h => h)
       replace Hm := Hm.keep K201 (fun h => h)
       replace Hk := Hk.keep K201 (fun h => h)
       replace H154 := H154.keep K201 (fun h => h)
       replace H10 := H10.keep K201 (fun h => h)
       replace H163 := H163.keep K201 (fun h => h)
       refine ⟨K201, ?_⟩
       refine Dr.strong (S' := (fun wz => Keeps (fun i => i = b197) w198 wz)) ((Keeps.refl w198).mono (fun _ _ h => h.elim)) (fun wz hx => K201.trans hx (U := none_) (fun i _ h => h) (fun i hi h => by have h : i = b197 := h; exfalso; omega)) ?_
       clear K201 hs202
       refine Dr.put (i := 10) (t := 62) (b := b197) (off := 0) (v := (agg [(i64 y168.op.kind), (Value.string (str y168.op.frm)), (Value.string (str y168.op.to)), (i64 y168.op.amount), (Value.string (str y168.op.key)), (i64 y168.op.slot), (i64 y168.op.shard), (i64 y168.why)])) (ys := [(i64 y168.op.kind), (Value.string (str y168.op.frm)), (Value.string (str y168.op.to)), (i64 y168.op.amount), (Value.string (str y168.op.key)), (i64 y168.op.slot), (i64 y168.op.shard), (i64 y168.why)]) (by kernel_rfl) (by kernel_rfl) (by kernel_rfl) H200 (by kernel_rfl) (d := none) (by kernel_rfl) rfl (fun w203 H204 K205 => ?_)
       clear H200
       replace K0 := K0.trans K205 (U := (fun i => i = mb ∨ i = kb)) (fun i h1 h2 => h2) (fun i h1 h2 => by have h2 : i = b197 := h2; show i = mb ∨ i = kb; omega)
       replace Hb := Hb.keep K205 (by intro h; change b = b197 at h; omega)
       replace Hm := Hm.keep K205 (by intro h; change mb = b197 at h; omega)
       replace Hk := Hk.keep K205 (by intro h; change kb = b197 at h; omega)
       replace H154 := H154.keep K205 (by intro h; change b1 = b197 at h; omega)
       replace H10 := H10.keep K205 (by intro h; change b7 = b197 at h; omega)
       replace H163 := H163.keep K205 (by intro h; change b156 = b197 at h; omega)
       refine ⟨K205, ?_⟩
       refine Dr.strong (S' := (fun wz => Keeps (fun i => i = b197) w203 wz)) ((Keeps.refl w203).mono (fun _ _ h => h.elim)) (fun wz hx => K205.trans hx (fun i _ h => by have h : i = b197 := h; show i = b197; omega) (fun _ _ h => h)) ?_
       clear K205
       refine Dr.takes (fuel' := 0) (is' := [11, 10, 9, 8, 7, 6, 5, 4, 3, 2, 1, 0]) [11] [(0, (ptr b)), (3, (ptr b1)), (4, (ptr b7)), (6, (i64 y24)), (7, (Value.bool true)), (8, (ptr b156)), (9, (ptr b197)), (10, (Value.bool true))] (by kernel_rfl) rfl (by kernel_rfl) ?_
       refine Dr.done (by kernel_rfl) ?_
       refine qs ?_
       refine qg ?_
       refine og 1 [(0, (ptr b)), (3, (ptr b1)), (4, (ptr b7)), (6, (i64 y24)), (7, (Value.bool true)), (8, (ptr b156)), (9, (ptr b197)), (64, (Value.bool true))] 1 ?_
       refine od ?_
       refine q_then (o := .tmp 64) (by kernel_rfl) rfl ?_
       refine qs ?_
       refine qs ?_
       refine qg ?_
       refine og 1 [(0, (ptr b)), (3, (ptr b1)), (4, (ptr b7)), (6, (i64 y24)), (7, (Value.bool true)), (8, (ptr b156)), (9, (ptr b197)), (65, (ptr b197))] 1 ?_
       refine Ops.go (v := (agg [(i64 y168.op.kind), (Value.string (str y168.op.frm)), (Value.string (str y168.op.to)), (i64 y168.op.amount), (Value.string (str y168.op.key)), (i64 y168.op.slot), (i64 y168.op.shard)])) (by kernel_rfl) (Runs.load (t := 24) (a := ⟨b197, 0, none⟩) (by kernel_rfl) (H204.loads (by kernel_rfl))) (d := (some 66)) (by kernel_rfl) rfl ?_
       refine Ops.go (v := (agg [(i64 o.kind), (Value.string (str o.frm)), (Value.string (str ((plainE o).to))), (i64 ((plainE o).amount)), (Value.string (str o.key)), (i64 0), (i64 0)])) (by kernel_rfl) (Runs.load (t := 24) (a := ⟨b1, 0, none⟩) (by kernel_rfl) (H154.loads (by kernel_rfl))) (d := (some 67)) (by kernel_rfl) rfl ?_
       refine Ops.go (v := (Value.bool (!(aggB [(i64 y168.op.kind), (Value.string (str y168.op.frm)), (Value.string (str y168.op.to)), (i64 y168.op.amount), (Value.string (str y168.op.key)), (i64 y168.op.slot), (i64 y168.op.shard)] [(i64 o.kind), (Value.string (str o.frm)), (Value.string (str ((plainE o).to))), (i64 ((plainE o).amount)), (Value.string (str o.key)), (i64 0), (i64 0)])))) (by kernel_rfl) (Runs.aggne (t := 24) (by kernel_rfl) (by kernel_rfl)) (d := (some 68)) (by kernel_rfl) rfl ?_
       refine od ?_
       refine q_cond (o := .tmp 68) (b := (!(aggB [(i64 y168.op.kind), (Value.string (str y168.op.frm)), (Value.string (str y168.op.to)), (i64 y168.op.amount), (Value.string (str y168.op.key)), (i64 y168.op.slot), (i64 y168.op.shard)] [(i64 o.kind), (Value.string (str o.frm)), (Value.string (str ((plainE o).to))), (i64 ((plainE o).amount)), (Value.string (str o.key)), (i64 0), (i64 0)]))) (by kernel_rfl) rfl (fun h206 => ?_) (fun h206 => ?_)
       ·rw [h206]
        have p207 : (aggB [(i64 y168.op.kind), (Value.string (str y168.op.frm)), (Value.string (str y168.op.to)), (i64 y168.op.amount), (Value.string (str y168.op.key)), (i64 y168.op.slot), (i64 y168.op.shard)] [(i64 o.kind), (Value.string (str o.frm)), (Value.string (str ((plainE o).to))), (i64 ((plainE o).amount)), (Value.string (str o.key)), (i64 0), (i64 0)]) = false := (bnot_true h206)
        refine qs ?_
        refine qg ?_
        refine og 1 [(0, (ptr b)), (3, (ptr b1)), (4, (ptr b7)), (6, (i64 y24)), (7, (Value.bool true)), (8, (ptr b156)), (9, (ptr b197)), (69, (agg [(i64 45), (i64 0), (Value.slice none 0 0)]))] 1 ?_
        refine Ops.put (t := 30) (b := b7) (off := 0) (v := (agg [(i64 45), (i64 0), (Value.slice none 0 0)])) (ys := [(i64 45), (i64 0), (Value.slice none 0 0)]) (by kernel_rfl) (by kernel_rfl) H10 (by kernel_rfl) (d := none) (by kernel_rfl) rfl (fun w208 H209 K210 => ?_)
        clear H10
        replace K0 := K0.trans K210 (U := (fun i => i = mb ∨ i = kb)) (fun i h1 h2 => h2) (fun i h1 h2 => by have h2 : i = b7 := h2; show i = mb ∨ i = kb; omega)
        replace Hb := Hb.keep K210 (by intro h; change b = b7 at h; omega)
        replace Hm := Hm.keep K210 (by intro h; change mb = b7 at h; omega)
        replace Hk := Hk.keep K210 (by intro h; change kb = b7 at h; omega)
        replace H154 := H154.keep K210 (by intro h; change b1 = b7 at h; omega)
        replace H163 := H163.keep K210 (by intro h; change b156 = b7 at h; omega)
        replace H204 := H204.keep K210 (by intro h; change b197 = b7 at h; omega)
        clear K210
        refine od ?_
        refine q_ret (by kernel_rfl) ?_
        refine ⟨(agg [(i64 45), (i64 0), (Value.slice none 0 0)]), retv_cell rfl rfl (H209.loads (by kernel_rfl)), ?_⟩
        have e0 := do_other (S := S) (K := K) (o := o) hw (by omega) (by omega) (by omega) hk193 (bnot_true h206)
        obtain ⟨e1, e2, e3⟩ := e0
        rw [e1, e2, e3]
        exact ⟨_, none, 0, rfl, K0, Hm, Hk, hB, (OwnT.nil _ _ _ _ _)⟩
       ·rw [h206]
        have p211 : (aggB [(i64 y168.op.kind), (Value.string (str y168.op.frm)), (Value.string (str y168.op.to)), (i64 y168.op.amount), (Value.string (str y168.op.key)), (i64 y168.op.slot), (i64 y168.op.shard)] [(i64 o.kind), (Value.string (str o.frm)), (Value.string (str ((plainE o).to))), (i64 ((plainE o).amount)), (Value.string (str o.key)), (i64 0), (i64 0)]) = true := (bnot_false h206)
        refine q_skip (by kernel_rfl) ?_
        refine qs ?_
        refine qg ?_
        refine og 1 [(0, (ptr b)), (3, (ptr b1)), (4, (ptr b7)), (6, (i64 y24)), (7, (Value.bool true)), (8, (ptr b156)), (70, (Value.pointer (some ⟨b197, 7, none⟩)))] 1 ?_
        refine Ops.go (v := (i64 y168.why)) (by kernel_rfl) (Runs.load (t := 27) (a := ⟨b197, 7, none⟩) (by kernel_rfl) (H204.loads (by kernel_rfl))) (d := (some 71)) (by kernel_rfl) rfl ?_
        refine og 1 [(0, (ptr b)), (3, (ptr b1)), (4, (ptr b7)), (6, (i64 y24)), (7, (Value.bool true)), (8, (ptr b156)), (72, (agg [(i64 y168.why), (i64 0), (Value.slice none 0 0)]))] 3 ?_
        refine Ops.put (t := 30) (b := b7) (off := 0) (v := (agg [(i64 y168.why), (i64 0), (Value.slice none 0 0)])) (ys := [(i64 y168.why), (i64 0), (Value.slice none 0 0)]) (by kernel_rfl) (by kernel_rfl) H10 (by kernel_rfl) (d := none) (by kernel_rfl) rfl (fun w212 H213 K214 => ?_)
        clear H10
        replace K0 := K0.trans K214 (U := (fun i => i = mb ∨ i = kb)) (fun i h1 h2 => h2) (fun i h1 h2 => by have h2 : i = b7 := h2; show i = mb ∨ i = kb; omega)
        replace Hb := Hb.keep K214 (by intro h; change b = b7 at h; omega)
        replace Hm := Hm.keep K214 (by intro h; change mb = b7 at h; omega)
        replace Hk := Hk.keep K214 (by intro h; change kb = b7 at h; omega)
        replace H154 := H154.keep K214 (by intro h; change b1 = b7 at h; omega)
        replace H163 := H163.keep K214 (by intro h; change b156 = b7 at h; omega)
        replace H204 := H204.keep K214 (by intro h; change b197 = b7 at h; omega)
        clear K214
        refine od ?_
        refine q_ret (by kernel_rfl) ?_
        refine ⟨(agg [(i64 y168.why), (i64 0), (Value.slice none 0 0)]), retv_cell rfl rfl (H213.loads (by kernel_rfl)), ?_⟩
        have e0 := do_again (S := S) (K := K) (o := o) hw (by omega) (by omega) (by omega) hk193 (bnot_false h206)
        obtain ⟨e1, e2, e3⟩ := e0
        rw [e1, e2, e3]
        exact ⟨_, none, 0, rfl, K0, Hm, Hk, hB, (OwnT.nil _ _ _ _ _)⟩
end Go.Proofs.YtnfeemhpoaflfaaGreatDoor
namespace Go.Q
open Go.RowKit Go.Lib
theorem OwnB.app2S {P : Program} {w : World} {t u ty e base : Nat} {v : Value} {xs ys : List UInt8} (T : u8Ty? P t u = some e) (h : OwnB w base e v xs) (hl : xs.length + ys.length ≤ 140737488355328) (hbase : base ≤ w.heap.size) :
    ∃ v' w', (Builtin.append_ #[t, u] ty #[v, .string (str ys)]).run P w = .ok v' w' ∧ OwnB w' base e v' (xs ++ ys) ∧ Keeps (fun i => v.ownBlock = some i) w w' ∧ ∀ i, v'.ownBlock = some i → v.ownBlock = some i ∨ w.heap.size ≤ i := by
  unfold u8Ty? at T
  split at T
  · rename_i e' ht hu
    split at T
    · rename_i i hi
      split at T
      · rename_i hz
        cases hb : (Nat.beq i.size 1 && Nat.beq i.bytes 1) with
        | false => rw [hb] at T; cases T
        | true =>
          rw [hb] at T
          simp only [cond_true, Option.some.injEq] at T
          subst T
          simp only [Bool.and_eq_true] at hb
          have hm : xs.length + ys.length ≤ maxLen := by simp only [maxLen]; omega
          have h1 := Nat.eq_of_beq_eq_true hb.1
          have h2 := Nat.eq_of_beq_eq_true hb.2
          obtain ⟨v', w', hr, ho, hg, _⟩ := run_append_own_string (P := P) w base t u ty e' i ht hu hi hz h1 h2 v xs.length (bv xs) h (str ys) (by rw [str_size]; exact hm) (by rw [str_size]; exact hl) hbase
          refine ⟨v', w', hr, ?_, (Keeps.of_grown hg).mono fun j hj hS => hS.symm, ?_⟩
          · rw [strCells_bv, str_size] at ho
            unfold OwnB
            rw [List.length_append, bv_append]
            exact ho
          · intro j hj
            have hown : w.ownsRow base e' 1 v xs.length (bv xs) := h
            rcases hown.2 with ⟨rfl, hn⟩ | ⟨g, cap, cur, rfl, hbg, hgc, hnc, hcm, hcs, htake⟩
            · obtain ⟨v2, w2, hr2, ho2, _, _⟩ := run_append_own_string (P := P) w w.heap.size t u ty e' i ht hu hi hz h1 h2 (.slice none 0 0) xs.length (bv xs) ⟨hown.1, .inl ⟨rfl, hn⟩⟩ (str ys) (by rw [str_size]; exact hm) (by rw [str_size]; exact hl) (Nat.le_refl _)
              rw [hr] at hr2
              simp only [Result.ok.injEq] at hr2
              obtain ⟨rfl, rfl⟩ := hr2
              exact .inr (World.ownsRow.lt ho2 j hj).1
            · by_cases hroom : xs.length + (str ys).size ≤ cap
              · have hcs' : cur.size = cap := by simpa using hcs
                have hr2 := run_append_room_string (P := P) w t u ty e' i ht hu hi h1 g xs.length cap cur hgc (str ys) hroom (by omega)
                rw [hr] at hr2
                simp only [Result.ok.injEq] at hr2
                rw [hr2.1] at hj
                exact .inl hj
              · have holds : ∀ j u, (bv xs)[j]? = some u → w.cell? ((⟨g, 0, none⟩ : Addr).add j) = some u := hown.cells (g := g) rfl
                have hr2 := run_append_grow_string (P := P) w t u ty e' i (.int .u8 0) ht hu hi hz ⟨g, 0, none⟩ xs.length cap (bv xs) (by rw [h1]; simp [bv_length]) holds (str ys) (by omega) (by rw [str_size]; omega) (by rw [h2]; exact growslice_fits (by omega) (by rw [str_size]; omega))
                rw [hr] at hr2
                simp only [Result.ok.injEq] at hr2
                rw [hr2.1] at hj
                simp only [Value.ownBlock, Option.some.injEq] at hj
                exact .inr (by omega)
      · cases T
    · cases T
  · cases T
/-- A cell of a block that one holds is set. -/
theorem Has.set0 {w : World} {b : Nat} {x y v : Value} {e : TypeId} (h : Has w b (rowL [x, y] e)) : Has (w.setCell ⟨b, 0, none⟩ v) b (rowL [v, y] e) ∧ Keeps (fun i => i = b) w (w.setCell ⟨b, 0, none⟩ v) := by
  have hl := h.lt
  refine ⟨?_, rfl, rfl, rfl, by show w.heap.size ≤ (w.heap.modify _ _).size; rw [Array.size_modify]; exact Nat.le_refl _, fun k _ hk => Below.heap_setCell _ _ _ k hk⟩
  unfold Has at h ⊢
  have hlt : b < w.heap.size := hl
  have h' : w.heap[b] = rowL [x, y] e := by simpa [Array.getElem?_eq_getElem hlt] using h
  show (w.heap.modify b _)[b]? = _
  rw [Array.getElem?_modify]
  simp [h, rowL]
end Go.Q
