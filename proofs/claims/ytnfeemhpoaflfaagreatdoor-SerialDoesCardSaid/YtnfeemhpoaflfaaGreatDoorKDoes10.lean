/- What the claim stands on, part 10: rules of the walk, contracts of the functions, plain laws. -/
import Derived.Shelf.SlGeneric
import Derived.Shelf.SlIter.Nil
import Derived.Shelf.SortM.Plain
import Derived.Shelf.SortM.SortNone
import Derived.Shelf.Strings.SlTrimAscii
import Derived.Shelf.Strings.BuilderK
import Derived.Shelf.Strconv.Itoa4
import Derived.Shelf.Small.Strs
import Derived.Shelf.SlicesE.Index
import Derived.Shelf.SlSortCmp.NoneTotal
import Derived.Shelf.SlMaps.Clone
import Derived.Ground.GgzProg
import Derived.Ground.SlgmProg
import Derived.Ground.NamesProg
import Derived.Ground.SlmcProg
import Derived.Ground.SlsfProg
import Derived.Ground.SlgnProg
import Derived.Test.YtnfeemhpoaflfaaGreatDoorProg
import Derived.Test.YtnfeemhpoaflfaaGreatDoorKDoes6
import Derived.Test.YtnfeemhpoaflfaaGreatDoorKDoes9
set_option linter.unusedVariables false
namespace Go.Proofs
open Go.Shelf
def Tryz.keys49_ren : Go.Shelf.Ren := ⟨fun | 7 => 49 | 10 => 64 | n => n, fun | 23 => 51 | 26 => 9 | 3 => 2 | 28 => 99 | 0 => 0 | 27 => 98 | 33 => 95 | 4 => 4 | n => n, fun | n => n⟩
theorem Tryz.keys49 : Go.Proofs.SlLaysZ.n7 Tryz.prog Tryz.keys49_ren := {
  mixed := by kernel_rfl
  f7 := ⟨Tryz.f49.name, by decide, Tryz.func49.trans (congrArg some (by kernel_rfl))⟩
  f10 := ⟨Tryz.f64.name, by decide, Tryz.func64.trans (congrArg some (by kernel_rfl))⟩
  t0 := Tryz.underlying0
  a0 := Tryz.isAgg0
  z0 := Tryz.sizeOf0
  v0 := Tryz.zeroValue0
  t4 := Tryz.underlying4
  a4 := Tryz.isAgg4
  z4 := Tryz.sizeOf4
  v4 := Tryz.zeroValue4
  t23 := Tryz.underlying51
  a23 := Tryz.isAgg51
  z23 := Tryz.sizeOf51
  v23 := Tryz.zeroValue51
  t26 := Tryz.underlying9
  a26 := Tryz.isAgg9
  z26 := Tryz.sizeOf9
  v26 := Tryz.zeroValue9
  t27 := Tryz.underlying98
  a27 := Tryz.isAgg98
  z27 := Tryz.sizeOf98
  v27 := Tryz.zeroValue98
  t28 := Tryz.underlying99
  a28 := Tryz.isAgg99
  z28 := Tryz.sizeOf99
  v28 := Tryz.zeroValue99
  t33 := Tryz.underlying95
  a33 := Tryz.isAgg95
  z33 := Tryz.sizeOf95
  v33 := Tryz.zeroValue95 }
def Tryz.sorted48_ren : Go.Shelf.Ren := ⟨fun | 6 => 48 | 8 => 62 | 9 => 63 | 11 => 81 | 13 => 72 | 12 => 82 | 23 => 96 | 24 => 84 | 14 => 101 | 15 => 102 | 16 => 103 | 17 => 104 | 18 => 105 | 19 => 106 | 20 => 107 | 21 => 108 | 22 => 109 | 25 => 120 | 26 => 113 | 27 => 114 | 28 => 121 | 29 => 122 | 30 => 123 | 31 => 129 | n => n, fun | 26 => 9 | 28 => 99 | 24 => 96 | 0 => 0 | 3 => 3 | 37 => 120 | 48 => 133 | 50 => 36 | 4 => 4 | 40 => 138 | 39 => 137 | 45 => 87 | 5 => 5 | 9 => 9 | 51 => 154 | 55 => 158 | 57 => 165 | 58 => 166 | 33 => 95 | n => n, fun | n => n⟩
theorem Tryz.sorted48 : Go.Proofs.SlLaysZ.n6 Tryz.prog Tryz.sorted48_ren := {
  mixed := by kernel_rfl
  f6 := ⟨Tryz.f48.name, by decide, Tryz.func48.trans (congrArg some (by kernel_rfl))⟩
  f8 := ⟨Tryz.f62.name, by decide, Tryz.func62.trans (congrArg some (by kernel_rfl))⟩
  f11 := ⟨Tryz.f81.name, by decide, Tryz.func81.trans (congrArg some (by kernel_rfl))⟩
  t0 := Tryz.underlying0
  a0 := Tryz.isAgg0
  z0 := Tryz.sizeOf0
  v0 := Tryz.zeroValue0
  t24 := Tryz.underlying96
  a24 := Tryz.isAgg96
  z24 := Tryz.sizeOf96
  v24 := Tryz.zeroValue96
  t26 := Tryz.underlying9
  a26 := Tryz.isAgg9
  z26 := Tryz.sizeOf9
  v26 := Tryz.zeroValue9
  t28 := Tryz.underlying99
  a28 := Tryz.isAgg99
  z28 := Tryz.sizeOf99
  v28 := Tryz.zeroValue99
  i26 := by kernel_rfl }
def Tryz.sort63_ren : Go.Shelf.Ren := ⟨fun | 6 => 63 | 8 => 72 | 9 => 82 | 19 => 96 | 20 => 84 | 21 => 101 | 22 => 102 | 23 => 103 | 24 => 104 | 25 => 105 | 26 => 106 | 27 => 107 | 28 => 108 | 29 => 109 | 36 => 120 | 31 => 113 | 32 => 114 | 37 => 121 | 38 => 122 | 39 => 123 | 41 => 129 | n => n, fun | 27 => 96 | 29 => 9 | 3 => 3 | 32 => 120 | 26 => 96 | 0 => 0 | 44 => 133 | 46 => 36 | 4 => 4 | 36 => 138 | 35 => 137 | 41 => 87 | 5 => 5 | 9 => 9 | 53 => 154 | 57 => 158 | 63 => 165 | 64 => 166 | n => n, fun | n => n⟩
theorem Tryz.sort63 : Go.Proofs.SlLaysM.n6 Tryz.prog Tryz.sort63_ren := {
  mixed := by kernel_rfl
  f6 := ⟨Tryz.f63.name, by decide, Tryz.func63.trans (congrArg some (by kernel_rfl))⟩
  f8 := Tryz.func72.trans (congrArg some (by kernel_rfl))
  f9 := ⟨Tryz.f82.name, by decide, Tryz.func82.trans (congrArg some (by kernel_rfl))⟩
  f19 := Tryz.func96.trans (congrArg some (by kernel_rfl))
  f20 := Tryz.func84.trans (congrArg some (by kernel_rfl))
  f21 := ⟨Tryz.f101.name, by decide, Tryz.func101.trans (congrArg some (by kernel_rfl))⟩
  f22 := ⟨Tryz.f102.name, by decide, Tryz.func102.trans (congrArg some (by kernel_rfl))⟩
  f23 := ⟨Tryz.f103.name, by decide, Tryz.func103.trans (congrArg some (by kernel_rfl))⟩
  f24 := ⟨Tryz.f104.name, by decide, Tryz.func104.trans (congrArg some (by kernel_rfl))⟩
  f25 := ⟨Tryz.f105.name, by decide, Tryz.func105.trans (congrArg some (by kernel_rfl))⟩
  f26 := ⟨Tryz.f106.name, by decide, Tryz.func106.trans (congrArg some (by kernel_rfl))⟩
  f27 := ⟨Tryz.f107.name, by decide, Tryz.func107.trans (congrArg some (by kernel_rfl))⟩
  f28 := ⟨Tryz.f108.name, by decide, Tryz.func108.trans (congrArg some (by kernel_rfl))⟩
  f29 := ⟨Tryz.f109.name, by decide, Tryz.func109.trans (congrArg some (by kernel_rfl))⟩
  f31 := Tryz.func113.trans (congrArg some (by kernel_rfl))
  f32 := Tryz.func114.trans (congrArg some (by kernel_rfl))
  f36 := ⟨Tryz.f120.name, by decide, Tryz.func120.trans (congrArg some (by kernel_rfl))⟩
  f37 := ⟨Tryz.f121.name, by decide, Tryz.func121.trans (congrArg some (by kernel_rfl))⟩
  f38 := ⟨Tryz.f122.name, by decide, Tryz.func122.trans (congrArg some (by kernel_rfl))⟩
  f39 := ⟨Tryz.f123.name, by decide, Tryz.func123.trans (congrArg some (by kernel_rfl))⟩
  f41 := ⟨Tryz.f129.name, by decide, Tryz.func129.trans (congrArg some (by kernel_rfl))⟩
  t0 := Tryz.underlying0
  a0 := Tryz.isAgg0
  z0 := Tryz.sizeOf0
  v0 := Tryz.zeroValue0
  t3 := Tryz.underlying3
  a3 := Tryz.isAgg3
  z3 := Tryz.sizeOf3
  v3 := Tryz.zeroValue3
  t4 := Tryz.underlying4
  a4 := Tryz.isAgg4
  z4 := Tryz.sizeOf4
  v4 := Tryz.zeroValue4
  t5 := Tryz.underlying5
  a5 := Tryz.isAgg5
  z5 := Tryz.sizeOf5
  v5 := Tryz.zeroValue5
  t9 := Tryz.underlying9
  a9 := Tryz.isAgg9
  z9 := Tryz.sizeOf9
  v9 := Tryz.zeroValue9
  t26 := Tryz.underlying96
  a26 := Tryz.isAgg96
  z26 := Tryz.sizeOf96
  v26 := Tryz.zeroValue96
  t27 := Tryz.underlying96
  a27 := Tryz.isAgg96
  z27 := Tryz.sizeOf96
  v27 := Tryz.zeroValue96
  t29 := Tryz.underlying9
  a29 := Tryz.isAgg9
  z29 := Tryz.sizeOf9
  v29 := Tryz.zeroValue9
  t32 := Tryz.underlying120
  a32 := Tryz.isAgg120
  z32 := Tryz.sizeOf120
  v32 := Tryz.zeroValue120
  t35 := Tryz.underlying137
  a35 := Tryz.isAgg137
  z35 := Tryz.sizeOf137
  v35 := Tryz.zeroValue137
  t36 := Tryz.underlying138
  a36 := Tryz.isAgg138
  z36 := Tryz.sizeOf138
  v36 := Tryz.zeroValue138
  t41 := Tryz.underlying87
  a41 := Tryz.isAgg87
  z41 := Tryz.sizeOf87
  v41 := Tryz.zeroValue87
  t44 := Tryz.underlying133
  a44 := Tryz.isAgg133
  z44 := Tryz.sizeOf133
  v44 := Tryz.zeroValue133
  t46 := Tryz.underlying36
  a46 := Tryz.isAgg36
  z46 := Tryz.sizeOf36
  v46 := Tryz.zeroValue36
  t53 := Tryz.underlying154
  a53 := Tryz.isAgg154
  z53 := Tryz.sizeOf154
  v53 := Tryz.zeroValue154
  t57 := Tryz.underlying158
  a57 := Tryz.isAgg158
  z57 := Tryz.sizeOf158
  v57 := Tryz.zeroValue158
  t63 := Tryz.underlying165
  a63 := Tryz.isAgg165
  z63 := Tryz.sizeOf165
  v63 := Tryz.zeroValue165
  t64 := Tryz.underlying166
  a64 := Tryz.isAgg166
  z64 := Tryz.sizeOf166
  v64 := Tryz.zeroValue166 }
def Tryz.clone35_ren : Go.Shelf.Ren := ⟨fun | 5 => 35 | 7 => 58 | n => n, fun | 23 => 51 | 25 => 9 | 3 => 2 | 4 => 4 | 20 => 20 | n => n, fun | n => n⟩
theorem Tryz.clone35 : Go.Proofs.SlLaysW.n5 Tryz.prog Tryz.clone35_ren := {
  mixed := by kernel_rfl
  f5 := ⟨Tryz.f35.name, by decide, Tryz.func35.trans (congrArg some (by kernel_rfl))⟩
  f7 := Tryz.func58.trans (congrArg some (by kernel_rfl))
  t4 := Tryz.underlying4
  a4 := Tryz.isAgg4
  z4 := Tryz.sizeOf4
  v4 := Tryz.zeroValue4
  t20 := Tryz.underlying20
  a20 := Tryz.isAgg20
  z20 := Tryz.sizeOf20
  v20 := Tryz.zeroValue20
  t23 := Tryz.underlying51
  a23 := Tryz.isAgg51
  z23 := Tryz.sizeOf51
  v23 := Tryz.zeroValue51 }
def Tryz.clone36_ren : Go.Shelf.Ren := ⟨fun | 5 => 36 | 7 => 58 | n => n, fun | 23 => 52 | 25 => 60 | 3 => 62 | 4 => 4 | 20 => 20 | n => n, fun | n => n⟩
theorem Tryz.clone36 : Go.Proofs.SlLaysW.n5 Tryz.prog Tryz.clone36_ren := {
  mixed := by kernel_rfl
  f5 := ⟨Tryz.f36.name, by decide, Tryz.func36.trans (congrArg some (by kernel_rfl))⟩
  f7 := Tryz.func58.trans (congrArg some (by kernel_rfl))
  t4 := Tryz.underlying4
  a4 := Tryz.isAgg4
  z4 := Tryz.sizeOf4
  v4 := Tryz.zeroValue4
  t20 := Tryz.underlying20
  a20 := Tryz.isAgg20
  z20 := Tryz.sizeOf20
  v20 := Tryz.zeroValue20
  t23 := Tryz.underlying52
  a23 := Tryz.isAgg52
  z23 := Tryz.sizeOf52
  v23 := Tryz.zeroValue52 }
def Tryz.sortf54_ren : Go.Shelf.Ren := ⟨fun | 6 => 54 | 15 => 72 | 14 => 71 | 28 => 96 | 29 => 84 | 20 => 88 | 21 => 89 | 22 => 90 | 23 => 91 | 24 => 92 | 25 => 93 | 26 => 94 | 27 => 95 | 46 => 112 | 47 => 113 | 48 => 114 | 49 => 115 | 50 => 116 | 57 => 124 | n => n, fun | 22 => 74 | 24 => 60 | 25 => 80 | 3 => 3 | 39 => 120 | 0 => 0 | 53 => 133 | 55 => 36 | 4 => 4 | 46 => 138 | 45 => 137 | 50 => 87 | 5 => 5 | 9 => 9 | 66 => 154 | 70 => 158 | 76 => 165 | 77 => 166 | n => n, fun | n => n⟩
theorem Tryz.sortf54 : Go.Proofs.SlLaysF0.n6 Tryz.prog Tryz.sortf54_ren := {
  mixed := by kernel_rfl
  f6 := ⟨Tryz.f54.name, by decide, Tryz.func54.trans (congrArg some (by kernel_rfl))⟩
  f14 := ⟨Tryz.f71.name, by decide, Tryz.func71.trans (congrArg some (by kernel_rfl))⟩
  f15 := Tryz.func72.trans (congrArg some (by kernel_rfl))
  f20 := ⟨Tryz.f88.name, by decide, Tryz.func88.trans (congrArg some (by kernel_rfl))⟩
  f21 := ⟨Tryz.f89.name, by decide, Tryz.func89.trans (congrArg some (by kernel_rfl))⟩
  f22 := ⟨Tryz.f90.name, by decide, Tryz.func90.trans (congrArg some (by kernel_rfl))⟩
  f23 := ⟨Tryz.f91.name, by decide, Tryz.func91.trans (congrArg some (by kernel_rfl))⟩
  f24 := ⟨Tryz.f92.name, by decide, Tryz.func92.trans (congrArg some (by kernel_rfl))⟩
  f25 := ⟨Tryz.f93.name, by decide, Tryz.func93.trans (congrArg some (by kernel_rfl))⟩
  f26 := ⟨Tryz.f94.name, by decide, Tryz.func94.trans (congrArg some (by kernel_rfl))⟩
  f27 := ⟨Tryz.f95.name, by decide, Tryz.func95.trans (congrArg some (by kernel_rfl))⟩
  f28 := Tryz.func96.trans (congrArg some (by kernel_rfl))
  f29 := Tryz.func84.trans (congrArg some (by kernel_rfl))
  f46 := ⟨Tryz.f112.name, by decide, Tryz.func112.trans (congrArg some (by kernel_rfl))⟩
  f47 := Tryz.func113.trans (congrArg some (by kernel_rfl))
  f48 := Tryz.func114.trans (congrArg some (by kernel_rfl))
  f49 := ⟨Tryz.f115.name, by decide, Tryz.func115.trans (congrArg some (by kernel_rfl))⟩
  f50 := ⟨Tryz.f116.name, by decide, Tryz.func116.trans (congrArg some (by kernel_rfl))⟩
  f57 := ⟨Tryz.f124.name, by decide, Tryz.func124.trans (congrArg some (by kernel_rfl))⟩
  t0 := Tryz.underlying0
  a0 := Tryz.isAgg0
  z0 := Tryz.sizeOf0
  v0 := Tryz.zeroValue0
  t3 := Tryz.underlying3
  a3 := Tryz.isAgg3
  z3 := Tryz.sizeOf3
  v3 := Tryz.zeroValue3
  t4 := Tryz.underlying4
  a4 := Tryz.isAgg4
  z4 := Tryz.sizeOf4
  v4 := Tryz.zeroValue4
  t5 := Tryz.underlying5
  a5 := Tryz.isAgg5
  z5 := Tryz.sizeOf5
  v5 := Tryz.zeroValue5
  t9 := Tryz.underlying9
  a9 := Tryz.isAgg9
  z9 := Tryz.sizeOf9
  v9 := Tryz.zeroValue9
  t22 := Tryz.underlying74
  a22 := Tryz.isAgg74
  z22 := Tryz.sizeOf74
  v22 := Tryz.zeroValue74
  t25 := Tryz.underlying80
  a25 := Tryz.isAgg80
  z25 := Tryz.sizeOf80
  v25 := Tryz.zeroValue80
  t39 := Tryz.underlying120
  a39 := Tryz.isAgg120
  z39 := Tryz.sizeOf120
  v39 := Tryz.zeroValue120
  t45 := Tryz.underlying137
  a45 := Tryz.isAgg137
  z45 := Tryz.sizeOf137
  v45 := Tryz.zeroValue137
  t46 := Tryz.underlying138
  a46 := Tryz.isAgg138
  z46 := Tryz.sizeOf138
  v46 := Tryz.zeroValue138
  t50 := Tryz.underlying87
  a50 := Tryz.isAgg87
  z50 := Tryz.sizeOf87
  v50 := Tryz.zeroValue87
  t53 := Tryz.underlying133
  a53 := Tryz.isAgg133
  z53 := Tryz.sizeOf133
  v53 := Tryz.zeroValue133
  t55 := Tryz.underlying36
  a55 := Tryz.isAgg36
  z55 := Tryz.sizeOf36
  v55 := Tryz.zeroValue36
  t66 := Tryz.underlying154
  a66 := Tryz.isAgg154
  z66 := Tryz.sizeOf154
  v66 := Tryz.zeroValue154
  t70 := Tryz.underlying158
  a70 := Tryz.isAgg158
  z70 := Tryz.sizeOf158
  v70 := Tryz.zeroValue158
  t76 := Tryz.underlying165
  a76 := Tryz.isAgg165
  z76 := Tryz.sizeOf165
  v76 := Tryz.zeroValue165
  t77 := Tryz.underlying166
  a77 := Tryz.isAgg166
  z77 := Tryz.sizeOf166
  v77 := Tryz.zeroValue166 }
def Tryz.contains44_ren : Go.Shelf.Ren := ⟨fun | 31 => 44 | 29 => 60 | n => n, fun | 22 => 93 | 23 => 27 | 4 => 4 | 3 => 3 | 0 => 0 | n => n, fun | n => n⟩
def Tryz.trim61_ren : Go.Shelf.Ren := ⟨fun | 160 => 61 | 232 => 75 | 231 => 74 | 227 => 76 | 234 => 78 | 233 => 77 | 236 => 80 | 235 => 79 | 228 => 97 | 271 => 100 | 151 => 99 | 197 => 98 | 120 => 119 | 152 => 118 | 260 => 117 | 137 => 125 | 119 => 126 | 224 => 127 | 225 => 128 | 217 => 130 | 266 => 131 | n => n, fun | 9 => 9 | 4 => 4 | 3 => 3 | 5 => 5 | 117 => 124 | 116 => 123 | 0 => 0 | 124 => 127 | 21 => 21 | 105 => 145 | 46 => 120 | 119 => 168 | 139 => 171 | 138 => 170 | n => n, fun | 3 => 4 | 4 => 5 | n => n⟩
theorem Tryz.trim61 : Go.Proofs.Lays.n160 Tryz.prog Tryz.trim61_ren := {
  mixed := by kernel_rfl
  f119 := Tryz.func126.trans (congrArg some (by kernel_rfl))
  f120 := Tryz.func119.trans (congrArg some (by kernel_rfl))
  f137 := Tryz.func125.trans (congrArg some (by kernel_rfl))
  f151 := Tryz.func99.trans (congrArg some (by kernel_rfl))
  f152 := Tryz.func118.trans (congrArg some (by kernel_rfl))
  f160 := Tryz.func61.trans (congrArg some (by kernel_rfl))
  f197 := Tryz.func98.trans (congrArg some (by kernel_rfl))
  f217 := Tryz.func130.trans (congrArg some (by kernel_rfl))
  f224 := Tryz.func127.trans (congrArg some (by kernel_rfl))
  f225 := Tryz.func128.trans (congrArg some (by kernel_rfl))
  f227 := Tryz.func76.trans (congrArg some (by kernel_rfl))
  f228 := Tryz.func97.trans (congrArg some (by kernel_rfl))
  f231 := Tryz.func74.trans (congrArg some (by kernel_rfl))
  f232 := Tryz.func75.trans (congrArg some (by kernel_rfl))
  f233 := Tryz.func77.trans (congrArg some (by kernel_rfl))
  f234 := Tryz.func78.trans (congrArg some (by kernel_rfl))
  f235 := Tryz.func79.trans (congrArg some (by kernel_rfl))
  f236 := Tryz.func80.trans (congrArg some (by kernel_rfl))
  f260 := Tryz.func117.trans (congrArg some (by kernel_rfl))
  f266 := Tryz.func131.trans (congrArg some (by kernel_rfl))
  f271 := Tryz.func100.trans (congrArg some (by kernel_rfl))
  t0 := Tryz.underlying0
  a0 := Tryz.isAgg0
  z0 := Tryz.sizeOf0
  v0 := Tryz.zeroValue0
  t3 := Tryz.underlying3
  a3 := Tryz.isAgg3
  z3 := Tryz.sizeOf3
  v3 := Tryz.zeroValue3
  t4 := Tryz.underlying4
  a4 := Tryz.isAgg4
  z4 := Tryz.sizeOf4
  v4 := Tryz.zeroValue4
  t5 := Tryz.underlying5
  a5 := Tryz.isAgg5
  z5 := Tryz.sizeOf5
  v5 := Tryz.zeroValue5
  t9 := Tryz.underlying9
  a9 := Tryz.isAgg9
  z9 := Tryz.sizeOf9
  v9 := Tryz.zeroValue9
  t21 := Tryz.underlying21
  a21 := Tryz.isAgg21
  z21 := Tryz.sizeOf21
  v21 := Tryz.zeroValue21
  t46 := Tryz.underlying120
  a46 := Tryz.isAgg120
  z46 := Tryz.sizeOf120
  v46 := Tryz.zeroValue120
  t105 := Tryz.underlying145
  a105 := Tryz.isAgg145
  z105 := Tryz.sizeOf145
  v105 := Tryz.zeroValue145
  t116 := Tryz.underlying123
  a116 := Tryz.isAgg123
  z116 := Tryz.sizeOf123
  t117 := Tryz.underlying124
  a117 := Tryz.isAgg124
  z117 := Tryz.sizeOf124
  v117 := Tryz.zeroValue124
  t119 := Tryz.underlying168
  a119 := Tryz.isAgg168
  z119 := Tryz.sizeOf168
  t124 := Tryz.underlying127
  a124 := Tryz.isAgg127
  z124 := Tryz.sizeOf127
  v124 := Tryz.zeroValue127
  t138 := Tryz.underlying170
  a138 := Tryz.isAgg170
  z138 := Tryz.sizeOf170
  v138 := Tryz.zeroValue170
  t139 := Tryz.underlying171
  a139 := Tryz.isAgg171
  z139 := Tryz.sizeOf171
  v139 := Tryz.zeroValue171
  g3 := by kernel_rfl
  g4 := by kernel_rfl }
def Tryz.compare31_ren : Go.Shelf.Ren := ⟨fun | 106 => 31 | 213 => 56 | 265 => 73 | n => n, fun | 9 => 9 | 3 => 3 | n => n, fun | n => n⟩
theorem Tryz.compare31 : Go.Proofs.Lays.n106 Tryz.prog Tryz.compare31_ren := {
  mixed := by kernel_rfl
  f106 := Tryz.func31.trans (congrArg some (by kernel_rfl))
  f213 := Tryz.func56.trans (congrArg some (by kernel_rfl))
  f265 := Tryz.func73.trans (congrArg some (by kernel_rfl))
  t3 := Tryz.underlying3
  a3 := Tryz.isAgg3
  z3 := Tryz.sizeOf3
  v3 := Tryz.zeroValue3
  t9 := Tryz.underlying9
  a9 := Tryz.isAgg9
  z9 := Tryz.sizeOf9
  v9 := Tryz.zeroValue9 }
def Tryz.fmtint27_ren : Go.Shelf.Ren := ⟨fun | 173 => 27 | 246 => 52 | 283 => 66 | 284 => 67 | 285 => 68 | 286 => 69 | 129 => 84 | 317 => 83 | 318 => 85 | 319 => 86 | 320 => 87 | 337 => 110 | 338 => 111 | n => n, fun | 2 => 2 | 3 => 3 | 9 => 9 | 4 => 4 | 171 => 112 | 0 => 0 | 53 => 36 | 37 => 66 | 5 => 5 | 173 => 115 | 212 => 132 | 51 => 133 | 20 => 20 | 213 => 134 | 46 => 120 | 232 => 163 | 233 => 164 | n => n, fun | 17 => 1 | 18 => 2 | 19 => 3 | n => n⟩
theorem Tryz.fmtint27 : Go.Proofs.LaysM.n173 Tryz.prog Tryz.fmtint27_ren := {
  mixed := by kernel_rfl
  f129 := Tryz.func84.trans (congrArg some (by kernel_rfl))
  f173 := Tryz.func27.trans (congrArg some (by kernel_rfl))
  f246 := Tryz.func52.trans (congrArg some (by kernel_rfl))
  f283 := Tryz.func66.trans (congrArg some (by kernel_rfl))
  f284 := Tryz.func67.trans (congrArg some (by kernel_rfl))
  f285 := Tryz.func68.trans (congrArg some (by kernel_rfl))
  f286 := Tryz.func69.trans (congrArg some (by kernel_rfl))
  f317 := Tryz.func83.trans (congrArg some (by kernel_rfl))
  f318 := Tryz.func85.trans (congrArg some (by kernel_rfl))
  f319 := Tryz.func86.trans (congrArg some (by kernel_rfl))
  f320 := Tryz.func87.trans (congrArg some (by kernel_rfl))
  f337 := Tryz.func110.trans (congrArg some (by kernel_rfl))
  f338 := Tryz.func111.trans (congrArg some (by kernel_rfl))
  t0 := Tryz.underlying0
  a0 := Tryz.isAgg0
  z0 := Tryz.sizeOf0
  v0 := Tryz.zeroValue0
  t2 := Tryz.underlying2
  a2 := Tryz.isAgg2
  z2 := Tryz.sizeOf2
  v2 := Tryz.zeroValue2
  t3 := Tryz.underlying3
  a3 := Tryz.isAgg3
  z3 := Tryz.sizeOf3
  v3 := Tryz.zeroValue3
  t4 := Tryz.underlying4
  a4 := Tryz.isAgg4
  z4 := Tryz.sizeOf4
  v4 := Tryz.zeroValue4
  t5 := Tryz.underlying5
  a5 := Tryz.isAgg5
  z5 := Tryz.sizeOf5
  v5 := Tryz.zeroValue5
  t9 := Tryz.underlying9
  a9 := Tryz.isAgg9
  z9 := Tryz.sizeOf9
  v9 := Tryz.zeroValue9
  t20 := Tryz.underlying20
  a20 := Tryz.isAgg20
  z20 := Tryz.sizeOf20
  v20 := Tryz.zeroValue20
  t37 := Tryz.underlying66
  a37 := Tryz.isAgg66
  z37 := Tryz.sizeOf66
  v37 := Tryz.zeroValue66
  t46 := Tryz.underlying120
  a46 := Tryz.isAgg120
  z46 := Tryz.sizeOf120
  v46 := Tryz.zeroValue120
  t51 := Tryz.underlying133
  a51 := Tryz.isAgg133
  z51 := Tryz.sizeOf133
  v51 := Tryz.zeroValue133
  t53 := Tryz.underlying36
  a53 := Tryz.isAgg36
  z53 := Tryz.sizeOf36
  v53 := Tryz.zeroValue36
  t171 := Tryz.underlying112
  a171 := Tryz.isAgg112
  z171 := Tryz.sizeOf112
  v171 := Tryz.zeroValue112
  t173 := Tryz.underlying115
  a173 := Tryz.isAgg115
  z173 := Tryz.sizeOf115
  v173 := Tryz.zeroValue115
  t212 := Tryz.underlying132
  a212 := Tryz.isAgg132
  z212 := Tryz.sizeOf132
  v212 := Tryz.zeroValue132
  t213 := Tryz.underlying134
  a213 := Tryz.isAgg134
  z213 := Tryz.sizeOf134
  t232 := Tryz.underlying163
  a232 := Tryz.isAgg163
  z232 := Tryz.sizeOf163
  v232 := Tryz.zeroValue163
  t233 := Tryz.underlying164
  a233 := Tryz.isAgg164
  z233 := Tryz.sizeOf164
  v233 := Tryz.zeroValue164
  g17 := by kernel_rfl
  g18 := by kernel_rfl
  g19 := by kernel_rfl
  i0 := by kernel_rfl
  i2 := by kernel_rfl
  i3 := by kernel_rfl
  i4 := by kernel_rfl
  i5 := by kernel_rfl
  i9 := by kernel_rfl
  i20 := by kernel_rfl
  i37 := by kernel_rfl
  i46 := by kernel_rfl
  i51 := by kernel_rfl
  i53 := by kernel_rfl
  i171 := by kernel_rfl
  i173 := by kernel_rfl
  i212 := by kernel_rfl
  i232 := by kernel_rfl
  i233 := by kernel_rfl
  m17 := by kernel_rfl
  m18 := by kernel_rfl
  m19 := by kernel_rfl }
def Tryz.itoa32_ren : Go.Shelf.Ren := ⟨fun | 171 => 32 | 243 => 57 | 246 => 52 | 283 => 66 | 284 => 67 | 285 => 68 | 286 => 69 | 129 => 84 | 317 => 83 | 318 => 85 | 319 => 86 | 320 => 87 | 337 => 110 | 338 => 111 | n => n, fun | 3 => 3 | 9 => 9 | 2 => 2 | 4 => 4 | 171 => 112 | 0 => 0 | 53 => 36 | 37 => 66 | 5 => 5 | 173 => 115 | 212 => 132 | 51 => 133 | 20 => 20 | 213 => 134 | 46 => 120 | 232 => 163 | 233 => 164 | n => n, fun | 17 => 1 | 18 => 2 | 19 => 3 | n => n⟩
theorem Tryz.itoa32 : Go.Proofs.Lays.n171 Tryz.prog Tryz.itoa32_ren := {
  mixed := by kernel_rfl
  f129 := Tryz.func84.trans (congrArg some (by kernel_rfl))
  f171 := Tryz.func32.trans (congrArg some (by kernel_rfl))
  f243 := Tryz.func57.trans (congrArg some (by kernel_rfl))
  f246 := Tryz.func52.trans (congrArg some (by kernel_rfl))
  f283 := Tryz.func66.trans (congrArg some (by kernel_rfl))
  f284 := Tryz.func67.trans (congrArg some (by kernel_rfl))
  f285 := Tryz.func68.trans (congrArg some (by kernel_rfl))
  f286 := Tryz.func69.trans (congrArg some (by kernel_rfl))
  f317 := Tryz.func83.trans (congrArg some (by kernel_rfl))
  f318 := Tryz.func85.trans (congrArg some (by kernel_rfl))
  f319 := Tryz.func86.trans (congrArg some (by kernel_rfl))
  f320 := Tryz.func87.trans (congrArg some (by kernel_rfl))
  f337 := Tryz.func110.trans (congrArg some (by kernel_rfl))
  f338 := Tryz.func111.trans (congrArg some (by kernel_rfl))
  t0 := Tryz.underlying0
  a0 := Tryz.isAgg0
  z0 := Tryz.sizeOf0
  v0 := Tryz.zeroValue0
  t2 := Tryz.underlying2
  a2 := Tryz.isAgg2
  z2 := Tryz.sizeOf2
  v2 := Tryz.zeroValue2
  t3 := Tryz.underlying3
  a3 := Tryz.isAgg3
  z3 := Tryz.sizeOf3
  v3 := Tryz.zeroValue3
  t4 := Tryz.underlying4
  a4 := Tryz.isAgg4
  z4 := Tryz.sizeOf4
  v4 := Tryz.zeroValue4
  t5 := Tryz.underlying5
  a5 := Tryz.isAgg5
  z5 := Tryz.sizeOf5
  v5 := Tryz.zeroValue5
  t9 := Tryz.underlying9
  a9 := Tryz.isAgg9
  z9 := Tryz.sizeOf9
  v9 := Tryz.zeroValue9
  t20 := Tryz.underlying20
  a20 := Tryz.isAgg20
  z20 := Tryz.sizeOf20
  v20 := Tryz.zeroValue20
  t37 := Tryz.underlying66
  a37 := Tryz.isAgg66
  z37 := Tryz.sizeOf66
  v37 := Tryz.zeroValue66
  t46 := Tryz.underlying120
  a46 := Tryz.isAgg120
  z46 := Tryz.sizeOf120
  v46 := Tryz.zeroValue120
  t51 := Tryz.underlying133
  a51 := Tryz.isAgg133
  z51 := Tryz.sizeOf133
  v51 := Tryz.zeroValue133
  t53 := Tryz.underlying36
  a53 := Tryz.isAgg36
  z53 := Tryz.sizeOf36
  v53 := Tryz.zeroValue36
  t171 := Tryz.underlying112
  a171 := Tryz.isAgg112
  z171 := Tryz.sizeOf112
  v171 := Tryz.zeroValue112
  t173 := Tryz.underlying115
  a173 := Tryz.isAgg115
  z173 := Tryz.sizeOf115
  v173 := Tryz.zeroValue115
  t212 := Tryz.underlying132
  a212 := Tryz.isAgg132
  z212 := Tryz.sizeOf132
  v212 := Tryz.zeroValue132
  t213 := Tryz.underlying134
  a213 := Tryz.isAgg134
  z213 := Tryz.sizeOf134
  t232 := Tryz.underlying163
  a232 := Tryz.isAgg163
  z232 := Tryz.sizeOf163
  v232 := Tryz.zeroValue163
  t233 := Tryz.underlying164
  a233 := Tryz.isAgg164
  z233 := Tryz.sizeOf164
  v233 := Tryz.zeroValue164
  g17 := by kernel_rfl
  g18 := by kernel_rfl
  g19 := by kernel_rfl }
def Tryz.bstring33_ren : Go.Shelf.Ren := ⟨fun | 169 => 33 | n => n, fun | 70 => 65 | 9 => 9 | 0 => 0 | 72 => 68 | 37 => 66 | 127 => 105 | 3 => 3 | 5 => 5 | n => n, fun | n => n⟩
theorem Tryz.bstring33 : Go.Proofs.Lays.n169 Tryz.prog Tryz.bstring33_ren := {
  mixed := by kernel_rfl
  f169 := Tryz.func33.trans (congrArg some (by kernel_rfl))
  t0 := Tryz.underlying0
  a0 := Tryz.isAgg0
  z0 := Tryz.sizeOf0
  v0 := Tryz.zeroValue0
  t3 := Tryz.underlying3
  a3 := Tryz.isAgg3
  z3 := Tryz.sizeOf3
  v3 := Tryz.zeroValue3
  t9 := Tryz.underlying9
  a9 := Tryz.isAgg9
  z9 := Tryz.sizeOf9
  v9 := Tryz.zeroValue9
  t37 := Tryz.underlying66
  a37 := Tryz.isAgg66
  z37 := Tryz.sizeOf66
  v37 := Tryz.zeroValue66
  t70 := Tryz.underlying65
  a70 := Tryz.isAgg65
  z70 := Tryz.sizeOf65
  v70 := Tryz.zeroValue65
  t72 := Tryz.underlying68
  a72 := Tryz.isAgg68
  z72 := Tryz.sizeOf68
  v72 := Tryz.zeroValue68
  t127 := Tryz.underlying105
  a127 := Tryz.isAgg105
  z127 := Tryz.sizeOf105
  v127 := Tryz.zeroValue105 }
theorem Tryz.bstring33_x : Builder.Extra Tryz.prog Tryz.bstring33_ren := {
  sizeBuilder := by kernel_rfl
  liesBuilder := by kernel_rfl
  t5 := Tryz.underlying5
  a5 := Tryz.isAgg5
  z5 := Tryz.sizeOf5
  v5 := Tryz.zeroValue5
  infoByte := by kernel_rfl
  cellsByte := by kernel_rfl
  sizeByte := by kernel_rfl
  neB5 := by decide }
def Tryz.bwrite26_ren : Go.Shelf.Ren := ⟨fun | 166 => 26 | 240 => 51 | 276 => 65 | n => n, fun | 0 => 0 | 3 => 3 | 4 => 4 | 9 => 9 | 20 => 20 | 37 => 66 | 70 => 65 | 72 => 68 | 75 => 70 | 164 => 110 | 80 => 33 | 5 => 5 | n => n, fun | n => n⟩
theorem Tryz.bwrite26 : Go.Proofs.Lays.n166 Tryz.prog Tryz.bwrite26_ren := {
  mixed := by kernel_rfl
  f166 := Tryz.func26.trans (congrArg some (by kernel_rfl))
  f240 := Tryz.func51.trans (congrArg some (by kernel_rfl))
  f276 := Tryz.func65.trans (congrArg some (by kernel_rfl))
  t0 := Tryz.underlying0
  a0 := Tryz.isAgg0
  z0 := Tryz.sizeOf0
  v0 := Tryz.zeroValue0
  t3 := Tryz.underlying3
  a3 := Tryz.isAgg3
  z3 := Tryz.sizeOf3
  v3 := Tryz.zeroValue3
  t4 := Tryz.underlying4
  a4 := Tryz.isAgg4
  z4 := Tryz.sizeOf4
  v4 := Tryz.zeroValue4
  t9 := Tryz.underlying9
  a9 := Tryz.isAgg9
  z9 := Tryz.sizeOf9
  v9 := Tryz.zeroValue9
  t20 := Tryz.underlying20
  a20 := Tryz.isAgg20
  z20 := Tryz.sizeOf20
  v20 := Tryz.zeroValue20
  t37 := Tryz.underlying66
  a37 := Tryz.isAgg66
  z37 := Tryz.sizeOf66
  v37 := Tryz.zeroValue66
  t70 := Tryz.underlying65
  a70 := Tryz.isAgg65
  z70 := Tryz.sizeOf65
  v70 := Tryz.zeroValue65
  t72 := Tryz.underlying68
  a72 := Tryz.isAgg68
  z72 := Tryz.sizeOf68
  v72 := Tryz.zeroValue68
  t75 := Tryz.underlying70
  a75 := Tryz.isAgg70
  z75 := Tryz.sizeOf70
  v75 := Tryz.zeroValue70
  t164 := Tryz.underlying110
  a164 := Tryz.isAgg110
  z164 := Tryz.sizeOf110
  v164 := Tryz.zeroValue110 }
theorem Tryz.bwrite26_x : Builder.Extra Tryz.prog Tryz.bwrite26_ren := {
  sizeBuilder := by kernel_rfl
  liesBuilder := by kernel_rfl
  t5 := Tryz.underlying5
  a5 := Tryz.isAgg5
  z5 := Tryz.sizeOf5
  v5 := Tryz.zeroValue5
  infoByte := by kernel_rfl
  cellsByte := by kernel_rfl
  sizeByte := by kernel_rfl
  neB5 := by decide }
end Go.Proofs
namespace Go.Proofs.YtnfeemhpoaflfaaGreatDoor
open Go.Q Go.RowKit

theorem MClone35_calls (w : World) (mb : Nat) (m : List ((List UInt8) × Int)) (Hm : HasMap w mb kstr ki64 m) : Calls Tryz.prog 35 ⟨[.map (some mb)]⟩ w (fun e w' => ∃ m2, e = .returned (.map (some m2)) ∧ Keeps none_ w w' ∧ HasMap w' m2 kstr ki64 m ∧ m2 = w.heap.size) := by
 obtain ⟨es, clock, hb, hs, he⟩ := Hm
 refine (Go.Proofs.AnyW.maps_Clone Go.Proofs.Tryz.clone35 mb es clock w hb).mono ?_
 rintro e w' ⟨rfl, rfl⟩
 exact ⟨_, rfl, Keeps.alloc _ _, ⟨es, clock, heap_alloc_new _ _, hs, he⟩, rfl⟩

theorem MClone36_calls (w : World) (mb : Nat) (m : List ((List UInt8 × List UInt8) × KeptM)) (Hm : HasMap w mb kpair keptv m) : Calls Tryz.prog 36 ⟨[.map (some mb)]⟩ w (fun e w' => ∃ m2, e = .returned (.map (some m2)) ∧ Keeps none_ w w' ∧ HasMap w' m2 kpair keptv m ∧ m2 = w.heap.size) := by
 obtain ⟨es, clock, hb, hs, he⟩ := Hm
 refine (Go.Proofs.AnyW.maps_Clone Go.Proofs.Tryz.clone36 mb es clock w hb).mono ?_
 rintro e w' ⟨rfl, rfl⟩
 exact ⟨_, rfl, Keeps.alloc _ _, ⟨es, clock, heap_alloc_new _ _, hs, he⟩, rfl⟩

theorem Copy_calls (w : World) (b mb kb : Nat) (m : List (List UInt8 × Int)) (S : List RowM) (K : List KeptM) (Hb : Has w b (rowL [.map (some mb), .map (some kb)] 54)) (Hm : HasMap w mb kstr ki64 m) (Hk : HasMap w kb kpair keptv (K.map KeptM.kv)) (hne : b ≠ mb ∧ b ≠ kb ∧ mb ≠ kb) (hB : LBook m S K) : Calls Tryz.prog 15 ⟨[(ptr b)]⟩ w (fun e w' => ∃ b2 mb2 kb2, e = .returned (ptr b2) ∧ Keeps none_ w w' ∧ Has w' b2 (rowL [.map (some mb2), .map (some kb2)] 54) ∧ HasMap w' mb2 kstr ki64 m ∧ HasMap w' kb2 kpair keptv (K.map KeptM.kv) ∧ w.heap.size ≤ b2 ∧ w.heap.size ≤ mb2 ∧ w.heap.size ≤ kb2 ∧ b2 ≠ mb2 ∧ b2 ≠ kb2 ∧ mb2 ≠ kb2) := by
 have Hbl := Hb.lt
 have Hml := Hm.lt
 have Hkl := Hk.lt
 have hL := hB.lmap
 have K0 : Keeps none_ w w := Keeps.refl w
 refine q_calls Tryz.func15 (by kernel_rfl) (by kernel_rfl) ?_
 refine qs ?_
 refine qg ?_
 refine og 1 [(0, (ptr b)), (2, (Value.pointer none))] 1 ?_
 refine od ?_
 refine qs ?_
 refine qs ?_
 refine qg ?_
 refine og 2 [(0, (ptr b)), (2, (Value.pointer none)), (4, (Value.bool false))] 2 ?_
 refine od ?_
 refine q_else (o := .tmp 4) (by kernel_rfl) rfl ?_
 refine q_skip (by kernel_rfl) ?_
 refine qs ?_
 refine q_draw (fun wz => Keeps none_ w wz) 13 (by kernel_rfl) (by kernel_rfl) (by kernel_rfl) (fun w1 K2 _ _ => ⟨K2, ?_⟩)
 replace K0 := K0.t0 K2
 replace Hb := Hb.keep K2 (fun h => h)
 replace Hm := Hm.keep K2 (fun h => h)
 replace Hk := Hk.keep K2 (fun h => h)
 refine Dr.strong (S' := (fun wz => Keeps none_ w1 wz)) (Keeps.refl w1) (fun wz hx => K2.trans hx (fun i _ h => h) (fun _ _ h => h)) ?_
 clear K2
 refine Dr.takes (fuel' := 10) (is' := [2, 1, 0]) [0, 1, 2] [(0, (ptr b)), (2, (Value.pointer none)), (7, (ptr b))] (by kernel_rfl) rfl (by kernel_rfl) ?_
 refine Dr.take (i := 3) (v := (Value.map (some mb))) (by kernel_rfl) (by kernel_rfl) (fun wz hS => Runs.load (t := 51) (a := ⟨b, 0, none⟩) (by kernel_rfl) ((Hb.keep hS (fun h => h)).loads (by kernel_rfl))) (d := (some 8)) (by kernel_rfl) rfl ?_
 refine Dr.takes (fuel' := 6) (is' := [7, 6, 5, 3, 2, 1, 0]) [5, 6, 7] [(2, (Value.pointer none)), (8, (Value.map (some mb))), (12, (Value.pointer (some ⟨b, 1, none⟩)))] (by kernel_rfl) rfl (by kernel_rfl) ?_
 refine Dr.take (i := 8) (v := (Value.map (some kb))) (by kernel_rfl) (by kernel_rfl) (fun wz hS => Runs.load (t := 52) (a := ⟨b, 1, none⟩) (by kernel_rfl) ((Hb.keep hS (fun h => h)).loads (by kernel_rfl))) (d := (some 13)) (by kernel_rfl) rfl ?_
 refine Dr.call (i := 4) (by kernel_rfl) (by kernel_rfl) (d := (some 9)) (by kernel_rfl) (fun _ => MClone35_calls _ mb m Hm) ?_
 rintro _ w4 ⟨mb3, rfl, K5, H6, hq7⟩
 have lmb3b : b < mb3 := by have := Hb.lt; omega
 have lmb3mb : mb < mb3 := by have := Hm.lt; omega
 have lmb3kb : kb < mb3 := by have := Hk.lt; omega
 have nmb3 : w.heap.size ≤ mb3 := by have := K0.size; omega
 replace K0 := K0.t0 K5
 replace Hb := Hb.keep K5 (fun h => h)
 replace Hm := Hm.keep K5 (fun h => h)
 replace Hk := Hk.keep K5 (fun h => h)
 refine ⟨_, _, rfl, rfl, K5, ?_⟩
 refine Dr.strong (S' := (fun wz => Keeps none_ w4 wz)) (Keeps.refl w4) (fun wz hx => K5.trans hx (fun i _ h => h) (fun _ _ h => h)) ?_
 clear K5
 refine Dr.call (i := 9) (by kernel_rfl) (by kernel_rfl) (d := (some 14)) (by kernel_rfl) (fun _ => MClone36_calls _ kb (K.map KeptM.kv) Hk) ?_
 rintro _ w9 ⟨mb8, rfl, K10, H11, hq12⟩
 have lmb8b : b < mb8 := by have := Hb.lt; omega
 have lmb8mb : mb < mb8 := by have := Hm.lt; omega
 have lmb8kb : kb < mb8 := by have := Hk.lt; omega
 have lmb8mb3 : mb3 < mb8 := by have := H6.lt; omega
 have nmb8 : w.heap.size ≤ mb8 := by have := K0.size; omega
 replace K0 := K0.t0 K10
 replace Hb := Hb.keep K10 (fun h => h)
 replace Hm := Hm.keep K10 (fun h => h)
 replace Hk := Hk.keep K10 (fun h => h)
 replace H6 := H6.keep K10 (fun h => h)
 refine ⟨_, _, rfl, rfl, K10, ?_⟩
 refine Dr.strong (S' := (fun wz => Keeps none_ w9 wz)) (Keeps.refl w9) (fun wz hx => K10.trans hx (fun i _ h => h) (fun _ _ h => h)) ?_
 clear K10
 refine Dr.takes (fuel' := 2) (is' := [10, 9, 4, 8, 7, 6, 5, 3, 2, 1, 0]) [10] [(2, (Value.pointer none)), (15, (agg [(Value.map (some mb3)), (Value.map (some mb8))]))] (by kernel_rfl) rfl (by kernel_rfl) ?_
 refine Dr.new (i := 11) (o := rowL [(Value.map (some mb3)), (Value.map (some mb8))] 54) (V := fun b => (ptr b)) (by kernel_rfl) (by kernel_rfl) (d := (some 16)) (by kernel_rfl) (fun b => rfl) (fun b13 w14 hb15 H16 K17 hs18 => ?_)
 have lb13b : b < b13 := by have := Hb.lt; omega
 have lb13mb : mb < b13 := by have := Hm.lt; omega
 have lb13kb : kb < b13 := by have := Hk.lt; omega
 have lb13mb3 : mb3 < b13 := by have := H6.lt; omega
 have lb13mb8 : mb8 < b13 := by have := H11.lt; omega
 have nb13 : w.heap.size ≤ b13 := by have := K0.size; omega
 replace K0 := K0.t0 K17
 replace Hb := Hb.keep K17 (fun h => h)
 replace Hm := Hm.keep K17 (fun h => h)
 replace Hk := Hk.keep K17 (fun h => h)
 replace H6 := H6.keep K17 (fun h => h)
 replace H11 := H11.keep K17 (fun h => h)
 refine ⟨K17, ?_⟩
 refine Dr.strong (S' := (fun wz => Keeps none_ w14 wz)) (Keeps.refl w14) (fun wz hx => K17.trans hx (fun i _ h => h) (fun _ _ h => h)) ?_
 clear K17 hs18
 refine Dr.takes (fuel' := 0) (is' := [12, 11, 10, 9, 4, 8, 7, 6, 5, 3, 2, 1, 0]) [12] [(2, (ptr b13))] (by kernel_rfl) rfl (by kernel_rfl) ?_
 refine Dr.done (by kernel_rfl) ?_
 refine q_ret (by kernel_rfl) ?_
 refine ⟨(ptr b13), retv_tmp rfl rfl, ?_⟩
 exact ⟨b13, mb3, mb8, rfl, K0, H16, H6, H11, nb13, nmb3, nmb8, by omega, by omega, by omega⟩
end Go.Proofs.YtnfeemhpoaflfaaGreatDoor
namespace Go.Proofs.YtnfeemhpoaflfaaGreatDoor
open Go.Q Go.RowKit

theorem keptNest : ∃ f1 f2, NestTy Tryz.prog 62 f1 f2 7 ∧ f1.type = 24 ∧ f2.type = 27 := ⟨_, _, { und := Tryz.underlying62, n1 := by decide, n2 := by decide, o1 := rfl, o2 := rfl, a1 := by kernel_rfl, z1 := Tryz.sizeOf24, held := by kernel_rfl, guard := by kernel_rfl }, rfl, rfl⟩

theorem EqualM_calls (w : World) (m1 m2 : Nat) (M1 M2 : List (List UInt8 × Int)) (S1 S2 : List RowM) (H1 : HasMap w m1 kstr ki64 (M1)) (H2 : HasMap w m2 kstr ki64 (M2)) (hL1 : LMap M1 S1) (hL2 : LMap M2 S2) : Calls Tryz.prog 37 ⟨[(Value.map (some m1)), (Value.map (some m2))]⟩ w (fun e w' => ∃ t, e = .returned (.bool t) ∧ (t = true ↔ S1 = S2) ∧ Keeps none_ w w') := by
 have H1l := H1.lt
 have H2l := H2.lt
 have hl1 := hL1.len
 have hl2 := hL2.len
 have K0 : Keeps none_ w w := Keeps.refl w
 refine q_calls Tryz.func37 (by kernel_rfl) (by kernel_rfl) ?_
 refine qs ?_
 refine qg ?_
 refine og 1 [(0, (Value.map (some m1))), (1, (Value.map (some m2))), (4, (Value.bool false))] 1 ?_
 refine od ?_
 refine qs ?_
 refine qs ?_
 refine qg ?_
 refine og 1 [(0, (Value.map (some m1))), (1, (Value.map (some m2))), (4, (Value.bool false)), (9, (Value.map (some m1)))] 1 ?_
 refine Ops.go (v := (i64 ((M1.length : Nat) : Int))) (by kernel_rfl) (Runs.maplen (ts := #[51]) (t0 := 51) (ty := 3) rfl Tryz.underlying51 H1 (by kernel_rfl)) (d := (some 10)) (by kernel_rfl) rfl ?_
 refine og 1 [(0, (Value.map (some m1))), (1, (Value.map (some m2))), (4, (Value.bool false)), (10, (i64 ((M1.length : Nat) : Int))), (11, (Value.map (some m2)))] 3 ?_
 refine Ops.go (v := (i64 ((M2.length : Nat) : Int))) (by kernel_rfl) (Runs.maplen (ts := #[51]) (t0 := 51) (ty := 3) rfl Tryz.underlying51 H2 (by kernel_rfl)) (d := (some 12)) (by kernel_rfl) rfl ?_
 refine og 1 [(0, (Value.map (some m1))), (1, (Value.map (some m2))), (4, (Value.bool false)), (13, (Value.bool (((M1.length : Nat) : Int) != ((M2.length : Nat) : Int))))] 5 ?_
 refine od ?_
 refine q_cond (o := .tmp 13) (b := (((M1.length : Nat) : Int) != ((M2.length : Nat) : Int))) (by kernel_rfl) rfl (fun h1 => ?_) (fun h1 => ?_)
 ·rw [h1]
  have p2 : ¬ (((M1.length : Nat) : Int) = ((M2.length : Nat) : Int)) := of_bne_t h1
  refine qs ?_
  refine qg ?_
  refine og 1 [(0, (Value.map (some m1))), (1, (Value.map (some m2))), (4, (Value.bool false))] 1 ?_
  refine od ?_
  refine q_ret (by kernel_rfl) ?_
  refine ⟨(Value.bool false), retv_tmp rfl rfl, ?_⟩
  exact ⟨false, rfl, ⟨fun h => (by cases h), fun h => absurd h fun h => (by subst h; have := hL1.len; have := hL2.len; omega)⟩, K0⟩
 ·rw [h1]
  have p3 : ((M1.length : Nat) : Int) = ((M2.length : Nat) : Int) := of_bne_f h1
  refine q_skip (by kernel_rfl) ?_
  refine qs ?_
  refine qs ?_
  refine qg ?_
  refine og 1 [(1, (Value.map (some m2))), (4, (Value.bool false)), (14, (Value.map (some m1)))] 1 ?_
  obtain ⟨it4, w5, hr6, K7, hq8, H9⟩ := HasMap.range (P := Tryz.prog) (t := 51) Tryz.underlying51 H1
  refine Ops.go (v := (ptr it4)) (by kernel_rfl) (Runs.of_range (by kernel_rfl) hr6) (d := (some 15)) (by kernel_rfl) rfl ?_
  have lit4m1 : m1 < it4 := by have := H1.lt; omega
  have lit4m2 : m2 < it4 := by have := H2.lt; omega
  have nit4 : w.heap.size ≤ it4 := by have := K0.size; omega
  replace K0 := K0.t0 K7
  replace H1 := H1.keep K7 (fun h => h)
  replace H2 := H2.keep K7 (fun h => h)
  clear K7 hr6
  refine od ?_
  refine q_block (id := 0) (by kernel_rfl) ?_
  refine q_keep (R := [(1, (Value.map (some m2))), (15, (ptr it4))]) (by kernel_rfl) ?_
  refine q_loop (fun (gs : (List (List UInt8 × Int)) × (List (List UInt8 × Int)) × (Option (List UInt8 × Int))) L (wx : World) => match gs with | (came, rest, last) => L = [(1, (Value.map (some m2))), (15, (ptr it4))] ∧ (came ++ rest).Perm (M1) ∧ (∀ y ∈ came, getM (M2) y.1 = some y.2) ∧ Keeps none_ w wx ∧ HasMap wx m1 kstr ki64 M1 ∧ HasMap wx m2 kstr ki64 M2 ∧ IterM wx it4 m1 kstr ki64 M1 rest last) (fun (gs : (List (List UInt8 × Int)) × (List (List UInt8 × Int)) × (Option (List UInt8 × Int))) => match gs with | (came, rest, last) => rest.length) ([], M1, none) (by kernel_rfl) ⟨rfl, (List.Perm.refl _), (fun y hy => by cases hy), K0, H1, H2, H9⟩ ?_
  clear H1 H2 H9 K0
  rintro ⟨came, rest, last⟩ _ w10 ⟨rfl, hp, hall, K11, H12, H13, H14⟩
  refine qs ?_
  refine qg ?_
  rcases IterM.next (P := Tryz.prog) H14 0 with ⟨hn24, hr21⟩ | ⟨x15, a16, p17, q18, w19, hs20, hr21, K22, H23⟩
  ·skip
   refine Ops.go (v := (Value.tuple #[(Value.bool false)])) (by kernel_rfl) (Runs.of_next (by kernel_rfl) hr21) (d := (some 16)) (by kernel_rfl) rfl ?_
   clear hr21
   refine og 1 [(1, (Value.map (some m2))), (15, (ptr it4)), (17, (Value.bool false))] 2 ?_
   refine od ?_
   refine qs ?_
   refine q_else (o := .tmp 17) (by kernel_rfl) rfl ?_
   refine q_exit (id := 0) (by kernel_rfl) ?_
   refine qs ?_
   refine qg ?_
   refine og 1 [(4, (Value.bool true))] 1 ?_
   refine od ?_
   refine q_ret (by kernel_rfl) ?_
   refine ⟨(Value.bool true), retv_tmp rfl rfl, ?_⟩
   exact ⟨true, rfl, ⟨fun _ => hL1.eq hL2 (by omega) (by rw [hn24, List.append_nil] at hp; exact hp) hall, fun _ => rfl⟩, K11⟩
  ·skip
   refine Ops.go (v := (Value.tuple #[(Value.bool true), (Value.string (str x15)), (i64 a16)])) (by kernel_rfl) (Runs.of_next (by kernel_rfl) hr21) (d := (some 16)) (by kernel_rfl) rfl ?_
   replace H23 := H23 (by omega)
   clear H14
   replace K11 := K11.trans K22 (U := none_) (fun i h1 h2 => h2) (fun i h1 h2 => by have h2 : i = it4 := h2; exfalso; omega)
   replace H12 := H12.keep K22 (by intro h; change m1 = it4 at h; omega)
   replace H13 := H13.keep K22 (by intro h; change m2 = it4 at h; omega)
   clear K22 hr21
   have hmem : (x15, a16) ∈ M1 := hp.mem_iff.1 (by rw [hs20]; simp)
   have hsm : S1 = S2 → getM (M2) x15 = some a16 := fun h => hL1.same (h ▸ hL2) hmem
   have hln := congrArg List.length hs20
   rw [List.length_append, List.length_cons] at hln
   rcases hg25 : getM (M2) x15 with _ | v26
   ·skip
    refine og 1 [(1, (Value.map (some m2))), (15, (ptr it4)), (17, (Value.bool true))] 2 ?_
    refine od ?_
    refine qs ?_
    refine q_then (o := .tmp 17) (by kernel_rfl) rfl ?_
    refine q_skip (by kernel_rfl) ?_
    refine q_block (id := 1) (by kernel_rfl) ?_
    refine qs ?_
    refine qg ?_
    refine Ops.go (v := (Value.tuple #[(Value.string (str x15)), (i64 a16)])) (by kernel_rfl) (Runs.of_entry (by kernel_rfl) (IterM.entry (kf := kstr) (vf := ki64) (x := x15) (a := a16) H23)) (d := (some 18)) (by kernel_rfl) rfl ?_
    refine og 4 [(1, (Value.map (some m2))), (5, (Value.string (str x15))), (6, (i64 a16)), (15, (ptr it4)), (17, (Value.bool true))] 5 ?_
    refine od ?_
    refine qs ?_
    refine qg ?_
    refine og 2 [(1, (Value.map (some m2))), (5, (Value.string (str x15))), (6, (i64 a16)), (15, (ptr it4)), (17, (Value.bool true)), (22, (Value.map (some m2))), (23, (Value.string (str x15)))] 2 ?_
    refine Ops.go (v := (Value.tuple #[(i64 0), (Value.bool false)])) (by kernel_rfl) (Runs.lookup_none (ok := true) (z := (i64 0)) KT Tryz.underlying51 (by kernel_rfl) H13 hg25 (by kernel_rfl)) (d := (some 24)) (by kernel_rfl) rfl ?_
    refine og 5 [(1, (Value.map (some m2))), (5, (Value.string (str x15))), (6, (i64 a16)), (7, (i64 0)), (8, (Value.bool false)), (15, (ptr it4)), (17, (Value.bool true))] 8 ?_
    refine od ?_
    refine qs ?_
    refine qg ?_
    refine og 7 [(1, (Value.map (some m2))), (5, (Value.string (str x15))), (6, (i64 a16)), (7, (i64 0)), (8, (Value.bool false)), (15, (ptr it4)), (17, (Value.bool true)), (33, (Value.bool true))] 7 ?_
    refine od ?_
    refine q_then (o := .tmp 33) (by kernel_rfl) rfl ?_
    refine qs ?_
    refine qg ?_
    refine og 1 [(1, (Value.map (some m2))), (4, (Value.bool false)), (5, (Value.string (str x15))), (6, (i64 a16)), (7, (i64 0)), (8, (Value.bool false)), (15, (ptr it4)), (17, (Value.bool true)), (33, (Value.bool true))] 1 ?_
    refine od ?_
    refine q_ret (by kernel_rfl) ?_
    refine ⟨(Value.bool false), retv_tmp rfl rfl, ?_⟩
    exact ⟨false, rfl, ⟨fun h => (by cases h), fun h => absurd h fun h => (by have q := hsm h; rw [hg25] at q; cases q)⟩, K11⟩
   ·skip
    refine og 1 [(1, (Value.map (some m2))), (15, (ptr it4)), (17, (Value.bool true))] 2 ?_
    refine od ?_
    refine qs ?_
    refine q_then (o := .tmp 17) (by kernel_rfl) rfl ?_
    refine q_skip (by kernel_rfl) ?_
    refine q_block (id := 1) (by kernel_rfl) ?_
    refine qs ?_
    refine qg ?_
    refine Ops.go (v := (Value.tuple #[(Value.string (str x15)), (i64 a16)])) (by kernel_rfl) (Runs.of_entry (by kernel_rfl) (IterM.entry (kf := kstr) (vf := ki64) (x := x15) (a := a16) H23)) (d := (some 18)) (by kernel_rfl) rfl ?_
    refine og 4 [(1, (Value.map (some m2))), (5, (Value.string (str x15))), (6, (i64 a16)), (15, (ptr it4)), (17, (Value.bool true))] 5 ?_
    refine od ?_
    refine qs ?_
    refine qg ?_
    refine og 2 [(1, (Value.map (some m2))), (5, (Value.string (str x15))), (6, (i64 a16)), (15, (ptr it4)), (17, (Value.bool true)), (22, (Value.map (some m2))), (23, (Value.string (str x15)))] 2 ?_
    refine Ops.go (v := (Value.tuple #[(i64 v26), (Value.bool true)])) (by kernel_rfl) (Runs.lookup_some (ok := true) (vf := ki64) (a := v26) KT Tryz.underlying51 H13 hg25 (by kernel_rfl)) (d := (some 24)) (by kernel_rfl) rfl ?_
    refine og 5 [(1, (Value.map (some m2))), (5, (Value.string (str x15))), (6, (i64 a16)), (7, (i64 v26)), (8, (Value.bool true)), (15, (ptr it4)), (17, (Value.bool true))] 8 ?_
    refine od ?_
    refine qs ?_
    refine qg ?_
    refine og 7 [(1, (Value.map (some m2))), (5, (Value.string (str x15))), (6, (i64 a16)), (7, (i64 v26)), (8, (Value.bool true)), (15, (ptr it4)), (17, (Value.bool true)), (33, (Value.bool (a16 != v26)))] 7 ?_
    refine od ?_
    refine q_cond (o := .tmp 33) (b := (a16 != v26)) (by kernel_rfl) rfl (fun h27 => ?_) (fun h27 => ?_)
    ·rw [h27]
     have p28 : ¬ (a16 = v26) := of_bne_t h27
     have hav : a16 ≠ v26 := by omega
     refine qs ?_
     refine qg ?_
     refine og 1 [(1, (Value.map (some m2))), (4, (Value.bool false)), (5, (Value.string (str x15))), (6, (i64 a16)), (7, (i64 v26)), (8, (Value.bool true)), (15, (ptr it4)), (17, (Value.bool true)), (33, (Value.bool true))] 1 ?_
     refine od ?_
     refine q_ret (by kernel_rfl) ?_
     refine ⟨(Value.bool false), retv_tmp rfl rfl, ?_⟩
     exact ⟨false, rfl, ⟨fun h => (by cases h), fun h => absurd h fun h => (by have q := hsm h; rw [hg25] at q; exact hav (Option.some.inj q).symm)⟩, K11⟩
    ·rw [h27]
     have p29 : a16 = v26 := of_bne_f h27
     have hav : a16 = v26 := by omega
     refine q_keep (R := [(1, (Value.map (some m2))), (15, (ptr it4))]) (by kernel_rfl) ?_
     refine q_skip (by kernel_rfl) ?_
     exact ⟨(came ++ [(x15, a16)], p17 ++ q18, some (x15, a16)), ⟨rfl, (came_perm (by rw [← hs20]; exact hp)), (fun y hy => by rcases List.mem_append.1 hy with hy | hy; (exact hall y hy); (rw [List.mem_singleton.1 hy, hav]; exact hg25)), K11, H12, H13, H23⟩, (show (p17 ++ q18).length < rest.length from by rw [List.length_append]; omega)⟩

theorem EqualK_calls (w : World) (m1 m2 : Nat)  (K1 K2 : List KeptM) (H1 : HasMap w m1 kpair keptv (K1.map KeptM.kv)) (H2 : HasMap w m2 kpair keptv (K2.map KeptM.kv)) (hN1 : (K1.map KeptM.id).Nodup) (hN2 : (K2.map KeptM.id).Nodup) : Calls Tryz.prog 38 ⟨[(Value.map (some m1)), (Value.map (some m2))]⟩ w (fun e w' => ∃ t, e = .returned (.bool t) ∧ (t = true ↔ K1.Perm K2) ∧ Keeps none_ w w') := by
 have H1l := H1.lt
 have H2l := H2.lt
 have K0 : Keeps none_ w w := Keeps.refl w
 refine q_calls Tryz.func38 (by kernel_rfl) (by kernel_rfl) ?_
 refine qs ?_
 refine qg ?_
 refine og 1 [(0, (Value.map (some m1))), (1, (Value.map (some m2))), (4, (Value.bool false))] 1 ?_
 refine od ?_
 refine qs ?_
 refine qs ?_
 refine qg ?_
 refine og 1 [(0, (Value.map (some m1))), (1, (Value.map (some m2))), (4, (Value.bool false)), (9, (Value.map (some m1)))] 1 ?_
 refine Ops.go (v := (i64 (((K1.map KeptM.kv).length : Nat) : Int))) (by kernel_rfl) (Runs.maplen (ts := #[52]) (t0 := 52) (ty := 3) rfl Tryz.underlying52 H1 (by kernel_rfl)) (d := (some 10)) (by kernel_rfl) rfl ?_
 refine og 1 [(0, (Value.map (some m1))), (1, (Value.map (some m2))), (4, (Value.bool false)), (10, (i64 (((K1.map KeptM.kv).length : Nat) : Int))), (11, (Value.map (some m2)))] 3 ?_
 refine Ops.go (v := (i64 (((K2.map KeptM.kv).length : Nat) : Int))) (by kernel_rfl) (Runs.maplen (ts := #[52]) (t0 := 52) (ty := 3) rfl Tryz.underlying52 H2 (by kernel_rfl)) (d := (some 12)) (by kernel_rfl) rfl ?_
 refine og 1 [(0, (Value.map (some m1))), (1, (Value.map (some m2))), (4, (Value.bool false)), (13, (Value.bool ((((K1.map KeptM.kv).length : Nat) : Int) != (((K2.map KeptM.kv).length : Nat) : Int))))] 5 ?_
 refine od ?_
 refine q_cond (o := .tmp 13) (b := ((((K1.map KeptM.kv).length : Nat) : Int) != (((K2.map KeptM.kv).length : Nat) : Int))) (by kernel_rfl) rfl (fun h1 => ?_) (fun h1 => ?_)
 ·rw [h1]
  have p2 : ¬ ((((K1.map KeptM.kv).length : Nat) : Int) = (((K2.map KeptM.kv).length : Nat) : Int)) := of_bne_t h1
  refine qs ?_
  refine qg ?_
  refine og 1 [(0, (Value.map (some m1))), (1, (Value.map (some m2))), (4, (Value.bool false))] 1 ?_
  refine od ?_
  refine q_ret (by kernel_rfl) ?_
  refine ⟨(Value.bool false), retv_tmp rfl rfl, ?_⟩
  exact ⟨false, rfl, ⟨fun h => (by cases h), fun h => absurd h fun h => (by have hq := h.length_eq; simp only [List.length_map] at *; omega)⟩, K0⟩
 ·rw [h1]
  have p3 : (((K1.map KeptM.kv).length : Nat) : Int) = (((K2.map KeptM.kv).length : Nat) : Int) := of_bne_f h1
  refine q_skip (by kernel_rfl) ?_
  refine qs ?_
  refine qs ?_
  refine qg ?_
  refine og 1 [(1, (Value.map (some m2))), (4, (Value.bool false)), (14, (Value.map (some m1)))] 1 ?_
  obtain ⟨it4, w5, hr6, K7, hq8, H9⟩ := HasMap.range (P := Tryz.prog) (t := 52) Tryz.underlying52 H1
  refine Ops.go (v := (ptr it4)) (by kernel_rfl) (Runs.of_range (by kernel_rfl) hr6) (d := (some 15)) (by kernel_rfl) rfl ?_
  have lit4m1 : m1 < it4 := by have := H1.lt; omega
  have lit4m2 : m2 < it4 := by have := H2.lt; omega
  have nit4 : w.heap.size ≤ it4 := by have := K0.size; omega
  replace K0 := K0.t0 K7
  replace H1 := H1.keep K7 (fun h => h)
  replace H2 := H2.keep K7 (fun h => h)
  clear K7 hr6
  refine od ?_
  refine q_block (id := 0) (by kernel_rfl) ?_
  refine q_keep (R := [(1, (Value.map (some m2))), (15, (ptr it4))]) (by kernel_rfl) ?_
  refine q_loop (fun (gs : (List ((List UInt8 × List UInt8) × KeptM)) × (List ((List UInt8 × List UInt8) × KeptM)) × (Option ((List UInt8 × List UInt8) × KeptM))) L (wx : World) => match gs with | (came, rest, last) => L = [(1, (Value.map (some m2))), (15, (ptr it4))] ∧ (came ++ rest).Perm (K1.map KeptM.kv) ∧ (∀ y ∈ came, getM (K2.map KeptM.kv) y.1 = some y.2) ∧ Keeps none_ w wx ∧ HasMap wx m1 kpair keptv (K1.map KeptM.kv) ∧ HasMap wx m2 kpair keptv (K2.map KeptM.kv) ∧ IterM wx it4 m1 kpair keptv (K1.map KeptM.kv) rest last) (fun (gs : (List ((List UInt8 × List UInt8) × KeptM)) × (List ((List UInt8 × List UInt8) × KeptM)) × (Option ((List UInt8 × List UInt8) × KeptM))) => match gs with | (came, rest, last) => rest.length) ([], K1.map KeptM.kv, none) (by kernel_rfl) ⟨rfl, (List.Perm.refl _), (fun y hy => by cases hy), K0, H1, H2, H9⟩ ?_
  clear H1 H2 H9 K0
  rintro ⟨came, rest, last⟩ _ w10 ⟨rfl, hp, hall, K11, H12, H13, H14⟩
  refine qs ?_
  refine qg ?_
  rcases IterM.next (P := Tryz.prog) H14 0 with ⟨hn24, hr21⟩ | ⟨x15, a16, p17, q18, w19, hs20, hr21, K22, H23⟩
  ·skip
   refine Ops.go (v := (Value.tuple #[(Value.bool false)])) (by kernel_rfl) (Runs.of_next (by kernel_rfl) hr21) (d := (some 16)) (by kernel_rfl) rfl ?_
   clear hr21
   refine og 1 [(1, (Value.map (some m2))), (15, (ptr it4)), (17, (Value.bool false))] 2 ?_
   refine od ?_
   refine qs ?_
   refine q_else (o := .tmp 17) (by kernel_rfl) rfl ?_
   refine q_exit (id := 0) (by kernel_rfl) ?_
   refine qs ?_
   refine qg ?_
   refine og 1 [(4, (Value.bool true))] 1 ?_
   refine od ?_
   refine q_ret (by kernel_rfl) ?_
   refine ⟨(Value.bool true), retv_tmp rfl rfl, ?_⟩
   exact ⟨true, rfl, ⟨fun _ => kept_eq hN1 (by simp only [List.length_map] at *; omega) (by rw [hn24, List.append_nil] at hp; exact hp) hall, fun _ => rfl⟩, K11⟩
  ·skip
   refine Ops.go (v := (Value.tuple #[(Value.bool true), (agg [(Value.string (str x15.1)), (Value.string (str x15.2))]), (agg [(i64 a16.op.kind), (Value.string (str a16.op.frm)), (Value.string (str a16.op.to)), (i64 a16.op.amount), (Value.string (str a16.op.key)), (i64 a16.op.slot), (i64 a16.op.shard), (i64 a16.why)])])) (by kernel_rfl) (Runs.of_next (by kernel_rfl) hr21) (d := (some 16)) (by kernel_rfl) rfl ?_
   replace H23 := H23 (by omega)
   clear H14
   replace K11 := K11.trans K22 (U := none_) (fun i h1 h2 => h2) (fun i h1 h2 => by have h2 : i = it4 := h2; exfalso; omega)
   replace H12 := H12.keep K22 (by intro h; change m1 = it4 at h; omega)
   replace H13 := H13.keep K22 (by intro h; change m2 = it4 at h; omega)
   clear K22 hr21
   have hmem : (x15, a16) ∈ K1.map KeptM.kv := hp.mem_iff.1 (by rw [hs20]; simp)
   have hsm : K1.Perm K2 → getM (K2.map KeptM.kv) x15 = some a16 := fun h => kept_same hN2 h hmem
   have hln := congrArg List.length hs20
   rw [List.length_append, List.length_cons] at hln
   rcases hg25 : getM (K2.map KeptM.kv) x15 with _ | v26
   ·skip
    refine og 1 [(1, (Value.map (some m2))), (15, (ptr it4)), (17, (Value.bool true))] 2 ?_
    refine od ?_
    refine qs ?_
    refine q_then (o := .tmp 17) (by kernel_rfl) rfl ?_
    refine q_skip (by kernel_rfl) ?_
    refine q_block (id := 1) (by kernel_rfl) ?_
    refine qs ?_
    refine qg ?_
    refine Ops.go (v := (Value.tuple #[(agg [(Value.string (str x15.1)), (Value.string (str x15.2))]), (agg [(i64 a16.op.kind), (Value.string (str a16.op.frm)), (Value.string (str a16.op.to)), (i64 a16.op.amount), (Value.string (str a16.op.key)), (i64 a16.op.slot), (i64 a16.op.shard), (i64 a16.why)])])) (by kernel_rfl) (Runs.of_entry (by kernel_rfl) (IterM.entry (kf := kpair) (vf := keptv) (x := x15) (a := a16) H23)) (d := (some 18)) (by kernel_rfl) rfl ?_
    refine og 2 [(1, (Value.map (some m2))), (15, (ptr it4)), (17, (Value.bool true)), (19, (agg [(Value.string (str x15.1)), (Value.string (str x15.2))])), (20, (agg [(i64 a16.op.kind), (Value.string (str a16.op.frm)), (Value.string (str a16.op.to)), (i64 a16.op.amount), (Value.string (str a16.op.key)), (i64 a16.op.slot), (i64 a16.op.shard), (i64 a16.why)]))] 3 ?_
    refine Ops.new (o := rowL [(Value.string ByteArray.empty), (Value.string ByteArray.empty)] 60) (V := fun b => (ptr b)) (by kernel_rfl) (d := (some 5)) (by kernel_rfl) (fun b => rfl) (fun b27 w28 hb29 H30 K31 hs32 => ?_)
    have lb27m1 : m1 < b27 := by have := H12.lt; omega
    have lb27m2 : m2 < b27 := by have := H13.lt; omega
    have lb27it4 : it4 < b27 := by have := H23.lt; omega
    have nb27 : w.heap.size ≤ b27 := by have := K11.size; omega
    replace K11 := K11.trans K31 (U := none_) (fun i h1 h2 => h2) (fun i h1 h2 => by exact h2)
    replace H12 := H12.keep K31 (fun h => h)
    replace H13 := H13.keep K31 (fun h => h)
    replace H23 := H23.keep K31 (fun h => h) (fun h => h)
    clear K31 hs32
    refine Ops.new (o := rowL [(i64 0), (Value.string ByteArray.empty), (Value.string ByteArray.empty), (i64 0), (Value.string ByteArray.empty), (i64 0), (i64 0), (i64 0)] 62) (V := fun b => (ptr b)) (by kernel_rfl) (d := (some 6)) (by kernel_rfl) (fun b => rfl) (fun b33 w34 hb35 H36 K37 hs38 => ?_)
    have lb33m1 : m1 < b33 := by have := H12.lt; omega
    have lb33m2 : m2 < b33 := by have := H13.lt; omega
    have lb33it4 : it4 < b33 := by have := H23.lt; omega
    have lb33b27 : b27 < b33 := by have := H30.lt; omega
    have nb33 : w.heap.size ≤ b33 := by have := K11.size; omega
    replace K11 := K11.trans K37 (U := none_) (fun i h1 h2 => h2) (fun i h1 h2 => by exact h2)
    replace H12 := H12.keep K37 (fun h => h)
    replace H13 := H13.keep K37 (fun h => h)
    replace H23 := H23.keep K37 (fun h => h) (fun h => h)
    replace H30 := H30.keep K37 (fun h => h)
    clear K37 hs38
    refine Ops.put (t := 60) (b := b27) (off := 0) (v := (agg [(Value.string (str x15.1)), (Value.string (str x15.2))])) (ys := [(Value.string (str x15.1)), (Value.string (str x15.2))]) (by kernel_rfl) (by kernel_rfl) H30 (by kernel_rfl) (d := none) (by kernel_rfl) rfl (fun w39 H40 K41 => ?_)
    clear H30
    replace K11 := K11.trans K41 (U := none_) (fun i h1 h2 => h2) (fun i h1 h2 => by have h2 : i = b27 := h2; exfalso; omega)
    replace H12 := H12.keep K41 (by intro h; change m1 = b27 at h; omega)
    replace H13 := H13.keep K41 (by intro h; change m2 = b27 at h; omega)
    replace H23 := H23.keep K41 (by intro h; change it4 = b27 at h; omega) (by intro h; change m1 = b27 at h; omega)
    replace H36 := H36.keep K41 (by intro h; change b33 = b27 at h; omega)
    clear K41
    refine Ops.put (t := 62) (b := b33) (off := 0) (v := (agg [(i64 a16.op.kind), (Value.string (str a16.op.frm)), (Value.string (str a16.op.to)), (i64 a16.op.amount), (Value.string (str a16.op.key)), (i64 a16.op.slot), (i64 a16.op.shard), (i64 a16.why)])) (ys := [(i64 a16.op.kind), (Value.string (str a16.op.frm)), (Value.string (str a16.op.to)), (i64 a16.op.amount), (Value.string (str a16.op.key)), (i64 a16.op.slot), (i64 a16.op.shard), (i64 a16.why)]) (by kernel_rfl) (by kernel_rfl) H36 (by kernel_rfl) (d := none) (by kernel_rfl) rfl (fun w42 H43 K44 => ?_)
    clear H36
    replace K11 := K11.trans K44 (U := none_) (fun i h1 h2 => h2) (fun i h1 h2 => by have h2 : i = b33 := h2; exfalso; omega)
    replace H12 := H12.keep K44 (by intro h; change m1 = b33 at h; omega)
    replace H13 := H13.keep K44 (by intro h; change m2 = b33 at h; omega)
    replace H23 := H23.keep K44 (by intro h; change it4 = b33 at h; omega) (by intro h; change m1 = b33 at h; omega)
    replace H40 := H40.keep K44 (by intro h; change b27 = b33 at h; omega)
    clear K44
    refine od ?_
    refine qs ?_
    refine qg ?_
    refine og 1 [(1, (Value.map (some m2))), (5, (ptr b27)), (6, (ptr b33)), (15, (ptr it4)), (17, (Value.bool true)), (22, (Value.map (some m2)))] 1 ?_
    refine Ops.go (v := (agg [(Value.string (str x15.1)), (Value.string (str x15.2))])) (by kernel_rfl) (Runs.load (t := 60) (a := ⟨b27, 0, none⟩) (by kernel_rfl) (H40.loads (by kernel_rfl))) (d := (some 23)) (by kernel_rfl) rfl ?_
    refine Ops.go (v := (Value.tuple #[(agg [(i64 0), (Value.string ByteArray.empty), (Value.string ByteArray.empty), (i64 0), (Value.string ByteArray.empty), (i64 0), (i64 0), (i64 0)]), (Value.bool false)])) (by kernel_rfl) (Runs.lookup_none (ok := true) (z := (agg [(i64 0), (Value.string ByteArray.empty), (Value.string ByteArray.empty), (i64 0), (Value.string ByteArray.empty), (i64 0), (i64 0), (i64 0)])) KT2 Tryz.underlying52 (by kernel_rfl) H13 hg25 (by kernel_rfl)) (d := (some 24)) (by kernel_rfl) rfl ?_
    refine og 3 [(1, (Value.map (some m2))), (5, (ptr b27)), (6, (ptr b33)), (15, (ptr it4)), (17, (Value.bool true)), (25, (agg [(i64 0), (Value.string ByteArray.empty), (Value.string ByteArray.empty), (i64 0), (Value.string ByteArray.empty), (i64 0), (i64 0), (i64 0)])), (26, (Value.bool false))] 6 ?_
    refine Ops.new (o := rowL [(i64 0), (Value.string ByteArray.empty), (Value.string ByteArray.empty), (i64 0), (Value.string ByteArray.empty), (i64 0), (i64 0), (i64 0)] 62) (V := fun b => (ptr b)) (by kernel_rfl) (d := (some 7)) (by kernel_rfl) (fun b => rfl) (fun b45 w46 hb47 H48 K49 hs50 => ?_)
    have lb45m1 : m1 < b45 := by have := H12.lt; omega
    have lb45m2 : m2 < b45 := by have := H13.lt; omega
    have lb45it4 : it4 < b45 := by have := H23.lt; omega
    have lb45b27 : b27 < b45 := by have := H40.lt; omega
    have lb45b33 : b33 < b45 := by have := H43.lt; omega
    have nb45 : w.heap.size ≤ b45 := by have := K11.size; omega
    replace K11 := K11.trans K49 (U := none_) (fun i h1 h2 => h2) (fun i h1 h2 => by exact h2)
    replace H12 := H12.keep K49 (fun h => h)
    replace H13 := H13.keep K49 (fun h => h)
    replace H23 := H23.keep K49 (fun h => h) (fun h => h)
    replace H40 := H40.keep K49 (fun h => h)
    replace H43 := H43.keep K49 (fun h => h)
    clear K49 hs50
    refine Ops.put (t := 62) (b := b45) (off := 0) (v := (agg [(i64 0), (Value.string ByteArray.empty), (Value.string ByteArray.empty), (i64 0), (Value.string ByteArray.empty), (i64 0), (i64 0), (i64 0)])) (ys := [(i64 0), (Value.string ByteArray.empty), (Value.string ByteArray.empty), (i64 0), (Value.string ByteArray.empty), (i64 0), (i64 0), (i64 0)]) (by kernel_rfl) (by kernel_rfl) H48 (by kernel_rfl) (d := none) (by kernel_rfl) rfl (fun w51 H52 K53 => ?_)
    clear H48
    replace K11 := K11.trans K53 (U := none_) (fun i h1 h2 => h2) (fun i h1 h2 => by have h2 : i = b45 := h2; exfalso; omega)
    replace H12 := H12.keep K53 (by intro h; change m1 = b45 at h; omega)
    replace H13 := H13.keep K53 (by intro h; change m2 = b45 at h; omega)
    replace H23 := H23.keep K53 (by intro h; change it4 = b45 at h; omega) (by intro h; change m1 = b45 at h; omega)
    replace H40 := H40.keep K53 (by intro h; change b27 = b45 at h; omega)
    replace H43 := H43.keep K53 (by intro h; change b33 = b45 at h; omega)
    clear K53
    refine og 1 [(1, (Value.map (some m2))), (5, (ptr b27)), (6, (ptr b33)), (7, (ptr b45)), (8, (Value.bool false)), (15, (ptr it4)), (17, (Value.bool true))] 9 ?_
    refine od ?_
    refine qs ?_
    refine qg ?_
    refine og 7 [(1, (Value.map (some m2))), (5, (ptr b27)), (6, (ptr b33)), (7, (ptr b45)), (8, (Value.bool false)), (15, (ptr it4)), (17, (Value.bool true)), (33, (Value.bool true))] 7 ?_
    refine od ?_
    refine q_then (o := .tmp 33) (by kernel_rfl) rfl ?_
    refine qs ?_
    refine qg ?_
    refine og 1 [(1, (Value.map (some m2))), (4, (Value.bool false)), (5, (ptr b27)), (6, (ptr b33)), (7, (ptr b45)), (8, (Value.bool false)), (15, (ptr it4)), (17, (Value.bool true)), (33, (Value.bool true))] 1 ?_
    refine od ?_
    refine q_ret (by kernel_rfl) ?_
    refine ⟨(Value.bool false), retv_tmp rfl rfl, ?_⟩
    exact ⟨false, rfl, ⟨fun h => (by cases h), fun h => absurd h fun h => (by have q := hsm h; rw [hg25] at q; cases q)⟩, K11⟩
   ·skip
    refine og 1 [(1, (Value.map (some m2))), (15, (ptr it4)), (17, (Value.bool true))] 2 ?_
    refine od ?_
    refine qs ?_
    refine q_then (o := .tmp 17) (by kernel_rfl) rfl ?_
    refine q_skip (by kernel_rfl) ?_
    refine q_block (id := 1) (by kernel_rfl) ?_
    refine qs ?_
    refine qg ?_
    refine Ops.go (v := (Value.tuple #[(agg [(Value.string (str x15.1)), (Value.string (str x15.2))]), (agg [(i64 a16.op.kind), (Value.string (str a16.op.frm)), (Value.string (str a16.op.to)), (i64 a16.op.amount), (Value.string (str a16.op.key)), (i64 a16.op.slot), (i64 a16.op.shard), (i64 a16.why)])])) (by kernel_rfl) (Runs.of_entry (by kernel_rfl) (IterM.entry (kf := kpair) (vf := keptv) (x := x15) (a := a16) H23)) (d := (some 18)) (by kernel_rfl) rfl ?_
    refine og 2 [(1, (Value.map (some m2))), (15, (ptr it4)), (17, (Value.bool true)), (19, (agg [(Value.string (str x15.1)), (Value.string (str x15.2))])), (20, (agg [(i64 a16.op.kind), (Value.string (str a16.op.frm)), (Value.string (str a16.op.to)), (i64 a16.op.amount), (Value.string (str a16.op.key)), (i64 a16.op.slot), (i64 a16.op.shard), (i64 a16.why)]))] 3 ?_
    refine Ops.new (o := rowL [(Value.string ByteArray.empty), (Value.string ByteArray.empty)] 60) (V := fun b => (ptr b)) (by kernel_rfl) (d := (some 5)) (by kernel_rfl) (fun b => rfl) (fun b54 w55 hb56 H57 K58 hs59 => ?_)
    have lb54m1 : m1 < b54 := by have := H12.lt; omega
    have lb54m2 : m2 < b54 := by have := H13.lt; omega
    have lb54it4 : it4 < b54 := by have := H23.lt; omega
    have nb54 : w.heap.size ≤ b54 := by have := K11.size; omega
    replace K11 := K11.trans K58 (U := none_) (fun i h1 h2 => h2) (fun i h1 h2 => by exact h2)
    replace H12 := H12.keep K58 (fun h => h)
    replace H13 := H13.keep K58 (fun h => h)
    replace H23 := H23.keep K58 (fun h => h) (fun h => h)
    clear K58 hs59
    refine Ops.new (o := rowL [(i64 0), (Value.string ByteArray.empty), (Value.string ByteArray.empty), (i64 0), (Value.string ByteArray.empty), (i64 0), (i64 0), (i64 0)] 62) (V := fun b => (ptr b)) (by kernel_rfl) (d := (some 6)) (by kernel_rfl) (fun b => rfl) (fun b60 w61 hb62 H63 K64 hs65 => ?_)
    have lb60m1 : m1 < b60 := by have := H12.lt; omega
    have lb60m2 : m2 < b60 := by have := H13.lt; omega
    have lb60it4 : it4 < b60 := by have := H23.lt; omega
    have lb60b54 : b54 < b60 := by have := H57.lt; omega
    have nb60 : w.heap.size ≤ b60 := by have := K11.size; omega
    replace K11 := K11.trans K64 (U := none_) (fun i h1 h2 => h2) (fun i h1 h2 => by exact h2)
    replace H12 := H12.keep K64 (fun h => h)
    replace H13 := H13.keep K64 (fun h => h)
    replace H23 := H23.keep K64 (fun h => h) (fun h => h)
    replace H57 := H57.keep K64 (fun h => h)
    clear K64 hs65
    refine Ops.put (t := 60) (b := b54) (off := 0) (v := (agg [(Value.string (str x15.1)), (Value.string (str x15.2))])) (ys := [(Value.string (str x15.1)), (Value.string (str x15.2))]) (by kernel_rfl) (by kernel_rfl) H57 (by kernel_rfl) (d := none) (by kernel_rfl) rfl (fun w66 H67 K68 => ?_)
    clear H57
    replace K11 := K11.trans K68 (U := none_) (fun i h1 h2 => h2) (fun i h1 h2 => by have h2 : i = b54 := h2; exfalso; omega)
    replace H12 := H12.keep K68 (by intro h; change m1 = b54 at h; omega)
    replace H13 := H13.keep K68 (by intro h; change m2 = b54 at h; omega)
    replace H23 := H23.keep K68 (by intro h; change it4 = b54 at h; omega) (by intro h; change m1 = b54 at h; omega)
    replace H63 := H63.keep K68 (by intro h; change b60 = b54 at h; omega)
    clear K68
    refine Ops.put (t := 62) (b := b60) (off := 0) (v := (agg [(i64 a16.op.kind), (Value.string (str a16.op.frm)), (Value.string (str a16.op.to)), (i64 a16.op.amount), (Value.string (str a16.op.key)), (i64 a16.op.slot), (i64 a16.op.shard), (i64 a16.why)])) (ys := [(i64 a16.op.kind), (Value.string (str a16.op.frm)), (Value.string (str a16.op.to)), (i64 a16.op.amount), (Value.string (str a16.op.key)), (i64 a16.op.slot), (i64 a16.op.shard), (i64 a16.why)]) (by kernel_rfl) (by kernel_rfl) H63 (by kernel_rfl) (d := none) (by kernel_rfl) rfl (fun w69 H70 K71 => ?_)
    clear H63
    replace K11 := K11.trans K71 (U := none_) (fun i h1 h2 => h2) (fun i h1 h2 => by have h2 : i = b60 := h2; exfalso; omega)
    replace H12 := H12.keep K71 (by intro h; change m1 = b60 at h; omega)
    replace H13 := H13.keep K71 (by intro h; change m2 = b60 at h; omega)
    replace H23 := H23.keep K71 (by intro h; change it4 = b60 at h; omega) (by intro h; change m1 = b60 at h; omega)
    replace H67 := H67.keep K71 (by intro h; change b54 = b60 at h; omega)
    clear K71
    refine od ?_
    refine qs ?_
    refine qg ?_
    refine og 1 [(1, (Value.map (some m2))), (5, (ptr b54)), (6, (ptr b60)), (15, (ptr it4)), (17, (Value.bool true)), (22, (Value.map (some m2)))] 1 ?_
    refine Ops.go (v := (agg [(Value.string (str x15.1)), (Value.string (str x15.2))])) (by kernel_rfl) (Runs.load (t := 60) (a := ⟨b54, 0, none⟩) (by kernel_rfl) (H67.loads (by kernel_rfl))) (d := (some 23)) (by kernel_rfl) rfl ?_
    refine Ops.go (v := (Value.tuple #[(agg [(i64 v26.op.kind), (Value.string (str v26.op.frm)), (Value.string (str v26.op.to)), (i64 v26.op.amount), (Value.string (str v26.op.key)), (i64 v26.op.slot), (i64 v26.op.shard), (i64 v26.why)]), (Value.bool true)])) (by kernel_rfl) (Runs.lookup_some (ok := true) (vf := keptv) (a := (⟨v26.op, v26.why⟩ : KeptM)) KT2 Tryz.underlying52 H13 hg25 (by kernel_rfl)) (d := (some 24)) (by kernel_rfl) rfl ?_
    refine og 3 [(1, (Value.map (some m2))), (5, (ptr b54)), (6, (ptr b60)), (15, (ptr it4)), (17, (Value.bool true)), (25, (agg [(i64 v26.op.kind), (Value.string (str v26.op.frm)), (Value.string (str v26.op.to)), (i64 v26.op.amount), (Value.string (str v26.op.key)), (i64 v26.op.slot), (i64 v26.op.shard), (i64 v26.why)])), (26, (Value.bool true))] 6 ?_
    refine Ops.new (o := rowL [(i64 0), (Value.string ByteArray.empty), (Value.string ByteArray.empty), (i64 0), (Value.string ByteArray.empty), (i64 0), (i64 0), (i64 0)] 62) (V := fun b => (ptr b)) (by kernel_rfl) (d := (some 7)) (by kernel_rfl) (fun b => rfl) (fun b72 w73 hb74 H75 K76 hs77 => ?_)
    have lb72m1 : m1 < b72 := by have := H12.lt; omega
    have lb72m2 : m2 < b72 := by have := H13.lt; omega
    have lb72it4 : it4 < b72 := by have := H23.lt; omega
    have lb72b54 : b54 < b72 := by have := H67.lt; omega
    have lb72b60 : b60 < b72 := by have := H70.lt; omega
    have nb72 : w.heap.size ≤ b72 := by have := K11.size; omega
    replace K11 := K11.trans K76 (U := none_) (fun i h1 h2 => h2) (fun i h1 h2 => by exact h2)
    replace H12 := H12.keep K76 (fun h => h)
    replace H13 := H13.keep K76 (fun h => h)
    replace H23 := H23.keep K76 (fun h => h) (fun h => h)
    replace H67 := H67.keep K76 (fun h => h)
    replace H70 := H70.keep K76 (fun h => h)
    clear K76 hs77
    refine Ops.put (t := 62) (b := b72) (off := 0) (v := (agg [(i64 v26.op.kind), (Value.string (str v26.op.frm)), (Value.string (str v26.op.to)), (i64 v26.op.amount), (Value.string (str v26.op.key)), (i64 v26.op.slot), (i64 v26.op.shard), (i64 v26.why)])) (ys := [(i64 v26.op.kind), (Value.string (str v26.op.frm)), (Value.string (str v26.op.to)), (i64 v26.op.amount), (Value.string (str v26.op.key)), (i64 v26.op.slot), (i64 v26.op.shard), (i64 v26.why)]) (by kernel_rfl) (by kernel_rfl) H75 (by kernel_rfl) (d := none) (by kernel_rfl) rfl (fun w78 H79 K80 => ?_)
    clear H75
    replace K11 := K11.trans K80 (U := none_) (fun i h1 h2 => h2) (fun i h1 h2 => by have h2 : i = b72 := h2; exfalso; omega)
    replace H12 := H12.keep K80 (by intro h; change m1 = b72 at h; omega)
    replace H13 := H13.keep K80 (by intro h; change m2 = b72 at h; omega)
    replace H23 := H23.keep K80 (by intro h; change it4 = b72 at h; omega) (by intro h; change m1 = b72 at h; omega)
    replace H67 := H67.keep K80 (by intro h; change b54 = b72 at h; omega)
    replace H70 := H70.keep K80 (by intro h; change b60 = b72 at h; omega)
    clear K80
    refine og 1 [(1, (Value.map (some m2))), (5, (ptr b54)), (6, (ptr b60)), (7, (ptr b72)), (8, (Value.bool true)), (15, (ptr it4)), (17, (Value.bool true))] 9 ?_
    refine od ?_
    refine qs ?_
    refine qg ?_
    refine og 3 [(1, (Value.map (some m2))), (5, (ptr b54)), (6, (ptr b60)), (7, (ptr b72)), (8, (Value.bool true)), (15, (ptr it4)), (17, (Value.bool true)), (29, (Value.bool false))] 3 ?_
    refine Ops.go (v := (agg [(i64 a16.op.kind), (Value.string (str a16.op.frm)), (Value.string (str a16.op.to)), (i64 a16.op.amount), (Value.string (str a16.op.key)), (i64 a16.op.slot), (i64 a16.op.shard), (i64 a16.why)])) (by kernel_rfl) (Runs.load (t := 62) (a := ⟨b60, 0, none⟩) (by kernel_rfl) (H70.loads (by kernel_rfl))) (d := (some 30)) (by kernel_rfl) rfl ?_
    refine Ops.go (v := (agg [(i64 v26.op.kind), (Value.string (str v26.op.frm)), (Value.string (str v26.op.to)), (i64 v26.op.amount), (Value.string (str v26.op.key)), (i64 v26.op.slot), (i64 v26.op.shard), (i64 v26.why)])) (by kernel_rfl) (Runs.load (t := 62) (a := ⟨b72, 0, none⟩) (by kernel_rfl) (H79.loads (by kernel_rfl))) (d := (some 31)) (by kernel_rfl) rfl ?_
    refine Ops.go (v := (Value.bool (!(aggB [(i64 a16.op.kind), (Value.string (str a16.op.frm)), (Value.string (str a16.op.to)), (i64 a16.op.amount), (Value.string (str a16.op.key)), (i64 a16.op.slot), (i64 a16.op.shard)] [(i64 v26.op.kind), (Value.string (str v26.op.frm)), (Value.string (str v26.op.to)), (i64 v26.op.amount), (Value.string (str v26.op.key)), (i64 v26.op.slot), (i64 v26.op.shard)] && cellB (i64 a16.why) (i64 v26.why))))) (by kernel_rfl) (Runs.nestneE (t := 62) (xs := [(i64 a16.op.kind), (Value.string (str a16.op.frm)), (Value.string (str a16.op.to)), (i64 a16.op.amount), (Value.string (str a16.op.key)), (i64 a16.op.slot), (i64 a16.op.shard)]) (ys := [(i64 v26.op.kind), (Value.string (str v26.op.frm)), (Value.string (str v26.op.to)), (i64 v26.op.amount), (Value.string (str v26.op.key)), (i64 v26.op.slot), (i64 v26.op.shard)]) (x := (i64 a16.why)) (y := (i64 v26.why)) keptNest rfl rfl (by kernel_rfl) (by kernel_rfl) (by kernel_rfl)) (d := (some 32)) (by kernel_rfl) rfl ?_
    refine og 1 [(1, (Value.map (some m2))), (5, (ptr b54)), (6, (ptr b60)), (7, (ptr b72)), (8, (Value.bool true)), (15, (ptr it4)), (17, (Value.bool true)), (33, (Value.bool (!(aggB [(i64 a16.op.kind), (Value.string (str a16.op.frm)), (Value.string (str a16.op.to)), (i64 a16.op.amount), (Value.string (str a16.op.key)), (i64 a16.op.slot), (i64 a16.op.shard)] [(i64 v26.op.kind), (Value.string (str v26.op.frm)), (Value.string (str v26.op.to)), (i64 v26.op.amount), (Value.string (str v26.op.key)), (i64 v26.op.slot), (i64 v26.op.shard)] && cellB (i64 a16.why) (i64 v26.why)))))] 7 ?_
    refine od ?_
    refine q_cond (o := .tmp 33) (b := (!(aggB [(i64 a16.op.kind), (Value.string (str a16.op.frm)), (Value.string (str a16.op.to)), (i64 a16.op.amount), (Value.string (str a16.op.key)), (i64 a16.op.slot), (i64 a16.op.shard)] [(i64 v26.op.kind), (Value.string (str v26.op.frm)), (Value.string (str v26.op.to)), (i64 v26.op.amount), (Value.string (str v26.op.key)), (i64 v26.op.slot), (i64 v26.op.shard)] && cellB (i64 a16.why) (i64 v26.why)))) (by kernel_rfl) rfl (fun h81 => ?_) (fun h81 => ?_)
    ·rw [h81]
     have p82 : (aggB [(i64 a16.op.kind), (Value.string (str a16.op.frm)), (Value.string (str a16.op.to)), (i64 a16.op.amount), (Value.string (str a16.op.key)), (i64 a16.op.slot), (i64 a16.op.shard)] [(i64 v26.op.kind), (Value.string (str v26.op.frm)), (Value.string (str v26.op.to)), (i64 v26.op.amount), (Value.string (str v26.op.key)), (i64 v26.op.slot), (i64 v26.op.shard)] && cellB (i64 a16.why) (i64 v26.why)) = false := (bnot_true h81)
     have hav : a16 ≠ v26 := fun h => by have hq := ((kept_beq a16 v26).2 h).symm.trans (bnot_true h81); cases hq
     refine qs ?_
     refine qg ?_
     refine og 1 [(1, (Value.map (some m2))), (4, (Value.bool false)), (5, (ptr b54)), (6, (ptr b60)), (7, (ptr b72)), (8, (Value.bool true)), (15, (ptr it4)), (17, (Value.bool true)), (33, (Value.bool true))] 1 ?_
     refine od ?_
     refine q_ret (by kernel_rfl) ?_
     refine ⟨(Value.bool false), retv_tmp rfl rfl, ?_⟩
     exact ⟨false, rfl, ⟨fun h => (by cases h), fun h => absurd h fun h => (by have q := hsm h; rw [hg25] at q; exact hav (Option.some.inj q).symm)⟩, K11⟩
    ·rw [h81]
     have p83 : (aggB [(i64 a16.op.kind), (Value.string (str a16.op.frm)), (Value.string (str a16.op.to)), (i64 a16.op.amount), (Value.string (str a16.op.key)), (i64 a16.op.slot), (i64 a16.op.shard)] [(i64 v26.op.kind), (Value.string (str v26.op.frm)), (Value.string (str v26.op.to)), (i64 v26.op.amount), (Value.string (str v26.op.key)), (i64 v26.op.slot), (i64 v26.op.shard)] && cellB (i64 a16.why) (i64 v26.why)) = true := (bnot_false h81)
     have hav := (kept_beq a16 v26).1 (bnot_false h81)
     refine q_keep (R := [(1, (Value.map (some m2))), (15, (ptr it4))]) (by kernel_rfl) ?_
     refine q_skip (by kernel_rfl) ?_
     exact ⟨(came ++ [(x15, a16)], p17 ++ q18, some (x15, a16)), ⟨rfl, (came_perm (by rw [← hs20]; exact hp)), (fun y hy => by rcases List.mem_append.1 hy with hy | hy; (exact hall y hy); (rw [List.mem_singleton.1 hy, hav]; exact hg25)), K11, H12, H13, H23⟩, (show (p17 ++ q18).length < rest.length from by rw [List.length_append]; omega)⟩

theorem Same_calls (w : World) (b mb kb : Nat) (m : List (List UInt8 × Int)) (S : List RowM) (K : List KeptM) (b2 mb2 kb2 : Nat) (m2 : List (List UInt8 × Int)) (S2 : List RowM) (K2 : List KeptM) (Hb : Has w b (rowL [.map (some mb), .map (some kb)] 54)) (Hm : HasMap w mb kstr ki64 m) (Hk : HasMap w kb kpair keptv (K.map KeptM.kv)) (hne : b ≠ mb ∧ b ≠ kb ∧ mb ≠ kb) (hB : LBook m S K) (Hb2 : Has w b2 (rowL [.map (some mb2), .map (some kb2)] 54)) (Hm2 : HasMap w mb2 kstr ki64 m2) (Hk2 : HasMap w kb2 kpair keptv (K2.map KeptM.kv)) (hne2 : b2 ≠ mb2 ∧ b2 ≠ kb2 ∧ mb2 ≠ kb2) (hB2 : LBook m2 S2 K2) : Calls Tryz.prog 16 ⟨[(ptr b), (ptr b2)]⟩ w (fun e w' => ∃ t, e = .returned (.bool t) ∧ (t = true ↔ (S = S2 ∧ K.Perm K2)) ∧ Keeps none_ w w') := by
 have Hbl := Hb.lt
 have Hml := Hm.lt
 have Hkl := Hk.lt
 have hL := hB.lmap
 have Hb2l := Hb2.lt
 have Hm2l := Hm2.lt
 have Hk2l := Hk2.lt
 have K0 : Keeps none_ w w := Keeps.refl w
 refine q_calls Tryz.func16 (by kernel_rfl) (by kernel_rfl) ?_
 refine qs ?_
 refine qg ?_
 refine og 1 [(0, (ptr b)), (1, (ptr b2)), (4, (Value.bool false))] 1 ?_
 refine od ?_
 refine qs ?_
 refine qs ?_
 refine qg ?_
 refine og 6 [(0, (ptr b)), (1, (ptr b2)), (4, (Value.bool false)), (10, (Value.bool false))] 6 ?_
 refine od ?_
 refine q_else (o := .tmp 10) (by kernel_rfl) rfl ?_
 refine q_skip (by kernel_rfl) ?_
 refine qs ?_
 refine q_draw (fun wz => Keeps none_ w wz) 21 (by kernel_rfl) (by kernel_rfl) (by kernel_rfl) (fun w1 K2 _ _ => ⟨K2, ?_⟩)
 replace K0 := K0.t0 K2
 replace Hb := Hb.keep K2 (fun h => h)
 replace Hm := Hm.keep K2 (fun h => h)
 replace Hk := Hk.keep K2 (fun h => h)
 replace Hb2 := Hb2.keep K2 (fun h => h)
 replace Hm2 := Hm2.keep K2 (fun h => h)
 replace Hk2 := Hk2.keep K2 (fun h => h)
 refine Dr.strong (S' := (fun wz => Keeps none_ w1 wz)) (Keeps.refl w1) (fun wz hx => K2.trans hx (fun i _ h => h) (fun _ _ h => h)) ?_
 clear K2
 refine Dr.takes (fuel' := 18) (is' := [2, 1, 0]) [0, 1, 2] [(0, (ptr b)), (1, (ptr b2)), (4, (Value.bool false)), (16, (ptr b))] (by kernel_rfl) rfl (by kernel_rfl) ?_
 refine Dr.take (i := 3) (v := (Value.map (some mb))) (by kernel_rfl) (by kernel_rfl) (fun wz hS => Runs.load (t := 51) (a := ⟨b, 0, none⟩) (by kernel_rfl) ((Hb.keep hS (fun h => h)).loads (by kernel_rfl))) (d := (some 17)) (by kernel_rfl) rfl ?_
 refine Dr.takes (fuel' := 14) (is' := [6, 5, 4, 3, 2, 1, 0]) [4, 5, 6] [(0, (ptr b)), (1, (ptr b2)), (4, (Value.bool false)), (17, (Value.map (some mb))), (20, (ptr b2))] (by kernel_rfl) rfl (by kernel_rfl) ?_
 refine Dr.take (i := 7) (v := (Value.map (some mb2))) (by kernel_rfl) (by kernel_rfl) (fun wz hS => Runs.load (t := 51) (a := ⟨b2, 0, none⟩) (by kernel_rfl) ((Hb2.keep hS (fun h => h)).loads (by kernel_rfl))) (d := (some 21)) (by kernel_rfl) rfl ?_
 refine Dr.call (i := 8) (by kernel_rfl) (by kernel_rfl) (d := (some 22)) (by kernel_rfl) (fun _ => EqualM_calls _ mb mb2 m m2 S S2 Hm Hm2 hB.lmap hB2.lmap) ?_
 rintro _ w6 ⟨t3, rfl, ht4, K5⟩
 replace K0 := K0.t0 K5
 replace Hb := Hb.keep K5 (fun h => h)
 replace Hm := Hm.keep K5 (fun h => h)
 replace Hk := Hk.keep K5 (fun h => h)
 replace Hb2 := Hb2.keep K5 (fun h => h)
 replace Hm2 := Hm2.keep K5 (fun h => h)
 replace Hk2 := Hk2.keep K5 (fun h => h)
 refine ⟨_, _, rfl, rfl, K5, ?_⟩
 refine Dr.strong (S' := (fun wz => Keeps none_ w6 wz)) (Keeps.refl w6) (fun wz hx => K5.trans hx (fun i _ h => h) (fun _ _ h => h)) ?_
 clear K5
 refine Dr.takes (fuel' := 11) (is' := [9, 8, 7, 6, 5, 4, 3, 2, 1, 0]) [9] [(0, (ptr b)), (1, (ptr b2)), (4, (Value.bool false)), (23, (Value.bool t3))] (by kernel_rfl) rfl (by kernel_rfl) ?_
 refine Dr.split t3 (fun h7 => ?_) (fun h7 => ?_)
 ·rw [h7]
  have p8 : t3 = true := h7
  refine Dr.takes (fuel' := 8) (is' := [12, 11, 10, 9, 8, 7, 6, 5, 4, 3, 2, 1, 0]) [10, 11, 12] [(1, (ptr b2)), (4, (Value.bool false)), (23, (Value.bool true)), (26, (Value.pointer (some ⟨b, 1, none⟩)))] (by kernel_rfl) rfl (by kernel_rfl) ?_
  refine Dr.take (i := 13) (v := (Value.map (some kb))) (by kernel_rfl) (by kernel_rfl) (fun wz hS => Runs.load (t := 52) (a := ⟨b, 1, none⟩) (by kernel_rfl) ((Hb.keep hS (fun h => h)).loads (by kernel_rfl))) (d := (some 27)) (by kernel_rfl) rfl ?_
  refine Dr.takes (fuel' := 4) (is' := [16, 15, 14, 13, 12, 11, 10, 9, 8, 7, 6, 5, 4, 3, 2, 1, 0]) [14, 15, 16] [(4, (Value.bool false)), (23, (Value.bool true)), (27, (Value.map (some kb))), (30, (Value.pointer (some ⟨b2, 1, none⟩)))] (by kernel_rfl) rfl (by kernel_rfl) ?_
  refine Dr.take (i := 17) (v := (Value.map (some kb2))) (by kernel_rfl) (by kernel_rfl) (fun wz hS => Runs.load (t := 52) (a := ⟨b2, 1, none⟩) (by kernel_rfl) ((Hb2.keep hS (fun h => h)).loads (by kernel_rfl))) (d := (some 31)) (by kernel_rfl) rfl ?_
  refine Dr.call (i := 18) (by kernel_rfl) (by kernel_rfl) (d := (some 32)) (by kernel_rfl) (fun _ => EqualK_calls _ kb kb2 K K2 Hk Hk2 hB.ledg.ids hB2.ledg.ids) ?_
  rintro _ w12 ⟨t9, rfl, ht10, K11⟩
  replace K0 := K0.t0 K11
  replace Hb := Hb.keep K11 (fun h => h)
  replace Hm := Hm.keep K11 (fun h => h)
  replace Hk := Hk.keep K11 (fun h => h)
  replace Hb2 := Hb2.keep K11 (fun h => h)
  replace Hm2 := Hm2.keep K11 (fun h => h)
  replace Hk2 := Hk2.keep K11 (fun h => h)
  refine ⟨_, _, rfl, rfl, K11, ?_⟩
  refine Dr.strong (S' := (fun wz => Keeps none_ w12 wz)) (Keeps.refl w12) (fun wz hx => K11.trans hx (fun i _ h => h) (fun _ _ h => h)) ?_
  clear K11
  refine Dr.takes (fuel' := 0) (is' := [20, 19, 18, 17, 16, 15, 14, 13, 12, 11, 10, 9, 8, 7, 6, 5, 4, 3, 2, 1, 0]) [19, 20] [(4, (Value.bool t9))] (by kernel_rfl) rfl (by kernel_rfl) ?_
  refine Dr.done (by kernel_rfl) ?_
  refine q_ret (by kernel_rfl) ?_
  refine ⟨(Value.bool t9), retv_tmp rfl rfl, ?_⟩
  exact ⟨_, rfl, ⟨fun h => ⟨ht4.1 h7, ht10.1 h⟩, fun h => ht10.2 h.2⟩, K0⟩
 ·rw [h7]
  have p13 : t3 = false := h7
  refine Dr.takes (fuel' := 0) (is' := [20, 19, 18, 17, 16, 15, 14, 13, 12, 11, 10, 9, 8, 7, 6, 5, 4, 3, 2, 1, 0]) [10, 11, 12, 13, 14, 15, 16, 17, 18, 19, 20] [(4, (Value.bool false))] (by kernel_rfl) rfl (by kernel_rfl) ?_
  refine Dr.done (by kernel_rfl) ?_
  refine q_ret (by kernel_rfl) ?_
  refine ⟨(Value.bool false), retv_tmp rfl rfl, ?_⟩
  exact ⟨false, rfl, ⟨fun h => (by cases h), fun h => absurd (ht4.2 h.1) (by rw [h7]; decide)⟩, K0⟩

theorem Same_nil2 (w : World) (b mb kb : Nat) (m : List (List UInt8 × Int)) (S : List RowM) (K : List KeptM) (Hb : Has w b (rowL [.map (some mb), .map (some kb)] 54)) (Hm : HasMap w mb kstr ki64 m) (Hk : HasMap w kb kpair keptv (K.map KeptM.kv)) (hne : b ≠ mb ∧ b ≠ kb ∧ mb ≠ kb) (hB : LBook m S K) : Calls Tryz.prog 16 ⟨[(ptr b), (Value.pointer none)]⟩ w (fun e w' => e = .returned (.bool false) ∧ Keeps none_ w w') := by
 have Hbl := Hb.lt
 have Hml := Hm.lt
 have Hkl := Hk.lt
 have hL := hB.lmap
 have K0 : Keeps none_ w w := Keeps.refl w
 refine q_calls Tryz.func16 (by kernel_rfl) (by kernel_rfl) ?_
 refine qs ?_
 refine qg ?_
 refine og 1 [(0, (ptr b)), (1, (Value.pointer none)), (4, (Value.bool false))] 1 ?_
 refine od ?_
 refine qs ?_
 refine qs ?_
 refine qg ?_
 refine og 6 [(0, (ptr b)), (1, (Value.pointer none)), (4, (Value.bool false)), (10, (Value.bool true))] 6 ?_
 refine od ?_
 refine q_then (o := .tmp 10) (by kernel_rfl) rfl ?_
 refine qs ?_
 refine qg ?_
 refine og 4 [(0, (ptr b)), (1, (Value.pointer none)), (4, (Value.bool false))] 4 ?_
 refine od ?_
 refine q_ret (by kernel_rfl) ?_
 refine ⟨(Value.bool false), retv_tmp rfl rfl, ?_⟩
 exact ⟨rfl, K0⟩
end Go.Proofs.YtnfeemhpoaflfaaGreatDoor
namespace Go.Proofs.YtnfeemhpoaflfaaGreatDoor
open Go.Q Go.RowKit

theorem Trim_calls (w : World) (s : List UInt8) (hs : s.length ≤ 9223372036854775807) : Calls Tryz.prog 61 ⟨[.string (str s), .string (str lettersB)]⟩ w (fun e w' => e = .returned (.string (str (Lib.trimS s lettersB))) ∧ Keeps none_ w w') :=
 (Go.Proofs.Any.strings_Trim_laid Go.Proofs.Tryz.trim61 (by kernel_rfl) (str s) (str lettersB) w hs (by decide) (Go.Proofs.ascii_of_all (by decide))).mono fun e w' ⟨he, hb⟩ => ⟨by rw [he]; rfl, Keeps.of_below hb⟩

theorem Name_calls (w : World) (n : List UInt8)  : Calls Tryz.prog 47 ⟨[(Value.string (str n))]⟩ w (fun e w' => e = .returned (.bool (nameOk n)) ∧ Keeps none_ w w') := by
 have K0 : Keeps none_ w w := Keeps.refl w
 refine q_calls Tryz.func47 (by kernel_rfl) (by kernel_rfl) ?_
 refine qs ?_
 refine qg ?_
 refine og 1 [(0, (Value.string (str n))), (2, (Value.bool false))] 1 ?_
 refine od ?_
 refine qs ?_
 refine qg ?_
 refine og 1 [(0, (Value.string (str n))), (2, (Value.bool false)), (3, (Value.string (str n)))] 1 ?_
 refine Ops.go (v := (Value.bool (!(n == ([] : List UInt8))))) (by kernel_rfl) (Runs.strne (t := 9) (by kernel_rfl)) (d := (some 4)) (by kernel_rfl) rfl ?_
 refine og 1 [(0, (Value.string (str n))), (2, (Value.bool false)), (5, (Value.bool (!(n == ([] : List UInt8)))))] 3 ?_
 refine Ops.split (!(n == ([] : List UInt8))) (fun h1 => ?_) (fun h1 => ?_)
 ·rw [h1]
  have p2 : (n == ([] : List UInt8)) = false := (bnot_true h1)
  refine og 5 [(0, (Value.string (str n))), (2, (Value.bool false)), (10, (Value.bool (decide (((n.length : Nat) : Int) ≤ 24))))] 8 ?_
  refine Ops.split (decide (((n.length : Nat) : Int) ≤ 24)) (fun h3 => ?_) (fun h3 => ?_)
  ·rw [h3]
   have p4 : ((n.length : Nat) : Int) ≤ 24 := of_decide_eq_true h3
   refine og 1 [(2, (Value.bool false)), (10, (Value.bool true)), (11, (Value.string (str n)))] 9 ?_
   refine Ops.call (by kernel_rfl) (d := (some 12)) (by kernel_rfl) (Trim_calls _ n (by omega)) ?_
   rintro _ w6 ⟨rfl, K5⟩
   refine ⟨_, _, rfl, rfl, ?_⟩
   replace K0 := K0.t0 K5
   clear K5
   refine Ops.go (v := (Value.bool ((Lib.trimS n lettersB) == ([] : List UInt8)))) (by kernel_rfl) (Runs.streq (t := 9) (by kernel_rfl)) (d := (some 13)) (by kernel_rfl) rfl ?_
   refine og 2 [(2, (Value.bool ((Lib.trimS n lettersB) == ([] : List UInt8))))] 13 ?_
   refine od ?_
   refine q_ret (by kernel_rfl) ?_
   refine ⟨(Value.bool ((Lib.trimS n lettersB) == ([] : List UInt8))), retv_tmp rfl rfl, ?_⟩
   have e : nameOk n = ((Lib.trimS n lettersB) == ([] : List UInt8)) := by unfold nameOk; rw [show decide (1 ≤ n.length ∧ n.length ≤ 24) = true from decide_eq_true ⟨by have := List.length_pos_iff.2 (show n ≠ [] by simp_all); omega, by omega⟩, Bool.true_and]; exact (trim_letters n).symm
   exact ⟨by rw [e], K0⟩
  ·rw [h3]
   have p7 : ¬ (((n.length : Nat) : Int) ≤ 24) := of_decide_eq_false h3
   refine og 5 [(2, (Value.bool false))] 13 ?_
   refine od ?_
   refine q_ret (by kernel_rfl) ?_
   refine ⟨(Value.bool false), retv_tmp rfl rfl, ?_⟩
   have e : nameOk n = false := by unfold nameOk; rw [Bool.and_eq_false_iff]; left; exact decide_eq_false (by intro h; first | omega | (subst_vars; simp at h) | (simp_all))
   exact ⟨by rw [e], K0⟩
 ·rw [h1]
  have p8 : (n == ([] : List UInt8)) = true := (bnot_false h1)
  refine og 10 [(2, (Value.bool false))] 13 ?_
  refine od ?_
  refine q_ret (by kernel_rfl) ?_
  refine ⟨(Value.bool false), retv_tmp rfl rfl, ?_⟩
  have e : nameOk n = false := by unfold nameOk; rw [Bool.and_eq_false_iff]; left; exact decide_eq_false (by intro h; first | omega | (subst_vars; simp at h) | (simp_all))
  exact ⟨by rw [e], K0⟩

theorem Keys_calls (w : World) (mb : Nat) : Calls Tryz.prog 49 ⟨[.map (some mb)]⟩ w (fun e w' => ∃ c, e = .returned (Value.func (Fn.func 64) ⟨[]⟩ ⟨[ptr c]⟩) ∧ Keeps none_ w w' ∧ Has w' c (rowL [.map (some mb)] 51) ∧ c = w.heap.size) :=
 (callsIn_wide.1 (AnyZ.keys_in Go.Proofs.Tryz.keys49 Fence.wide 5 trivial rfl (some mb) w)).mono fun e w' ⟨he, hw⟩ => ⟨_, he, by rw [hw]; exact Keeps.alloc _ _, by rw [hw]; exact Has.new _ _, rfl⟩

theorem Sorts (m : Nat) : AnyZ.SortsIn Tryz.prog Go.Proofs.Tryz.sorted48_ren Fence.wide m :=
 ⟨fun blk off cap ss W hH hblk hsz => callsIn_wide.2 (AnyM.slices_Sort_string Go.Proofs.Tryz.sort63 blk off cap ss W hH hblk hsz), fun p cap W => callsIn_wide.2 (AnyM.slices_Sort_string_none Go.Proofs.Tryz.sort63 p cap W)⟩

theorem Sorted_calls (w : World) (c mb : Nat) (m : List (List UInt8 × Int)) (S : List RowM) (Hc : Has w c (rowL [.map (some mb)] 51)) (Hm : HasMap w mb kstr ki64 m) (hL : LMap m S) (hl : S.length ≤ 1000) : Calls Tryz.prog 48 ⟨[Value.func (Fn.func 64) ⟨[]⟩ ⟨[ptr c]⟩]⟩ w (fun e w' => ∃ v, e = .returned v ∧ Keeps none_ w w' ∧ OwnT w' w.heap.size 9 1 kcell v (S.map (·.name))) := by
 obtain ⟨D, hown, hk, hs⟩ := Hm.owns (k := 9) Tryz.underlying9 (fun x hx => by have := hL.names_ok x hx; unfold maxLen; omega) (by have := hL.len; unfold maxLen; omega)
 have hml : m.length ≤ 1000 := by have := hL.len; omega
 have hseq := AnyZ.keys_gives (ρ := Go.Proofs.Tryz.keys49_ren) { Go.Proofs.Tryz.keys49 with } Fence.wide 2 trivial rfl (by omega) c mb m.length D w Hc.lt (by simpa using Hc.cell 0) hown
 have cS := AnyZ.sorted_in Go.Proofs.Tryz.sorted48 Fence.wide 5 trivial trivial trivial trivial rfl (by omega) (Sorts _) (enters_of Tryz.func63 (by kernel_rfl) rfl) 64 #[ptr c] trivial (enters_of Tryz.func64 (by kernel_rfl) rfl) _ (Maps.size D) (by rw [hs]; unfold maxLen; omega) (by rw [hs]; omega) w hseq
 refine (callsIn_wide.1 cS).mono ?_
 rintro e w' ⟨v, ss, rfl, hp, hrow, hnil, hb⟩
 have hp2 : ss.Perm (S.map (·.name)) := (hp.trans hk).trans (by rw [← wpair_map_fst]; exact (hL.perm.map (·.1)).symm)
 rw [sorted_namesW hL.led.sorted hp2] at hrow
 have hl : ss.length = (S.map (·.name)).length := hp2.length_eq
 refine ⟨v, rfl, Keeps.of_below hb, ?_⟩
 unfold OwnT
 rw [← hl, kcells]
 exact hrow
theorem tyR : ElemTy Tryz.prog 28 47 2 24 := elemTy (by kernel_rfl)

theorem rows_calls (w : World) (b mb kb : Nat) (m : List (List UInt8 × Int)) (S : List RowM) (Hb : Has w b (rowL [.map (some mb), .map (some kb)] 54)) (Hm : HasMap w mb kstr ki64 m) (hne : b ≠ mb) (hL : LMap m S) (hSl : S.length ≤ 1000) : Calls Tryz.prog 23 ⟨[(ptr b)]⟩ w (fun e w' => ∃ A c, e = .returned (.slice A S.length c) ∧ Keeps none_ w w' ∧ OwnR w' w.heap.size 47 (.slice A S.length c) S) := by
 have Hbl := Hb.lt
 have Hml := Hm.lt
 have hlen : (S.map (·.name)).length = S.length := List.length_map ..
 have K0 : Keeps none_ w w := Keeps.refl w
 refine q_calls Tryz.func23 (by kernel_rfl) (by kernel_rfl) ?_
 refine qs ?_
 refine qg ?_
 refine og 1 [(0, (ptr b)), (2, (Value.slice none 0 0))] 1 ?_
 refine od ?_
 refine qs ?_
 refine qg ?_
 refine og 1 [(0, (ptr b)), (2, (Value.slice none 0 0)), (3, (Value.slice none 0 0))] 1 ?_
 refine od ?_
 refine qs ?_
 refine qs ?_
 refine qg ?_
 refine og 3 [(0, (ptr b)), (2, (Value.slice none 0 0)), (3, (Value.slice none 0 0)), (8, (ptr b))] 3 ?_
 refine Ops.go (v := (Value.map (some mb))) (by kernel_rfl) (Runs.load (t := 51) (a := ⟨b, 0, none⟩) (by kernel_rfl) (Hb.loads (by kernel_rfl))) (d := (some 9)) (by kernel_rfl) rfl ?_
 refine Ops.call (by kernel_rfl) (d := (some 10)) (by kernel_rfl) (Keys_calls _ mb) ?_
 rintro _ w2 ⟨kc1, rfl, K3, H4, hc5⟩
 have lkc1b : b < kc1 := by have := Hb.lt; omega
 have lkc1mb : mb < kc1 := by have := Hm.lt; omega
 have nkc1 : w.heap.size ≤ kc1 := by have := K0.size; omega
 refine ⟨_, _, rfl, rfl, ?_⟩
 replace K0 := K0.t0 K3
 replace Hb := Hb.keep K3 (fun h => h)
 replace Hm := Hm.keep K3 (fun h => h)
 clear K3
 refine Ops.call (by kernel_rfl) (d := (some 11)) (by kernel_rfl) (Sorted_calls _ kc1 mb m S H4 Hm hL (by omega)) ?_
 rintro _ w9 ⟨v6, rfl, K10, hO11⟩
 obtain ⟨A7, c8, rfl⟩ := RdT.form kcell_len (by decide) (OwnT.rd hO11)
 have ob13 : ∀ i, ((Value.slice A7 ((S.map (·.name)).length) c8)).ownBlock = some i → i ≠ b := fun i hi => by have := (World.ownsRow.lt hO11 i hi).1; have := Hb.lt; omega
 have ob14 : ∀ i, ((Value.slice A7 ((S.map (·.name)).length) c8)).ownBlock = some i → i ≠ mb := fun i hi => by have := (World.ownsRow.lt hO11 i hi).1; have := Hm.lt; omega
 have ob15 : ∀ i, ((Value.slice A7 ((S.map (·.name)).length) c8)).ownBlock = some i → i ≠ kc1 := fun i hi => by have := (World.ownsRow.lt hO11 i hi).1; have := H4.lt; omega
 have O12 := own_base hO11 K0.size
 clear hO11
 refine ⟨_, _, rfl, rfl, ?_⟩
 replace K0 := K0.t0 K10
 replace Hb := Hb.keep K10 (fun h => h)
 replace Hm := Hm.keep K10 (fun h => h)
 replace H4 := H4.keep K10 (fun h => h)
 clear K10
 refine og 2 [(0, (ptr b)), (2, (Value.slice none 0 0)), (3, (Value.slice none 0 0)), (11, (Value.slice A7 ((S.map (·.name)).length) c8)), (12, (i64 (((S.map (·.name)).length : Nat) : Int))), (13, (i64 0))] 8 ?_
 refine od ?_
 refine q_block (id := 0) (by kernel_rfl) ?_
 refine q_keep (R := [(0, (ptr b)), (2, (Value.slice none 0 0)), (3, (Value.slice none 0 0)), (11, (Value.slice A7 ((S.map (·.name)).length) c8)), (12, (i64 (((S.map (·.name)).length : Nat) : Int))), (13, (i64 0))]) (by kernel_rfl) ?_
 refine q_loop (fun (gs : (Option Addr) × Nat × Nat × (List RowM)) L (wx : World) => match gs with | (VA, vc, i, l) => L = [(0, (ptr b)), (2, (Value.slice none 0 0)), (3, (Value.slice VA l.length vc)), (11, (Value.slice A7 ((S.map (·.name)).length) c8)), (12, (i64 (((S.map (·.name)).length : Nat) : Int))), (13, (i64 ((i : Nat) : Int)))] ∧ OwnT wx w.heap.size 9 1 kcell (Value.slice A7 ((S.map (·.name)).length) c8) (S.map (·.name)) ∧ (∀ i, ((Value.slice A7 ((S.map (·.name)).length) c8)).ownBlock = some i → i ≠ b) ∧ (∀ i, ((Value.slice A7 ((S.map (·.name)).length) c8)).ownBlock = some i → i ≠ mb) ∧ (∀ i, ((Value.slice A7 ((S.map (·.name)).length) c8)).ownBlock = some i → i ≠ kc1) ∧ (∀ i, ((Value.slice VA l.length vc)).ownBlock = some i → ((Value.slice A7 ((S.map (·.name)).length) c8)).ownBlock = some i → False) ∧ OwnR wx w.heap.size 47 (Value.slice VA l.length vc) l ∧ (∀ i, ((Value.slice VA l.length vc)).ownBlock = some i → i ≠ b) ∧ (∀ i, ((Value.slice VA l.length vc)).ownBlock = some i → i ≠ mb) ∧ (∀ i, ((Value.slice VA l.length vc)).ownBlock = some i → i ≠ kc1) ∧ (∀ i, ((Value.slice A7 ((S.map (·.name)).length) c8)).ownBlock = some i → ((Value.slice VA l.length vc)).ownBlock = some i → False) ∧ i ≤ S.length ∧ l = S.take i ∧ Keeps none_ w wx ∧ Has wx b (rowL [(Value.map (some mb)), (Value.map (some kb))] 54) ∧ HasMap wx mb kstr ki64 m ∧ Has wx kc1 (rowL [(Value.map (some mb))] 51)) (fun (gs : (Option Addr) × Nat × Nat × (List RowM)) => match gs with | (VA, vc, i, l) => S.length - i) (none, 0, 0, []) (by kernel_rfl) ⟨rfl, O12, ob13, ob14, ob15, (fun _ h => by cases h), (OwnT.nil _ _ _ _ _), (fun i hi => by cases hi), (fun i hi => by cases hi), (fun i hi => by cases hi), (fun _ _ h => by cases h), Nat.zero_le _, rfl, K0, Hb, Hm, H4⟩ ?_
 clear Hb Hm H4 O12 K0
 rintro ⟨VA, vc, i, l⟩ _ w16 ⟨rfl, hON, obNb, obNmb, obNkc1, ooNV, hOV, obVb, obVmb, obVkc1, ooVN, hi, hE, K17, H18, H19, H20⟩
 have hrl := congrArg List.length hE
 rw [List.length_take] at hrl
 refine qs ?_
 refine qg ?_
 refine og 1 [(0, (ptr b)), (2, (Value.slice none 0 0)), (3, (Value.slice VA l.length vc)), (11, (Value.slice A7 ((S.map (·.name)).length) c8)), (12, (i64 (((S.map (·.name)).length : Nat) : Int))), (13, (i64 ((i : Nat) : Int))), (14, (Value.bool (decide (((i : Nat) : Int) < (((S.map (·.name)).length : Nat) : Int)))))] 1 ?_
 refine od ?_
 refine qs ?_
 refine q_cond (o := .tmp 14) (b := (decide (((i : Nat) : Int) < (((S.map (·.name)).length : Nat) : Int)))) (by kernel_rfl) rfl (fun h21 => ?_) (fun h21 => ?_)
 ·rw [h21]
  have p22 : ((i : Nat) : Int) < (((S.map (·.name)).length : Nat) : Int) := of_decide_eq_true h21
  obtain ⟨a, ha⟩ : ∃ y, S[i]? = some y := ⟨_, List.getElem?_eq_getElem (by omega)⟩
  have hgm := hL.at_ ha
  have hao := hL.led.ok a (List.mem_of_getElem? ha)
  have hal := (nameOk_len hao.name).2
  have hna := nameW_at ha
  have hrt := takeR ha
  obtain ⟨rb23, ro24, hA25⟩ := Rd.addr (OwnT.rd hON) (by omega)
  refine q_skip (by kernel_rfl) ?_
  refine qs ?_
  refine q_block (id := 1) (by kernel_rfl) ?_
  refine qs ?_
  refine qg ?_
  refine Ops.go (by kernel_rfl) (Runs.ixSliceE (k := IntKind.i64) (t := 96) (len := ((S.map (·.name)).length)) (cap := c8) (s := 1) (off' := ro24 + i) (i := ((i : Nat) : Int)) hA25 (by kernel_rfl) (by kernel_rfl) (by omega) (by omega) (by omega)) (d := (some 15)) (by kernel_rfl) rfl ?_
  refine Ops.go (v := (Value.string (str a.name))) (by kernel_rfl) (Runs.load (t := 9) (a := ⟨rb23, ro24 + i, none⟩) (by kernel_rfl) (RdT.ld1 (f := kcell) (x := a.name) kcell_len (OwnT.rd hON) (by kernel_rfl) hA25 hna rfl)) (d := (some 16)) (by kernel_rfl) rfl ?_
  refine og 1 [(0, (ptr b)), (2, (Value.slice none 0 0)), (3, (Value.slice VA l.length vc)), (5, (Value.string (str a.name))), (11, (Value.slice A7 ((S.map (·.name)).length) c8)), (12, (i64 (((S.map (·.name)).length : Nat) : Int))), (13, (i64 ((i : Nat) : Int))), (14, (Value.bool true))] 3 ?_
  refine od ?_
  refine qg ?_
  refine og 5 [(0, (ptr b)), (2, (Value.slice none 0 0)), (3, (Value.slice VA l.length vc)), (5, (Value.string (str a.name))), (11, (Value.slice A7 ((S.map (·.name)).length) c8)), (12, (i64 (((S.map (·.name)).length : Nat) : Int))), (13, (i64 ((i : Nat) : Int))), (14, (Value.bool true)), (17, (Value.slice VA l.length vc)), (18, (Value.string (str a.name))), (21, (ptr b))] 5 ?_
  refine Ops.go (v := (Value.map (some mb))) (by kernel_rfl) (Runs.load (t := 51) (a := ⟨b, 0, none⟩) (by kernel_rfl) (H18.loads (by kernel_rfl))) (d := (some 22)) (by kernel_rfl) rfl ?_
  refine og 1 [(0, (ptr b)), (2, (Value.slice none 0 0)), (3, (Value.slice VA l.length vc)), (5, (Value.string (str a.name))), (11, (Value.slice A7 ((S.map (·.name)).length) c8)), (12, (i64 (((S.map (·.name)).length : Nat) : Int))), (13, (i64 ((i : Nat) : Int))), (14, (Value.bool true)), (17, (Value.slice VA l.length vc)), (18, (Value.string (str a.name))), (22, (Value.map (some mb))), (23, (Value.string (str a.name)))] 7 ?_
  refine Ops.go (v := (i64 a.amount)) (by kernel_rfl) (Runs.lookup_some (ok := false) (vf := ki64) (a := a.amount) KT Tryz.underlying51 H19 hgm (by kernel_rfl)) (d := (some 24)) (by kernel_rfl) rfl ?_
  refine og 1 [(0, (ptr b)), (2, (Value.slice none 0 0)), (3, (Value.slice VA l.length vc)), (5, (Value.string (str a.name))), (11, (Value.slice A7 ((S.map (·.name)).length) c8)), (12, (i64 (((S.map (·.name)).length : Nat) : Int))), (13, (i64 ((i : Nat) : Int))), (14, (Value.bool true)), (17, (Value.slice VA l.length vc)), (25, (agg [(Value.string (str a.name)), (i64 a.amount)]))] 9 ?_
  refine Ops.new (o := rowL [(Value.string (str a.name)), (i64 a.amount)] 47) (V := fun b => (Value.slice (some ⟨b, 0, none⟩) 1 1)) (by kernel_rfl) (d := (some 26)) (by kernel_rfl) (fun b => rfl) (fun b26 w27 hb28 H29 K30 hs31 => ?_)
  have lb26b : b < b26 := by have := H18.lt; omega
  have lb26mb : mb < b26 := by have := H19.lt; omega
  have lb26kc1 : kc1 < b26 := by have := H20.lt; omega
  have nb26 : w.heap.size ≤ b26 := by have := K17.size; omega
  have ob32 : ∀ i, ((Value.slice A7 ((S.map (·.name)).length) c8)).ownBlock = some i → i < b26 := fun i hi => by have := (World.ownsRow.lt hON i hi).2; omega
  have ob33 : ∀ i, ((Value.slice VA l.length vc)).ownBlock = some i → i < b26 := fun i hi => by have := (World.ownsRow.lt hOV i hi).2; omega
  replace K17 := K17.trans K30 (U := none_) (fun i h1 h2 => h2) (fun i h1 h2 => by exact h2)
  replace H18 := H18.keep K30 (fun h => h)
  replace H19 := H19.keep K30 (fun h => h)
  replace H20 := H20.keep K30 (fun h => h)
  replace hON := own_keep0 hON K30
  replace hOV := own_keep0 hOV K30
  clear K30 hs31
  obtain ⟨v34, w35, hr36, hO37, hK38, hg39⟩ := OwnT.app (ty := 28) RowM.two RowM.one tyR hOV (show RdT _ 2 RowM.cells _ [(⟨a.name, a.amount⟩ : RowM)] from Rd.lit H29 (n := 1) rfl (by decide)) (by simp only [List.length_cons, List.length_nil]; omega) (by simp only [List.length_cons, List.length_nil]; omega) K17.size
  obtain ⟨A41, c42, rfl⟩ := RdT.form RowM.two (by decide) (OwnT.rd hO37)
  have ob43 : ∀ i, ((Value.slice A41 ((l ++ [(⟨a.name, a.amount⟩ : RowM)]).length) c42)).ownBlock = some i → i ≠ b := fun i hi => by rcases hg39 i hi with h | h; (have := obVb i h; omega); (have := H18.lt; omega)
  have ob44 : ∀ i, ((Value.slice A41 ((l ++ [(⟨a.name, a.amount⟩ : RowM)]).length) c42)).ownBlock = some i → i ≠ mb := fun i hi => by rcases hg39 i hi with h | h; (have := obVmb i h; omega); (have := H19.lt; omega)
  have ob45 : ∀ i, ((Value.slice A41 ((l ++ [(⟨a.name, a.amount⟩ : RowM)]).length) c42)).ownBlock = some i → i ≠ kc1 := fun i hi => by rcases hg39 i hi with h | h; (have := obVkc1 i h; omega); (have := H20.lt; omega)
  have ob46 : ∀ i, ((Value.slice A41 ((l ++ [(⟨a.name, a.amount⟩ : RowM)]).length) c42)).ownBlock = some i → i ≠ b26 := fun i hi => by rcases hg39 i hi with h | h; (have := ob33 i h; omega); (have := H29.lt; omega)
  have oo47 : ∀ i, ((Value.slice A7 ((S.map (·.name)).length) c8)).ownBlock = some i → ((Value.slice A41 ((l ++ [(⟨a.name, a.amount⟩ : RowM)]).length) c42)).ownBlock = some i → False := fun i hi hs => by rcases hg39 i hs with h | h; (exact ooVN i hi h); (have := (World.ownsRow.lt hON i hi).2; omega)
  have oo48 : ∀ i, ((Value.slice A41 ((l ++ [(⟨a.name, a.amount⟩ : RowM)]).length) c42)).ownBlock = some i → ((Value.slice A7 ((S.map (·.name)).length) c8)).ownBlock = some i → False := fun i hi hs => oo47 i hs hi
  have K40 := hK38
  refine Ops.go (v := (Value.slice A41 ((l ++ [(⟨a.name, a.amount⟩ : RowM)]).length) c42)) (by kernel_rfl) (Runs.append (ts := #[28, 28]) (ty := 28) (vs := [(Value.slice VA l.length vc), (Value.slice (some ⟨b26, 0, none⟩) 1 1)]) (by kernel_rfl) hr36) (d := (some 27)) (by kernel_rfl) rfl ?_
  replace K17 := K17.trans K40 (U := none_) (fun i h1 h2 => h2) (fun i h1 h2 => by have h2 : ((Value.slice VA l.length vc)).ownBlock = some i := h2; exfalso; have := (World.ownsRow.lt hOV i h2).1; omega)
  replace H18 := H18.keep K40 (by intro h; change ((Value.slice VA l.length vc)).ownBlock = some b at h; have := obVb b h; omega)
  replace H19 := H19.keep K40 (by intro h; change ((Value.slice VA l.length vc)).ownBlock = some mb at h; have := obVmb mb h; omega)
  replace H20 := H20.keep K40 (by intro h; change ((Value.slice VA l.length vc)).ownBlock = some kc1 at h; have := obVkc1 kc1 h; omega)
  replace H29 := H29.keep K40 (by intro h; change ((Value.slice VA l.length vc)).ownBlock = some b26 at h; have := ob33 b26 h; omega)
  replace hON := own_keep hON K40 (fun i hi hs => by have hs : ((Value.slice VA l.length vc)).ownBlock = some i := hs; exact ooVN i hi hs)
  clear hOV
  clear K40 hr36 hK38 hg39
  refine og 1 [(0, (ptr b)), (2, (Value.slice none 0 0)), (3, (Value.slice A41 ((l ++ [(⟨a.name, a.amount⟩ : RowM)]).length) c42)), (5, (Value.string (str a.name))), (11, (Value.slice A7 ((S.map (·.name)).length) c8)), (12, (i64 (((S.map (·.name)).length : Nat) : Int))), (13, (i64 ((i : Nat) : Int))), (14, (Value.bool true))] 12 ?_
  refine od ?_
  refine qg ?_
  refine og 1 [(0, (ptr b)), (2, (Value.slice none 0 0)), (3, (Value.slice A41 ((l ++ [(⟨a.name, a.amount⟩ : RowM)]).length) c42)), (5, (Value.string (str a.name))), (11, (Value.slice A7 ((S.map (·.name)).length) c8)), (12, (i64 (((S.map (·.name)).length : Nat) : Int))), (13, (i64 ((i : Nat) : Int))), (14, (Value.bool true)), (28, (i64 (IntKind.i64.wrap (((i : Nat) : Int) + 1))))] 1 ?_
  have e49 : IntKind.i64.wrap (((i : Nat) : Int) + 1) = ((i + 1 : Nat) : Int) := by rw [wrap_i64 (by omega) (by omega)]; omega
  rw [e49]
  clear e49
  refine og 1 [(0, (ptr b)), (2, (Value.slice none 0 0)), (3, (Value.slice A41 ((l ++ [(⟨a.name, a.amount⟩ : RowM)]).length) c42)), (5, (Value.string (str a.name))), (11, (Value.slice A7 ((S.map (·.name)).length) c8)), (12, (i64 (((S.map (·.name)).length : Nat) : Int))), (13, (i64 ((i + 1 : Nat) : Int))), (14, (Value.bool true))] 2 ?_
  refine Ops.keep (R := [(0, (ptr b)), (2, (Value.slice none 0 0)), (3, (Value.slice A41 ((l ++ [(⟨a.name, a.amount⟩ : RowM)]).length) c42)), (11, (Value.slice A7 ((S.map (·.name)).length) c8)), (12, (i64 (((S.map (·.name)).length : Nat) : Int))), (13, (i64 ((i + 1 : Nat) : Int)))]) (by kernel_rfl) ?_
  refine od ?_
  exact ⟨(A41, c42, i + 1, l ++ [(⟨a.name, a.amount⟩ : RowM)]), ⟨rfl, hON, obNb, obNmb, obNkc1, oo48, hO37, ob43, ob44, ob45, oo47, (by omega), (by rw [hrt, ← hE]; first | done | rfl), K17, H18, H19, H20⟩, (show S.length - (i + 1) < S.length - i from by omega)⟩
 ·rw [h21]
  have p50 : ¬ (((i : Nat) : Int) < (((S.map (·.name)).length : Nat) : Int)) := of_decide_eq_false h21
  refine q_exit (id := 0) (by kernel_rfl) ?_
  refine qs ?_
  refine qg ?_
  refine og 2 [(2, (Value.slice VA l.length vc))] 2 ?_
  refine od ?_
  refine q_ret (by kernel_rfl) ?_
  refine ⟨(Value.slice VA l.length vc), retv_tmp rfl rfl, ?_⟩
  have e : l = S := by rw [hE, List.take_of_length_le (by omega)]
  rw [e] at hOV
  rw [e]
  exact ⟨_, _, rfl, K17, hOV⟩
end Go.Proofs.YtnfeemhpoaflfaaGreatDoor
namespace Go.Proofs.YtnfeemhpoaflfaaGreatDoor
open Go.Q Go.RowKit

theorem SameRows_calls (w : World) (A : Option Addr) (c : Nat) (la : List RowM) (B : Option Addr) (d : Nat) (lb : List RowM) (hA : RdR w (.slice A la.length c) la) (hB : RdR w (.slice B lb.length d) lb) : Calls Tryz.prog 34 ⟨[(Value.slice A la.length c), (Value.slice B lb.length d)]⟩ w (fun e w' => ∃ t, e = .returned (.bool t) ∧ (t = true ↔ la = lb) ∧ Keeps none_ w w') := by
 have hla := (RdT.len RowM.two (by decide) hA).2
 unfold maxLen at hla
 have K0 : Keeps none_ w w := Keeps.refl w
 refine q_calls Tryz.func34 (by kernel_rfl) (by kernel_rfl) ?_
 refine qs ?_
 refine qg ?_
 refine og 1 [(0, (Value.slice A la.length c)), (1, (Value.slice B lb.length d)), (4, (Value.bool false))] 1 ?_
 refine od ?_
 refine qs ?_
 refine qs ?_
 refine qg ?_
 refine og 5 [(0, (Value.slice A la.length c)), (1, (Value.slice B lb.length d)), (4, (Value.bool false)), (10, (Value.bool (((la.length : Nat) : Int) != ((lb.length : Nat) : Int))))] 5 ?_
 refine od ?_
 refine q_cond (o := .tmp 10) (b := (((la.length : Nat) : Int) != ((lb.length : Nat) : Int))) (by kernel_rfl) rfl (fun h1 => ?_) (fun h1 => ?_)
 ·rw [h1]
  have p2 : ¬ (((la.length : Nat) : Int) = ((lb.length : Nat) : Int)) := of_bne_t h1
  refine qs ?_
  refine qg ?_
  refine og 1 [(0, (Value.slice A la.length c)), (1, (Value.slice B lb.length d)), (4, (Value.bool false))] 1 ?_
  refine od ?_
  refine q_ret (by kernel_rfl) ?_
  refine ⟨(Value.bool false), retv_tmp rfl rfl, ?_⟩
  exact ⟨false, rfl, ⟨fun h => (by cases h), fun h => by exfalso; have := congrArg List.length h; omega⟩, K0⟩
 ·rw [h1]
  have p3 : ((la.length : Nat) : Int) = ((lb.length : Nat) : Int) := of_bne_f h1
  refine q_skip (by kernel_rfl) ?_
  refine qs ?_
  refine qs ?_
  refine qg ?_
  refine og 1 [(0, (Value.slice A la.length c)), (1, (Value.slice B lb.length d)), (4, (Value.bool false)), (5, (i64 0))] 1 ?_
  refine od ?_
  refine q_block (id := 0) (by kernel_rfl) ?_
  refine q_keep (R := [(0, (Value.slice A la.length c)), (1, (Value.slice B lb.length d)), (5, (i64 0))]) (by kernel_rfl) ?_
  refine q_loop (fun (i : Nat) L (wx : World) => L = [(0, (Value.slice A la.length c)), (1, (Value.slice B lb.length d)), (5, (i64 ((i : Nat) : Int)))] ∧ la.take i = lb.take i ∧ i ≤ la.length ∧ Keeps none_ w wx) (fun (i : Nat) => la.length - i) 0 (by kernel_rfl) ⟨rfl, rfl, Nat.zero_le _, K0⟩ ?_
  clear K0
  rintro i _ w4 ⟨rfl, hE, hi, K5⟩
  refine qs ?_
  refine qs ?_
  refine qg ?_
  refine og 4 [(0, (Value.slice A la.length c)), (1, (Value.slice B lb.length d)), (5, (i64 ((i : Nat) : Int))), (14, (Value.bool (decide (((i : Nat) : Int) < ((la.length : Nat) : Int)))))] 4 ?_
  refine od ?_
  refine q_cond (o := .tmp 14) (b := (decide (((i : Nat) : Int) < ((la.length : Nat) : Int)))) (by kernel_rfl) rfl (fun h6 => ?_) (fun h6 => ?_)
  ·rw [h6]
   have p7 : ((i : Nat) : Int) < ((la.length : Nat) : Int) := of_decide_eq_true h6
   obtain ⟨rb8, ro9, x, hA10, hx11⟩ := RdT.open (Rd.keep0 (by omega) hA K5) rfl (k := i) (by omega)
   obtain ⟨rb12, ro13, y, hA14, hx15⟩ := RdT.open (Rd.keep0 (by omega) hB K5) rfl (k := i) (by omega)
   have hX := hx11
   have hY := hx15
   refine q_skip (by kernel_rfl) ?_
   refine qs ?_
   refine q_block (id := 1) (by kernel_rfl) ?_
   refine qs ?_
   refine q_draw (fun wz => Keeps none_ w4 wz) 9 (by kernel_rfl) (by kernel_rfl) (by kernel_rfl) (fun w16 K17 _ _ => ⟨K17, ?_⟩)
   replace K5 := K5.trans K17 (U := none_) (fun i h1 h2 => h2) (fun i h1 h2 => by exact h2)
   refine Dr.strong (S' := (fun wz => Keeps none_ w16 wz)) (Keeps.refl w16) (fun wz hx => K17.trans hx (fun i _ h => h) (fun _ _ h => h)) ?_
   clear K17
   refine Dr.takes (fuel' := 7) (is' := [1, 0]) [0, 1] [(0, (Value.slice A la.length c)), (1, (Value.slice B lb.length d)), (5, (i64 ((i : Nat) : Int))), (14, (Value.bool true)), (17, (Value.slice A la.length c)), (18, (i64 ((i : Nat) : Int)))] (by kernel_rfl) rfl (by kernel_rfl) ?_
   refine Dr.take (i := 2) (v := (Value.pointer (some ⟨rb8, ro9 + i * 2, none⟩))) (by kernel_rfl) (by kernel_rfl) (fun wz hS => Runs.ixSliceE (k := IntKind.i64) (t := 28) (len := la.length) (cap := c) (s := 2) (off' := ro9 + i * 2) (i := ((i : Nat) : Int)) hA10 (by kernel_rfl) (by kernel_rfl) (by omega) (by omega) (by omega)) (d := (some 19)) (by kernel_rfl) rfl ?_
   refine Dr.take (i := 3) (v := (agg [(Value.string (str x.name)), (i64 x.amount)])) (by kernel_rfl) (by kernel_rfl) (fun wz hS => Runs.load (t := 47) (a := ⟨rb8, ro9 + i * 2, none⟩) (by kernel_rfl) (RdT.ld (f := RowM.cells) (x := x) RowM.two (Rd.keep0 (by omega) hA (K5.trans hS (fun _ _ h => h) (fun _ _ h => h))) (by kernel_rfl) (by kernel_rfl) hA10 hx11)) (d := (some 20)) (by kernel_rfl) rfl ?_
   refine Dr.takes (fuel' := 3) (is' := [5, 4, 3, 2, 1, 0]) [4, 5] [(0, (Value.slice A la.length c)), (1, (Value.slice B lb.length d)), (5, (i64 ((i : Nat) : Int))), (14, (Value.bool true)), (20, (agg [(Value.string (str x.name)), (i64 x.amount)])), (21, (Value.slice B lb.length d)), (22, (i64 ((i : Nat) : Int)))] (by kernel_rfl) rfl (by kernel_rfl) ?_
   refine Dr.take (i := 6) (v := (Value.pointer (some ⟨rb12, ro13 + i * 2, none⟩))) (by kernel_rfl) (by kernel_rfl) (fun wz hS => Runs.ixSliceE (k := IntKind.i64) (t := 28) (len := lb.length) (cap := d) (s := 2) (off' := ro13 + i * 2) (i := ((i : Nat) : Int)) hA14 (by kernel_rfl) (by kernel_rfl) (by omega) (by omega) (by omega)) (d := (some 23)) (by kernel_rfl) rfl ?_
   refine Dr.take (i := 7) (v := (agg [(Value.string (str y.name)), (i64 y.amount)])) (by kernel_rfl) (by kernel_rfl) (fun wz hS => Runs.load (t := 47) (a := ⟨rb12, ro13 + i * 2, none⟩) (by kernel_rfl) (RdT.ld (f := RowM.cells) (x := y) RowM.two (Rd.keep0 (by omega) hB (K5.trans hS (fun _ _ h => h) (fun _ _ h => h))) (by kernel_rfl) (by kernel_rfl) hA14 hx15)) (d := (some 24)) (by kernel_rfl) rfl ?_
   refine Dr.take (i := 8) (v := (Value.bool (!(aggB [(Value.string (str x.name)), (i64 x.amount)] [(Value.string (str y.name)), (i64 y.amount)])))) (by kernel_rfl) (by kernel_rfl) (fun wz hS => Runs.aggne (t := 47) (by kernel_rfl) (by kernel_rfl)) (d := (some 25)) (by kernel_rfl) rfl ?_
   refine Dr.done (by kernel_rfl) ?_
   refine q_cond (o := .tmp 25) (b := (!(aggB [(Value.string (str x.name)), (i64 x.amount)] [(Value.string (str y.name)), (i64 y.amount)]))) (by kernel_rfl) rfl (fun h18 => ?_) (fun h18 => ?_)
   ·rw [h18]
    have p19 : (aggB [(Value.string (str x.name)), (i64 x.amount)] [(Value.string (str y.name)), (i64 y.amount)]) = false := (bnot_true h18)
    have hxy := aggB_row_f (bnot_true h18)
    refine qs ?_
    refine qg ?_
    refine og 1 [(0, (Value.slice A la.length c)), (1, (Value.slice B lb.length d)), (4, (Value.bool false)), (5, (i64 ((i : Nat) : Int))), (14, (Value.bool true)), (25, (Value.bool true))] 1 ?_
    refine od ?_
    refine q_ret (by kernel_rfl) ?_
    refine ⟨(Value.bool false), retv_tmp rfl rfl, ?_⟩
    exact ⟨false, rfl, ⟨fun h => (by cases h), fun h => absurd h (getElem_ne hX hY hxy)⟩, K5⟩
   ·rw [h18]
    have p20 : (aggB [(Value.string (str x.name)), (i64 x.amount)] [(Value.string (str y.name)), (i64 y.amount)]) = true := (bnot_false h18)
    have hxy := (aggB_row x y).1 (bnot_false h18)
    refine q_skip (by kernel_rfl) ?_
    refine qg ?_
    refine og 2 [(0, (Value.slice A la.length c)), (1, (Value.slice B lb.length d)), (5, (i64 ((i : Nat) : Int))), (14, (Value.bool true)), (16, (i64 (IntKind.i64.wrap (((i : Nat) : Int) + 1)))), (25, (Value.bool false))] 2 ?_
    have e21 : IntKind.i64.wrap (((i : Nat) : Int) + 1) = ((i + 1 : Nat) : Int) := by rw [wrap_i64 (by omega) (by omega)]; omega
    rw [e21]
    clear e21
    refine og 1 [(0, (Value.slice A la.length c)), (1, (Value.slice B lb.length d)), (5, (i64 ((i + 1 : Nat) : Int))), (14, (Value.bool true)), (25, (Value.bool false))] 3 ?_
    refine Ops.keep (R := [(0, (Value.slice A la.length c)), (1, (Value.slice B lb.length d)), (5, (i64 ((i + 1 : Nat) : Int)))]) (by kernel_rfl) ?_
    refine od ?_
    exact ⟨i + 1, ⟨rfl, (take_eq_succ hE hX (hxy ▸ hY)), (by omega), K5⟩, (show la.length - (i + 1) < la.length - i from by omega)⟩
  ·rw [h6]
   have p22 : ¬ (((i : Nat) : Int) < ((la.length : Nat) : Int)) := of_decide_eq_false h6
   refine q_exit (id := 0) (by kernel_rfl) ?_
   refine qs ?_
   refine qg ?_
   refine og 1 [(4, (Value.bool true))] 1 ?_
   refine od ?_
   refine q_ret (by kernel_rfl) ?_
   refine ⟨(Value.bool true), retv_tmp rfl rfl, ?_⟩
   exact ⟨true, rfl, ⟨fun _ => take_all_eq hE (by omega) (by omega), fun _ => rfl⟩, K5⟩

theorem SameReply_calls (w : World) (A : Option Addr) (c : Nat) (x : ReplyM) (B : Option Addr) (d : Nat) (y : ReplyM) (hA : RdR w (.slice A x.rows.length c) x.rows) (hB : RdR w (.slice B y.rows.length d) y.rows) : Calls Tryz.prog 13 ⟨[(agg [(i64 x.why), (i64 x.amount), (Value.slice A x.rows.length c)]), (agg [(i64 y.why), (i64 y.amount), (Value.slice B y.rows.length d)])]⟩ w (fun e w' => ∃ t, e = .returned (.bool t) ∧ (t = true ↔ x = y) ∧ Keeps none_ w w') := by
 have K0 : Keeps none_ w w := Keeps.refl w
 refine q_calls Tryz.func13 (by kernel_rfl) (by kernel_rfl) ?_
 refine qs ?_
 refine qg ?_
 refine Ops.new (o := rowL [(i64 x.why), (i64 x.amount), (Value.slice A x.rows.length c)] 30) (V := fun b => (ptr b)) (by kernel_rfl) (d := (some 2)) (by kernel_rfl) (fun b => rfl) (fun b1 w2 hb3 H4 K5 hs6 => ?_)
 have nb1 : w.heap.size ≤ b1 := by have := K0.size; omega
 replace K0 := K0.t0 K5
 clear K5 hs6
 refine Ops.new (o := rowL [(i64 y.why), (i64 y.amount), (Value.slice B y.rows.length d)] 30) (V := fun b => (ptr b)) (by kernel_rfl) (d := (some 3)) (by kernel_rfl) (fun b => rfl) (fun b7 w8 hb9 H10 K11 hs12 => ?_)
 have lb7 : b1 < b7 := by have := H4.lt; omega
 have nb7 : w.heap.size ≤ b7 := by have := K0.size; omega
 replace K0 := K0.t0 K11
 replace H4 := H4.keep K11 (fun h => h)
 clear K11 hs12
 refine og 1 [(2, (ptr b1)), (3, (ptr b7)), (4, (Value.bool false))] 3 ?_
 refine od ?_
 refine qs ?_
 refine qg ?_
 refine og 1 [(2, (ptr b1)), (3, (ptr b7)), (4, (Value.bool false)), (5, (ptr b1))] 1 ?_
 refine Ops.go (v := (i64 x.why)) (by kernel_rfl) (Runs.load (t := 27) (a := ⟨b1, 0, none⟩) (by kernel_rfl) (H4.loads (by kernel_rfl))) (d := (some 6)) (by kernel_rfl) rfl ?_
 refine og 1 [(2, (ptr b1)), (3, (ptr b7)), (4, (Value.bool false)), (6, (i64 x.why)), (7, (ptr b7))] 3 ?_
 refine Ops.go (v := (i64 y.why)) (by kernel_rfl) (Runs.load (t := 27) (a := ⟨b7, 0, none⟩) (by kernel_rfl) (H10.loads (by kernel_rfl))) (d := (some 8)) (by kernel_rfl) rfl ?_
 refine og 2 [(2, (ptr b1)), (3, (ptr b7)), (4, (Value.bool false)), (10, (Value.bool (x.why == y.why)))] 6 ?_
 refine Ops.split (x.why == y.why) (fun h13 => ?_) (fun h13 => ?_)
 ·rw [h13]
  have p14 : x.why = y.why := of_beq_t h13
  refine og 1 [(2, (ptr b1)), (3, (ptr b7)), (4, (Value.bool false)), (10, (Value.bool true)), (11, (Value.pointer (some ⟨b1, 1, none⟩)))] 7 ?_
  refine Ops.go (v := (i64 x.amount)) (by kernel_rfl) (Runs.load (t := 2) (a := ⟨b1, 1, none⟩) (by kernel_rfl) (H4.loads (by kernel_rfl))) (d := (some 12)) (by kernel_rfl) rfl ?_
  refine og 1 [(2, (ptr b1)), (3, (ptr b7)), (4, (Value.bool false)), (10, (Value.bool true)), (12, (i64 x.amount)), (13, (Value.pointer (some ⟨b7, 1, none⟩)))] 9 ?_
  refine Ops.go (v := (i64 y.amount)) (by kernel_rfl) (Runs.load (t := 2) (a := ⟨b7, 1, none⟩) (by kernel_rfl) (H10.loads (by kernel_rfl))) (d := (some 14)) (by kernel_rfl) rfl ?_
  refine og 3 [(2, (ptr b1)), (3, (ptr b7)), (4, (Value.bool false)), (17, (Value.bool (x.amount == y.amount)))] 13 ?_
  refine Ops.split (x.amount == y.amount) (fun h15 => ?_) (fun h15 => ?_)
  ·rw [h15]
   have p16 : x.amount = y.amount := of_beq_t h15
   refine og 1 [(3, (ptr b7)), (4, (Value.bool false)), (17, (Value.bool true)), (18, (Value.pointer (some ⟨b1, 2, none⟩)))] 14 ?_
   refine Ops.go (v := (Value.slice A x.rows.length c)) (by kernel_rfl) (Runs.load (t := 28) (a := ⟨b1, 2, none⟩) (by kernel_rfl) (H4.loads (by kernel_rfl))) (d := (some 19)) (by kernel_rfl) rfl ?_
   refine og 1 [(4, (Value.bool false)), (17, (Value.bool true)), (19, (Value.slice A x.rows.length c)), (20, (Value.pointer (some ⟨b7, 2, none⟩)))] 16 ?_
   refine Ops.go (v := (Value.slice B y.rows.length d)) (by kernel_rfl) (Runs.load (t := 28) (a := ⟨b7, 2, none⟩) (by kernel_rfl) (H10.loads (by kernel_rfl))) (d := (some 21)) (by kernel_rfl) rfl ?_
   refine Ops.call (by kernel_rfl) (d := (some 22)) (by kernel_rfl) (SameRows_calls _ A c x.rows B d y.rows (Rd.keep0 (by omega) hA K0) (Rd.keep0 (by omega) hB K0)) ?_
   rintro _ w20 ⟨t17, rfl, ht18, K19⟩
   refine ⟨_, _, rfl, rfl, ?_⟩
   replace K0 := K0.t0 K19
   replace H4 := H4.keep K19 (fun h => h)
   replace H10 := H10.keep K19 (fun h => h)
   clear K19
   refine og 2 [(4, (Value.bool t17))] 20 ?_
   refine od ?_
   refine q_ret (by kernel_rfl) ?_
   refine ⟨(Value.bool t17), retv_tmp rfl rfl, ?_⟩
   exact ⟨_, rfl, ⟨fun h => by have := ht18.1 h; cases x; cases y; simp only at *; simp only [ReplyM.mk.injEq]; exact ⟨by omega, by omega, this⟩, fun h => ht18.2 (by rw [h])⟩, K0⟩
  ·rw [h15]
   have p21 : ¬ (x.amount = y.amount) := of_beq_f h15
   refine og 7 [(4, (Value.bool false))] 20 ?_
   refine od ?_
   refine q_ret (by kernel_rfl) ?_
   refine ⟨(Value.bool false), retv_tmp rfl rfl, ?_⟩
   exact ⟨false, rfl, ⟨fun h => (by cases h), fun h => by subst h; exfalso; omega⟩, K0⟩
 ·rw [h13]
  have p22 : ¬ (x.why = y.why) := of_beq_f h13
  refine og 14 [(4, (Value.bool false))] 20 ?_
  refine od ?_
  refine q_ret (by kernel_rfl) ?_
  refine ⟨(Value.bool false), retv_tmp rfl rfl, ?_⟩
  exact ⟨false, rfl, ⟨fun h => (by cases h), fun h => by subst h; exfalso; omega⟩, K0⟩
end Go.Proofs.YtnfeemhpoaflfaaGreatDoor
namespace Go.Proofs.YtnfeemhpoaflfaaGreatDoor
open Go.Q Go.RowKit

theorem RName_calls (w : World) (n : List UInt8)  : Calls Tryz.prog 59 ⟨[(Value.string (str n))]⟩ w (fun e w' => e = .returned (.bool (nameOk n)) ∧ Keeps none_ w w') := by
 have K0 : Keeps none_ w w := Keeps.refl w
 refine q_calls Tryz.func59 (by kernel_rfl) (by kernel_rfl) ?_
 refine qs ?_
 refine qg ?_
 refine og 1 [(0, (Value.string (str n))), (2, (Value.bool false))] 1 ?_
 refine od ?_
 refine qs ?_
 refine qs ?_
 refine qg ?_
 refine og 4 [(0, (Value.string (str n))), (2, (Value.bool false)), (8, (Value.bool (decide (((n.length : Nat) : Int) < 1))))] 4 ?_
 refine Ops.split (decide (((n.length : Nat) : Int) < 1)) (fun h1 => ?_) (fun h1 => ?_)
 ·rw [h1]
  have p2 : ((n.length : Nat) : Int) < 1 := of_decide_eq_true h1
  refine og 4 [(0, (Value.string (str n))), (2, (Value.bool false)), (12, (Value.bool true))] 8 ?_
  refine od ?_
  refine q_then (o := .tmp 12) (by kernel_rfl) rfl ?_
  refine qs ?_
  refine qg ?_
  refine og 1 [(0, (Value.string (str n))), (2, (Value.bool false))] 1 ?_
  refine od ?_
  refine q_ret (by kernel_rfl) ?_
  refine ⟨(Value.bool false), retv_tmp rfl rfl, ?_⟩
  have e : nameOk n = false := by exact name_short (by omega)
  exact ⟨by rw [e], K0⟩
 ·rw [h1]
  have p3 : ¬ (((n.length : Nat) : Int) < 1) := of_decide_eq_false h1
  refine og 4 [(0, (Value.string (str n))), (2, (Value.bool false)), (12, (Value.bool (decide (((n.length : Nat) : Int) > 24))))] 8 ?_
  refine od ?_
  refine q_cond (o := .tmp 12) (b := (decide (((n.length : Nat) : Int) > 24))) (by kernel_rfl) rfl (fun h4 => ?_) (fun h4 => ?_)
  ·rw [h4]
   have p5 : ((n.length : Nat) : Int) > 24 := of_decide_eq_true h4
   refine qs ?_
   refine qg ?_
   refine og 1 [(0, (Value.string (str n))), (2, (Value.bool false))] 1 ?_
   refine od ?_
   refine q_ret (by kernel_rfl) ?_
   refine ⟨(Value.bool false), retv_tmp rfl rfl, ?_⟩
   have e : nameOk n = false := by exact name_short (by omega)
   exact ⟨by rw [e], K0⟩
  ·rw [h4]
   have p6 : ¬ (((n.length : Nat) : Int) > 24) := of_decide_eq_false h4
   refine q_skip (by kernel_rfl) ?_
   refine qs ?_
   refine qs ?_
   refine qg ?_
   refine og 1 [(0, (Value.string (str n))), (2, (Value.bool false)), (3, (i64 0))] 1 ?_
   refine od ?_
   refine q_block (id := 0) (by kernel_rfl) ?_
   refine q_keep (R := [(0, (Value.string (str n))), (3, (i64 0))]) (by kernel_rfl) ?_
   refine q_loop (fun (i : Nat) L (wx : World) => L = [(0, (Value.string (str n))), (3, (i64 ((i : Nat) : Int)))] ∧ (n.drop i).all letterB = n.all letterB ∧ i ≤ n.length ∧ Keeps none_ w wx) (fun (i : Nat) => n.length - i) 0 (by kernel_rfl) ⟨rfl, rfl, Nat.zero_le _, K0⟩ ?_
   clear K0
   rintro i _ w7 ⟨rfl, hE, hi, K8⟩
   refine qs ?_
   refine qs ?_
   refine qg ?_
   refine og 4 [(0, (Value.string (str n))), (3, (i64 ((i : Nat) : Int))), (16, (Value.bool (decide (((i : Nat) : Int) < ((n.length : Nat) : Int)))))] 4 ?_
   refine od ?_
   refine q_cond (o := .tmp 16) (b := (decide (((i : Nat) : Int) < ((n.length : Nat) : Int)))) (by kernel_rfl) rfl (fun h9 => ?_) (fun h9 => ?_)
   ·rw [h9]
    have p10 : ((i : Nat) : Int) < ((n.length : Nat) : Int) := of_decide_eq_true h9
    obtain ⟨x, hx⟩ : ∃ y, n[i]? = some y := ⟨_, List.getElem?_eq_getElem (by omega)⟩
    have had := all_drop hx
    refine q_skip (by kernel_rfl) ?_
    refine qs ?_
    refine q_block (id := 1) (by kernel_rfl) ?_
    refine qs ?_
    refine qg ?_
    refine og 2 [(0, (Value.string (str n))), (3, (i64 ((i : Nat) : Int))), (16, (Value.bool true)), (19, (Value.string (str n))), (20, (i64 ((i : Nat) : Int)))] 2 ?_
    refine Ops.go (v := (Value.int IntKind.u8 ((x.toNat : Nat) : Int))) (by kernel_rfl) (Runs.of_index (by kernel_rfl) (run_index_str Tryz.underlying9 hx .i64)) (d := (some 21)) (by kernel_rfl) rfl ?_
    refine og 1 [(0, (Value.string (str n))), (3, (i64 ((i : Nat) : Int))), (4, (Value.int IntKind.u8 ((x.toNat : Nat) : Int))), (16, (Value.bool true))] 4 ?_
    refine od ?_
    refine qs ?_
    refine qg ?_
    refine og 3 [(0, (Value.string (str n))), (3, (i64 ((i : Nat) : Int))), (4, (Value.int IntKind.u8 ((x.toNat : Nat) : Int))), (16, (Value.bool true)), (24, (Value.bool (decide (((x.toNat : Nat) : Int) ≥ 97))))] 3 ?_
    refine Ops.split (decide (((x.toNat : Nat) : Int) ≥ 97)) (fun h11 => ?_) (fun h11 => ?_)
    ·rw [h11]
     have p12 : ((x.toNat : Nat) : Int) ≥ 97 := of_decide_eq_true h11
     refine og 4 [(0, (Value.string (str n))), (3, (i64 ((i : Nat) : Int))), (4, (Value.int IntKind.u8 ((x.toNat : Nat) : Int))), (16, (Value.bool true)), (28, (Value.bool (decide (((x.toNat : Nat) : Int) ≤ 122))))] 7 ?_
     refine Ops.split (decide (((x.toNat : Nat) : Int) ≤ 122)) (fun h13 => ?_) (fun h13 => ?_)
     ·rw [h13]
      have p14 : ((x.toNat : Nat) : Int) ≤ 122 := of_decide_eq_true h13
      refine og 12 [(0, (Value.string (str n))), (3, (i64 ((i : Nat) : Int))), (4, (Value.int IntKind.u8 ((x.toNat : Nat) : Int))), (16, (Value.bool true)), (40, (Value.bool false))] 19 ?_
      refine od ?_
      refine q_else (o := .tmp 40) (by kernel_rfl) rfl ?_
      refine q_skip (by kernel_rfl) ?_
      refine qg ?_
      refine og 2 [(0, (Value.string (str n))), (3, (i64 ((i : Nat) : Int))), (4, (Value.int IntKind.u8 ((x.toNat : Nat) : Int))), (16, (Value.bool true)), (18, (i64 (IntKind.i64.wrap (((i : Nat) : Int) + 1)))), (40, (Value.bool false))] 2 ?_
      have e15 : IntKind.i64.wrap (((i : Nat) : Int) + 1) = ((i + 1 : Nat) : Int) := by rw [wrap_i64 (by omega) (by omega)]; omega
      rw [e15]
      clear e15
      refine og 1 [(0, (Value.string (str n))), (3, (i64 ((i + 1 : Nat) : Int))), (4, (Value.int IntKind.u8 ((x.toNat : Nat) : Int))), (16, (Value.bool true)), (40, (Value.bool false))] 3 ?_
      refine Ops.keep (R := [(0, (Value.string (str n))), (3, (i64 ((i + 1 : Nat) : Int)))]) (by kernel_rfl) ?_
      refine od ?_
      exact ⟨i + 1, ⟨rfl, (by rw [← hE, had, letterB_t (by omega), Bool.true_and]), (by omega), K8⟩, (show n.length - (i + 1) < n.length - i from by omega)⟩
     ·rw [h13]
      have p16 : ¬ (((x.toNat : Nat) : Int) ≤ 122) := of_decide_eq_false h13
      refine og 3 [(0, (Value.string (str n))), (3, (i64 ((i : Nat) : Int))), (4, (Value.int IntKind.u8 ((x.toNat : Nat) : Int))), (16, (Value.bool true)), (28, (Value.bool false)), (31, (Value.bool (decide (((x.toNat : Nat) : Int) ≥ 48))))] 10 ?_
      refine Ops.split (decide (((x.toNat : Nat) : Int) ≥ 48)) (fun h17 => ?_) (fun h17 => ?_)
      ·rw [h17]
       have p18 : ((x.toNat : Nat) : Int) ≥ 48 := of_decide_eq_true h17
       refine og 5 [(0, (Value.string (str n))), (3, (i64 ((i : Nat) : Int))), (4, (Value.int IntKind.u8 ((x.toNat : Nat) : Int))), (16, (Value.bool true)), (36, (Value.bool (decide (((x.toNat : Nat) : Int) ≤ 57))))] 15 ?_
       refine Ops.split (decide (((x.toNat : Nat) : Int) ≤ 57)) (fun h19 => ?_) (fun h19 => ?_)
       ·rw [h19]
        have p20 : ((x.toNat : Nat) : Int) ≤ 57 := of_decide_eq_true h19
        refine og 4 [(0, (Value.string (str n))), (3, (i64 ((i : Nat) : Int))), (4, (Value.int IntKind.u8 ((x.toNat : Nat) : Int))), (16, (Value.bool true)), (40, (Value.bool false))] 19 ?_
        refine od ?_
        refine q_else (o := .tmp 40) (by kernel_rfl) rfl ?_
        refine q_skip (by kernel_rfl) ?_
        refine qg ?_
        refine og 2 [(0, (Value.string (str n))), (3, (i64 ((i : Nat) : Int))), (4, (Value.int IntKind.u8 ((x.toNat : Nat) : Int))), (16, (Value.bool true)), (18, (i64 (IntKind.i64.wrap (((i : Nat) : Int) + 1)))), (40, (Value.bool false))] 2 ?_
        have e21 : IntKind.i64.wrap (((i : Nat) : Int) + 1) = ((i + 1 : Nat) : Int) := by rw [wrap_i64 (by omega) (by omega)]; omega
        rw [e21]
        clear e21
        refine og 1 [(0, (Value.string (str n))), (3, (i64 ((i + 1 : Nat) : Int))), (4, (Value.int IntKind.u8 ((x.toNat : Nat) : Int))), (16, (Value.bool true)), (40, (Value.bool false))] 3 ?_
        refine Ops.keep (R := [(0, (Value.string (str n))), (3, (i64 ((i + 1 : Nat) : Int)))]) (by kernel_rfl) ?_
        refine od ?_
        exact ⟨i + 1, ⟨rfl, (by rw [← hE, had, letterB_t (by omega), Bool.true_and]), (by omega), K8⟩, (show n.length - (i + 1) < n.length - i from by omega)⟩
       ·rw [h19]
        have p22 : ¬ (((x.toNat : Nat) : Int) ≤ 57) := of_decide_eq_false h19
        refine og 4 [(0, (Value.string (str n))), (3, (i64 ((i : Nat) : Int))), (4, (Value.int IntKind.u8 ((x.toNat : Nat) : Int))), (16, (Value.bool true)), (40, (Value.bool (!(((x.toNat : Nat) : Int) == 95))))] 19 ?_
        refine od ?_
        refine q_cond (o := .tmp 40) (b := (!(((x.toNat : Nat) : Int) == 95))) (by kernel_rfl) rfl (fun h23 => ?_) (fun h23 => ?_)
        ·rw [h23]
         have p24 : ¬ (((x.toNat : Nat) : Int) = 95) := of_beq_f (bnot_true h23)
         refine qs ?_
         refine qg ?_
         refine og 1 [(0, (Value.string (str n))), (2, (Value.bool false)), (3, (i64 ((i : Nat) : Int))), (4, (Value.int IntKind.u8 ((x.toNat : Nat) : Int))), (16, (Value.bool true)), (40, (Value.bool true))] 1 ?_
         refine od ?_
         refine q_ret (by kernel_rfl) ?_
         refine ⟨(Value.bool false), retv_tmp rfl rfl, ?_⟩
         have e : nameOk n = false := by rw [name_all (by omega), ← hE, had, letterB_f (by omega), Bool.false_and]
         exact ⟨by rw [e], K8⟩
        ·rw [h23]
         have p25 : ((x.toNat : Nat) : Int) = 95 := of_beq_t (bnot_false h23)
         refine q_skip (by kernel_rfl) ?_
         refine qg ?_
         refine og 2 [(0, (Value.string (str n))), (3, (i64 ((i : Nat) : Int))), (4, (Value.int IntKind.u8 ((x.toNat : Nat) : Int))), (16, (Value.bool true)), (18, (i64 (IntKind.i64.wrap (((i : Nat) : Int) + 1)))), (40, (Value.bool false))] 2 ?_
         have e26 : IntKind.i64.wrap (((i : Nat) : Int) + 1) = ((i + 1 : Nat) : Int) := by rw [wrap_i64 (by omega) (by omega)]; omega
         rw [e26]
         clear e26
         refine og 1 [(0, (Value.string (str n))), (3, (i64 ((i + 1 : Nat) : Int))), (4, (Value.int IntKind.u8 ((x.toNat : Nat) : Int))), (16, (Value.bool true)), (40, (Value.bool false))] 3 ?_
         refine Ops.keep (R := [(0, (Value.string (str n))), (3, (i64 ((i + 1 : Nat) : Int)))]) (by kernel_rfl) ?_
         refine od ?_
         exact ⟨i + 1, ⟨rfl, (by rw [← hE, had, letterB_t (by omega), Bool.true_and]), (by omega), K8⟩, (show n.length - (i + 1) < n.length - i from by omega)⟩
      ·rw [h17]
       have p27 : ¬ (((x.toNat : Nat) : Int) ≥ 48) := of_decide_eq_false h17
       refine og 9 [(0, (Value.string (str n))), (3, (i64 ((i : Nat) : Int))), (4, (Value.int IntKind.u8 ((x.toNat : Nat) : Int))), (16, (Value.bool true)), (40, (Value.bool (!(((x.toNat : Nat) : Int) == 95))))] 19 ?_
       refine od ?_
       refine q_cond (o := .tmp 40) (b := (!(((x.toNat : Nat) : Int) == 95))) (by kernel_rfl) rfl (fun h28 => ?_) (fun h28 => ?_)
       ·rw [h28]
        have p29 : ¬ (((x.toNat : Nat) : Int) = 95) := of_beq_f (bnot_true h28)
        refine qs ?_
        refine qg ?_
        refine og 1 [(0, (Value.string (str n))), (2, (Value.bool false)), (3, (i64 ((i : Nat) : Int))), (4, (Value.int IntKind.u8 ((x.toNat : Nat) : Int))), (16, (Value.bool true)), (40, (Value.bool true))] 1 ?_
        refine od ?_
        refine q_ret (by kernel_rfl) ?_
        refine ⟨(Value.bool false), retv_tmp rfl rfl, ?_⟩
        have e : nameOk n = false := by rw [name_all (by omega), ← hE, had, letterB_f (by omega), Bool.false_and]
        exact ⟨by rw [e], K8⟩
       ·rw [h28]
        have p30 : ((x.toNat : Nat) : Int) = 95 := of_beq_t (bnot_false h28)
        refine q_skip (by kernel_rfl) ?_
        refine qg ?_
        refine og 2 [(0, (Value.string (str n))), (3, (i64 ((i : Nat) : Int))), (4, (Value.int IntKind.u8 ((x.toNat : Nat) : Int))), (16, (Value.bool true)), (18, (i64 (IntKind.i64.wrap (((i : Nat) : Int) + 1)))), (40, (Value.bool false))] 2 ?_
        have e31 : IntKind.i64.wrap (((i : Nat) : Int) + 1) = ((i + 1 : Nat) : Int) := by rw [wrap_i64 (by omega) (by omega)]; omega
        rw [e31]
        clear e31
        refine og 1 [(0, (Value.string (str n))), (3, (i64 ((i + 1 : Nat) : Int))), (4, (Value.int IntKind.u8 ((x.toNat : Nat) : Int))), (16, (Value.bool true)), (40, (Value.bool false))] 3 ?_
        refine Ops.keep (R := [(0, (Value.string (str n))), (3, (i64 ((i + 1 : Nat) : Int)))]) (by kernel_rfl) ?_
        refine od ?_
        exact ⟨i + 1, ⟨rfl, (by rw [← hE, had, letterB_t (by omega), Bool.true_and]), (by omega), K8⟩, (show n.length - (i + 1) < n.length - i from by omega)⟩
    ·rw [h11]
     have p32 : ¬ (((x.toNat : Nat) : Int) ≥ 97) := of_decide_eq_false h11
     refine og 7 [(0, (Value.string (str n))), (3, (i64 ((i : Nat) : Int))), (4, (Value.int IntKind.u8 ((x.toNat : Nat) : Int))), (16, (Value.bool true)), (28, (Value.bool false)), (31, (Value.bool (decide (((x.toNat : Nat) : Int) ≥ 48))))] 10 ?_
     refine Ops.split (decide (((x.toNat : Nat) : Int) ≥ 48)) (fun h33 => ?_) (fun h33 => ?_)
     ·rw [h33]
      have p34 : ((x.toNat : Nat) : Int) ≥ 48 := of_decide_eq_true h33
      refine og 5 [(0, (Value.string (str n))), (3, (i64 ((i : Nat) : Int))), (4, (Value.int IntKind.u8 ((x.toNat : Nat) : Int))), (16, (Value.bool true)), (36, (Value.bool (decide (((x.toNat : Nat) : Int) ≤ 57))))] 15 ?_
      refine Ops.split (decide (((x.toNat : Nat) : Int) ≤ 57)) (fun h35 => ?_) (fun h35 => ?_)
      ·rw [h35]
       have p36 : ((x.toNat : Nat) : Int) ≤ 57 := of_decide_eq_true h35
       refine og 4 [(0, (Value.string (str n))), (3, (i64 ((i : Nat) : Int))), (4, (Value.int IntKind.u8 ((x.toNat : Nat) : Int))), (16, (Value.bool true)), (40, (Value.bool false))] 19 ?_
       refine od ?_
       refine q_else (o := .tmp 40) (by kernel_rfl) rfl ?_
       refine q_skip (by kernel_rfl) ?_
       refine qg ?_
       refine og 2 [(0, (Value.string (str n))), (3, (i64 ((i : Nat) : Int))), (4, (Value.int IntKind.u8 ((x.toNat : Nat) : Int))), (16, (Value.bool true)), (18, (i64 (IntKind.i64.wrap (((i : Nat) : Int) + 1)))), (40, (Value.bool false))] 2 ?_
       have e37 : IntKind.i64.wrap (((i : Nat) : Int) + 1) = ((i + 1 : Nat) : Int) := by rw [wrap_i64 (by omega) (by omega)]; omega
       rw [e37]
       clear e37
       refine og 1 [(0, (Value.string (str n))), (3, (i64 ((i + 1 : Nat) : Int))), (4, (Value.int IntKind.u8 ((x.toNat : Nat) : Int))), (16, (Value.bool true)), (40, (Value.bool false))] 3 ?_
       refine Ops.keep (R := [(0, (Value.string (str n))), (3, (i64 ((i + 1 : Nat) : Int)))]) (by kernel_rfl) ?_
       refine od ?_
       exact ⟨i + 1, ⟨rfl, (by rw [← hE, had, letterB_t (by omega), Bool.true_and]), (by omega), K8⟩, (show n.length - (i + 1) < n.length - i from by omega)⟩
      ·rw [h35]
       have p38 : ¬ (((x.toNat : Nat) : Int) ≤ 57) := of_decide_eq_false h35
       refine og 4 [(0, (Value.string (str n))), (3, (i64 ((i : Nat) : Int))), (4, (Value.int IntKind.u8 ((x.toNat : Nat) : Int))), (16, (Value.bool true)), (40, (Value.bool (!(((x.toNat : Nat) : Int) == 95))))] 19 ?_
       refine od ?_
       refine q_cond (o := .tmp 40) (b := (!(((x.toNat : Nat) : Int) == 95))) (by kernel_rfl) rfl (fun h39 => ?_) (fun h39 => ?_)
       ·rw [h39]
        have p40 : ¬ (((x.toNat : Nat) : Int) = 95) := of_beq_f (bnot_true h39)
        refine qs ?_
        refine qg ?_
        refine og 1 [(0, (Value.string (str n))), (2, (Value.bool false)), (3, (i64 ((i : Nat) : Int))), (4, (Value.int IntKind.u8 ((x.toNat : Nat) : Int))), (16, (Value.bool true)), (40, (Value.bool true))] 1 ?_
        refine od ?_
        refine q_ret (by kernel_rfl) ?_
        refine ⟨(Value.bool false), retv_tmp rfl rfl, ?_⟩
        have e : nameOk n = false := by rw [name_all (by omega), ← hE, had, letterB_f (by omega), Bool.false_and]
        exact ⟨by rw [e], K8⟩
       ·rw [h39]
        have p41 : ((x.toNat : Nat) : Int) = 95 := of_beq_t (bnot_false h39)
        refine q_skip (by kernel_rfl) ?_
        refine qg ?_
        refine og 2 [(0, (Value.string (str n))), (3, (i64 ((i : Nat) : Int))), (4, (Value.int IntKind.u8 ((x.toNat : Nat) : Int))), (16, (Value.bool true)), (18, (i64 (IntKind.i64.wrap (((i : Nat) : Int) + 1)))), (40, (Value.bool false))] 2 ?_
        have e42 : IntKind.i64.wrap (((i : Nat) : Int) + 1) = ((i + 1 : Nat) : Int) := by rw [wrap_i64 (by omega) (by omega)]; omega
        rw [e42]
        clear e42
        refine og 1 [(0, (Value.string (str n))), (3, (i64 ((i + 1 : Nat) : Int))), (4, (Value.int IntKind.u8 ((x.toNat : Nat) : Int))), (16, (Value.bool true)), (40, (Value.bool false))] 3 ?_
        refine Ops.keep (R := [(0, (Value.string (str n))), (3, (i64 ((i + 1 : Nat) : Int)))]) (by kernel_rfl) ?_
        refine od ?_
        exact ⟨i + 1, ⟨rfl, (by rw [← hE, had, letterB_t (by omega), Bool.true_and]), (by omega), K8⟩, (show n.length - (i + 1) < n.length - i from by omega)⟩
     ·rw [h33]
      have p43 : ¬ (((x.toNat : Nat) : Int) ≥ 48) := of_decide_eq_false h33
      refine og 9 [(0, (Value.string (str n))), (3, (i64 ((i : Nat) : Int))), (4, (Value.int IntKind.u8 ((x.toNat : Nat) : Int))), (16, (Value.bool true)), (40, (Value.bool (!(((x.toNat : Nat) : Int) == 95))))] 19 ?_
      refine od ?_
      refine q_cond (o := .tmp 40) (b := (!(((x.toNat : Nat) : Int) == 95))) (by kernel_rfl) rfl (fun h44 => ?_) (fun h44 => ?_)
      ·rw [h44]
       have p45 : ¬ (((x.toNat : Nat) : Int) = 95) := of_beq_f (bnot_true h44)
       refine qs ?_
       refine qg ?_
       refine og 1 [(0, (Value.string (str n))), (2, (Value.bool false)), (3, (i64 ((i : Nat) : Int))), (4, (Value.int IntKind.u8 ((x.toNat : Nat) : Int))), (16, (Value.bool true)), (40, (Value.bool true))] 1 ?_
       refine od ?_
       refine q_ret (by kernel_rfl) ?_
       refine ⟨(Value.bool false), retv_tmp rfl rfl, ?_⟩
       have e : nameOk n = false := by rw [name_all (by omega), ← hE, had, letterB_f (by omega), Bool.false_and]
       exact ⟨by rw [e], K8⟩
      ·rw [h44]
       have p46 : ((x.toNat : Nat) : Int) = 95 := of_beq_t (bnot_false h44)
       refine q_skip (by kernel_rfl) ?_
       refine qg ?_
       refine og 2 [(0, (Value.string (str n))), (3, (i64 ((i : Nat) : Int))), (4, (Value.int IntKind.u8 ((x.toNat : Nat) : Int))), (16, (Value.bool true)), (18, (i64 (IntKind.i64.wrap (((i : Nat) : Int) + 1)))), (40, (Value.bool false))] 2 ?_
       have e47 : IntKind.i64.wrap (((i : Nat) : Int) + 1) = ((i + 1 : Nat) : Int) := by rw [wrap_i64 (by omega) (by omega)]; omega
       rw [e47]
       clear e47
       refine og 1 [(0, (Value.string (str n))), (3, (i64 ((i + 1 : Nat) : Int))), (4, (Value.int IntKind.u8 ((x.toNat : Nat) : Int))), (16, (Value.bool true)), (40, (Value.bool false))] 3 ?_
       refine Ops.keep (R := [(0, (Value.string (str n))), (3, (i64 ((i + 1 : Nat) : Int)))]) (by kernel_rfl) ?_
       refine od ?_
       exact ⟨i + 1, ⟨rfl, (by rw [← hE, had, letterB_t (by omega), Bool.true_and]), (by omega), K8⟩, (show n.length - (i + 1) < n.length - i from by omega)⟩
   ·rw [h9]
    have p48 : ¬ (((i : Nat) : Int) < ((n.length : Nat) : Int)) := of_decide_eq_false h9
    refine q_exit (id := 0) (by kernel_rfl) ?_
    refine qs ?_
    refine qg ?_
    refine og 1 [(2, (Value.bool true))] 1 ?_
    refine od ?_
    refine q_ret (by kernel_rfl) ?_
    refine ⟨(Value.bool true), retv_tmp rfl rfl, ?_⟩
    have e : nameOk n = true := by rw [name_all (by omega), ← hE, List.drop_of_length_le (by omega)]; rfl
    exact ⟨by rw [e], K8⟩

theorem Wrong_calls (w : World) (o : Opm)  : Calls Tryz.prog 22 ⟨[(agg [(i64 o.kind), (Value.string (str o.frm)), (Value.string (str o.to)), (i64 o.amount), (Value.string (str o.key)), (i64 o.slot), (i64 o.shard)])]⟩ w (fun e w' => e = .returned (i64 (wrongE o)) ∧ Keeps none_ w w') := by
 have K0 : Keeps none_ w w := Keeps.refl w
 refine q_calls Tryz.func22 (by kernel_rfl) (by kernel_rfl) ?_
 refine qs ?_
 refine qg ?_
 refine Ops.new (o := rowL [(i64 o.kind), (Value.string (str o.frm)), (Value.string (str o.to)), (i64 o.amount), (Value.string (str o.key)), (i64 o.slot), (i64 o.shard)] 24) (V := fun b => (ptr b)) (by kernel_rfl) (d := (some 1)) (by kernel_rfl) (fun b => rfl) (fun b1 w2 hb3 H4 K5 hs6 => ?_)
 have nb1 : w.heap.size ≤ b1 := by have := K0.size; omega
 replace K0 := K0.t0 K5
 clear K5 hs6
 refine og 1 [(1, (ptr b1)), (2, (i64 0))] 2 ?_
 refine od ?_
 refine qs ?_
 refine qs ?_
 refine qg ?_
 refine og 1 [(1, (ptr b1)), (2, (i64 0)), (4, (ptr b1))] 1 ?_
 refine Ops.go (v := (i64 o.kind)) (by kernel_rfl) (Runs.load (t := 3) (a := ⟨b1, 0, none⟩) (by kernel_rfl) (H4.loads (by kernel_rfl))) (d := (some 5)) (by kernel_rfl) rfl ?_
 refine od ?_
 refine q_block (id := 0) (by kernel_rfl) ?_
 refine qs ?_
 refine qg ?_
 refine og 2 [(1, (ptr b1)), (2, (i64 0)), (5, (i64 o.kind)), (6, (Value.bool (o.kind == 6)))] 2 ?_
 refine od ?_
 refine q_cond (o := .tmp 6) (b := (o.kind == 6)) (by kernel_rfl) rfl (fun h7 => ?_) (fun h7 => ?_)
 ·rw [h7]
  have p8 : o.kind = 6 := of_beq_t h7
  refine qs ?_
  refine qg ?_
  refine og 1 [(1, (ptr b1)), (2, (i64 0)), (5, (i64 o.kind))] 1 ?_
  refine od ?_
  refine q_ret (by kernel_rfl) ?_
  refine ⟨(i64 0), retv_tmp rfl rfl, ?_⟩
  have e : wrongE o = 0 := by unfold wrongE; rw [if_pos (by omega)]
  exact ⟨by rw [e], K0⟩
 ·rw [h7]
  have p9 : ¬ (o.kind = 6) := of_beq_f h7
  refine qs ?_
  refine qg ?_
  refine og 2 [(1, (ptr b1)), (2, (i64 0)), (5, (i64 o.kind)), (8, (Value.bool (o.kind == 7)))] 2 ?_
  refine od ?_
  refine q_cond (o := .tmp 8) (b := (o.kind == 7)) (by kernel_rfl) rfl (fun h10 => ?_) (fun h10 => ?_)
  ·rw [h10]
   have p11 : o.kind = 7 := of_beq_t h10
   refine qs ?_
   refine qs ?_
   refine qg ?_
   refine og 1 [(1, (ptr b1)), (2, (i64 0)), (5, (i64 o.kind)), (10, (Value.pointer (some ⟨b1, 5, none⟩)))] 1 ?_
   refine Ops.go (v := (i64 o.slot)) (by kernel_rfl) (Runs.load (t := 3) (a := ⟨b1, 5, none⟩) (by kernel_rfl) (H4.loads (by kernel_rfl))) (d := (some 11)) (by kernel_rfl) rfl ?_
   refine og 2 [(1, (ptr b1)), (2, (i64 0)), (5, (i64 o.kind)), (13, (Value.bool (decide (o.slot < 0))))] 4 ?_
   refine Ops.split (decide (o.slot < 0)) (fun h12 => ?_) (fun h12 => ?_)
   ·rw [h12]
    have p13 : o.slot < 0 := of_decide_eq_true h12
    refine og 14 [(1, (ptr b1)), (2, (i64 0)), (5, (i64 o.kind)), (27, (Value.bool true))] 18 ?_
    refine od ?_
    refine q_then (o := .tmp 27) (by kernel_rfl) rfl ?_
    refine qs ?_
    refine qg ?_
    refine og 1 [(1, (ptr b1)), (2, (i64 1)), (5, (i64 o.kind))] 1 ?_
    refine od ?_
    refine q_ret (by kernel_rfl) ?_
    refine ⟨(i64 1), retv_tmp rfl rfl, ?_⟩
    have e : wrongE o = 1 := by unfold wrongE; rw [if_neg (by omega), if_pos (by omega), if_pos (by omega)]
    exact ⟨by rw [e], K0⟩
   ·rw [h12]
    have p14 : ¬ (o.slot < 0) := of_decide_eq_false h12
    refine og 1 [(1, (ptr b1)), (2, (i64 0)), (5, (i64 o.kind)), (13, (Value.bool false)), (14, (Value.pointer (some ⟨b1, 5, none⟩)))] 5 ?_
    refine Ops.go (v := (i64 o.slot)) (by kernel_rfl) (Runs.load (t := 3) (a := ⟨b1, 5, none⟩) (by kernel_rfl) (H4.loads (by kernel_rfl))) (d := (some 15)) (by kernel_rfl) rfl ?_
    refine og 3 [(1, (ptr b1)), (2, (i64 0)), (5, (i64 o.kind)), (18, (Value.bool (decide (o.slot ≥ 16))))] 9 ?_
    refine Ops.split (decide (o.slot ≥ 16)) (fun h15 => ?_) (fun h15 => ?_)
    ·rw [h15]
     have p16 : o.slot ≥ 16 := of_decide_eq_true h15
     refine og 9 [(1, (ptr b1)), (2, (i64 0)), (5, (i64 o.kind)), (27, (Value.bool true))] 18 ?_
     refine od ?_
     refine q_then (o := .tmp 27) (by kernel_rfl) rfl ?_
     refine qs ?_
     refine qg ?_
     refine og 1 [(1, (ptr b1)), (2, (i64 1)), (5, (i64 o.kind))] 1 ?_
     refine od ?_
     refine q_ret (by kernel_rfl) ?_
     refine ⟨(i64 1), retv_tmp rfl rfl, ?_⟩
     have e : wrongE o = 1 := by unfold wrongE; rw [if_neg (by omega), if_pos (by omega), if_pos (by omega)]
     exact ⟨by rw [e], K0⟩
    ·rw [h15]
     have p17 : ¬ (o.slot ≥ 16) := of_decide_eq_false h15
     refine og 1 [(1, (ptr b1)), (2, (i64 0)), (5, (i64 o.kind)), (18, (Value.bool false)), (19, (Value.pointer (some ⟨b1, 6, none⟩)))] 10 ?_
     refine Ops.go (v := (i64 o.shard)) (by kernel_rfl) (Runs.load (t := 3) (a := ⟨b1, 6, none⟩) (by kernel_rfl) (H4.loads (by kernel_rfl))) (d := (some 20)) (by kernel_rfl) rfl ?_
     refine og 3 [(1, (ptr b1)), (2, (i64 0)), (5, (i64 o.kind)), (23, (Value.bool (decide (o.shard < 1))))] 14 ?_
     refine Ops.split (decide (o.shard < 1)) (fun h18 => ?_) (fun h18 => ?_)
     ·rw [h18]
      have p19 : o.shard < 1 := of_decide_eq_true h18
      refine og 4 [(1, (ptr b1)), (2, (i64 0)), (5, (i64 o.kind)), (27, (Value.bool true))] 18 ?_
      refine od ?_
      refine q_then (o := .tmp 27) (by kernel_rfl) rfl ?_
      refine qs ?_
      refine qg ?_
      refine og 1 [(1, (ptr b1)), (2, (i64 1)), (5, (i64 o.kind))] 1 ?_
      refine od ?_
      refine q_ret (by kernel_rfl) ?_
      refine ⟨(i64 1), retv_tmp rfl rfl, ?_⟩
      have e : wrongE o = 1 := by unfold wrongE; rw [if_neg (by omega), if_pos (by omega), if_pos (by omega)]
      exact ⟨by rw [e], K0⟩
     ·rw [h18]
      have p20 : ¬ (o.shard < 1) := of_decide_eq_false h18
      refine og 1 [(1, (ptr b1)), (2, (i64 0)), (5, (i64 o.kind)), (23, (Value.bool false)), (24, (Value.pointer (some ⟨b1, 6, none⟩)))] 15 ?_
      refine Ops.go (v := (i64 o.shard)) (by kernel_rfl) (Runs.load (t := 3) (a := ⟨b1, 6, none⟩) (by kernel_rfl) (H4.loads (by kernel_rfl))) (d := (some 25)) (by kernel_rfl) rfl ?_
      refine og 2 [(1, (ptr b1)), (2, (i64 0)), (5, (i64 o.kind)), (27, (Value.bool (decide (o.shard > 3))))] 18 ?_
      refine od ?_
      refine q_cond (o := .tmp 27) (b := (decide (o.shard > 3))) (by kernel_rfl) rfl (fun h21 => ?_) (fun h21 => ?_)
      ·rw [h21]
       have p22 : o.shard > 3 := of_decide_eq_true h21
       refine qs ?_
       refine qg ?_
       refine og 1 [(1, (ptr b1)), (2, (i64 1)), (5, (i64 o.kind))] 1 ?_
       refine od ?_
       refine q_ret (by kernel_rfl) ?_
       refine ⟨(i64 1), retv_tmp rfl rfl, ?_⟩
       have e : wrongE o = 1 := by unfold wrongE; rw [if_neg (by omega), if_pos (by omega), if_pos (by omega)]
       exact ⟨by rw [e], K0⟩
      ·rw [h21]
       have p23 : ¬ (o.shard > 3) := of_decide_eq_false h21
       refine q_skip (by kernel_rfl) ?_
       refine qs ?_
       refine qg ?_
       refine og 1 [(1, (ptr b1)), (2, (i64 0)), (5, (i64 o.kind))] 1 ?_
       refine od ?_
       refine q_ret (by kernel_rfl) ?_
       refine ⟨(i64 0), retv_tmp rfl rfl, ?_⟩
       have e : wrongE o = 0 := by unfold wrongE; rw [if_neg (by omega), if_pos (by omega), if_neg (by omega)]
       exact ⟨by rw [e], K0⟩
  ·rw [h10]
   have p24 : ¬ (o.kind = 7) := of_beq_f h10
   refine qs ?_
   refine qs ?_
   refine qg ?_
   refine og 2 [(1, (ptr b1)), (2, (i64 0)), (5, (i64 o.kind)), (28, (Value.bool (o.kind == 1)))] 2 ?_
   refine od ?_
   refine q_cond (o := .tmp 28) (b := (o.kind == 1)) (by kernel_rfl) rfl (fun h25 => ?_) (fun h25 => ?_)
   ·rw [h25]
    have p26 : o.kind = 1 := of_beq_t h25
    refine q_skip (by kernel_rfl) ?_
    refine q_then (o := .tmp 28) (by kernel_rfl) rfl ?_
    refine q_skip (by kernel_rfl) ?_
    refine qs ?_
    refine qg ?_
    refine og 1 [(1, (ptr b1)), (2, (i64 0)), (34, (ptr b1))] 1 ?_
    refine Ops.go (v := (i64 o.kind)) (by kernel_rfl) (Runs.load (t := 3) (a := ⟨b1, 0, none⟩) (by kernel_rfl) (H4.loads (by kernel_rfl))) (d := (some 35)) (by kernel_rfl) rfl ?_
    refine og 2 [(1, (ptr b1)), (2, (i64 0)), (3, (Value.bool (o.kind == 4)))] 4 ?_
    refine od ?_
    refine qs ?_
    refine q_block (id := 1) (by kernel_rfl) ?_
    refine qs ?_
    refine qg ?_
    refine og 1 [(1, (ptr b1)), (2, (i64 0)), (3, (Value.bool (o.kind == 4))), (38, (Value.pointer (some ⟨b1, 1, none⟩)))] 1 ?_
    refine Ops.go (v := (Value.string (str o.frm))) (by kernel_rfl) (Runs.load (t := 9) (a := ⟨b1, 1, none⟩) (by kernel_rfl) (H4.loads (by kernel_rfl))) (d := (some 39)) (by kernel_rfl) rfl ?_
    refine Ops.call (by kernel_rfl) (d := (some 40)) (by kernel_rfl) (Name_calls _ o.frm) ?_
    rintro _ w28 ⟨rfl, K27⟩
    refine ⟨_, _, rfl, rfl, ?_⟩
    replace K0 := K0.t0 K27
    replace H4 := H4.keep K27 (fun h => h)
    clear K27
    refine og 2 [(1, (ptr b1)), (2, (i64 0)), (3, (Value.bool (o.kind == 4))), (37, (Value.bool (!(nameOk o.frm))))] 5 ?_
    refine od ?_
    refine q_cond (o := .tmp 37) (b := (!(nameOk o.frm))) (by kernel_rfl) rfl (fun h29 => ?_) (fun h29 => ?_)
    ·rw [h29]
     have p30 : (nameOk o.frm) = false := (bnot_true h29)
     refine qs ?_
     refine qg ?_
     refine og 1 [(1, (ptr b1)), (2, (i64 46)), (3, (Value.bool (o.kind == 4)))] 1 ?_
     refine od ?_
     refine q_ret (by kernel_rfl) ?_
     refine ⟨(i64 46), retv_tmp rfl rfl, ?_⟩
     have e : wrongE o = 46 := by unfold wrongE; rw [if_neg (by omega), if_neg (by omega), if_neg (by omega), if_pos (by assumption)]
     exact ⟨by rw [e], K0⟩
    ·rw [h29]
     have p31 : (nameOk o.frm) = true := (bnot_false h29)
     refine qs ?_
     refine qg ?_
     refine og 1 [(1, (ptr b1)), (2, (i64 0)), (3, (Value.bool (o.kind == 4))), (43, (ptr b1))] 1 ?_
     refine Ops.go (v := (i64 o.kind)) (by kernel_rfl) (Runs.load (t := 3) (a := ⟨b1, 0, none⟩) (by kernel_rfl) (H4.loads (by kernel_rfl))) (d := (some 44)) (by kernel_rfl) rfl ?_
     refine og 2 [(1, (ptr b1)), (2, (i64 0)), (3, (Value.bool (o.kind == 4))), (42, (Value.bool (o.kind == 5)))] 4 ?_
     refine od ?_
     refine q_cond (o := .tmp 42) (b := (o.kind == 5)) (by kernel_rfl) rfl (fun h32 => ?_) (fun h32 => ?_)
     ·rw [h32]
      have p33 : o.kind = 5 := of_beq_t h32
      refine qs ?_
      refine qg ?_
      refine og 1 [(1, (ptr b1)), (2, (i64 0)), (3, (Value.bool (o.kind == 4)))] 1 ?_
      refine od ?_
      refine q_ret (by kernel_rfl) ?_
      refine ⟨(i64 0), retv_tmp rfl rfl, ?_⟩
      exfalso; omega
     ·rw [h32]
      have p34 : ¬ (o.kind = 5) := of_beq_f h32
      refine qs ?_
      refine qs ?_
      refine qg ?_
      refine og 1 [(1, (ptr b1)), (2, (i64 0)), (3, (Value.bool (o.kind == 4))), (47, (Value.pointer (some ⟨b1, 4, none⟩)))] 1 ?_
      refine Ops.go (v := (Value.string (str o.key))) (by kernel_rfl) (Runs.load (t := 9) (a := ⟨b1, 4, none⟩) (by kernel_rfl) (H4.loads (by kernel_rfl))) (d := (some 48)) (by kernel_rfl) rfl ?_
      refine Ops.call (by kernel_rfl) (d := (some 49)) (by kernel_rfl) (Name_calls _ o.key) ?_
      rintro _ w36 ⟨rfl, K35⟩
      refine ⟨_, _, rfl, rfl, ?_⟩
      replace K0 := K0.t0 K35
      replace H4 := H4.keep K35 (fun h => h)
      clear K35
      refine og 2 [(1, (ptr b1)), (2, (i64 0)), (3, (Value.bool (o.kind == 4))), (46, (Value.bool (!(nameOk o.key))))] 5 ?_
      refine od ?_
      refine q_cond (o := .tmp 46) (b := (!(nameOk o.key))) (by kernel_rfl) rfl (fun h37 => ?_) (fun h37 => ?_)
      ·rw [h37]
       have p38 : (nameOk o.key) = false := (bnot_true h37)
       refine q_skip (by kernel_rfl) ?_
       refine q_then (o := .tmp 46) (by kernel_rfl) rfl ?_
       refine qs ?_
       refine qg ?_
       refine og 1 [(1, (ptr b1)), (2, (i64 46)), (3, (Value.bool (o.kind == 4)))] 1 ?_
       refine od ?_
       refine q_ret (by kernel_rfl) ?_
       refine ⟨(i64 46), retv_tmp rfl rfl, ?_⟩
       have e : wrongE o = 46 := by unfold wrongE; rw [if_neg (by omega), if_neg (by omega), if_neg (by omega), if_neg (ne_of_t (by assumption)), if_neg (by omega), if_pos (by assumption)]
       exact ⟨by rw [e], K0⟩
      ·rw [h37]
       have p39 : (nameOk o.key) = true := (bnot_false h37)
       refine qg ?_
       refine og 2 [(1, (ptr b1)), (2, (i64 0)), (3, (Value.bool (o.kind == 4))), (46, (Value.bool false)), (52, (Value.bool (o.kind == 4)))] 2 ?_
       refine Ops.split (o.kind == 4) (fun h40 => ?_) (fun h40 => ?_)
       ·rw [h40]
        have p41 : o.kind = 4 := of_beq_t h40
        refine og 1 [(1, (ptr b1)), (2, (i64 0)), (3, (Value.bool true)), (46, (Value.bool false)), (52, (Value.bool true)), (53, (Value.pointer (some ⟨b1, 2, none⟩)))] 3 ?_
        refine Ops.go (v := (Value.string (str o.to))) (by kernel_rfl) (Runs.load (t := 9) (a := ⟨b1, 2, none⟩) (by kernel_rfl) (H4.loads (by kernel_rfl))) (d := (some 54)) (by kernel_rfl) rfl ?_
        refine Ops.call (by kernel_rfl) (d := (some 55)) (by kernel_rfl) (Name_calls _ o.to) ?_
        rintro _ w43 ⟨rfl, K42⟩
        refine ⟨_, _, rfl, rfl, ?_⟩
        replace K0 := K0.t0 K42
        replace H4 := H4.keep K42 (fun h => h)
        clear K42
        refine og 3 [(1, (ptr b1)), (2, (i64 0)), (3, (Value.bool true)), (46, (Value.bool (!(nameOk o.to))))] 8 ?_
        refine od ?_
        refine q_cond (o := .tmp 46) (b := (!(nameOk o.to))) (by kernel_rfl) rfl (fun h44 => ?_) (fun h44 => ?_)
        ·rw [h44]
         have p45 : (nameOk o.to) = false := (bnot_true h44)
         refine qs ?_
         refine qg ?_
         refine og 1 [(1, (ptr b1)), (2, (i64 46)), (3, (Value.bool true))] 1 ?_
         refine od ?_
         refine q_ret (by kernel_rfl) ?_
         refine ⟨(i64 46), retv_tmp rfl rfl, ?_⟩
         exfalso; omega
        ·rw [h44]
         have p46 : (nameOk o.to) = true := (bnot_false h44)
         refine qs ?_
         refine qg ?_
         refine og 1 [(1, (ptr b1)), (2, (i64 0)), (3, (Value.bool true)), (59, (ptr b1))] 1 ?_
         refine Ops.go (v := (i64 o.kind)) (by kernel_rfl) (Runs.load (t := 3) (a := ⟨b1, 0, none⟩) (by kernel_rfl) (H4.loads (by kernel_rfl))) (d := (some 60)) (by kernel_rfl) rfl ?_
         refine og 2 [(1, (ptr b1)), (2, (i64 0)), (3, (Value.bool true)), (58, (Value.bool (o.kind == 1)))] 4 ?_
         refine od ?_
         rw [h25]
         refine q_then (o := .tmp 58) (by kernel_rfl) rfl ?_
         refine qs ?_
         refine qg ?_
         refine og 1 [(1, (ptr b1)), (2, (i64 0)), (3, (Value.bool true))] 1 ?_
         refine od ?_
         refine q_ret (by kernel_rfl) ?_
         refine ⟨(i64 0), retv_tmp rfl rfl, ?_⟩
         exfalso; omega
       ·rw [h40]
        have p47 : ¬ (o.kind = 4) := of_beq_f h40
        refine og 6 [(1, (ptr b1)), (2, (i64 0)), (3, (Value.bool false)), (46, (Value.bool false))] 8 ?_
        refine od ?_
        refine q_else (o := .tmp 46) (by kernel_rfl) rfl ?_
        refine qs ?_
        refine qg ?_
        refine og 1 [(1, (ptr b1)), (2, (i64 0)), (3, (Value.bool false)), (59, (ptr b1))] 1 ?_
        refine Ops.go (v := (i64 o.kind)) (by kernel_rfl) (Runs.load (t := 3) (a := ⟨b1, 0, none⟩) (by kernel_rfl) (H4.loads (by kernel_rfl))) (d := (some 60)) (by kernel_rfl) rfl ?_
        refine og 2 [(1, (ptr b1)), (2, (i64 0)), (3, (Value.bool false)), (58, (Value.bool (o.kind == 1)))] 4 ?_
        refine od ?_
        rw [h25]
        refine q_then (o := .tmp 58) (by kernel_rfl) rfl ?_
        refine qs ?_
        refine qg ?_
        refine og 1 [(1, (ptr b1)), (2, (i64 0)), (3, (Value.bool false))] 1 ?_
        refine od ?_
        refine q_ret (by kernel_rfl) ?_
        refine ⟨(i64 0), retv_tmp rfl rfl, ?_⟩
        have e : wrongE o = 0 := by unfold wrongE; rw [if_neg (by omega), if_neg (by omega), if_neg (by omega), if_neg (ne_of_t (by assumption)), if_neg (by omega), if_neg (ne_of_t (by assumption)), if_pos (by omega)]
        exact ⟨by rw [e], K0⟩
   ·rw [h25]
    have p48 : ¬ (o.kind = 1) := of_beq_f h25
    refine qs ?_
    refine qg ?_
    refine og 2 [(1, (ptr b1)), (2, (i64 0)), (5, (i64 o.kind)), (28, (Value.bool (o.kind == 2)))] 2 ?_
    refine od ?_
    refine q_cond (o := .tmp 28) (b := (o.kind == 2)) (by kernel_rfl) rfl (fun h49 => ?_) (fun h49 => ?_)
    ·rw [h49]
     have p50 : o.kind = 2 := of_beq_t h49
     refine q_skip (by kernel_rfl) ?_
     refine q_then (o := .tmp 28) (by kernel_rfl) rfl ?_
     refine q_skip (by kernel_rfl) ?_
     refine qs ?_
     refine qg ?_
     refine og 1 [(1, (ptr b1)), (2, (i64 0)), (34, (ptr b1))] 1 ?_
     refine Ops.go (v := (i64 o.kind)) (by kernel_rfl) (Runs.load (t := 3) (a := ⟨b1, 0, none⟩) (by kernel_rfl) (H4.loads (by kernel_rfl))) (d := (some 35)) (by kernel_rfl) rfl ?_
     refine og 2 [(1, (ptr b1)), (2, (i64 0)), (3, (Value.bool (o.kind == 4)))] 4 ?_
     refine od ?_
     refine qs ?_
     refine q_block (id := 1) (by kernel_rfl) ?_
     refine qs ?_
     refine qg ?_
     refine og 1 [(1, (ptr b1)), (2, (i64 0)), (3, (Value.bool (o.kind == 4))), (38, (Value.pointer (some ⟨b1, 1, none⟩)))] 1 ?_
     refine Ops.go (v := (Value.string (str o.frm))) (by kernel_rfl) (Runs.load (t := 9) (a := ⟨b1, 1, none⟩) (by kernel_rfl) (H4.loads (by kernel_rfl))) (d := (some 39)) (by kernel_rfl) rfl ?_
     refine Ops.call (by kernel_rfl) (d := (some 40)) (by kernel_rfl) (Name_calls _ o.frm) ?_
     rintro _ w52 ⟨rfl, K51⟩
     refine ⟨_, _, rfl, rfl, ?_⟩
     replace K0 := K0.t0 K51
     replace H4 := H4.keep K51 (fun h => h)
     clear K51
     refine og 2 [(1, (ptr b1)), (2, (i64 0)), (3, (Value.bool (o.kind == 4))), (37, (Value.bool (!(nameOk o.frm))))] 5 ?_
     refine od ?_
     refine q_cond (o := .tmp 37) (b := (!(nameOk o.frm))) (by kernel_rfl) rfl (fun h53 => ?_) (fun h53 => ?_)
     ·rw [h53]
      have p54 : (nameOk o.frm) = false := (bnot_true h53)
      refine qs ?_
      refine qg ?_
      refine og 1 [(1, (ptr b1)), (2, (i64 46)), (3, (Value.bool (o.kind == 4)))] 1 ?_
      refine od ?_
      refine q_ret (by kernel_rfl) ?_
      refine ⟨(i64 46), retv_tmp rfl rfl, ?_⟩
      have e : wrongE o = 46 := by unfold wrongE; rw [if_neg (by omega), if_neg (by omega), if_neg (by omega), if_pos (by assumption)]
      exact ⟨by rw [e], K0⟩
     ·rw [h53]
      have p55 : (nameOk o.frm) = true := (bnot_false h53)
      refine qs ?_
      refine qg ?_
      refine og 1 [(1, (ptr b1)), (2, (i64 0)), (3, (Value.bool (o.kind == 4))), (43, (ptr b1))] 1 ?_
      refine Ops.go (v := (i64 o.kind)) (by kernel_rfl) (Runs.load (t := 3) (a := ⟨b1, 0, none⟩) (by kernel_rfl) (H4.loads (by kernel_rfl))) (d := (some 44)) (by kernel_rfl) rfl ?_
      refine og 2 [(1, (ptr b1)), (2, (i64 0)), (3, (Value.bool (o.kind == 4))), (42, (Value.bool (o.kind == 5)))] 4 ?_
      refine od ?_
      refine q_cond (o := .tmp 42) (b := (o.kind == 5)) (by kernel_rfl) rfl (fun h56 => ?_) (fun h56 => ?_)
      ·rw [h56]
       have p57 : o.kind = 5 := of_beq_t h56
       refine qs ?_
       refine qg ?_
       refine og 1 [(1, (ptr b1)), (2, (i64 0)), (3, (Value.bool (o.kind == 4)))] 1 ?_
       refine od ?_
       refine q_ret (by kernel_rfl) ?_
       refine ⟨(i64 0), retv_tmp rfl rfl, ?_⟩
       exfalso; omega
      ·rw [h56]
       have p58 : ¬ (o.kind = 5) := of_beq_f h56
       refine qs ?_
       refine qs ?_
       refine qg ?_
       refine og 1 [(1, (ptr b1)), (2, (i64 0)), (3, (Value.bool (o.kind == 4))), (47, (Value.pointer (some ⟨b1, 4, none⟩)))] 1 ?_
       refine Ops.go (v := (Value.string (str o.key))) (by kernel_rfl) (Runs.load (t := 9) (a := ⟨b1, 4, none⟩) (by kernel_rfl) (H4.loads (by kernel_rfl))) (d := (some 48)) (by kernel_rfl) rfl ?_
       refine Ops.call (by kernel_rfl) (d := (some 49)) (by kernel_rfl) (Name_calls _ o.key) ?_
       rintro _ w60 ⟨rfl, K59⟩
       refine ⟨_, _, rfl, rfl, ?_⟩
       replace K0 := K0.t0 K59
       replace H4 := H4.keep K59 (fun h => h)
       clear K59
       refine og 2 [(1, (ptr b1)), (2, (i64 0)), (3, (Value.bool (o.kind == 4))), (46, (Value.bool (!(nameOk o.key))))] 5 ?_
       refine od ?_
       refine q_cond (o := .tmp 46) (b := (!(nameOk o.key))) (by kernel_rfl) rfl (fun h61 => ?_) (fun h61 => ?_)
       ·rw [h61]
        have p62 : (nameOk o.key) = false := (bnot_true h61)
        refine q_skip (by kernel_rfl) ?_
        refine q_then (o := .tmp 46) (by kernel_rfl) rfl ?_
        refine qs ?_
        refine qg ?_
        refine og 1 [(1, (ptr b1)), (2, (i64 46)), (3, (Value.bool (o.kind == 4)))] 1 ?_
        refine od ?_
        refine q_ret (by kernel_rfl) ?_
        refine ⟨(i64 46), retv_tmp rfl rfl, ?_⟩
        have e : wrongE o = 46 := by unfold wrongE; rw [if_neg (by omega), if_neg (by omega), if_neg (by omega), if_neg (ne_of_t (by assumption)), if_neg (by omega), if_pos (by assumption)]
        exact ⟨by rw [e], K0⟩
       ·rw [h61]
        have p63 : (nameOk o.key) = true := (bnot_false h61)
        refine qg ?_
        refine og 2 [(1, (ptr b1)), (2, (i64 0)), (3, (Value.bool (o.kind == 4))), (46, (Value.bool false)), (52, (Value.bool (o.kind == 4)))] 2 ?_
        refine Ops.split (o.kind == 4) (fun h64 => ?_) (fun h64 => ?_)
        ·rw [h64]
         have p65 : o.kind = 4 := of_beq_t h64
         refine og 1 [(1, (ptr b1)), (2, (i64 0)), (3, (Value.bool true)), (46, (Value.bool false)), (52, (Value.bool true)), (53, (Value.pointer (some ⟨b1, 2, none⟩)))] 3 ?_
         refine Ops.go (v := (Value.string (str o.to))) (by kernel_rfl) (Runs.load (t := 9) (a := ⟨b1, 2, none⟩) (by kernel_rfl) (H4.loads (by kernel_rfl))) (d := (some 54)) (by kernel_rfl) rfl ?_
         refine Ops.call (by kernel_rfl) (d := (some 55)) (by kernel_rfl) (Name_calls _ o.to) ?_
         rintro _ w67 ⟨rfl, K66⟩
         refine ⟨_, _, rfl, rfl, ?_⟩
         replace K0 := K0.t0 K66
         replace H4 := H4.keep K66 (fun h => h)
         clear K66
         refine og 3 [(1, (ptr b1)), (2, (i64 0)), (3, (Value.bool true)), (46, (Value.bool (!(nameOk o.to))))] 8 ?_
         refine od ?_
         refine q_cond (o := .tmp 46) (b := (!(nameOk o.to))) (by kernel_rfl) rfl (fun h68 => ?_) (fun h68 => ?_)
         ·rw [h68]
          have p69 : (nameOk o.to) = false := (bnot_true h68)
          refine qs ?_
          refine qg ?_
          refine og 1 [(1, (ptr b1)), (2, (i64 46)), (3, (Value.bool true))] 1 ?_
          refine od ?_
          refine q_ret (by kernel_rfl) ?_
          refine ⟨(i64 46), retv_tmp rfl rfl, ?_⟩
          exfalso; omega
         ·rw [h68]
          have p70 : (nameOk o.to) = true := (bnot_false h68)
          refine qs ?_
          refine qg ?_
          refine og 1 [(1, (ptr b1)), (2, (i64 0)), (3, (Value.bool true)), (59, (ptr b1))] 1 ?_
          refine Ops.go (v := (i64 o.kind)) (by kernel_rfl) (Runs.load (t := 3) (a := ⟨b1, 0, none⟩) (by kernel_rfl) (H4.loads (by kernel_rfl))) (d := (some 60)) (by kernel_rfl) rfl ?_
          refine og 2 [(1, (ptr b1)), (2, (i64 0)), (3, (Value.bool true)), (58, (Value.bool (o.kind == 1)))] 4 ?_
          refine od ?_
          rw [h25]
          refine q_else (o := .tmp 58) (by kernel_rfl) rfl ?_
          refine qs ?_
          refine qg ?_
          refine og 1 [(1, (ptr b1)), (2, (i64 0)), (3, (Value.bool true)), (63, (Value.pointer (some ⟨b1, 3, none⟩)))] 1 ?_
          refine Ops.go (v := (i64 o.amount)) (by kernel_rfl) (Runs.load (t := 2) (a := ⟨b1, 3, none⟩) (by kernel_rfl) (H4.loads (by kernel_rfl))) (d := (some 64)) (by kernel_rfl) rfl ?_
          refine og 2 [(1, (ptr b1)), (2, (i64 0)), (3, (Value.bool true)), (62, (Value.bool (decide (o.amount < 1))))] 4 ?_
          refine od ?_
          refine q_cond (o := .tmp 62) (b := (decide (o.amount < 1))) (by kernel_rfl) rfl (fun h71 => ?_) (fun h71 => ?_)
          ·rw [h71]
           have p72 : o.amount < 1 := of_decide_eq_true h71
           refine qs ?_
           refine qg ?_
           refine og 1 [(1, (ptr b1)), (2, (i64 47)), (3, (Value.bool true))] 1 ?_
           refine od ?_
           refine q_ret (by kernel_rfl) ?_
           refine ⟨(i64 47), retv_tmp rfl rfl, ?_⟩
           exfalso; omega
          ·rw [h71]
           have p73 : ¬ (o.amount < 1) := of_decide_eq_false h71
           refine qs ?_
           refine qg ?_
           refine og 3 [(1, (ptr b1)), (2, (i64 0)), (68, (Value.bool true)), (69, (Value.pointer (some ⟨b1, 1, none⟩)))] 3 ?_
           refine Ops.go (v := (Value.string (str o.frm))) (by kernel_rfl) (Runs.load (t := 9) (a := ⟨b1, 1, none⟩) (by kernel_rfl) (H4.loads (by kernel_rfl))) (d := (some 70)) (by kernel_rfl) rfl ?_
           refine og 1 [(2, (i64 0)), (68, (Value.bool true)), (70, (Value.string (str o.frm))), (71, (Value.pointer (some ⟨b1, 2, none⟩)))] 5 ?_
           refine Ops.go (v := (Value.string (str o.to))) (by kernel_rfl) (Runs.load (t := 9) (a := ⟨b1, 2, none⟩) (by kernel_rfl) (H4.loads (by kernel_rfl))) (d := (some 72)) (by kernel_rfl) rfl ?_
           refine Ops.go (v := (Value.bool (o.frm == o.to))) (by kernel_rfl) (Runs.streq (t := 9) (by kernel_rfl)) (d := (some 73)) (by kernel_rfl) rfl ?_
           refine og 2 [(2, (i64 0)), (66, (Value.bool (o.frm == o.to)))] 9 ?_
           refine od ?_
           refine q_cond (o := .tmp 66) (b := (o.frm == o.to)) (by kernel_rfl) rfl (fun h74 => ?_) (fun h74 => ?_)
           ·rw [h74]
            have p75 : (o.frm == o.to) = true := h74
            refine qs ?_
            refine qg ?_
            refine og 1 [(2, (i64 44))] 1 ?_
            refine od ?_
            refine q_ret (by kernel_rfl) ?_
            refine ⟨(i64 44), retv_tmp rfl rfl, ?_⟩
            exfalso; omega
           ·rw [h74]
            have p76 : (o.frm == o.to) = false := h74
            refine q_skip (by kernel_rfl) ?_
            refine qs ?_
            refine qg ?_
            refine og 1 [(2, (i64 0))] 1 ?_
            refine od ?_
            refine q_ret (by kernel_rfl) ?_
            refine ⟨(i64 0), retv_tmp rfl rfl, ?_⟩
            exfalso; omega
        ·rw [h64]
         have p77 : ¬ (o.kind = 4) := of_beq_f h64
         refine og 6 [(1, (ptr b1)), (2, (i64 0)), (3, (Value.bool false)), (46, (Value.bool false))] 8 ?_
         refine od ?_
         refine q_else (o := .tmp 46) (by kernel_rfl) rfl ?_
         refine qs ?_
         refine qg ?_
         refine og 1 [(1, (ptr b1)), (2, (i64 0)), (3, (Value.bool false)), (59, (ptr b1))] 1 ?_
         refine Ops.go (v := (i64 o.kind)) (by kernel_rfl) (Runs.load (t := 3) (a := ⟨b1, 0, none⟩) (by kernel_rfl) (H4.loads (by kernel_rfl))) (d := (some 60)) (by kernel_rfl) rfl ?_
         refine og 2 [(1, (ptr b1)), (2, (i64 0)), (3, (Value.bool false)), (58, (Value.bool (o.kind == 1)))] 4 ?_
         refine od ?_
         rw [h25]
         refine q_else (o := .tmp 58) (by kernel_rfl) rfl ?_
         refine qs ?_
         refine qg ?_
         refine og 1 [(1, (ptr b1)), (2, (i64 0)), (3, (Value.bool false)), (63, (Value.pointer (some ⟨b1, 3, none⟩)))] 1 ?_
         refine Ops.go (v := (i64 o.amount)) (by kernel_rfl) (Runs.load (t := 2) (a := ⟨b1, 3, none⟩) (by kernel_rfl) (H4.loads (by kernel_rfl))) (d := (some 64)) (by kernel_rfl) rfl ?_
         refine og 2 [(1, (ptr b1)), (2, (i64 0)), (3, (Value.bool false)), (62, (Value.bool (decide (o.amount < 1))))] 4 ?_
         refine od ?_
         refine q_cond (o := .tmp 62) (b := (decide (o.amount < 1))) (by kernel_rfl) rfl (fun h78 => ?_) (fun h78 => ?_)
         ·rw [h78]
          have p79 : o.amount < 1 := of_decide_eq_true h78
          refine qs ?_
          refine qg ?_
          refine og 1 [(1, (ptr b1)), (2, (i64 47)), (3, (Value.bool false))] 1 ?_
          refine od ?_
          refine q_ret (by kernel_rfl) ?_
          refine ⟨(i64 47), retv_tmp rfl rfl, ?_⟩
          have e : wrongE o = 47 := by unfold wrongE; rw [if_neg (by omega), if_neg (by omega), if_neg (by omega), if_neg (ne_of_t (by assumption)), if_neg (by omega), if_neg (ne_of_t (by assumption)), if_neg (by omega), if_neg (by omega), if_pos (by omega)]
          exact ⟨by rw [e], K0⟩
         ·rw [h78]
          have p80 : ¬ (o.amount < 1) := of_decide_eq_false h78
          refine qs ?_
          refine qg ?_
          refine og 9 [(2, (i64 0)), (66, (Value.bool false))] 9 ?_
          refine od ?_
          refine q_else (o := .tmp 66) (by kernel_rfl) rfl ?_
          refine q_skip (by kernel_rfl) ?_
          refine qs ?_
          refine qg ?_
          refine og 1 [(2, (i64 0))] 1 ?_
          refine od ?_
          refine q_ret (by kernel_rfl) ?_
          refine ⟨(i64 0), retv_tmp rfl rfl, ?_⟩
          have e : wrongE o = 0 := by unfold wrongE; rw [if_neg (by omega), if_neg (by omega), if_neg (by omega), if_neg (ne_of_t (by assumption)), if_neg (by omega), if_neg (ne_of_t (by assumption)), if_neg (by omega), if_neg (by omega), if_neg (by omega), if_neg (by omega)]
          exact ⟨by rw [e], K0⟩
    ·rw [h49]
     have p81 : ¬ (o.kind = 2) := of_beq_f h49
     refine qs ?_
     refine qg ?_
     refine og 2 [(1, (ptr b1)), (2, (i64 0)), (5, (i64 o.kind)), (28, (Value.bool (o.kind == 3)))] 2 ?_
     refine od ?_
     refine q_cond (o := .tmp 28) (b := (o.kind == 3)) (by kernel_rfl) rfl (fun h82 => ?_) (fun h82 => ?_)
     ·rw [h82]
      have p83 : o.kind = 3 := of_beq_t h82
      refine q_skip (by kernel_rfl) ?_
      refine q_then (o := .tmp 28) (by kernel_rfl) rfl ?_
      refine q_skip (by kernel_rfl) ?_
      refine qs ?_
      refine qg ?_
      refine og 1 [(1, (ptr b1)), (2, (i64 0)), (34, (ptr b1))] 1 ?_
      refine Ops.go (v := (i64 o.kind)) (by kernel_rfl) (Runs.load (t := 3) (a := ⟨b1, 0, none⟩) (by kernel_rfl) (H4.loads (by kernel_rfl))) (d := (some 35)) (by kernel_rfl) rfl ?_
      refine og 2 [(1, (ptr b1)), (2, (i64 0)), (3, (Value.bool (o.kind == 4)))] 4 ?_
      refine od ?_
      refine qs ?_
      refine q_block (id := 1) (by kernel_rfl) ?_
      refine qs ?_
      refine qg ?_
      refine og 1 [(1, (ptr b1)), (2, (i64 0)), (3, (Value.bool (o.kind == 4))), (38, (Value.pointer (some ⟨b1, 1, none⟩)))] 1 ?_
      refine Ops.go (v := (Value.string (str o.frm))) (by kernel_rfl) (Runs.load (t := 9) (a := ⟨b1, 1, none⟩) (by kernel_rfl) (H4.loads (by kernel_rfl))) (d := (some 39)) (by kernel_rfl) rfl ?_
      refine Ops.call (by kernel_rfl) (d := (some 40)) (by kernel_rfl) (Name_calls _ o.frm) ?_
      rintro _ w85 ⟨rfl, K84⟩
      refine ⟨_, _, rfl, rfl, ?_⟩
      replace K0 := K0.t0 K84
      replace H4 := H4.keep K84 (fun h => h)
      clear K84
      refine og 2 [(1, (ptr b1)), (2, (i64 0)), (3, (Value.bool (o.kind == 4))), (37, (Value.bool (!(nameOk o.frm))))] 5 ?_
      refine od ?_
      refine q_cond (o := .tmp 37) (b := (!(nameOk o.frm))) (by kernel_rfl) rfl (fun h86 => ?_) (fun h86 => ?_)
      ·rw [h86]
       have p87 : (nameOk o.frm) = false := (bnot_true h86)
       refine qs ?_
       refine qg ?_
       refine og 1 [(1, (ptr b1)), (2, (i64 46)), (3, (Value.bool (o.kind == 4)))] 1 ?_
       refine od ?_
       refine q_ret (by kernel_rfl) ?_
       refine ⟨(i64 46), retv_tmp rfl rfl, ?_⟩
       have e : wrongE o = 46 := by unfold wrongE; rw [if_neg (by omega), if_neg (by omega), if_neg (by omega), if_pos (by assumption)]
       exact ⟨by rw [e], K0⟩
      ·rw [h86]
       have p88 : (nameOk o.frm) = true := (bnot_false h86)
       refine qs ?_
       refine qg ?_
       refine og 1 [(1, (ptr b1)), (2, (i64 0)), (3, (Value.bool (o.kind == 4))), (43, (ptr b1))] 1 ?_
       refine Ops.go (v := (i64 o.kind)) (by kernel_rfl) (Runs.load (t := 3) (a := ⟨b1, 0, none⟩) (by kernel_rfl) (H4.loads (by kernel_rfl))) (d := (some 44)) (by kernel_rfl) rfl ?_
       refine og 2 [(1, (ptr b1)), (2, (i64 0)), (3, (Value.bool (o.kind == 4))), (42, (Value.bool (o.kind == 5)))] 4 ?_
       refine od ?_
       refine q_cond (o := .tmp 42) (b := (o.kind == 5)) (by kernel_rfl) rfl (fun h89 => ?_) (fun h89 => ?_)
       ·rw [h89]
        have p90 : o.kind = 5 := of_beq_t h89
        refine qs ?_
        refine qg ?_
        refine og 1 [(1, (ptr b1)), (2, (i64 0)), (3, (Value.bool (o.kind == 4)))] 1 ?_
        refine od ?_
        refine q_ret (by kernel_rfl) ?_
        refine ⟨(i64 0), retv_tmp rfl rfl, ?_⟩
        exfalso; omega
       ·rw [h89]
        have p91 : ¬ (o.kind = 5) := of_beq_f h89
        refine qs ?_
        refine qs ?_
        refine qg ?_
        refine og 1 [(1, (ptr b1)), (2, (i64 0)), (3, (Value.bool (o.kind == 4))), (47, (Value.pointer (some ⟨b1, 4, none⟩)))] 1 ?_
        refine Ops.go (v := (Value.string (str o.key))) (by kernel_rfl) (Runs.load (t := 9) (a := ⟨b1, 4, none⟩) (by kernel_rfl) (H4.loads (by kernel_rfl))) (d := (some 48)) (by kernel_rfl) rfl ?_
        refine Ops.call (by kernel_rfl) (d := (some 49)) (by kernel_rfl) (Name_calls _ o.key) ?_
        rintro _ w93 ⟨rfl, K92⟩
        refine ⟨_, _, rfl, rfl, ?_⟩
        replace K0 := K0.t0 K92
        replace H4 := H4.keep K92 (fun h => h)
        clear K92
        refine og 2 [(1, (ptr b1)), (2, (i64 0)), (3, (Value.bool (o.kind == 4))), (46, (Value.bool (!(nameOk o.key))))] 5 ?_
        refine od ?_
        refine q_cond (o := .tmp 46) (b := (!(nameOk o.key))) (by kernel_rfl) rfl (fun h94 => ?_) (fun h94 => ?_)
        ·rw [h94]
         have p95 : (nameOk o.key) = false := (bnot_true h94)
         refine q_skip (by kernel_rfl) ?_
         refine q_then (o := .tmp 46) (by kernel_rfl) rfl ?_
         refine qs ?_
         refine qg ?_
         refine og 1 [(1, (ptr b1)), (2, (i64 46)), (3, (Value.bool (o.kind == 4)))] 1 ?_
         refine od ?_
         refine q_ret (by kernel_rfl) ?_
         refine ⟨(i64 46), retv_tmp rfl rfl, ?_⟩
         have e : wrongE o = 46 := by unfold wrongE; rw [if_neg (by omega), if_neg (by omega), if_neg (by omega), if_neg (ne_of_t (by assumption)), if_neg (by omega), if_pos (by assumption)]
         exact ⟨by rw [e], K0⟩
        ·rw [h94]
         have p96 : (nameOk o.key) = true := (bnot_false h94)
         refine qg ?_
         refine og 2 [(1, (ptr b1)), (2, (i64 0)), (3, (Value.bool (o.kind == 4))), (46, (Value.bool false)), (52, (Value.bool (o.kind == 4)))] 2 ?_
         refine Ops.split (o.kind == 4) (fun h97 => ?_) (fun h97 => ?_)
         ·rw [h97]
          have p98 : o.kind = 4 := of_beq_t h97
          refine og 1 [(1, (ptr b1)), (2, (i64 0)), (3, (Value.bool true)), (46, (Value.bool false)), (52, (Value.bool true)), (53, (Value.pointer (some ⟨b1, 2, none⟩)))] 3 ?_
          refine Ops.go (v := (Value.string (str o.to))) (by kernel_rfl) (Runs.load (t := 9) (a := ⟨b1, 2, none⟩) (by kernel_rfl) (H4.loads (by kernel_rfl))) (d := (some 54)) (by kernel_rfl) rfl ?_
          refine Ops.call (by kernel_rfl) (d := (some 55)) (by kernel_rfl) (Name_calls _ o.to) ?_
          rintro _ w100 ⟨rfl, K99⟩
          refine ⟨_, _, rfl, rfl, ?_⟩
          replace K0 := K0.t0 K99
          replace H4 := H4.keep K99 (fun h => h)
          clear K99
          refine og 3 [(1, (ptr b1)), (2, (i64 0)), (3, (Value.bool true)), (46, (Value.bool (!(nameOk o.to))))] 8 ?_
          refine od ?_
          refine q_cond (o := .tmp 46) (b := (!(nameOk o.to))) (by kernel_rfl) rfl (fun h101 => ?_) (fun h101 => ?_)
          ·rw [h101]
           have p102 : (nameOk o.to) = false := (bnot_true h101)
           refine qs ?_
           refine qg ?_
           refine og 1 [(1, (ptr b1)), (2, (i64 46)), (3, (Value.bool true))] 1 ?_
           refine od ?_
           refine q_ret (by kernel_rfl) ?_
           refine ⟨(i64 46), retv_tmp rfl rfl, ?_⟩
           exfalso; omega
          ·rw [h101]
           have p103 : (nameOk o.to) = true := (bnot_false h101)
           refine qs ?_
           refine qg ?_
           refine og 1 [(1, (ptr b1)), (2, (i64 0)), (3, (Value.bool true)), (59, (ptr b1))] 1 ?_
           refine Ops.go (v := (i64 o.kind)) (by kernel_rfl) (Runs.load (t := 3) (a := ⟨b1, 0, none⟩) (by kernel_rfl) (H4.loads (by kernel_rfl))) (d := (some 60)) (by kernel_rfl) rfl ?_
           refine og 2 [(1, (ptr b1)), (2, (i64 0)), (3, (Value.bool true)), (58, (Value.bool (o.kind == 1)))] 4 ?_
           refine od ?_
           rw [h25]
           refine q_else (o := .tmp 58) (by kernel_rfl) rfl ?_
           refine qs ?_
           refine qg ?_
           refine og 1 [(1, (ptr b1)), (2, (i64 0)), (3, (Value.bool true)), (63, (Value.pointer (some ⟨b1, 3, none⟩)))] 1 ?_
           refine Ops.go (v := (i64 o.amount)) (by kernel_rfl) (Runs.load (t := 2) (a := ⟨b1, 3, none⟩) (by kernel_rfl) (H4.loads (by kernel_rfl))) (d := (some 64)) (by kernel_rfl) rfl ?_
           refine og 2 [(1, (ptr b1)), (2, (i64 0)), (3, (Value.bool true)), (62, (Value.bool (decide (o.amount < 1))))] 4 ?_
           refine od ?_
           refine q_cond (o := .tmp 62) (b := (decide (o.amount < 1))) (by kernel_rfl) rfl (fun h104 => ?_) (fun h104 => ?_)
           ·rw [h104]
            have p105 : o.amount < 1 := of_decide_eq_true h104
            refine qs ?_
            refine qg ?_
            refine og 1 [(1, (ptr b1)), (2, (i64 47)), (3, (Value.bool true))] 1 ?_
            refine od ?_
            refine q_ret (by kernel_rfl) ?_
            refine ⟨(i64 47), retv_tmp rfl rfl, ?_⟩
            exfalso; omega
           ·rw [h104]
            have p106 : ¬ (o.amount < 1) := of_decide_eq_false h104
            refine qs ?_
            refine qg ?_
            refine og 3 [(1, (ptr b1)), (2, (i64 0)), (68, (Value.bool true)), (69, (Value.pointer (some ⟨b1, 1, none⟩)))] 3 ?_
            refine Ops.go (v := (Value.string (str o.frm))) (by kernel_rfl) (Runs.load (t := 9) (a := ⟨b1, 1, none⟩) (by kernel_rfl) (H4.loads (by kernel_rfl))) (d := (some 70)) (by kernel_rfl) rfl ?_
            refine og 1 [(2, (i64 0)), (68, (Value.bool true)), (70, (Value.string (str o.frm))), (71, (Value.pointer (some ⟨b1, 2, none⟩)))] 5 ?_
            refine Ops.go (v := (Value.string (str o.to))) (by kernel_rfl) (Runs.load (t := 9) (a := ⟨b1, 2, none⟩) (by kernel_rfl) (H4.loads (by kernel_rfl))) (d := (some 72)) (by kernel_rfl) rfl ?_
            refine Ops.go (v := (Value.bool (o.frm == o.to))) (by kernel_rfl) (Runs.streq (t := 9) (by kernel_rfl)) (d := (some 73)) (by kernel_rfl) rfl ?_
            refine og 2 [(2, (i64 0)), (66, (Value.bool (o.frm == o.to)))] 9 ?_
            refine od ?_
            refine q_cond (o := .tmp 66) (b := (o.frm == o.to)) (by kernel_rfl) rfl (fun h107 => ?_) (fun h107 => ?_)
            ·rw [h107]
             have p108 : (o.frm == o.to) = true := h107
             refine qs ?_
             refine qg ?_
             refine og 1 [(2, (i64 44))] 1 ?_
             refine od ?_
             refine q_ret (by kernel_rfl) ?_
             refine ⟨(i64 44), retv_tmp rfl rfl, ?_⟩
             exfalso; omega
            ·rw [h107]
             have p109 : (o.frm == o.to) = false := h107
             refine q_skip (by kernel_rfl) ?_
             refine qs ?_
             refine qg ?_
             refine og 1 [(2, (i64 0))] 1 ?_
             refine od ?_
             refine q_ret (by kernel_rfl) ?_
             refine ⟨(i64 0), retv_tmp rfl rfl, ?_⟩
             exfalso; omega
         ·rw [h97]
          have p110 : ¬ (o.kind = 4) := of_beq_f h97
          refine og 6 [(1, (ptr b1)), (2, (i64 0)), (3, (Value.bool false)), (46, (Value.bool false))] 8 ?_
          refine od ?_
          refine q_else (o := .tmp 46) (by kernel_rfl) rfl ?_
          refine qs ?_
          refine qg ?_
          refine og 1 [(1, (ptr b1)), (2, (i64 0)), (3, (Value.bool false)), (59, (ptr b1))] 1 ?_
          refine Ops.go (v := (i64 o.kind)) (by kernel_rfl) (Runs.load (t := 3) (a := ⟨b1, 0, none⟩) (by kernel_rfl) (H4.loads (by kernel_rfl))) (d := (some 60)) (by kernel_rfl) rfl ?_
          refine og 2 [(1, (ptr b1)), (2, (i64 0)), (3, (Value.bool false)), (58, (Value.bool (o.kind == 1)))] 4 ?_
          refine od ?_
          rw [h25]
          refine q_else (o := .tmp 58) (by kernel_rfl) rfl ?_
          refine qs ?_
          refine qg ?_
          refine og 1 [(1, (ptr b1)), (2, (i64 0)), (3, (Value.bool false)), (63, (Value.pointer (some ⟨b1, 3, none⟩)))] 1 ?_
          refine Ops.go (v := (i64 o.amount)) (by kernel_rfl) (Runs.load (t := 2) (a := ⟨b1, 3, none⟩) (by kernel_rfl) (H4.loads (by kernel_rfl))) (d := (some 64)) (by kernel_rfl) rfl ?_
          refine og 2 [(1, (ptr b1)), (2, (i64 0)), (3, (Value.bool false)), (62, (Value.bool (decide (o.amount < 1))))] 4 ?_
          refine od ?_
          refine q_cond (o := .tmp 62) (b := (decide (o.amount < 1))) (by kernel_rfl) rfl (fun h111 => ?_) (fun h111 => ?_)
          ·rw [h111]
           have p112 : o.amount < 1 := of_decide_eq_true h111
           refine qs ?_
           refine qg ?_
           refine og 1 [(1, (ptr b1)), (2, (i64 47)), (3, (Value.bool false))] 1 ?_
           refine od ?_
           refine q_ret (by kernel_rfl) ?_
           refine ⟨(i64 47), retv_tmp rfl rfl, ?_⟩
           have e : wrongE o = 47 := by unfold wrongE; rw [if_neg (by omega), if_neg (by omega), if_neg (by omega), if_neg (ne_of_t (by assumption)), if_neg (by omega), if_neg (ne_of_t (by assumption)), if_neg (by omega), if_neg (by omega), if_pos (by omega)]
           exact ⟨by rw [e], K0⟩
          ·rw [h111]
           have p113 : ¬ (o.amount < 1) := of_decide_eq_false h111
           refine qs ?_
           refine qg ?_
           refine og 9 [(2, (i64 0)), (66, (Value.bool false))] 9 ?_
           refine od ?_
           refine q_else (o := .tmp 66) (by kernel_rfl) rfl ?_
           refine q_skip (by kernel_rfl) ?_
           refine qs ?_
           refine qg ?_
           refine og 1 [(2, (i64 0))] 1 ?_
           refine od ?_
           refine q_ret (by kernel_rfl) ?_
           refine ⟨(i64 0), retv_tmp rfl rfl, ?_⟩
           have e : wrongE o = 0 := by unfold wrongE; rw [if_neg (by omega), if_neg (by omega), if_neg (by omega), if_neg (ne_of_t (by assumption)), if_neg (by omega), if_neg (ne_of_t (by assumption)), if_neg (by omega), if_neg (by omega), if_neg (by omega), if_neg (by omega)]
           exact ⟨by rw [e], K0⟩
     ·rw [h82]
      have p114 : ¬ (o.kind = 3) := of_beq_f h82
      refine qs ?_
      refine qg ?_
      refine og 2 [(1, (ptr b1)), (2, (i64 0)), (5, (i64 o.kind)), (28, (Value.bool (o.kind == 4)))] 2 ?_
      refine od ?_
      refine q_cond (o := .tmp 28) (b := (o.kind == 4)) (by kernel_rfl) rfl (fun h115 => ?_) (fun h115 => ?_)
      ·rw [h115]
       have p116 : o.kind = 4 := of_beq_t h115
       refine q_skip (by kernel_rfl) ?_
       refine q_then (o := .tmp 28) (by kernel_rfl) rfl ?_
       refine q_skip (by kernel_rfl) ?_
       refine qs ?_
       refine qg ?_
       refine og 1 [(1, (ptr b1)), (2, (i64 0)), (34, (ptr b1))] 1 ?_
       refine Ops.go (v := (i64 o.kind)) (by kernel_rfl) (Runs.load (t := 3) (a := ⟨b1, 0, none⟩) (by kernel_rfl) (H4.loads (by kernel_rfl))) (d := (some 35)) (by kernel_rfl) rfl ?_
       refine og 2 [(1, (ptr b1)), (2, (i64 0)), (3, (Value.bool (o.kind == 4)))] 4 ?_
       refine od ?_
       refine qs ?_
       refine q_block (id := 1) (by kernel_rfl) ?_
       refine qs ?_
       refine qg ?_
       refine og 1 [(1, (ptr b1)), (2, (i64 0)), (3, (Value.bool (o.kind == 4))), (38, (Value.pointer (some ⟨b1, 1, none⟩)))] 1 ?_
       refine Ops.go (v := (Value.string (str o.frm))) (by kernel_rfl) (Runs.load (t := 9) (a := ⟨b1, 1, none⟩) (by kernel_rfl) (H4.loads (by kernel_rfl))) (d := (some 39)) (by kernel_rfl) rfl ?_
       refine Ops.call (by kernel_rfl) (d := (some 40)) (by kernel_rfl) (Name_calls _ o.frm) ?_
       rintro _ w118 ⟨rfl, K117⟩
       refine ⟨_, _, rfl, rfl, ?_⟩
       replace K0 := K0.t0 K117
       replace H4 := H4.keep K117 (fun h => h)
       clear K117
       refine og 2 [(1, (ptr b1)), (2, (i64 0)), (3, (Value.bool (o.kind == 4))), (37, (Value.bool (!(nameOk o.frm))))] 5 ?_
       refine od ?_
       refine q_cond (o := .tmp 37) (b := (!(nameOk o.frm))) (by kernel_rfl) rfl (fun h119 => ?_) (fun h119 => ?_)
       ·rw [h119]
        have p120 : (nameOk o.frm) = false := (bnot_true h119)
        refine qs ?_
        refine qg ?_
        refine og 1 [(1, (ptr b1)), (2, (i64 46)), (3, (Value.bool (o.kind == 4)))] 1 ?_
        refine od ?_
        refine q_ret (by kernel_rfl) ?_
        refine ⟨(i64 46), retv_tmp rfl rfl, ?_⟩
        have e : wrongE o = 46 := by unfold wrongE; rw [if_neg (by omega), if_neg (by omega), if_neg (by omega), if_pos (by assumption)]
        exact ⟨by rw [e], K0⟩
       ·rw [h119]
        have p121 : (nameOk o.frm) = true := (bnot_false h119)
        refine qs ?_
        refine qg ?_
        refine og 1 [(1, (ptr b1)), (2, (i64 0)), (3, (Value.bool (o.kind == 4))), (43, (ptr b1))] 1 ?_
        refine Ops.go (v := (i64 o.kind)) (by kernel_rfl) (Runs.load (t := 3) (a := ⟨b1, 0, none⟩) (by kernel_rfl) (H4.loads (by kernel_rfl))) (d := (some 44)) (by kernel_rfl) rfl ?_
        refine og 2 [(1, (ptr b1)), (2, (i64 0)), (3, (Value.bool (o.kind == 4))), (42, (Value.bool (o.kind == 5)))] 4 ?_
        refine od ?_
        refine q_cond (o := .tmp 42) (b := (o.kind == 5)) (by kernel_rfl) rfl (fun h122 => ?_) (fun h122 => ?_)
        ·rw [h122]
         have p123 : o.kind = 5 := of_beq_t h122
         refine qs ?_
         refine qg ?_
         refine og 1 [(1, (ptr b1)), (2, (i64 0)), (3, (Value.bool (o.kind == 4)))] 1 ?_
         refine od ?_
         refine q_ret (by kernel_rfl) ?_
         refine ⟨(i64 0), retv_tmp rfl rfl, ?_⟩
         exfalso; omega
        ·rw [h122]
         have p124 : ¬ (o.kind = 5) := of_beq_f h122
         refine qs ?_
         refine qs ?_
         refine qg ?_
         refine og 1 [(1, (ptr b1)), (2, (i64 0)), (3, (Value.bool (o.kind == 4))), (47, (Value.pointer (some ⟨b1, 4, none⟩)))] 1 ?_
         refine Ops.go (v := (Value.string (str o.key))) (by kernel_rfl) (Runs.load (t := 9) (a := ⟨b1, 4, none⟩) (by kernel_rfl) (H4.loads (by kernel_rfl))) (d := (some 48)) (by kernel_rfl) rfl ?_
         refine Ops.call (by kernel_rfl) (d := (some 49)) (by kernel_rfl) (Name_calls _ o.key) ?_
         rintro _ w126 ⟨rfl, K125⟩
         refine ⟨_, _, rfl, rfl, ?_⟩
         replace K0 := K0.t0 K125
         replace H4 := H4.keep K125 (fun h => h)
         clear K125
         refine og 2 [(1, (ptr b1)), (2, (i64 0)), (3, (Value.bool (o.kind == 4))), (46, (Value.bool (!(nameOk o.key))))] 5 ?_
         refine od ?_
         refine q_cond (o := .tmp 46) (b := (!(nameOk o.key))) (by kernel_rfl) rfl (fun h127 => ?_) (fun h127 => ?_)
         ·rw [h127]
          have p128 : (nameOk o.key) = false := (bnot_true h127)
          refine q_skip (by kernel_rfl) ?_
          refine q_then (o := .tmp 46) (by kernel_rfl) rfl ?_
          refine qs ?_
          refine qg ?_
          refine og 1 [(1, (ptr b1)), (2, (i64 46)), (3, (Value.bool (o.kind == 4)))] 1 ?_
          refine od ?_
          refine q_ret (by kernel_rfl) ?_
          refine ⟨(i64 46), retv_tmp rfl rfl, ?_⟩
          have e : wrongE o = 46 := by unfold wrongE; rw [if_neg (by omega), if_neg (by omega), if_neg (by omega), if_neg (ne_of_t (by assumption)), if_neg (by omega), if_pos (by assumption)]
          exact ⟨by rw [e], K0⟩
         ·rw [h127]
          have p129 : (nameOk o.key) = true := (bnot_false h127)
          refine qg ?_
          refine og 2 [(1, (ptr b1)), (2, (i64 0)), (3, (Value.bool (o.kind == 4))), (46, (Value.bool false)), (52, (Value.bool (o.kind == 4)))] 2 ?_
          rw [h115]
          refine og 1 [(1, (ptr b1)), (2, (i64 0)), (3, (Value.bool true)), (46, (Value.bool false)), (52, (Value.bool true)), (53, (Value.pointer (some ⟨b1, 2, none⟩)))] 3 ?_
          refine Ops.go (v := (Value.string (str o.to))) (by kernel_rfl) (Runs.load (t := 9) (a := ⟨b1, 2, none⟩) (by kernel_rfl) (H4.loads (by kernel_rfl))) (d := (some 54)) (by kernel_rfl) rfl ?_
          refine Ops.call (by kernel_rfl) (d := (some 55)) (by kernel_rfl) (Name_calls _ o.to) ?_
          rintro _ w131 ⟨rfl, K130⟩
          refine ⟨_, _, rfl, rfl, ?_⟩
          replace K0 := K0.t0 K130
          replace H4 := H4.keep K130 (fun h => h)
          clear K130
          refine og 3 [(1, (ptr b1)), (2, (i64 0)), (3, (Value.bool true)), (46, (Value.bool (!(nameOk o.to))))] 8 ?_
          refine od ?_
          refine q_cond (o := .tmp 46) (b := (!(nameOk o.to))) (by kernel_rfl) rfl (fun h132 => ?_) (fun h132 => ?_)
          ·rw [h132]
           have p133 : (nameOk o.to) = false := (bnot_true h132)
           refine qs ?_
           refine qg ?_
           refine og 1 [(1, (ptr b1)), (2, (i64 46)), (3, (Value.bool true))] 1 ?_
           refine od ?_
           refine q_ret (by kernel_rfl) ?_
           refine ⟨(i64 46), retv_tmp rfl rfl, ?_⟩
           have e : wrongE o = 46 := by unfold wrongE; rw [if_neg (by omega), if_neg (by omega), if_neg (by omega), if_neg (ne_of_t (by assumption)), if_neg (by omega), if_neg (ne_of_t (by assumption)), if_neg (by omega), if_pos ⟨by omega, by assumption⟩]
           exact ⟨by rw [e], K0⟩
          ·rw [h132]
           have p134 : (nameOk o.to) = true := (bnot_false h132)
           refine qs ?_
           refine qg ?_
           refine og 1 [(1, (ptr b1)), (2, (i64 0)), (3, (Value.bool true)), (59, (ptr b1))] 1 ?_
           refine Ops.go (v := (i64 o.kind)) (by kernel_rfl) (Runs.load (t := 3) (a := ⟨b1, 0, none⟩) (by kernel_rfl) (H4.loads (by kernel_rfl))) (d := (some 60)) (by kernel_rfl) rfl ?_
           refine og 2 [(1, (ptr b1)), (2, (i64 0)), (3, (Value.bool true)), (58, (Value.bool (o.kind == 1)))] 4 ?_
           refine od ?_
           rw [h25]
           refine q_else (o := .tmp 58) (by kernel_rfl) rfl ?_
           refine qs ?_
           refine qg ?_
           refine og 1 [(1, (ptr b1)), (2, (i64 0)), (3, (Value.bool true)), (63, (Value.pointer (some ⟨b1, 3, none⟩)))] 1 ?_
           refine Ops.go (v := (i64 o.amount)) (by kernel_rfl) (Runs.load (t := 2) (a := ⟨b1, 3, none⟩) (by kernel_rfl) (H4.loads (by kernel_rfl))) (d := (some 64)) (by kernel_rfl) rfl ?_
           refine og 2 [(1, (ptr b1)), (2, (i64 0)), (3, (Value.bool true)), (62, (Value.bool (decide (o.amount < 1))))] 4 ?_
           refine od ?_
           refine q_cond (o := .tmp 62) (b := (decide (o.amount < 1))) (by kernel_rfl) rfl (fun h135 => ?_) (fun h135 => ?_)
           ·rw [h135]
            have p136 : o.amount < 1 := of_decide_eq_true h135
            refine qs ?_
            refine qg ?_
            refine og 1 [(1, (ptr b1)), (2, (i64 47)), (3, (Value.bool true))] 1 ?_
            refine od ?_
            refine q_ret (by kernel_rfl) ?_
            refine ⟨(i64 47), retv_tmp rfl rfl, ?_⟩
            have e : wrongE o = 47 := by unfold wrongE; rw [if_neg (by omega), if_neg (by omega), if_neg (by omega), if_neg (ne_of_t (by assumption)), if_neg (by omega), if_neg (ne_of_t (by assumption)), if_neg (by omega), if_neg (and_ne_of_t (by assumption)), if_pos (by omega)]
            exact ⟨by rw [e], K0⟩
           ·rw [h135]
            have p137 : ¬ (o.amount < 1) := of_decide_eq_false h135
            refine qs ?_
            refine qg ?_
            refine og 3 [(1, (ptr b1)), (2, (i64 0)), (68, (Value.bool true)), (69, (Value.pointer (some ⟨b1, 1, none⟩)))] 3 ?_
            refine Ops.go (v := (Value.string (str o.frm))) (by kernel_rfl) (Runs.load (t := 9) (a := ⟨b1, 1, none⟩) (by kernel_rfl) (H4.loads (by kernel_rfl))) (d := (some 70)) (by kernel_rfl) rfl ?_
            refine og 1 [(2, (i64 0)), (68, (Value.bool true)), (70, (Value.string (str o.frm))), (71, (Value.pointer (some ⟨b1, 2, none⟩)))] 5 ?_
            refine Ops.go (v := (Value.string (str o.to))) (by kernel_rfl) (Runs.load (t := 9) (a := ⟨b1, 2, none⟩) (by kernel_rfl) (H4.loads (by kernel_rfl))) (d := (some 72)) (by kernel_rfl) rfl ?_
            refine Ops.go (v := (Value.bool (o.frm == o.to))) (by kernel_rfl) (Runs.streq (t := 9) (by kernel_rfl)) (d := (some 73)) (by kernel_rfl) rfl ?_
            refine og 2 [(2, (i64 0)), (66, (Value.bool (o.frm == o.to)))] 9 ?_
            refine od ?_
            refine q_cond (o := .tmp 66) (b := (o.frm == o.to)) (by kernel_rfl) rfl (fun h138 => ?_) (fun h138 => ?_)
            ·rw [h138]
             have p139 : (o.frm == o.to) = true := h138
             refine qs ?_
             refine qg ?_
             refine og 1 [(2, (i64 44))] 1 ?_
             refine od ?_
             refine q_ret (by kernel_rfl) ?_
             refine ⟨(i64 44), retv_tmp rfl rfl, ?_⟩
             have e : wrongE o = 44 := by unfold wrongE; rw [if_neg (by omega), if_neg (by omega), if_neg (by omega), if_neg (ne_of_t (by assumption)), if_neg (by omega), if_neg (ne_of_t (by assumption)), if_neg (by omega), if_neg (and_ne_of_t (by assumption)), if_neg (by omega), if_pos ⟨by omega, by first | exact beq_true_eq (by assumption) | exact (beq_true_eq (by assumption)).symm⟩]
             exact ⟨by rw [e], K0⟩
            ·rw [h138]
             have p140 : (o.frm == o.to) = false := h138
             refine q_skip (by kernel_rfl) ?_
             refine qs ?_
             refine qg ?_
             refine og 1 [(2, (i64 0))] 1 ?_
             refine od ?_
             refine q_ret (by kernel_rfl) ?_
             refine ⟨(i64 0), retv_tmp rfl rfl, ?_⟩
             have e : wrongE o = 0 := by unfold wrongE; rw [if_neg (by omega), if_neg (by omega), if_neg (by omega), if_neg (ne_of_t (by assumption)), if_neg (by omega), if_neg (ne_of_t (by assumption)), if_neg (by omega), if_neg (and_ne_of_t (by assumption)), if_neg (by omega), if_neg (and_ne (by first | exact beq_false_ne (by assumption) | exact fun h => beq_false_ne (by assumption) h.symm))]
             exact ⟨by rw [e], K0⟩
      ·rw [h115]
       have p141 : ¬ (o.kind = 4) := of_beq_f h115
       refine qg ?_
       refine og 2 [(1, (ptr b1)), (2, (i64 0)), (28, (Value.bool (o.kind == 5)))] 2 ?_
       refine od ?_
       refine q_cond (o := .tmp 28) (b := (o.kind == 5)) (by kernel_rfl) rfl (fun h142 => ?_) (fun h142 => ?_)
       ·rw [h142]
        have p143 : o.kind = 5 := of_beq_t h142
        refine q_skip (by kernel_rfl) ?_
        refine qs ?_
        refine qg ?_
        refine og 1 [(1, (ptr b1)), (2, (i64 0)), (34, (ptr b1))] 1 ?_
        refine Ops.go (v := (i64 o.kind)) (by kernel_rfl) (Runs.load (t := 3) (a := ⟨b1, 0, none⟩) (by kernel_rfl) (H4.loads (by kernel_rfl))) (d := (some 35)) (by kernel_rfl) rfl ?_
        refine og 2 [(1, (ptr b1)), (2, (i64 0)), (3, (Value.bool (o.kind == 4)))] 4 ?_
        refine od ?_
        refine qs ?_
        refine q_block (id := 1) (by kernel_rfl) ?_
        refine qs ?_
        refine qg ?_
        refine og 1 [(1, (ptr b1)), (2, (i64 0)), (3, (Value.bool (o.kind == 4))), (38, (Value.pointer (some ⟨b1, 1, none⟩)))] 1 ?_
        refine Ops.go (v := (Value.string (str o.frm))) (by kernel_rfl) (Runs.load (t := 9) (a := ⟨b1, 1, none⟩) (by kernel_rfl) (H4.loads (by kernel_rfl))) (d := (some 39)) (by kernel_rfl) rfl ?_
        refine Ops.call (by kernel_rfl) (d := (some 40)) (by kernel_rfl) (Name_calls _ o.frm) ?_
        rintro _ w145 ⟨rfl, K144⟩
        refine ⟨_, _, rfl, rfl, ?_⟩
        replace K0 := K0.t0 K144
        replace H4 := H4.keep K144 (fun h => h)
        clear K144
        refine og 2 [(1, (ptr b1)), (2, (i64 0)), (3, (Value.bool (o.kind == 4))), (37, (Value.bool (!(nameOk o.frm))))] 5 ?_
        refine od ?_
        refine q_cond (o := .tmp 37) (b := (!(nameOk o.frm))) (by kernel_rfl) rfl (fun h146 => ?_) (fun h146 => ?_)
        ·rw [h146]
         have p147 : (nameOk o.frm) = false := (bnot_true h146)
         refine qs ?_
         refine qg ?_
         refine og 1 [(1, (ptr b1)), (2, (i64 46)), (3, (Value.bool (o.kind == 4)))] 1 ?_
         refine od ?_
         refine q_ret (by kernel_rfl) ?_
         refine ⟨(i64 46), retv_tmp rfl rfl, ?_⟩
         have e : wrongE o = 46 := by unfold wrongE; rw [if_neg (by omega), if_neg (by omega), if_neg (by omega), if_pos (by assumption)]
         exact ⟨by rw [e], K0⟩
        ·rw [h146]
         have p148 : (nameOk o.frm) = true := (bnot_false h146)
         refine qs ?_
         refine qg ?_
         refine og 1 [(1, (ptr b1)), (2, (i64 0)), (3, (Value.bool (o.kind == 4))), (43, (ptr b1))] 1 ?_
         refine Ops.go (v := (i64 o.kind)) (by kernel_rfl) (Runs.load (t := 3) (a := ⟨b1, 0, none⟩) (by kernel_rfl) (H4.loads (by kernel_rfl))) (d := (some 44)) (by kernel_rfl) rfl ?_
         refine og 2 [(1, (ptr b1)), (2, (i64 0)), (3, (Value.bool (o.kind == 4))), (42, (Value.bool (o.kind == 5)))] 4 ?_
         refine od ?_
         rw [h142]
         refine q_then (o := .tmp 42) (by kernel_rfl) rfl ?_
         refine qs ?_
         refine qg ?_
         refine og 1 [(1, (ptr b1)), (2, (i64 0)), (3, (Value.bool (o.kind == 4)))] 1 ?_
         refine od ?_
         refine q_ret (by kernel_rfl) ?_
         refine ⟨(i64 0), retv_tmp rfl rfl, ?_⟩
         have e : wrongE o = 0 := by unfold wrongE; rw [if_neg (by omega), if_neg (by omega), if_neg (by omega), if_neg (ne_of_t (by assumption)), if_pos (by omega)]
         exact ⟨by rw [e], K0⟩
       ·rw [h142]
        have p149 : ¬ (o.kind = 5) := of_beq_f h142
        refine qs ?_
        refine qg ?_
        refine og 1 [(1, (ptr b1)), (2, (i64 1))] 1 ?_
        refine od ?_
        refine q_ret (by kernel_rfl) ?_
        refine ⟨(i64 1), retv_tmp rfl rfl, ?_⟩
        have e : wrongE o = 1 := by unfold wrongE; rw [if_neg (by omega), if_neg (by omega), if_pos (by omega)]
        exact ⟨by rw [e], K0⟩

theorem RWrong_calls (w : World) (o : Opm)  : Calls Tryz.prog 39 ⟨[(agg [(i64 o.kind), (Value.string (str o.frm)), (Value.string (str o.to)), (i64 o.amount), (Value.string (str o.key)), (i64 o.slot), (i64 o.shard)])]⟩ w (fun e w' => e = .returned (i64 (wrongE o)) ∧ Keeps none_ w w') := by
 have K0 : Keeps none_ w w := Keeps.refl w
 refine q_calls Tryz.func39 (by kernel_rfl) (by kernel_rfl) ?_
 refine qs ?_
 refine qg ?_
 refine Ops.new (o := rowL [(i64 o.kind), (Value.string (str o.frm)), (Value.string (str o.to)), (i64 o.amount), (Value.string (str o.key)), (i64 o.slot), (i64 o.shard)] 24) (V := fun b => (ptr b)) (by kernel_rfl) (d := (some 1)) (by kernel_rfl) (fun b => rfl) (fun b1 w2 hb3 H4 K5 hs6 => ?_)
 have nb1 : w.heap.size ≤ b1 := by have := K0.size; omega
 replace K0 := K0.t0 K5
 clear K5 hs6
 refine og 1 [(1, (ptr b1)), (2, (i64 0))] 2 ?_
 refine od ?_
 refine qs ?_
 refine q_block (id := 0) (by kernel_rfl) ?_
 refine qs ?_
 refine qg ?_
 refine og 1 [(1, (ptr b1)), (2, (i64 0)), (4, (ptr b1))] 1 ?_
 refine Ops.go (v := (i64 o.kind)) (by kernel_rfl) (Runs.load (t := 3) (a := ⟨b1, 0, none⟩) (by kernel_rfl) (H4.loads (by kernel_rfl))) (d := (some 5)) (by kernel_rfl) rfl ?_
 refine og 2 [(1, (ptr b1)), (2, (i64 0)), (7, (Value.bool (decide (o.kind < 1))))] 4 ?_
 refine Ops.split (decide (o.kind < 1)) (fun h7 => ?_) (fun h7 => ?_)
 ·rw [h7]
  have p8 : o.kind < 1 := of_decide_eq_true h7
  refine og 5 [(1, (ptr b1)), (2, (i64 0)), (3, (Value.bool true))] 9 ?_
  refine od ?_
  refine q_then (o := .tmp 3) (by kernel_rfl) rfl ?_
  refine qs ?_
  refine qg ?_
  refine og 1 [(1, (ptr b1)), (2, (i64 1))] 1 ?_
  refine od ?_
  refine q_ret (by kernel_rfl) ?_
  refine ⟨(i64 1), retv_tmp rfl rfl, ?_⟩
  have e : wrongE o = 1 := by unfold wrongE; rw [if_neg (by omega), if_neg (by omega), if_pos (by omega)]
  exact ⟨by rw [e], K0⟩
 ·rw [h7]
  have p9 : ¬ (o.kind < 1) := of_decide_eq_false h7
  refine og 1 [(1, (ptr b1)), (2, (i64 0)), (7, (Value.bool false)), (8, (ptr b1))] 5 ?_
  refine Ops.go (v := (i64 o.kind)) (by kernel_rfl) (Runs.load (t := 3) (a := ⟨b1, 0, none⟩) (by kernel_rfl) (H4.loads (by kernel_rfl))) (d := (some 9)) (by kernel_rfl) rfl ?_
  refine og 3 [(1, (ptr b1)), (2, (i64 0)), (3, (Value.bool (decide (o.kind > 7))))] 9 ?_
  refine od ?_
  refine q_cond (o := .tmp 3) (b := (decide (o.kind > 7))) (by kernel_rfl) rfl (fun h10 => ?_) (fun h10 => ?_)
  ·rw [h10]
   have p11 : o.kind > 7 := of_decide_eq_true h10
   refine qs ?_
   refine qg ?_
   refine og 1 [(1, (ptr b1)), (2, (i64 1))] 1 ?_
   refine od ?_
   refine q_ret (by kernel_rfl) ?_
   refine ⟨(i64 1), retv_tmp rfl rfl, ?_⟩
   have e : wrongE o = 1 := by unfold wrongE; rw [if_neg (by omega), if_neg (by omega), if_pos (by omega)]
   exact ⟨by rw [e], K0⟩
  ·rw [h10]
   have p12 : ¬ (o.kind > 7) := of_decide_eq_false h10
   refine qs ?_
   refine qg ?_
   refine og 1 [(1, (ptr b1)), (2, (i64 0)), (13, (ptr b1))] 1 ?_
   refine Ops.go (v := (i64 o.kind)) (by kernel_rfl) (Runs.load (t := 3) (a := ⟨b1, 0, none⟩) (by kernel_rfl) (H4.loads (by kernel_rfl))) (d := (some 14)) (by kernel_rfl) rfl ?_
   refine og 2 [(1, (ptr b1)), (2, (i64 0)), (12, (Value.bool (o.kind == 6)))] 4 ?_
   refine od ?_
   refine q_cond (o := .tmp 12) (b := (o.kind == 6)) (by kernel_rfl) rfl (fun h13 => ?_) (fun h13 => ?_)
   ·rw [h13]
    have p14 : o.kind = 6 := of_beq_t h13
    refine qs ?_
    refine qg ?_
    refine og 1 [(1, (ptr b1)), (2, (i64 0))] 1 ?_
    refine od ?_
    refine q_ret (by kernel_rfl) ?_
    refine ⟨(i64 0), retv_tmp rfl rfl, ?_⟩
    have e : wrongE o = 0 := by unfold wrongE; rw [if_pos (by omega)]
    exact ⟨by rw [e], K0⟩
   ·rw [h13]
    have p15 : ¬ (o.kind = 6) := of_beq_f h13
    refine qs ?_
    refine qg ?_
    refine og 1 [(1, (ptr b1)), (2, (i64 0)), (17, (ptr b1))] 1 ?_
    refine Ops.go (v := (i64 o.kind)) (by kernel_rfl) (Runs.load (t := 3) (a := ⟨b1, 0, none⟩) (by kernel_rfl) (H4.loads (by kernel_rfl))) (d := (some 18)) (by kernel_rfl) rfl ?_
    refine og 2 [(1, (ptr b1)), (2, (i64 0)), (16, (Value.bool (o.kind == 7)))] 4 ?_
    refine od ?_
    refine q_cond (o := .tmp 16) (b := (o.kind == 7)) (by kernel_rfl) rfl (fun h16 => ?_) (fun h16 => ?_)
    ·rw [h16]
     have p17 : o.kind = 7 := of_beq_t h16
     refine qs ?_
     refine qs ?_
     refine qg ?_
     refine og 1 [(1, (ptr b1)), (2, (i64 0)), (20, (Value.pointer (some ⟨b1, 5, none⟩)))] 1 ?_
     refine Ops.go (v := (i64 o.slot)) (by kernel_rfl) (Runs.load (t := 3) (a := ⟨b1, 5, none⟩) (by kernel_rfl) (H4.loads (by kernel_rfl))) (d := (some 21)) (by kernel_rfl) rfl ?_
     refine og 2 [(1, (ptr b1)), (2, (i64 0)), (23, (Value.bool (decide (o.slot < 0))))] 4 ?_
     refine Ops.split (decide (o.slot < 0)) (fun h18 => ?_) (fun h18 => ?_)
     ·rw [h18]
      have p19 : o.slot < 0 := of_decide_eq_true h18
      refine og 14 [(1, (ptr b1)), (2, (i64 0)), (37, (Value.bool true))] 18 ?_
      refine od ?_
      refine q_then (o := .tmp 37) (by kernel_rfl) rfl ?_
      refine qs ?_
      refine qg ?_
      refine og 1 [(1, (ptr b1)), (2, (i64 1))] 1 ?_
      refine od ?_
      refine q_ret (by kernel_rfl) ?_
      refine ⟨(i64 1), retv_tmp rfl rfl, ?_⟩
      have e : wrongE o = 1 := by unfold wrongE; rw [if_neg (by omega), if_pos (by omega), if_pos (by omega)]
      exact ⟨by rw [e], K0⟩
     ·rw [h18]
      have p20 : ¬ (o.slot < 0) := of_decide_eq_false h18
      refine og 1 [(1, (ptr b1)), (2, (i64 0)), (23, (Value.bool false)), (24, (Value.pointer (some ⟨b1, 5, none⟩)))] 5 ?_
      refine Ops.go (v := (i64 o.slot)) (by kernel_rfl) (Runs.load (t := 3) (a := ⟨b1, 5, none⟩) (by kernel_rfl) (H4.loads (by kernel_rfl))) (d := (some 25)) (by kernel_rfl) rfl ?_
      refine og 3 [(1, (ptr b1)), (2, (i64 0)), (28, (Value.bool (decide (o.slot > 15))))] 9 ?_
      refine Ops.split (decide (o.slot > 15)) (fun h21 => ?_) (fun h21 => ?_)
      ·rw [h21]
       have p22 : o.slot > 15 := of_decide_eq_true h21
       refine og 9 [(1, (ptr b1)), (2, (i64 0)), (37, (Value.bool true))] 18 ?_
       refine od ?_
       refine q_then (o := .tmp 37) (by kernel_rfl) rfl ?_
       refine qs ?_
       refine qg ?_
       refine og 1 [(1, (ptr b1)), (2, (i64 1))] 1 ?_
       refine od ?_
       refine q_ret (by kernel_rfl) ?_
       refine ⟨(i64 1), retv_tmp rfl rfl, ?_⟩
       have e : wrongE o = 1 := by unfold wrongE; rw [if_neg (by omega), if_pos (by omega), if_pos (by omega)]
       exact ⟨by rw [e], K0⟩
      ·rw [h21]
       have p23 : ¬ (o.slot > 15) := of_decide_eq_false h21
       refine og 1 [(1, (ptr b1)), (2, (i64 0)), (28, (Value.bool false)), (29, (Value.pointer (some ⟨b1, 6, none⟩)))] 10 ?_
       refine Ops.go (v := (i64 o.shard)) (by kernel_rfl) (Runs.load (t := 3) (a := ⟨b1, 6, none⟩) (by kernel_rfl) (H4.loads (by kernel_rfl))) (d := (some 30)) (by kernel_rfl) rfl ?_
       refine og 3 [(1, (ptr b1)), (2, (i64 0)), (33, (Value.bool (decide (o.shard < 1))))] 14 ?_
       refine Ops.split (decide (o.shard < 1)) (fun h24 => ?_) (fun h24 => ?_)
       ·rw [h24]
        have p25 : o.shard < 1 := of_decide_eq_true h24
        refine og 4 [(1, (ptr b1)), (2, (i64 0)), (37, (Value.bool true))] 18 ?_
        refine od ?_
        refine q_then (o := .tmp 37) (by kernel_rfl) rfl ?_
        refine qs ?_
        refine qg ?_
        refine og 1 [(1, (ptr b1)), (2, (i64 1))] 1 ?_
        refine od ?_
        refine q_ret (by kernel_rfl) ?_
        refine ⟨(i64 1), retv_tmp rfl rfl, ?_⟩
        have e : wrongE o = 1 := by unfold wrongE; rw [if_neg (by omega), if_pos (by omega), if_pos (by omega)]
        exact ⟨by rw [e], K0⟩
       ·rw [h24]
        have p26 : ¬ (o.shard < 1) := of_decide_eq_false h24
        refine og 1 [(1, (ptr b1)), (2, (i64 0)), (33, (Value.bool false)), (34, (Value.pointer (some ⟨b1, 6, none⟩)))] 15 ?_
        refine Ops.go (v := (i64 o.shard)) (by kernel_rfl) (Runs.load (t := 3) (a := ⟨b1, 6, none⟩) (by kernel_rfl) (H4.loads (by kernel_rfl))) (d := (some 35)) (by kernel_rfl) rfl ?_
        refine og 2 [(1, (ptr b1)), (2, (i64 0)), (37, (Value.bool (decide (o.shard > 3))))] 18 ?_
        refine od ?_
        refine q_cond (o := .tmp 37) (b := (decide (o.shard > 3))) (by kernel_rfl) rfl (fun h27 => ?_) (fun h27 => ?_)
        ·rw [h27]
         have p28 : o.shard > 3 := of_decide_eq_true h27
         refine qs ?_
         refine qg ?_
         refine og 1 [(1, (ptr b1)), (2, (i64 1))] 1 ?_
         refine od ?_
         refine q_ret (by kernel_rfl) ?_
         refine ⟨(i64 1), retv_tmp rfl rfl, ?_⟩
         have e : wrongE o = 1 := by unfold wrongE; rw [if_neg (by omega), if_pos (by omega), if_pos (by omega)]
         exact ⟨by rw [e], K0⟩
        ·rw [h27]
         have p29 : ¬ (o.shard > 3) := of_decide_eq_false h27
         refine q_skip (by kernel_rfl) ?_
         refine qs ?_
         refine qg ?_
         refine og 1 [(1, (ptr b1)), (2, (i64 0))] 1 ?_
         refine od ?_
         refine q_ret (by kernel_rfl) ?_
         refine ⟨(i64 0), retv_tmp rfl rfl, ?_⟩
         have e : wrongE o = 0 := by unfold wrongE; rw [if_neg (by omega), if_pos (by omega), if_neg (by omega)]
         exact ⟨by rw [e], K0⟩
    ·rw [h16]
     have p30 : ¬ (o.kind = 7) := of_beq_f h16
     refine qs ?_
     refine qg ?_
     refine og 1 [(1, (ptr b1)), (2, (i64 0)), (39, (Value.pointer (some ⟨b1, 1, none⟩)))] 1 ?_
     refine Ops.go (v := (Value.string (str o.frm))) (by kernel_rfl) (Runs.load (t := 9) (a := ⟨b1, 1, none⟩) (by kernel_rfl) (H4.loads (by kernel_rfl))) (d := (some 40)) (by kernel_rfl) rfl ?_
     refine Ops.call (by kernel_rfl) (d := (some 41)) (by kernel_rfl) (RName_calls _ o.frm) ?_
     rintro _ w32 ⟨rfl, K31⟩
     refine ⟨_, _, rfl, rfl, ?_⟩
     replace K0 := K0.t0 K31
     replace H4 := H4.keep K31 (fun h => h)
     clear K31
     refine og 2 [(1, (ptr b1)), (2, (i64 0)), (38, (Value.bool (!(nameOk o.frm))))] 5 ?_
     refine od ?_
     refine q_cond (o := .tmp 38) (b := (!(nameOk o.frm))) (by kernel_rfl) rfl (fun h33 => ?_) (fun h33 => ?_)
     ·rw [h33]
      have p34 : (nameOk o.frm) = false := (bnot_true h33)
      refine qs ?_
      refine qg ?_
      refine og 1 [(1, (ptr b1)), (2, (i64 46))] 1 ?_
      refine od ?_
      refine q_ret (by kernel_rfl) ?_
      refine ⟨(i64 46), retv_tmp rfl rfl, ?_⟩
      have e : wrongE o = 46 := by unfold wrongE; rw [if_neg (by omega), if_neg (by omega), if_neg (by omega), if_pos (by assumption)]
      exact ⟨by rw [e], K0⟩
     ·rw [h33]
      have p35 : (nameOk o.frm) = true := (bnot_false h33)
      refine qs ?_
      refine qg ?_
      refine og 1 [(1, (ptr b1)), (2, (i64 0)), (44, (ptr b1))] 1 ?_
      refine Ops.go (v := (i64 o.kind)) (by kernel_rfl) (Runs.load (t := 3) (a := ⟨b1, 0, none⟩) (by kernel_rfl) (H4.loads (by kernel_rfl))) (d := (some 45)) (by kernel_rfl) rfl ?_
      refine og 2 [(1, (ptr b1)), (2, (i64 0)), (43, (Value.bool (o.kind == 5)))] 4 ?_
      refine od ?_
      refine q_cond (o := .tmp 43) (b := (o.kind == 5)) (by kernel_rfl) rfl (fun h36 => ?_) (fun h36 => ?_)
      ·rw [h36]
       have p37 : o.kind = 5 := of_beq_t h36
       refine qs ?_
       refine qg ?_
       refine og 1 [(1, (ptr b1)), (2, (i64 0))] 1 ?_
       refine od ?_
       refine q_ret (by kernel_rfl) ?_
       refine ⟨(i64 0), retv_tmp rfl rfl, ?_⟩
       have e : wrongE o = 0 := by unfold wrongE; rw [if_neg (by omega), if_neg (by omega), if_neg (by omega), if_neg (ne_of_t (by assumption)), if_pos (by omega)]
       exact ⟨by rw [e], K0⟩
      ·rw [h36]
       have p38 : ¬ (o.kind = 5) := of_beq_f h36
       refine qs ?_
       refine qg ?_
       refine og 1 [(1, (ptr b1)), (2, (i64 0)), (48, (Value.pointer (some ⟨b1, 4, none⟩)))] 1 ?_
       refine Ops.go (v := (Value.string (str o.key))) (by kernel_rfl) (Runs.load (t := 9) (a := ⟨b1, 4, none⟩) (by kernel_rfl) (H4.loads (by kernel_rfl))) (d := (some 49)) (by kernel_rfl) rfl ?_
       refine Ops.call (by kernel_rfl) (d := (some 50)) (by kernel_rfl) (RName_calls _ o.key) ?_
       rintro _ w40 ⟨rfl, K39⟩
       refine ⟨_, _, rfl, rfl, ?_⟩
       replace K0 := K0.t0 K39
       replace H4 := H4.keep K39 (fun h => h)
       clear K39
       refine og 2 [(1, (ptr b1)), (2, (i64 0)), (47, (Value.bool (!(nameOk o.key))))] 5 ?_
       refine od ?_
       refine q_cond (o := .tmp 47) (b := (!(nameOk o.key))) (by kernel_rfl) rfl (fun h41 => ?_) (fun h41 => ?_)
       ·rw [h41]
        have p42 : (nameOk o.key) = false := (bnot_true h41)
        refine qs ?_
        refine qg ?_
        refine og 1 [(1, (ptr b1)), (2, (i64 46))] 1 ?_
        refine od ?_
        refine q_ret (by kernel_rfl) ?_
        refine ⟨(i64 46), retv_tmp rfl rfl, ?_⟩
        have e : wrongE o = 46 := by unfold wrongE; rw [if_neg (by omega), if_neg (by omega), if_neg (by omega), if_neg (ne_of_t (by assumption)), if_neg (by omega), if_pos (by assumption)]
        exact ⟨by rw [e], K0⟩
       ·rw [h41]
        have p43 : (nameOk o.key) = true := (bnot_false h41)
        refine qs ?_
        refine qg ?_
        refine og 1 [(1, (ptr b1)), (2, (i64 0)), (53, (ptr b1))] 1 ?_
        refine Ops.go (v := (i64 o.kind)) (by kernel_rfl) (Runs.load (t := 3) (a := ⟨b1, 0, none⟩) (by kernel_rfl) (H4.loads (by kernel_rfl))) (d := (some 54)) (by kernel_rfl) rfl ?_
        refine og 2 [(1, (ptr b1)), (2, (i64 0)), (52, (Value.bool (o.kind == 1)))] 4 ?_
        refine od ?_
        refine q_cond (o := .tmp 52) (b := (o.kind == 1)) (by kernel_rfl) rfl (fun h44 => ?_) (fun h44 => ?_)
        ·rw [h44]
         have p45 : o.kind = 1 := of_beq_t h44
         refine qs ?_
         refine qg ?_
         refine og 1 [(1, (ptr b1)), (2, (i64 0))] 1 ?_
         refine od ?_
         refine q_ret (by kernel_rfl) ?_
         refine ⟨(i64 0), retv_tmp rfl rfl, ?_⟩
         have e : wrongE o = 0 := by unfold wrongE; rw [if_neg (by omega), if_neg (by omega), if_neg (by omega), if_neg (ne_of_t (by assumption)), if_neg (by omega), if_neg (ne_of_t (by assumption)), if_pos (by omega)]
         exact ⟨by rw [e], K0⟩
        ·rw [h44]
         have p46 : ¬ (o.kind = 1) := of_beq_f h44
         refine qs ?_
         refine qg ?_
         refine og 1 [(1, (ptr b1)), (2, (i64 0)), (57, (ptr b1))] 1 ?_
         refine Ops.go (v := (i64 o.kind)) (by kernel_rfl) (Runs.load (t := 3) (a := ⟨b1, 0, none⟩) (by kernel_rfl) (H4.loads (by kernel_rfl))) (d := (some 58)) (by kernel_rfl) rfl ?_
         refine og 2 [(1, (ptr b1)), (2, (i64 0)), (60, (Value.bool (o.kind == 4)))] 4 ?_
         refine Ops.split (o.kind == 4) (fun h47 => ?_) (fun h47 => ?_)
         ·rw [h47]
          have p48 : o.kind = 4 := of_beq_t h47
          refine og 1 [(1, (ptr b1)), (2, (i64 0)), (60, (Value.bool true)), (61, (Value.pointer (some ⟨b1, 2, none⟩)))] 5 ?_
          refine Ops.go (v := (Value.string (str o.to))) (by kernel_rfl) (Runs.load (t := 9) (a := ⟨b1, 2, none⟩) (by kernel_rfl) (H4.loads (by kernel_rfl))) (d := (some 62)) (by kernel_rfl) rfl ?_
          refine Ops.call (by kernel_rfl) (d := (some 63)) (by kernel_rfl) (RName_calls _ o.to) ?_
          rintro _ w50 ⟨rfl, K49⟩
          refine ⟨_, _, rfl, rfl, ?_⟩
          replace K0 := K0.t0 K49
          replace H4 := H4.keep K49 (fun h => h)
          clear K49
          refine og 3 [(1, (ptr b1)), (2, (i64 0)), (56, (Value.bool (!(nameOk o.to))))] 10 ?_
          refine od ?_
          refine q_cond (o := .tmp 56) (b := (!(nameOk o.to))) (by kernel_rfl) rfl (fun h51 => ?_) (fun h51 => ?_)
          ·rw [h51]
           have p52 : (nameOk o.to) = false := (bnot_true h51)
           refine qs ?_
           refine qg ?_
           refine og 1 [(1, (ptr b1)), (2, (i64 46))] 1 ?_
           refine od ?_
           refine q_ret (by kernel_rfl) ?_
           refine ⟨(i64 46), retv_tmp rfl rfl, ?_⟩
           have e : wrongE o = 46 := by unfold wrongE; rw [if_neg (by omega), if_neg (by omega), if_neg (by omega), if_neg (ne_of_t (by assumption)), if_neg (by omega), if_neg (ne_of_t (by assumption)), if_neg (by omega), if_pos ⟨by omega, by assumption⟩]
           exact ⟨by rw [e], K0⟩
          ·rw [h51]
           have p53 : (nameOk o.to) = true := (bnot_false h51)
           refine qs ?_
           refine qg ?_
           refine og 1 [(1, (ptr b1)), (2, (i64 0)), (67, (Value.pointer (some ⟨b1, 3, none⟩)))] 1 ?_
           refine Ops.go (v := (i64 o.amount)) (by kernel_rfl) (Runs.load (t := 2) (a := ⟨b1, 3, none⟩) (by kernel_rfl) (H4.loads (by kernel_rfl))) (d := (some 68)) (by kernel_rfl) rfl ?_
           refine og 2 [(1, (ptr b1)), (2, (i64 0)), (66, (Value.bool (decide (o.amount < 1))))] 4 ?_
           refine od ?_
           refine q_cond (o := .tmp 66) (b := (decide (o.amount < 1))) (by kernel_rfl) rfl (fun h54 => ?_) (fun h54 => ?_)
           ·rw [h54]
            have p55 : o.amount < 1 := of_decide_eq_true h54
            refine qs ?_
            refine qg ?_
            refine og 1 [(1, (ptr b1)), (2, (i64 47))] 1 ?_
            refine od ?_
            refine q_ret (by kernel_rfl) ?_
            refine ⟨(i64 47), retv_tmp rfl rfl, ?_⟩
            have e : wrongE o = 47 := by unfold wrongE; rw [if_neg (by omega), if_neg (by omega), if_neg (by omega), if_neg (ne_of_t (by assumption)), if_neg (by omega), if_neg (ne_of_t (by assumption)), if_neg (by omega), if_neg (and_ne_of_t (by assumption)), if_pos (by omega)]
            exact ⟨by rw [e], K0⟩
           ·rw [h54]
            have p56 : ¬ (o.amount < 1) := of_decide_eq_false h54
            refine qs ?_
            refine qg ?_
            refine og 1 [(1, (ptr b1)), (2, (i64 0)), (71, (ptr b1))] 1 ?_
            refine Ops.go (v := (i64 o.kind)) (by kernel_rfl) (Runs.load (t := 3) (a := ⟨b1, 0, none⟩) (by kernel_rfl) (H4.loads (by kernel_rfl))) (d := (some 72)) (by kernel_rfl) rfl ?_
            refine og 2 [(1, (ptr b1)), (2, (i64 0)), (74, (Value.bool (o.kind == 4)))] 4 ?_
            rw [h47]
            refine og 1 [(1, (ptr b1)), (2, (i64 0)), (74, (Value.bool true)), (75, (Value.pointer (some ⟨b1, 2, none⟩)))] 5 ?_
            refine Ops.go (v := (Value.string (str o.to))) (by kernel_rfl) (Runs.load (t := 9) (a := ⟨b1, 2, none⟩) (by kernel_rfl) (H4.loads (by kernel_rfl))) (d := (some 76)) (by kernel_rfl) rfl ?_
            refine og 1 [(2, (i64 0)), (74, (Value.bool true)), (76, (Value.string (str o.to))), (77, (Value.pointer (some ⟨b1, 1, none⟩)))] 7 ?_
            refine Ops.go (v := (Value.string (str o.frm))) (by kernel_rfl) (Runs.load (t := 9) (a := ⟨b1, 1, none⟩) (by kernel_rfl) (H4.loads (by kernel_rfl))) (d := (some 78)) (by kernel_rfl) rfl ?_
            refine Ops.go (v := (Value.bool (o.to == o.frm))) (by kernel_rfl) (Runs.streq (t := 9) (by kernel_rfl)) (d := (some 79)) (by kernel_rfl) rfl ?_
            refine og 2 [(2, (i64 0)), (70, (Value.bool (o.to == o.frm)))] 11 ?_
            refine od ?_
            refine q_cond (o := .tmp 70) (b := (o.to == o.frm)) (by kernel_rfl) rfl (fun h57 => ?_) (fun h57 => ?_)
            ·rw [h57]
             have p58 : (o.to == o.frm) = true := h57
             refine qs ?_
             refine qg ?_
             refine og 1 [(2, (i64 44))] 1 ?_
             refine od ?_
             refine q_ret (by kernel_rfl) ?_
             refine ⟨(i64 44), retv_tmp rfl rfl, ?_⟩
             have e : wrongE o = 44 := by unfold wrongE; rw [if_neg (by omega), if_neg (by omega), if_neg (by omega), if_neg (ne_of_t (by assumption)), if_neg (by omega), if_neg (ne_of_t (by assumption)), if_neg (by omega), if_neg (and_ne_of_t (by assumption)), if_neg (by omega), if_pos ⟨by omega, by first | exact beq_true_eq (by assumption) | exact (beq_true_eq (by assumption)).symm⟩]
             exact ⟨by rw [e], K0⟩
            ·rw [h57]
             have p59 : (o.to == o.frm) = false := h57
             refine q_skip (by kernel_rfl) ?_
             refine qs ?_
             refine qg ?_
             refine og 1 [(2, (i64 0))] 1 ?_
             refine od ?_
             refine q_ret (by kernel_rfl) ?_
             refine ⟨(i64 0), retv_tmp rfl rfl, ?_⟩
             have e : wrongE o = 0 := by unfold wrongE; rw [if_neg (by omega), if_neg (by omega), if_neg (by omega), if_neg (ne_of_t (by assumption)), if_neg (by omega), if_neg (ne_of_t (by assumption)), if_neg (by omega), if_neg (and_ne_of_t (by assumption)), if_neg (by omega), if_neg (and_ne (by first | exact beq_false_ne (by assumption) | exact fun h => beq_false_ne (by assumption) h.symm))]
             exact ⟨by rw [e], K0⟩
         ·rw [h47]
          have p60 : ¬ (o.kind = 4) := of_beq_f h47
          refine og 6 [(1, (ptr b1)), (2, (i64 0)), (56, (Value.bool false))] 10 ?_
          refine od ?_
          refine q_else (o := .tmp 56) (by kernel_rfl) rfl ?_
          refine qs ?_
          refine qg ?_
          refine og 1 [(1, (ptr b1)), (2, (i64 0)), (67, (Value.pointer (some ⟨b1, 3, none⟩)))] 1 ?_
          refine Ops.go (v := (i64 o.amount)) (by kernel_rfl) (Runs.load (t := 2) (a := ⟨b1, 3, none⟩) (by kernel_rfl) (H4.loads (by kernel_rfl))) (d := (some 68)) (by kernel_rfl) rfl ?_
          refine og 2 [(1, (ptr b1)), (2, (i64 0)), (66, (Value.bool (decide (o.amount < 1))))] 4 ?_
          refine od ?_
          refine q_cond (o := .tmp 66) (b := (decide (o.amount < 1))) (by kernel_rfl) rfl (fun h61 => ?_) (fun h61 => ?_)
          ·rw [h61]
           have p62 : o.amount < 1 := of_decide_eq_true h61
           refine qs ?_
           refine qg ?_
           refine og 1 [(1, (ptr b1)), (2, (i64 47))] 1 ?_
           refine od ?_
           refine q_ret (by kernel_rfl) ?_
           refine ⟨(i64 47), retv_tmp rfl rfl, ?_⟩
           have e : wrongE o = 47 := by unfold wrongE; rw [if_neg (by omega), if_neg (by omega), if_neg (by omega), if_neg (ne_of_t (by assumption)), if_neg (by omega), if_neg (ne_of_t (by assumption)), if_neg (by omega), if_neg (by omega), if_pos (by omega)]
           exact ⟨by rw [e], K0⟩
          ·rw [h61]
           have p63 : ¬ (o.amount < 1) := of_decide_eq_false h61
           refine qs ?_
           refine qg ?_
           refine og 1 [(1, (ptr b1)), (2, (i64 0)), (71, (ptr b1))] 1 ?_
           refine Ops.go (v := (i64 o.kind)) (by kernel_rfl) (Runs.load (t := 3) (a := ⟨b1, 0, none⟩) (by kernel_rfl) (H4.loads (by kernel_rfl))) (d := (some 72)) (by kernel_rfl) rfl ?_
           refine og 2 [(1, (ptr b1)), (2, (i64 0)), (74, (Value.bool (o.kind == 4)))] 4 ?_
           rw [h47]
           refine og 7 [(2, (i64 0)), (70, (Value.bool false))] 11 ?_
           refine od ?_
           refine q_else (o := .tmp 70) (by kernel_rfl) rfl ?_
           refine q_skip (by kernel_rfl) ?_
           refine qs ?_
           refine qg ?_
           refine og 1 [(2, (i64 0))] 1 ?_
           refine od ?_
           refine q_ret (by kernel_rfl) ?_
           refine ⟨(i64 0), retv_tmp rfl rfl, ?_⟩
           have e : wrongE o = 0 := by unfold wrongE; rw [if_neg (by omega), if_neg (by omega), if_neg (by omega), if_neg (ne_of_t (by assumption)), if_neg (by omega), if_neg (ne_of_t (by assumption)), if_neg (by omega), if_neg (by omega), if_neg (by omega), if_neg (by omega)]
           exact ⟨by rw [e], K0⟩
end Go.Proofs.YtnfeemhpoaflfaaGreatDoor
