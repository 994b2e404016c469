/- What the claim stands on, part 7: rules of the walk, contracts of the functions, plain laws. -/
import Derived.Shelf.SlGeneric
import Derived.Shelf.SlIter.Nil
import Derived.Shelf.SortM.Plain
import Derived.Shelf.SortM.SortNone
import Derived.Shelf.Strings.SlTrimAscii
import Derived.Shelf.Strings.BuilderK
import Derived.Shelf.Strconv.Itoa4
import Derived.Shelf.Small.Strs
import Derived.Shelf.SlicesE.Index
import Derived.Shelf.SlSortCmp.NoneTotal
import Derived.Shelf.SlMaps.Clone
import Derived.Ground.GgzProg
import Derived.Ground.SlgmProg
import Derived.Ground.NamesProg
import Derived.Ground.SlmcProg
import Derived.Ground.SlsfProg
import Derived.Ground.SlgnProg
import Derived.Test.YtnfeemhpoaflfaaGreatDoorProg
import Derived.Test.YtnfeemhpoaflfaaGreatDoorKPlaces6
set_option linter.unusedVariables false
namespace Go.Proofs
open Go.Shelf
def Tryz.keys49_ren : Go.Shelf.Ren := ⟨fun | 7 => 49 | 10 => 64 | n => n, fun | 23 => 51 | 26 => 9 | 3 => 2 | 28 => 99 | 0 => 0 | 27 => 98 | 33 => 95 | 4 => 4 | n => n, fun | n => n⟩
theorem Tryz.keys49 : Go.Proofs.SlLaysZ.n7 Tryz.prog Tryz.keys49_ren := {
  mixed := by kernel_rfl
  f7 := ⟨Tryz.f49.name, by decide, Tryz.func49.trans (congrArg some (by kernel_rfl))⟩
  f10 := ⟨Tryz.f64.name, by decide, Tryz.func64.trans (congrArg some (by kernel_rfl))⟩
  t0 := Tryz.underlying0
  a0 := Tryz.isAgg0
  z0 := Tryz.sizeOf0
  v0 := Tryz.zeroValue0
  t4 := Tryz.underlying4
  a4 := Tryz.isAgg4
  z4 := Tryz.sizeOf4
  v4 := Tryz.zeroValue4
  t23 := Tryz.underlying51
  a23 := Tryz.isAgg51
  z23 := Tryz.sizeOf51
  v23 := Tryz.zeroValue51
  t26 := Tryz.underlying9
  a26 := Tryz.isAgg9
  z26 := Tryz.sizeOf9
  v26 := Tryz.zeroValue9
  t27 := Tryz.underlying98
  a27 := Tryz.isAgg98
  z27 := Tryz.sizeOf98
  v27 := Tryz.zeroValue98
  t28 := Tryz.underlying99
  a28 := Tryz.isAgg99
  z28 := Tryz.sizeOf99
  v28 := Tryz.zeroValue99
  t33 := Tryz.underlying95
  a33 := Tryz.isAgg95
  z33 := Tryz.sizeOf95
  v33 := Tryz.zeroValue95 }
def Tryz.sorted48_ren : Go.Shelf.Ren := ⟨fun | 6 => 48 | 8 => 62 | 9 => 63 | 11 => 81 | 13 => 72 | 12 => 82 | 23 => 96 | 24 => 84 | 14 => 101 | 15 => 102 | 16 => 103 | 17 => 104 | 18 => 105 | 19 => 106 | 20 => 107 | 21 => 108 | 22 => 109 | 25 => 120 | 26 => 113 | 27 => 114 | 28 => 121 | 29 => 122 | 30 => 123 | 31 => 129 | n => n, fun | 26 => 9 | 28 => 99 | 24 => 96 | 0 => 0 | 3 => 3 | 37 => 120 | 48 => 133 | 50 => 36 | 4 => 4 | 40 => 138 | 39 => 137 | 45 => 87 | 5 => 5 | 9 => 9 | 51 => 154 | 55 => 158 | 57 => 165 | 58 => 166 | 33 => 95 | n => n, fun | n => n⟩
theorem Tryz.sorted48 : Go.Proofs.SlLaysZ.n6 Tryz.prog Tryz.sorted48_ren := {
  mixed := by kernel_rfl
  f6 := ⟨Tryz.f48.name, by decide, Tryz.func48.trans (congrArg some (by kernel_rfl))⟩
  f8 := ⟨Tryz.f62.name, by decide, Tryz.func62.trans (congrArg some (by kernel_rfl))⟩
  f11 := ⟨Tryz.f81.name, by decide, Tryz.func81.trans (congrArg some (by kernel_rfl))⟩
  t0 := Tryz.underlying0
  a0 := Tryz.isAgg0
  z0 := Tryz.sizeOf0
  v0 := Tryz.zeroValue0
  t24 := Tryz.underlying96
  a24 := Tryz.isAgg96
  z24 := Tryz.sizeOf96
  v24 := Tryz.zeroValue96
  t26 := Tryz.underlying9
  a26 := Tryz.isAgg9
  z26 := Tryz.sizeOf9
  v26 := Tryz.zeroValue9
  t28 := Tryz.underlying99
  a28 := Tryz.isAgg99
  z28 := Tryz.sizeOf99
  v28 := Tryz.zeroValue99
  i26 := by kernel_rfl }
def Tryz.sort63_ren : Go.Shelf.Ren := ⟨fun | 6 => 63 | 8 => 72 | 9 => 82 | 19 => 96 | 20 => 84 | 21 => 101 | 22 => 102 | 23 => 103 | 24 => 104 | 25 => 105 | 26 => 106 | 27 => 107 | 28 => 108 | 29 => 109 | 36 => 120 | 31 => 113 | 32 => 114 | 37 => 121 | 38 => 122 | 39 => 123 | 41 => 129 | n => n, fun | 27 => 96 | 29 => 9 | 3 => 3 | 32 => 120 | 26 => 96 | 0 => 0 | 44 => 133 | 46 => 36 | 4 => 4 | 36 => 138 | 35 => 137 | 41 => 87 | 5 => 5 | 9 => 9 | 53 => 154 | 57 => 158 | 63 => 165 | 64 => 166 | n => n, fun | n => n⟩
theorem Tryz.sort63 : Go.Proofs.SlLaysM.n6 Tryz.prog Tryz.sort63_ren := {
  mixed := by kernel_rfl
  f6 := ⟨Tryz.f63.name, by decide, Tryz.func63.trans (congrArg some (by kernel_rfl))⟩
  f8 := Tryz.func72.trans (congrArg some (by kernel_rfl))
  f9 := ⟨Tryz.f82.name, by decide, Tryz.func82.trans (congrArg some (by kernel_rfl))⟩
  f19 := Tryz.func96.trans (congrArg some (by kernel_rfl))
  f20 := Tryz.func84.trans (congrArg some (by kernel_rfl))
  f21 := ⟨Tryz.f101.name, by decide, Tryz.func101.trans (congrArg some (by kernel_rfl))⟩
  f22 := ⟨Tryz.f102.name, by decide, Tryz.func102.trans (congrArg some (by kernel_rfl))⟩
  f23 := ⟨Tryz.f103.name, by decide, Tryz.func103.trans (congrArg some (by kernel_rfl))⟩
  f24 := ⟨Tryz.f104.name, by decide, Tryz.func104.trans (congrArg some (by kernel_rfl))⟩
  f25 := ⟨Tryz.f105.name, by decide, Tryz.func105.trans (congrArg some (by kernel_rfl))⟩
  f26 := ⟨Tryz.f106.name, by decide, Tryz.func106.trans (congrArg some (by kernel_rfl))⟩
  f27 := ⟨Tryz.f107.name, by decide, Tryz.func107.trans (congrArg some (by kernel_rfl))⟩
  f28 := ⟨Tryz.f108.name, by decide, Tryz.func108.trans (congrArg some (by kernel_rfl))⟩
  f29 := ⟨Tryz.f109.name, by decide, Tryz.func109.trans (congrArg some (by kernel_rfl))⟩
  f31 := Tryz.func113.trans (congrArg some (by kernel_rfl))
  f32 := Tryz.func114.trans (congrArg some (by kernel_rfl))
  f36 := ⟨Tryz.f120.name, by decide, Tryz.func120.trans (congrArg some (by kernel_rfl))⟩
  f37 := ⟨Tryz.f121.name, by decide, Tryz.func121.trans (congrArg some (by kernel_rfl))⟩
  f38 := ⟨Tryz.f122.name, by decide, Tryz.func122.trans (congrArg some (by kernel_rfl))⟩
  f39 := ⟨Tryz.f123.name, by decide, Tryz.func123.trans (congrArg some (by kernel_rfl))⟩
  f41 := ⟨Tryz.f129.name, by decide, Tryz.func129.trans (congrArg some (by kernel_rfl))⟩
  t0 := Tryz.underlying0
  a0 := Tryz.isAgg0
  z0 := Tryz.sizeOf0
  v0 := Tryz.zeroValue0
  t3 := Tryz.underlying3
  a3 := Tryz.isAgg3
  z3 := Tryz.sizeOf3
  v3 := Tryz.zeroValue3
  t4 := Tryz.underlying4
  a4 := Tryz.isAgg4
  z4 := Tryz.sizeOf4
  v4 := Tryz.zeroValue4
  t5 := Tryz.underlying5
  a5 := Tryz.isAgg5
  z5 := Tryz.sizeOf5
  v5 := Tryz.zeroValue5
  t9 := Tryz.underlying9
  a9 := Tryz.isAgg9
  z9 := Tryz.sizeOf9
  v9 := Tryz.zeroValue9
  t26 := Tryz.underlying96
  a26 := Tryz.isAgg96
  z26 := Tryz.sizeOf96
  v26 := Tryz.zeroValue96
  t27 := Tryz.underlying96
  a27 := Tryz.isAgg96
  z27 := Tryz.sizeOf96
  v27 := Tryz.zeroValue96
  t29 := Tryz.underlying9
  a29 := Tryz.isAgg9
  z29 := Tryz.sizeOf9
  v29 := Tryz.zeroValue9
  t32 := Tryz.underlying120
  a32 := Tryz.isAgg120
  z32 := Tryz.sizeOf120
  v32 := Tryz.zeroValue120
  t35 := Tryz.underlying137
  a35 := Tryz.isAgg137
  z35 := Tryz.sizeOf137
  v35 := Tryz.zeroValue137
  t36 := Tryz.underlying138
  a36 := Tryz.isAgg138
  z36 := Tryz.sizeOf138
  v36 := Tryz.zeroValue138
  t41 := Tryz.underlying87
  a41 := Tryz.isAgg87
  z41 := Tryz.sizeOf87
  v41 := Tryz.zeroValue87
  t44 := Tryz.underlying133
  a44 := Tryz.isAgg133
  z44 := Tryz.sizeOf133
  v44 := Tryz.zeroValue133
  t46 := Tryz.underlying36
  a46 := Tryz.isAgg36
  z46 := Tryz.sizeOf36
  v46 := Tryz.zeroValue36
  t53 := Tryz.underlying154
  a53 := Tryz.isAgg154
  z53 := Tryz.sizeOf154
  v53 := Tryz.zeroValue154
  t57 := Tryz.underlying158
  a57 := Tryz.isAgg158
  z57 := Tryz.sizeOf158
  v57 := Tryz.zeroValue158
  t63 := Tryz.underlying165
  a63 := Tryz.isAgg165
  z63 := Tryz.sizeOf165
  v63 := Tryz.zeroValue165
  t64 := Tryz.underlying166
  a64 := Tryz.isAgg166
  z64 := Tryz.sizeOf166
  v64 := Tryz.zeroValue166 }
def Tryz.clone35_ren : Go.Shelf.Ren := ⟨fun | 5 => 35 | 7 => 58 | n => n, fun | 23 => 51 | 25 => 9 | 3 => 2 | 4 => 4 | 20 => 20 | n => n, fun | n => n⟩
theorem Tryz.clone35 : Go.Proofs.SlLaysW.n5 Tryz.prog Tryz.clone35_ren := {
  mixed := by kernel_rfl
  f5 := ⟨Tryz.f35.name, by decide, Tryz.func35.trans (congrArg some (by kernel_rfl))⟩
  f7 := Tryz.func58.trans (congrArg some (by kernel_rfl))
  t4 := Tryz.underlying4
  a4 := Tryz.isAgg4
  z4 := Tryz.sizeOf4
  v4 := Tryz.zeroValue4
  t20 := Tryz.underlying20
  a20 := Tryz.isAgg20
  z20 := Tryz.sizeOf20
  v20 := Tryz.zeroValue20
  t23 := Tryz.underlying51
  a23 := Tryz.isAgg51
  z23 := Tryz.sizeOf51
  v23 := Tryz.zeroValue51 }
def Tryz.clone36_ren : Go.Shelf.Ren := ⟨fun | 5 => 36 | 7 => 58 | n => n, fun | 23 => 52 | 25 => 60 | 3 => 62 | 4 => 4 | 20 => 20 | n => n, fun | n => n⟩
theorem Tryz.clone36 : Go.Proofs.SlLaysW.n5 Tryz.prog Tryz.clone36_ren := {
  mixed := by kernel_rfl
  f5 := ⟨Tryz.f36.name, by decide, Tryz.func36.trans (congrArg some (by kernel_rfl))⟩
  f7 := Tryz.func58.trans (congrArg some (by kernel_rfl))
  t4 := Tryz.underlying4
  a4 := Tryz.isAgg4
  z4 := Tryz.sizeOf4
  v4 := Tryz.zeroValue4
  t20 := Tryz.underlying20
  a20 := Tryz.isAgg20
  z20 := Tryz.sizeOf20
  v20 := Tryz.zeroValue20
  t23 := Tryz.underlying52
  a23 := Tryz.isAgg52
  z23 := Tryz.sizeOf52
  v23 := Tryz.zeroValue52 }
def Tryz.sortf54_ren : Go.Shelf.Ren := ⟨fun | 6 => 54 | 15 => 72 | 14 => 71 | 28 => 96 | 29 => 84 | 20 => 88 | 21 => 89 | 22 => 90 | 23 => 91 | 24 => 92 | 25 => 93 | 26 => 94 | 27 => 95 | 46 => 112 | 47 => 113 | 48 => 114 | 49 => 115 | 50 => 116 | 57 => 124 | n => n, fun | 22 => 74 | 24 => 60 | 25 => 80 | 3 => 3 | 39 => 120 | 0 => 0 | 53 => 133 | 55 => 36 | 4 => 4 | 46 => 138 | 45 => 137 | 50 => 87 | 5 => 5 | 9 => 9 | 66 => 154 | 70 => 158 | 76 => 165 | 77 => 166 | n => n, fun | n => n⟩
theorem Tryz.sortf54 : Go.Proofs.SlLaysF0.n6 Tryz.prog Tryz.sortf54_ren := {
  mixed := by kernel_rfl
  f6 := ⟨Tryz.f54.name, by decide, Tryz.func54.trans (congrArg some (by kernel_rfl))⟩
  f14 := ⟨Tryz.f71.name, by decide, Tryz.func71.trans (congrArg some (by kernel_rfl))⟩
  f15 := Tryz.func72.trans (congrArg some (by kernel_rfl))
  f20 := ⟨Tryz.f88.name, by decide, Tryz.func88.trans (congrArg some (by kernel_rfl))⟩
  f21 := ⟨Tryz.f89.name, by decide, Tryz.func89.trans (congrArg some (by kernel_rfl))⟩
  f22 := ⟨Tryz.f90.name, by decide, Tryz.func90.trans (congrArg some (by kernel_rfl))⟩
  f23 := ⟨Tryz.f91.name, by decide, Tryz.func91.trans (congrArg some (by kernel_rfl))⟩
  f24 := ⟨Tryz.f92.name, by decide, Tryz.func92.trans (congrArg some (by kernel_rfl))⟩
  f25 := ⟨Tryz.f93.name, by decide, Tryz.func93.trans (congrArg some (by kernel_rfl))⟩
  f26 := ⟨Tryz.f94.name, by decide, Tryz.func94.trans (congrArg some (by kernel_rfl))⟩
  f27 := ⟨Tryz.f95.name, by decide, Tryz.func95.trans (congrArg some (by kernel_rfl))⟩
  f28 := Tryz.func96.trans (congrArg some (by kernel_rfl))
  f29 := Tryz.func84.trans (congrArg some (by kernel_rfl))
  f46 := ⟨Tryz.f112.name, by decide, Tryz.func112.trans (congrArg some (by kernel_rfl))⟩
  f47 := Tryz.func113.trans (congrArg some (by kernel_rfl))
  f48 := Tryz.func114.trans (congrArg some (by kernel_rfl))
  f49 := ⟨Tryz.f115.name, by decide, Tryz.func115.trans (congrArg some (by kernel_rfl))⟩
  f50 := ⟨Tryz.f116.name, by decide, Tryz.func116.trans (congrArg some (by kernel_rfl))⟩
  f57 := ⟨Tryz.f124.name, by decide, Tryz.func124.trans (congrArg some (by kernel_rfl))⟩
  t0 := Tryz.underlying0
  a0 := Tryz.isAgg0
  z0 := Tryz.sizeOf0
  v0 := Tryz.zeroValue0
  t3 := Tryz.underlying3
  a3 := Tryz.isAgg3
  z3 := Tryz.sizeOf3
  v3 := Tryz.zeroValue3
  t4 := Tryz.underlying4
  a4 := Tryz.isAgg4
  z4 := Tryz.sizeOf4
  v4 := Tryz.zeroValue4
  t5 := Tryz.underlying5
  a5 := Tryz.isAgg5
  z5 := Tryz.sizeOf5
  v5 := Tryz.zeroValue5
  t9 := Tryz.underlying9
  a9 := Tryz.isAgg9
  z9 := Tryz.sizeOf9
  v9 := Tryz.zeroValue9
  t22 := Tryz.underlying74
  a22 := Tryz.isAgg74
  z22 := Tryz.sizeOf74
  v22 := Tryz.zeroValue74
  t25 := Tryz.underlying80
  a25 := Tryz.isAgg80
  z25 := Tryz.sizeOf80
  v25 := Tryz.zeroValue80
  t39 := Tryz.underlying120
  a39 := Tryz.isAgg120
  z39 := Tryz.sizeOf120
  v39 := Tryz.zeroValue120
  t45 := Tryz.underlying137
  a45 := Tryz.isAgg137
  z45 := Tryz.sizeOf137
  v45 := Tryz.zeroValue137
  t46 := Tryz.underlying138
  a46 := Tryz.isAgg138
  z46 := Tryz.sizeOf138
  v46 := Tryz.zeroValue138
  t50 := Tryz.underlying87
  a50 := Tryz.isAgg87
  z50 := Tryz.sizeOf87
  v50 := Tryz.zeroValue87
  t53 := Tryz.underlying133
  a53 := Tryz.isAgg133
  z53 := Tryz.sizeOf133
  v53 := Tryz.zeroValue133
  t55 := Tryz.underlying36
  a55 := Tryz.isAgg36
  z55 := Tryz.sizeOf36
  v55 := Tryz.zeroValue36
  t66 := Tryz.underlying154
  a66 := Tryz.isAgg154
  z66 := Tryz.sizeOf154
  v66 := Tryz.zeroValue154
  t70 := Tryz.underlying158
  a70 := Tryz.isAgg158
  z70 := Tryz.sizeOf158
  v70 := Tryz.zeroValue158
  t76 := Tryz.underlying165
  a76 := Tryz.isAgg165
  z76 := Tryz.sizeOf165
  v76 := Tryz.zeroValue165
  t77 := Tryz.underlying166
  a77 := Tryz.isAgg166
  z77 := Tryz.sizeOf166
  v77 := Tryz.zeroValue166 }
def Tryz.contains44_ren : Go.Shelf.Ren := ⟨fun | 31 => 44 | 29 => 60 | n => n, fun | 22 => 93 | 23 => 27 | 4 => 4 | 3 => 3 | 0 => 0 | n => n, fun | n => n⟩
def Tryz.trim61_ren : Go.Shelf.Ren := ⟨fun | 160 => 61 | 232 => 75 | 231 => 74 | 227 => 76 | 234 => 78 | 233 => 77 | 236 => 80 | 235 => 79 | 228 => 97 | 271 => 100 | 151 => 99 | 197 => 98 | 120 => 119 | 152 => 118 | 260 => 117 | 137 => 125 | 119 => 126 | 224 => 127 | 225 => 128 | 217 => 130 | 266 => 131 | n => n, fun | 9 => 9 | 4 => 4 | 3 => 3 | 5 => 5 | 117 => 124 | 116 => 123 | 0 => 0 | 124 => 127 | 21 => 21 | 105 => 145 | 46 => 120 | 119 => 168 | 139 => 171 | 138 => 170 | n => n, fun | 3 => 4 | 4 => 5 | n => n⟩
theorem Tryz.trim61 : Go.Proofs.Lays.n160 Tryz.prog Tryz.trim61_ren := {
  mixed := by kernel_rfl
  f119 := Tryz.func126.trans (congrArg some (by kernel_rfl))
  f120 := Tryz.func119.trans (congrArg some (by kernel_rfl))
  f137 := Tryz.func125.trans (congrArg some (by kernel_rfl))
  f151 := Tryz.func99.trans (congrArg some (by kernel_rfl))
  f152 := Tryz.func118.trans (congrArg some (by kernel_rfl))
  f160 := Tryz.func61.trans (congrArg some (by kernel_rfl))
  f197 := Tryz.func98.trans (congrArg some (by kernel_rfl))
  f217 := Tryz.func130.trans (congrArg some (by kernel_rfl))
  f224 := Tryz.func127.trans (congrArg some (by kernel_rfl))
  f225 := Tryz.func128.trans (congrArg some (by kernel_rfl))
  f227 := Tryz.func76.trans (congrArg some (by kernel_rfl))
  f228 := Tryz.func97.trans (congrArg some (by kernel_rfl))
  f231 := Tryz.func74.trans (congrArg some (by kernel_rfl))
  f232 := Tryz.func75.trans (congrArg some (by kernel_rfl))
  f233 := Tryz.func77.trans (congrArg some (by kernel_rfl))
  f234 := Tryz.func78.trans (congrArg some (by kernel_rfl))
  f235 := Tryz.func79.trans (congrArg some (by kernel_rfl))
  f236 := Tryz.func80.trans (congrArg some (by kernel_rfl))
  f260 := Tryz.func117.trans (congrArg some (by kernel_rfl))
  f266 := Tryz.func131.trans (congrArg some (by kernel_rfl))
  f271 := Tryz.func100.trans (congrArg some (by kernel_rfl))
  t0 := Tryz.underlying0
  a0 := Tryz.isAgg0
  z0 := Tryz.sizeOf0
  v0 := Tryz.zeroValue0
  t3 := Tryz.underlying3
  a3 := Tryz.isAgg3
  z3 := Tryz.sizeOf3
  v3 := Tryz.zeroValue3
  t4 := Tryz.underlying4
  a4 := Tryz.isAgg4
  z4 := Tryz.sizeOf4
  v4 := Tryz.zeroValue4
  t5 := Tryz.underlying5
  a5 := Tryz.isAgg5
  z5 := Tryz.sizeOf5
  v5 := Tryz.zeroValue5
  t9 := Tryz.underlying9
  a9 := Tryz.isAgg9
  z9 := Tryz.sizeOf9
  v9 := Tryz.zeroValue9
  t21 := Tryz.underlying21
  a21 := Tryz.isAgg21
  z21 := Tryz.sizeOf21
  v21 := Tryz.zeroValue21
  t46 := Tryz.underlying120
  a46 := Tryz.isAgg120
  z46 := Tryz.sizeOf120
  v46 := Tryz.zeroValue120
  t105 := Tryz.underlying145
  a105 := Tryz.isAgg145
  z105 := Tryz.sizeOf145
  v105 := Tryz.zeroValue145
  t116 := Tryz.underlying123
  a116 := Tryz.isAgg123
  z116 := Tryz.sizeOf123
  t117 := Tryz.underlying124
  a117 := Tryz.isAgg124
  z117 := Tryz.sizeOf124
  v117 := Tryz.zeroValue124
  t119 := Tryz.underlying168
  a119 := Tryz.isAgg168
  z119 := Tryz.sizeOf168
  t124 := Tryz.underlying127
  a124 := Tryz.isAgg127
  z124 := Tryz.sizeOf127
  v124 := Tryz.zeroValue127
  t138 := Tryz.underlying170
  a138 := Tryz.isAgg170
  z138 := Tryz.sizeOf170
  v138 := Tryz.zeroValue170
  t139 := Tryz.underlying171
  a139 := Tryz.isAgg171
  z139 := Tryz.sizeOf171
  v139 := Tryz.zeroValue171
  g3 := by kernel_rfl
  g4 := by kernel_rfl }
def Tryz.compare31_ren : Go.Shelf.Ren := ⟨fun | 106 => 31 | 213 => 56 | 265 => 73 | n => n, fun | 9 => 9 | 3 => 3 | n => n, fun | n => n⟩
theorem Tryz.compare31 : Go.Proofs.Lays.n106 Tryz.prog Tryz.compare31_ren := {
  mixed := by kernel_rfl
  f106 := Tryz.func31.trans (congrArg some (by kernel_rfl))
  f213 := Tryz.func56.trans (congrArg some (by kernel_rfl))
  f265 := Tryz.func73.trans (congrArg some (by kernel_rfl))
  t3 := Tryz.underlying3
  a3 := Tryz.isAgg3
  z3 := Tryz.sizeOf3
  v3 := Tryz.zeroValue3
  t9 := Tryz.underlying9
  a9 := Tryz.isAgg9
  z9 := Tryz.sizeOf9
  v9 := Tryz.zeroValue9 }
def Tryz.fmtint27_ren : Go.Shelf.Ren := ⟨fun | 173 => 27 | 246 => 52 | 283 => 66 | 284 => 67 | 285 => 68 | 286 => 69 | 129 => 84 | 317 => 83 | 318 => 85 | 319 => 86 | 320 => 87 | 337 => 110 | 338 => 111 | n => n, fun | 2 => 2 | 3 => 3 | 9 => 9 | 4 => 4 | 171 => 112 | 0 => 0 | 53 => 36 | 37 => 66 | 5 => 5 | 173 => 115 | 212 => 132 | 51 => 133 | 20 => 20 | 213 => 134 | 46 => 120 | 232 => 163 | 233 => 164 | n => n, fun | 17 => 1 | 18 => 2 | 19 => 3 | n => n⟩
theorem Tryz.fmtint27 : Go.Proofs.LaysM.n173 Tryz.prog Tryz.fmtint27_ren := {
  mixed := by kernel_rfl
  f129 := Tryz.func84.trans (congrArg some (by kernel_rfl))
  f173 := Tryz.func27.trans (congrArg some (by kernel_rfl))
  f246 := Tryz.func52.trans (congrArg some (by kernel_rfl))
  f283 := Tryz.func66.trans (congrArg some (by kernel_rfl))
  f284 := Tryz.func67.trans (congrArg some (by kernel_rfl))
  f285 := Tryz.func68.trans (congrArg some (by kernel_rfl))
  f286 := Tryz.func69.trans (congrArg some (by kernel_rfl))
  f317 := Tryz.func83.trans (congrArg some (by kernel_rfl))
  f318 := Tryz.func85.trans (congrArg some (by kernel_rfl))
  f319 := Tryz.func86.trans (congrArg some (by kernel_rfl))
  f320 := Tryz.func87.trans (congrArg some (by kernel_rfl))
  f337 := Tryz.func110.trans (congrArg some (by kernel_rfl))
  f338 := Tryz.func111.trans (congrArg some (by kernel_rfl))
  t0 := Tryz.underlying0
  a0 := Tryz.isAgg0
  z0 := Tryz.sizeOf0
  v0 := Tryz.zeroValue0
  t2 := Tryz.underlying2
  a2 := Tryz.isAgg2
  z2 := Tryz.sizeOf2
  v2 := Tryz.zeroValue2
  t3 := Tryz.underlying3
  a3 := Tryz.isAgg3
  z3 := Tryz.sizeOf3
  v3 := Tryz.zeroValue3
  t4 := Tryz.underlying4
  a4 := Tryz.isAgg4
  z4 := Tryz.sizeOf4
  v4 := Tryz.zeroValue4
  t5 := Tryz.underlying5
  a5 := Tryz.isAgg5
  z5 := Tryz.sizeOf5
  v5 := Tryz.zeroValue5
  t9 := Tryz.underlying9
  a9 := Tryz.isAgg9
  z9 := Tryz.sizeOf9
  v9 := Tryz.zeroValue9
  t20 := Tryz.underlying20
  a20 := Tryz.isAgg20
  z20 := Tryz.sizeOf20
  v20 := Tryz.zeroValue20
  t37 := Tryz.underlying66
  a37 := Tryz.isAgg66
  z37 := Tryz.sizeOf66
  v37 := Tryz.zeroValue66
  t46 := Tryz.underlying120
  a46 := Tryz.isAgg120
  z46 := Tryz.sizeOf120
  v46 := Tryz.zeroValue120
  t51 := Tryz.underlying133
  a51 := Tryz.isAgg133
  z51 := Tryz.sizeOf133
  v51 := Tryz.zeroValue133
  t53 := Tryz.underlying36
  a53 := Tryz.isAgg36
  z53 := Tryz.sizeOf36
  v53 := Tryz.zeroValue36
  t171 := Tryz.underlying112
  a171 := Tryz.isAgg112
  z171 := Tryz.sizeOf112
  v171 := Tryz.zeroValue112
  t173 := Tryz.underlying115
  a173 := Tryz.isAgg115
  z173 := Tryz.sizeOf115
  v173 := Tryz.zeroValue115
  t212 := Tryz.underlying132
  a212 := Tryz.isAgg132
  z212 := Tryz.sizeOf132
  v212 := Tryz.zeroValue132
  t213 := Tryz.underlying134
  a213 := Tryz.isAgg134
  z213 := Tryz.sizeOf134
  t232 := Tryz.underlying163
  a232 := Tryz.isAgg163
  z232 := Tryz.sizeOf163
  v232 := Tryz.zeroValue163
  t233 := Tryz.underlying164
  a233 := Tryz.isAgg164
  z233 := Tryz.sizeOf164
  v233 := Tryz.zeroValue164
  g17 := by kernel_rfl
  g18 := by kernel_rfl
  g19 := by kernel_rfl
  i0 := by kernel_rfl
  i2 := by kernel_rfl
  i3 := by kernel_rfl
  i4 := by kernel_rfl
  i5 := by kernel_rfl
  i9 := by kernel_rfl
  i20 := by kernel_rfl
  i37 := by kernel_rfl
  i46 := by kernel_rfl
  i51 := by kernel_rfl
  i53 := by kernel_rfl
  i171 := by kernel_rfl
  i173 := by kernel_rfl
  i212 := by kernel_rfl
  i232 := by kernel_rfl
  i233 := by kernel_rfl
  m17 := by kernel_rfl
  m18 := by kernel_rfl
  m19 := by kernel_rfl }
def Tryz.itoa32_ren : Go.Shelf.Ren := ⟨fun | 171 => 32 | 243 => 57 | 246 => 52 | 283 => 66 | 284 => 67 | 285 => 68 | 286 => 69 | 129 => 84 | 317 => 83 | 318 => 85 | 319 => 86 | 320 => 87 | 337 => 110 | 338 => 111 | n => n, fun | 3 => 3 | 9 => 9 | 2 => 2 | 4 => 4 | 171 => 112 | 0 => 0 | 53 => 36 | 37 => 66 | 5 => 5 | 173 => 115 | 212 => 132 | 51 => 133 | 20 => 20 | 213 => 134 | 46 => 120 | 232 => 163 | 233 => 164 | n => n, fun | 17 => 1 | 18 => 2 | 19 => 3 | n => n⟩
theorem Tryz.itoa32 : Go.Proofs.Lays.n171 Tryz.prog Tryz.itoa32_ren := {
  mixed := by kernel_rfl
  f129 := Tryz.func84.trans (congrArg some (by kernel_rfl))
  f171 := Tryz.func32.trans (congrArg some (by kernel_rfl))
  f243 := Tryz.func57.trans (congrArg some (by kernel_rfl))
  f246 := Tryz.func52.trans (congrArg some (by kernel_rfl))
  f283 := Tryz.func66.trans (congrArg some (by kernel_rfl))
  f284 := Tryz.func67.trans (congrArg some (by kernel_rfl))
  f285 := Tryz.func68.trans (congrArg some (by kernel_rfl))
  f286 := Tryz.func69.trans (congrArg some (by kernel_rfl))
  f317 := Tryz.func83.trans (congrArg some (by kernel_rfl))
  f318 := Tryz.func85.trans (congrArg some (by kernel_rfl))
  f319 := Tryz.func86.trans (congrArg some (by kernel_rfl))
  f320 := Tryz.func87.trans (congrArg some (by kernel_rfl))
  f337 := Tryz.func110.trans (congrArg some (by kernel_rfl))
  f338 := Tryz.func111.trans (congrArg some (by kernel_rfl))
  t0 := Tryz.underlying0
  a0 := Tryz.isAgg0
  z0 := Tryz.sizeOf0
  v0 := Tryz.zeroValue0
  t2 := Tryz.underlying2
  a2 := Tryz.isAgg2
  z2 := Tryz.sizeOf2
  v2 := Tryz.zeroValue2
  t3 := Tryz.underlying3
  a3 := Tryz.isAgg3
  z3 := Tryz.sizeOf3
  v3 := Tryz.zeroValue3
  t4 := Tryz.underlying4
  a4 := Tryz.isAgg4
  z4 := Tryz.sizeOf4
  v4 := Tryz.zeroValue4
  t5 := Tryz.underlying5
  a5 := Tryz.isAgg5
  z5 := Tryz.sizeOf5
  v5 := Tryz.zeroValue5
  t9 := Tryz.underlying9
  a9 := Tryz.isAgg9
  z9 := Tryz.sizeOf9
  v9 := Tryz.zeroValue9
  t20 := Tryz.underlying20
  a20 := Tryz.isAgg20
  z20 := Tryz.sizeOf20
  v20 := Tryz.zeroValue20
  t37 := Tryz.underlying66
  a37 := Tryz.isAgg66
  z37 := Tryz.sizeOf66
  v37 := Tryz.zeroValue66
  t46 := Tryz.underlying120
  a46 := Tryz.isAgg120
  z46 := Tryz.sizeOf120
  v46 := Tryz.zeroValue120
  t51 := Tryz.underlying133
  a51 := Tryz.isAgg133
  z51 := Tryz.sizeOf133
  v51 := Tryz.zeroValue133
  t53 := Tryz.underlying36
  a53 := Tryz.isAgg36
  z53 := Tryz.sizeOf36
  v53 := Tryz.zeroValue36
  t171 := Tryz.underlying112
  a171 := Tryz.isAgg112
  z171 := Tryz.sizeOf112
  v171 := Tryz.zeroValue112
  t173 := Tryz.underlying115
  a173 := Tryz.isAgg115
  z173 := Tryz.sizeOf115
  v173 := Tryz.zeroValue115
  t212 := Tryz.underlying132
  a212 := Tryz.isAgg132
  z212 := Tryz.sizeOf132
  v212 := Tryz.zeroValue132
  t213 := Tryz.underlying134
  a213 := Tryz.isAgg134
  z213 := Tryz.sizeOf134
  t232 := Tryz.underlying163
  a232 := Tryz.isAgg163
  z232 := Tryz.sizeOf163
  v232 := Tryz.zeroValue163
  t233 := Tryz.underlying164
  a233 := Tryz.isAgg164
  z233 := Tryz.sizeOf164
  v233 := Tryz.zeroValue164
  g17 := by kernel_rfl
  g18 := by kernel_rfl
  g19 := by kernel_rfl }
def Tryz.bstring33_ren : Go.Shelf.Ren := ⟨fun | 169 => 33 | n => n, fun | 70 => 65 | 9 => 9 | 0 => 0 | 72 => 68 | 37 => 66 | 127 => 105 | 3 => 3 | 5 => 5 | n => n, fun | n => n⟩
theorem Tryz.bstring33 : Go.Proofs.Lays.n169 Tryz.prog Tryz.bstring33_ren := {
  mixed := by kernel_rfl
  f169 := Tryz.func33.trans (congrArg some (by kernel_rfl))
  t0 := Tryz.underlying0
  a0 := Tryz.isAgg0
  z0 := Tryz.sizeOf0
  v0 := Tryz.zeroValue0
  t3 := Tryz.underlying3
  a3 := Tryz.isAgg3
  z3 := Tryz.sizeOf3
  v3 := Tryz.zeroValue3
  t9 := Tryz.underlying9
  a9 := Tryz.isAgg9
  z9 := Tryz.sizeOf9
  v9 := Tryz.zeroValue9
  t37 := Tryz.underlying66
  a37 := Tryz.isAgg66
  z37 := Tryz.sizeOf66
  v37 := Tryz.zeroValue66
  t70 := Tryz.underlying65
  a70 := Tryz.isAgg65
  z70 := Tryz.sizeOf65
  v70 := Tryz.zeroValue65
  t72 := Tryz.underlying68
  a72 := Tryz.isAgg68
  z72 := Tryz.sizeOf68
  v72 := Tryz.zeroValue68
  t127 := Tryz.underlying105
  a127 := Tryz.isAgg105
  z127 := Tryz.sizeOf105
  v127 := Tryz.zeroValue105 }
theorem Tryz.bstring33_x : Builder.Extra Tryz.prog Tryz.bstring33_ren := {
  sizeBuilder := by kernel_rfl
  liesBuilder := by kernel_rfl
  t5 := Tryz.underlying5
  a5 := Tryz.isAgg5
  z5 := Tryz.sizeOf5
  v5 := Tryz.zeroValue5
  infoByte := by kernel_rfl
  cellsByte := by kernel_rfl
  sizeByte := by kernel_rfl
  neB5 := by decide }
def Tryz.bwrite26_ren : Go.Shelf.Ren := ⟨fun | 166 => 26 | 240 => 51 | 276 => 65 | n => n, fun | 0 => 0 | 3 => 3 | 4 => 4 | 9 => 9 | 20 => 20 | 37 => 66 | 70 => 65 | 72 => 68 | 75 => 70 | 164 => 110 | 80 => 33 | 5 => 5 | n => n, fun | n => n⟩
theorem Tryz.bwrite26 : Go.Proofs.Lays.n166 Tryz.prog Tryz.bwrite26_ren := {
  mixed := by kernel_rfl
  f166 := Tryz.func26.trans (congrArg some (by kernel_rfl))
  f240 := Tryz.func51.trans (congrArg some (by kernel_rfl))
  f276 := Tryz.func65.trans (congrArg some (by kernel_rfl))
  t0 := Tryz.underlying0
  a0 := Tryz.isAgg0
  z0 := Tryz.sizeOf0
  v0 := Tryz.zeroValue0
  t3 := Tryz.underlying3
  a3 := Tryz.isAgg3
  z3 := Tryz.sizeOf3
  v3 := Tryz.zeroValue3
  t4 := Tryz.underlying4
  a4 := Tryz.isAgg4
  z4 := Tryz.sizeOf4
  v4 := Tryz.zeroValue4
  t9 := Tryz.underlying9
  a9 := Tryz.isAgg9
  z9 := Tryz.sizeOf9
  v9 := Tryz.zeroValue9
  t20 := Tryz.underlying20
  a20 := Tryz.isAgg20
  z20 := Tryz.sizeOf20
  v20 := Tryz.zeroValue20
  t37 := Tryz.underlying66
  a37 := Tryz.isAgg66
  z37 := Tryz.sizeOf66
  v37 := Tryz.zeroValue66
  t70 := Tryz.underlying65
  a70 := Tryz.isAgg65
  z70 := Tryz.sizeOf65
  v70 := Tryz.zeroValue65
  t72 := Tryz.underlying68
  a72 := Tryz.isAgg68
  z72 := Tryz.sizeOf68
  v72 := Tryz.zeroValue68
  t75 := Tryz.underlying70
  a75 := Tryz.isAgg70
  z75 := Tryz.sizeOf70
  v75 := Tryz.zeroValue70
  t164 := Tryz.underlying110
  a164 := Tryz.isAgg110
  z164 := Tryz.sizeOf110
  v164 := Tryz.zeroValue110 }
theorem Tryz.bwrite26_x : Builder.Extra Tryz.prog Tryz.bwrite26_ren := {
  sizeBuilder := by kernel_rfl
  liesBuilder := by kernel_rfl
  t5 := Tryz.underlying5
  a5 := Tryz.isAgg5
  z5 := Tryz.sizeOf5
  v5 := Tryz.zeroValue5
  infoByte := by kernel_rfl
  cellsByte := by kernel_rfl
  sizeByte := by kernel_rfl
  neB5 := by decide }
end Go.Proofs
namespace Go.Proofs.YtnfeemhpoaflfaaGreatDoor
open Go.Q Go.RowKit

theorem MClone35_calls (w : World) (mb : Nat) (m : List ((List UInt8) × Int)) (Hm : HasMap w mb kstr ki64 m) : Calls Tryz.prog 35 ⟨[.map (some mb)]⟩ w (fun e w' => ∃ m2, e = .returned (.map (some m2)) ∧ Keeps none_ w w' ∧ HasMap w' m2 kstr ki64 m ∧ m2 = w.heap.size) := by
 obtain ⟨es, clock, hb, hs, he⟩ := Hm
 refine (Go.Proofs.AnyW.maps_Clone Go.Proofs.Tryz.clone35 mb es clock w hb).mono ?_
 rintro e w' ⟨rfl, rfl⟩
 exact ⟨_, rfl, Keeps.alloc _ _, ⟨es, clock, heap_alloc_new _ _, hs, he⟩, rfl⟩

theorem MClone36_calls (w : World) (mb : Nat) (m : List ((List UInt8 × List UInt8) × KeptM)) (Hm : HasMap w mb kpair keptv m) : Calls Tryz.prog 36 ⟨[.map (some mb)]⟩ w (fun e w' => ∃ m2, e = .returned (.map (some m2)) ∧ Keeps none_ w w' ∧ HasMap w' m2 kpair keptv m ∧ m2 = w.heap.size) := by
 obtain ⟨es, clock, hb, hs, he⟩ := Hm
 refine (Go.Proofs.AnyW.maps_Clone Go.Proofs.Tryz.clone36 mb es clock w hb).mono ?_
 rintro e w' ⟨rfl, rfl⟩
 exact ⟨_, rfl, Keeps.alloc _ _, ⟨es, clock, heap_alloc_new _ _, hs, he⟩, rfl⟩

theorem Copy_calls (w : World) (b mb kb : Nat) (m : List (List UInt8 × Int)) (S : List RowM) (K : List KeptM) (Hb : Has w b (rowL [.map (some mb), .map (some kb)] 54)) (Hm : HasMap w mb kstr ki64 m) (Hk : HasMap w kb kpair keptv (K.map KeptM.kv)) (hne : b ≠ mb ∧ b ≠ kb ∧ mb ≠ kb) (hB : LBook m S K) : Calls Tryz.prog 15 ⟨[(ptr b)]⟩ w (fun e w' => ∃ b2 mb2 kb2, e = .returned (ptr b2) ∧ Keeps none_ w w' ∧ Has w' b2 (rowL [.map (some mb2), .map (some kb2)] 54) ∧ HasMap w' mb2 kstr ki64 m ∧ HasMap w' kb2 kpair keptv (K.map KeptM.kv) ∧ w.heap.size ≤ b2 ∧ w.heap.size ≤ mb2 ∧ w.heap.size ≤ kb2 ∧ b2 ≠ mb2 ∧ b2 ≠ kb2 ∧ mb2 ≠ kb2) := by
 have Hbl := Hb.lt
 have Hml := Hm.lt
 have Hkl := Hk.lt
 have hL := hB.lmap
 have K0 : Keeps none_ w w := Keeps.refl w
 refine q_calls Tryz.func15 (by kernel_rfl) (by kernel_rfl) ?_
 refine qs ?_
 refine qg ?_
 refine og 1 [(0, (ptr b)), (2, (Value.pointer none))] 1 ?_
 refine od ?_
 refine qs ?_
 refine qs ?_
 refine qg ?_
 refine og 2 [(0, (ptr b)), (2, (Value.pointer none)), (4, (Value.bool false))] 2 ?_
 refine od ?_
 refine q_else (o := .tmp 4) (by kernel_rfl) rfl ?_
 refine q_skip (by kernel_rfl) ?_
 refine qs ?_
 refine q_draw (fun wz => Keeps none_ w wz) 13 (by kernel_rfl) (by kernel_rfl) (by kernel_rfl) (fun w1 K2 _ _ => ⟨K2, ?_⟩)
 replace K0 := K0.t0 K2
 replace Hb := Hb.keep K2 (fun h => h)
 replace Hm := Hm.keep K2 (fun h => h)
 replace Hk := Hk.keep K2 (fun h => h)
 refine Dr.strong (S' := (fun wz => Keeps none_ w1 wz)) (Keeps.refl w1) (fun wz hx => K2.trans hx (fun i _ h => h) (fun _ _ h => h)) ?_
 clear K2
 refine Dr.takes (fuel' := 10) (is' := [2, 1, 0]) [0, 1, 2] [(0, (ptr b)), (2, (Value.pointer none)), (7, (ptr b))] (by kernel_rfl) rfl (by kernel_rfl) ?_
 refine Dr.take (i := 3) (v := (Value.map (some mb))) (by kernel_rfl) (by kernel_rfl) (fun wz hS => Runs.load (t := 51) (a := ⟨b, 0, none⟩) (by kernel_rfl) ((Hb.keep hS (fun h => h)).loads (by kernel_rfl))) (d := (some 8)) (by kernel_rfl) rfl ?_
 refine Dr.takes (fuel' := 6) (is' := [7, 6, 5, 3, 2, 1, 0]) [5, 6, 7] [(2, (Value.pointer none)), (8, (Value.map (some mb))), (12, (Value.pointer (some ⟨b, 1, none⟩)))] (by kernel_rfl) rfl (by kernel_rfl) ?_
 refine Dr.take (i := 8) (v := (Value.map (some kb))) (by kernel_rfl) (by kernel_rfl) (fun wz hS => Runs.load (t := 52) (a := ⟨b, 1, none⟩) (by kernel_rfl) ((Hb.keep hS (fun h => h)).loads (by kernel_rfl))) (d := (some 13)) (by kernel_rfl) rfl ?_
 refine Dr.call (i := 4) (by kernel_rfl) (by kernel_rfl) (d := (some 9)) (by kernel_rfl) (fun _ => MClone35_calls _ mb m Hm) ?_
 rintro _ w4 ⟨mb3, rfl, K5, H6, hq7⟩
 have lmb3b : b < mb3 := by have := Hb.lt; omega
 have lmb3mb : mb < mb3 := by have := Hm.lt; omega
 have lmb3kb : kb < mb3 := by have := Hk.lt; omega
 have nmb3 : w.heap.size ≤ mb3 := by have := K0.size; omega
 replace K0 := K0.t0 K5
 replace Hb := Hb.keep K5 (fun h => h)
 replace Hm := Hm.keep K5 (fun h => h)
 replace Hk := Hk.keep K5 (fun h => h)
 refine ⟨_, _, rfl, rfl, K5, ?_⟩
 refine Dr.strong (S' := (fun wz => Keeps none_ w4 wz)) (Keeps.refl w4) (fun wz hx => K5.trans hx (fun i _ h => h) (fun _ _ h => h)) ?_
 clear K5
 refine Dr.call (i := 9) (by kernel_rfl) (by kernel_rfl) (d := (some 14)) (by kernel_rfl) (fun _ => MClone36_calls _ kb (K.map KeptM.kv) Hk) ?_
 rintro _ w9 ⟨mb8, rfl, K10, H11, hq12⟩
 have lmb8b : b < mb8 := by have := Hb.lt; omega
 have lmb8mb : mb < mb8 := by have := Hm.lt; omega
 have lmb8kb : kb < mb8 := by have := Hk.lt; omega
 have lmb8mb3 : mb3 < mb8 := by have := H6.lt; omega
 have nmb8 : w.heap.size ≤ mb8 := by have := K0.size; omega
 replace K0 := K0.t0 K10
 replace Hb := Hb.keep K10 (fun h => h)
 replace Hm := Hm.keep K10 (fun h => h)
 replace Hk := Hk.keep K10 (fun h => h)
 replace H6 := H6.keep K10 (fun h => h)
 refine ⟨_, _, rfl, rfl, K10, ?_⟩
 refine Dr.strong (S' := (fun wz => Keeps none_ w9 wz)) (Keeps.refl w9) (fun wz hx => K10.trans hx (fun i _ h => h) (fun _ _ h => h)) ?_
 clear K10
 refine Dr.takes (fuel' := 2) (is' := [10, 9, 4, 8, 7, 6, 5, 3, 2, 1, 0]) [10] [(2, (Value.pointer none)), (15, (agg [(Value.map (some mb3)), (Value.map (some mb8))]))] (by kernel_rfl) rfl (by kernel_rfl) ?_
 refine Dr.new (i := 11) (o := rowL [(Value.map (some mb3)), (Value.map (some mb8))] 54) (V := fun b => (ptr b)) (by kernel_rfl) (by kernel_rfl) (d := (some 16)) (by kernel_rfl) (fun b => rfl) (fun b13 w14 hb15 H16 K17 hs18 => ?_)
 have lb13b : b < b13 := by have := Hb.lt; omega
 have lb13mb : mb < b13 := by have := Hm.lt; omega
 have lb13kb : kb < b13 := by have := Hk.lt; omega
 have lb13mb3 : mb3 < b13 := by have := H6.lt; omega
 have lb13mb8 : mb8 < b13 := by have := H11.lt; omega
 have nb13 : w.heap.size ≤ b13 := by have := K0.size; omega
 replace K0 := K0.t0 K17
 replace Hb := Hb.keep K17 (fun h => h)
 replace Hm := Hm.keep K17 (fun h => h)
 replace Hk := Hk.keep K17 (fun h => h)
 replace H6 := H6.keep K17 (fun h => h)
 replace H11 := H11.keep K17 (fun h => h)
 refine ⟨K17, ?_⟩
 refine Dr.strong (S' := (fun wz => Keeps none_ w14 wz)) (Keeps.refl w14) (fun wz hx => K17.trans hx (fun i _ h => h) (fun _ _ h => h)) ?_
 clear K17 hs18
 refine Dr.takes (fuel' := 0) (is' := [12, 11, 10, 9, 4, 8, 7, 6, 5, 3, 2, 1, 0]) [12] [(2, (ptr b13))] (by kernel_rfl) rfl (by kernel_rfl) ?_
 refine Dr.done (by kernel_rfl) ?_
 refine q_ret (by kernel_rfl) ?_
 refine ⟨(ptr b13), retv_tmp rfl rfl, ?_⟩
 exact ⟨b13, mb3, mb8, rfl, K0, H16, H6, H11, nb13, nmb3, nmb8, by omega, by omega, by omega⟩
end Go.Proofs.YtnfeemhpoaflfaaGreatDoor
namespace Go.Q
open Go.RowKit
theorem sorted_namesW {S : List RowM} {ss : List (List UInt8)} (h : S.Pairwise (fun a b => ltN a.name b.name)) (hp : ss.Perm (S.map (·.name))) : ss.mergeSort (fun x y => decide (x ≤ y)) = S.map (·.name) := by
  rw [mergeSort_of_perm hp]
  refine List.mergeSort_of_pairwise ?_
  refine List.pairwise_map.2 (h.imp fun {a b} hlt => ?_)
  simp only [decide_eq_true_eq]
  exact List.le_of_lt hlt
theorem LMap.names_ok {m : List (List UInt8 × Int)} {S : List RowM} (h : LMap m S) : ∀ x ∈ m, x.1.length ≤ 24 := by
  intro x hx
  obtain ⟨a, ha, rfl⟩ := List.mem_map.1 (h.perm.mem_iff.2 hx)
  exact (nameOk_len (h.led.ok a ha).name).2
theorem nameW_at {S : List RowM} {i : Nat} {a : RowM} (h : S[i]? = some a) : (S.map (·.name))[i]? = some a.name := by rw [List.getElem?_map, h]; rfl
theorem Led.get_of {S : List RowM} (h : Led S) {a : RowM} (ha : a ∈ S) : getW S a.name = some a := by
  unfold getW
  have hs := h.sorted
  clear h
  induction S with
  | nil => cases ha
  | cons b S ih =>
    rw [List.pairwise_cons] at hs
    rcases List.mem_cons.1 ha with rfl | ha
    · simp
    · rw [List.find?_cons_of_neg, ih ha hs.2]
      have := hs.1 a ha
      intro e
      have e : b.name = a.name := by simpa using e
      rw [e] at this
      exact ltN_irrefl _ this
theorem LMap.at_ {m : List (List UInt8 × Int)} {S : List RowM} (h : LMap m S) {i : Nat} {a : RowM} (ha : S[i]? = some a) : getM m a.name = some a.amount := by
  rw [h.get, h.led.get_of (List.mem_of_getElem? ha)]; rfl
theorem takeR {S : List RowM} {i : Nat} {a : RowM} (h : S[i]? = some a) : S.take (i + 1) = S.take i ++ [a] := by rw [List.take_add_one, h]; rfl
end Go.Q
