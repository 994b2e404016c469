/- What the claim stands on, part 9: rules of the walk, contracts of the functions, plain laws. -/
import Derived.Shelf.SlGeneric
import Derived.Shelf.SlIter.Nil
import Derived.Shelf.SortM.Plain
import Derived.Shelf.SortM.SortNone
import Derived.Shelf.Strings.SlTrimAscii
import Derived.Shelf.SlMaps.Clone
import Derived.Ground.GgzProg
import Derived.Ground.SlgmProg
import Derived.Ground.NamesProg
import Derived.Ground.SlmcProg
import Derived.Test.YtnbcghbgeiocbaaDoorProg
import Derived.Test.YtnbcghbgeiocbaaDoorKHRecords8
import Derived.Test.YtnbcghbgeiocbaaDoorKHRecords6
import Derived.Test.YtnbcghbgeiocbaaDoorKHRecords1
import Derived.Test.YtnbcghbgeiocbaaDoorKHRecords2
import Derived.Test.YtnbcghbgeiocbaaDoorKHRecords3
import Derived.Test.YtnbcghbgeiocbaaDoorKHRecords4
set_option linter.unusedVariables false
namespace Go.Proofs
open Go.Shelf
def Tryd.keys65_ren : Go.Shelf.Ren := ⟨fun | 7 => 65 | 10 => 70 | n => n, fun | 23 => 107 | 26 => 9 | 3 => 2 | 28 => 134 | 0 => 0 | 27 => 133 | 33 => 123 | 4 => 4 | n => n, fun | n => n⟩
theorem Tryd.keys65 : Go.Proofs.SlLaysZ.n7 Tryd.prog Tryd.keys65_ren := {
  mixed := by kernel_rfl
  f7 := ⟨Tryd.f65.name, by decide, Tryd.func65.trans (congrArg some (by kernel_rfl))⟩
  f10 := ⟨Tryd.f70.name, by decide, Tryd.func70.trans (congrArg some (by kernel_rfl))⟩
  t0 := Tryd.underlying0
  a0 := Tryd.isAgg0
  z0 := Tryd.sizeOf0
  v0 := Tryd.zeroValue0
  t4 := Tryd.underlying4
  a4 := Tryd.isAgg4
  z4 := Tryd.sizeOf4
  v4 := Tryd.zeroValue4
  t23 := Tryd.underlying107
  a23 := Tryd.isAgg107
  z23 := Tryd.sizeOf107
  v23 := Tryd.zeroValue107
  t26 := Tryd.underlying9
  a26 := Tryd.isAgg9
  z26 := Tryd.sizeOf9
  v26 := Tryd.zeroValue9
  t27 := Tryd.underlying133
  a27 := Tryd.isAgg133
  z27 := Tryd.sizeOf133
  v27 := Tryd.zeroValue133
  t28 := Tryd.underlying134
  a28 := Tryd.isAgg134
  z28 := Tryd.sizeOf134
  v28 := Tryd.zeroValue134
  t33 := Tryd.underlying123
  a33 := Tryd.isAgg123
  z33 := Tryd.sizeOf123
  v33 := Tryd.zeroValue123 }
def Tryd.sorted64_ren : Go.Shelf.Ren := ⟨fun | 6 => 64 | 8 => 68 | 9 => 69 | 11 => 78 | 13 => 80 | 12 => 79 | 23 => 94 | 24 => 95 | 14 => 85 | 15 => 86 | 16 => 87 | 17 => 88 | 18 => 89 | 19 => 90 | 20 => 91 | 21 => 92 | 22 => 93 | 25 => 99 | 26 => 100 | 27 => 101 | 28 => 102 | 29 => 103 | 30 => 104 | 31 => 109 | n => n, fun | 26 => 9 | 28 => 134 | 24 => 131 | 0 => 0 | 3 => 3 | 37 => 149 | 48 => 163 | 50 => 71 | 4 => 4 | 40 => 156 | 39 => 155 | 45 => 95 | 5 => 5 | 9 => 9 | 51 => 166 | 55 => 170 | 57 => 180 | 58 => 181 | 33 => 123 | n => n, fun | n => n⟩
theorem Tryd.sorted64 : Go.Proofs.SlLaysZ.n6 Tryd.prog Tryd.sorted64_ren := {
  mixed := by kernel_rfl
  f6 := ⟨Tryd.f64.name, by decide, Tryd.func64.trans (congrArg some (by kernel_rfl))⟩
  f8 := ⟨Tryd.f68.name, by decide, Tryd.func68.trans (congrArg some (by kernel_rfl))⟩
  f11 := ⟨Tryd.f78.name, by decide, Tryd.func78.trans (congrArg some (by kernel_rfl))⟩
  t0 := Tryd.underlying0
  a0 := Tryd.isAgg0
  z0 := Tryd.sizeOf0
  v0 := Tryd.zeroValue0
  t24 := Tryd.underlying131
  a24 := Tryd.isAgg131
  z24 := Tryd.sizeOf131
  v24 := Tryd.zeroValue131
  t26 := Tryd.underlying9
  a26 := Tryd.isAgg9
  z26 := Tryd.sizeOf9
  v26 := Tryd.zeroValue9
  t28 := Tryd.underlying134
  a28 := Tryd.isAgg134
  z28 := Tryd.sizeOf134
  v28 := Tryd.zeroValue134
  i26 := by kernel_rfl }
def Tryd.sort69_ren : Go.Shelf.Ren := ⟨fun | 6 => 69 | 8 => 80 | 9 => 79 | 19 => 94 | 20 => 95 | 21 => 85 | 22 => 86 | 23 => 87 | 24 => 88 | 25 => 89 | 26 => 90 | 27 => 91 | 28 => 92 | 29 => 93 | 36 => 99 | 31 => 100 | 32 => 101 | 37 => 102 | 38 => 103 | 39 => 104 | 41 => 109 | n => n, fun | 27 => 131 | 29 => 9 | 3 => 3 | 32 => 149 | 26 => 131 | 0 => 0 | 44 => 163 | 46 => 71 | 4 => 4 | 36 => 156 | 35 => 155 | 41 => 95 | 5 => 5 | 9 => 9 | 53 => 166 | 57 => 170 | 63 => 180 | 64 => 181 | n => n, fun | n => n⟩
theorem Tryd.sort69 : Go.Proofs.SlLaysM.n6 Tryd.prog Tryd.sort69_ren := {
  mixed := by kernel_rfl
  f6 := ⟨Tryd.f69.name, by decide, Tryd.func69.trans (congrArg some (by kernel_rfl))⟩
  f8 := Tryd.func80.trans (congrArg some (by kernel_rfl))
  f9 := ⟨Tryd.f79.name, by decide, Tryd.func79.trans (congrArg some (by kernel_rfl))⟩
  f19 := Tryd.func94.trans (congrArg some (by kernel_rfl))
  f20 := Tryd.func95.trans (congrArg some (by kernel_rfl))
  f21 := ⟨Tryd.f85.name, by decide, Tryd.func85.trans (congrArg some (by kernel_rfl))⟩
  f22 := ⟨Tryd.f86.name, by decide, Tryd.func86.trans (congrArg some (by kernel_rfl))⟩
  f23 := ⟨Tryd.f87.name, by decide, Tryd.func87.trans (congrArg some (by kernel_rfl))⟩
  f24 := ⟨Tryd.f88.name, by decide, Tryd.func88.trans (congrArg some (by kernel_rfl))⟩
  f25 := ⟨Tryd.f89.name, by decide, Tryd.func89.trans (congrArg some (by kernel_rfl))⟩
  f26 := ⟨Tryd.f90.name, by decide, Tryd.func90.trans (congrArg some (by kernel_rfl))⟩
  f27 := ⟨Tryd.f91.name, by decide, Tryd.func91.trans (congrArg some (by kernel_rfl))⟩
  f28 := ⟨Tryd.f92.name, by decide, Tryd.func92.trans (congrArg some (by kernel_rfl))⟩
  f29 := ⟨Tryd.f93.name, by decide, Tryd.func93.trans (congrArg some (by kernel_rfl))⟩
  f31 := Tryd.func100.trans (congrArg some (by kernel_rfl))
  f32 := Tryd.func101.trans (congrArg some (by kernel_rfl))
  f36 := ⟨Tryd.f99.name, by decide, Tryd.func99.trans (congrArg some (by kernel_rfl))⟩
  f37 := ⟨Tryd.f102.name, by decide, Tryd.func102.trans (congrArg some (by kernel_rfl))⟩
  f38 := ⟨Tryd.f103.name, by decide, Tryd.func103.trans (congrArg some (by kernel_rfl))⟩
  f39 := ⟨Tryd.f104.name, by decide, Tryd.func104.trans (congrArg some (by kernel_rfl))⟩
  f41 := ⟨Tryd.f109.name, by decide, Tryd.func109.trans (congrArg some (by kernel_rfl))⟩
  t0 := Tryd.underlying0
  a0 := Tryd.isAgg0
  z0 := Tryd.sizeOf0
  v0 := Tryd.zeroValue0
  t3 := Tryd.underlying3
  a3 := Tryd.isAgg3
  z3 := Tryd.sizeOf3
  v3 := Tryd.zeroValue3
  t4 := Tryd.underlying4
  a4 := Tryd.isAgg4
  z4 := Tryd.sizeOf4
  v4 := Tryd.zeroValue4
  t5 := Tryd.underlying5
  a5 := Tryd.isAgg5
  z5 := Tryd.sizeOf5
  v5 := Tryd.zeroValue5
  t9 := Tryd.underlying9
  a9 := Tryd.isAgg9
  z9 := Tryd.sizeOf9
  v9 := Tryd.zeroValue9
  t26 := Tryd.underlying131
  a26 := Tryd.isAgg131
  z26 := Tryd.sizeOf131
  v26 := Tryd.zeroValue131
  t27 := Tryd.underlying131
  a27 := Tryd.isAgg131
  z27 := Tryd.sizeOf131
  v27 := Tryd.zeroValue131
  t29 := Tryd.underlying9
  a29 := Tryd.isAgg9
  z29 := Tryd.sizeOf9
  v29 := Tryd.zeroValue9
  t32 := Tryd.underlying149
  a32 := Tryd.isAgg149
  z32 := Tryd.sizeOf149
  v32 := Tryd.zeroValue149
  t35 := Tryd.underlying155
  a35 := Tryd.isAgg155
  z35 := Tryd.sizeOf155
  v35 := Tryd.zeroValue155
  t36 := Tryd.underlying156
  a36 := Tryd.isAgg156
  z36 := Tryd.sizeOf156
  v36 := Tryd.zeroValue156
  t41 := Tryd.underlying95
  a41 := Tryd.isAgg95
  z41 := Tryd.sizeOf95
  v41 := Tryd.zeroValue95
  t44 := Tryd.underlying163
  a44 := Tryd.isAgg163
  z44 := Tryd.sizeOf163
  v44 := Tryd.zeroValue163
  t46 := Tryd.underlying71
  a46 := Tryd.isAgg71
  z46 := Tryd.sizeOf71
  v46 := Tryd.zeroValue71
  t53 := Tryd.underlying166
  a53 := Tryd.isAgg166
  z53 := Tryd.sizeOf166
  v53 := Tryd.zeroValue166
  t57 := Tryd.underlying170
  a57 := Tryd.isAgg170
  z57 := Tryd.sizeOf170
  v57 := Tryd.zeroValue170
  t63 := Tryd.underlying180
  a63 := Tryd.isAgg180
  z63 := Tryd.sizeOf180
  v63 := Tryd.zeroValue180
  t64 := Tryd.underlying181
  a64 := Tryd.isAgg181
  z64 := Tryd.sizeOf181
  v64 := Tryd.zeroValue181 }
def Tryd.clone55_ren : Go.Shelf.Ren := ⟨fun | 5 => 55 | 7 => 62 | n => n, fun | 23 => 107 | 25 => 9 | 3 => 2 | 4 => 4 | 20 => 20 | n => n, fun | n => n⟩
theorem Tryd.clone55 : Go.Proofs.SlLaysW.n5 Tryd.prog Tryd.clone55_ren := {
  mixed := by kernel_rfl
  f5 := ⟨Tryd.f55.name, by decide, Tryd.func55.trans (congrArg some (by kernel_rfl))⟩
  f7 := Tryd.func62.trans (congrArg some (by kernel_rfl))
  t4 := Tryd.underlying4
  a4 := Tryd.isAgg4
  z4 := Tryd.sizeOf4
  v4 := Tryd.zeroValue4
  t20 := Tryd.underlying20
  a20 := Tryd.isAgg20
  z20 := Tryd.sizeOf20
  v20 := Tryd.zeroValue20
  t23 := Tryd.underlying107
  a23 := Tryd.isAgg107
  z23 := Tryd.sizeOf107
  v23 := Tryd.zeroValue107 }
def Tryd.clone56_ren : Go.Shelf.Ren := ⟨fun | 5 => 56 | 7 => 62 | n => n, fun | 23 => 108 | 25 => 116 | 3 => 118 | 4 => 4 | 20 => 20 | n => n, fun | n => n⟩
theorem Tryd.clone56 : Go.Proofs.SlLaysW.n5 Tryd.prog Tryd.clone56_ren := {
  mixed := by kernel_rfl
  f5 := ⟨Tryd.f56.name, by decide, Tryd.func56.trans (congrArg some (by kernel_rfl))⟩
  f7 := Tryd.func62.trans (congrArg some (by kernel_rfl))
  t4 := Tryd.underlying4
  a4 := Tryd.isAgg4
  z4 := Tryd.sizeOf4
  v4 := Tryd.zeroValue4
  t20 := Tryd.underlying20
  a20 := Tryd.isAgg20
  z20 := Tryd.sizeOf20
  v20 := Tryd.zeroValue20
  t23 := Tryd.underlying108
  a23 := Tryd.isAgg108
  z23 := Tryd.sizeOf108
  v23 := Tryd.zeroValue108 }
def Tryd.trim67_ren : Go.Shelf.Ren := ⟨fun | 160 => 67 | 232 => 72 | 231 => 71 | 227 => 73 | 234 => 75 | 233 => 74 | 236 => 77 | 235 => 76 | 228 => 81 | 271 => 84 | 151 => 83 | 197 => 82 | 120 => 98 | 152 => 97 | 260 => 96 | 137 => 105 | 119 => 106 | 224 => 107 | 225 => 108 | 217 => 110 | 266 => 111 | n => n, fun | 9 => 9 | 4 => 4 | 3 => 3 | 5 => 5 | 117 => 142 | 116 => 141 | 0 => 0 | 124 => 145 | 21 => 21 | 105 => 151 | 46 => 149 | 119 => 172 | 139 => 175 | 138 => 174 | n => n, fun | 3 => 0 | 4 => 1 | n => n⟩
theorem Tryd.trim67 : Go.Proofs.Lays.n160 Tryd.prog Tryd.trim67_ren := {
  mixed := by kernel_rfl
  f119 := Tryd.func106.trans (congrArg some (by kernel_rfl))
  f120 := Tryd.func98.trans (congrArg some (by kernel_rfl))
  f137 := Tryd.func105.trans (congrArg some (by kernel_rfl))
  f151 := Tryd.func83.trans (congrArg some (by kernel_rfl))
  f152 := Tryd.func97.trans (congrArg some (by kernel_rfl))
  f160 := Tryd.func67.trans (congrArg some (by kernel_rfl))
  f197 := Tryd.func82.trans (congrArg some (by kernel_rfl))
  f217 := Tryd.func110.trans (congrArg some (by kernel_rfl))
  f224 := Tryd.func107.trans (congrArg some (by kernel_rfl))
  f225 := Tryd.func108.trans (congrArg some (by kernel_rfl))
  f227 := Tryd.func73.trans (congrArg some (by kernel_rfl))
  f228 := Tryd.func81.trans (congrArg some (by kernel_rfl))
  f231 := Tryd.func71.trans (congrArg some (by kernel_rfl))
  f232 := Tryd.func72.trans (congrArg some (by kernel_rfl))
  f233 := Tryd.func74.trans (congrArg some (by kernel_rfl))
  f234 := Tryd.func75.trans (congrArg some (by kernel_rfl))
  f235 := Tryd.func76.trans (congrArg some (by kernel_rfl))
  f236 := Tryd.func77.trans (congrArg some (by kernel_rfl))
  f260 := Tryd.func96.trans (congrArg some (by kernel_rfl))
  f266 := Tryd.func111.trans (congrArg some (by kernel_rfl))
  f271 := Tryd.func84.trans (congrArg some (by kernel_rfl))
  t0 := Tryd.underlying0
  a0 := Tryd.isAgg0
  z0 := Tryd.sizeOf0
  v0 := Tryd.zeroValue0
  t3 := Tryd.underlying3
  a3 := Tryd.isAgg3
  z3 := Tryd.sizeOf3
  v3 := Tryd.zeroValue3
  t4 := Tryd.underlying4
  a4 := Tryd.isAgg4
  z4 := Tryd.sizeOf4
  v4 := Tryd.zeroValue4
  t5 := Tryd.underlying5
  a5 := Tryd.isAgg5
  z5 := Tryd.sizeOf5
  v5 := Tryd.zeroValue5
  t9 := Tryd.underlying9
  a9 := Tryd.isAgg9
  z9 := Tryd.sizeOf9
  v9 := Tryd.zeroValue9
  t21 := Tryd.underlying21
  a21 := Tryd.isAgg21
  z21 := Tryd.sizeOf21
  v21 := Tryd.zeroValue21
  t46 := Tryd.underlying149
  a46 := Tryd.isAgg149
  z46 := Tryd.sizeOf149
  v46 := Tryd.zeroValue149
  t105 := Tryd.underlying151
  a105 := Tryd.isAgg151
  z105 := Tryd.sizeOf151
  v105 := Tryd.zeroValue151
  t116 := Tryd.underlying141
  a116 := Tryd.isAgg141
  z116 := Tryd.sizeOf141
  t117 := Tryd.underlying142
  a117 := Tryd.isAgg142
  z117 := Tryd.sizeOf142
  v117 := Tryd.zeroValue142
  t119 := Tryd.underlying172
  a119 := Tryd.isAgg172
  z119 := Tryd.sizeOf172
  t124 := Tryd.underlying145
  a124 := Tryd.isAgg145
  z124 := Tryd.sizeOf145
  v124 := Tryd.zeroValue145
  t138 := Tryd.underlying174
  a138 := Tryd.isAgg174
  z138 := Tryd.sizeOf174
  v138 := Tryd.zeroValue174
  t139 := Tryd.underlying175
  a139 := Tryd.isAgg175
  z139 := Tryd.sizeOf175
  v139 := Tryd.zeroValue175
  g3 := by kernel_rfl
  g4 := by kernel_rfl }
end Go.Proofs
namespace Go.Proofs.YtnbcghbgeiocbaaDoor
open Go.Q Go.RowKit
theorem Trim_calls (w : World) (s : List UInt8) (hs : s.length ≤ 9223372036854775807) : Calls Tryd.prog 67 ⟨[.string (str s), .string (str lettersB)]⟩ w (fun e w' => e = .returned (.string (str (Lib.trimS s lettersB))) ∧ Keeps none_ w w') :=
 (Go.Proofs.Any.strings_Trim_laid Go.Proofs.Tryd.trim67 (by kernel_rfl) (str s) (str lettersB) w hs (by decide) (Go.Proofs.ascii_of_all (by decide))).mono fun e w' ⟨he, hb⟩ => ⟨by rw [he]; rfl, Keeps.of_below hb⟩
theorem Name_calls (w : World) (n : List UInt8)  : Calls Tryd.prog 63 ⟨[(Value.string (str n))]⟩ w (fun e w' => e = .returned (.bool (nameOk n)) ∧ Keeps none_ w w') := by
 have K0 : Keeps none_ w w := Keeps.refl w
 refine q_calls Tryd.func63 (by kernel_rfl) (by kernel_rfl) ?_
 refine qsg ?_
 refine odz 1 ?_
 refine qsg ?_
 refine og 1 [(0, .string (str n)), (2, .bool false), (3, .string (str n))] 1 ?_
 refine ogo (Value.bool (!(n == ([] : List UInt8)))) 4 (Runs.strne (t := 9) (by kernel_rfl)) rfl ?_
 refine og 1 [(0, .string (str n)), (2, .bool false), (5, (Value.bool (!(n == ([] : List UInt8)))))] 3 ?_
 refine Ops.split (!(n == ([] : List UInt8))) (fun h1 => ?_) (fun h1 => ?_)
 ·rw [h1]
  have p2 := bnot_true h1
  refine og 5 [(0, .string (str n)), (2, .bool false), (10, (Value.bool (decide (((n.length : Nat) : Int) ≤ 24))))] 8 ?_
  refine Ops.split (decide (((n.length : Nat) : Int) ≤ 24)) (fun h3 => ?_) (fun h3 => ?_)
  ·rw [h3]
   have p4 := of_decide_eq_true h3
   refine og 1 [(2, .bool false), (10, .bool true), (11, .string (str n))] 9 ?_
   refine ocQ 12 (Trim_calls _ n (by omega)) ?_
   rintro _ w6 ⟨rfl, K5⟩
   refine ⟨_, _, rfl, rfl, ?_⟩
   replace K0 := K0.t0 K5
   clear K5
   refine ogo (Value.bool ((Lib.trimS n lettersB) == ([] : List UInt8))) 13 (Runs.streq (t := 9) (by kernel_rfl)) rfl ?_
   refine ogd 2 [(2, (Value.bool ((Lib.trimS n lettersB) == ([] : List UInt8))))] ?_
   refine qtQ ?_
   refine ⟨(Value.bool ((Lib.trimS n lettersB) == ([] : List UInt8))), retv_tmp rfl rfl, ?_⟩
   have e : nameOk n = ((Lib.trimS n lettersB) == ([] : List UInt8)) := by unfold nameOk; rw [show decide (1 ≤ n.length ∧ n.length ≤ 24) = true from decide_eq_true ⟨by have := List.length_pos_iff.2 (show n ≠ [] by simp_all); omega, by omega⟩, Bool.true_and]; exact (trim_letters n).symm
   exact ⟨by rw [e], K0⟩
  ·rw [h3]
   have p7 := of_decide_eq_false h3
   refine ogd 5 [(2, .bool false)] ?_
   refine qtQ ?_
   refine ⟨(Value.bool false), retv_tmp rfl rfl, ?_⟩
   have e : nameOk n = false := by unfold nameOk; rw [Bool.and_eq_false_iff]; left; exact decide_eq_false (by intro h; first | omega | (subst_vars; simp at h) | (simp_all))
   exact ⟨by rw [e], K0⟩
 ·rw [h1]
  have p8 := bnot_false h1
  refine ogd 10 [(2, .bool false)] ?_
  refine qtQ ?_
  refine ⟨(Value.bool false), retv_tmp rfl rfl, ?_⟩
  have e : nameOk n = false := by unfold nameOk; rw [Bool.and_eq_false_iff]; left; exact decide_eq_false (by intro h; first | omega | (subst_vars; simp at h) | (simp_all))
  exact ⟨by rw [e], K0⟩
theorem Keys_calls (w : World) (mb : Nat) : Calls Tryd.prog 65 ⟨[.map (some mb)]⟩ w (fun e w' => ∃ c, e = .returned (Value.func (Fn.func 70) ⟨[]⟩ ⟨[ptr c]⟩) ∧ Keeps none_ w w' ∧ Has w' c (rowL [.map (some mb)] 107) ∧ c = w.heap.size) :=
 (callsIn_wide.1 (AnyZ.keys_in Go.Proofs.Tryd.keys65 Fence.wide 5 trivial rfl (some mb) w)).mono fun e w' ⟨he, hw⟩ => ⟨_, he, by rw [hw]; exact Keeps.alloc _ _, by rw [hw]; exact Has.new _ _, rfl⟩
theorem Sorts (m : Nat) : AnyZ.SortsIn Tryd.prog Go.Proofs.Tryd.sorted64_ren Fence.wide m :=
 ⟨fun blk off cap ss W hH hblk hsz => callsIn_wide.2 (AnyM.slices_Sort_string Go.Proofs.Tryd.sort69 blk off cap ss W hH hblk hsz), fun p cap W => callsIn_wide.2 (AnyM.slices_Sort_string_none Go.Proofs.Tryd.sort69 p cap W)⟩
theorem Sorted_calls (w : World) (c mb : Nat) (m : List (List UInt8 × Int)) (S : List RowM) (Hc : Has w c (rowL [.map (some mb)] 107)) (Hm : HasMap w mb kstr ki64 m) (hL : LMap m S) (hl : S.length ≤ 1000) : Calls Tryd.prog 64 ⟨[Value.func (Fn.func 70) ⟨[]⟩ ⟨[ptr c]⟩]⟩ w (fun e w' => ∃ v, e = .returned v ∧ Keeps none_ w w' ∧ OwnT w' w.heap.size 9 1 kcell v (S.map (·.name))) := by
 obtain ⟨D, hown, hk, hs⟩ := Hm.owns (k := 9) Tryd.underlying9 (fun x hx => by have := hL.names_ok x hx; unfold maxLen; omega) (by have := hL.len; unfold maxLen; omega)
 have hml : m.length ≤ 1000 := by have := hL.len; omega
 have hseq := AnyZ.keys_gives (ρ := Go.Proofs.Tryd.keys65_ren) { Go.Proofs.Tryd.keys65 with } Fence.wide 2 trivial rfl (by omega) c mb m.length D w Hc.lt (by simpa using Hc.cell 0) hown
 have cS := AnyZ.sorted_in Go.Proofs.Tryd.sorted64 Fence.wide 5 trivial trivial trivial trivial rfl (by omega) (Sorts _) (enters_of Tryd.func69 (by kernel_rfl) rfl) 70 #[ptr c] trivial (enters_of Tryd.func70 (by kernel_rfl) rfl) _ (Maps.size D) (by rw [hs]; unfold maxLen; omega) (by rw [hs]; omega) w hseq
 refine (callsIn_wide.1 cS).mono ?_
 rintro e w' ⟨v, ss, rfl, hp, hrow, hnil, hb⟩
 have hp2 : ss.Perm (S.map (·.name)) := (hp.trans hk).trans (by rw [← wpair_map_fst]; exact (hL.perm.map (·.1)).symm)
 rw [sorted_namesW hL.led.sorted hp2] at hrow
 have hl : ss.length = (S.map (·.name)).length := hp2.length_eq
 refine ⟨v, rfl, Keeps.of_below hb, ?_⟩
 unfold OwnT
 rw [← hl, kcells]
 exact hrow
theorem tyR : ElemTy Tryd.prog 26 98 2 24 := elemTy (by kernel_rfl)
theorem rows_calls (w : World) (b mb kb : Nat) (m : List (List UInt8 × Int)) (S : List RowM) (Hb : Has w b (rowL [.map (some mb), .map (some kb)] 110)) (Hm : HasMap w mb kstr ki64 m) (hne : b ≠ mb) (hL : LMap m S) (hSl : S.length ≤ 1000) : Calls Tryd.prog 58 ⟨[(ptr b)]⟩ w (fun e w' => ∃ A c, e = .returned (.slice A S.length c) ∧ Keeps none_ w w' ∧ OwnR w' w.heap.size 98 (.slice A S.length c) S) := by
 have Hbl := Hb.lt
 have Hml := Hm.lt
 have hlen : (S.map (·.name)).length = S.length := List.length_map ..
 have K0 : Keeps none_ w w := Keeps.refl w
 refine q_calls Tryd.func58 (by kernel_rfl) (by kernel_rfl) ?_
 refine qsg ?_
 refine odz 1 ?_
 refine qsg ?_
 refine odz 1 ?_
 refine qs ?_
 refine qsg ?_
 refine og 3 [(0, ptr b), (2, .slice none 0 0), (3, .slice none 0 0), (8, ptr b)] 3 ?_
 refine ogo (Value.map (some mb)) 9 (rld 107 b 0 Hb) rfl ?_
 refine ocQ 10 (Keys_calls _ mb) ?_
 rintro _ w2 ⟨kc1, rfl, K3, H4, hc5⟩
 have lkc1b : b < kc1 := by have := Hb.lt; omega
 have lkc1mb : mb < kc1 := by have := Hm.lt; omega
 have nkc1 : w.heap.size ≤ kc1 := by have := K0.size; omega
 refine ⟨_, _, rfl, rfl, ?_⟩
 replace K0 := K0.t0 K3
 replace Hb := Hb.kn K3
 replace Hm := Hm.kn K3
 clear K3
 refine ocQ 11 (Sorted_calls _ kc1 mb m S H4 Hm hL (by omega)) ?_
 rintro _ w9 ⟨v6, rfl, K10, hO11⟩
 obtain ⟨A7, c8, rfl⟩ := RdT.form kcell_len (by decide) (OwnT.rd hO11)
 have ob13 : ∀ i, ((Value.slice A7 ((S.map (·.name)).length) c8)).ownBlock = some i → i ≠ b := fun i hi => by have := (World.ownsRow.lt hO11 i hi).1; have := Hb.lt; omega
 have ob14 : ∀ i, ((Value.slice A7 ((S.map (·.name)).length) c8)).ownBlock = some i → i ≠ mb := fun i hi => by have := (World.ownsRow.lt hO11 i hi).1; have := Hm.lt; omega
 have ob15 : ∀ i, ((Value.slice A7 ((S.map (·.name)).length) c8)).ownBlock = some i → i ≠ kc1 := fun i hi => by have := (World.ownsRow.lt hO11 i hi).1; have := H4.lt; omega
 have O12 := own_base hO11 K0.size
 refine ⟨_, _, rfl, rfl, ?_⟩
 replace K0 := K0.t0 K10
 replace Hb := Hb.kn K10
 replace Hm := Hm.kn K10
 replace H4 := H4.kn K10
 refine ogd 2 [(0, ptr b), (2, .slice none 0 0), (3, .slice none 0 0), (11, (Value.slice A7 ((S.map (·.name)).length) c8)), (12, (i64 (((S.map (·.name)).length : Nat) : Int))), (13, i64 0)] ?_
 refine q_block (id := 0) (by kernel_rfl) ?_
 refine q_keep (R := [(0, ptr b), (2, .slice none 0 0), (3, .slice none 0 0), (11, (Value.slice A7 ((S.map (·.name)).length) c8)), (12, (i64 (((S.map (·.name)).length : Nat) : Int))), (13, i64 0)]) (by kernel_rfl) ?_
 refine q_loop (fun (gs : (Option Addr) × Nat × Nat × (List RowM)) L (wx : World) => match gs with | (VA, vc, i, l) => L = [(0, (ptr b)), (2, (Value.slice none 0 0)), (3, (Value.slice VA l.length vc)), (11, (Value.slice A7 ((S.map (·.name)).length) c8)), (12, (i64 (((S.map (·.name)).length : Nat) : Int))), (13, (i64 ((i : Nat) : Int)))] ∧ OwnT wx w.heap.size 9 1 kcell (Value.slice A7 ((S.map (·.name)).length) c8) (S.map (·.name)) ∧ (∀ i, ((Value.slice A7 ((S.map (·.name)).length) c8)).ownBlock = some i → i ≠ b) ∧ (∀ i, ((Value.slice A7 ((S.map (·.name)).length) c8)).ownBlock = some i → i ≠ mb) ∧ (∀ i, ((Value.slice A7 ((S.map (·.name)).length) c8)).ownBlock = some i → i ≠ kc1) ∧ (∀ i, Ow (.slice VA l.length vc) i → ((Value.slice A7 ((S.map (·.name)).length) c8)).ownBlock = some i → False) ∧ OwnR wx w.heap.size 98 (Value.slice VA l.length vc) l ∧ (∀ i, Ow (.slice VA l.length vc) i → i ≠ b) ∧ (∀ i, Ow (.slice VA l.length vc) i → i ≠ mb) ∧ (∀ i, Ow (.slice VA l.length vc) i → i ≠ kc1) ∧ (∀ i, ((Value.slice A7 ((S.map (·.name)).length) c8)).ownBlock = some i → Ow (.slice VA l.length vc) i → False) ∧ i ≤ S.length ∧ l = S.take i ∧ Keeps none_ w wx ∧ Has wx b (rowL [(Value.map (some mb)), (Value.map (some kb))] 110) ∧ HasMap wx mb kstr ki64 m ∧ Has wx kc1 (rowL [(Value.map (some mb))] 107)) (fun (gs : (Option Addr) × Nat × Nat × (List RowM)) => match gs with | (VA, vc, i, l) => S.length - i) (none, 0, 0, []) (by kernel_rfl) ⟨rfl, O12, ob13, ob14, ob15, (fun _ h => by cases h), (OwnT.nil _ _ _ _ _), (fun i hi => by cases hi), (fun i hi => by cases hi), (fun i hi => by cases hi), (fun _ _ h => by cases h), Nat.zero_le _, rfl, K0, Hb, Hm, H4⟩ ?_
 clear Hb Hm H4 O12 K0
 rintro ⟨VA, vc, i, l⟩ _ w16 ⟨rfl, hON, obNb, obNmb, obNkc1, ooNV, hOV, obVb, obVmb, obVkc1, ooVN, hi, hE, K17, H18, H19, H20⟩
 have hrl := congrArg List.length hE
 rw [List.length_take] at hrl
 refine qsg ?_
 refine ogd 1 [(0, ptr b), (2, .slice none 0 0), (3, .slice VA l.length vc), (11, (Value.slice A7 ((S.map (·.name)).length) c8)), (12, (i64 (((S.map (·.name)).length : Nat) : Int))), (13, i64 ↑i), (14, (Value.bool (decide (((i : Nat) : Int) < (((S.map (·.name)).length : Nat) : Int)))))] ?_
 refine qs ?_
 refine qcQ 14 (decide (((i : Nat) : Int) < (((S.map (·.name)).length : Nat) : Int))) rfl (fun h21 => ?_) (fun h21 => ?_)
 ·rw [h21]
  have p22 := of_decide_eq_true h21
  obtain ⟨a, ha⟩ : ∃ y, S[i]? = some y := ⟨_, List.getElem?_eq_getElem (by omega)⟩
  have hgm := hL.at_ ha
  have hao := hL.led.ok a (List.mem_of_getElem? ha)
  have hal := (nameOk_len hao.name).2
  have hna := nameW_at ha
  have hrt := takeR ha
  obtain ⟨rb23, ro24, hA25⟩ := Rd.addr (OwnT.rd hON) (by omega)
  refine qkQ ?_
  refine qs ?_
  refine q_block (id := 1) (by kernel_rfl) ?_
  refine qsg ?_
  refine Ops.go (by kernel_rfl) (Runs.ixSliceE (k := IntKind.i64) (t := 131) (len := ((S.map (·.name)).length)) (cap := c8) (s := 1) (off' := ro24 + i) (i := ((i : Nat) : Int)) hA25 (by kernel_rfl) (by kernel_rfl) (by omega) (by omega) (by omega)) (d := (some 15)) (by kernel_rfl) rfl ?_
  refine ogo (Value.string (str a.name)) 16 (Runs.load (t := 9) (a := ⟨rb23, ro24 + i, none⟩) (by kernel_rfl) (RdT.ld1 (f := kcell) (x := a.name) kcell_len (OwnT.rd hON) (by kernel_rfl) hA25 hna rfl)) rfl ?_
  refine ogd 1 [(0, ptr b), (2, .slice none 0 0), (3, .slice VA l.length vc), (5, .string (str a.name)), (11, (Value.slice A7 ((S.map (·.name)).length) c8)), (12, (i64 (((S.map (·.name)).length : Nat) : Int))), (13, i64 ↑i)] ?_
  refine qg ?_
  refine og 5 [(0, ptr b), (2, .slice none 0 0), (3, .slice VA l.length vc), (5, .string (str a.name)), (11, (Value.slice A7 ((S.map (·.name)).length) c8)), (12, (i64 (((S.map (·.name)).length : Nat) : Int))), (13, i64 ↑i), (17, .slice VA l.length vc), (18, .string (str a.name)), (21, ptr b)] 5 ?_
  refine ogo (Value.map (some mb)) 22 (rld 107 b 0 H18) rfl ?_
  refine og 1 [(0, ptr b), (2, .slice none 0 0), (3, .slice VA l.length vc), (11, (Value.slice A7 ((S.map (·.name)).length) c8)), (12, (i64 (((S.map (·.name)).length : Nat) : Int))), (13, i64 ↑i), (17, .slice VA l.length vc), (18, .string (str a.name)), (22, .map (some mb)), (23, .string (str a.name))] 7 ?_
  refine ogo (i64 a.amount) 24 (Runs.lookup_some (ok := false) (vf := ki64) (a := a.amount) KT Tryd.underlying107 H19 hgm (by kernel_rfl)) rfl ?_
  refine og 1 [(0, ptr b), (2, .slice none 0 0), (3, .slice VA l.length vc), (11, (Value.slice A7 ((S.map (·.name)).length) c8)), (12, (i64 (((S.map (·.name)).length : Nat) : Int))), (13, i64 ↑i), (17, .slice VA l.length vc), (25, (agg [(Value.string (str a.name)), (i64 a.amount)]))] 9 ?_
  refine onew (rowL [(Value.string (str a.name)), (i64 a.amount)] 98) (fun b => (Value.slice (some ⟨b, 0, none⟩) 1 1)) 26 (fun b => rfl) (fun b26 w27 hb28 H29 K30 hs31 => ?_)
  have lb26b : b < b26 := by have := H18.lt; omega
  have lb26mb : mb < b26 := by have := H19.lt; omega
  have lb26kc1 : kc1 < b26 := by have := H20.lt; omega
  have nb26 : w.heap.size ≤ b26 := by have := K17.size; omega
  replace K17 := K17.tn K30
  replace H18 := H18.kn K30
  replace H19 := H19.kn K30
  replace H20 := H20.kn K30
  replace hON := own_keep0 hON K30
  replace hOV := own_keep0 hOV K30
  clear K30 hs31
  obtain ⟨v34, w35, hr36, hO37, hK38, hg39⟩ := OwnT.app (ty := 26) RowM.two RowM.one tyR hOV (show RdT _ 2 RowM.cells _ [(⟨a.name, a.amount⟩ : RowM)] from Rd.lit H29 (n := 1) rfl (by decide)) (by simp only [List.length_cons, List.length_nil]; omega) (by simp only [List.length_cons, List.length_nil]; omega) K17.size
  obtain ⟨A41, c42, rfl⟩ := RdT.form RowM.two (by decide) (OwnT.rd hO37)
  have ob43 : ∀ i, ((Value.slice A41 ((l ++ [(⟨a.name, a.amount⟩ : RowM)]).length) c42)).ownBlock = some i → i ≠ b := fun i hi => by rcases hg39 i hi with h | h; (have := obVb i h; omega); (have := H18.lt; omega)
  have ob44 : ∀ i, ((Value.slice A41 ((l ++ [(⟨a.name, a.amount⟩ : RowM)]).length) c42)).ownBlock = some i → i ≠ mb := fun i hi => by rcases hg39 i hi with h | h; (have := obVmb i h; omega); (have := H19.lt; omega)
  have ob45 : ∀ i, ((Value.slice A41 ((l ++ [(⟨a.name, a.amount⟩ : RowM)]).length) c42)).ownBlock = some i → i ≠ kc1 := fun i hi => by rcases hg39 i hi with h | h; (have := obVkc1 i h; omega); (have := H20.lt; omega)
  have oo47 : ∀ i, ((Value.slice A7 ((S.map (·.name)).length) c8)).ownBlock = some i → ((Value.slice A41 ((l ++ [(⟨a.name, a.amount⟩ : RowM)]).length) c42)).ownBlock = some i → False := fun i hi hs => by rcases hg39 i hs with h | h; (exact ooVN i hi h); (have := (World.ownsRow.lt hON i hi).2; omega)
  have oo48 : ∀ i, ((Value.slice A41 ((l ++ [(⟨a.name, a.amount⟩ : RowM)]).length) c42)).ownBlock = some i → ((Value.slice A7 ((S.map (·.name)).length) c8)).ownBlock = some i → False := fun i hi hs => oo47 i hs hi
  have K40 := hK38
  refine ogo (Value.slice A41 ((l ++ [(⟨a.name, a.amount⟩ : RowM)]).length) c42) 27 (Runs.append (ts := #[26, 26]) (ty := 26) (vs := [(Value.slice VA l.length vc), (Value.slice (some ⟨b26, 0, none⟩) 1 1)]) (by kernel_rfl) hr36) rfl ?_
  replace K17 := K17.trans K40 (U := none_) (fun i h1 h2 => h2) (fun i h1 h2 => by have h2 : Ow (.slice VA l.length vc) i := h2; exfalso; have := (World.ownsRow.lt hOV i h2).1; omega)
  replace H18 := H18.keep K40 (by intro h; change Ow (.slice VA l.length vc) b at h; have := obVb b h; omega)
  replace H19 := H19.keep K40 (by intro h; change Ow (.slice VA l.length vc) mb at h; have := obVmb mb h; omega)
  replace H20 := H20.keep K40 (by intro h; change Ow (.slice VA l.length vc) kc1 at h; have := obVkc1 kc1 h; omega)
  replace hON := own_keep hON K40 (fun i hi hs => by have hs : Ow (.slice VA l.length vc) i := hs; exact ooVN i hi hs)
  clear hOV
  clear K40 hr36 hK38 hg39
  refine ogd 1 [(0, ptr b), (2, .slice none 0 0), (3, (Value.slice A41 ((l ++ [(⟨a.name, a.amount⟩ : RowM)]).length) c42)), (11, (Value.slice A7 ((S.map (·.name)).length) c8)), (12, (i64 (((S.map (·.name)).length : Nat) : Int))), (13, i64 ↑i)] ?_
  refine qg ?_
  refine oid 2 (fun z => [(0, ptr b), (2, .slice none 0 0), (3, (Value.slice A41 ((l ++ [(⟨a.name, a.amount⟩ : RowM)]).length) c42)), (11, (Value.slice A7 ((S.map (·.name)).length) c8)), (12, (i64 (((S.map (·.name)).length : Nat) : Int))), (13, i64 z)]) i ?_
  exact ⟨(A41, c42, i + 1, l ++ [(⟨a.name, a.amount⟩ : RowM)]), ⟨rfl, hON, obNb, obNmb, obNkc1, oo48, hO37, ob43, ob44, ob45, oo47, (by omega), (by rw [hrt, ← hE]; first | done | rfl), K17, H18, H19, H20⟩, (show S.length - (i + 1) < S.length - i from by omega)⟩
 ·rw [h21]
  have p50 := of_decide_eq_false h21
  refine q_exit (id := 0) (by kernel_rfl) ?_
  refine qsg ?_
  refine ogd 2 [(2, .slice VA l.length vc)] ?_
  refine qtQ ?_
  refine ⟨(Value.slice VA l.length vc), retv_tmp rfl rfl, ?_⟩
  have e : l = S := by rw [hE, List.take_of_length_le (by omega)]
  rw [e] at hOV
  rw [e]
  exact ⟨_, _, rfl, K17, hOV⟩
end Go.Proofs.YtnbcghbgeiocbaaDoor
namespace Go.Proofs.YtnbcghbgeiocbaaDoor
open Go.Q Go.RowKit
theorem SameRows_calls (w : World) (A : Option Addr) (c : Nat) (la : List RowM) (B : Option Addr) (d : Nat) (lb : List RowM) (hA : RdR w (.slice A la.length c) la) (hB : RdR w (.slice B lb.length d) lb) : Calls Tryd.prog 53 ⟨[(Value.slice A la.length c), (Value.slice B lb.length d)]⟩ w (fun e w' => ∃ t, e = .returned (.bool t) ∧ (t = true ↔ la = lb) ∧ Keeps none_ w w') := by
 have hla := (RdT.len RowM.two (by decide) hA).2
 unfold maxLen at hla
 have K0 : Keeps none_ w w := Keeps.refl w
 refine q_calls Tryd.func53 (by kernel_rfl) (by kernel_rfl) ?_
 refine qsg ?_
 refine odz 1 ?_
 refine qs ?_
 refine qsg ?_
 refine ogd 5 [(0, .slice A la.length c), (1, .slice B lb.length d), (4, .bool false), (10, (Value.bool (((la.length : Nat) : Int) != ((lb.length : Nat) : Int))))] ?_
 refine qcQ 10 (((la.length : Nat) : Int) != ((lb.length : Nat) : Int)) rfl (fun h1 => ?_) (fun h1 => ?_)
 ·rw [h1]
  have p2 := of_bne_t h1
  refine qsg ?_
  refine ogd 1 [(0, .slice A la.length c), (1, .slice B lb.length d), (4, .bool false)] ?_
  refine qtQ ?_
  refine ⟨(Value.bool false), retv_tmp rfl rfl, ?_⟩
  exact ⟨false, rfl, ⟨fun h => (by cases h), fun h => by exfalso; have := congrArg List.length h; omega⟩, K0⟩
 ·rw [h1]
  have p3 := of_bne_f h1
  refine qkQ ?_
  refine qs ?_
  refine qsg ?_
  refine ogd 1 [(0, .slice A la.length c), (1, .slice B lb.length d), (4, .bool false), (5, i64 0)] ?_
  refine q_block (id := 0) (by kernel_rfl) ?_
  refine q_keep (R := [(0, .slice A la.length c), (1, .slice B lb.length d), (5, i64 0)]) (by kernel_rfl) ?_
  refine q_loop (fun (i : Nat) L (wx : World) => L = [(0, (Value.slice A la.length c)), (1, (Value.slice B lb.length d)), (5, (i64 ((i : Nat) : Int)))] ∧ la.take i = lb.take i ∧ i ≤ la.length ∧ Keeps none_ w wx) (fun (i : Nat) => la.length - i) 0 (by kernel_rfl) ⟨rfl, rfl, Nat.zero_le _, K0⟩ ?_
  clear K0
  rintro i _ w4 ⟨rfl, hE, hi, K5⟩
  refine qs ?_
  refine qsg ?_
  refine ogd 4 [(0, .slice A la.length c), (1, .slice B lb.length d), (5, i64 ↑i), (14, (Value.bool (decide (((i : Nat) : Int) < ((la.length : Nat) : Int)))))] ?_
  refine qcQ 14 (decide (((i : Nat) : Int) < ((la.length : Nat) : Int))) rfl (fun h6 => ?_) (fun h6 => ?_)
  ·rw [h6]
   have p7 := of_decide_eq_true h6
   obtain ⟨rb8, ro9, x, hA10, hx11⟩ := RdT.open (Rd.keep0 (by omega) hA K5) rfl (k := i) (by omega)
   obtain ⟨rb12, ro13, y, hA14, hx15⟩ := RdT.open (Rd.keep0 (by omega) hB K5) rfl (k := i) (by omega)
   have hX := hx11
   have hY := hx15
   refine qkQ ?_
   refine qs ?_
   refine q_block (id := 1) (by kernel_rfl) ?_
   refine qs ?_
   refine q_draw (fun wz => Keeps none_ w4 wz) 9 (by kernel_rfl) (by kernel_rfl) (by kernel_rfl) (fun w16 K17 _ _ => ⟨K17, ?_⟩)
   replace K5 := K5.tn K17
   refine Dr.strong (S' := (fun wz => Keeps none_ w16 wz)) (Keeps.refl w16) (fun wz hx => K17.trans hx (fun i _ h => h) (fun _ _ h => h)) ?_
   refine dkQ 7 [0, 1] [(0, .slice A la.length c), (1, .slice B lb.length d), (5, i64 ↑i), (17, .slice A la.length c), (18, i64 ↑i)] ?_
   refine dtQ 2 (Value.pointer (some ⟨rb8, ro9 + i * 2, none⟩)) 19 (fun wz hS => Runs.ixSliceE (k := IntKind.i64) (t := 26) (len := la.length) (cap := c) (s := 2) (off' := ro9 + i * 2) (i := ((i : Nat) : Int)) hA10 (by kernel_rfl) (by kernel_rfl) (by omega) (by omega) (by omega)) rfl ?_
   refine dtQ 3 (agg [(Value.string (str x.name)), (i64 x.amount)]) 20 (fun wz hS => Runs.load (t := 98) (a := ⟨rb8, ro9 + i * 2, none⟩) (by kernel_rfl) (RdT.ld (f := RowM.cells) (x := x) RowM.two (Rd.keep0 (by omega) hA (K5.trans hS (fun _ _ h => h) (fun _ _ h => h))) (by kernel_rfl) (by kernel_rfl) hA10 hx11)) rfl ?_
   refine dkQ 3 [4, 5] [(0, .slice A la.length c), (1, .slice B lb.length d), (5, i64 ↑i), (20, (agg [(Value.string (str x.name)), (i64 x.amount)])), (21, .slice B lb.length d), (22, i64 ↑i)] ?_
   refine dtQ 6 (Value.pointer (some ⟨rb12, ro13 + i * 2, none⟩)) 23 (fun wz hS => Runs.ixSliceE (k := IntKind.i64) (t := 26) (len := lb.length) (cap := d) (s := 2) (off' := ro13 + i * 2) (i := ((i : Nat) : Int)) hA14 (by kernel_rfl) (by kernel_rfl) (by omega) (by omega) (by omega)) rfl ?_
   refine dtQ 7 (agg [(Value.string (str y.name)), (i64 y.amount)]) 24 (fun wz hS => Runs.load (t := 98) (a := ⟨rb12, ro13 + i * 2, none⟩) (by kernel_rfl) (RdT.ld (f := RowM.cells) (x := y) RowM.two (Rd.keep0 (by omega) hB (K5.trans hS (fun _ _ h => h) (fun _ _ h => h))) (by kernel_rfl) (by kernel_rfl) hA14 hx15)) rfl ?_
   refine dtQ 8 (Value.bool (!(aggB [(Value.string (str x.name)), (i64 x.amount)] [(Value.string (str y.name)), (i64 y.amount)]))) 25 (fun wz hS => Runs.aggne (t := 98) (by kernel_rfl) (by kernel_rfl)) rfl ?_
   refine Dr.done (by kernel_rfl) ?_
   refine qcQ 25 (!(aggB [(Value.string (str x.name)), (i64 x.amount)] [(Value.string (str y.name)), (i64 y.amount)])) rfl (fun h18 => ?_) (fun h18 => ?_)
   ·rw [h18]
    have p19 := bnot_true h18
    have hxy := aggB_row_f (bnot_true h18)
    refine qsg ?_
    refine ogd 1 [(0, .slice A la.length c), (1, .slice B lb.length d), (4, .bool false), (5, i64 ↑i)] ?_
    refine qtQ ?_
    refine ⟨(Value.bool false), retv_tmp rfl rfl, ?_⟩
    exact ⟨false, rfl, ⟨fun h => (by cases h), fun h => absurd h (getElem_ne hX hY hxy)⟩, K5⟩
   ·rw [h18]
    have p20 := bnot_false h18
    have hxy := (aggB_row x y).1 (bnot_false h18)
    refine qkQ ?_
    refine qg ?_
    refine oid 3 (fun z => [(0, .slice A la.length c), (1, .slice B lb.length d), (5, i64 z)]) i ?_
    exact ⟨i + 1, ⟨rfl, (take_eq_succ hE hX (hxy ▸ hY)), (by omega), K5⟩, (show la.length - (i + 1) < la.length - i from by omega)⟩
  ·rw [h6]
   have p22 := of_decide_eq_false h6
   refine q_exit (id := 0) (by kernel_rfl) ?_
   refine qsg ?_
   refine ogd 1 [(4, .bool true)] ?_
   refine qtQ ?_
   refine ⟨(Value.bool true), retv_tmp rfl rfl, ?_⟩
   exact ⟨true, rfl, ⟨fun _ => take_all_eq hE (by omega) (by omega), fun _ => rfl⟩, K5⟩
theorem SameReply_calls (w : World) (A : Option Addr) (c : Nat) (x : ReplyM) (B : Option Addr) (d : Nat) (y : ReplyM) (hA : RdR w (.slice A x.rows.length c) x.rows) (hB : RdR w (.slice B y.rows.length d) y.rows) : Calls Tryd.prog 37 ⟨[(agg [(i64 x.why), (i64 x.amount), (Value.slice A x.rows.length c)]), (agg [(i64 y.why), (i64 y.amount), (Value.slice B y.rows.length d)])]⟩ w (fun e w' => ∃ t, e = .returned (.bool t) ∧ (t = true ↔ x = y) ∧ Keeps none_ w w') := by
 have K0 : Keeps none_ w w := Keeps.refl w
 refine q_calls Tryd.func37 (by kernel_rfl) (by kernel_rfl) ?_
 refine qsg ?_
 refine onew (rowL [(i64 x.why), (i64 x.amount), (Value.slice A x.rows.length c)] 28) (fun b => (ptr b)) 2 (fun b => rfl) (fun b1 w2 hb3 H4 K5 hs6 => ?_)
 have nb1 : w.heap.size ≤ b1 := by have := K0.size; omega
 replace K0 := K0.t0 K5
 clear K5 hs6
 refine onew (rowL [(i64 y.why), (i64 y.amount), (Value.slice B y.rows.length d)] 28) (fun b => (ptr b)) 3 (fun b => rfl) (fun b7 w8 hb9 H10 K11 hs12 => ?_)
 have lb7 : b1 < b7 := by have := H4.lt; omega
 have nb7 : w.heap.size ≤ b7 := by have := K0.size; omega
 replace K0 := K0.t0 K11
 replace H4 := H4.kn K11
 clear K11 hs12
 refine odz 1 ?_
 refine qsg ?_
 refine og 1 [(2, ptr b1), (3, ptr b7), (4, .bool false), (5, ptr b1)] 1 ?_
 refine ogo (i64 x.why) 6 (rld 25 b1 0 H4) rfl ?_
 refine og 1 [(2, ptr b1), (3, ptr b7), (4, .bool false), (6, i64 x.why), (7, ptr b7)] 3 ?_
 refine ogo (i64 y.why) 8 (rld 25 b7 0 H10) rfl ?_
 refine og 2 [(2, ptr b1), (3, ptr b7), (4, .bool false), (10, .bool (x.why == y.why))] 6 ?_
 refine Ops.split (x.why == y.why) (fun h13 => ?_) (fun h13 => ?_)
 ·rw [h13]
  have p14 := of_beq_t h13
  refine og 1 [(2, ptr b1), (3, ptr b7), (4, .bool false), (10, .bool true), (11, .pointer (some ⟨b1, 1, none⟩))] 7 ?_
  refine ogo (i64 x.amount) 12 (rld 2 b1 1 H4) rfl ?_
  refine og 1 [(2, ptr b1), (3, ptr b7), (4, .bool false), (10, .bool true), (12, i64 x.amount), (13, .pointer (some ⟨b7, 1, none⟩))] 9 ?_
  refine ogo (i64 y.amount) 14 (rld 2 b7 1 H10) rfl ?_
  refine og 3 [(2, ptr b1), (3, ptr b7), (4, .bool false), (17, .bool (x.amount == y.amount))] 13 ?_
  refine Ops.split (x.amount == y.amount) (fun h15 => ?_) (fun h15 => ?_)
  ·rw [h15]
   have p16 := of_beq_t h15
   refine og 1 [(3, ptr b7), (4, .bool false), (17, .bool true), (18, .pointer (some ⟨b1, 2, none⟩))] 14 ?_
   refine ogo (Value.slice A x.rows.length c) 19 (rld 26 b1 2 H4) rfl ?_
   refine og 1 [(4, .bool false), (17, .bool true), (19, .slice A x.rows.length c), (20, .pointer (some ⟨b7, 2, none⟩))] 16 ?_
   refine ogo (Value.slice B y.rows.length d) 21 (rld 26 b7 2 H10) rfl ?_
   refine ocQ 22 (SameRows_calls _ A c x.rows B d y.rows (Rd.keep0 (by omega) hA K0) (Rd.keep0 (by omega) hB K0)) ?_
   rintro _ w20 ⟨t17, rfl, ht18, K19⟩
   refine ⟨_, _, rfl, rfl, ?_⟩
   replace K0 := K0.t0 K19
   refine ogd 2 [(4, .bool t17)] ?_
   refine qtQ ?_
   refine ⟨(Value.bool t17), retv_tmp rfl rfl, ?_⟩
   exact ⟨_, rfl, ⟨fun h => by have := ht18.1 h; cases x; cases y; simp only at *; simp only [ReplyM.mk.injEq]; exact ⟨by omega, by omega, this⟩, fun h => ht18.2 (by rw [h])⟩, K0⟩
  ·rw [h15]
   have p21 := of_beq_f h15
   refine ogd 7 [(4, .bool false)] ?_
   refine qtQ ?_
   refine ⟨(Value.bool false), retv_tmp rfl rfl, ?_⟩
   exact ⟨false, rfl, ⟨fun h => (by cases h), fun h => by subst h; exfalso; omega⟩, K0⟩
 ·rw [h13]
  have p22 := of_beq_f h13
  refine ogd 14 [(4, .bool false)] ?_
  refine qtQ ?_
  refine ⟨(Value.bool false), retv_tmp rfl rfl, ?_⟩
  exact ⟨false, rfl, ⟨fun h => (by cases h), fun h => by subst h; exfalso; omega⟩, K0⟩
end Go.Proofs.YtnbcghbgeiocbaaDoor
namespace Go.Q
section
variable {σ : Type}
structure Prob (σ : Type) where
 n : Nat
 num : Nat → Nat
 wait : Nat → Nat → Bool
 step : Nat → σ → Option σ
 told : Nat → Bool
 ok : σ → Prop
structure Sr (σ : Type) where
 order : List Nat
 done : Nat
 left : Int
 s : σ
def Prob.one (P : Prob σ) (t : Sr σ) (i : Nat) : Option (Sr σ) :=
 if t.done.testBit i || P.wait t.done i then none
 else (P.step i t.s).map fun s' => ⟨t.order ++ [P.num i], t.done ||| (1 <<< i), if P.told i then t.left - 1 else t.left, s'⟩
def Prob.nexts (P : Prob σ) (t : Sr σ) : List (Sr σ) := (List.range P.n).filterMap (P.one t)
def Prob.solve (P : Prob σ) : Nat → Sr σ → Option (List Nat)
 | 0, t => if t.left = 0 then some t.order else none
 | k + 1, t => if t.left = 0 then some t.order else (P.nexts t).findSome? (P.solve k)
def Prob.pc (P : Prob σ) (d : Nat) : Nat := (List.range P.n).countP (fun i => d.testBit i)
def Prob.lf (P : Prob σ) (d : Nat) : Nat := (List.range P.n).countP (fun i => P.told i && !d.testBit i)
def Prob.sv (P : Prob σ) (t : Sr σ) : Option (List Nat) := P.solve (P.n - P.pc t.done) t
def dullS (same : σ → σ → Bool) (D : List (Nat × σ)) (t : Sr σ) : Bool := D.any fun d => d.1 == t.done && same t.s d.2
def Prob.run (P : Prob σ) (same : σ → σ → Bool) : Nat → List (Sr σ) → List (Nat × σ) → Option (List Nat × Bool)
 | 0, _, _ => none
 | _ + 1, [], _ => some ([], false)
 | f + 1, t :: st, D => if t.left = 0 then some (t.order, true) else if dullS same D t then P.run same f st D else P.run same f (P.nexts t ++ st) ((t.done, t.s) :: D)
theorem countP_bit {p q : Nat → Bool} {i : Nat} (hq : ∀ j, q j = (p j || decide (j = i))) (hi : p i = false) : ∀ n, i < n → (List.range n).countP q = (List.range n).countP p + 1
 | 0, h => absurd h (Nat.not_lt_zero _)
 | n + 1, h => by
  rw [List.range_succ, List.countP_append, List.countP_append]
  by_cases e : i = n
  ·subst e
   have h1 : ∀ m, m ≤ i → (List.range m).countP q = (List.range m).countP p := fun m => by
    induction m with
    | zero => intro _; rfl
    | succ m ih =>
     intro hm
     rw [List.range_succ, List.countP_append, List.countP_append, ih (by omega)]
     have : q m = p m := by rw [hq, decide_eq_false (by omega), Bool.or_false]
     simp [List.countP_cons, this]
   rw [h1 i (Nat.le_refl _)]
   have h2 : q i = true := by rw [hq]; simp
   simp [List.countP_cons, h2, hi]
  ·rw [countP_bit hq hi n (by omega)]
   have : q n = p n := by rw [hq, decide_eq_false (by omega), Bool.or_false]
   simp [List.countP_cons, this]; omega
theorem testBit_or (d i j : Nat) : (d ||| (1 <<< i)).testBit j = (d.testBit j || decide (j = i)) := by
 rw [Nat.testBit_or, Nat.one_shiftLeft, Nat.testBit_two_pow]
 congr 1
 exact decide_eq_decide.2 ⟨fun h => h.symm, fun h => h.symm⟩
variable {P : Prob σ}
theorem Prob.pc_or {d i : Nat} (hi : i < P.n) (hd : d.testBit i = false) : P.pc (d ||| (1 <<< i)) = P.pc d + 1 :=
 countP_bit (fun j => testBit_or d i j) hd _ hi
theorem Prob.lf_or {d i : Nat} (hi : i < P.n) (hd : d.testBit i = false) : P.lf d = P.lf (d ||| (1 <<< i)) + if P.told i then 1 else 0 := by
 cases ht : P.told i with
 | true =>
  refine countP_bit (fun j => ?_) ?_ _ hi
  ·rw [testBit_or]
   by_cases e : j = i
   ·subst e; simp [ht, hd]
   ·rw [decide_eq_false e]; simp
  ·rw [testBit_or]; simp
 | false =>
  show List.countP _ _ = List.countP _ _ + 0
  rw [Nat.add_zero]
  refine List.countP_congr fun j _ => ?_
  rw [testBit_or]
  by_cases e : j = i
  ·subst e; simp [ht]
  ·rw [decide_eq_false e]; simp
theorem Prob.pc_le (d : Nat) : P.pc d ≤ P.n := by
 have := List.countP_le_length (p := fun i => d.testBit i) (l := List.range P.n)
 rwa [List.length_range] at this
def Prob.V (P : Prob σ) (t : Sr σ) : Prop := t.left = (P.lf t.done : Int) ∧ P.ok t.s
structure Prob.Like (P : Prob σ) (R : σ → σ → Prop) : Prop where
 keep : ∀ i a a', i < P.n → P.ok a → P.step i a = some a' → P.ok a'
 step : ∀ a b i, i < P.n → P.ok a → P.ok b → R a b → (P.step i a = none ∧ P.step i b = none) ∨ ∃ a' b', P.step i a = some a' ∧ P.step i b = some b' ∧ R a' b'
theorem Prob.one_pc {t t' : Sr σ} {i : Nat} (hi : i < P.n) (h : P.one t i = some t') : P.pc t'.done = P.pc t.done + 1 ∧ (t.left = (P.lf t.done : Int) → t'.left = (P.lf t'.done : Int)) ∧ P.step i t.s = some t'.s := by
 unfold Prob.one at h
 split at h
 ·cases h
 ·rename_i hb
  have hd : t.done.testBit i = false := by cases q : t.done.testBit i; rfl; rw [q] at hb; simp at hb
  obtain ⟨s', hs', rfl⟩ := Option.map_eq_some_iff.1 h
  refine ⟨P.pc_or hi hd, fun hV => ?_, hs'⟩
  have h1 := P.lf_or hi hd
  show (if P.told i = true then t.left - 1 else t.left) = (P.lf (t.done ||| (1 <<< i)) : Int)
  cases ht : P.told i with
  | true => rw [ht] at h1; simp only [if_true] at h1 ⊢; omega
  | false => rw [ht] at h1; simp only [Bool.false_eq_true, if_false] at h1 ⊢; omega
theorem Prob.one_V {R : σ → σ → Prop} (hR : P.Like R) {t t' : Sr σ} {i : Nat} (hi : i < P.n) (h : P.one t i = some t') (hV : P.V t) : P.V t' :=
 ⟨(P.one_pc hi h).2.1 hV.1, hR.keep i _ _ hi hV.2 (P.one_pc hi h).2.2⟩
theorem Prob.nexts_pc {t t' : Sr σ} (h : t' ∈ P.nexts t) : P.pc t'.done = P.pc t.done + 1 := by
 obtain ⟨i, hi, h1⟩ := List.mem_filterMap.1 h
 exact (P.one_pc (List.mem_range.1 hi) h1).1
theorem Prob.nexts_V {R : σ → σ → Prop} (hR : P.Like R) {t t' : Sr σ} (h : t' ∈ P.nexts t) (hV : P.V t) : P.V t' := by
 obtain ⟨i, hi, h1⟩ := List.mem_filterMap.1 h
 exact P.one_V hR (List.mem_range.1 hi) h1 hV
theorem findSome_congr {α β : Type} {f g : α → Option β} : ∀ {l : List α}, (∀ a ∈ l, f a = g a) → l.findSome? f = l.findSome? g
 | [], _ => rfl
 | a :: l, h => by
  rw [List.findSome?_cons, List.findSome?_cons, h a (List.mem_cons_self ..), findSome_congr fun b hb => h b (List.mem_cons_of_mem _ hb)]
theorem Prob.sv_eq (t : Sr σ) : P.sv t = if t.left = 0 then some t.order else (P.nexts t).findSome? P.sv := by
 unfold Prob.sv
 cases hk : P.n - P.pc t.done with
 | zero =>
  have hn : P.nexts t = [] := by
   cases hx : P.nexts t with
   | nil => rfl
   | cons a l =>
    have h1 := P.nexts_pc (show a ∈ P.nexts t by rw [hx]; exact List.mem_cons_self ..)
    have h2 := P.pc_le a.done
    omega
  rw [hn]; rfl
 | succ k =>
  show (if t.left = 0 then some t.order else (P.nexts t).findSome? (P.solve k)) = _
  congr 1
  refine findSome_congr fun a ha => ?_
  rw [P.nexts_pc ha, show P.n - (P.pc t.done + 1) = k from by omega]
theorem findSome_isSome {α β : Type} (f : α → Option β) : ∀ l : List α, (l.findSome? f).isSome = l.any fun a => (f a).isSome
 | [] => rfl
 | a :: l => by
  rw [List.findSome?_cons, List.any_cons]
  cases f a with
  | some b => rfl
  | none => exact findSome_isSome f l
theorem Prob.like_sv {R : σ → σ → Prop} (hR : P.Like R) : ∀ (k : Nat) (t u : Sr σ), P.n - P.pc t.done = k → P.V t → P.V u → t.done = u.done → R t.s u.s → (P.sv t).isSome = (P.sv u).isSome := by
 intro k
 induction k using Nat.strongRecOn with
 | _ k ih =>
  intro t u hk hVt hVu hd hs
  have hl : t.left = u.left := by rw [hVt.1, hVu.1, hd]
  rw [P.sv_eq t, P.sv_eq u, hl]
  by_cases h0 : u.left = 0
  ·rw [if_pos h0, if_pos h0]; rfl
  ·rw [if_neg h0, if_neg h0, findSome_isSome, findSome_isSome]
   unfold Prob.nexts
   have key : ∀ is : List Nat, (∀ i ∈ is, i < P.n) → ((is.filterMap (P.one t)).any fun a => (P.sv a).isSome) = ((is.filterMap (P.one u)).any fun a => (P.sv a).isSome) := by
    intro is
    induction is with
    | nil => intro _; rfl
    | cons i is ihs =>
     intro hi
     have ihs := ihs fun j hj => hi j (List.mem_cons_of_mem _ hj)
     have hin := hi i (List.mem_cons_self ..)
     rw [List.filterMap_cons, List.filterMap_cons]
     have h1 : (P.one t i = none ∧ P.one u i = none) ∨ ∃ a b, P.one t i = some a ∧ P.one u i = some b ∧ a.done = b.done ∧ R a.s b.s := by
      unfold Prob.one
      rw [hd]
      split
      ·exact .inl ⟨rfl, rfl⟩
      ·rcases hR.step _ _ i hin hVt.2 hVu.2 hs with ⟨h1, h2⟩ | ⟨a', b', h1, h2, h3⟩
       ·exact .inl ⟨by rw [h1]; rfl, by rw [h2]; rfl⟩
       ·rw [h1, h2]; exact .inr ⟨_, _, rfl, rfl, rfl, h3⟩
     rcases h1 with ⟨h1, h2⟩ | ⟨a, b, h1, h2, h3, h4⟩
     ·rw [h1, h2]; exact ihs
     ·rw [h1, h2]
      have q1 := (P.one_pc hin h1).1
      have q3 := P.pc_le a.done
      show ((a :: _).any _) = ((b :: _).any _)
      rw [List.any_cons, List.any_cons, ihs, ih (P.n - P.pc a.done) (by omega) a b rfl (P.one_V hR hin h1 hVt) (P.one_V hR hin h2 hVu) h3 h4]
   exact key _ fun i hi => List.mem_range.1 hi
def bdS (n : Nat) : Nat → Nat
 | 0 => 1
 | k + 1 => 1 + n * bdS n k
theorem bdS_pos (n : Nat) : ∀ k, 1 ≤ bdS n k
 | 0 => Nat.le_refl _
 | k + 1 => Nat.le_add_right _ _
theorem Prob.nexts_len (t : Sr σ) : (P.nexts t).length ≤ P.n := by
 have := List.length_filterMap_le (P.one t) (List.range P.n)
 rwa [List.length_range] at this
def Prob.Dead (P : Prob σ) (R : σ → σ → Prop) (d : Nat × σ) : Prop := ∀ t : Sr σ, P.V t → t.done = d.1 → R t.s d.2 → P.sv t = none
def Prob.Inv (P : Prob σ) (R : σ → σ → Prop) (D : List (Nat × σ)) (q : Nat) : Prop := ∀ d ∈ D, q ≤ P.pc d.1 → P.Dead R d
theorem Prob.run_law {R : σ → σ → Prop} {same : σ → σ → Bool} (hR : P.Like R) (hs : ∀ a b, same a b = true → R a b) : ∀ (k : Nat) (t : Sr σ) (D : List (Nat × σ)), P.n - P.pc t.done = k → P.V t → P.Inv R D (P.pc t.done) →
  ∃ (c : Nat) (D' : List (Nat × σ)), c ≤ bdS P.n k ∧ (∀ f st, P.run same (c + f) (t :: st) D = match P.sv t with | some o => some (o, true) | none => P.run same f st D') ∧ (∀ d ∈ D', d ∈ D ∨ P.pc t.done ≤ P.pc d.1) ∧ (P.sv t = none → P.Inv R D' (P.pc t.done)) := by
 intro k
 induction k using Nat.strongRecOn with
 | _ k ih =>
  intro t D hk hV hD
  by_cases h0 : t.left = 0
  ·refine ⟨1, D, bdS_pos _ _, fun f st => ?_, fun d hd => .inl hd, fun h => ?_⟩
   ·rw [P.sv_eq, if_pos h0, Nat.add_comm]
    show (if t.left = 0 then _ else _) = _
    rw [if_pos h0]
   ·rw [P.sv_eq, if_pos h0] at h; cases h
  ·by_cases hdl : dullS same D t = true
   ·have hn : P.sv t = none := by
     unfold dullS at hdl
     obtain ⟨d, hd, h1⟩ := List.any_eq_true.1 hdl
     rw [Bool.and_eq_true, beq_iff_eq] at h1
     exact hD d hd (by rw [h1.1]; exact Nat.le_refl _) t hV h1.1.symm (hs _ _ h1.2)
    refine ⟨1, D, bdS_pos _ _, fun f st => ?_, fun d hd => .inl hd, fun _ => hD⟩
    rw [hn, Nat.add_comm]
    show (if t.left = 0 then _ else if _ then _ else _) = _
    rw [if_neg h0, if_pos hdl]
   ·-- the states behind it, one by one
    have key : ∀ (ts : List (Sr σ)) (E : List (Nat × σ)), (∀ u ∈ ts, P.pc u.done = P.pc t.done + 1 ∧ P.V u) → P.Inv R E (P.pc t.done + 1) →
      ∃ (c : Nat) (D' : List (Nat × σ)), c ≤ ts.length * bdS P.n (k - 1) ∧ (∀ f st, P.run same (c + f) (ts ++ st) E = match ts.findSome? P.sv with | some o => some (o, true) | none => P.run same f st D') ∧ (∀ d ∈ D', d ∈ E ∨ P.pc t.done + 1 ≤ P.pc d.1) ∧ (ts.findSome? P.sv = none → P.Inv R D' (P.pc t.done + 1)) := by
     intro ts
     induction ts with
     | nil => intro E _ hE; exact ⟨0, E, Nat.zero_le _, fun f st => by rw [Nat.zero_add]; rfl, fun d hd => .inl hd, fun _ => hE⟩
     | cons u ts ihs =>
      intro E hts hE
      have hu := hts u (List.mem_cons_self ..)
      have hp := P.pc_le u.done
      obtain ⟨c1, D1, b1, r1, m1, i1⟩ := ih (P.n - P.pc u.done) (by omega) u E rfl hu.2 (by rw [hu.1]; exact hE)
      have hk1 : P.n - P.pc u.done = k - 1 := by rw [hu.1]; omega
      rw [hk1] at b1
      have hmul : (u :: ts).length * bdS P.n (k - 1) = ts.length * bdS P.n (k - 1) + bdS P.n (k - 1) := by rw [List.length_cons, Nat.add_mul, Nat.one_mul]
      cases hsv : P.sv u with
      | some o =>
       refine ⟨c1, D1, by omega, fun f st => ?_, fun d hd => (m1 d hd).imp id fun h => by omega, fun h => ?_⟩
       ·rw [List.cons_append, r1, hsv, List.findSome?_cons, hsv]
       ·rw [List.findSome?_cons, hsv] at h; cases h
      | none =>
       have i1 := i1 hsv
       rw [hu.1] at i1
       obtain ⟨c2, D2, b2, r2, m2, i2⟩ := ihs D1 (fun v hv => hts v (List.mem_cons_of_mem _ hv)) i1
       refine ⟨c1 + c2, D2, by omega, fun f st => ?_, fun d hd => ?_, fun h => ?_⟩
       ·rw [List.cons_append, Nat.add_assoc, r1, hsv, List.findSome?_cons, hsv]
        exact r2 f st
       ·rcases m2 d hd with h | h
        ·exact (m1 d h).imp id fun h => by omega
        ·exact .inr h
       ·rw [List.findSome?_cons, hsv] at h; exact i2 h
    obtain ⟨c, D', bc, r, m, i⟩ := key (P.nexts t) ((t.done, t.s) :: D) (fun u hu => ⟨P.nexts_pc hu, P.nexts_V hR hu hV⟩) (fun d hd hq => by
     rcases List.mem_cons.1 hd with rfl | hd
     ·exfalso; have hq : P.pc t.done + 1 ≤ P.pc t.done := hq; omega
     ·exact hD d hd (by omega))
    have hsv : P.sv t = (P.nexts t).findSome? P.sv := by rw [P.sv_eq, if_neg h0]
    have hbd : c + 1 ≤ bdS P.n k := by
     have hnl := P.nexts_len t
     cases k with
     | zero =>
      have hn0 : P.nexts t = [] := by
       cases hx : P.nexts t with
       | nil => rfl
       | cons a l => have h1 := P.nexts_pc (show a ∈ P.nexts t by rw [hx]; exact List.mem_cons_self ..); have h2 := P.pc_le a.done; omega
      rw [hn0] at bc
      have : c ≤ 0 * bdS P.n (0 - 1) := bc
      rw [Nat.zero_mul] at this
      have := bdS_pos P.n 0; omega
     | succ k =>
      have h1 : (P.nexts t).length * bdS P.n (k + 1 - 1) ≤ P.n * bdS P.n k := Nat.mul_le_mul_right _ hnl
      show c + 1 ≤ 1 + P.n * bdS P.n k
      omega
    refine ⟨c + 1, D', hbd, fun f st => ?_, fun d hd => ?_, fun hn => ?_⟩
    ·rw [hsv, show c + 1 + f = (c + f) + 1 from by omega]
     show (if t.left = 0 then _ else if _ then _ else P.run same (c + f) (P.nexts t ++ st) ((t.done, t.s) :: D)) = _
     rw [if_neg h0, if_neg hdl]
     exact r f st
    ·rcases m d hd with h | h
     ·rcases List.mem_cons.1 h with rfl | h
      ·exact .inr (Nat.le_refl _)
      ·exact .inl h
     ·exact .inr (by omega)
    ·have hi := i (hsv ▸ hn)
     intro d hd hq
     rcases m d hd with h | h
     ·rcases List.mem_cons.1 h with rfl | h
      ·intro u hVu hdu hsu
       have h1 := P.like_sv hR _ u t rfl hVu hV hdu hsu
       rw [hn] at h1
       cases hx : P.sv u with
       | none => rfl
       | some o => rw [hx] at h1; cases h1
      ·exact hD d h hq
     ·exact hi d hd h
theorem Prob.run_start {R : σ → σ → Prop} {same : σ → σ → Bool} (hR : P.Like R) (hs : ∀ a b, same a b = true → R a b) {t : Sr σ} (hV : P.V t) : ∃ c, c ≤ bdS P.n (P.n - P.pc t.done) + 1 ∧ P.run same c [t] [] = some (match P.sv t with | some o => (o, true) | none => ([], false)) := by
 obtain ⟨c, D', b, r, _, _⟩ := P.run_law hR hs _ t [] rfl hV (fun d hd => by cases hd)
 refine ⟨c + 1, by omega, (r 1 []).trans ?_⟩
 cases P.sv t with
 | some o => rfl
 | none => rfl
end
end Go.Q
namespace Go.Q
open Go.RowKit
def Loose (B : Nat) (W W' : World) : Prop := Keeps (fun i => B ≤ i ∧ ∃ o, W.heap[i]? = some o ∧ o.isCells = false) W W'
theorem Loose.none {B : Nat} {W W' : World} (k : Keeps none_ W W') : Loose B W W' := k.mono fun _ _ h => h.elim
theorem Loose.put {B : Nat} {W : World} {l : Nat} {o : Obj} (o' : Obj) (hB : B ≤ l) (h : W.heap[l]? = some o) (ho : o.isCells = false) : Loose B W (W.putObj l o') :=
 ⟨rfl, rfl, rfl, by simp, fun i _ hn => World.putObj_heap_other (fun e => hn (by subst e; exact ⟨hB, o, h, ho⟩))⟩
theorem Loose.has {B : Nat} {W W' : World} (k : Loose B W W') {b : Nat} {xs : List Value} {E : TypeId} (h : Has W b (rowL xs E)) : Has W' b (rowL xs E) :=
 h.keep k fun ⟨_, o, ho, hc⟩ => by rw [show W.heap[b]? = some (rowL xs E) from h] at ho; cases ho; cases hc
theorem Loose.own {B base e sz n : Nat} {v : Value} {xs : List Value} {W W' : World} (k : Loose B W W') (h : W.ownsRow base e sz v n xs) : W'.ownsRow base e sz v n xs := own_keep h k fun b hb ⟨_, o, ho, hc⟩ => by
 obtain ⟨_, h2⟩ := h
 rcases h2 with h2 | ⟨g, cap, cur, hv, hg, hh, _⟩
 ·obtain ⟨rfl, _⟩ := h2; cases hb
 ·subst hv
  obtain rfl : g = b := by simpa [Value.ownBlock] using hb
  rw [hh] at ho; cases ho; cases hc
theorem keepsFrom_of {B : Nat} {U : Nat → Prop} {W W' : World} (k : Keeps U W W') (h : ∀ i, U i → B ≤ i → ∃ o, W.heap[i]? = some o ∧ o.isCells = true) : KeepsFrom B W W' :=
 ⟨k.size, fun i o hB hi ho => (k.blk i (Array.getElem?_eq_some_iff.1 hi).1 fun hu => by obtain ⟨o2, h2, h3⟩ := h i hu hB; rw [hi] at h2; cases h2; rw [ho] at h3; cases h3).trans hi⟩
theorem own_is_cells {B e sz n : Nat} {v : Value} {xs : List Value} {W : World} (h : W.ownsRow B e sz v n xs) {i : Nat} (hi : v.ownBlock = some i) : ∃ o, W.heap[i]? = some o ∧ o.isCells = true := by
 obtain ⟨_, h2⟩ := h
 rcases h2 with ⟨rfl, _⟩ | ⟨g, cap, cur, hv, hg, hh, _⟩
 ·cases hi
 ·subst hv
  obtain rfl : g = i := by simpa [Value.ownBlock] using hi
  exact ⟨_, hh, rfl⟩
theorem enters {P : Program} {f : FuncId} {fn : Func} (hf : P.funcs[f]? = some fn) (hn : (fn.name == "runtime.NumGoroutine") = false) (hb : fn.body.isSome = true) (args : Array Value) (w : World) : (callFunc f args).run P w = .ok (.enter f args) w := by
 have h1 : fn.name ≠ "runtime.NumGoroutine" := by simpa using hn
 cases hc : fn.body with
 | none => rw [hc] at hb; cases hb
 | some c => simp [callFunc, hf, h1, hc, mark]
def Tells (P : Program) (m : Nat) (gf : Nat) (lb : List Value) (A : Nat → Value → World → Prop) (T : Nat → Prop) (N : Nat) (w0 : World) : Prop :=
 ∀ (l : Nat) (J : Nat → World → Prop) (W : World), Keeps T w0 W → (∀ k W W', J k W → Keeps none_ W W' → J k W') →
  (∀ k v W1, J k W1 → k < N → A k v W1 → YieldAt Fence.wide m P l #[v] W1 fun e W' => e = .returned (.bool true) ∧ J (k + 1) W' ∧ Keeps T W1 W') →
  J 0 W → Calls P gf ⟨.func (.yield l) #[] #[] :: lb⟩ W fun e W' => (∃ v, e = .returned v) ∧ J N W'
theorem retR_norm {P : Program} {m : Nat} {L : Loc} {w : World} {fn : Func} {R : Ending → World → Prop} {v : Value} (hv : retv P fn w v L) (hR : R (.returned v) w) : retR P fn m R [] .normal L w :=
 fun a ha => ⟨v, hv a.tmps ha.val, hR⟩
end Go.Q
namespace Go.Q
open Go.RowKit
def setLs (n : Nat) : List Tmp → List Value → Loc → Option Loc
 | [], [], L => some L
 | t :: ts, v :: vs, L => match setL n (some t) v L with
  | some L' => setLs n ts vs L'
  | none => none
 | _, _, _ => none
def TellsN (P : Program) (m : Nat) (gf : Nat) (lb : List Value) (A : Nat → List Value → World → Prop) (T : Nat → Prop) (N : Nat) (w0 : World) : Prop :=
 ∀ (l : Nat) (J : Nat → World → Prop) (W : World), Keeps T w0 W → (∀ k W W', J k W → Keeps none_ W W' → J k W') →
  (∀ k vs W1, J k W1 → k < N → A k vs W1 → YieldAt Fence.wide m P l ⟨vs⟩ W1 fun e W' => e = .returned (.bool true) ∧ J (k + 1) W' ∧ Keeps T W1 W') →
  J 0 W → Calls P gf ⟨.func (.yield l) #[] #[] :: lb⟩ W fun e W' => (∃ v, e = .returned v) ∧ J N W'
end Go.Q
namespace Go.Q
open Go.RowKit
def TellsM {β : Type} (P : Program) (m : Nat) (gf : Nat) (lb : List Value) (enc : β → List Value) (T : Nat → Prop) (S : List β → Prop) (w0 : World) : Prop :=
 ∀ (l : Nat) (J : List β → World → Prop) (W : World), Keeps T w0 W → (∀ k W1 W2, J k W1 → Loose W.heap.size W1 W2 → J k W2) →
  (∀ pre x W1, J pre W1 → (∃ post, S (pre ++ x :: post)) → YieldAt Fence.wide m P l ⟨enc x⟩ W1 fun e W' => e = .returned (.bool true) ∧ J (pre ++ [x]) W' ∧ Keeps T W1 W' ∧ KeepsFrom W.heap.size W1 W') →
  J [] W → Calls P gf ⟨.func (.yield l) #[] #[] :: lb⟩ W fun e W' => (∃ v, e = .returned v) ∧ ∃ all, S all ∧ J all W'
theorem Loose.le {B B' : Nat} {W W' : World} (k : Loose B' W W') (h : B ≤ B') : Loose B W W' := k.mono fun _ _ hs => ⟨Nat.le_trans h hs.1, hs.2⟩
theorem KeepsFrom.le {B B' : Nat} {W W' : World} (k : KeepsFrom B W W') (h : B ≤ B') : KeepsFrom B' W W' := ⟨k.size, fun i o hB hi ho => k.same i o (Nat.le_trans h hB) hi ho⟩
section
variable {κ α : Type} {w w' : World} {r mb : Nat} {kf : κ → Value} {vf : α → Value} {m rest : List (κ × α)} {last : Option (κ × α)}
theorem OpsR.go {F : Fence} {P : Program} {m n : Nat} {os : Array Oper} {K : List Deferred → Exit → Loc → World → Prop} {L L' : Loc} {w : World} {i : Nat} {d : Option Tmp} {ds : List Deferred} (hF : Open F) (hd : noDefer os = true) {v : Value} {w' : World} (h0 : okAt os L i = true) (hr : Runs P L (opn os i) w v w') (hdd : dst? os i = some d) (hs : setL n d v L = some L')
  (hn : OpsR F P m n os (i + 1) K ds L' w') : OpsR F P m n os i K ds L w := by
 have h1 := at?_opn h0
 have hd' : (opn os i).dst = d := by have := (at?_spec h1).1; simpa [dst?, this] using hdd
 refine OpsR.run hF hd h1 hr fun a ha => ?_
 show ∃ a2 L', (wd ds a).put (opn os i).dst v = wd ds a2 ∧ _
 rw [hd']
 exact ⟨a.put d v, L', wd_put _ _ _ _, ha.setL hs, hn⟩
theorem came_perm {β : Type} {s p q m : List β} {x : β} (h : (s ++ (p ++ x :: q)).Perm m) : ((s ++ [x]) ++ (p ++ q)).Perm m := by
 refine List.Perm.trans ?_ h
 rw [List.append_assoc]
 exact List.Perm.append_left _ (List.perm_middle (l₁ := p) (l₂ := q) (a := x)).symm
end
end Go.Q
namespace Go.Q
end Go.Q
