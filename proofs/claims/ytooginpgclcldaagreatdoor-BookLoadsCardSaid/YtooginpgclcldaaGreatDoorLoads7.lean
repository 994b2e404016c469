/- What the claim stands on, part 7: rules of the walk, contracts of the functions, plain laws. -/
import Derived.Shelf.SlGeneric
import Derived.Shelf.SlIter.Nil
import Derived.Shelf.SortM.Plain
import Derived.Shelf.SortM.SortNone
import Derived.Shelf.Strings.SlTrimAscii
import Derived.Ground.GgzProg
import Derived.Ground.SlgmProg
import Derived.Ground.NamesProg
import Derived.Ground.SlmcProg
import Derived.Shelf.SlMaps.Clone
import Derived.Test.YtooginpgclcldaaGreatDoorProg
import Derived.Test.YtooginpgclcldaaGreatDoorLoads1
import Derived.Test.YtooginpgclcldaaGreatDoorLoads5
import Derived.Test.YtooginpgclcldaaGreatDoorLoads6
import Derived.Test.YtooginpgclcldaaGreatDoorLoads4
set_option linter.unusedVariables false
namespace Go.Proofs
open Go.Shelf
def Tryz.keys72_ren : Go.Shelf.Ren := ⟨fun | 7 => 72 | 10 => 89 | n => n, fun | 23 => 64 | 26 => 9 | 3 => 70 | 28 => 100 | 0 => 0 | 27 => 99 | 33 => 90 | 4 => 4 | n => n, fun | n => n⟩
theorem Tryz.keys72 : Go.Proofs.SlLaysZ.n7 Tryz.prog Tryz.keys72_ren := {
  mixed := by kernel_rfl
  f7 := ⟨Tryz.f72.name, by decide, Tryz.func72.trans (congrArg some (by kernel_rfl))⟩
  f10 := ⟨Tryz.f89.name, by decide, Tryz.func89.trans (congrArg some (by kernel_rfl))⟩
  t0 := Tryz.underlying0
  a0 := Tryz.isAgg0
  z0 := Tryz.sizeOf0
  v0 := Tryz.zeroValue0
  t4 := Tryz.underlying4
  a4 := Tryz.isAgg4
  z4 := Tryz.sizeOf4
  v4 := Tryz.zeroValue4
  t23 := Tryz.underlying64
  a23 := Tryz.isAgg64
  z23 := Tryz.sizeOf64
  v23 := Tryz.zeroValue64
  t26 := Tryz.underlying9
  a26 := Tryz.isAgg9
  z26 := Tryz.sizeOf9
  v26 := Tryz.zeroValue9
  t27 := Tryz.underlying99
  a27 := Tryz.isAgg99
  z27 := Tryz.sizeOf99
  v27 := Tryz.zeroValue99
  t28 := Tryz.underlying100
  a28 := Tryz.isAgg100
  z28 := Tryz.sizeOf100
  v28 := Tryz.zeroValue100
  t33 := Tryz.underlying90
  a33 := Tryz.isAgg90
  z33 := Tryz.sizeOf90
  v33 := Tryz.zeroValue90 }
def Tryz.sorted71_ren : Go.Shelf.Ren := ⟨fun | 6 => 71 | 8 => 87 | 9 => 88 | 11 => 104 | 13 => 106 | 12 => 105 | 23 => 123 | 24 => 124 | 14 => 114 | 15 => 115 | 16 => 116 | 17 => 117 | 18 => 118 | 19 => 119 | 20 => 120 | 21 => 121 | 22 => 122 | 25 => 130 | 26 => 131 | 27 => 132 | 28 => 133 | 29 => 134 | 30 => 135 | 31 => 140 | n => n, fun | 26 => 9 | 28 => 100 | 24 => 67 | 0 => 0 | 3 => 3 | 37 => 88 | 48 => 114 | 50 => 63 | 4 => 4 | 40 => 136 | 39 => 135 | 45 => 102 | 5 => 5 | 9 => 9 | 51 => 147 | 55 => 150 | 57 => 159 | 58 => 160 | 33 => 90 | n => n, fun | n => n⟩
theorem Tryz.sorted71 : Go.Proofs.SlLaysZ.n6 Tryz.prog Tryz.sorted71_ren := {
  mixed := by kernel_rfl
  f6 := ⟨Tryz.f71.name, by decide, Tryz.func71.trans (congrArg some (by kernel_rfl))⟩
  f8 := ⟨Tryz.f87.name, by decide, Tryz.func87.trans (congrArg some (by kernel_rfl))⟩
  f11 := ⟨Tryz.f104.name, by decide, Tryz.func104.trans (congrArg some (by kernel_rfl))⟩
  t0 := Tryz.underlying0
  a0 := Tryz.isAgg0
  z0 := Tryz.sizeOf0
  v0 := Tryz.zeroValue0
  t24 := Tryz.underlying67
  a24 := Tryz.isAgg67
  z24 := Tryz.sizeOf67
  v24 := Tryz.zeroValue67
  t26 := Tryz.underlying9
  a26 := Tryz.isAgg9
  z26 := Tryz.sizeOf9
  v26 := Tryz.zeroValue9
  t28 := Tryz.underlying100
  a28 := Tryz.isAgg100
  z28 := Tryz.sizeOf100
  v28 := Tryz.zeroValue100
  i26 := by kernel_rfl }
def Tryz.sort88_ren : Go.Shelf.Ren := ⟨fun | 6 => 88 | 8 => 106 | 9 => 105 | 19 => 123 | 20 => 124 | 21 => 114 | 22 => 115 | 23 => 116 | 24 => 117 | 25 => 118 | 26 => 119 | 27 => 120 | 28 => 121 | 29 => 122 | 36 => 130 | 31 => 131 | 32 => 132 | 37 => 133 | 38 => 134 | 39 => 135 | 41 => 140 | n => n, fun | 27 => 67 | 29 => 9 | 3 => 3 | 32 => 88 | 26 => 67 | 0 => 0 | 44 => 114 | 46 => 63 | 4 => 4 | 36 => 136 | 35 => 135 | 41 => 102 | 5 => 5 | 9 => 9 | 53 => 147 | 57 => 150 | 63 => 159 | 64 => 160 | n => n, fun | n => n⟩
theorem Tryz.sort88 : Go.Proofs.SlLaysM.n6 Tryz.prog Tryz.sort88_ren := {
  mixed := by kernel_rfl
  f6 := ⟨Tryz.f88.name, by decide, Tryz.func88.trans (congrArg some (by kernel_rfl))⟩
  f8 := Tryz.func106.trans (congrArg some (by kernel_rfl))
  f9 := ⟨Tryz.f105.name, by decide, Tryz.func105.trans (congrArg some (by kernel_rfl))⟩
  f19 := Tryz.func123.trans (congrArg some (by kernel_rfl))
  f20 := Tryz.func124.trans (congrArg some (by kernel_rfl))
  f21 := ⟨Tryz.f114.name, by decide, Tryz.func114.trans (congrArg some (by kernel_rfl))⟩
  f22 := ⟨Tryz.f115.name, by decide, Tryz.func115.trans (congrArg some (by kernel_rfl))⟩
  f23 := ⟨Tryz.f116.name, by decide, Tryz.func116.trans (congrArg some (by kernel_rfl))⟩
  f24 := ⟨Tryz.f117.name, by decide, Tryz.func117.trans (congrArg some (by kernel_rfl))⟩
  f25 := ⟨Tryz.f118.name, by decide, Tryz.func118.trans (congrArg some (by kernel_rfl))⟩
  f26 := ⟨Tryz.f119.name, by decide, Tryz.func119.trans (congrArg some (by kernel_rfl))⟩
  f27 := ⟨Tryz.f120.name, by decide, Tryz.func120.trans (congrArg some (by kernel_rfl))⟩
  f28 := ⟨Tryz.f121.name, by decide, Tryz.func121.trans (congrArg some (by kernel_rfl))⟩
  f29 := ⟨Tryz.f122.name, by decide, Tryz.func122.trans (congrArg some (by kernel_rfl))⟩
  f31 := Tryz.func131.trans (congrArg some (by kernel_rfl))
  f32 := Tryz.func132.trans (congrArg some (by kernel_rfl))
  f36 := ⟨Tryz.f130.name, by decide, Tryz.func130.trans (congrArg some (by kernel_rfl))⟩
  f37 := ⟨Tryz.f133.name, by decide, Tryz.func133.trans (congrArg some (by kernel_rfl))⟩
  f38 := ⟨Tryz.f134.name, by decide, Tryz.func134.trans (congrArg some (by kernel_rfl))⟩
  f39 := ⟨Tryz.f135.name, by decide, Tryz.func135.trans (congrArg some (by kernel_rfl))⟩
  f41 := ⟨Tryz.f140.name, by decide, Tryz.func140.trans (congrArg some (by kernel_rfl))⟩
  t0 := Tryz.underlying0
  a0 := Tryz.isAgg0
  z0 := Tryz.sizeOf0
  v0 := Tryz.zeroValue0
  t3 := Tryz.underlying3
  a3 := Tryz.isAgg3
  z3 := Tryz.sizeOf3
  v3 := Tryz.zeroValue3
  t4 := Tryz.underlying4
  a4 := Tryz.isAgg4
  z4 := Tryz.sizeOf4
  v4 := Tryz.zeroValue4
  t5 := Tryz.underlying5
  a5 := Tryz.isAgg5
  z5 := Tryz.sizeOf5
  v5 := Tryz.zeroValue5
  t9 := Tryz.underlying9
  a9 := Tryz.isAgg9
  z9 := Tryz.sizeOf9
  v9 := Tryz.zeroValue9
  t26 := Tryz.underlying67
  a26 := Tryz.isAgg67
  z26 := Tryz.sizeOf67
  v26 := Tryz.zeroValue67
  t27 := Tryz.underlying67
  a27 := Tryz.isAgg67
  z27 := Tryz.sizeOf67
  v27 := Tryz.zeroValue67
  t29 := Tryz.underlying9
  a29 := Tryz.isAgg9
  z29 := Tryz.sizeOf9
  v29 := Tryz.zeroValue9
  t32 := Tryz.underlying88
  a32 := Tryz.isAgg88
  z32 := Tryz.sizeOf88
  v32 := Tryz.zeroValue88
  t35 := Tryz.underlying135
  a35 := Tryz.isAgg135
  z35 := Tryz.sizeOf135
  v35 := Tryz.zeroValue135
  t36 := Tryz.underlying136
  a36 := Tryz.isAgg136
  z36 := Tryz.sizeOf136
  v36 := Tryz.zeroValue136
  t41 := Tryz.underlying102
  a41 := Tryz.isAgg102
  z41 := Tryz.sizeOf102
  v41 := Tryz.zeroValue102
  t44 := Tryz.underlying114
  a44 := Tryz.isAgg114
  z44 := Tryz.sizeOf114
  v44 := Tryz.zeroValue114
  t46 := Tryz.underlying63
  a46 := Tryz.isAgg63
  z46 := Tryz.sizeOf63
  v46 := Tryz.zeroValue63
  t53 := Tryz.underlying147
  a53 := Tryz.isAgg147
  z53 := Tryz.sizeOf147
  v53 := Tryz.zeroValue147
  t57 := Tryz.underlying150
  a57 := Tryz.isAgg150
  z57 := Tryz.sizeOf150
  v57 := Tryz.zeroValue150
  t63 := Tryz.underlying159
  a63 := Tryz.isAgg159
  z63 := Tryz.sizeOf159
  v63 := Tryz.zeroValue159
  t64 := Tryz.underlying160
  a64 := Tryz.isAgg160
  z64 := Tryz.sizeOf160
  v64 := Tryz.zeroValue160 }
def Tryz.trim84_ren : Go.Shelf.Ren := ⟨fun | 160 => 84 | 232 => 98 | 231 => 97 | 227 => 99 | 234 => 101 | 233 => 100 | 236 => 103 | 235 => 102 | 228 => 110 | 271 => 113 | 151 => 112 | 197 => 111 | 120 => 129 | 152 => 128 | 260 => 127 | 137 => 136 | 119 => 137 | 224 => 138 | 225 => 139 | 217 => 141 | 266 => 142 | n => n, fun | 9 => 9 | 4 => 4 | 3 => 3 | 5 => 5 | 117 => 121 | 116 => 120 | 0 => 0 | 124 => 124 | 21 => 21 | 105 => 131 | 46 => 88 | 119 => 152 | 139 => 155 | 138 => 154 | n => n, fun | 3 => 0 | 4 => 1 | n => n⟩
theorem Tryz.trim84 : Go.Proofs.Lays.n160 Tryz.prog Tryz.trim84_ren := {
  mixed := by kernel_rfl
  f119 := Tryz.func137.trans (congrArg some (by kernel_rfl))
  f120 := Tryz.func129.trans (congrArg some (by kernel_rfl))
  f137 := Tryz.func136.trans (congrArg some (by kernel_rfl))
  f151 := Tryz.func112.trans (congrArg some (by kernel_rfl))
  f152 := Tryz.func128.trans (congrArg some (by kernel_rfl))
  f160 := Tryz.func84.trans (congrArg some (by kernel_rfl))
  f197 := Tryz.func111.trans (congrArg some (by kernel_rfl))
  f217 := Tryz.func141.trans (congrArg some (by kernel_rfl))
  f224 := Tryz.func138.trans (congrArg some (by kernel_rfl))
  f225 := Tryz.func139.trans (congrArg some (by kernel_rfl))
  f227 := Tryz.func99.trans (congrArg some (by kernel_rfl))
  f228 := Tryz.func110.trans (congrArg some (by kernel_rfl))
  f231 := Tryz.func97.trans (congrArg some (by kernel_rfl))
  f232 := Tryz.func98.trans (congrArg some (by kernel_rfl))
  f233 := Tryz.func100.trans (congrArg some (by kernel_rfl))
  f234 := Tryz.func101.trans (congrArg some (by kernel_rfl))
  f235 := Tryz.func102.trans (congrArg some (by kernel_rfl))
  f236 := Tryz.func103.trans (congrArg some (by kernel_rfl))
  f260 := Tryz.func127.trans (congrArg some (by kernel_rfl))
  f266 := Tryz.func142.trans (congrArg some (by kernel_rfl))
  f271 := Tryz.func113.trans (congrArg some (by kernel_rfl))
  t0 := Tryz.underlying0
  a0 := Tryz.isAgg0
  z0 := Tryz.sizeOf0
  v0 := Tryz.zeroValue0
  t3 := Tryz.underlying3
  a3 := Tryz.isAgg3
  z3 := Tryz.sizeOf3
  v3 := Tryz.zeroValue3
  t4 := Tryz.underlying4
  a4 := Tryz.isAgg4
  z4 := Tryz.sizeOf4
  v4 := Tryz.zeroValue4
  t5 := Tryz.underlying5
  a5 := Tryz.isAgg5
  z5 := Tryz.sizeOf5
  v5 := Tryz.zeroValue5
  t9 := Tryz.underlying9
  a9 := Tryz.isAgg9
  z9 := Tryz.sizeOf9
  v9 := Tryz.zeroValue9
  t21 := Tryz.underlying21
  a21 := Tryz.isAgg21
  z21 := Tryz.sizeOf21
  v21 := Tryz.zeroValue21
  t46 := Tryz.underlying88
  a46 := Tryz.isAgg88
  z46 := Tryz.sizeOf88
  v46 := Tryz.zeroValue88
  t105 := Tryz.underlying131
  a105 := Tryz.isAgg131
  z105 := Tryz.sizeOf131
  v105 := Tryz.zeroValue131
  t116 := Tryz.underlying120
  a116 := Tryz.isAgg120
  z116 := Tryz.sizeOf120
  t117 := Tryz.underlying121
  a117 := Tryz.isAgg121
  z117 := Tryz.sizeOf121
  v117 := Tryz.zeroValue121
  t119 := Tryz.underlying152
  a119 := Tryz.isAgg152
  z119 := Tryz.sizeOf152
  t124 := Tryz.underlying124
  a124 := Tryz.isAgg124
  z124 := Tryz.sizeOf124
  v124 := Tryz.zeroValue124
  t138 := Tryz.underlying154
  a138 := Tryz.isAgg154
  z138 := Tryz.sizeOf154
  v138 := Tryz.zeroValue154
  t139 := Tryz.underlying155
  a139 := Tryz.isAgg155
  z139 := Tryz.sizeOf155
  v139 := Tryz.zeroValue155
  g3 := by kernel_rfl
  g4 := by kernel_rfl }
def Tryz.clone56_ren : Go.Shelf.Ren := ⟨fun | 5 => 56 | 7 => 81 | n => n, fun | 23 => 64 | 25 => 9 | 3 => 70 | 4 => 4 | 20 => 20 | n => n, fun | n => n⟩
end Go.Proofs
namespace Go.Q
variable {P : Program} {n : Nat} {Q : Exit → Loc → World → Prop} {L : Loc} {w : World} {f : Func} {p : List Nat} {os : Array Oper} {i : Nat} {K : Loc → World → Prop}
theorem qs (h : wp P n (cd f (0 :: p)) (thn (wp P n (cd f (1 :: p)) Q) Q) L w) (hc : isSeq (cd f p) = true := by kernel_rfl) : wp P n (cd f p) Q L w := q_seq hc h
theorem qg (h : Ops P n (opsOf (cd f p)) 0 (Q .normal) L w) (hc : isRegion (cd f p) = true := by kernel_rfl) : wp P n (cd f p) Q L w := q_region hc h
theorem od (h : K L w) (hi : Nat.beq os.size i = true := by kernel_rfl) : Ops P n os i K L w := Ops.done hi h
theorem og (k : Nat) (R : Loc) (j : Nat) (hn : Ops P n os j K R w) (hj : Nat.beq (i + k) j = true := by kernel_rfl) (h : (match Go.Q.regs P n os k i L with | some L1 => restrict L1 (R.map Prod.fst) | none => none) = some R := by kernel_rfl) : Ops P n os i K L w := Ops.regs k R hj h hn
theorem Keeps.t0 {a b c : World} (h : Keeps none_ a b) (k : Keeps none_ b c) : Keeps none_ a c := h.trans k (fun _ _ h => h) (fun _ _ h => h)
end Go.Q
namespace Go.Proofs.YtooginpgclcldaaGreatDoor
open Go.Q Go.RowKit
theorem KT : KeyTy Tryz.prog 9 kstr := keyTy_str Tryz.underlying9

theorem Trim_calls (w : World) (s : List UInt8) (hs : s.length ≤ 9223372036854775807) : Calls Tryz.prog 84 ⟨[.string (str s), .string (str lettersB)]⟩ w (fun e w' => e = .returned (.string (str (Lib.trimS s lettersB))) ∧ Keeps none_ w w') :=
 (Go.Proofs.Any.strings_Trim_laid Go.Proofs.Tryz.trim84 (by kernel_rfl) (str s) (str lettersB) w hs (by decide) (Go.Proofs.ascii_of_all (by decide))).mono fun e w' ⟨he, hb⟩ => ⟨by rw [he]; rfl, Keeps.of_below hb⟩

theorem Name_calls (w : World) (n : List UInt8)  : Calls Tryz.prog 61 ⟨[(Value.string (str n))]⟩ w (fun e w' => e = .returned (.bool (nameOk n)) ∧ Keeps none_ w w') := by
 have K0 : Keeps none_ w w := Keeps.refl w
 refine q_calls Tryz.func61 (by kernel_rfl) (by kernel_rfl) ?_
 refine qs ?_
 refine qg ?_
 refine og 1 [(0, (Value.string (str n))), (2, (Value.bool false))] 1 ?_
 refine od ?_
 refine qs ?_
 refine qg ?_
 refine og 1 [(0, (Value.string (str n))), (2, (Value.bool false)), (3, (Value.string (str n)))] 1 ?_
 refine Ops.go (v := (Value.bool (!(n == ([] : List UInt8))))) (by kernel_rfl) (Runs.strne (t := 9) (by kernel_rfl)) (d := (some 4)) (by kernel_rfl) rfl ?_
 refine og 1 [(0, (Value.string (str n))), (2, (Value.bool false)), (5, (Value.bool (!(n == ([] : List UInt8)))))] 3 ?_
 refine Ops.split (!(n == ([] : List UInt8))) (fun h1 => ?_) (fun h1 => ?_)
 ·rw [h1]
  have p2 : (n == ([] : List UInt8)) = false := (bnot_true h1)
  refine og 5 [(0, (Value.string (str n))), (2, (Value.bool false)), (10, (Value.bool (decide (((n.length : Nat) : Int) ≤ 24))))] 8 ?_
  refine Ops.split (decide (((n.length : Nat) : Int) ≤ 24)) (fun h3 => ?_) (fun h3 => ?_)
  ·rw [h3]
   have p4 : ((n.length : Nat) : Int) ≤ 24 := of_decide_eq_true h3
   refine og 1 [(2, (Value.bool false)), (10, (Value.bool true)), (11, (Value.string (str n)))] 9 ?_
   refine Ops.call (by kernel_rfl) (d := (some 12)) (by kernel_rfl) (Trim_calls _ n (by omega)) ?_
   rintro _ w6 ⟨rfl, K5⟩
   refine ⟨_, _, rfl, rfl, ?_⟩
   replace K0 := K0.t0 K5
   clear K5
   refine Ops.go (v := (Value.bool ((Lib.trimS n lettersB) == ([] : List UInt8)))) (by kernel_rfl) (Runs.streq (t := 9) (by kernel_rfl)) (d := (some 13)) (by kernel_rfl) rfl ?_
   refine og 2 [(2, (Value.bool ((Lib.trimS n lettersB) == ([] : List UInt8))))] 13 ?_
   refine od ?_
   refine q_ret (by kernel_rfl) ?_
   refine ⟨(Value.bool ((Lib.trimS n lettersB) == ([] : List UInt8))), retv_tmp rfl rfl, ?_⟩
   have e : nameOk n = ((Lib.trimS n lettersB) == ([] : List UInt8)) := by unfold nameOk; rw [show decide (1 ≤ n.length ∧ n.length ≤ 24) = true from decide_eq_true ⟨by have := List.length_pos_iff.2 (show n ≠ [] by simp_all); omega, by omega⟩, Bool.true_and]; exact (trim_letters n).symm
   exact ⟨by rw [e], K0⟩
  ·rw [h3]
   have p7 : ¬ (((n.length : Nat) : Int) ≤ 24) := of_decide_eq_false h3
   refine og 5 [(2, (Value.bool false))] 13 ?_
   refine od ?_
   refine q_ret (by kernel_rfl) ?_
   refine ⟨(Value.bool false), retv_tmp rfl rfl, ?_⟩
   have e : nameOk n = false := by unfold nameOk; rw [Bool.and_eq_false_iff]; left; exact decide_eq_false (by intro h; first | omega | (subst_vars; simp at h) | (simp_all))
   exact ⟨by rw [e], K0⟩
 ·rw [h1]
  have p8 : (n == ([] : List UInt8)) = true := (bnot_false h1)
  refine og 10 [(2, (Value.bool false))] 13 ?_
  refine od ?_
  refine q_ret (by kernel_rfl) ?_
  refine ⟨(Value.bool false), retv_tmp rfl rfl, ?_⟩
  have e : nameOk n = false := by unfold nameOk; rw [Bool.and_eq_false_iff]; left; exact decide_eq_false (by intro h; first | omega | (subst_vars; simp at h) | (simp_all))
  exact ⟨by rw [e], K0⟩

theorem Keys_calls (w : World) (mb : Nat) : Calls Tryz.prog 72 ⟨[.map (some mb)]⟩ w (fun e w' => ∃ c, e = .returned (Value.func (Fn.func 89) ⟨[]⟩ ⟨[ptr c]⟩) ∧ Keeps none_ w w' ∧ Has w' c (rowL [.map (some mb)] 64) ∧ c = w.heap.size) :=
 (callsIn_wide.1 (AnyZ.keys_in Go.Proofs.Tryz.keys72 Fence.wide 5 trivial rfl (some mb) w)).mono fun e w' ⟨he, hw⟩ => ⟨_, he, by rw [hw]; exact Keeps.alloc _ _, by rw [hw]; exact Has.new _ _, rfl⟩

theorem Sorts (m : Nat) : AnyZ.SortsIn Tryz.prog Go.Proofs.Tryz.sorted71_ren Fence.wide m :=
 ⟨fun blk off cap ss W hH hblk hsz => callsIn_wide.2 (AnyM.slices_Sort_string Go.Proofs.Tryz.sort88 blk off cap ss W hH hblk hsz), fun p cap W => callsIn_wide.2 (AnyM.slices_Sort_string_none Go.Proofs.Tryz.sort88 p cap W)⟩

theorem Sorted_calls (w : World) (c mb : Nat) (m : List (List UInt8 × AccV)) (S : List AccM) (Hc : Has w c (rowL [.map (some mb)] 64)) (Hm : HasMap w mb kstr accv m) (hB : Book m S) : Calls Tryz.prog 71 ⟨[Value.func (Fn.func 89) ⟨[]⟩ ⟨[ptr c]⟩]⟩ w (fun e w' => ∃ v, e = .returned v ∧ Keeps none_ w w' ∧ OwnT w' w.heap.size 9 1 kcell v (S.map (·.name))) := by
 obtain ⟨D, hown, hk, hs⟩ := Hm.owns (k := 9) Tryz.underlying9 (fun x hx => by have := hB.names_ok x hx; unfold maxLen; omega) (by have := hB.len; have := hB.accs.len; unfold maxLen; omega)
 have hml : m.length ≤ 200 := by have := hB.len; have := hB.accs.len; omega
 have hseq := AnyZ.keys_gives (ρ := Go.Proofs.Tryz.keys72_ren) { Go.Proofs.Tryz.keys72 with } Fence.wide 2 trivial rfl (by omega) c mb m.length D w Hc.lt (by simpa using Hc.cell 0) hown
 have cS := AnyZ.sorted_in Go.Proofs.Tryz.sorted71 Fence.wide 5 trivial trivial trivial trivial rfl (by omega) (Sorts _) (enters_of Tryz.func88 (by kernel_rfl) rfl) 89 #[ptr c] trivial (enters_of Tryz.func89 (by kernel_rfl) rfl) _ (Maps.size D) (by rw [hs]; unfold maxLen; omega) (by rw [hs]; omega) w hseq
 refine (callsIn_wide.1 cS).mono ?_
 rintro e w' ⟨v, ss, rfl, hp, hrow, hnil, hb⟩
 have hp2 : ss.Perm (S.map (·.name)) := (hp.trans hk).trans (by rw [← pair_map_fst]; exact (hB.perm.map (·.1)).symm)
 rw [sorted_names hB.accs.sorted hp2] at hrow
 have hl : ss.length = (S.map (·.name)).length := hp2.length_eq
 refine ⟨v, rfl, Keeps.of_below hb, ?_⟩
 unfold OwnT
 rw [← hl, kcells]
 exact hrow
end Go.Proofs.YtooginpgclcldaaGreatDoor
namespace Go.Proofs.YtooginpgclcldaaGreatDoor
open Go.Q Go.RowKit

theorem find_calls (w : World) (r : Nat) (A : Option Addr) (c : Nat) (S : List AccM) (n : List UInt8) (Hr : Has w r (rowL [.slice A S.length c] 43)) (hR : RdT w 3 AccM.cells (.slice A S.length c) S) : Calls Tryz.prog 73 ⟨[(ptr r), (Value.string (str n))]⟩ w (fun e w' => e = .returned (.tuple #[i64 ((posS S n : Nat) : Int), .bool (hasS S n)]) ∧ Keeps none_ w w') := by
 have Hrl := Hr.lt
 have hcap := RdT.len AccM.three (by decide) hR
 unfold maxLen at hcap
 have K0 : Keeps none_ w w := Keeps.refl w
 refine q_calls Tryz.func73 (by kernel_rfl) (by kernel_rfl) ?_
 refine qs ?_
 refine qg ?_
 refine og 2 [(0, (ptr r)), (1, (Value.string (str n))), (4, (i64 0)), (5, (Value.bool false))] 2 ?_
 refine od ?_
 refine qs ?_
 refine qg ?_
 refine og 1 [(0, (ptr r)), (1, (Value.string (str n))), (4, (i64 0)), (5, (Value.bool false)), (6, (i64 0))] 1 ?_
 refine od ?_
 refine qs ?_
 refine q_block (id := 0) (by kernel_rfl) ?_
 refine q_keep (R := [(0, (ptr r)), (1, (Value.string (str n))), (4, (i64 0)), (5, (Value.bool false)), (6, (i64 0))]) (by kernel_rfl) ?_
 refine q_loop (fun (i : Nat) L (wx : World) => L = [(0, (ptr r)), (1, (Value.string (str n))), (4, (i64 0)), (5, (Value.bool false)), (6, (i64 ((i : Nat) : Int)))] ∧ i ≤ posS S n ∧ Keeps none_ w wx ∧ Has wx r (rowL [(Value.slice A S.length c)] 43)) (fun (i : Nat) => S.length - i) 0 (by kernel_rfl) ⟨rfl, Nat.zero_le _, K0, Hr⟩ ?_
 clear Hr K0
 rintro i _ w1 ⟨rfl, hi, K2, H3⟩
 have hpl := posS_le S n
 refine qs ?_
 refine qs ?_
 refine qg ?_
 refine og 4 [(0, (ptr r)), (1, (Value.string (str n))), (4, (i64 0)), (5, (Value.bool false)), (6, (i64 ((i : Nat) : Int))), (7, (i64 ((i : Nat) : Int))), (10, (ptr r))] 4 ?_
 refine Ops.go (v := (Value.slice A S.length c)) (by kernel_rfl) (Runs.load (t := 41) (a := ⟨r, 0, none⟩) (by kernel_rfl) (H3.loads (by kernel_rfl))) (d := (some 11)) (by kernel_rfl) rfl ?_
 refine og 3 [(0, (ptr r)), (1, (Value.string (str n))), (4, (i64 0)), (5, (Value.bool false)), (6, (i64 ((i : Nat) : Int))), (14, (Value.bool (decide (((i : Nat) : Int) < ((S.length : Nat) : Int)))))] 8 ?_
 refine Ops.split (decide (((i : Nat) : Int) < ((S.length : Nat) : Int))) (fun h4 => ?_) (fun h4 => ?_)
 ·rw [h4]
  have p5 : ((i : Nat) : Int) < ((S.length : Nat) : Int) := of_decide_eq_true h4
  obtain ⟨a, ha⟩ : ∃ y, S[i]? = some y := ⟨_, List.getElem?_eq_getElem (by omega)⟩
  obtain ⟨rb6, ro7, hA8⟩ := Rd.addr (Rd.keep0 (by decide) hR K2) (by omega)
  refine og 3 [(0, (ptr r)), (1, (Value.string (str n))), (4, (i64 0)), (5, (Value.bool false)), (6, (i64 ((i : Nat) : Int))), (14, (Value.bool true)), (17, (ptr r))] 11 ?_
  refine Ops.go (v := (Value.slice A S.length c)) (by kernel_rfl) (Runs.load (t := 41) (a := ⟨r, 0, none⟩) (by kernel_rfl) (H3.loads (by kernel_rfl))) (d := (some 18)) (by kernel_rfl) rfl ?_
  refine og 1 [(0, (ptr r)), (1, (Value.string (str n))), (4, (i64 0)), (5, (Value.bool false)), (6, (i64 ((i : Nat) : Int))), (14, (Value.bool true)), (18, (Value.slice A S.length c)), (19, (i64 ((i : Nat) : Int)))] 13 ?_
  refine Ops.go (by kernel_rfl) (Runs.ixSliceE (k := IntKind.i64) (t := 41) (len := S.length) (cap := c) (s := 3) (off' := ro7 + i * 3) (i := ((i : Nat) : Int)) hA8 (by kernel_rfl) (by kernel_rfl) (by omega) (by omega) (by omega)) (d := (some 20)) (by kernel_rfl) rfl ?_
  refine og 1 [(0, (ptr r)), (1, (Value.string (str n))), (4, (i64 0)), (5, (Value.bool false)), (6, (i64 ((i : Nat) : Int))), (14, (Value.bool true)), (21, (Value.pointer (some ⟨rb6, ro7 + i * 3, none⟩)))] 15 ?_
  refine Ops.go (v := (Value.string (str a.name))) (by kernel_rfl) (Runs.load (t := 9) (a := ⟨rb6, ro7 + i * 3, none⟩) (by kernel_rfl) (RdT.ldf (f := AccM.cells) (x := a) (o := 0) AccM.three (Rd.keep0 (by decide) hR K2) (by kernel_rfl) hA8 ha rfl)) (d := (some 22)) (by kernel_rfl) rfl ?_
  refine og 1 [(0, (ptr r)), (1, (Value.string (str n))), (4, (i64 0)), (5, (Value.bool false)), (6, (i64 ((i : Nat) : Int))), (14, (Value.bool true)), (22, (Value.string (str a.name))), (23, (Value.string (str n)))] 17 ?_
  refine Ops.go (v := (Value.bool (decide (a.name < n)))) (by kernel_rfl) (Runs.strlss (t := 9) (by kernel_rfl)) (d := (some 24)) (by kernel_rfl) rfl ?_
  refine og 1 [(0, (ptr r)), (1, (Value.string (str n))), (4, (i64 0)), (5, (Value.bool false)), (6, (i64 ((i : Nat) : Int))), (25, (Value.bool (decide (a.name < n))))] 19 ?_
  refine od ?_
  refine q_cond (o := .tmp 25) (b := (decide (a.name < n))) (by kernel_rfl) rfl (fun h9 => ?_) (fun h9 => ?_)
  ·rw [h9]
   have p10 : (decide (a.name < n)) = true := h9
   have hlt := of_decide_eq_true h9
   refine q_skip (by kernel_rfl) ?_
   refine q_block (id := 1) (by kernel_rfl) ?_
   refine qg ?_
   refine og 2 [(0, (ptr r)), (1, (Value.string (str n))), (4, (i64 0)), (5, (Value.bool false)), (6, (i64 ((i : Nat) : Int))), (25, (Value.bool true)), (27, (i64 (IntKind.i64.wrap (((i : Nat) : Int) + 1))))] 2 ?_
   have e11 : IntKind.i64.wrap (((i : Nat) : Int) + 1) = ((i + 1 : Nat) : Int) := by rw [wrap_i64 (by omega) (by omega)]; omega
   rw [e11]
   clear e11
   refine og 1 [(0, (ptr r)), (1, (Value.string (str n))), (4, (i64 0)), (5, (Value.bool false)), (6, (i64 ((i + 1 : Nat) : Int))), (25, (Value.bool true))] 3 ?_
   refine Ops.keep (R := [(0, (ptr r)), (1, (Value.string (str n))), (4, (i64 0)), (5, (Value.bool false)), (6, (i64 ((i + 1 : Nat) : Int)))]) (by kernel_rfl) ?_
   refine od ?_
   exact ⟨i + 1, ⟨rfl, (pos_step ha hlt hi), K2, H3⟩, (show S.length - (i + 1) < S.length - i from by omega)⟩
  ·rw [h9]
   have p12 : (decide (a.name < n)) = false := h9
   have hpe := pos_exit ha (of_decide_eq_false h9) hi
   refine q_exit (id := 0) (by kernel_rfl) ?_
   refine qs ?_
   refine q_draw (fun wz => Keeps none_ w1 wz) 22 (by kernel_rfl) (by kernel_rfl) (by kernel_rfl) (fun w13 K14 _ _ => ⟨K14, ?_⟩)
   replace K2 := K2.trans K14 (U := none_) (fun i h1 h2 => h2) (fun i h1 h2 => by exact h2)
   replace H3 := H3.keep K14 (fun h => h)
   refine Dr.strong (S' := (fun wz => Keeps none_ w13 wz)) (Keeps.refl w13) (fun wz hx => K14.trans hx (fun i _ h => h) (fun _ _ h => h)) ?_
   clear K14
   refine Dr.takes (fuel' := 17) (is' := [4, 3, 2, 1, 0]) [0, 1, 2, 3, 4] [(0, (ptr r)), (1, (Value.string (str n))), (4, (i64 0)), (5, (Value.bool false)), (6, (i64 ((i : Nat) : Int))), (28, (i64 ((i : Nat) : Int))), (29, (i64 ((i : Nat) : Int))), (32, (ptr r))] (by kernel_rfl) rfl (by kernel_rfl) ?_
   refine Dr.take (i := 5) (v := (Value.slice A S.length c)) (by kernel_rfl) (by kernel_rfl) (fun wz hS => Runs.load (t := 41) (a := ⟨r, 0, none⟩) (by kernel_rfl) ((H3.keep hS (fun h => h)).loads (by kernel_rfl))) (d := (some 33)) (by kernel_rfl) rfl ?_
   refine Dr.takes (fuel' := 12) (is' := [20, 8, 7, 6, 5, 4, 3, 2, 1, 0]) [6, 7, 8, 20] [(0, (ptr r)), (1, (Value.string (str n))), (4, (i64 ((i : Nat) : Int))), (5, (Value.bool false)), (6, (i64 ((i : Nat) : Int))), (36, (Value.bool (decide (((i : Nat) : Int) < ((S.length : Nat) : Int)))))] (by kernel_rfl) rfl (by kernel_rfl) ?_
   rw [h4]
   refine Dr.takes (fuel' := 9) (is' := [11, 10, 9, 20, 8, 7, 6, 5, 4, 3, 2, 1, 0]) [9, 10, 11] [(1, (Value.string (str n))), (4, (i64 ((i : Nat) : Int))), (5, (Value.bool false)), (6, (i64 ((i : Nat) : Int))), (36, (Value.bool true)), (39, (ptr r))] (by kernel_rfl) rfl (by kernel_rfl) ?_
   refine Dr.take (i := 12) (v := (Value.slice A S.length c)) (by kernel_rfl) (by kernel_rfl) (fun wz hS => Runs.load (t := 41) (a := ⟨r, 0, none⟩) (by kernel_rfl) ((H3.keep hS (fun h => h)).loads (by kernel_rfl))) (d := (some 40)) (by kernel_rfl) rfl ?_
   refine Dr.takes (fuel' := 7) (is' := [13, 12, 11, 10, 9, 20, 8, 7, 6, 5, 4, 3, 2, 1, 0]) [13] [(1, (Value.string (str n))), (4, (i64 ((i : Nat) : Int))), (5, (Value.bool false)), (36, (Value.bool true)), (40, (Value.slice A S.length c)), (41, (i64 ((i : Nat) : Int)))] (by kernel_rfl) rfl (by kernel_rfl) ?_
   refine Dr.take (i := 14) (v := (Value.pointer (some ⟨rb6, ro7 + i * 3, none⟩))) (by kernel_rfl) (by kernel_rfl) (fun wz hS => Runs.ixSliceE (k := IntKind.i64) (t := 41) (len := S.length) (cap := c) (s := 3) (off' := ro7 + i * 3) (i := ((i : Nat) : Int)) hA8 (by kernel_rfl) (by kernel_rfl) (by omega) (by omega) (by omega)) (d := (some 42)) (by kernel_rfl) rfl ?_
   refine Dr.takes (fuel' := 5) (is' := [15, 14, 13, 12, 11, 10, 9, 20, 8, 7, 6, 5, 4, 3, 2, 1, 0]) [15] [(1, (Value.string (str n))), (4, (i64 ((i : Nat) : Int))), (5, (Value.bool false)), (36, (Value.bool true)), (43, (Value.pointer (some ⟨rb6, ro7 + i * 3, none⟩)))] (by kernel_rfl) rfl (by kernel_rfl) ?_
   refine Dr.take (i := 16) (v := (Value.string (str a.name))) (by kernel_rfl) (by kernel_rfl) (fun wz hS => Runs.load (t := 9) (a := ⟨rb6, ro7 + i * 3, none⟩) (by kernel_rfl) (RdT.ldf (f := AccM.cells) (x := a) (o := 0) AccM.three (Rd.keep0 (by decide) hR (K2.trans hS (fun _ _ h => h) (fun _ _ h => h))) (by kernel_rfl) hA8 ha rfl)) (d := (some 44)) (by kernel_rfl) rfl ?_
   refine Dr.takes (fuel' := 3) (is' := [17, 16, 15, 14, 13, 12, 11, 10, 9, 20, 8, 7, 6, 5, 4, 3, 2, 1, 0]) [17] [(4, (i64 ((i : Nat) : Int))), (5, (Value.bool false)), (36, (Value.bool true)), (44, (Value.string (str a.name))), (45, (Value.string (str n)))] (by kernel_rfl) rfl (by kernel_rfl) ?_
   refine Dr.take (i := 18) (v := (Value.bool (a.name == n))) (by kernel_rfl) (by kernel_rfl) (fun wz hS => Runs.streq (t := 9) (by kernel_rfl)) (d := (some 46)) (by kernel_rfl) rfl ?_
   refine Dr.takes (fuel' := 0) (is' := [21, 19, 18, 17, 16, 15, 14, 13, 12, 11, 10, 9, 20, 8, 7, 6, 5, 4, 3, 2, 1, 0]) [19, 21] [(4, (i64 ((i : Nat) : Int))), (5, (Value.bool (a.name == n)))] (by kernel_rfl) rfl (by kernel_rfl) ?_
   refine Dr.done (by kernel_rfl) ?_
   refine q_ret (by kernel_rfl) ?_
   refine ⟨(Value.tuple #[(i64 ((i : Nat) : Int)), (Value.bool (a.name == n))]), retv_tmp2 rfl rfl rfl, ?_⟩
   have e : hasS S n = (a.name == n) := has_at (by rw [← hpe]; exact ha)
   exact ⟨by rw [e, ← hpe], K2⟩
 ·rw [h4]
  have p15 : ¬ (((i : Nat) : Int) < ((S.length : Nat) : Int)) := of_decide_eq_false h4
  refine og 11 [(0, (ptr r)), (1, (Value.string (str n))), (4, (i64 0)), (5, (Value.bool false)), (6, (i64 ((i : Nat) : Int))), (25, (Value.bool false))] 19 ?_
  refine od ?_
  refine q_else (o := .tmp 25) (by kernel_rfl) rfl ?_
  refine q_exit (id := 0) (by kernel_rfl) ?_
  refine qs ?_
  refine q_draw (fun wz => Keeps none_ w1 wz) 22 (by kernel_rfl) (by kernel_rfl) (by kernel_rfl) (fun w16 K17 _ _ => ⟨K17, ?_⟩)
  replace K2 := K2.trans K17 (U := none_) (fun i h1 h2 => h2) (fun i h1 h2 => by exact h2)
  replace H3 := H3.keep K17 (fun h => h)
  refine Dr.strong (S' := (fun wz => Keeps none_ w16 wz)) (Keeps.refl w16) (fun wz hx => K17.trans hx (fun i _ h => h) (fun _ _ h => h)) ?_
  clear K17
  refine Dr.takes (fuel' := 17) (is' := [4, 3, 2, 1, 0]) [0, 1, 2, 3, 4] [(0, (ptr r)), (1, (Value.string (str n))), (4, (i64 0)), (5, (Value.bool false)), (6, (i64 ((i : Nat) : Int))), (28, (i64 ((i : Nat) : Int))), (29, (i64 ((i : Nat) : Int))), (32, (ptr r))] (by kernel_rfl) rfl (by kernel_rfl) ?_
  refine Dr.take (i := 5) (v := (Value.slice A S.length c)) (by kernel_rfl) (by kernel_rfl) (fun wz hS => Runs.load (t := 41) (a := ⟨r, 0, none⟩) (by kernel_rfl) ((H3.keep hS (fun h => h)).loads (by kernel_rfl))) (d := (some 33)) (by kernel_rfl) rfl ?_
  refine Dr.takes (fuel' := 12) (is' := [20, 8, 7, 6, 5, 4, 3, 2, 1, 0]) [6, 7, 8, 20] [(0, (ptr r)), (1, (Value.string (str n))), (4, (i64 ((i : Nat) : Int))), (5, (Value.bool false)), (6, (i64 ((i : Nat) : Int))), (36, (Value.bool (decide (((i : Nat) : Int) < ((S.length : Nat) : Int)))))] (by kernel_rfl) rfl (by kernel_rfl) ?_
  rw [h4]
  refine Dr.takes (fuel' := 0) (is' := [21, 19, 18, 17, 16, 15, 14, 13, 12, 11, 10, 9, 20, 8, 7, 6, 5, 4, 3, 2, 1, 0]) [9, 10, 11, 12, 13, 14, 15, 16, 17, 18, 19, 21] [(4, (i64 ((i : Nat) : Int))), (5, (Value.bool false))] (by kernel_rfl) rfl (by kernel_rfl) ?_
  refine Dr.done (by kernel_rfl) ?_
  refine q_ret (by kernel_rfl) ?_
  refine ⟨(Value.tuple #[(i64 ((i : Nat) : Int)), (Value.bool false)]), retv_tmp2 rfl rfl rfl, ?_⟩
  have hpe := pos_end (by omega) hi
  have e : hasS S n = false := has_end (by omega)
  exact ⟨by rw [e, ← hpe], K2⟩

theorem RGet_none (w : World) (r : Nat) (A : Option Addr) (c : Nat) (S : List AccM) (n : List UInt8) (Hr : Has w r (rowL [.slice A S.length c] 43)) (hR : RdT w 3 AccM.cells (.slice A S.length c) S) (hS : Accs S) (hg : getS S n = none) : Calls Tryz.prog 35 ⟨[(ptr r), (Value.string (str n))]⟩ w (fun e w' => e = .returned (Value.tuple #[(i64 ((amtE S n).1)), (i64 ((amtE S n).2))]) ∧ Keeps none_ w w') := by
 have Hrl := Hr.lt
 have hcap := RdT.len AccM.three (by decide) hR
 unfold maxLen at hcap
 have hfn := find_none hg
 have K0 : Keeps none_ w w := Keeps.refl w
 refine q_calls Tryz.func35 (by kernel_rfl) (by kernel_rfl) ?_
 refine qs ?_
 refine qg ?_
 refine og 2 [(0, (ptr r)), (1, (Value.string (str n))), (4, (i64 0)), (5, (i64 0))] 2 ?_
 refine od ?_
 refine qs ?_
 refine qg ?_
 refine og 2 [(0, (ptr r)), (4, (i64 0)), (5, (i64 0)), (9, (ptr r)), (10, (Value.string (str n)))] 2 ?_
 refine Ops.call (by kernel_rfl) (d := (some 11)) (by kernel_rfl) (find_calls _ r A c S n Hr hR) ?_
 rintro _ w2 ⟨rfl, K1⟩
 refine ⟨_, _, rfl, rfl, ?_⟩
 replace K0 := K0.t0 K1
 replace Hr := Hr.keep K1 (fun h => h)
 replace hR := (Rd.keep0 (by omega) hR K1)
 clear K1
 refine og 5 [(0, (ptr r)), (4, (i64 0)), (5, (i64 0)), (6, (i64 ((posS S n : Nat) : Int))), (7, (Value.bool (hasS S n)))] 8 ?_
 refine od ?_
 refine qs ?_
 refine qs ?_
 refine qg ?_
 refine og 2 [(0, (ptr r)), (4, (i64 0)), (5, (i64 0)), (6, (i64 ((posS S n : Nat) : Int))), (15, (Value.bool (!(hasS S n))))] 2 ?_
 refine od ?_
 have h3 : (!(hasS S n)) = true := by rw [show (hasS S n) = false from hfn]; rfl
 rw [h3]
 refine q_then (o := .tmp 15) (by kernel_rfl) rfl ?_
 refine qs ?_
 refine qg ?_
 refine og 2 [(0, (ptr r)), (4, (i64 0)), (5, (i64 40)), (6, (i64 ((posS S n : Nat) : Int)))] 2 ?_
 refine od ?_
 refine q_ret (by kernel_rfl) ?_
 refine ⟨(Value.tuple #[(i64 0), (i64 40)]), retv_tmp2 rfl rfl rfl, ?_⟩
 exact ⟨by unfold amtE; rw [hg], K0⟩

theorem RGet_some (w : World) (r : Nat) (A : Option Addr) (c : Nat) (S : List AccM) (n : List UInt8) (Hr : Has w r (rowL [.slice A S.length c] 43)) (hR : RdT w 3 AccM.cells (.slice A S.length c) S) (hS : Accs S) (a : AccM) (hg : getS S n = some a) : Calls Tryz.prog 35 ⟨[(ptr r), (Value.string (str n))]⟩ w (fun e w' => e = .returned (Value.tuple #[(i64 ((amtE S n).1)), (i64 ((amtE S n).2))]) ∧ Keeps none_ w w') := by
 have Hrl := Hr.lt
 have hcap := RdT.len AccM.three (by decide) hR
 unfold maxLen at hcap
 have hfs := find_some hS hg
 have hf2 := hfs.2
 have hfl := (List.getElem?_eq_some_iff.1 hf2).1
 have hao := hS.ok a (getS_some hg).1
 have ha1 := hao.lo
 have ha2 := hao.hi
 have K0 : Keeps none_ w w := Keeps.refl w
 refine q_calls Tryz.func35 (by kernel_rfl) (by kernel_rfl) ?_
 refine qs ?_
 refine qg ?_
 refine og 2 [(0, (ptr r)), (1, (Value.string (str n))), (4, (i64 0)), (5, (i64 0))] 2 ?_
 refine od ?_
 refine qs ?_
 refine qg ?_
 refine og 2 [(0, (ptr r)), (4, (i64 0)), (5, (i64 0)), (9, (ptr r)), (10, (Value.string (str n)))] 2 ?_
 refine Ops.call (by kernel_rfl) (d := (some 11)) (by kernel_rfl) (find_calls _ r A c S n Hr hR) ?_
 rintro _ w2 ⟨rfl, K1⟩
 refine ⟨_, _, rfl, rfl, ?_⟩
 replace K0 := K0.t0 K1
 replace Hr := Hr.keep K1 (fun h => h)
 replace hR := (Rd.keep0 (by omega) hR K1)
 clear K1
 obtain ⟨rb3, ro4, hA5⟩ := Rd.addr hR (by omega)
 refine og 5 [(0, (ptr r)), (4, (i64 0)), (5, (i64 0)), (6, (i64 ((posS S n : Nat) : Int))), (7, (Value.bool (hasS S n)))] 8 ?_
 refine od ?_
 refine qs ?_
 refine qs ?_
 refine qg ?_
 refine og 2 [(0, (ptr r)), (4, (i64 0)), (5, (i64 0)), (6, (i64 ((posS S n : Nat) : Int))), (15, (Value.bool (!(hasS S n))))] 2 ?_
 refine od ?_
 have h6 : (!(hasS S n)) = false := by rw [show (hasS S n) = true from hfs.1]; rfl
 rw [h6]
 refine q_else (o := .tmp 15) (by kernel_rfl) rfl ?_
 refine q_skip (by kernel_rfl) ?_
 refine qs ?_
 refine qg ?_
 refine og 3 [(4, (i64 0)), (5, (i64 0)), (6, (i64 ((posS S n : Nat) : Int))), (18, (ptr r))] 3 ?_
 refine Ops.go (v := (Value.slice A S.length c)) (by kernel_rfl) (Runs.load (t := 41) (a := ⟨r, 0, none⟩) (by kernel_rfl) (Hr.loads (by kernel_rfl))) (d := (some 19)) (by kernel_rfl) rfl ?_
 refine og 1 [(4, (i64 0)), (5, (i64 0)), (19, (Value.slice A S.length c)), (20, (i64 ((posS S n : Nat) : Int)))] 5 ?_
 refine Ops.go (by kernel_rfl) (Runs.ixSliceE (k := IntKind.i64) (t := 41) (len := S.length) (cap := c) (s := 3) (off' := ro4 + (posS S n) * 3) (i := ((posS S n : Nat) : Int)) hA5 (by kernel_rfl) (by kernel_rfl) (by omega) (by omega) (by omega)) (d := (some 21)) (by kernel_rfl) rfl ?_
 refine og 1 [(4, (i64 0)), (5, (i64 0)), (22, (Value.pointer (some ⟨rb3, ro4 + (posS S n) * 3 + 1, none⟩)))] 7 ?_
 refine Ops.go (v := (i64 a.amt)) (by kernel_rfl) (Runs.load (t := 2) (a := ⟨rb3, ro4 + (posS S n) * 3 + 1, none⟩) (by kernel_rfl) (RdT.ldf (f := AccM.cells) (x := a) (o := 1) AccM.three hR (by kernel_rfl) hA5 hf2 rfl)) (d := (some 23)) (by kernel_rfl) rfl ?_
 refine og 2 [(4, (i64 a.amt)), (5, (i64 0))] 10 ?_
 refine od ?_
 refine q_ret (by kernel_rfl) ?_
 refine ⟨(Value.tuple #[(i64 a.amt), (i64 0)]), retv_tmp2 rfl rfl rfl, ?_⟩
 exact ⟨by unfold amtE; rw [hg], K0⟩

theorem RGet_calls (w : World) (r : Nat) (A : Option Addr) (c : Nat) (S : List AccM) (n : List UInt8) (Hr : Has w r (rowL [.slice A S.length c] 43)) (hR : RdT w 3 AccM.cells (.slice A S.length c) S) (hS : Accs S) : Calls Tryz.prog 35 ⟨[(ptr r), (Value.string (str n))]⟩ w (fun e w' => e = .returned (Value.tuple #[(i64 ((amtE S n).1)), (i64 ((amtE S n).2))]) ∧ Keeps none_ w w') := by
 cases hg : getS S n with
 | none => exact RGet_none w r A c S n Hr hR hS hg
 | some a => exact RGet_some w r A c S n Hr hR hS a hg

theorem RBy_none (w : World) (r : Nat) (A : Option Addr) (c : Nat) (S : List AccM) (n : List UInt8) (Hr : Has w r (rowL [.slice A S.length c] 43)) (hR : RdT w 3 AccM.cells (.slice A S.length c) S) (hS : Accs S) (hg : getS S n = none) : Calls Tryz.prog 38 ⟨[(ptr r), (Value.string (str n))]⟩ w (fun e w' => e = .returned (Value.string (str (ownE S n))) ∧ Keeps none_ w w') := by
 have Hrl := Hr.lt
 have hcap := RdT.len AccM.three (by decide) hR
 unfold maxLen at hcap
 have hfn := find_none hg
 have K0 : Keeps none_ w w := Keeps.refl w
 refine q_calls Tryz.func38 (by kernel_rfl) (by kernel_rfl) ?_
 refine qs ?_
 refine qg ?_
 refine og 1 [(0, (ptr r)), (1, (Value.string (str n))), (4, (Value.string (str ([] : List UInt8))))] 1 ?_
 refine od ?_
 refine qs ?_
 refine qg ?_
 refine og 2 [(0, (ptr r)), (4, (Value.string (str ([] : List UInt8)))), (8, (ptr r)), (9, (Value.string (str n)))] 2 ?_
 refine Ops.call (by kernel_rfl) (d := (some 10)) (by kernel_rfl) (find_calls _ r A c S n Hr hR) ?_
 rintro _ w2 ⟨rfl, K1⟩
 refine ⟨_, _, rfl, rfl, ?_⟩
 replace K0 := K0.t0 K1
 replace Hr := Hr.keep K1 (fun h => h)
 replace hR := (Rd.keep0 (by omega) hR K1)
 clear K1
 refine og 5 [(0, (ptr r)), (4, (Value.string (str ([] : List UInt8)))), (5, (i64 ((posS S n : Nat) : Int))), (6, (Value.bool (hasS S n)))] 8 ?_
 refine od ?_
 refine qs ?_
 refine qs ?_
 refine qg ?_
 refine og 2 [(0, (ptr r)), (4, (Value.string (str ([] : List UInt8)))), (5, (i64 ((posS S n : Nat) : Int))), (14, (Value.bool (!(hasS S n))))] 2 ?_
 refine od ?_
 have h3 : (!(hasS S n)) = true := by rw [show (hasS S n) = false from hfn]; rfl
 rw [h3]
 refine q_then (o := .tmp 14) (by kernel_rfl) rfl ?_
 refine qs ?_
 refine qg ?_
 refine og 1 [(0, (ptr r)), (4, (Value.string (str ([] : List UInt8)))), (5, (i64 ((posS S n : Nat) : Int)))] 1 ?_
 refine od ?_
 refine q_ret (by kernel_rfl) ?_
 refine ⟨(Value.string (str ([] : List UInt8))), retv_tmp rfl rfl, ?_⟩
 exact ⟨by unfold ownE; rw [hg], K0⟩

theorem RBy_some (w : World) (r : Nat) (A : Option Addr) (c : Nat) (S : List AccM) (n : List UInt8) (Hr : Has w r (rowL [.slice A S.length c] 43)) (hR : RdT w 3 AccM.cells (.slice A S.length c) S) (hS : Accs S) (a : AccM) (hg : getS S n = some a) : Calls Tryz.prog 38 ⟨[(ptr r), (Value.string (str n))]⟩ w (fun e w' => e = .returned (Value.string (str (ownE S n))) ∧ Keeps none_ w w') := by
 have Hrl := Hr.lt
 have hcap := RdT.len AccM.three (by decide) hR
 unfold maxLen at hcap
 have hfs := find_some hS hg
 have hf2 := hfs.2
 have hfl := (List.getElem?_eq_some_iff.1 hf2).1
 have hao := hS.ok a (getS_some hg).1
 have ha1 := hao.lo
 have ha2 := hao.hi
 have K0 : Keeps none_ w w := Keeps.refl w
 refine q_calls Tryz.func38 (by kernel_rfl) (by kernel_rfl) ?_
 refine qs ?_
 refine qg ?_
 refine og 1 [(0, (ptr r)), (1, (Value.string (str n))), (4, (Value.string (str ([] : List UInt8))))] 1 ?_
 refine od ?_
 refine qs ?_
 refine qg ?_
 refine og 2 [(0, (ptr r)), (4, (Value.string (str ([] : List UInt8)))), (8, (ptr r)), (9, (Value.string (str n)))] 2 ?_
 refine Ops.call (by kernel_rfl) (d := (some 10)) (by kernel_rfl) (find_calls _ r A c S n Hr hR) ?_
 rintro _ w2 ⟨rfl, K1⟩
 refine ⟨_, _, rfl, rfl, ?_⟩
 replace K0 := K0.t0 K1
 replace Hr := Hr.keep K1 (fun h => h)
 replace hR := (Rd.keep0 (by omega) hR K1)
 clear K1
 obtain ⟨rb3, ro4, hA5⟩ := Rd.addr hR (by omega)
 refine og 5 [(0, (ptr r)), (4, (Value.string (str ([] : List UInt8)))), (5, (i64 ((posS S n : Nat) : Int))), (6, (Value.bool (hasS S n)))] 8 ?_
 refine od ?_
 refine qs ?_
 refine qs ?_
 refine qg ?_
 refine og 2 [(0, (ptr r)), (4, (Value.string (str ([] : List UInt8)))), (5, (i64 ((posS S n : Nat) : Int))), (14, (Value.bool (!(hasS S n))))] 2 ?_
 refine od ?_
 have h6 : (!(hasS S n)) = false := by rw [show (hasS S n) = true from hfs.1]; rfl
 rw [h6]
 refine q_else (o := .tmp 14) (by kernel_rfl) rfl ?_
 refine q_skip (by kernel_rfl) ?_
 refine qs ?_
 refine qg ?_
 refine og 3 [(4, (Value.string (str ([] : List UInt8)))), (5, (i64 ((posS S n : Nat) : Int))), (17, (ptr r))] 3 ?_
 refine Ops.go (v := (Value.slice A S.length c)) (by kernel_rfl) (Runs.load (t := 41) (a := ⟨r, 0, none⟩) (by kernel_rfl) (Hr.loads (by kernel_rfl))) (d := (some 18)) (by kernel_rfl) rfl ?_
 refine og 1 [(4, (Value.string (str ([] : List UInt8)))), (18, (Value.slice A S.length c)), (19, (i64 ((posS S n : Nat) : Int)))] 5 ?_
 refine Ops.go (by kernel_rfl) (Runs.ixSliceE (k := IntKind.i64) (t := 41) (len := S.length) (cap := c) (s := 3) (off' := ro4 + (posS S n) * 3) (i := ((posS S n : Nat) : Int)) hA5 (by kernel_rfl) (by kernel_rfl) (by omega) (by omega) (by omega)) (d := (some 20)) (by kernel_rfl) rfl ?_
 refine og 1 [(4, (Value.string (str ([] : List UInt8)))), (21, (Value.pointer (some ⟨rb3, ro4 + (posS S n) * 3 + 2, none⟩)))] 7 ?_
 refine Ops.go (v := (Value.string (str a.own))) (by kernel_rfl) (Runs.load (t := 9) (a := ⟨rb3, ro4 + (posS S n) * 3 + 2, none⟩) (by kernel_rfl) (RdT.ldf (f := AccM.cells) (x := a) (o := 2) AccM.three hR (by kernel_rfl) hA5 hf2 rfl)) (d := (some 22)) (by kernel_rfl) rfl ?_
 refine og 1 [(4, (Value.string (str a.own)))] 9 ?_
 refine od ?_
 refine q_ret (by kernel_rfl) ?_
 refine ⟨(Value.string (str a.own)), retv_tmp rfl rfl, ?_⟩
 exact ⟨by unfold ownE; rw [hg], K0⟩

theorem RBy_calls (w : World) (r : Nat) (A : Option Addr) (c : Nat) (S : List AccM) (n : List UInt8) (Hr : Has w r (rowL [.slice A S.length c] 43)) (hR : RdT w 3 AccM.cells (.slice A S.length c) S) (hS : Accs S) : Calls Tryz.prog 38 ⟨[(ptr r), (Value.string (str n))]⟩ w (fun e w' => e = .returned (Value.string (str (ownE S n))) ∧ Keeps none_ w w') := by
 cases hg : getS S n with
 | none => exact RBy_none w r A c S n Hr hR hS hg
 | some a => exact RBy_some w r A c S n Hr hR hS a hg
end Go.Proofs.YtooginpgclcldaaGreatDoor
namespace Go.Proofs.YtooginpgclcldaaGreatDoor
open Go.Q Go.RowKit
theorem tyB : ElemTy Tryz.prog 22 5 1 1 := elemTy (by kernel_rfl)

theorem Clip_calls (w : World) (A : Option Addr) (n c : Nat) (hnc : n ≤ c)  : Calls Tryz.prog 70 ⟨[(Value.slice A n c)]⟩ w (fun e w' => e = .returned (.slice A n n) ∧ w = w') := by
 have K0 : Keeps none_ w w := Keeps.refl w
 refine q_calls Tryz.func70 (by kernel_rfl) (by kernel_rfl) ?_
 refine qs ?_
 refine qg ?_
 refine og 1 [(0, (Value.slice A n c)), (2, (Value.slice none 0 0))] 1 ?_
 refine od ?_
 refine qs ?_
 refine qg ?_
 refine og 5 [(2, (Value.slice none 0 0)), (3, (Value.slice A n c)), (5, (i64 ((n : Nat) : Int))), (7, (i64 ((n : Nat) : Int)))] 5 ?_
 have hcut := run_cut (sz := 1) (P := Tryz.prog) (w := w) (t := 22) (A := A) (n := n) (c := c) 0 n n (lo := none) (hi := some (i64 ((n : Nat) : Int))) (mx := some (i64 ((n : Nat) : Int))) tyB.slice (by kernel_rfl) (.inl ⟨rfl, rfl⟩) (.inr ⟨_, rfl⟩) (.inr ⟨_, rfl⟩) (by omega) (by omega) (by omega)
 have hA : (if n = 0 then A else Option.map (fun q => Addr.add q (0 * 1)) A) = A := by cases A <;> simp [Addr.add]
 rw [hA, Nat.sub_zero] at hcut
 refine Ops.go (v := (Value.slice A n n)) (by kernel_rfl) (Runs.slice (by kernel_rfl) hcut) (d := (some 8)) (by kernel_rfl) rfl ?_
 clear hcut hA
 refine og 1 [(2, (Value.slice A n n))] 7 ?_
 refine od ?_
 refine q_ret (by kernel_rfl) ?_
 refine ⟨(Value.slice A n n), retv_tmp rfl rfl, ?_⟩
 exact ⟨rfl, rfl⟩

theorem Uint_calls (w : World) (v : Value) (xs : List UInt8) (m0 : Nat) (hv : RdB w v xs) (hm0 : m0 < 18446744073709551616) (hl : xs.length ≤ 140737488351232) : Calls Tryz.prog 30 ⟨[v, (Value.int IntKind.u64 ((m0 : Nat) : Int))]⟩ w (fun e w' => ∃ v', e = .returned v' ∧ Keeps none_ w w' ∧ OwnB w' w.heap.size 5 v' (xs ++ uv m0)) := by
 obtain ⟨A, c, rfl⟩ := hv.form
 have hsl := hv.slice
 have K0 : Keeps none_ w w := Keeps.refl w
 refine q_calls Tryz.func30 (by kernel_rfl) (by kernel_rfl) ?_
 refine qs ?_
 refine qg ?_
 refine og 1 [(0, (Value.slice A xs.length c)), (1, (Value.int IntKind.u64 ((m0 : Nat) : Int))), (4, (Value.slice none 0 0))] 1 ?_
 refine od ?_
 refine qs ?_
 refine qg ?_
 refine og 1 [(0, (Value.slice A xs.length c)), (1, (Value.int IntKind.u64 ((m0 : Nat) : Int))), (4, (Value.slice none 0 0)), (5, (Value.slice A xs.length c))] 1 ?_
 refine Ops.call (by kernel_rfl) (d := (some 6)) (by kernel_rfl) (Clip_calls _ A xs.length c (by omega)) ?_
 rintro _ _ ⟨rfl, rfl⟩
 refine ⟨_, _, rfl, rfl, ?_⟩
 refine og 1 [(0, (Value.slice A xs.length xs.length)), (1, (Value.int IntKind.u64 ((m0 : Nat) : Int))), (4, (Value.slice none 0 0))] 3 ?_
 refine od ?_
 refine qs ?_
 refine q_block (id := 0) (by kernel_rfl) ?_
 refine q_keep (R := [(0, (Value.slice A xs.length xs.length)), (1, (Value.int IntKind.u64 ((m0 : Nat) : Int))), (4, (Value.slice none 0 0))]) (by kernel_rfl) ?_
 refine q_loop (fun (gs : Value × Nat × (List UInt8)) L (wx : World) => match gs with | (v, m, ys) => L = [(0, v), (1, (Value.int IntKind.u64 ((m : Nat) : Int))), (4, (Value.slice none 0 0))] ∧ Wr wx w.heap.size 5 v ys ∧ ys ++ uv m = xs ++ uv m0 ∧ m < 18446744073709551616 ∧ Keeps none_ w wx) (fun (gs : Value × Nat × (List UInt8)) => match gs with | (v, m, ys) => m) (.slice A xs.length xs.length, m0, xs) (by kernel_rfl) ⟨rfl, .inl ⟨A, rfl, hv.clip⟩, rfl, hm0, K0⟩ ?_
 clear K0
 rintro ⟨v, m, ys⟩ _ w1 ⟨rfl, hW, hE, hm, K2⟩
 have hlen := congrArg List.length hE
 simp only [List.length_append] at hlen
 have hu := uv_length_10 hm0
 have hp := uv_pos m
 refine qs ?_
 refine qs ?_
 refine qg ?_
 refine og 2 [(0, v), (1, (Value.int IntKind.u64 ((m : Nat) : Int))), (4, (Value.slice none 0 0)), (8, (Value.bool (decide (((m : Nat) : Int) > 127))))] 2 ?_
 refine od ?_
 refine q_cond (o := .tmp 8) (b := (decide (((m : Nat) : Int) > 127))) (by kernel_rfl) rfl (fun h3 => ?_) (fun h3 => ?_)
 ·rw [h3]
  have p4 : ((m : Nat) : Int) > 127 := of_decide_eq_true h3
  refine q_skip (by kernel_rfl) ?_
  refine qs ?_
  refine q_block (id := 1) (by kernel_rfl) ?_
  refine qg ?_
  refine og 3 [(0, v), (1, (Value.int IntKind.u64 ((m : Nat) : Int))), (4, (Value.slice none 0 0)), (8, (Value.bool true)), (11, v), (13, (Value.int IntKind.u8 (IntKind.u8.wrap ((m : Nat) : Int))))] 3 ?_
  have e5 : IntKind.u8.wrap ((m : Nat) : Int) = ((m % 256 : Nat) : Int) := u8_wrap m
  rw [e5]
  clear e5
  refine Ops.go (v := (Value.int IntKind.u8 (((m % 256) % 128 + 128 : Nat) : Int))) (by kernel_rfl) (Runs.int (op := .or) (t := 5) (by kernel_rfl) (run_or128 (by omega))) (d := (some 14)) (by kernel_rfl) rfl ?_
  refine Ops.new (o := rowL [(Value.int IntKind.u8 (((m % 256) % 128 + 128 : Nat) : Int))] 5) (V := fun b => (Value.slice (some ⟨b, 0, none⟩) 1 1)) (by kernel_rfl) (d := (some 15)) (by kernel_rfl) (fun b => rfl) (fun b6 w7 hb8 H9 K10 hs11 => ?_)
  have nb6 : w.heap.size ≤ b6 := by have := K2.size; omega
  replace K2 := K2.trans K10 (U := none_) (fun i h1 h2 => h2) (fun i h1 h2 => by exact h2)
  replace hW := hW.keep0 K10
  clear K10 hs11
  obtain ⟨v12, w13, hr14, hO15, K16⟩ := Wr.app (ty := 22) tyB hW (lit1 (by omega) H9) (by simp) (by (try simp only at *); (try simp only [List.length_append] at *); (try simp only [List.length_cons] at *); (try simp only [List.length_nil] at *); omega) K2.size
  refine Ops.go (v := v12) (by kernel_rfl) (Runs.append (ts := #[22, 22]) (ty := 22) (vs := [v, (Value.slice (some ⟨b6, 0, none⟩) 1 1)]) (by kernel_rfl) hr14) (d := (some 16)) (by kernel_rfl) rfl ?_
  have K17 := Keeps.own2 K2 K16
  clear H9 hW K2 hr14 K16
  refine og 1 [(0, v12), (1, (Value.int IntKind.u64 ((m : Nat) : Int))), (4, (Value.slice none 0 0)), (8, (Value.bool true))] 7 ?_
  refine od ?_
  refine qg ?_
  refine og 2 [(0, v12), (1, (Value.int IntKind.u64 ((m : Nat) : Int))), (4, (Value.slice none 0 0)), (8, (Value.bool true)), (10, (Value.int IntKind.u64 ((((m : Nat) : Int)).fdiv 128)))] 2 ?_
  have e18 : (((m : Nat) : Int)).fdiv 128 = ((m / 128 : Nat) : Int) := fdiv_nat m 128
  rw [e18]
  clear e18
  refine og 1 [(0, v12), (1, (Value.int IntKind.u64 ((m / 128 : Nat) : Int))), (4, (Value.slice none 0 0)), (8, (Value.bool true))] 3 ?_
  refine Ops.keep (R := [(0, v12), (1, (Value.int IntKind.u64 ((m / 128 : Nat) : Int))), (4, (Value.slice none 0 0))]) (by kernel_rfl) ?_
  refine od ?_
  exact ⟨(v12, m / 128, ys ++ [byte (m % 256 % 128 + 128)]), ⟨rfl, .inr hO15, (by rw [← hE, uv_ge (n := m) (by omega)]; rw [show byte (m % 256 % 128 + 128) = byte (m % 128 + 128) from (by rw [Nat.mod_mod_of_dvd m (by decide)])]; simp), (by omega), K17⟩, (show (m / 128) < m from by omega)⟩
 ·rw [h3]
  have p19 : ¬ (((m : Nat) : Int) > 127) := of_decide_eq_false h3
  refine q_exit (id := 0) (by kernel_rfl) ?_
  refine qs ?_
  refine qg ?_
  refine og 3 [(4, (Value.slice none 0 0)), (17, v), (19, (Value.int IntKind.u8 (IntKind.u8.wrap ((m : Nat) : Int))))] 3 ?_
  have e20 : IntKind.u8.wrap ((m : Nat) : Int) = ((m % 256 : Nat) : Int) := u8_wrap m
  rw [e20]
  clear e20
  refine Ops.new (o := rowL [(Value.int IntKind.u8 ((m % 256 : Nat) : Int))] 5) (V := fun b => (Value.slice (some ⟨b, 0, none⟩) 1 1)) (by kernel_rfl) (d := (some 20)) (by kernel_rfl) (fun b => rfl) (fun b21 w22 hb23 H24 K25 hs26 => ?_)
  have nb21 : w.heap.size ≤ b21 := by have := K2.size; omega
  replace K2 := K2.trans K25 (U := none_) (fun i h1 h2 => h2) (fun i h1 h2 => by exact h2)
  replace hW := hW.keep0 K25
  clear K25 hs26
  obtain ⟨v27, w28, hr29, hO30, K31⟩ := Wr.app (ty := 22) tyB hW (lit1 (by omega) H24) (by simp) (by (try simp only at *); (try simp only [List.length_append] at *); (try simp only [List.length_cons] at *); (try simp only [List.length_nil] at *); omega) K2.size
  refine Ops.go (v := v27) (by kernel_rfl) (Runs.append (ts := #[22, 22]) (ty := 22) (vs := [v, (Value.slice (some ⟨b21, 0, none⟩) 1 1)]) (by kernel_rfl) hr29) (d := (some 21)) (by kernel_rfl) rfl ?_
  have K32 := Keeps.own2 K2 K31
  clear H24 hW K2 hr29 K31
  refine og 1 [(4, v27)] 6 ?_
  refine od ?_
  refine q_ret (by kernel_rfl) ?_
  refine ⟨v27, retv_tmp rfl rfl, ?_⟩
  refine ⟨_, rfl, K32, ?_⟩
  have hfin : ys ++ [byte (m % 256)] = xs ++ uv m0 := by rw [← hE, uv_lt (by omega)]; rw [show m % 256 = m from (by omega)]
  rw [hfin] at hO30
  exact hO30

theorem RUint_calls (w : World) (v : Value) (xs : List UInt8) (m0 : Nat) (hv : RdB w v xs) (hm0 : m0 < 18446744073709551616) (hl : xs.length ≤ 140737488351232) : Calls Tryz.prog 93 ⟨[v, (Value.int IntKind.u64 ((m0 : Nat) : Int))]⟩ w (fun e w' => ∃ v', e = .returned v' ∧ Keeps none_ w w' ∧ OwnB w' w.heap.size 5 v' (xs ++ uv m0)) := by
 have hnil : OwnB w w.heap.size 5 (.slice none 0 0) [] := World.ownsRow_nil _ _ _ _
 have K0 : Keeps none_ w w := Keeps.refl w
 refine q_calls Tryz.func93 (by kernel_rfl) (by kernel_rfl) ?_
 refine qs ?_
 refine qg ?_
 refine og 1 [(0, v), (1, (Value.int IntKind.u64 ((m0 : Nat) : Int))), (4, (Value.slice none 0 0))] 1 ?_
 refine od ?_
 refine qs ?_
 refine qg ?_
 refine og 1 [(0, v), (1, (Value.int IntKind.u64 ((m0 : Nat) : Int))), (4, (Value.slice none 0 0)), (5, (Value.slice none 0 0))] 1 ?_
 refine od ?_
 refine qs ?_
 refine qg ?_
 refine og 2 [(1, (Value.int IntKind.u64 ((m0 : Nat) : Int))), (4, (Value.slice none 0 0)), (5, (Value.slice none 0 0)), (6, (Value.slice none 0 0)), (7, v)] 2 ?_
 obtain ⟨v1, w2, hr3, hO4, K5⟩ := OwnB.app (ty := 22) tyB hnil (hv.keep0 (by omega) K0) (by (try simp only at *); (try simp only [List.length_append] at *); (try simp only [List.length_cons] at *); (try simp only [List.length_nil] at *); omega) K0.size
 refine Ops.go (v := v1) (by kernel_rfl) (Runs.append (ts := #[22, 22]) (ty := 22) (vs := [(Value.slice none 0 0), v]) (by kernel_rfl) hr3) (d := (some 8)) (by kernel_rfl) rfl ?_
 have K6 := Keeps.own2 K0 K5
 clear hnil K0 hr3 K5
 refine og 1 [(1, (Value.int IntKind.u64 ((m0 : Nat) : Int))), (4, (Value.slice none 0 0)), (5, v1)] 4 ?_
 refine od ?_
 refine qs ?_
 refine q_block (id := 0) (by kernel_rfl) ?_
 refine q_keep (R := [(1, (Value.int IntKind.u64 ((m0 : Nat) : Int))), (4, (Value.slice none 0 0)), (5, v1)]) (by kernel_rfl) ?_
 refine q_loop (fun (gs : Value × Nat × (List UInt8)) L (wx : World) => match gs with | (v, m, ys) => L = [(1, (Value.int IntKind.u64 ((m : Nat) : Int))), (4, (Value.slice none 0 0)), (5, v)] ∧ OwnB wx w.heap.size 5 v ys ∧ ys ++ uv m = xs ++ uv m0 ∧ m < 18446744073709551616 ∧ Keeps none_ w wx) (fun (gs : Value × Nat × (List UInt8)) => match gs with | (v, m, ys) => m) (v1, m0, xs) (by kernel_rfl) ⟨rfl, hO4, rfl, hm0, K6⟩ ?_
 clear hO4 K6
 rintro ⟨v, m, ys⟩ _ w7 ⟨rfl, hW, hE, hm, K8⟩
 have hlen := congrArg List.length hE
 simp only [List.length_append] at hlen
 have hu := uv_length_10 hm0
 have hp := uv_pos m
 refine qs ?_
 refine qs ?_
 refine qg ?_
 refine og 2 [(1, (Value.int IntKind.u64 ((m : Nat) : Int))), (4, (Value.slice none 0 0)), (5, v), (10, (Value.bool (decide (((m : Nat) : Int) ≥ 128))))] 2 ?_
 refine od ?_
 refine q_cond (o := .tmp 10) (b := (decide (((m : Nat) : Int) ≥ 128))) (by kernel_rfl) rfl (fun h9 => ?_) (fun h9 => ?_)
 ·rw [h9]
  have p10 : ((m : Nat) : Int) ≥ 128 := of_decide_eq_true h9
  refine q_skip (by kernel_rfl) ?_
  refine q_block (id := 1) (by kernel_rfl) ?_
  refine qs ?_
  refine qg ?_
  refine og 3 [(1, (Value.int IntKind.u64 ((m : Nat) : Int))), (4, (Value.slice none 0 0)), (5, v), (10, (Value.bool true)), (11, v), (13, (Value.int IntKind.u64 ((((m : Nat) : Int)).tmod 128)))] 3 ?_
  have e11 : (((m : Nat) : Int)).tmod 128 = ((m % 128 : Nat) : Int) := tmod_nat m 128
  rw [e11]
  clear e11
  refine og 1 [(1, (Value.int IntKind.u64 ((m : Nat) : Int))), (4, (Value.slice none 0 0)), (5, v), (10, (Value.bool true)), (11, v), (14, (Value.int IntKind.u8 (IntKind.u8.wrap ((m % 128 : Nat) : Int))))] 4 ?_
  have e12 : IntKind.u8.wrap ((m % 128 : Nat) : Int) = ((m % 128 : Nat) : Int) := wrap_u8 (by omega) (by omega)
  rw [e12]
  clear e12
  refine og 1 [(1, (Value.int IntKind.u64 ((m : Nat) : Int))), (4, (Value.slice none 0 0)), (5, v), (10, (Value.bool true)), (11, v), (15, (Value.int IntKind.u8 (IntKind.u8.wrap (((m % 128 : Nat) : Int) + 128))))] 5 ?_
  have e13 : IntKind.u8.wrap (((m % 128 : Nat) : Int) + 128) = (((m % 128) + 128 : Nat) : Int) := by rw [wrap_u8 (by omega) (by omega)]; omega
  rw [e13]
  clear e13
  refine Ops.new (o := rowL [(Value.int IntKind.u8 (((m % 128) + 128 : Nat) : Int))] 5) (V := fun b => (Value.slice (some ⟨b, 0, none⟩) 1 1)) (by kernel_rfl) (d := (some 16)) (by kernel_rfl) (fun b => rfl) (fun b14 w15 hb16 H17 K18 hs19 => ?_)
  have nb14 : w.heap.size ≤ b14 := by have := K8.size; omega
  have ob20 : ∀ i, (v).ownBlock = some i → i < b14 := fun i hi => by have := (World.ownsRow.lt hW i hi).2; omega
  replace K8 := K8.trans K18 (U := none_) (fun i h1 h2 => h2) (fun i h1 h2 => by exact h2)
  replace hW := own_keep0 hW K18
  clear K18 hs19
  obtain ⟨v21, w22, hr23, hO24, K25⟩ := OwnB.app (ty := 22) tyB hW (lit1 (by omega) H17) (by (try simp only at *); (try simp only [List.length_append] at *); (try simp only [List.length_cons] at *); (try simp only [List.length_nil] at *); omega) K8.size
  refine Ops.go (v := v21) (by kernel_rfl) (Runs.append (ts := #[22, 22]) (ty := 22) (vs := [v, (Value.slice (some ⟨b14, 0, none⟩) 1 1)]) (by kernel_rfl) hr23) (d := (some 17)) (by kernel_rfl) rfl ?_
  have K26 := Keeps.own2 K8 K25
  clear H17 hW K8 hr23 K25
  refine og 1 [(1, (Value.int IntKind.u64 ((m : Nat) : Int))), (4, (Value.slice none 0 0)), (5, v21), (10, (Value.bool true))] 8 ?_
  refine od ?_
  refine qg ?_
  refine og 2 [(1, (Value.int IntKind.u64 ((m : Nat) : Int))), (4, (Value.slice none 0 0)), (5, v21), (10, (Value.bool true)), (19, (Value.int IntKind.u64 (IntKind.u64.wrap ((((m : Nat) : Int)).tdiv 128))))] 2 ?_
  have e27 : IntKind.u64.wrap ((((m : Nat) : Int)).tdiv 128) = ((m / 128 : Nat) : Int) := (congrArg (IntKind.u64.wrap ·) (tdiv_nat m 128)).trans (wrap_u64 (by omega) (by omega))
  rw [e27]
  clear e27
  refine og 1 [(1, (Value.int IntKind.u64 ((m / 128 : Nat) : Int))), (4, (Value.slice none 0 0)), (5, v21), (10, (Value.bool true))] 3 ?_
  refine Ops.keep (R := [(1, (Value.int IntKind.u64 ((m / 128 : Nat) : Int))), (4, (Value.slice none 0 0)), (5, v21)]) (by kernel_rfl) ?_
  refine od ?_
  exact ⟨(v21, m / 128, ys ++ [byte (m % 128 + 128)]), ⟨rfl, hO24, (by rw [← hE, uv_ge (n := m) (by omega)]; simp), (by omega), K26⟩, (show (m / 128) < m from by omega)⟩
 ·rw [h9]
  have p28 : ¬ (((m : Nat) : Int) ≥ 128) := of_decide_eq_false h9
  refine q_exit (id := 0) (by kernel_rfl) ?_
  refine qs ?_
  refine qg ?_
  refine og 3 [(4, (Value.slice none 0 0)), (5, v), (20, v), (22, (Value.int IntKind.u8 (IntKind.u8.wrap ((m : Nat) : Int))))] 3 ?_
  have e29 : IntKind.u8.wrap ((m : Nat) : Int) = ((m % 256 : Nat) : Int) := u8_wrap m
  rw [e29]
  clear e29
  refine Ops.new (o := rowL [(Value.int IntKind.u8 ((m % 256 : Nat) : Int))] 5) (V := fun b => (Value.slice (some ⟨b, 0, none⟩) 1 1)) (by kernel_rfl) (d := (some 23)) (by kernel_rfl) (fun b => rfl) (fun b30 w31 hb32 H33 K34 hs35 => ?_)
  have nb30 : w.heap.size ≤ b30 := by have := K8.size; omega
  have ob36 : ∀ i, (v).ownBlock = some i → i < b30 := fun i hi => by have := (World.ownsRow.lt hW i hi).2; omega
  replace K8 := K8.trans K34 (U := none_) (fun i h1 h2 => h2) (fun i h1 h2 => by exact h2)
  replace hW := own_keep0 hW K34
  clear K34 hs35
  obtain ⟨v37, w38, hr39, hO40, K41⟩ := OwnB.app (ty := 22) tyB hW (lit1 (by omega) H33) (by (try simp only at *); (try simp only [List.length_append] at *); (try simp only [List.length_cons] at *); (try simp only [List.length_nil] at *); omega) K8.size
  refine Ops.go (v := v37) (by kernel_rfl) (Runs.append (ts := #[22, 22]) (ty := 22) (vs := [v, (Value.slice (some ⟨b30, 0, none⟩) 1 1)]) (by kernel_rfl) hr39) (d := (some 24)) (by kernel_rfl) rfl ?_
  have K42 := Keeps.own2 K8 K41
  clear H33 hW K8 hr39 K41
  refine og 1 [(4, (Value.slice none 0 0)), (5, v37)] 6 ?_
  refine od ?_
  refine qs ?_
  refine qg ?_
  refine og 2 [(4, v37)] 2 ?_
  refine od ?_
  refine q_ret (by kernel_rfl) ?_
  refine ⟨v37, retv_tmp rfl rfl, ?_⟩
  refine ⟨_, rfl, K42, ?_⟩
  have hfin : ys ++ [byte (m % 256)] = xs ++ uv m0 := by rw [← hE, uv_lt (by omega)]; rw [show m % 256 = m from (by omega)]
  rw [hfin] at hO40
  exact hO40

theorem Int_calls (w : World) (v : Value) (xs : List UInt8) (n : Int) (hv : RdB w v xs) (hn : -9223372036854775808 ≤ n ∧ n ≤ 9223372036854775807) (hl : xs.length ≤ 140737488351232) : Calls Tryz.prog 33 ⟨[v, (i64 n)]⟩ w (fun e w' => ∃ v', e = .returned v' ∧ Keeps none_ w w' ∧ OwnB w' w.heap.size 5 v' (xs ++ iv n)) := by
 have hz := zz_lt hn
 have hz1 := zz_neg n
 have hz2 := zz_pos n
 have K0 : Keeps none_ w w := Keeps.refl w
 refine q_calls Tryz.func33 (by kernel_rfl) (by kernel_rfl) ?_
 refine qs ?_
 refine qg ?_
 refine og 1 [(0, v), (1, (i64 n)), (4, (Value.slice none 0 0))] 1 ?_
 refine od ?_
 refine qs ?_
 refine qg ?_
 refine og 7 [(4, (Value.slice none 0 0)), (5, v), (8, (Value.int IntKind.u64 (IntKind.u64.wrap ((IntKind.u64.wrap n) * 2)))), (11, (Value.int IntKind.u64 (IntKind.u64.wrap ((n).fdiv 9223372036854775808))))] 7 ?_
 refine Ops.go (v := (Value.int IntKind.u64 ((zz n : Nat) : Int))) (by kernel_rfl) (Runs.int (op := .xor) (t := 63) (by kernel_rfl) (run_zigzag hn)) (d := (some 12)) (by kernel_rfl) rfl ?_
 refine Ops.call (by kernel_rfl) (d := (some 13)) (by kernel_rfl) (Uint_calls _ v xs (zz n) (hv.keep0 (by omega) K0) (by omega) (by (try simp only at *); (try simp only [List.length_append] at *); (try simp only [List.length_cons] at *); (try simp only [List.length_nil] at *); omega)) ?_
 rintro _ w3 ⟨v2, rfl, K4, hO5⟩
 have O6 := own_base hO5 K0.size
 clear hO5
 have hL1 := uv_length_10 (n := zz n) (by omega)
 refine ⟨_, _, rfl, rfl, ?_⟩
 replace K0 := K0.t0 K4
 clear K4
 refine og 1 [(4, v2)] 10 ?_
 refine od ?_
 refine q_ret (by kernel_rfl) ?_
 refine ⟨v2, retv_tmp rfl rfl, ?_⟩
 exact ⟨_, rfl, K0, O6⟩

theorem RInt_calls (w : World) (v : Value) (xs : List UInt8) (n : Int) (hv : RdB w v xs) (hn : -9223372036854775808 ≤ n ∧ n ≤ 9223372036854775807) (hl : xs.length ≤ 140737488351232) : Calls Tryz.prog 95 ⟨[v, (i64 n)]⟩ w (fun e w' => ∃ v', e = .returned v' ∧ Keeps none_ w w' ∧ OwnB w' w.heap.size 5 v' (xs ++ iv n)) := by
 have hz := zz_lt hn
 have hz1 := zz_neg n
 have hz2 := zz_pos n
 have K0 : Keeps none_ w w := Keeps.refl w
 refine q_calls Tryz.func95 (by kernel_rfl) (by kernel_rfl) ?_
 refine qs ?_
 refine qg ?_
 refine og 1 [(0, v), (1, (i64 n)), (4, (Value.slice none 0 0))] 1 ?_
 refine od ?_
 refine qs ?_
 refine qs ?_
 refine qg ?_
 refine og 2 [(0, v), (1, (i64 n)), (4, (Value.slice none 0 0)), (6, (Value.bool (decide (n < 0))))] 2 ?_
 refine od ?_
 refine q_cond (o := .tmp 6) (b := (decide (n < 0))) (by kernel_rfl) rfl (fun h1 => ?_) (fun h1 => ?_)
 ·rw [h1]
  have p2 : n < 0 := of_decide_eq_true h1
  refine qs ?_
  refine qg ?_
  refine og 3 [(0, v), (1, (i64 n)), (4, (Value.slice none 0 0)), (7, v), (9, (i64 (IntKind.i64.wrap (n + 1))))] 3 ?_
  have e3 : IntKind.i64.wrap (n + 1) = n + 1 := wrap_i64 (by omega) (by omega)
  rw [e3]
  refine og 1 [(0, v), (1, (i64 n)), (4, (Value.slice none 0 0)), (7, v), (10, (i64 (IntKind.i64.wrap (0 - (n + 1)))))] 4 ?_
  have e4 : IntKind.i64.wrap (0 - (n + 1)) = 0 - (n + 1) := wrap_i64 (by omega) (by omega)
  rw [e4]
  refine og 1 [(0, v), (1, (i64 n)), (4, (Value.slice none 0 0)), (7, v), (11, (Value.int IntKind.u64 (IntKind.u64.wrap (0 - (n + 1)))))] 5 ?_
  have e5 : IntKind.u64.wrap (0 - (n + 1)) = 0 - (n + 1) := wrap_u64 (by omega) (by omega)
  rw [e5]
  refine og 1 [(0, v), (1, (i64 n)), (4, (Value.slice none 0 0)), (7, v), (12, (Value.int IntKind.u64 (IntKind.u64.wrap (2 * (0 - (n + 1))))))] 6 ?_
  have e6 : IntKind.u64.wrap (2 * (0 - (n + 1))) = 2 * (0 - (n + 1)) := wrap_u64 (by omega) (by omega)
  rw [e6]
  refine og 1 [(0, v), (1, (i64 n)), (4, (Value.slice none 0 0)), (7, v), (13, (Value.int IntKind.u64 (IntKind.u64.wrap ((2 * (0 - (n + 1))) + 1))))] 7 ?_
  have e7 : IntKind.u64.wrap ((2 * (0 - (n + 1))) + 1) = ((zz n : Nat) : Int) := by rw [wrap_u64 (by omega) (by omega)]; omega
  rw [e7]
  refine Ops.call (by kernel_rfl) (d := (some 14)) (by kernel_rfl) (RUint_calls _ v xs (zz n) (hv.keep0 (by omega) K0) (by omega) (by (try simp only at *); (try simp only [List.length_append] at *); (try simp only [List.length_cons] at *); (try simp only [List.length_nil] at *); omega)) ?_
  rintro _ w10 ⟨v9, rfl, K11, hO12⟩
  have O13 := own_base hO12 K0.size
  clear hO12
  have hL8 := uv_length_10 (n := zz n) (by omega)
  refine ⟨_, _, rfl, rfl, ?_⟩
  replace K0 := K0.t0 K11
  clear K11
  refine og 1 [(0, v), (1, (i64 n)), (4, v9)] 9 ?_
  refine od ?_
  refine q_ret (by kernel_rfl) ?_
  refine ⟨v9, retv_tmp rfl rfl, ?_⟩
  exact ⟨_, rfl, K0, O13⟩
 ·rw [h1]
  have p14 : ¬ (n < 0) := of_decide_eq_false h1
  refine q_skip (by kernel_rfl) ?_
  refine qs ?_
  refine qg ?_
  refine og 3 [(4, (Value.slice none 0 0)), (15, v), (17, (Value.int IntKind.u64 (IntKind.u64.wrap (n))))] 3 ?_
  have e15 : IntKind.u64.wrap (n) = n := wrap_u64 (by omega) (by omega)
  rw [e15]
  refine og 1 [(4, (Value.slice none 0 0)), (15, v), (18, (Value.int IntKind.u64 (IntKind.u64.wrap (2 * n))))] 4 ?_
  have e16 : IntKind.u64.wrap (2 * n) = ((zz n : Nat) : Int) := by rw [wrap_u64 (by omega) (by omega)]; omega
  rw [e16]
  refine Ops.call (by kernel_rfl) (d := (some 19)) (by kernel_rfl) (RUint_calls _ v xs (zz n) (hv.keep0 (by omega) K0) (by omega) (by (try simp only at *); (try simp only [List.length_append] at *); (try simp only [List.length_cons] at *); (try simp only [List.length_nil] at *); omega)) ?_
  rintro _ w19 ⟨v18, rfl, K20, hO21⟩
  have O22 := own_base hO21 K0.size
  clear hO21
  have hL17 := uv_length_10 (n := zz n) (by omega)
  refine ⟨_, _, rfl, rfl, ?_⟩
  replace K0 := K0.t0 K20
  clear K20
  refine og 1 [(4, v18)] 6 ?_
  refine od ?_
  refine q_ret (by kernel_rfl) ?_
  refine ⟨v18, retv_tmp rfl rfl, ?_⟩
  exact ⟨_, rfl, K0, O22⟩

theorem shifted_calls (w : World) (r : Nat) (hr : r < 4294967296) : Calls Tryz.prog 125 ⟨[(Value.int IntKind.u32 ((r : Nat) : Int))]⟩ w (fun e w' => e = .returned (.int .u32 ((shiftB r : Nat) : Int)) ∧ w = w') := by
 refine q_calls Tryz.func125 (by kernel_rfl) (by kernel_rfl) ?_
 refine qs ?_
 refine qg ?_
 refine og 1 [(0, (Value.int IntKind.u32 ((r : Nat) : Int))), (2, (Value.int IntKind.u32 0))] 1 ?_
 refine od ?_
 refine qs ?_
 refine qg ?_
 refine og 2 [(0, (Value.int IntKind.u32 ((r : Nat) : Int))), (2, (Value.int IntKind.u32 0)), (4, (Value.int IntKind.u32 ((((r : Nat) : Int)).fdiv 2)))] 2 ?_
 have e1 : (((r : Nat) : Int)).fdiv 2 = ((r / 2 : Nat) : Int) := fdiv_nat r 2
 rw [e1]
 clear e1
 refine og 1 [(2, (Value.int IntKind.u32 0)), (4, (Value.int IntKind.u32 ((r / 2 : Nat) : Int))), (5, (Value.int IntKind.u32 ((r : Nat) : Int)))] 3 ?_
 have hb2 : r &&& 1 < 4294967296 := and32_lt (by omega)
 refine Ops.go (v := (Value.int IntKind.u32 ((r &&& 1 : Nat) : Int))) (by kernel_rfl) (Runs.int (op := .and) (t := 114) (by kernel_rfl) (run_and32 (a := r) (b := 1) (by omega) (by omega))) (d := (some 6)) (by kernel_rfl) rfl ?_
 have hb3 := neg32_lt (r &&& 1)
 refine Ops.go (v := (Value.int IntKind.u32 ((neg32 (r &&& 1) : Nat) : Int))) (by kernel_rfl) (Runs.un (op := .neg) (by kernel_rfl) (run_neg32 (a := (r &&& 1)) (by omega))) (d := (some 7)) (by kernel_rfl) rfl ?_
 have hb4 : 2197175160 &&& (neg32 (r &&& 1)) < 4294967296 := and32_lt (by omega)
 refine Ops.go (v := (Value.int IntKind.u32 ((2197175160 &&& (neg32 (r &&& 1)) : Nat) : Int))) (by kernel_rfl) (Runs.int (op := .and) (t := 114) (by kernel_rfl) (run_and32 (a := 2197175160) (b := (neg32 (r &&& 1))) (by omega) (by omega))) (d := (some 8)) (by kernel_rfl) rfl ?_
 have hb5 : (r / 2) ^^^ (2197175160 &&& (neg32 (r &&& 1))) < 4294967296 := xor32_lt (by omega) (by omega)
 refine Ops.go (v := (Value.int IntKind.u32 (((r / 2) ^^^ (2197175160 &&& (neg32 (r &&& 1))) : Nat) : Int))) (by kernel_rfl) (Runs.int (op := .xor) (t := 114) (by kernel_rfl) (run_xor32 (a := (r / 2)) (b := (2197175160 &&& (neg32 (r &&& 1)))) (by omega) (by omega))) (d := (some 9)) (by kernel_rfl) rfl ?_
 refine og 1 [(2, (Value.int IntKind.u32 (((r / 2) ^^^ (2197175160 &&& (neg32 (r &&& 1))) : Nat) : Int)))] 8 ?_
 refine od ?_
 refine q_ret (by kernel_rfl) ?_
 refine ⟨(Value.int IntKind.u32 (((r / 2) ^^^ (2197175160 &&& (neg32 (r &&& 1))) : Nat) : Int)), retv_tmp rfl rfl, ?_⟩
 exact ⟨rfl, rfl⟩

theorem More_calls (w : World) (A : Option Addr) (c s : Nat) (bs : List UInt8) (hs : s < 4294967296) (hv : RdB w (.slice A bs.length c) bs) (hl : bs.length ≤ 140737488351232) : Calls Tryz.prog 107 ⟨[(Value.int IntKind.u32 ((s : Nat) : Int)), (Value.slice A bs.length c)]⟩ w (fun e w' => e = .returned (.int .u32 ((crcMore s bs : Nat) : Int)) ∧ Keeps none_ w w') := by
 have K0 : Keeps none_ w w := Keeps.refl w
 refine q_calls Tryz.func107 (by kernel_rfl) (by kernel_rfl) ?_
 refine qs ?_
 refine qg ?_
 refine og 1 [(0, (Value.int IntKind.u32 ((s : Nat) : Int))), (1, (Value.slice A bs.length c)), (4, (Value.int IntKind.u32 0))] 1 ?_
 refine od ?_
 refine qs ?_
 refine qg ?_
 refine og 1 [(1, (Value.slice A bs.length c)), (4, (Value.int IntKind.u32 0)), (8, (Value.int IntKind.u32 ((s : Nat) : Int)))] 1 ?_
 have hb1 : 4294967295 ^^^ s < 4294967296 := xor32_lt (by omega) (by omega)
 refine Ops.go (v := (Value.int IntKind.u32 ((4294967295 ^^^ s : Nat) : Int))) (by kernel_rfl) (Runs.un (op := .xor) (by kernel_rfl) (run_not32 (a := s) (by omega))) (d := (some 9)) (by kernel_rfl) rfl ?_
 refine og 1 [(1, (Value.slice A bs.length c)), (4, (Value.int IntKind.u32 0)), (5, (Value.int IntKind.u32 ((4294967295 ^^^ s : Nat) : Int)))] 3 ?_
 refine od ?_
 refine qs ?_
 refine qs ?_
 refine qg ?_
 refine og 3 [(4, (Value.int IntKind.u32 0)), (5, (Value.int IntKind.u32 ((4294967295 ^^^ s : Nat) : Int))), (10, (Value.slice A bs.length c)), (11, (i64 ((bs.length : Nat) : Int))), (12, (i64 0))] 3 ?_
 refine od ?_
 refine q_block (id := 0) (by kernel_rfl) ?_
 refine q_keep (R := [(4, (Value.int IntKind.u32 0)), (5, (Value.int IntKind.u32 ((4294967295 ^^^ s : Nat) : Int))), (10, (Value.slice A bs.length c)), (11, (i64 ((bs.length : Nat) : Int))), (12, (i64 0))]) (by kernel_rfl) ?_
 refine q_loop (fun (gs : Nat × Nat) L (wx : World) => match gs with | (i, r) => L = [(4, (Value.int IntKind.u32 0)), (5, (Value.int IntKind.u32 ((r : Nat) : Int))), (10, (Value.slice A bs.length c)), (11, (i64 ((bs.length : Nat) : Int))), (12, (i64 ((i : Nat) : Int)))] ∧ r = (bs.take i).foldl crcByte (4294967295 ^^^ s) ∧ r < 4294967296 ∧ i ≤ bs.length ∧ Keeps none_ w wx) (fun (gs : Nat × Nat) => match gs with | (i, r) => bs.length - i) (0, 4294967295 ^^^ s) (by kernel_rfl) ⟨rfl, rfl, (xor32_lt (by omega) hs), (by omega), K0⟩ ?_
 clear K0
 rintro ⟨i, r⟩ _ w2 ⟨rfl, hE, hr, hil, K3⟩
 refine qs ?_
 refine qg ?_
 refine og 1 [(4, (Value.int IntKind.u32 0)), (5, (Value.int IntKind.u32 ((r : Nat) : Int))), (10, (Value.slice A bs.length c)), (11, (i64 ((bs.length : Nat) : Int))), (12, (i64 ((i : Nat) : Int))), (13, (Value.bool (decide (((i : Nat) : Int) < ((bs.length : Nat) : Int)))))] 1 ?_
 refine od ?_
 refine qs ?_
 refine q_cond (o := .tmp 13) (b := (decide (((i : Nat) : Int) < ((bs.length : Nat) : Int)))) (by kernel_rfl) rfl (fun h4 => ?_) (fun h4 => ?_)
 ·rw [h4]
  have p5 : ((i : Nat) : Int) < ((bs.length : Nat) : Int) := of_decide_eq_true h4
  obtain ⟨x, lb, lo, hx, hA, hLd⟩ := RdB.at (P := Tryz.prog) (t := 5) hv (k := i) (by kernel_rfl) (by omega)
  have hx256 : x.toNat < 256 := x.toNat_lt
  refine q_skip (by kernel_rfl) ?_
  refine qs ?_
  refine q_block (id := 1) (by kernel_rfl) ?_
  refine qs ?_
  refine qg ?_
  refine Ops.go (by kernel_rfl) (Runs.ixSliceE (k := IntKind.i64) (t := 22) (len := bs.length) (cap := c) (s := 1) (off' := lo + i) (i := ((i : Nat) : Int)) hA (by kernel_rfl) (by kernel_rfl) (by omega) (by omega) (by omega)) (d := (some 14)) (by kernel_rfl) rfl ?_
  refine Ops.go (v := (Value.int IntKind.u8 ((x.toNat : Nat) : Int))) (by kernel_rfl) (Runs.load (t := 5) (a := ⟨lb, lo + i, none⟩) (by kernel_rfl) (hLd _ _ K3 (fun h => h))) (d := (some 15)) (by kernel_rfl) rfl ?_
  refine og 1 [(4, (Value.int IntKind.u32 0)), (5, (Value.int IntKind.u32 ((r : Nat) : Int))), (7, (Value.int IntKind.u8 ((x.toNat : Nat) : Int))), (10, (Value.slice A bs.length c)), (11, (i64 ((bs.length : Nat) : Int))), (12, (i64 ((i : Nat) : Int))), (13, (Value.bool true))] 3 ?_
  refine od ?_
  refine qs ?_
  refine qg ?_
  refine og 3 [(4, (Value.int IntKind.u32 0)), (5, (Value.int IntKind.u32 ((r : Nat) : Int))), (7, (Value.int IntKind.u8 ((x.toNat : Nat) : Int))), (10, (Value.slice A bs.length c)), (11, (i64 ((bs.length : Nat) : Int))), (12, (i64 ((i : Nat) : Int))), (13, (Value.bool true)), (16, (Value.int IntKind.u32 ((r : Nat) : Int))), (18, (Value.int IntKind.u32 (IntKind.u32.wrap (((x.toNat : Nat) : Int)))))] 3 ?_
  have e6 : IntKind.u32.wrap (((x.toNat : Nat) : Int)) = ((x.toNat : Nat) : Int) := wrap_u32 (by omega) (by omega)
  rw [e6]
  have hb7 : r ^^^ x.toNat < 4294967296 := xor32_lt (by omega) (by omega)
  refine Ops.go (v := (Value.int IntKind.u32 ((r ^^^ x.toNat : Nat) : Int))) (by kernel_rfl) (Runs.int (op := .xor) (t := 114) (by kernel_rfl) (run_xor32 (a := r) (b := x.toNat) (by omega) (by omega))) (d := (some 19)) (by kernel_rfl) rfl ?_
  refine og 1 [(4, (Value.int IntKind.u32 0)), (5, (Value.int IntKind.u32 ((r ^^^ x.toNat : Nat) : Int))), (7, (Value.int IntKind.u8 ((x.toNat : Nat) : Int))), (10, (Value.slice A bs.length c)), (11, (i64 ((bs.length : Nat) : Int))), (12, (i64 ((i : Nat) : Int))), (13, (Value.bool true))] 5 ?_
  refine od ?_
  refine qs ?_
  refine qg ?_
  refine og 1 [(4, (Value.int IntKind.u32 0)), (5, (Value.int IntKind.u32 ((r ^^^ x.toNat : Nat) : Int))), (7, (Value.int IntKind.u8 ((x.toNat : Nat) : Int))), (10, (Value.slice A bs.length c)), (11, (i64 ((bs.length : Nat) : Int))), (12, (i64 ((i : Nat) : Int))), (13, (Value.bool true)), (20, (i64 0))] 1 ?_
  refine od ?_
  refine q_block (id := 2) (by kernel_rfl) ?_
  refine q_keep (R := [(4, (Value.int IntKind.u32 0)), (5, (Value.int IntKind.u32 ((r ^^^ x.toNat : Nat) : Int))), (7, (Value.int IntKind.u8 ((x.toNat : Nat) : Int))), (10, (Value.slice A bs.length c)), (11, (i64 ((bs.length : Nat) : Int))), (12, (i64 ((i : Nat) : Int))), (13, (Value.bool true)), (20, (i64 0))]) (by kernel_rfl) ?_
  refine q_loop (fun (gs : Nat × Nat) L (wx : World) => match gs with | (k, q) => L = [(4, (Value.int IntKind.u32 0)), (5, (Value.int IntKind.u32 ((q : Nat) : Int))), (7, (Value.int IntKind.u8 ((x.toNat : Nat) : Int))), (10, (Value.slice A bs.length c)), (11, (i64 ((bs.length : Nat) : Int))), (12, (i64 ((i : Nat) : Int))), (13, (Value.bool true)), (20, (i64 ((k : Nat) : Int)))] ∧ q = shiftN k (r ^^^ x.toNat) ∧ q < 4294967296 ∧ k ≤ 8 ∧ Keeps none_ w wx) (fun (gs : Nat × Nat) => match gs with | (k, q) => 8 - k) (0, r ^^^ x.toNat) (by kernel_rfl) ⟨rfl, rfl, (xor32_lt hr (by omega)), (by omega), K3⟩ ?_
  clear K3
  rintro ⟨k, q⟩ _ w8 ⟨rfl, hq, hq2, hk, K9⟩
  refine qs ?_
  refine qg ?_
  refine og 1 [(4, (Value.int IntKind.u32 0)), (5, (Value.int IntKind.u32 ((q : Nat) : Int))), (7, (Value.int IntKind.u8 ((x.toNat : Nat) : Int))), (10, (Value.slice A bs.length c)), (11, (i64 ((bs.length : Nat) : Int))), (12, (i64 ((i : Nat) : Int))), (13, (Value.bool true)), (20, (i64 ((k : Nat) : Int))), (21, (Value.bool (decide (((k : Nat) : Int) < 8))))] 1 ?_
  refine od ?_
  refine qs ?_
  refine q_cond (o := .tmp 21) (b := (decide (((k : Nat) : Int) < 8))) (by kernel_rfl) rfl (fun h10 => ?_) (fun h10 => ?_)
  ·rw [h10]
   have p11 : ((k : Nat) : Int) < 8 := of_decide_eq_true h10
   refine q_skip (by kernel_rfl) ?_
   refine qs ?_
   refine q_block (id := 3) (by kernel_rfl) ?_
   refine qg ?_
   refine og 1 [(4, (Value.int IntKind.u32 0)), (5, (Value.int IntKind.u32 ((q : Nat) : Int))), (7, (Value.int IntKind.u8 ((x.toNat : Nat) : Int))), (10, (Value.slice A bs.length c)), (11, (i64 ((bs.length : Nat) : Int))), (12, (i64 ((i : Nat) : Int))), (13, (Value.bool true)), (20, (i64 ((k : Nat) : Int))), (21, (Value.bool true)), (22, (Value.int IntKind.u32 ((q : Nat) : Int)))] 1 ?_
   refine Ops.call (by kernel_rfl) (d := (some 23)) (by kernel_rfl) (shifted_calls _ q (by omega)) ?_
   rintro _ _ ⟨rfl, rfl⟩
   refine ⟨_, _, rfl, rfl, ?_⟩
   refine og 1 [(4, (Value.int IntKind.u32 0)), (5, (Value.int IntKind.u32 ((shiftB q : Nat) : Int))), (7, (Value.int IntKind.u8 ((x.toNat : Nat) : Int))), (10, (Value.slice A bs.length c)), (11, (i64 ((bs.length : Nat) : Int))), (12, (i64 ((i : Nat) : Int))), (13, (Value.bool true)), (20, (i64 ((k : Nat) : Int))), (21, (Value.bool true))] 3 ?_
   refine od ?_
   refine qg ?_
   refine og 1 [(4, (Value.int IntKind.u32 0)), (5, (Value.int IntKind.u32 ((shiftB q : Nat) : Int))), (7, (Value.int IntKind.u8 ((x.toNat : Nat) : Int))), (10, (Value.slice A bs.length c)), (11, (i64 ((bs.length : Nat) : Int))), (12, (i64 ((i : Nat) : Int))), (13, (Value.bool true)), (20, (i64 ((k : Nat) : Int))), (21, (Value.bool true)), (24, (i64 (IntKind.i64.wrap (((k : Nat) : Int) + 1))))] 1 ?_
   have e12 : IntKind.i64.wrap (((k : Nat) : Int) + 1) = ((k + 1 : Nat) : Int) := by rw [wrap_i64 (by omega) (by omega)]; omega
   rw [e12]
   clear e12
   refine og 1 [(4, (Value.int IntKind.u32 0)), (5, (Value.int IntKind.u32 ((shiftB q : Nat) : Int))), (7, (Value.int IntKind.u8 ((x.toNat : Nat) : Int))), (10, (Value.slice A bs.length c)), (11, (i64 ((bs.length : Nat) : Int))), (12, (i64 ((i : Nat) : Int))), (13, (Value.bool true)), (20, (i64 ((k + 1 : Nat) : Int))), (21, (Value.bool true))] 2 ?_
   refine Ops.keep (R := [(4, (Value.int IntKind.u32 0)), (5, (Value.int IntKind.u32 ((shiftB q : Nat) : Int))), (7, (Value.int IntKind.u8 ((x.toNat : Nat) : Int))), (10, (Value.slice A bs.length c)), (11, (i64 ((bs.length : Nat) : Int))), (12, (i64 ((i : Nat) : Int))), (13, (Value.bool true)), (20, (i64 ((k + 1 : Nat) : Int)))]) (by kernel_rfl) ?_
   refine od ?_
   exact ⟨(k + 1, shiftB q), ⟨rfl, (by rw [hq]; rfl), (shiftB_lt hq2), (by omega), K9⟩, (show 8 - (k + 1) < 8 - k from by omega)⟩
  ·rw [h10]
   have p13 : ¬ (((k : Nat) : Int) < 8) := of_decide_eq_false h10
   refine q_exit (id := 2) (by kernel_rfl) ?_
   refine qg ?_
   refine og 1 [(4, (Value.int IntKind.u32 0)), (5, (Value.int IntKind.u32 ((q : Nat) : Int))), (7, (Value.int IntKind.u8 ((x.toNat : Nat) : Int))), (10, (Value.slice A bs.length c)), (11, (i64 ((bs.length : Nat) : Int))), (12, (i64 ((i : Nat) : Int))), (13, (Value.bool true)), (20, (i64 ((k : Nat) : Int))), (21, (Value.bool false)), (25, (i64 (IntKind.i64.wrap (((i : Nat) : Int) + 1))))] 1 ?_
   have e14 : IntKind.i64.wrap (((i : Nat) : Int) + 1) = ((i + 1 : Nat) : Int) := by rw [wrap_i64 (by omega) (by omega)]; omega
   rw [e14]
   clear e14
   refine og 1 [(4, (Value.int IntKind.u32 0)), (5, (Value.int IntKind.u32 ((q : Nat) : Int))), (7, (Value.int IntKind.u8 ((x.toNat : Nat) : Int))), (10, (Value.slice A bs.length c)), (11, (i64 ((bs.length : Nat) : Int))), (12, (i64 ((i + 1 : Nat) : Int))), (13, (Value.bool true)), (20, (i64 ((k : Nat) : Int))), (21, (Value.bool false))] 2 ?_
   refine Ops.keep (R := [(4, (Value.int IntKind.u32 0)), (5, (Value.int IntKind.u32 ((q : Nat) : Int))), (10, (Value.slice A bs.length c)), (11, (i64 ((bs.length : Nat) : Int))), (12, (i64 ((i + 1 : Nat) : Int)))]) (by kernel_rfl) ?_
   refine od ?_
   exact ⟨(i + 1, q), ⟨rfl, (by rw [fold_take hx, ← hE, hq, show k = 8 from by omega]; rfl), hq2, (by omega), K9⟩, (show bs.length - (i + 1) < bs.length - i from by omega)⟩
 ·rw [h4]
  have p15 : ¬ (((i : Nat) : Int) < ((bs.length : Nat) : Int)) := of_decide_eq_false h4
  refine q_exit (id := 0) (by kernel_rfl) ?_
  refine qs ?_
  refine qg ?_
  refine og 1 [(4, (Value.int IntKind.u32 0)), (26, (Value.int IntKind.u32 ((r : Nat) : Int)))] 1 ?_
  have hb16 : 4294967295 ^^^ r < 4294967296 := xor32_lt (by omega) (by omega)
  refine Ops.go (v := (Value.int IntKind.u32 ((4294967295 ^^^ r : Nat) : Int))) (by kernel_rfl) (Runs.un (op := .xor) (by kernel_rfl) (run_not32 (a := r) (by omega))) (d := (some 27)) (by kernel_rfl) rfl ?_
  refine og 1 [(4, (Value.int IntKind.u32 ((4294967295 ^^^ r : Nat) : Int)))] 3 ?_
  refine od ?_
  refine q_ret (by kernel_rfl) ?_
  refine ⟨(Value.int IntKind.u32 ((4294967295 ^^^ r : Nat) : Int)), retv_tmp rfl rfl, ?_⟩
  have e : 4294967295 ^^^ r = crcMore s bs := by rw [hE, show i = bs.length from by omega, List.take_length]; rfl
  exact ⟨by rw [e], K3⟩

theorem More_any (w : World) (v : Value) (s : Nat) (bs : List UInt8) (hs : s < 4294967296) (hv : RdB w v bs) (hl : bs.length ≤ 140737488351232) : Calls Tryz.prog 107 ⟨[.int .u32 ((s : Nat) : Int), v]⟩ w (fun e w' => e = .returned (.int .u32 ((crcMore s bs : Nat) : Int)) ∧ Keeps none_ w w') := by
 obtain ⟨A, c, rfl⟩ := hv.form
 exact More_calls w A c s bs hs hv hl

theorem Sum_calls (w : World) (v : Value) (bs : List UInt8) (hv : RdB w v bs) (hl : bs.length ≤ 140737488351232) : Calls Tryz.prog 90 ⟨[v]⟩ w (fun e w' => e = .returned (.int .u32 ((crcMore 0 bs : Nat) : Int)) ∧ Keeps none_ w w') := by
 have K0 : Keeps none_ w w := Keeps.refl w
 refine q_calls Tryz.func90 (by kernel_rfl) (by kernel_rfl) ?_
 refine qs ?_
 refine qg ?_
 refine og 1 [(0, v), (2, (Value.int IntKind.u32 0))] 1 ?_
 refine od ?_
 refine qs ?_
 refine qg ?_
 refine og 1 [(2, (Value.int IntKind.u32 0)), (3, v)] 1 ?_
 refine Ops.call (by kernel_rfl) (d := (some 4)) (by kernel_rfl) (More_any _ v 0 bs (by omega) (hv.keep0 (by omega) K0) (by omega)) ?_
 rintro _ w1 ⟨rfl, K2⟩
 refine ⟨_, _, rfl, rfl, ?_⟩
 replace K0 := K0.t0 K2
 clear K2
 refine og 1 [(2, (Value.int IntKind.u32 ((crcMore 0 bs : Nat) : Int)))] 3 ?_
 refine od ?_
 refine q_ret (by kernel_rfl) ?_
 refine ⟨(Value.int IntKind.u32 ((crcMore 0 bs : Nat) : Int)), retv_tmp rfl rfl, ?_⟩
 exact ⟨rfl, K0⟩
end Go.Proofs.YtooginpgclcldaaGreatDoor
