/- chapter 11: BookNil returns true -/
import Derived.Test.YtooginpgclcldaaDoorProg
import Derived.Test.YtooginpgclcldaaDoorKM
import Derived.Test.YtooginpgclcldaaDoorOF
import Derived.Test.YtooginpgclcldaaDoorLX
set_option linter.unusedVariables false
namespace Go.Proofs.YtooginpgclcldaaDoor
open Go.Q Go.RowKit

set_option maxHeartbeats 4000000 in
theorem Nil_calls (w : World) (x : BopM) (hx : x.Ok) : Calls Tryd.prog 8 ⟨[(agg [(i64 x.kind), (Value.string (str x.name)), (Value.string (str x.own)), (i64 x.n), (i64 x.slot)])]⟩ w (fun e w' => e = .returned (.bool true) ∧ Keeps none_ w w') := by
 have hx2 := hx.n
 have hx3 := hx.slot
 have K0 : Keeps none_ w w := Keeps.refl w
 refine q_calls Tryd.func8 (by kernel_rfl) (by kernel_rfl) ?_
 refine qs ?_
 refine qg ?_
 refine Ops.new (o := rowL [(i64 x.kind), (Value.string (str x.name)), (Value.string (str x.own)), (i64 x.n), (i64 x.slot)] 41) (V := fun b => (ptr b)) (by kernel_rfl) (d := (some 1)) (by kernel_rfl) (fun b => rfl) (fun b1 w2 hb3 H4 K5 hs6 => ?_)
 have nb1 : w.heap.size ≤ b1 := by have := K0.size; omega
 replace K0 := K0.t0 K5
 clear K5 hs6
 refine og 1 [(1, (ptr b1)), (2, (Value.bool false))] 2 ?_
 refine od ?_
 refine qs ?_
 refine qg ?_
 refine og 1 [(1, (ptr b1)), (2, (Value.bool false)), (3, (Value.pointer none))] 1 ?_
 refine od ?_
 refine qs ?_
 refine qg ?_
 refine og 2 [(1, (ptr b1)), (2, (Value.bool false)), (3, (Value.pointer none)), (7, (Value.pointer none)), (8, (Value.pointer (some ⟨b1, 1, none⟩)))] 2 ?_
 refine Ops.go (v := (Value.string (str x.name))) (by kernel_rfl) (Runs.load (t := 9) (a := ⟨b1, 1, none⟩) (by kernel_rfl) (H4.loads (by kernel_rfl))) (d := (some 9)) (by kernel_rfl) rfl ?_
 refine Ops.call (by kernel_rfl) (d := (some 10)) (by kernel_rfl) (Get_nil _ x.name) ?_
 rintro _ w8 ⟨rfl, K7⟩
 refine ⟨_, _, rfl, rfl, ?_⟩
 replace K0 := K0.t0 K7
 replace H4 := H4.keep K7 (fun h => h)
 clear K7
 refine og 5 [(1, (ptr b1)), (2, (Value.bool false)), (3, (Value.pointer none)), (4, (i64 0)), (5, (i64 2))] 9 ?_
 refine od ?_
 refine qs ?_
 refine qg ?_
 refine og 9 [(1, (ptr b1)), (2, (Value.bool false)), (3, (Value.pointer none)), (19, (Value.bool true)), (20, (Value.pointer none)), (21, (Value.pointer (some ⟨b1, 1, none⟩)))] 9 ?_
 refine Ops.go (v := (Value.string (str x.name))) (by kernel_rfl) (Runs.load (t := 9) (a := ⟨b1, 1, none⟩) (by kernel_rfl) (H4.loads (by kernel_rfl))) (d := (some 22)) (by kernel_rfl) rfl ?_
 refine Ops.call (by kernel_rfl) (d := (some 23)) (by kernel_rfl) (Open_nil _ x.name) ?_
 rintro _ w10 ⟨rfl, K9⟩
 refine ⟨_, _, rfl, rfl, ?_⟩
 replace K0 := K0.t0 K9
 replace H4 := H4.keep K9 (fun h => h)
 clear K9
 refine og 5 [(1, (ptr b1)), (2, (Value.bool false)), (3, (Value.pointer none)), (26, (Value.bool true)), (27, (Value.pointer none)), (28, (Value.pointer (some ⟨b1, 1, none⟩)))] 16 ?_
 refine Ops.go (v := (Value.string (str x.name))) (by kernel_rfl) (Runs.load (t := 9) (a := ⟨b1, 1, none⟩) (by kernel_rfl) (H4.loads (by kernel_rfl))) (d := (some 29)) (by kernel_rfl) rfl ?_
 refine og 1 [(1, (ptr b1)), (2, (Value.bool false)), (3, (Value.pointer none)), (26, (Value.bool true)), (27, (Value.pointer none)), (29, (Value.string (str x.name))), (30, (Value.pointer (some ⟨b1, 3, none⟩)))] 18 ?_
 refine Ops.go (v := (i64 x.n)) (by kernel_rfl) (Runs.load (t := 2) (a := ⟨b1, 3, none⟩) (by kernel_rfl) (H4.loads (by kernel_rfl))) (d := (some 31)) (by kernel_rfl) rfl ?_
 refine Ops.call (by kernel_rfl) (d := (some 32)) (by kernel_rfl) (Add_nil _ x.name x.n) ?_
 rintro _ w12 ⟨rfl, K11⟩
 refine ⟨_, _, rfl, rfl, ?_⟩
 replace K0 := K0.t0 K11
 replace H4 := H4.keep K11 (fun h => h)
 clear K11
 refine og 5 [(1, (ptr b1)), (2, (Value.bool false)), (3, (Value.pointer none)), (35, (Value.bool true)), (36, (Value.pointer none)), (37, (Value.pointer (some ⟨b1, 1, none⟩)))] 25 ?_
 refine Ops.go (v := (Value.string (str x.name))) (by kernel_rfl) (Runs.load (t := 9) (a := ⟨b1, 1, none⟩) (by kernel_rfl) (H4.loads (by kernel_rfl))) (d := (some 38)) (by kernel_rfl) rfl ?_
 refine og 1 [(1, (ptr b1)), (2, (Value.bool false)), (3, (Value.pointer none)), (35, (Value.bool true)), (36, (Value.pointer none)), (38, (Value.string (str x.name))), (39, (Value.pointer (some ⟨b1, 3, none⟩)))] 27 ?_
 refine Ops.go (v := (i64 x.n)) (by kernel_rfl) (Runs.load (t := 2) (a := ⟨b1, 3, none⟩) (by kernel_rfl) (H4.loads (by kernel_rfl))) (d := (some 40)) (by kernel_rfl) rfl ?_
 refine Ops.call (by kernel_rfl) (d := (some 41)) (by kernel_rfl) (Take_nil _ x.name x.n) ?_
 rintro _ w14 ⟨rfl, K13⟩
 refine ⟨_, _, rfl, rfl, ?_⟩
 replace K0 := K0.t0 K13
 replace H4 := H4.keep K13 (fun h => h)
 clear K13
 refine og 5 [(1, (ptr b1)), (2, (Value.bool false)), (3, (Value.pointer none)), (44, (Value.bool true)), (45, (Value.pointer none)), (46, (Value.pointer (some ⟨b1, 1, none⟩)))] 34 ?_
 refine Ops.go (v := (Value.string (str x.name))) (by kernel_rfl) (Runs.load (t := 9) (a := ⟨b1, 1, none⟩) (by kernel_rfl) (H4.loads (by kernel_rfl))) (d := (some 47)) (by kernel_rfl) rfl ?_
 refine og 1 [(1, (ptr b1)), (2, (Value.bool false)), (3, (Value.pointer none)), (44, (Value.bool true)), (45, (Value.pointer none)), (47, (Value.string (str x.name))), (48, (Value.pointer (some ⟨b1, 2, none⟩)))] 36 ?_
 refine Ops.go (v := (Value.string (str x.own))) (by kernel_rfl) (Runs.load (t := 9) (a := ⟨b1, 2, none⟩) (by kernel_rfl) (H4.loads (by kernel_rfl))) (d := (some 49)) (by kernel_rfl) rfl ?_
 refine Ops.call (by kernel_rfl) (d := (some 50)) (by kernel_rfl) (Hold_nil _ x.name x.own) ?_
 rintro _ w16 ⟨rfl, K15⟩
 refine ⟨_, _, rfl, rfl, ?_⟩
 replace K0 := K0.t0 K15
 replace H4 := H4.keep K15 (fun h => h)
 clear K15
 refine og 5 [(1, (ptr b1)), (2, (Value.bool false)), (3, (Value.pointer none)), (53, (Value.bool true)), (54, (Value.pointer none)), (55, (Value.pointer (some ⟨b1, 1, none⟩)))] 43 ?_
 refine Ops.go (v := (Value.string (str x.name))) (by kernel_rfl) (Runs.load (t := 9) (a := ⟨b1, 1, none⟩) (by kernel_rfl) (H4.loads (by kernel_rfl))) (d := (some 56)) (by kernel_rfl) rfl ?_
 refine og 1 [(1, (ptr b1)), (2, (Value.bool false)), (3, (Value.pointer none)), (53, (Value.bool true)), (54, (Value.pointer none)), (56, (Value.string (str x.name))), (57, (Value.pointer (some ⟨b1, 2, none⟩)))] 45 ?_
 refine Ops.go (v := (Value.string (str x.own))) (by kernel_rfl) (Runs.load (t := 9) (a := ⟨b1, 2, none⟩) (by kernel_rfl) (H4.loads (by kernel_rfl))) (d := (some 58)) (by kernel_rfl) rfl ?_
 refine Ops.call (by kernel_rfl) (d := (some 59)) (by kernel_rfl) (Free_nil _ x.name x.own) ?_
 rintro _ w18 ⟨rfl, K17⟩
 refine ⟨_, _, rfl, rfl, ?_⟩
 replace K0 := K0.t0 K17
 replace H4 := H4.keep K17 (fun h => h)
 clear K17
 refine og 5 [(1, (ptr b1)), (2, (Value.bool false)), (3, (Value.pointer none)), (62, (Value.bool true)), (63, (Value.pointer none)), (64, (Value.pointer (some ⟨b1, 1, none⟩)))] 52 ?_
 refine Ops.go (v := (Value.string (str x.name))) (by kernel_rfl) (Runs.load (t := 9) (a := ⟨b1, 1, none⟩) (by kernel_rfl) (H4.loads (by kernel_rfl))) (d := (some 65)) (by kernel_rfl) rfl ?_
 refine Ops.call (by kernel_rfl) (d := (some 66)) (by kernel_rfl) (By_nil _ x.name) ?_
 rintro _ w20 ⟨rfl, K19⟩
 refine ⟨_, _, rfl, rfl, ?_⟩
 replace K0 := K0.t0 K19
 replace H4 := H4.keep K19 (fun h => h)
 clear K19
 refine Ops.go (v := (Value.bool (([] : List UInt8) == ([] : List UInt8)))) (by kernel_rfl) (Runs.streq (t := 9) (by kernel_rfl)) (d := (some 67)) (by kernel_rfl) rfl ?_
 refine og 2 [(1, (ptr b1)), (2, (Value.bool false)), (3, (Value.pointer none)), (69, (Value.bool (([] : List UInt8) == ([] : List UInt8))))] 57 ?_
 have h21 : (([] : List UInt8) == ([] : List UInt8)) = true := by simp
 rw [h21]
 refine og 1 [(1, (ptr b1)), (2, (Value.bool false)), (3, (Value.pointer none)), (69, (Value.bool true)), (70, (Value.pointer none))] 58 ?_
 refine Ops.call (by kernel_rfl) (d := (some 71)) (by kernel_rfl) (Len_nil _) ?_
 rintro _ w23 ⟨rfl, K22⟩
 refine ⟨_, _, rfl, rfl, ?_⟩
 replace K0 := K0.t0 K22
 replace H4 := H4.keep K22 (fun h => h)
 clear K22
 refine og 4 [(1, (ptr b1)), (2, (Value.bool false)), (3, (Value.pointer none)), (74, (Value.bool true)), (75, (Value.pointer none))] 63 ?_
 refine Ops.call (by kernel_rfl) (d := (some 76)) (by kernel_rfl) (Held_nil _) ?_
 rintro _ w25 ⟨rfl, K24⟩
 refine ⟨_, _, rfl, rfl, ?_⟩
 replace K0 := K0.t0 K24
 replace H4 := H4.keep K24 (fun h => h)
 clear K24
 refine og 4 [(1, (ptr b1)), (2, (Value.bool false)), (3, (Value.pointer none)), (79, (Value.bool true)), (80, (Value.pointer none))] 68 ?_
 refine Ops.call (by kernel_rfl) (d := (some 81)) (by kernel_rfl) (Rows_nil _ (-1)) ?_
 rintro _ w27 ⟨rfl, K26⟩
 refine ⟨_, _, rfl, rfl, ?_⟩
 replace K0 := K0.t0 K26
 replace H4 := H4.keep K26 (fun h => h)
 clear K26
 refine og 6 [(1, (ptr b1)), (2, (Value.bool false)), (3, (Value.pointer none)), (85, (Value.bool true)), (86, (Value.pointer none)), (87, (agg [(Value.string ByteArray.empty), (i64 0)]))] 75 ?_
 refine Ops.call (by kernel_rfl) (d := (some 88)) (by kernel_rfl) (Put_nil _ ([] : List UInt8) 0) ?_
 rintro _ w29 ⟨rfl, K28⟩
 refine ⟨_, _, rfl, rfl, ?_⟩
 replace K0 := K0.t0 K28
 replace H4 := H4.keep K28 (fun h => h)
 clear K28
 refine og 5 [(2, (Value.bool false)), (3, (Value.pointer none)), (91, (Value.bool true)), (92, (Value.pointer none)), (93, (Value.pointer (some ⟨b1, 4, none⟩)))] 81 ?_
 refine Ops.go (v := (i64 x.slot)) (by kernel_rfl) (Runs.load (t := 3) (a := ⟨b1, 4, none⟩) (by kernel_rfl) (H4.loads (by kernel_rfl))) (d := (some 94)) (by kernel_rfl) rfl ?_
 refine Ops.call (by kernel_rfl) (d := (some 95)) (by kernel_rfl) (Drop_nil _ x.slot) ?_
 rintro _ w31 ⟨rfl, K30⟩
 refine ⟨_, _, rfl, rfl, ?_⟩
 replace K0 := K0.t0 K30
 replace H4 := H4.keep K30 (fun h => h)
 clear K30
 refine og 4 [(2, (Value.bool false)), (3, (Value.pointer none)), (98, (Value.bool true)), (99, (Value.pointer none))] 87 ?_
 refine Ops.call (by kernel_rfl) (d := (some 100)) (by kernel_rfl) (Copy_nil _) ?_
 rintro _ w33 ⟨rfl, K32⟩
 refine ⟨_, _, rfl, rfl, ?_⟩
 replace K0 := K0.t0 K32
 replace H4 := H4.keep K32 (fun h => h)
 clear K32
 refine og 4 [(2, (Value.bool false)), (3, (Value.pointer none)), (103, (Value.bool true)), (104, (Value.pointer none))] 92 ?_
 refine Ops.call (by kernel_rfl) (d := (some 105)) (by kernel_rfl) (Same_nil _) ?_
 rintro _ w35 ⟨rfl, K34⟩
 refine ⟨_, _, rfl, rfl, ?_⟩
 replace K0 := K0.t0 K34
 replace H4 := H4.keep K34 (fun h => h)
 clear K34
 refine og 3 [(2, (Value.bool false)), (3, (Value.pointer none)), (107, (Value.bool true)), (108, (Value.pointer none))] 96 ?_
 refine Ops.call (by kernel_rfl) (d := (some 109)) (by kernel_rfl) (New_calls _) ?_
 rintro _ w38 ⟨b36, mb37, rfl, K39, H40, Hm41, hb42, hb43, hb44⟩
 have lb36b1 : b1 < b36 := by have := H4.lt; omega
 have lmb37b1 : b1 < mb37 := by have := H4.lt; omega
 have nb36 : w.heap.size ≤ b36 := by have := K0.size; omega
 have nmb37 : w.heap.size ≤ mb37 := by have := K0.size; omega
 refine ⟨_, _, rfl, rfl, ?_⟩
 replace K0 := K0.t0 K39
 replace H4 := H4.keep K39 (fun h => h)
 clear K39
 refine Ops.call (by kernel_rfl) (d := (some 110)) (by kernel_rfl) (Same_nil1 _ b36) ?_
 rintro _ w46 ⟨rfl, K45⟩
 refine ⟨_, _, rfl, rfl, ?_⟩
 replace K0 := K0.t0 K45
 replace H4 := H4.keep K45 (fun h => h)
 replace H40 := H40.keep K45 (fun h => h)
 replace Hm41 := Hm41.keep K45 (fun h => h)
 clear K45
 refine og 4 [(2, (Value.bool false)), (113, (Value.bool true)), (114, (Value.pointer none))] 102 ?_
 refine Ops.call (by kernel_rfl) (d := (some 115)) (by kernel_rfl) (Bytes_nil _) ?_
 rintro _ w48 ⟨rfl, K47⟩
 refine ⟨_, _, rfl, rfl, ?_⟩
 replace K0 := K0.t0 K47
 replace H4 := H4.keep K47 (fun h => h)
 replace H40 := H40.keep K47 (fun h => h)
 replace Hm41 := Hm41.keep K47 (fun h => h)
 clear K47
 refine og 4 [(2, (Value.bool false)), (119, (Value.bool true))] 107 ?_
 refine Ops.call (by kernel_rfl) (d := (some 120)) (by kernel_rfl) (known_calls _) ?_
 rintro _ w50 ⟨rfl, K49⟩
 refine ⟨_, _, rfl, rfl, ?_⟩
 replace K0 := K0.t0 K49
 replace H4 := H4.keep K49 (fun h => h)
 replace H40 := H40.keep K49 (fun h => h)
 replace Hm41 := Hm41.keep K49 (fun h => h)
 clear K49
 refine og 2 [(2, (Value.bool true))] 110 ?_
 refine od ?_
 refine q_ret (by kernel_rfl) ?_
 refine ⟨(Value.bool true), retv_tmp rfl rfl, ?_⟩
 exact ⟨rfl, K0⟩
end Go.Proofs.YtooginpgclcldaaDoor
