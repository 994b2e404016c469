/- chapter 11: BookWrong returns true -/
import Derived.Test.YtooginpgclcldaaDoorProg
import Derived.Test.YtooginpgclcldaaDoorKJ
import Derived.Test.YtooginpgclcldaaDoorKK
import Derived.Test.YtooginpgclcldaaDoorLX
set_option linter.unusedVariables false
namespace Go.Proofs.YtooginpgclcldaaDoor
open Go.Q Go.RowKit

theorem LWrong_calls (w : World) (o : Opm) (n : List UInt8)  : Calls Tryd.prog 4 ⟨[(agg [(i64 o.kind), (Value.string (str o.frm)), (Value.string (str o.to)), (i64 o.amount), (Value.string (str o.key)), (i64 o.slot), (i64 o.shard)]), (Value.string (str n))]⟩ w (fun e w' => e = .returned (.bool true) ∧ Keeps none_ w w') := by
 have K0 : Keeps none_ w w := Keeps.refl w
 refine q_calls Tryd.func4 (by kernel_rfl) (by kernel_rfl) ?_
 refine qs ?_
 refine qg ?_
 refine Ops.new (o := rowL [(i64 o.kind), (Value.string (str o.frm)), (Value.string (str o.to)), (i64 o.amount), (Value.string (str o.key)), (i64 o.slot), (i64 o.shard)] 35) (V := fun b => (ptr b)) (by kernel_rfl) (d := (some 2)) (by kernel_rfl) (fun b => rfl) (fun b1 w2 hb3 H4 K5 hs6 => ?_)
 have nb1 : w.heap.size ≤ b1 := by have := K0.size; omega
 replace K0 := K0.t0 K5
 clear K5 hs6
 refine og 1 [(1, (Value.string (str n))), (2, (ptr b1)), (4, (Value.bool false))] 2 ?_
 refine od ?_
 refine qs ?_
 refine q_draw (fun wz => Keeps none_ w2 wz) 16 (by kernel_rfl) (by kernel_rfl) (by kernel_rfl) (fun w7 K8 _ _ => ⟨K8, ?_⟩)
 replace K0 := K0.t0 K8
 replace H4 := H4.keep K8 (fun h => h)
 refine Dr.strong (S' := (fun wz => Keeps none_ w7 wz)) (Keeps.refl w7) (fun wz hx => K8.trans hx (fun i _ h => h) (fun _ _ h => h)) ?_
 clear K8
 refine Dr.take (i := 0) (v := (agg [(i64 o.kind), (Value.string (str o.frm)), (Value.string (str o.to)), (i64 o.amount), (Value.string (str o.key)), (i64 o.slot), (i64 o.shard)])) (by kernel_rfl) (by kernel_rfl) (fun wz hS => Runs.load (t := 35) (a := ⟨b1, 0, none⟩) (by kernel_rfl) ((H4.keep hS (fun h => h)).loads (by kernel_rfl))) (d := (some 5)) (by kernel_rfl) rfl ?_
 refine Dr.take (i := 2) (v := (agg [(i64 o.kind), (Value.string (str o.frm)), (Value.string (str o.to)), (i64 o.amount), (Value.string (str o.key)), (i64 o.slot), (i64 o.shard)])) (by kernel_rfl) (by kernel_rfl) (fun wz hS => Runs.load (t := 35) (a := ⟨b1, 0, none⟩) (by kernel_rfl) ((H4.keep hS (fun h => h)).loads (by kernel_rfl))) (d := (some 7)) (by kernel_rfl) rfl ?_
 refine Dr.call (i := 1) (by kernel_rfl) (by kernel_rfl) (d := (some 6)) (by kernel_rfl) (fun _ => Wrong_calls _ o) ?_
 rintro _ w10 ⟨rfl, K9⟩
 replace K0 := K0.t0 K9
 replace H4 := H4.keep K9 (fun h => h)
 refine ⟨_, _, rfl, rfl, K9, ?_⟩
 refine Dr.strong (S' := (fun wz => Keeps none_ w10 wz)) (Keeps.refl w10) (fun wz hx => K9.trans hx (fun i _ h => h) (fun _ _ h => h)) ?_
 clear K9
 refine Dr.call (i := 3) (by kernel_rfl) (by kernel_rfl) (d := (some 8)) (by kernel_rfl) (fun _ => RWrong_calls _ o) ?_
 rintro _ w12 ⟨rfl, K11⟩
 replace K0 := K0.t0 K11
 replace H4 := H4.keep K11 (fun h => h)
 refine ⟨_, _, rfl, rfl, K11, ?_⟩
 refine Dr.strong (S' := (fun wz => Keeps none_ w12 wz)) (Keeps.refl w12) (fun wz hx => K11.trans hx (fun i _ h => h) (fun _ _ h => h)) ?_
 clear K11
 refine Dr.takes (fuel' := 10) (is' := [5, 4, 3, 1, 2, 0]) [4, 5] [(1, (Value.string (str n))), (4, (Value.bool false)), (10, (Value.bool ((wrongE o) == (wrongE o))))] (by kernel_rfl) rfl (by kernel_rfl) ?_
 have h13 : ((wrongE o) == (wrongE o)) = true := by simp
 rw [h13]
 refine Dr.takes (fuel' := 8) (is' := [8, 6, 5, 4, 3, 1, 2, 0]) [6, 8] [(4, (Value.bool false)), (10, (Value.bool true)), (11, (Value.string (str n))), (13, (Value.string (str n)))] (by kernel_rfl) rfl (by kernel_rfl) ?_
 refine Dr.call (i := 7) (by kernel_rfl) (by kernel_rfl) (d := (some 12)) (by kernel_rfl) (fun _ => Name_calls _ n) ?_
 rintro _ w15 ⟨rfl, K14⟩
 replace K0 := K0.t0 K14
 replace H4 := H4.keep K14 (fun h => h)
 refine ⟨_, _, rfl, rfl, K14, ?_⟩
 refine Dr.strong (S' := (fun wz => Keeps none_ w15 wz)) (Keeps.refl w15) (fun wz hx => K14.trans hx (fun i _ h => h) (fun _ _ h => h)) ?_
 clear K14
 refine Dr.call (i := 9) (by kernel_rfl) (by kernel_rfl) (d := (some 14)) (by kernel_rfl) (fun _ => RName_calls _ n) ?_
 rintro _ w17 ⟨rfl, K16⟩
 replace K0 := K0.t0 K16
 replace H4 := H4.keep K16 (fun h => h)
 refine ⟨_, _, rfl, rfl, K16, ?_⟩
 refine Dr.strong (S' := (fun wz => Keeps none_ w17 wz)) (Keeps.refl w17) (fun wz hx => K16.trans hx (fun i _ h => h) (fun _ _ h => h)) ?_
 clear K16
 refine Dr.split (nameOk n) (fun h18 => ?_) (fun h18 => ?_)
 ·rw [h18]
  have p19 : (nameOk n) = true := h18
  refine Dr.takes (fuel' := 3) (is' := [12, 11, 10, 9, 7, 8, 6, 5, 4, 3, 1, 2, 0]) [10, 11, 12] [(4, (Value.bool false)), (17, (Value.bool true))] (by kernel_rfl) rfl (by kernel_rfl) ?_
  refine Dr.call (i := 13) (by kernel_rfl) (by kernel_rfl) (d := (some 18)) (by kernel_rfl) (fun _ => known_calls _) ?_
  rintro _ w21 ⟨rfl, K20⟩
  replace K0 := K0.t0 K20
  replace H4 := H4.keep K20 (fun h => h)
  refine ⟨_, _, rfl, rfl, K20, ?_⟩
  refine Dr.strong (S' := (fun wz => Keeps none_ w21 wz)) (Keeps.refl w21) (fun wz hx => K20.trans hx (fun i _ h => h) (fun _ _ h => h)) ?_
  clear K20
  refine Dr.takes (fuel' := 0) (is' := [15, 14, 13, 12, 11, 10, 9, 7, 8, 6, 5, 4, 3, 1, 2, 0]) [14, 15] [(4, (Value.bool true))] (by kernel_rfl) rfl (by kernel_rfl) ?_
  refine Dr.done (by kernel_rfl) ?_
  refine q_ret (by kernel_rfl) ?_
  refine ⟨(Value.bool true), retv_tmp rfl rfl, ?_⟩
  exact ⟨rfl, K0⟩
 ·rw [h18]
  have p22 : (nameOk n) = false := h18
  refine Dr.takes (fuel' := 3) (is' := [12, 11, 10, 9, 7, 8, 6, 5, 4, 3, 1, 2, 0]) [10, 11, 12] [(4, (Value.bool false)), (17, (Value.bool true))] (by kernel_rfl) rfl (by kernel_rfl) ?_
  refine Dr.call (i := 13) (by kernel_rfl) (by kernel_rfl) (d := (some 18)) (by kernel_rfl) (fun _ => known_calls _) ?_
  rintro _ w24 ⟨rfl, K23⟩
  replace K0 := K0.t0 K23
  replace H4 := H4.keep K23 (fun h => h)
  refine ⟨_, _, rfl, rfl, K23, ?_⟩
  refine Dr.strong (S' := (fun wz => Keeps none_ w24 wz)) (Keeps.refl w24) (fun wz hx => K23.trans hx (fun i _ h => h) (fun _ _ h => h)) ?_
  clear K23
  refine Dr.takes (fuel' := 0) (is' := [15, 14, 13, 12, 11, 10, 9, 7, 8, 6, 5, 4, 3, 1, 2, 0]) [14, 15] [(4, (Value.bool true))] (by kernel_rfl) rfl (by kernel_rfl) ?_
  refine Dr.done (by kernel_rfl) ?_
  refine q_ret (by kernel_rfl) ?_
  refine ⟨(Value.bool true), retv_tmp rfl rfl, ?_⟩
  exact ⟨rfl, K0⟩
end Go.Proofs.YtooginpgclcldaaDoor
