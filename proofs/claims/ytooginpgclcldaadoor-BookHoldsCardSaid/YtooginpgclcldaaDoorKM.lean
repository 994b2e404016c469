/- a book that is not there -/
import Derived.Test.YtooginpgclcldaaDoorProg
import Derived.Test.YtooginpgclcldaaDoorKJ
import Derived.Test.YtooginpgclcldaaDoorKG
import Derived.Test.YtooginpgclcldaaDoorLX
set_option linter.unusedVariables false
namespace Go.Proofs.YtooginpgclcldaaDoor
open Go.Q Go.RowKit

theorem Get_nil (w : World) (n : List UInt8)  : Calls Tryd.prog 14 ⟨[(Value.pointer none), (Value.string (str n))]⟩ w (fun e w' => e = .returned (Value.tuple #[(i64 0), (i64 2)]) ∧ Keeps none_ w w') := by
 have K0 : Keeps none_ w w := Keeps.refl w
 refine q_calls Tryd.func14 (by kernel_rfl) (by kernel_rfl) ?_
 refine qs ?_
 refine qg ?_
 refine og 2 [(0, (Value.pointer none)), (1, (Value.string (str n))), (4, (i64 0)), (5, (i64 0))] 2 ?_
 refine od ?_
 refine qs ?_
 refine qs ?_
 refine qg ?_
 refine og 2 [(0, (Value.pointer none)), (1, (Value.string (str n))), (4, (i64 0)), (5, (i64 0)), (9, (Value.bool true))] 2 ?_
 refine od ?_
 refine q_then (o := .tmp 9) (by kernel_rfl) rfl ?_
 refine qs ?_
 refine qg ?_
 refine og 2 [(0, (Value.pointer none)), (1, (Value.string (str n))), (4, (i64 0)), (5, (i64 2))] 2 ?_
 refine od ?_
 refine q_ret (by kernel_rfl) ?_
 refine ⟨(Value.tuple #[(i64 0), (i64 2)]), retv_tmp2 rfl rfl rfl, ?_⟩
 exact ⟨rfl, K0⟩

theorem By_nil (w : World) (n : List UInt8)  : Calls Tryd.prog 26 ⟨[(Value.pointer none), (Value.string (str n))]⟩ w (fun e w' => e = .returned (Value.string (str ([] : List UInt8))) ∧ Keeps none_ w w') := by
 have K0 : Keeps none_ w w := Keeps.refl w
 refine q_calls Tryd.func26 (by kernel_rfl) (by kernel_rfl) ?_
 refine qs ?_
 refine qg ?_
 refine og 1 [(0, (Value.pointer none)), (1, (Value.string (str n))), (4, (Value.string (str ([] : List UInt8))))] 1 ?_
 refine od ?_
 refine qs ?_
 refine qs ?_
 refine qg ?_
 refine og 2 [(0, (Value.pointer none)), (1, (Value.string (str n))), (4, (Value.string (str ([] : List UInt8)))), (6, (Value.bool true))] 2 ?_
 refine od ?_
 refine q_then (o := .tmp 6) (by kernel_rfl) rfl ?_
 refine qs ?_
 refine qg ?_
 refine og 1 [(0, (Value.pointer none)), (1, (Value.string (str n))), (4, (Value.string (str ([] : List UInt8))))] 1 ?_
 refine od ?_
 refine q_ret (by kernel_rfl) ?_
 refine ⟨(Value.string (str ([] : List UInt8))), retv_tmp rfl rfl, ?_⟩
 exact ⟨rfl, K0⟩

theorem Len_nil (w : World)   : Calls Tryd.prog 23 ⟨[(Value.pointer none)]⟩ w (fun e w' => e = .returned (i64 0) ∧ Keeps none_ w w') := by
 have K0 : Keeps none_ w w := Keeps.refl w
 refine q_calls Tryd.func23 (by kernel_rfl) (by kernel_rfl) ?_
 refine qs ?_
 refine qg ?_
 refine og 1 [(0, (Value.pointer none)), (2, (i64 0))] 1 ?_
 refine od ?_
 refine qs ?_
 refine qs ?_
 refine qg ?_
 refine og 2 [(0, (Value.pointer none)), (2, (i64 0)), (4, (Value.bool true))] 2 ?_
 refine od ?_
 refine q_then (o := .tmp 4) (by kernel_rfl) rfl ?_
 refine qs ?_
 refine qg ?_
 refine og 1 [(0, (Value.pointer none)), (2, (i64 0))] 1 ?_
 refine od ?_
 refine q_ret (by kernel_rfl) ?_
 refine ⟨(i64 0), retv_tmp rfl rfl, ?_⟩
 exact ⟨rfl, K0⟩

theorem Rows_nil (w : World) (k : Int)  : Calls Tryd.prog 20 ⟨[(Value.pointer none), (i64 k)]⟩ w (fun e w' => e = .returned (Value.slice none 0 0) ∧ Keeps none_ w w') := by
 have K0 : Keeps none_ w w := Keeps.refl w
 refine q_calls Tryd.func20 (by kernel_rfl) (by kernel_rfl) ?_
 refine qs ?_
 refine qg ?_
 refine og 1 [(0, (Value.pointer none)), (1, (i64 k)), (4, (Value.slice none 0 0))] 1 ?_
 refine od ?_
 refine qs ?_
 refine qs ?_
 refine qg ?_
 refine og 2 [(0, (Value.pointer none)), (1, (i64 k)), (4, (Value.slice none 0 0)), (9, (Value.bool true))] 2 ?_
 refine od ?_
 refine q_then (o := .tmp 9) (by kernel_rfl) rfl ?_
 refine qs ?_
 refine qg ?_
 refine og 1 [(0, (Value.pointer none)), (1, (i64 k)), (4, (Value.slice none 0 0))] 1 ?_
 refine od ?_
 refine q_ret (by kernel_rfl) ?_
 refine ⟨(Value.slice none 0 0), retv_tmp rfl rfl, ?_⟩
 exact ⟨rfl, K0⟩

theorem Put_nil (w : World) (n : List UInt8) (k : Int)  : Calls Tryd.prog 10 ⟨[(Value.pointer none), (agg [(Value.string (str n)), (i64 k)])]⟩ w (fun e w' => e = .returned (i64 2) ∧ Keeps none_ w w') := by
 have K0 : Keeps none_ w w := Keeps.refl w
 refine q_calls Tryd.func10 (by kernel_rfl) (by kernel_rfl) ?_
 refine qs ?_
 refine qg ?_
 refine Ops.new (o := rowL [(Value.string (str n)), (i64 k)] 27) (V := fun b => (ptr b)) (by kernel_rfl) (d := (some 3)) (by kernel_rfl) (fun b => rfl) (fun b1 w2 hb3 H4 K5 hs6 => ?_)
 have nb1 : w.heap.size ≤ b1 := by have := K0.size; omega
 replace K0 := K0.t0 K5
 clear K5 hs6
 refine og 1 [(0, (Value.pointer none)), (3, (ptr b1)), (4, (i64 0))] 2 ?_
 refine od ?_
 refine qs ?_
 refine qs ?_
 refine qg ?_
 refine og 2 [(0, (Value.pointer none)), (3, (ptr b1)), (4, (i64 0)), (8, (Value.bool true))] 2 ?_
 refine od ?_
 refine q_then (o := .tmp 8) (by kernel_rfl) rfl ?_
 refine qs ?_
 refine qg ?_
 refine og 1 [(0, (Value.pointer none)), (3, (ptr b1)), (4, (i64 2))] 1 ?_
 refine od ?_
 refine q_ret (by kernel_rfl) ?_
 refine ⟨(i64 2), retv_tmp rfl rfl, ?_⟩
 exact ⟨rfl, K0⟩

theorem Open_nil (w : World) (n : List UInt8)  : Calls Tryd.prog 19 ⟨[(Value.pointer none), (Value.string (str n))]⟩ w (fun e w' => e = .returned (i64 2) ∧ Keeps none_ w w') := by
 have K0 : Keeps none_ w w := Keeps.refl w
 refine q_calls Tryd.func19 (by kernel_rfl) (by kernel_rfl) ?_
 refine qs ?_
 refine qg ?_
 refine og 1 [(0, (Value.pointer none)), (1, (Value.string (str n))), (4, (i64 0))] 1 ?_
 refine od ?_
 refine qs ?_
 refine qg ?_
 refine og 3 [(4, (i64 0)), (5, (Value.pointer none)), (7, (agg [(Value.string (str n)), (i64 0)]))] 3 ?_
 refine Ops.call (by kernel_rfl) (d := (some 8)) (by kernel_rfl) (Put_nil _ n 0) ?_
 rintro _ w2 ⟨rfl, K1⟩
 refine ⟨_, _, rfl, rfl, ?_⟩
 replace K0 := K0.t0 K1
 clear K1
 refine og 1 [(4, (i64 2))] 5 ?_
 refine od ?_
 refine q_ret (by kernel_rfl) ?_
 refine ⟨(i64 2), retv_tmp rfl rfl, ?_⟩
 exact ⟨rfl, K0⟩

theorem Drop_nil (w : World) (k : Int)  : Calls Tryd.prog 21 ⟨[(Value.pointer none), (i64 k)]⟩ w (fun e w' => e = .returned (i64 0) ∧ Keeps none_ w w') := by
 have K0 : Keeps none_ w w := Keeps.refl w
 refine q_calls Tryd.func21 (by kernel_rfl) (by kernel_rfl) ?_
 refine qs ?_
 refine qg ?_
 refine og 1 [(0, (Value.pointer none)), (1, (i64 k)), (4, (i64 0))] 1 ?_
 refine od ?_
 refine qs ?_
 refine qs ?_
 refine qg ?_
 refine og 6 [(0, (Value.pointer none)), (1, (i64 k)), (4, (i64 0)), (13, (Value.bool true))] 6 ?_
 refine od ?_
 refine q_then (o := .tmp 13) (by kernel_rfl) rfl ?_
 refine qs ?_
 refine qg ?_
 refine og 1 [(0, (Value.pointer none)), (1, (i64 k)), (4, (i64 0))] 1 ?_
 refine od ?_
 refine q_ret (by kernel_rfl) ?_
 refine ⟨(i64 0), retv_tmp rfl rfl, ?_⟩
 exact ⟨rfl, K0⟩

theorem Copy_nil (w : World)   : Calls Tryd.prog 29 ⟨[(Value.pointer none)]⟩ w (fun e w' => e = .returned (Value.pointer none) ∧ Keeps none_ w w') := by
 have K0 : Keeps none_ w w := Keeps.refl w
 refine q_calls Tryd.func29 (by kernel_rfl) (by kernel_rfl) ?_
 refine qs ?_
 refine qg ?_
 refine og 1 [(0, (Value.pointer none)), (2, (Value.pointer none))] 1 ?_
 refine od ?_
 refine qs ?_
 refine qs ?_
 refine qg ?_
 refine og 2 [(0, (Value.pointer none)), (2, (Value.pointer none)), (4, (Value.bool true))] 2 ?_
 refine od ?_
 refine q_then (o := .tmp 4) (by kernel_rfl) rfl ?_
 refine qs ?_
 refine qg ?_
 refine og 1 [(0, (Value.pointer none)), (2, (Value.pointer none))] 1 ?_
 refine od ?_
 refine q_ret (by kernel_rfl) ?_
 refine ⟨(Value.pointer none), retv_tmp rfl rfl, ?_⟩
 exact ⟨rfl, K0⟩

theorem Bytes_nil (w : World)   : Calls Tryd.prog 31 ⟨[(Value.pointer none)]⟩ w (fun e w' => e = .returned (Value.slice none 0 0) ∧ Keeps none_ w w') := by
 have K0 : Keeps none_ w w := Keeps.refl w
 refine q_calls Tryd.func31 (by kernel_rfl) (by kernel_rfl) ?_
 refine qs ?_
 refine qg ?_
 refine og 1 [(0, (Value.pointer none)), (2, (Value.slice none 0 0))] 1 ?_
 refine od ?_
 refine qs ?_
 refine qs ?_
 refine qg ?_
 refine og 2 [(0, (Value.pointer none)), (2, (Value.slice none 0 0)), (8, (Value.bool true))] 2 ?_
 refine od ?_
 refine q_then (o := .tmp 8) (by kernel_rfl) rfl ?_
 refine qs ?_
 refine qg ?_
 refine og 1 [(0, (Value.pointer none)), (2, (Value.slice none 0 0))] 1 ?_
 refine od ?_
 refine q_ret (by kernel_rfl) ?_
 refine ⟨(Value.slice none 0 0), retv_tmp rfl rfl, ?_⟩
 exact ⟨rfl, K0⟩

theorem Held_nil (w : World)   : Calls Tryd.prog 28 ⟨[(Value.pointer none)]⟩ w (fun e w' => e = .returned (i64 0) ∧ Keeps none_ w w') := by
 have K0 : Keeps none_ w w := Keeps.refl w
 refine q_calls Tryd.func28 (by kernel_rfl) (by kernel_rfl) ?_
 refine qs ?_
 refine qg ?_
 refine og 1 [(0, (Value.pointer none)), (2, (i64 0))] 1 ?_
 refine od ?_
 refine qs ?_
 refine qg ?_
 refine Ops.new (o := rowL [(i64 0)] 3) (V := fun b => (ptr b)) (by kernel_rfl) (d := (some 3)) (by kernel_rfl) (fun b => rfl) (fun b1 w2 hb3 H4 K5 hs6 => ?_)
 have nb1 : w.heap.size ≤ b1 := by have := K0.size; omega
 replace K0 := K0.t0 K5
 clear K5 hs6
 refine Ops.put (t := 3) (b := b1) (off := 0) (v := (i64 0)) (ys := [(i64 0)]) (by kernel_rfl) (by kernel_rfl) H4 (by kernel_rfl) (d := none) (by kernel_rfl) rfl (fun w7 H8 K9 => ?_)
 clear H4
 replace K0 := K0.trans K9 (U := none_) (fun i h1 h2 => h2) (fun i h1 h2 => by have h2 : i = b1 := h2; exfalso; omega)
 clear K9
 refine od ?_
 refine qs ?_
 refine qs ?_
 refine qg ?_
 refine og 2 [(0, (Value.pointer none)), (2, (i64 0)), (3, (ptr b1)), (6, (Value.bool false))] 2 ?_
 refine od ?_
 refine q_else (o := .tmp 6) (by kernel_rfl) rfl ?_
 refine q_skip (by kernel_rfl) ?_
 refine qs ?_
 refine qg ?_
 refine Ops.go (v := (i64 0)) (by kernel_rfl) (Runs.load (t := 3) (a := ⟨b1, 0, none⟩) (by kernel_rfl) (H8.loads (by kernel_rfl))) (d := (some 20)) (by kernel_rfl) rfl ?_
 refine og 1 [(2, (i64 0))] 2 ?_
 refine od ?_
 refine q_ret (by kernel_rfl) ?_
 refine ⟨(i64 0), retv_tmp rfl rfl, ?_⟩
 exact ⟨rfl, K0⟩

theorem change_nil (w : World) (n : List UInt8) (F : Value)  : Calls Tryd.prog 32 ⟨[(Value.pointer none), (Value.string (str n)), F]⟩ w (fun e w' => e = .returned (i64 2) ∧ Keeps none_ w w') := by
 have K0 : Keeps none_ w w := Keeps.refl w
 refine q_calls Tryd.func32 (by kernel_rfl) (by kernel_rfl) ?_
 refine qs ?_
 refine qg ?_
 refine og 1 [(0, (Value.pointer none)), (1, (Value.string (str n))), (2, F), (6, (i64 0))] 1 ?_
 refine od ?_
 refine qs ?_
 refine qs ?_
 refine qg ?_
 refine og 2 [(0, (Value.pointer none)), (1, (Value.string (str n))), (2, F), (6, (i64 0)), (11, (Value.bool true))] 2 ?_
 refine od ?_
 refine q_then (o := .tmp 11) (by kernel_rfl) rfl ?_
 refine qs ?_
 refine qg ?_
 refine og 1 [(0, (Value.pointer none)), (1, (Value.string (str n))), (2, F), (6, (i64 2))] 1 ?_
 refine od ?_
 refine q_ret (by kernel_rfl) ?_
 refine ⟨(i64 2), retv_tmp rfl rfl, ?_⟩
 exact ⟨rfl, K0⟩

theorem Add_nil (w : World) (n : List UInt8) (k : Int)  : Calls Tryd.prog 13 ⟨[(Value.pointer none), (Value.string (str n)), (i64 k)]⟩ w (fun e w' => e = .returned (i64 2) ∧ Keeps none_ w w') := by
 have K0 : Keeps none_ w w := Keeps.refl w
 refine q_calls Tryd.func13 (by kernel_rfl) (by kernel_rfl) ?_
 refine qs ?_
 refine qg ?_
 refine Ops.new (o := rowL [(i64 k)] 2) (V := fun b => (ptr b)) (by kernel_rfl) (d := (some 5)) (by kernel_rfl) (fun b => rfl) (fun b1 w2 hb3 H4 K5 hs6 => ?_)
 have nb1 : w.heap.size ≤ b1 := by have := K0.size; omega
 replace K0 := K0.t0 K5
 clear K5 hs6
 refine og 1 [(0, (Value.pointer none)), (1, (Value.string (str n))), (5, (ptr b1)), (6, (i64 0))] 2 ?_
 refine od ?_
 refine qs ?_
 refine qg ?_
 refine og 3 [(6, (i64 0)), (7, (Value.pointer none)), (8, (Value.string (str n))), (9, (Value.func (Fn.func 34) ⟨[]⟩ ⟨[(ptr b1)]⟩))] 3 ?_
 refine Ops.call (by kernel_rfl) (d := (some 10)) (by kernel_rfl) (change_nil _ n (Value.func (Fn.func 34) ⟨[]⟩ ⟨[(ptr b1)]⟩)) ?_
 rintro _ w8 ⟨rfl, K7⟩
 refine ⟨_, _, rfl, rfl, ?_⟩
 replace K0 := K0.t0 K7
 replace H4 := H4.keep K7 (fun h => h)
 clear K7
 refine og 1 [(6, (i64 2))] 5 ?_
 refine od ?_
 refine q_ret (by kernel_rfl) ?_
 refine ⟨(i64 2), retv_tmp rfl rfl, ?_⟩
 exact ⟨rfl, K0⟩

theorem Take_nil (w : World) (n : List UInt8) (k : Int)  : Calls Tryd.prog 12 ⟨[(Value.pointer none), (Value.string (str n)), (i64 k)]⟩ w (fun e w' => e = .returned (i64 2) ∧ Keeps none_ w w') := by
 have K0 : Keeps none_ w w := Keeps.refl w
 refine q_calls Tryd.func12 (by kernel_rfl) (by kernel_rfl) ?_
 refine qs ?_
 refine qg ?_
 refine Ops.new (o := rowL [(i64 k)] 2) (V := fun b => (ptr b)) (by kernel_rfl) (d := (some 5)) (by kernel_rfl) (fun b => rfl) (fun b1 w2 hb3 H4 K5 hs6 => ?_)
 have nb1 : w.heap.size ≤ b1 := by have := K0.size; omega
 replace K0 := K0.t0 K5
 clear K5 hs6
 refine og 1 [(0, (Value.pointer none)), (1, (Value.string (str n))), (5, (ptr b1)), (6, (i64 0))] 2 ?_
 refine od ?_
 refine qs ?_
 refine qg ?_
 refine og 3 [(6, (i64 0)), (7, (Value.pointer none)), (8, (Value.string (str n))), (9, (Value.func (Fn.func 33) ⟨[]⟩ ⟨[(ptr b1)]⟩))] 3 ?_
 refine Ops.call (by kernel_rfl) (d := (some 10)) (by kernel_rfl) (change_nil _ n (Value.func (Fn.func 33) ⟨[]⟩ ⟨[(ptr b1)]⟩)) ?_
 rintro _ w8 ⟨rfl, K7⟩
 refine ⟨_, _, rfl, rfl, ?_⟩
 replace K0 := K0.t0 K7
 replace H4 := H4.keep K7 (fun h => h)
 clear K7
 refine og 1 [(6, (i64 2))] 5 ?_
 refine od ?_
 refine q_ret (by kernel_rfl) ?_
 refine ⟨(i64 2), retv_tmp rfl rfl, ?_⟩
 exact ⟨rfl, K0⟩

theorem Hold_nil (w : World) (n : List UInt8) (x : List UInt8)  : Calls Tryd.prog 24 ⟨[(Value.pointer none), (Value.string (str n)), (Value.string (str x))]⟩ w (fun e w' => e = .returned (i64 2) ∧ Keeps none_ w w') := by
 have K0 : Keeps none_ w w := Keeps.refl w
 refine q_calls Tryd.func24 (by kernel_rfl) (by kernel_rfl) ?_
 refine qs ?_
 refine qg ?_
 refine Ops.new (o := rowL [(Value.string (str x))] 9) (V := fun b => (ptr b)) (by kernel_rfl) (d := (some 5)) (by kernel_rfl) (fun b => rfl) (fun b1 w2 hb3 H4 K5 hs6 => ?_)
 have nb1 : w.heap.size ≤ b1 := by have := K0.size; omega
 replace K0 := K0.t0 K5
 clear K5 hs6
 refine og 1 [(0, (Value.pointer none)), (1, (Value.string (str n))), (5, (ptr b1)), (6, (i64 0))] 2 ?_
 refine od ?_
 refine qs ?_
 refine qg ?_
 refine og 3 [(6, (i64 0)), (7, (Value.pointer none)), (8, (Value.string (str n))), (9, (Value.func (Fn.func 39) ⟨[]⟩ ⟨[(ptr b1)]⟩))] 3 ?_
 refine Ops.call (by kernel_rfl) (d := (some 10)) (by kernel_rfl) (change_nil _ n (Value.func (Fn.func 39) ⟨[]⟩ ⟨[(ptr b1)]⟩)) ?_
 rintro _ w8 ⟨rfl, K7⟩
 refine ⟨_, _, rfl, rfl, ?_⟩
 replace K0 := K0.t0 K7
 replace H4 := H4.keep K7 (fun h => h)
 clear K7
 refine og 1 [(6, (i64 2))] 5 ?_
 refine od ?_
 refine q_ret (by kernel_rfl) ?_
 refine ⟨(i64 2), retv_tmp rfl rfl, ?_⟩
 exact ⟨rfl, K0⟩

theorem Free_nil (w : World) (n : List UInt8) (x : List UInt8)  : Calls Tryd.prog 27 ⟨[(Value.pointer none), (Value.string (str n)), (Value.string (str x))]⟩ w (fun e w' => e = .returned (i64 2) ∧ Keeps none_ w w') := by
 have K0 : Keeps none_ w w := Keeps.refl w
 refine q_calls Tryd.func27 (by kernel_rfl) (by kernel_rfl) ?_
 refine qs ?_
 refine qg ?_
 refine Ops.new (o := rowL [(Value.string (str x))] 9) (V := fun b => (ptr b)) (by kernel_rfl) (d := (some 5)) (by kernel_rfl) (fun b => rfl) (fun b1 w2 hb3 H4 K5 hs6 => ?_)
 have nb1 : w.heap.size ≤ b1 := by have := K0.size; omega
 replace K0 := K0.t0 K5
 clear K5 hs6
 refine og 1 [(0, (Value.pointer none)), (1, (Value.string (str n))), (5, (ptr b1)), (6, (i64 0))] 2 ?_
 refine od ?_
 refine qs ?_
 refine qg ?_
 refine og 3 [(6, (i64 0)), (7, (Value.pointer none)), (8, (Value.string (str n))), (9, (Value.func (Fn.func 40) ⟨[]⟩ ⟨[(ptr b1)]⟩))] 3 ?_
 refine Ops.call (by kernel_rfl) (d := (some 10)) (by kernel_rfl) (change_nil _ n (Value.func (Fn.func 40) ⟨[]⟩ ⟨[(ptr b1)]⟩)) ?_
 rintro _ w8 ⟨rfl, K7⟩
 refine ⟨_, _, rfl, rfl, ?_⟩
 replace K0 := K0.t0 K7
 replace H4 := H4.keep K7 (fun h => h)
 clear K7
 refine og 1 [(6, (i64 2))] 5 ?_
 refine od ?_
 refine q_ret (by kernel_rfl) ?_
 refine ⟨(i64 2), retv_tmp rfl rfl, ?_⟩
 exact ⟨rfl, K0⟩

theorem Same_nil (w : World)   : Calls Tryd.prog 30 ⟨[(Value.pointer none), (Value.pointer none)]⟩ w (fun e w' => e = .returned (Value.bool true) ∧ Keeps none_ w w') := by
 have K0 : Keeps none_ w w := Keeps.refl w
 refine q_calls Tryd.func30 (by kernel_rfl) (by kernel_rfl) ?_
 refine qs ?_
 refine qg ?_
 refine og 1 [(0, (Value.pointer none)), (1, (Value.pointer none)), (4, (Value.bool false))] 1 ?_
 refine od ?_
 refine qs ?_
 refine qs ?_
 refine qg ?_
 refine og 6 [(0, (Value.pointer none)), (1, (Value.pointer none)), (4, (Value.bool false)), (10, (Value.bool true))] 6 ?_
 refine od ?_
 refine q_then (o := .tmp 10) (by kernel_rfl) rfl ?_
 refine qs ?_
 refine qg ?_
 refine og 4 [(0, (Value.pointer none)), (1, (Value.pointer none)), (4, (Value.bool true))] 4 ?_
 refine od ?_
 refine q_ret (by kernel_rfl) ?_
 refine ⟨(Value.bool true), retv_tmp rfl rfl, ?_⟩
 exact ⟨rfl, K0⟩

theorem Same_nil1 (w : World) (b : Nat)  : Calls Tryd.prog 30 ⟨[(Value.pointer none), (ptr b)]⟩ w (fun e w' => e = .returned (Value.bool false) ∧ Keeps none_ w w') := by
 have K0 : Keeps none_ w w := Keeps.refl w
 refine q_calls Tryd.func30 (by kernel_rfl) (by kernel_rfl) ?_
 refine qs ?_
 refine qg ?_
 refine og 1 [(0, (Value.pointer none)), (1, (ptr b)), (4, (Value.bool false))] 1 ?_
 refine od ?_
 refine qs ?_
 refine qs ?_
 refine qg ?_
 refine og 6 [(0, (Value.pointer none)), (1, (ptr b)), (4, (Value.bool false)), (10, (Value.bool true))] 6 ?_
 refine od ?_
 refine q_then (o := .tmp 10) (by kernel_rfl) rfl ?_
 refine qs ?_
 refine qg ?_
 refine og 4 [(0, (Value.pointer none)), (1, (ptr b)), (4, (Value.bool false))] 4 ?_
 refine od ?_
 refine q_ret (by kernel_rfl) ?_
 refine ⟨(Value.bool false), retv_tmp rfl rfl, ?_⟩
 exact ⟨rfl, K0⟩
end Go.Proofs.YtooginpgclcldaaDoor
