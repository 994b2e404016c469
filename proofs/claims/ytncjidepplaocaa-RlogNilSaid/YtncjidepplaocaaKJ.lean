/- a log that is not there -/
import Derived.Test.YtncjidepplaocaaProg
import Derived.Test.YtncjidepplaocaaKA
import Derived.Test.YtncjidepplaocaaLV
import Derived.Test.YtncjidepplaocaaLX
set_option linter.unusedVariables false
namespace Go.Proofs.Ytncjidepplaocaa
open Go.Q Go.RowKit

theorem Base_nil (w : World)   : Calls Try.prog 22 ⟨[(Value.pointer none)]⟩ w (fun e w' => e = .returned (Value.tuple #[(i64 0), (i64 0)]) ∧ Keeps none_ w w') := by
 have K0 : Keeps none_ w w := Keeps.refl w
 refine q_calls Try.func22 (by kernel_rfl) (by kernel_rfl) ?_
 refine qs ?_
 refine qg ?_
 refine og 2 [(0, (Value.pointer none)), (2, (i64 0)), (3, (i64 0))] 2 ?_
 refine od ?_
 refine qs ?_
 refine qs ?_
 refine qg ?_
 refine og 2 [(0, (Value.pointer none)), (2, (i64 0)), (3, (i64 0)), (5, (Value.bool true))] 2 ?_
 refine od ?_
 refine q_then (o := .tmp 5) (by kernel_rfl) rfl ?_
 refine qs ?_
 refine qg ?_
 refine og 2 [(0, (Value.pointer none)), (2, (i64 0)), (3, (i64 0))] 2 ?_
 refine od ?_
 refine q_ret (by kernel_rfl) ?_
 refine ⟨(Value.tuple #[(i64 0), (i64 0)]), retv_tmp2 rfl rfl rfl, ?_⟩
 exact ⟨rfl, K0⟩

theorem Last_nil (w : World)   : Calls Try.prog 16 ⟨[(Value.pointer none)]⟩ w (fun e w' => e = .returned (Value.tuple #[(i64 0), (i64 0)]) ∧ Keeps none_ w w') := by
 have K0 : Keeps none_ w w := Keeps.refl w
 refine q_calls Try.func16 (by kernel_rfl) (by kernel_rfl) ?_
 refine qs ?_
 refine qg ?_
 refine og 2 [(0, (Value.pointer none)), (2, (i64 0)), (3, (i64 0))] 2 ?_
 refine od ?_
 refine qs ?_
 refine qs ?_
 refine qg ?_
 refine og 2 [(0, (Value.pointer none)), (2, (i64 0)), (3, (i64 0)), (6, (Value.bool true))] 2 ?_
 refine od ?_
 refine q_then (o := .tmp 6) (by kernel_rfl) rfl ?_
 refine qs ?_
 refine qg ?_
 refine og 2 [(0, (Value.pointer none)), (2, (i64 0)), (3, (i64 0))] 2 ?_
 refine od ?_
 refine q_ret (by kernel_rfl) ?_
 refine ⟨(Value.tuple #[(i64 0), (i64 0)]), retv_tmp2 rfl rfl rfl, ?_⟩
 exact ⟨rfl, K0⟩

theorem Term_nil (w : World) (n : Int)  : Calls Try.prog 10 ⟨[(Value.pointer none), (i64 n)]⟩ w (fun e w' => e = .returned (Value.tuple #[(i64 0), (i64 2)]) ∧ Keeps none_ w w') := by
 have K0 : Keeps none_ w w := Keeps.refl w
 refine q_calls Try.func10 (by kernel_rfl) (by kernel_rfl) ?_
 refine qs ?_
 refine qg ?_
 refine og 2 [(0, (Value.pointer none)), (1, (i64 n)), (4, (i64 0)), (5, (i64 0))] 2 ?_
 refine od ?_
 refine qs ?_
 refine qs ?_
 refine qg ?_
 refine og 2 [(0, (Value.pointer none)), (1, (i64 n)), (4, (i64 0)), (5, (i64 0)), (9, (Value.bool true))] 2 ?_
 refine od ?_
 refine q_then (o := .tmp 9) (by kernel_rfl) rfl ?_
 refine qs ?_
 refine qg ?_
 refine og 2 [(0, (Value.pointer none)), (1, (i64 n)), (4, (i64 0)), (5, (i64 2))] 2 ?_
 refine od ?_
 refine q_ret (by kernel_rfl) ?_
 refine ⟨(Value.tuple #[(i64 0), (i64 2)]), retv_tmp2 rfl rfl rfl, ?_⟩
 exact ⟨rfl, K0⟩

theorem Match_nil (w : World) (n t : Int)  : Calls Try.prog 12 ⟨[(Value.pointer none), (i64 n), (i64 t), (Value.slice none 0 0)]⟩ w (fun e w' => e = .returned (Value.tuple #[(i64 0), (i64 0), (i64 2)]) ∧ Keeps none_ w w') := by
 have K0 : Keeps none_ w w := Keeps.refl w
 refine q_calls Try.func12 (by kernel_rfl) (by kernel_rfl) ?_
 refine qs ?_
 refine qg ?_
 refine og 3 [(0, (Value.pointer none)), (1, (i64 n)), (2, (i64 t)), (3, (Value.slice none 0 0)), (8, (i64 0)), (9, (i64 0)), (10, (i64 0))] 3 ?_
 refine od ?_
 refine qs ?_
 refine q_block (id := 0) (by kernel_rfl) ?_
 refine qs ?_
 refine qg ?_
 refine og 3 [(0, (Value.pointer none)), (1, (i64 n)), (2, (i64 t)), (3, (Value.slice none 0 0)), (8, (i64 0)), (9, (i64 0)), (10, (i64 0)), (17, (Value.bool true))] 3 ?_
 refine od ?_
 refine q_then (o := .tmp 17) (by kernel_rfl) rfl ?_
 refine qs ?_
 refine qg ?_
 refine og 3 [(0, (Value.pointer none)), (1, (i64 n)), (2, (i64 t)), (3, (Value.slice none 0 0)), (8, (i64 0)), (9, (i64 0)), (10, (i64 2))] 3 ?_
 refine od ?_
 refine q_ret (by kernel_rfl) ?_
 refine ⟨(Value.tuple #[(i64 0), (i64 0), (i64 2)]), retv_tmp3 rfl rfl rfl rfl, ?_⟩
 exact ⟨rfl, K0⟩

theorem Append_nil (w : World)   : Calls Try.prog 21 ⟨[(Value.pointer none), (Value.slice none 0 0)]⟩ w (fun e w' => e = .returned (i64 2) ∧ Keeps none_ w w') := by
 have K0 : Keeps none_ w w := Keeps.refl w
 refine q_calls Try.func21 (by kernel_rfl) (by kernel_rfl) ?_
 refine qs ?_
 refine qg ?_
 refine og 1 [(0, (Value.pointer none)), (1, (Value.slice none 0 0)), (4, (i64 0))] 1 ?_
 refine od ?_
 refine qs ?_
 refine qs ?_
 refine qg ?_
 refine og 2 [(0, (Value.pointer none)), (1, (Value.slice none 0 0)), (4, (i64 0)), (8, (Value.bool true))] 2 ?_
 refine od ?_
 refine q_then (o := .tmp 8) (by kernel_rfl) rfl ?_
 refine qs ?_
 refine qg ?_
 refine og 1 [(0, (Value.pointer none)), (1, (Value.slice none 0 0)), (4, (i64 2))] 1 ?_
 refine od ?_
 refine q_ret (by kernel_rfl) ?_
 refine ⟨(i64 2), retv_tmp rfl rfl, ?_⟩
 exact ⟨rfl, K0⟩

theorem Cut_nil (w : World) (n : Int)  : Calls Try.prog 19 ⟨[(Value.pointer none), (i64 n)]⟩ w (fun e w' => e = .returned (i64 2) ∧ Keeps none_ w w') := by
 have K0 : Keeps none_ w w := Keeps.refl w
 refine q_calls Try.func19 (by kernel_rfl) (by kernel_rfl) ?_
 refine qs ?_
 refine qg ?_
 refine og 1 [(0, (Value.pointer none)), (1, (i64 n)), (4, (i64 0))] 1 ?_
 refine od ?_
 refine qs ?_
 refine qs ?_
 refine qg ?_
 refine og 2 [(0, (Value.pointer none)), (1, (i64 n)), (4, (i64 0)), (8, (Value.bool true))] 2 ?_
 refine od ?_
 refine q_then (o := .tmp 8) (by kernel_rfl) rfl ?_
 refine qs ?_
 refine qg ?_
 refine og 1 [(0, (Value.pointer none)), (1, (i64 n)), (4, (i64 2))] 1 ?_
 refine od ?_
 refine q_ret (by kernel_rfl) ?_
 refine ⟨(i64 2), retv_tmp rfl rfl, ?_⟩
 exact ⟨rfl, K0⟩

theorem Compact_nil (w : World) (n : Int)  : Calls Try.prog 14 ⟨[(Value.pointer none), (i64 n)]⟩ w (fun e w' => e = .returned (i64 2) ∧ Keeps none_ w w') := by
 have K0 : Keeps none_ w w := Keeps.refl w
 refine q_calls Try.func14 (by kernel_rfl) (by kernel_rfl) ?_
 refine qs ?_
 refine qg ?_
 refine og 1 [(0, (Value.pointer none)), (1, (i64 n)), (4, (i64 0))] 1 ?_
 refine od ?_
 refine qs ?_
 refine qg ?_
 refine og 2 [(0, (Value.pointer none)), (1, (i64 n)), (4, (i64 0)), (8, (Value.pointer none)), (9, (i64 n))] 2 ?_
 refine Ops.call (by kernel_rfl) (d := (some 10)) (by kernel_rfl) (Term_nil _ n) ?_
 rintro _ w2 ⟨rfl, K1⟩
 refine ⟨_, _, rfl, rfl, ?_⟩
 replace K0 := K0.t0 K1
 clear K1
 refine og 5 [(0, (Value.pointer none)), (1, (i64 n)), (4, (i64 0)), (5, (i64 0)), (6, (i64 2))] 8 ?_
 refine od ?_
 refine qs ?_
 refine qs ?_
 refine qg ?_
 refine og 2 [(0, (Value.pointer none)), (1, (i64 n)), (4, (i64 0)), (5, (i64 0)), (6, (i64 2)), (14, (Value.bool true))] 2 ?_
 refine od ?_
 refine q_then (o := .tmp 14) (by kernel_rfl) rfl ?_
 refine qs ?_
 refine qg ?_
 refine og 2 [(0, (Value.pointer none)), (1, (i64 n)), (4, (i64 2)), (5, (i64 0))] 2 ?_
 refine od ?_
 refine q_ret (by kernel_rfl) ?_
 refine ⟨(i64 2), retv_tmp rfl rfl, ?_⟩
 exact ⟨rfl, K0⟩

theorem Len_nil (w : World)   : Calls Try.prog 20 ⟨[(Value.pointer none)]⟩ w (fun e w' => e = .returned (i64 0) ∧ Keeps none_ w w') := by
 have K0 : Keeps none_ w w := Keeps.refl w
 refine q_calls Try.func20 (by kernel_rfl) (by kernel_rfl) ?_
 refine qs ?_
 refine qg ?_
 refine og 1 [(0, (Value.pointer none)), (2, (i64 0))] 1 ?_
 refine od ?_
 refine qs ?_
 refine qs ?_
 refine qg ?_
 refine og 2 [(0, (Value.pointer none)), (2, (i64 0)), (4, (Value.bool true))] 2 ?_
 refine od ?_
 refine q_then (o := .tmp 4) (by kernel_rfl) rfl ?_
 refine qs ?_
 refine qg ?_
 refine og 1 [(0, (Value.pointer none)), (2, (i64 0))] 1 ?_
 refine od ?_
 refine q_ret (by kernel_rfl) ?_
 refine ⟨(i64 0), retv_tmp rfl rfl, ?_⟩
 exact ⟨rfl, K0⟩

theorem Part_nil (w : World) (n m : Int)  : Calls Try.prog 11 ⟨[(Value.pointer none), (i64 n), (i64 m)]⟩ w (fun e w' => e = .returned (Value.slice none 0 0) ∧ Keeps none_ w w') := by
 have K0 : Keeps none_ w w := Keeps.refl w
 refine q_calls Try.func11 (by kernel_rfl) (by kernel_rfl) ?_
 refine qs ?_
 refine qg ?_
 refine og 1 [(0, (Value.pointer none)), (1, (i64 n)), (2, (i64 m)), (6, (Value.slice none 0 0))] 1 ?_
 refine od ?_
 refine qs ?_
 refine qs ?_
 refine qg ?_
 refine og 14 [(0, (Value.pointer none)), (1, (i64 n)), (2, (i64 m)), (6, (Value.slice none 0 0)), (23, (Value.bool true))] 14 ?_
 refine od ?_
 refine q_then (o := .tmp 23) (by kernel_rfl) rfl ?_
 refine qs ?_
 refine qg ?_
 refine og 1 [(0, (Value.pointer none)), (1, (i64 n)), (2, (i64 m)), (6, (Value.slice none 0 0))] 1 ?_
 refine od ?_
 refine q_ret (by kernel_rfl) ?_
 refine ⟨(Value.slice none 0 0), retv_tmp rfl rfl, ?_⟩
 exact ⟨rfl, K0⟩

theorem Newer_nil (w : World) (n t : Int)  : Calls Try.prog 18 ⟨[(Value.pointer none), (i64 n), (i64 t)]⟩ w (fun e w' => e = .returned (Value.bool false) ∧ Keeps none_ w w') := by
 have K0 : Keeps none_ w w := Keeps.refl w
 refine q_calls Try.func18 (by kernel_rfl) (by kernel_rfl) ?_
 refine qs ?_
 refine qg ?_
 refine og 1 [(0, (Value.pointer none)), (1, (i64 n)), (2, (i64 t)), (6, (Value.bool false))] 1 ?_
 refine od ?_
 refine qs ?_
 refine qs ?_
 refine qg ?_
 refine og 2 [(0, (Value.pointer none)), (1, (i64 n)), (2, (i64 t)), (6, (Value.bool false)), (10, (Value.bool true))] 2 ?_
 refine od ?_
 refine q_then (o := .tmp 10) (by kernel_rfl) rfl ?_
 refine qs ?_
 refine qg ?_
 refine og 1 [(0, (Value.pointer none)), (1, (i64 n)), (2, (i64 t)), (6, (Value.bool false))] 1 ?_
 refine od ?_
 refine q_ret (by kernel_rfl) ?_
 refine ⟨(Value.bool false), retv_tmp rfl rfl, ?_⟩
 exact ⟨rfl, K0⟩

theorem Copy_nil (w : World)   : Calls Try.prog 13 ⟨[(Value.pointer none)]⟩ w (fun e w' => e = .returned (Value.pointer none) ∧ Keeps none_ w w') := by
 have K0 : Keeps none_ w w := Keeps.refl w
 refine q_calls Try.func13 (by kernel_rfl) (by kernel_rfl) ?_
 refine qs ?_
 refine qg ?_
 refine og 1 [(0, (Value.pointer none)), (2, (Value.pointer none))] 1 ?_
 refine od ?_
 refine qs ?_
 refine qs ?_
 refine qg ?_
 refine og 2 [(0, (Value.pointer none)), (2, (Value.pointer none)), (4, (Value.bool true))] 2 ?_
 refine od ?_
 refine q_then (o := .tmp 4) (by kernel_rfl) rfl ?_
 refine qs ?_
 refine qg ?_
 refine og 1 [(0, (Value.pointer none)), (2, (Value.pointer none))] 1 ?_
 refine od ?_
 refine q_ret (by kernel_rfl) ?_
 refine ⟨(Value.pointer none), retv_tmp rfl rfl, ?_⟩
 exact ⟨rfl, K0⟩

theorem Each_nil (w : World)   : Calls Try.prog 23 ⟨[(Value.pointer none)]⟩ w (fun e w' => ∃ C : Nat, e = .returned (.func (.func 30) ⟨[]⟩ ⟨[ptr C]⟩) ∧ Keeps none_ w w' ∧ Has w' C (rowL [.pointer none] 23) ∧ w.heap.size ≤ C) := by
 have K0 : Keeps none_ w w := Keeps.refl w
 refine q_calls Try.func23 (by kernel_rfl) (by kernel_rfl) ?_
 refine qs ?_
 refine qg ?_
 refine og 1 [(0, (Value.pointer none)), (2, Value.nilFunc)] 1 ?_
 refine od ?_
 refine qs ?_
 refine qg ?_
 refine og 1 [(2, Value.nilFunc), (4, (Value.pointer none))] 1 ?_
 refine Ops.call (by kernel_rfl) (d := (some 5)) (by kernel_rfl) (Copy_nil _ ) ?_
 rintro _ w2 ⟨rfl, K1⟩
 refine ⟨_, _, rfl, rfl, ?_⟩
 replace K0 := K0.t0 K1
 clear K1
 refine Ops.new (o := rowL [(Value.pointer none)] 23) (V := fun b => (ptr b)) (by kernel_rfl) (d := (some 3)) (by kernel_rfl) (fun b => rfl) (fun b3 w4 hb5 H6 K7 hs8 => ?_)
 have nb3 : w.heap.size ≤ b3 := by have := K0.size; omega
 replace K0 := K0.t0 K7
 clear K7 hs8
 refine Ops.put (t := 23) (b := b3) (off := 0) (v := (Value.pointer none)) (ys := [(Value.pointer none)]) (by kernel_rfl) (by kernel_rfl) H6 (by kernel_rfl) (d := none) (by kernel_rfl) rfl (fun w9 H10 K11 => ?_)
 clear H6
 replace K0 := K0.trans K11 (U := none_) (fun i h1 h2 => h2) (fun i h1 h2 => by have h2 : i = b3 := h2; exfalso; omega)
 clear K11
 refine od ?_
 refine qs ?_
 refine qg ?_
 refine og 2 [(2, (Value.func (Fn.func 30) ⟨[]⟩ ⟨[(ptr b3)]⟩))] 2 ?_
 refine od ?_
 refine q_ret (by kernel_rfl) ?_
 refine ⟨(Value.func (Fn.func 30) ⟨[]⟩ ⟨[(ptr b3)]⟩), retv_tmp rfl rfl, ?_⟩
 exact ⟨_, rfl, K0, H10, nb3⟩

theorem Each1_nil (w : World) (Y : Value) (C : Nat) (H0 : Has w C (rowL [.pointer none] 23)) : Calls Try.prog 30 ⟨[Y, (ptr C)]⟩ w (fun e w' => e = .returned (.tuple #[]) ∧ Keeps none_ w w') := by
 have K0 : Keeps none_ w w := Keeps.refl w
 refine q_calls Try.func30 (by kernel_rfl) (by kernel_rfl) ?_
 refine qs ?_
 refine qs ?_
 refine qg ?_
 refine Ops.go (v := (Value.pointer none)) (by kernel_rfl) (Runs.load (t := 23) (a := ⟨C, 0, none⟩) (by kernel_rfl) (H0.loads (by kernel_rfl))) (d := (some 5)) (by kernel_rfl) rfl ?_
 refine og 1 [(0, Y), (1, (ptr C)), (6, (Value.bool true))] 2 ?_
 refine od ?_
 refine q_then (o := .tmp 6) (by kernel_rfl) rfl ?_
 refine q_ret (by kernel_rfl) ?_
 refine ⟨(Value.tuple #[]), retv_none rfl, ?_⟩
 exact ⟨rfl, K0⟩

theorem Each1_tells0 (w0 : World) (m : Nat) (C : Nat) (T : Nat → Prop) (hC : Has w0 C (rowL [.pointer none] 23)) (hTC : ¬ T C) : TellsN Try.prog m 30 [ptr C] (fun _ _ _ => False) T 0 w0 := by
 intro l J W hW hJ hY h0
 exact (Each1_nil W _ C (hC.keep hW hTC)).mono fun e W' ⟨he, hk⟩ => ⟨⟨_, he⟩, hJ _ _ _ h0 hk⟩
end Go.Proofs.Ytncjidepplaocaa
