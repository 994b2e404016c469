/- readers that are not there -/
import Derived.Test.YtnepjfnkaigakaaProg
import Derived.Test.YtnepjfnkaigakaaK18
set_option linter.unusedVariables false
namespace Go.Proofs.Ytnepjfnkaigakaa
open Go.Q Go.RowKit

theorem ok_nil (w : World)   : Calls Try.prog 58 ⟨[(Value.pointer none)]⟩ w (fun e w' => e = .returned (Value.bool false) ∧ Keeps none_ w w') := by
  have K0 : Keeps none_ w w := Keeps.refl w
  refine q_calls Try.func58 (by kernel_rfl) (by kernel_rfl) ?_
  refine q_seq (by kernel_rfl) ?_
  refine q_region (by kernel_rfl) ?_
  refine Ops.regs 1 [(0, (Value.pointer none)), (2, (Value.bool false))] (j := 1) (by kernel_rfl) (by kernel_rfl) ?_
  refine Ops.done (by kernel_rfl) ?_
  refine q_seq (by kernel_rfl) ?_
  refine q_region (by kernel_rfl) ?_
  refine Ops.regs 10 [(2, (Value.bool false))] (j := 10) (by kernel_rfl) (by kernel_rfl) ?_
  refine Ops.done (by kernel_rfl) ?_
  refine q_ret (by kernel_rfl) ?_
  refine ⟨(Value.bool false), retv_tmp rfl rfl, ?_⟩
  exact ⟨rfl, K0⟩

theorem Uint_nil (w : World)   : Calls Try.prog 14 ⟨[(Value.pointer none)]⟩ w (fun e w' => e = .returned (Value.int IntKind.u64 0) ∧ Keeps none_ w w') := by
  have K0 : Keeps none_ w w := Keeps.refl w
  refine q_calls Try.func14 (by kernel_rfl) (by kernel_rfl) ?_
  refine q_seq (by kernel_rfl) ?_
  refine q_region (by kernel_rfl) ?_
  refine Ops.regs 1 [(0, (Value.pointer none)), (2, (Value.int IntKind.u64 0))] (j := 1) (by kernel_rfl) (by kernel_rfl) ?_
  refine Ops.done (by kernel_rfl) ?_
  refine q_seq (by kernel_rfl) ?_
  refine q_seq (by kernel_rfl) ?_
  refine q_region (by kernel_rfl) ?_
  refine Ops.regs 1 [(0, (Value.pointer none)), (2, (Value.int IntKind.u64 0)), (6, (Value.pointer none))] (j := 1) (by kernel_rfl) (by kernel_rfl) ?_
  refine Ops.call (by kernel_rfl) (d := (some 7)) (by kernel_rfl) (ok_nil _ ) ?_
  rintro _ w1 ⟨rfl, K2⟩
  refine ⟨_, _, rfl, rfl, ?_⟩
  have K3 := K0.trans K2 (U := none_) (fun i h1 h2 => h2) (fun i h1 h2 => by exact h2)
  clear K0
  clear K2
  refine Ops.regs 1 [(0, (Value.pointer none)), (2, (Value.int IntKind.u64 0)), (8, (Value.bool true))] (j := 3) (by kernel_rfl) (by kernel_rfl) ?_
  refine Ops.done (by kernel_rfl) ?_
  refine q_then (o := .tmp 8) (by kernel_rfl) rfl ?_
  refine q_seq (by kernel_rfl) ?_
  refine q_region (by kernel_rfl) ?_
  refine Ops.regs 1 [(0, (Value.pointer none)), (2, (Value.int IntKind.u64 0))] (j := 1) (by kernel_rfl) (by kernel_rfl) ?_
  refine Ops.done (by kernel_rfl) ?_
  refine q_ret (by kernel_rfl) ?_
  refine ⟨(Value.int IntKind.u64 0), retv_tmp rfl rfl, ?_⟩
  exact ⟨rfl, K3⟩

theorem Int_nil (w : World)   : Calls Try.prog 47 ⟨[(Value.pointer none)]⟩ w (fun e w' => e = .returned (i64 0) ∧ Keeps none_ w w') := by
  have K0 : Keeps none_ w w := Keeps.refl w
  refine q_calls Try.func47 (by kernel_rfl) (by kernel_rfl) ?_
  refine q_seq (by kernel_rfl) ?_
  refine q_region (by kernel_rfl) ?_
  refine Ops.regs 1 [(0, (Value.pointer none)), (2, (i64 0))] (j := 1) (by kernel_rfl) (by kernel_rfl) ?_
  refine Ops.done (by kernel_rfl) ?_
  refine q_seq (by kernel_rfl) ?_
  refine q_region (by kernel_rfl) ?_
  refine Ops.regs 1 [(2, (i64 0)), (4, (Value.pointer none))] (j := 1) (by kernel_rfl) (by kernel_rfl) ?_
  refine Ops.call (by kernel_rfl) (d := (some 5)) (by kernel_rfl) (Uint_nil _ ) ?_
  rintro _ w1 ⟨rfl, K2⟩
  refine ⟨_, _, rfl, rfl, ?_⟩
  have K3 := K0.trans K2 (U := none_) (fun i h1 h2 => h2) (fun i h1 h2 => by exact h2)
  clear K0
  clear K2
  refine Ops.regs 1 [(2, (i64 0)), (3, (Value.int IntKind.u64 0))] (j := 3) (by kernel_rfl) (by kernel_rfl) ?_
  refine Ops.done (by kernel_rfl) ?_
  refine q_seq (by kernel_rfl) ?_
  refine q_region (by kernel_rfl) ?_
  refine Ops.regs 9 [(2, (i64 0))] (j := 9) (by kernel_rfl) (by kernel_rfl) ?_
  refine Ops.done (by kernel_rfl) ?_
  refine q_ret (by kernel_rfl) ?_
  refine ⟨(i64 0), retv_tmp rfl rfl, ?_⟩
  exact ⟨rfl, K3⟩

theorem sized_nil (w : World) (most : Int)  : Calls Try.prog 67 ⟨[(Value.pointer none), (i64 most)]⟩ w (fun e w' => e = .returned (i64 0) ∧ Keeps none_ w w') := by
  have K0 : Keeps none_ w w := Keeps.refl w
  refine q_calls Try.func67 (by kernel_rfl) (by kernel_rfl) ?_
  refine q_seq (by kernel_rfl) ?_
  refine q_region (by kernel_rfl) ?_
  refine Ops.regs 1 [(0, (Value.pointer none)), (1, (i64 most)), (4, (i64 0))] (j := 1) (by kernel_rfl) (by kernel_rfl) ?_
  refine Ops.done (by kernel_rfl) ?_
  refine q_seq (by kernel_rfl) ?_
  refine q_seq (by kernel_rfl) ?_
  refine q_region (by kernel_rfl) ?_
  refine Ops.regs 1 [(0, (Value.pointer none)), (1, (i64 most)), (4, (i64 0)), (7, (Value.pointer none))] (j := 1) (by kernel_rfl) (by kernel_rfl) ?_
  refine Ops.call (by kernel_rfl) (d := (some 8)) (by kernel_rfl) (ok_nil _ ) ?_
  rintro _ w1 ⟨rfl, K2⟩
  refine ⟨_, _, rfl, rfl, ?_⟩
  have K3 := K0.trans K2 (U := none_) (fun i h1 h2 => h2) (fun i h1 h2 => by exact h2)
  clear K0
  clear K2
  refine Ops.regs 1 [(0, (Value.pointer none)), (1, (i64 most)), (4, (i64 0)), (9, (Value.bool true))] (j := 3) (by kernel_rfl) (by kernel_rfl) ?_
  refine Ops.done (by kernel_rfl) ?_
  refine q_then (o := .tmp 9) (by kernel_rfl) rfl ?_
  refine q_seq (by kernel_rfl) ?_
  refine q_region (by kernel_rfl) ?_
  refine Ops.regs 1 [(0, (Value.pointer none)), (1, (i64 most)), (4, (i64 0))] (j := 1) (by kernel_rfl) (by kernel_rfl) ?_
  refine Ops.done (by kernel_rfl) ?_
  refine q_ret (by kernel_rfl) ?_
  refine ⟨(i64 0), retv_tmp rfl rfl, ?_⟩
  exact ⟨rfl, K3⟩

theorem Count_nil (w : World) (most : Int)  : Calls Try.prog 42 ⟨[(Value.pointer none), (i64 most)]⟩ w (fun e w' => e = .returned (i64 0) ∧ Keeps none_ w w') := by
  have K0 : Keeps none_ w w := Keeps.refl w
  refine q_calls Try.func42 (by kernel_rfl) (by kernel_rfl) ?_
  refine q_seq (by kernel_rfl) ?_
  refine q_region (by kernel_rfl) ?_
  refine Ops.regs 1 [(0, (Value.pointer none)), (1, (i64 most)), (4, (i64 0))] (j := 1) (by kernel_rfl) (by kernel_rfl) ?_
  refine Ops.done (by kernel_rfl) ?_
  refine q_seq (by kernel_rfl) ?_
  refine q_region (by kernel_rfl) ?_
  refine Ops.regs 2 [(4, (i64 0)), (5, (Value.pointer none)), (6, (i64 most))] (j := 2) (by kernel_rfl) (by kernel_rfl) ?_
  refine Ops.call (by kernel_rfl) (d := (some 7)) (by kernel_rfl) (sized_nil _ most) ?_
  rintro _ w1 ⟨rfl, K2⟩
  refine ⟨_, _, rfl, rfl, ?_⟩
  have K3 := K0.trans K2 (U := none_) (fun i h1 h2 => h2) (fun i h1 h2 => by exact h2)
  clear K0
  clear K2
  refine Ops.regs 1 [(4, (i64 0))] (j := 4) (by kernel_rfl) (by kernel_rfl) ?_
  refine Ops.done (by kernel_rfl) ?_
  refine q_ret (by kernel_rfl) ?_
  refine ⟨(i64 0), retv_tmp rfl rfl, ?_⟩
  exact ⟨rfl, K3⟩

theorem Bytes_nil (w : World)   : Calls Try.prog 48 ⟨[(Value.pointer none)]⟩ w (fun e w' => e = .returned (Value.slice none 0 0) ∧ Keeps none_ w w') := by
  have K0 : Keeps none_ w w := Keeps.refl w
  refine q_calls Try.func48 (by kernel_rfl) (by kernel_rfl) ?_
  refine q_seq (by kernel_rfl) ?_
  refine q_region (by kernel_rfl) ?_
  refine Ops.regs 1 [(0, (Value.pointer none)), (2, (Value.slice none 0 0))] (j := 1) (by kernel_rfl) (by kernel_rfl) ?_
  refine Ops.done (by kernel_rfl) ?_
  refine q_seq (by kernel_rfl) ?_
  refine q_region (by kernel_rfl) ?_
  refine Ops.regs 1 [(0, (Value.pointer none)), (2, (Value.slice none 0 0)), (5, (Value.pointer none))] (j := 1) (by kernel_rfl) (by kernel_rfl) ?_
  refine Ops.call (by kernel_rfl) (d := (some 6)) (by kernel_rfl) (sized_nil _ 65536) ?_
  rintro _ w1 ⟨rfl, K2⟩
  refine ⟨_, _, rfl, rfl, ?_⟩
  have K3 := K0.trans K2 (U := none_) (fun i h1 h2 => h2) (fun i h1 h2 => by exact h2)
  clear K0
  clear K2
  refine Ops.regs 1 [(0, (Value.pointer none)), (2, (Value.slice none 0 0)), (3, (i64 0))] (j := 3) (by kernel_rfl) (by kernel_rfl) ?_
  refine Ops.done (by kernel_rfl) ?_
  refine q_seq (by kernel_rfl) ?_
  refine q_seq (by kernel_rfl) ?_
  refine q_region (by kernel_rfl) ?_
  refine Ops.regs 1 [(0, (Value.pointer none)), (2, (Value.slice none 0 0)), (3, (i64 0)), (7, (Value.pointer none))] (j := 1) (by kernel_rfl) (by kernel_rfl) ?_
  refine Ops.call (by kernel_rfl) (d := (some 8)) (by kernel_rfl) (ok_nil _ ) ?_
  rintro _ w4 ⟨rfl, K5⟩
  refine ⟨_, _, rfl, rfl, ?_⟩
  have K6 := K3.trans K5 (U := none_) (fun i h1 h2 => h2) (fun i h1 h2 => by exact h2)
  clear K3
  clear K5
  refine Ops.regs 1 [(0, (Value.pointer none)), (2, (Value.slice none 0 0)), (3, (i64 0)), (9, (Value.bool true))] (j := 3) (by kernel_rfl) (by kernel_rfl) ?_
  refine Ops.done (by kernel_rfl) ?_
  refine q_then (o := .tmp 9) (by kernel_rfl) rfl ?_
  refine q_seq (by kernel_rfl) ?_
  refine q_region (by kernel_rfl) ?_
  refine Ops.regs 1 [(0, (Value.pointer none)), (2, (Value.slice none 0 0)), (3, (i64 0))] (j := 1) (by kernel_rfl) (by kernel_rfl) ?_
  refine Ops.done (by kernel_rfl) ?_
  refine q_ret (by kernel_rfl) ?_
  refine ⟨(Value.slice none 0 0), retv_tmp rfl rfl, ?_⟩
  exact ⟨rfl, K6⟩

theorem Text_nil (w : World)   : Calls Try.prog 41 ⟨[(Value.pointer none)]⟩ w (fun e w' => e = .returned (Value.string (str ([] : List UInt8))) ∧ Keeps none_ w w') := by
  have K0 : Keeps none_ w w := Keeps.refl w
  refine q_calls Try.func41 (by kernel_rfl) (by kernel_rfl) ?_
  refine q_seq (by kernel_rfl) ?_
  refine q_region (by kernel_rfl) ?_
  refine Ops.regs 1 [(0, (Value.pointer none)), (2, (Value.string (str ([] : List UInt8))))] (j := 1) (by kernel_rfl) (by kernel_rfl) ?_
  refine Ops.done (by kernel_rfl) ?_
  refine q_seq (by kernel_rfl) ?_
  refine q_region (by kernel_rfl) ?_
  refine Ops.regs 1 [(2, (Value.string (str ([] : List UInt8)))), (3, (Value.pointer none))] (j := 1) (by kernel_rfl) (by kernel_rfl) ?_
  refine Ops.call (by kernel_rfl) (d := (some 4)) (by kernel_rfl) (Bytes_nil _ ) ?_
  rintro _ w1 ⟨rfl, K2⟩
  refine ⟨_, _, rfl, rfl, ?_⟩
  have K3 := K0.trans K2 (U := none_) (fun i h1 h2 => h2) (fun i h1 h2 => by exact h2)
  clear K0
  clear K2
  refine Ops.go (v := (Value.string (str []))) (by kernel_rfl) (Runs.b2s (s := 23) (d := 9) (e := 5) (by kernel_rfl) (by kernel_rfl) (by kernel_rfl) (Rd.nil _ _)) (d := (some 5)) (by kernel_rfl) rfl ?_
  refine Ops.regs 1 [(2, (Value.string (str [])))] (j := 4) (by kernel_rfl) (by kernel_rfl) ?_
  refine Ops.done (by kernel_rfl) ?_
  refine q_ret (by kernel_rfl) ?_
  refine ⟨(Value.string (str [])), retv_tmp rfl rfl, ?_⟩
  exact ⟨rfl, K3⟩

theorem Bool_nil (w : World)   : Calls Try.prog 40 ⟨[(Value.pointer none)]⟩ w (fun e w' => e = .returned (Value.bool false) ∧ Keeps none_ w w') := by
  have K0 : Keeps none_ w w := Keeps.refl w
  refine q_calls Try.func40 (by kernel_rfl) (by kernel_rfl) ?_
  refine q_seq (by kernel_rfl) ?_
  refine q_region (by kernel_rfl) ?_
  refine Ops.regs 1 [(0, (Value.pointer none)), (2, (Value.bool false))] (j := 1) (by kernel_rfl) (by kernel_rfl) ?_
  refine Ops.done (by kernel_rfl) ?_
  refine q_seq (by kernel_rfl) ?_
  refine q_seq (by kernel_rfl) ?_
  refine q_region (by kernel_rfl) ?_
  refine Ops.regs 1 [(0, (Value.pointer none)), (2, (Value.bool false)), (4, (Value.pointer none))] (j := 1) (by kernel_rfl) (by kernel_rfl) ?_
  refine Ops.call (by kernel_rfl) (d := (some 5)) (by kernel_rfl) (ok_nil _ ) ?_
  rintro _ w1 ⟨rfl, K2⟩
  refine ⟨_, _, rfl, rfl, ?_⟩
  have K3 := K0.trans K2 (U := none_) (fun i h1 h2 => h2) (fun i h1 h2 => by exact h2)
  clear K0
  clear K2
  refine Ops.regs 1 [(0, (Value.pointer none)), (2, (Value.bool false)), (6, (Value.bool true))] (j := 3) (by kernel_rfl) (by kernel_rfl) ?_
  refine Ops.done (by kernel_rfl) ?_
  refine q_then (o := .tmp 6) (by kernel_rfl) rfl ?_
  refine q_seq (by kernel_rfl) ?_
  refine q_region (by kernel_rfl) ?_
  refine Ops.regs 1 [(0, (Value.pointer none)), (2, (Value.bool false))] (j := 1) (by kernel_rfl) (by kernel_rfl) ?_
  refine Ops.done (by kernel_rfl) ?_
  refine q_ret (by kernel_rfl) ?_
  refine ⟨(Value.bool false), retv_tmp rfl rfl, ?_⟩
  exact ⟨rfl, K3⟩

theorem End_nil (w : World)   : Calls Try.prog 15 ⟨[(Value.pointer none)]⟩ w (fun e w' => e = .returned (i64 2) ∧ Keeps none_ w w') := by
  have K0 : Keeps none_ w w := Keeps.refl w
  refine q_calls Try.func15 (by kernel_rfl) (by kernel_rfl) ?_
  refine q_seq (by kernel_rfl) ?_
  refine q_region (by kernel_rfl) ?_
  refine Ops.regs 1 [(0, (Value.pointer none)), (2, (i64 0))] (j := 1) (by kernel_rfl) (by kernel_rfl) ?_
  refine Ops.done (by kernel_rfl) ?_
  refine q_seq (by kernel_rfl) ?_
  refine q_block (id := 0) (by kernel_rfl) ?_
  refine q_seq (by kernel_rfl) ?_
  refine q_region (by kernel_rfl) ?_
  refine Ops.regs 3 [(0, (Value.pointer none)), (2, (i64 0)), (3, (Value.bool true))] (j := 3) (by kernel_rfl) (by kernel_rfl) ?_
  refine Ops.done (by kernel_rfl) ?_
  refine q_then (o := .tmp 3) (by kernel_rfl) rfl ?_
  refine q_seq (by kernel_rfl) ?_
  refine q_region (by kernel_rfl) ?_
  refine Ops.regs 1 [(0, (Value.pointer none)), (2, (i64 2))] (j := 1) (by kernel_rfl) (by kernel_rfl) ?_
  refine Ops.done (by kernel_rfl) ?_
  refine q_ret (by kernel_rfl) ?_
  refine ⟨(i64 2), retv_tmp rfl rfl, ?_⟩
  exact ⟨rfl, K0⟩

theorem At_nil (w : World)   : Calls Try.prog 16 ⟨[(Value.pointer none)]⟩ w (fun e w' => e = .returned (i64 0) ∧ Keeps none_ w w') := by
  have K0 : Keeps none_ w w := Keeps.refl w
  refine q_calls Try.func16 (by kernel_rfl) (by kernel_rfl) ?_
  refine q_seq (by kernel_rfl) ?_
  refine q_region (by kernel_rfl) ?_
  refine Ops.regs 1 [(0, (Value.pointer none)), (2, (i64 0))] (j := 1) (by kernel_rfl) (by kernel_rfl) ?_
  refine Ops.done (by kernel_rfl) ?_
  refine q_seq (by kernel_rfl) ?_
  refine q_seq (by kernel_rfl) ?_
  refine q_region (by kernel_rfl) ?_
  refine Ops.regs 2 [(0, (Value.pointer none)), (2, (i64 0)), (4, (Value.bool true))] (j := 2) (by kernel_rfl) (by kernel_rfl) ?_
  refine Ops.done (by kernel_rfl) ?_
  refine q_then (o := .tmp 4) (by kernel_rfl) rfl ?_
  refine q_seq (by kernel_rfl) ?_
  refine q_region (by kernel_rfl) ?_
  refine Ops.regs 1 [(0, (Value.pointer none)), (2, (i64 0))] (j := 1) (by kernel_rfl) (by kernel_rfl) ?_
  refine Ops.done (by kernel_rfl) ?_
  refine q_ret (by kernel_rfl) ?_
  refine ⟨(i64 0), retv_tmp rfl rfl, ?_⟩
  exact ⟨rfl, K0⟩
end Go.Proofs.Ytnepjfnkaigakaa
