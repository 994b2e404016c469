/- chart: ChartNil returns true, printed by a program of this session -/
import Derived.Test.YtoljbckhoigibaaProg
import Derived.Test.YtoljbckhoigibaaE
set_option linter.unusedVariables false
namespace Go.Proofs.Ytoljbckhoigibaa
open Go.Q Go.RowKit

theorem Owner_nil (w : World) (slot : Int)  : Calls Try.prog 15 ⟨[(Value.pointer none), (i64 slot)]⟩ w (fun e w' => e = .returned (i64 0) ∧ Keeps none_ w w') := by
  have K0 : Keeps none_ w w := Keeps.refl w
  refine q_calls Try.func15 (by kernel_rfl) (by kernel_rfl) ?_
  refine q_seq (by kernel_rfl) ?_
  refine q_region (by kernel_rfl) ?_
  refine Ops.regs 1 [(0, (Value.pointer none)), (1, (i64 slot)), (4, (i64 0))] (j := 1) (by kernel_rfl) (by kernel_rfl) ?_
  refine Ops.done (by kernel_rfl) ?_
  refine q_seq (by kernel_rfl) ?_
  refine q_seq (by kernel_rfl) ?_
  refine q_region (by kernel_rfl) ?_
  refine Ops.regs 7 [(0, (Value.pointer none)), (1, (i64 slot)), (4, (i64 0)), (11, (Value.bool true))] (j := 7) (by kernel_rfl) (by kernel_rfl) ?_
  refine Ops.done (by kernel_rfl) ?_
  refine q_then (o := .tmp 11) (by kernel_rfl) rfl ?_
  refine q_seq (by kernel_rfl) ?_
  refine q_region (by kernel_rfl) ?_
  refine Ops.regs 1 [(0, (Value.pointer none)), (1, (i64 slot)), (4, (i64 0))] (j := 1) (by kernel_rfl) (by kernel_rfl) ?_
  refine Ops.done (by kernel_rfl) ?_
  refine q_ret (by kernel_rfl) ?_
  refine ⟨(i64 0), retv_tmp rfl rfl, ?_⟩
  exact ⟨rfl, K0⟩

theorem Epoch_nil (w : World) (slot : Int)  : Calls Try.prog 18 ⟨[(Value.pointer none), (i64 slot)]⟩ w (fun e w' => e = .returned (i64 0) ∧ Keeps none_ w w') := by
  have K0 : Keeps none_ w w := Keeps.refl w
  refine q_calls Try.func18 (by kernel_rfl) (by kernel_rfl) ?_
  refine q_seq (by kernel_rfl) ?_
  refine q_region (by kernel_rfl) ?_
  refine Ops.regs 1 [(0, (Value.pointer none)), (1, (i64 slot)), (4, (i64 0))] (j := 1) (by kernel_rfl) (by kernel_rfl) ?_
  refine Ops.done (by kernel_rfl) ?_
  refine q_seq (by kernel_rfl) ?_
  refine q_seq (by kernel_rfl) ?_
  refine q_region (by kernel_rfl) ?_
  refine Ops.regs 7 [(0, (Value.pointer none)), (1, (i64 slot)), (4, (i64 0)), (11, (Value.bool true))] (j := 7) (by kernel_rfl) (by kernel_rfl) ?_
  refine Ops.done (by kernel_rfl) ?_
  refine q_then (o := .tmp 11) (by kernel_rfl) rfl ?_
  refine q_seq (by kernel_rfl) ?_
  refine q_region (by kernel_rfl) ?_
  refine Ops.regs 1 [(0, (Value.pointer none)), (1, (i64 slot)), (4, (i64 0))] (j := 1) (by kernel_rfl) (by kernel_rfl) ?_
  refine Ops.done (by kernel_rfl) ?_
  refine q_ret (by kernel_rfl) ?_
  refine ⟨(i64 0), retv_tmp rfl rfl, ?_⟩
  exact ⟨rfl, K0⟩

theorem Do_nil (w : World) (x : Cmd)  : Calls Try.prog 16 ⟨[(Value.pointer none), (agg [(i64 x.kind), (i64 x.slot), (i64 x.shard), (i64 x.n), (i64 x.phase)])]⟩ w (fun e w' => e = .returned (agg [i64 2, .bool false, i64 0]) ∧ Keeps none_ w w') := by
  have K0 : Keeps none_ w w := Keeps.refl w
  refine q_calls Try.func16 (by kernel_rfl) (by kernel_rfl) ?_
  refine q_seq (by kernel_rfl) ?_
  refine q_region (by kernel_rfl) ?_
  refine Ops.new (o := rowL [(i64 x.kind), (i64 x.slot), (i64 x.shard), (i64 x.n), (i64 x.phase)] 32) (V := fun b => (Value.pointer (some ⟨b, 0, none⟩))) (by kernel_rfl) (d := (some 3)) (by kernel_rfl) (fun b => rfl) (fun b1 w2 hb3 H4 K5 hs6 => ?_)
  have nb1 : w.heap.size ≤ b1 := by have := K0.size; omega
  have K7 := K0.trans K5 (U := none_) (fun i h1 h2 => h2) (fun i h1 h2 => by exact h2)
  clear K0
  clear K5 hs6
  refine Ops.new (o := rowL [(i64 0), (Value.bool false), (i64 0)] 29) (V := fun b => (Value.pointer (some ⟨b, 0, none⟩))) (by kernel_rfl) (d := (some 4)) (by kernel_rfl) (fun b => rfl) (fun b8 w9 hb10 H11 K12 hs13 => ?_)
  have lb8 : b1 < b8 := by have := H4.lt; omega
  have nb8 : w.heap.size ≤ b8 := by have := K7.size; omega
  have H14 := H4.keep K12 (fun h => h)
  clear H4
  have K15 := K7.trans K12 (U := none_) (fun i h1 h2 => h2) (fun i h1 h2 => by exact h2)
  clear K7
  clear K12 hs13
  refine Ops.done (by kernel_rfl) ?_
  refine q_seq (by kernel_rfl) ?_
  refine q_seq (by kernel_rfl) ?_
  refine q_region (by kernel_rfl) ?_
  refine Ops.regs 2 [(0, (Value.pointer none)), (3, (Value.pointer (some ⟨b1, 0, none⟩))), (4, (Value.pointer (some ⟨b8, 0, none⟩))), (8, (Value.bool true))] (j := 2) (by kernel_rfl) (by kernel_rfl) ?_
  refine Ops.done (by kernel_rfl) ?_
  refine q_then (o := .tmp 8) (by kernel_rfl) rfl ?_
  refine q_seq (by kernel_rfl) ?_
  refine q_region (by kernel_rfl) ?_
  refine Ops.regs 1 [(0, (Value.pointer none)), (3, (Value.pointer (some ⟨b1, 0, none⟩))), (4, (Value.pointer (some ⟨b8, 0, none⟩))), (9, (agg [(i64 2), (Value.bool false), (i64 0)]))] (j := 1) (by kernel_rfl) (by kernel_rfl) ?_
  refine Ops.put (t := 29) (b := b8) (off := 0) (v := (agg [(i64 2), (Value.bool false), (i64 0)])) (ys := [(i64 2), (Value.bool false), (i64 0)]) (by kernel_rfl) (by kernel_rfl) H11 (by kernel_rfl) (d := none) (by kernel_rfl) rfl (fun w16 H17 K18 => ?_)
  clear H11
  have H19 := H14.keep K18 (by intro h; change b1 = b8 at h; omega)
  clear H14
  have K20 := K15.trans K18 (U := none_) (fun i h1 h2 => h2) (fun i h1 h2 => by have h2 : i = b8 := h2; exfalso; omega)
  clear K15
  clear K18
  refine Ops.done (by kernel_rfl) ?_
  refine q_ret (by kernel_rfl) ?_
  refine ⟨(agg [(i64 2), (Value.bool false), (i64 0)]), retv_cell rfl rfl (H17.loads (by kernel_rfl)), ?_⟩
  exact ⟨rfl, K20⟩

theorem Move_nil (w : World)   : Calls Try.prog 17 ⟨[(Value.pointer none)]⟩ w (fun e w' => e = .returned (agg [i64 0, i64 0, i64 0, i64 0, i64 0, i64 0]) ∧ Keeps none_ w w') := by
  have K0 : Keeps none_ w w := Keeps.refl w
  refine q_calls Try.func17 (by kernel_rfl) (by kernel_rfl) ?_
  refine q_seq (by kernel_rfl) ?_
  refine q_region (by kernel_rfl) ?_
  refine Ops.new (o := rowL [(i64 0), (i64 0), (i64 0), (i64 0), (i64 0), (i64 0)] 34) (V := fun b => (Value.pointer (some ⟨b, 0, none⟩))) (by kernel_rfl) (d := (some 2)) (by kernel_rfl) (fun b => rfl) (fun b1 w2 hb3 H4 K5 hs6 => ?_)
  have nb1 : w.heap.size ≤ b1 := by have := K0.size; omega
  have K7 := K0.trans K5 (U := none_) (fun i h1 h2 => h2) (fun i h1 h2 => by exact h2)
  clear K0
  clear K5 hs6
  refine Ops.done (by kernel_rfl) ?_
  refine q_seq (by kernel_rfl) ?_
  refine q_seq (by kernel_rfl) ?_
  refine q_region (by kernel_rfl) ?_
  refine Ops.regs 2 [(0, (Value.pointer none)), (2, (Value.pointer (some ⟨b1, 0, none⟩))), (4, (Value.bool true))] (j := 2) (by kernel_rfl) (by kernel_rfl) ?_
  refine Ops.done (by kernel_rfl) ?_
  refine q_then (o := .tmp 4) (by kernel_rfl) rfl ?_
  refine q_seq (by kernel_rfl) ?_
  refine q_region (by kernel_rfl) ?_
  refine Ops.regs 1 [(0, (Value.pointer none)), (2, (Value.pointer (some ⟨b1, 0, none⟩))), (5, (agg [(i64 0), (i64 0), (i64 0), (i64 0), (i64 0), (i64 0)]))] (j := 1) (by kernel_rfl) (by kernel_rfl) ?_
  refine Ops.put (t := 34) (b := b1) (off := 0) (v := (agg [(i64 0), (i64 0), (i64 0), (i64 0), (i64 0), (i64 0)])) (ys := [(i64 0), (i64 0), (i64 0), (i64 0), (i64 0), (i64 0)]) (by kernel_rfl) (by kernel_rfl) H4 (by kernel_rfl) (d := none) (by kernel_rfl) rfl (fun w8 H9 K10 => ?_)
  clear H4
  have K11 := K7.trans K10 (U := none_) (fun i h1 h2 => h2) (fun i h1 h2 => by have h2 : i = b1 := h2; exfalso; omega)
  clear K7
  clear K10
  refine Ops.done (by kernel_rfl) ?_
  refine q_ret (by kernel_rfl) ?_
  refine ⟨(agg [(i64 0), (i64 0), (i64 0), (i64 0), (i64 0), (i64 0)]), retv_cell rfl rfl (H9.loads (by kernel_rfl)), ?_⟩
  exact ⟨rfl, K11⟩

theorem Audit_nil (w : World)   : Calls Try.prog 20 ⟨[(Value.pointer none)]⟩ w (fun e w' => e = .returned (.tuple #[i64 0, i64 0]) ∧ Keeps none_ w w') := by
  have K0 : Keeps none_ w w := Keeps.refl w
  refine q_calls Try.func20 (by kernel_rfl) (by kernel_rfl) ?_
  refine q_seq (by kernel_rfl) ?_
  refine q_region (by kernel_rfl) ?_
  refine Ops.regs 2 [(0, (Value.pointer none)), (2, (i64 0)), (3, (i64 0))] (j := 2) (by kernel_rfl) (by kernel_rfl) ?_
  refine Ops.done (by kernel_rfl) ?_
  refine q_seq (by kernel_rfl) ?_
  refine q_seq (by kernel_rfl) ?_
  refine q_region (by kernel_rfl) ?_
  refine Ops.regs 2 [(0, (Value.pointer none)), (2, (i64 0)), (3, (i64 0)), (5, (Value.bool true))] (j := 2) (by kernel_rfl) (by kernel_rfl) ?_
  refine Ops.done (by kernel_rfl) ?_
  refine q_then (o := .tmp 5) (by kernel_rfl) rfl ?_
  refine q_seq (by kernel_rfl) ?_
  refine q_region (by kernel_rfl) ?_
  refine Ops.regs 2 [(0, (Value.pointer none)), (2, (i64 0)), (3, (i64 0))] (j := 2) (by kernel_rfl) (by kernel_rfl) ?_
  refine Ops.done (by kernel_rfl) ?_
  refine q_ret (by kernel_rfl) ?_
  refine ⟨(Value.tuple #[(i64 0), (i64 0)]), retv_tmp2 rfl rfl rfl, ?_⟩
  exact ⟨rfl, K0⟩

theorem Shards_nil (w : World)   : Calls Try.prog 27 ⟨[(Value.pointer none)]⟩ w (fun e w' => e = .returned (i64 0) ∧ Keeps none_ w w') := by
  have K0 : Keeps none_ w w := Keeps.refl w
  refine q_calls Try.func27 (by kernel_rfl) (by kernel_rfl) ?_
  refine q_seq (by kernel_rfl) ?_
  refine q_region (by kernel_rfl) ?_
  refine Ops.regs 1 [(0, (Value.pointer none)), (2, (i64 0))] (j := 1) (by kernel_rfl) (by kernel_rfl) ?_
  refine Ops.done (by kernel_rfl) ?_
  refine q_seq (by kernel_rfl) ?_
  refine q_seq (by kernel_rfl) ?_
  refine q_region (by kernel_rfl) ?_
  refine Ops.regs 2 [(0, (Value.pointer none)), (2, (i64 0)), (4, (Value.bool true))] (j := 2) (by kernel_rfl) (by kernel_rfl) ?_
  refine Ops.done (by kernel_rfl) ?_
  refine q_then (o := .tmp 4) (by kernel_rfl) rfl ?_
  refine q_seq (by kernel_rfl) ?_
  refine q_region (by kernel_rfl) ?_
  refine Ops.regs 1 [(0, (Value.pointer none)), (2, (i64 0))] (j := 1) (by kernel_rfl) (by kernel_rfl) ?_
  refine Ops.done (by kernel_rfl) ?_
  refine q_ret (by kernel_rfl) ?_
  refine ⟨(i64 0), retv_tmp rfl rfl, ?_⟩
  exact ⟨rfl, K0⟩

theorem Image_nil (w : World)   : Calls Try.prog 28 ⟨[(Value.pointer none)]⟩ w (fun e w' => e = .returned (.slice none 0 0) ∧ Keeps none_ w w') := by
  have K0 : Keeps none_ w w := Keeps.refl w
  refine q_calls Try.func28 (by kernel_rfl) (by kernel_rfl) ?_
  refine q_seq (by kernel_rfl) ?_
  refine q_region (by kernel_rfl) ?_
  refine Ops.regs 1 [(0, (Value.pointer none)), (2, (Value.slice none 0 0))] (j := 1) (by kernel_rfl) (by kernel_rfl) ?_
  refine Ops.done (by kernel_rfl) ?_
  refine q_seq (by kernel_rfl) ?_
  refine q_seq (by kernel_rfl) ?_
  refine q_region (by kernel_rfl) ?_
  refine Ops.regs 2 [(0, (Value.pointer none)), (2, (Value.slice none 0 0)), (7, (Value.bool true))] (j := 2) (by kernel_rfl) (by kernel_rfl) ?_
  refine Ops.done (by kernel_rfl) ?_
  refine q_then (o := .tmp 7) (by kernel_rfl) rfl ?_
  refine q_seq (by kernel_rfl) ?_
  refine q_region (by kernel_rfl) ?_
  refine Ops.regs 1 [(0, (Value.pointer none)), (2, (Value.slice none 0 0))] (j := 1) (by kernel_rfl) (by kernel_rfl) ?_
  refine Ops.done (by kernel_rfl) ?_
  refine q_ret (by kernel_rfl) ?_
  refine ⟨(Value.slice none 0 0), retv_tmp rfl rfl, ?_⟩
  exact ⟨rfl, K0⟩

theorem Copy_nil (w : World)   : Calls Try.prog 23 ⟨[(Value.pointer none)]⟩ w (fun e w' => e = .returned (.pointer none) ∧ Keeps none_ w w') := by
  have K0 : Keeps none_ w w := Keeps.refl w
  refine q_calls Try.func23 (by kernel_rfl) (by kernel_rfl) ?_
  refine q_seq (by kernel_rfl) ?_
  refine q_region (by kernel_rfl) ?_
  refine Ops.regs 1 [(0, (Value.pointer none)), (2, (Value.pointer none))] (j := 1) (by kernel_rfl) (by kernel_rfl) ?_
  refine Ops.done (by kernel_rfl) ?_
  refine q_seq (by kernel_rfl) ?_
  refine q_seq (by kernel_rfl) ?_
  refine q_region (by kernel_rfl) ?_
  refine Ops.regs 2 [(0, (Value.pointer none)), (2, (Value.pointer none)), (5, (Value.bool true))] (j := 2) (by kernel_rfl) (by kernel_rfl) ?_
  refine Ops.done (by kernel_rfl) ?_
  refine q_then (o := .tmp 5) (by kernel_rfl) rfl ?_
  refine q_seq (by kernel_rfl) ?_
  refine q_region (by kernel_rfl) ?_
  refine Ops.regs 1 [(0, (Value.pointer none)), (2, (Value.pointer none))] (j := 1) (by kernel_rfl) (by kernel_rfl) ?_
  refine Ops.done (by kernel_rfl) ?_
  refine q_ret (by kernel_rfl) ?_
  refine ⟨(Value.pointer none), retv_tmp rfl rfl, ?_⟩
  exact ⟨rfl, K0⟩

theorem taken_calls (w : World) (a : Int) (b : Bool) (c : Int)  : Calls Try.prog 25 ⟨[(agg [(i64 a), (Value.bool b), (i64 c)])]⟩ w (fun e w' => e = .returned (agg [(i64 a), (Value.bool b), (i64 c)]) ∧ Keeps none_ w w') := by
  have K0 : Keeps none_ w w := Keeps.refl w
  refine q_calls Try.func25 (by kernel_rfl) (by kernel_rfl) ?_
  refine q_seq (by kernel_rfl) ?_
  refine q_region (by kernel_rfl) ?_
  refine Ops.new (o := rowL [(i64 a), (Value.bool b), (i64 c)] 29) (V := fun b => (Value.pointer (some ⟨b, 0, none⟩))) (by kernel_rfl) (d := (some 1)) (by kernel_rfl) (fun b => rfl) (fun b1 w2 hb3 H4 K5 hs6 => ?_)
  have nb1 : w.heap.size ≤ b1 := by have := K0.size; omega
  have K7 := K0.trans K5 (U := none_) (fun i h1 h2 => h2) (fun i h1 h2 => by exact h2)
  clear K0
  clear K5 hs6
  refine Ops.new (o := rowL [(i64 0), (Value.bool false), (i64 0)] 55) (V := fun b => (Value.pointer (some ⟨b, 0, none⟩))) (by kernel_rfl) (d := (some 2)) (by kernel_rfl) (fun b => rfl) (fun b8 w9 hb10 H11 K12 hs13 => ?_)
  have lb8 : b1 < b8 := by have := H4.lt; omega
  have nb8 : w.heap.size ≤ b8 := by have := K7.size; omega
  have H14 := H4.keep K12 (fun h => h)
  clear H4
  have K15 := K7.trans K12 (U := none_) (fun i h1 h2 => h2) (fun i h1 h2 => by exact h2)
  clear K7
  clear K12 hs13
  refine Ops.done (by kernel_rfl) ?_
  refine q_seq (by kernel_rfl) ?_
  refine q_region (by kernel_rfl) ?_
  refine Ops.regs 1 [(1, (Value.pointer (some ⟨b1, 0, none⟩))), (2, (Value.pointer (some ⟨b8, 0, none⟩))), (3, (Value.pointer (some ⟨b1, 0, none⟩)))] (j := 1) (by kernel_rfl) (by kernel_rfl) ?_
  refine Ops.go (v := (i64 a)) (by kernel_rfl) (Runs.load (t := 23) (a := ⟨b1, 0, none⟩) (by kernel_rfl) (H14.loads (by kernel_rfl))) (d := (some 4)) (by kernel_rfl) rfl ?_
  refine Ops.regs 1 [(1, (Value.pointer (some ⟨b1, 0, none⟩))), (2, (Value.pointer (some ⟨b8, 0, none⟩))), (4, (i64 a)), (5, (Value.pointer (some ⟨b1, 1, none⟩)))] (j := 3) (by kernel_rfl) (by kernel_rfl) ?_
  refine Ops.go (v := (Value.bool b)) (by kernel_rfl) (Runs.load (t := 4) (a := ⟨b1, 1, none⟩) (by kernel_rfl) (H14.loads (by kernel_rfl))) (d := (some 6)) (by kernel_rfl) rfl ?_
  refine Ops.regs 1 [(2, (Value.pointer (some ⟨b8, 0, none⟩))), (4, (i64 a)), (6, (Value.bool b)), (7, (Value.pointer (some ⟨b1, 2, none⟩)))] (j := 5) (by kernel_rfl) (by kernel_rfl) ?_
  refine Ops.go (v := (i64 c)) (by kernel_rfl) (Runs.load (t := 2) (a := ⟨b1, 2, none⟩) (by kernel_rfl) (H14.loads (by kernel_rfl))) (d := (some 8)) (by kernel_rfl) rfl ?_
  refine Ops.regs 1 [(2, (Value.pointer (some ⟨b8, 0, none⟩))), (9, (agg [(i64 a), (Value.bool b), (i64 c)]))] (j := 7) (by kernel_rfl) (by kernel_rfl) ?_
  refine Ops.put (t := 55) (b := b8) (off := 0) (v := (agg [(i64 a), (Value.bool b), (i64 c)])) (ys := [(i64 a), (Value.bool b), (i64 c)]) (by kernel_rfl) (by kernel_rfl) H11 (by kernel_rfl) (d := none) (by kernel_rfl) rfl (fun w16 H17 K18 => ?_)
  clear H11
  have H19 := H14.keep K18 (by intro h; change b1 = b8 at h; omega)
  clear H14
  have K20 := K15.trans K18 (U := none_) (fun i h1 h2 => h2) (fun i h1 h2 => by have h2 : i = b8 := h2; exfalso; omega)
  clear K15
  clear K18
  refine Ops.done (by kernel_rfl) ?_
  refine q_ret (by kernel_rfl) ?_
  refine ⟨(agg [(i64 a), (Value.bool b), (i64 c)]), retv_cell rfl rfl (H17.loads (by kernel_rfl)), ?_⟩
  exact ⟨rfl, K20⟩

theorem moving_calls (w : World) (a b c d e' f : Int)  : Calls Try.prog 26 ⟨[(agg [(i64 a), (i64 b), (i64 c), (i64 d), (i64 e'), (i64 f)])]⟩ w (fun e w' => e = .returned (agg [(i64 a), (i64 b), (i64 c), (i64 d), (i64 e'), (i64 f)]) ∧ Keeps none_ w w') := by
  have K0 : Keeps none_ w w := Keeps.refl w
  refine q_calls Try.func26 (by kernel_rfl) (by kernel_rfl) ?_
  refine q_seq (by kernel_rfl) ?_
  refine q_region (by kernel_rfl) ?_
  refine Ops.new (o := rowL [(i64 a), (i64 b), (i64 c), (i64 d), (i64 e'), (i64 f)] 34) (V := fun b => (Value.pointer (some ⟨b, 0, none⟩))) (by kernel_rfl) (d := (some 1)) (by kernel_rfl) (fun b => rfl) (fun b1 w2 hb3 H4 K5 hs6 => ?_)
  have nb1 : w.heap.size ≤ b1 := by have := K0.size; omega
  have K7 := K0.trans K5 (U := none_) (fun i h1 h2 => h2) (fun i h1 h2 => by exact h2)
  clear K0
  clear K5 hs6
  refine Ops.new (o := rowL [(i64 0), (i64 0), (i64 0), (i64 0), (i64 0), (i64 0)] 52) (V := fun b => (Value.pointer (some ⟨b, 0, none⟩))) (by kernel_rfl) (d := (some 2)) (by kernel_rfl) (fun b => rfl) (fun b8 w9 hb10 H11 K12 hs13 => ?_)
  have lb8 : b1 < b8 := by have := H4.lt; omega
  have nb8 : w.heap.size ≤ b8 := by have := K7.size; omega
  have H14 := H4.keep K12 (fun h => h)
  clear H4
  have K15 := K7.trans K12 (U := none_) (fun i h1 h2 => h2) (fun i h1 h2 => by exact h2)
  clear K7
  clear K12 hs13
  refine Ops.done (by kernel_rfl) ?_
  refine q_seq (by kernel_rfl) ?_
  refine q_region (by kernel_rfl) ?_
  refine Ops.regs 1 [(1, (Value.pointer (some ⟨b1, 0, none⟩))), (2, (Value.pointer (some ⟨b8, 0, none⟩))), (3, (Value.pointer (some ⟨b1, 0, none⟩)))] (j := 1) (by kernel_rfl) (by kernel_rfl) ?_
  refine Ops.go (v := (i64 a)) (by kernel_rfl) (Runs.load (t := 3) (a := ⟨b1, 0, none⟩) (by kernel_rfl) (H14.loads (by kernel_rfl))) (d := (some 4)) (by kernel_rfl) rfl ?_
  refine Ops.regs 1 [(1, (Value.pointer (some ⟨b1, 0, none⟩))), (2, (Value.pointer (some ⟨b8, 0, none⟩))), (4, (i64 a)), (5, (Value.pointer (some ⟨b1, 1, none⟩)))] (j := 3) (by kernel_rfl) (by kernel_rfl) ?_
  refine Ops.go (v := (i64 b)) (by kernel_rfl) (Runs.load (t := 3) (a := ⟨b1, 1, none⟩) (by kernel_rfl) (H14.loads (by kernel_rfl))) (d := (some 6)) (by kernel_rfl) rfl ?_
  refine Ops.regs 1 [(1, (Value.pointer (some ⟨b1, 0, none⟩))), (2, (Value.pointer (some ⟨b8, 0, none⟩))), (4, (i64 a)), (6, (i64 b)), (7, (Value.pointer (some ⟨b1, 2, none⟩)))] (j := 5) (by kernel_rfl) (by kernel_rfl) ?_
  refine Ops.go (v := (i64 c)) (by kernel_rfl) (Runs.load (t := 3) (a := ⟨b1, 2, none⟩) (by kernel_rfl) (H14.loads (by kernel_rfl))) (d := (some 8)) (by kernel_rfl) rfl ?_
  refine Ops.regs 1 [(1, (Value.pointer (some ⟨b1, 0, none⟩))), (2, (Value.pointer (some ⟨b8, 0, none⟩))), (4, (i64 a)), (6, (i64 b)), (8, (i64 c)), (9, (Value.pointer (some ⟨b1, 3, none⟩)))] (j := 7) (by kernel_rfl) (by kernel_rfl) ?_
  refine Ops.go (v := (i64 d)) (by kernel_rfl) (Runs.load (t := 2) (a := ⟨b1, 3, none⟩) (by kernel_rfl) (H14.loads (by kernel_rfl))) (d := (some 10)) (by kernel_rfl) rfl ?_
  refine Ops.regs 1 [(1, (Value.pointer (some ⟨b1, 0, none⟩))), (2, (Value.pointer (some ⟨b8, 0, none⟩))), (4, (i64 a)), (6, (i64 b)), (8, (i64 c)), (10, (i64 d)), (11, (Value.pointer (some ⟨b1, 4, none⟩)))] (j := 9) (by kernel_rfl) (by kernel_rfl) ?_
  refine Ops.go (v := (i64 e')) (by kernel_rfl) (Runs.load (t := 3) (a := ⟨b1, 4, none⟩) (by kernel_rfl) (H14.loads (by kernel_rfl))) (d := (some 12)) (by kernel_rfl) rfl ?_
  refine Ops.regs 1 [(2, (Value.pointer (some ⟨b8, 0, none⟩))), (4, (i64 a)), (6, (i64 b)), (8, (i64 c)), (10, (i64 d)), (12, (i64 e')), (13, (Value.pointer (some ⟨b1, 5, none⟩)))] (j := 11) (by kernel_rfl) (by kernel_rfl) ?_
  refine Ops.go (v := (i64 f)) (by kernel_rfl) (Runs.load (t := 2) (a := ⟨b1, 5, none⟩) (by kernel_rfl) (H14.loads (by kernel_rfl))) (d := (some 14)) (by kernel_rfl) rfl ?_
  refine Ops.regs 1 [(2, (Value.pointer (some ⟨b8, 0, none⟩))), (15, (agg [(i64 a), (i64 b), (i64 c), (i64 d), (i64 e'), (i64 f)]))] (j := 13) (by kernel_rfl) (by kernel_rfl) ?_
  refine Ops.put (t := 52) (b := b8) (off := 0) (v := (agg [(i64 a), (i64 b), (i64 c), (i64 d), (i64 e'), (i64 f)])) (ys := [(i64 a), (i64 b), (i64 c), (i64 d), (i64 e'), (i64 f)]) (by kernel_rfl) (by kernel_rfl) H11 (by kernel_rfl) (d := none) (by kernel_rfl) rfl (fun w16 H17 K18 => ?_)
  clear H11
  have H19 := H14.keep K18 (by intro h; change b1 = b8 at h; omega)
  clear H14
  have K20 := K15.trans K18 (U := none_) (fun i h1 h2 => h2) (fun i h1 h2 => by have h2 : i = b8 := h2; exfalso; omega)
  clear K15
  clear K18
  refine Ops.done (by kernel_rfl) ?_
  refine q_ret (by kernel_rfl) ?_
  refine ⟨(agg [(i64 a), (i64 b), (i64 c), (i64 d), (i64 e'), (i64 f)]), retv_cell rfl rfl (H17.loads (by kernel_rfl)), ?_⟩
  exact ⟨rfl, K20⟩

theorem Nil_calls (w : World) (x : Cmd)  : Calls Try.prog 7 ⟨[(agg [(i64 x.kind), (i64 x.slot), (i64 x.shard), (i64 x.n), (i64 x.phase)])]⟩ w (fun e w' => e = .returned (.bool true) ∧ Keeps none_ w w') := by
  have K0 : Keeps none_ w w := Keeps.refl w
  refine q_calls Try.func7 (by kernel_rfl) (by kernel_rfl) ?_
  refine q_seq (by kernel_rfl) ?_
  refine q_region (by kernel_rfl) ?_
  refine Ops.new (o := rowL [(i64 x.kind), (i64 x.slot), (i64 x.shard), (i64 x.n), (i64 x.phase)] 40) (V := fun b => (Value.pointer (some ⟨b, 0, none⟩))) (by kernel_rfl) (d := (some 1)) (by kernel_rfl) (fun b => rfl) (fun b1 w2 hb3 H4 K5 hs6 => ?_)
  have nb1 : w.heap.size ≤ b1 := by have := K0.size; omega
  have K7 := K0.trans K5 (U := none_) (fun i h1 h2 => h2) (fun i h1 h2 => by exact h2)
  clear K0
  clear K5 hs6
  refine Ops.regs 1 [(1, (Value.pointer (some ⟨b1, 0, none⟩))), (2, (Value.bool false))] (j := 2) (by kernel_rfl) (by kernel_rfl) ?_
  refine Ops.done (by kernel_rfl) ?_
  refine q_seq (by kernel_rfl) ?_
  refine q_region (by kernel_rfl) ?_
  refine Ops.regs 1 [(1, (Value.pointer (some ⟨b1, 0, none⟩))), (2, (Value.bool false)), (3, (Value.pointer none))] (j := 1) (by kernel_rfl) (by kernel_rfl) ?_
  refine Ops.done (by kernel_rfl) ?_
  refine q_seq (by kernel_rfl) ?_
  refine q_region (by kernel_rfl) ?_
  refine Ops.regs 1 [(1, (Value.pointer (some ⟨b1, 0, none⟩))), (2, (Value.bool false)), (3, (Value.pointer none)), (9, (Value.pointer none))] (j := 1) (by kernel_rfl) (by kernel_rfl) ?_
  refine Ops.call (by kernel_rfl) (d := (some 10)) (by kernel_rfl) (Audit_nil _ ) ?_
  rintro _ w8 ⟨rfl, K9⟩
  refine ⟨_, _, rfl, rfl, ?_⟩
  have H10 := H4.keep K9 (fun h => h)
  clear H4
  have K11 := K7.trans K9 (U := none_) (fun i h1 h2 => h2) (fun i h1 h2 => by exact h2)
  clear K7
  clear K9
  refine Ops.regs 5 [(1, (Value.pointer (some ⟨b1, 0, none⟩))), (2, (Value.bool false)), (3, (Value.pointer none)), (4, (i64 0)), (5, (i64 0))] (j := 7) (by kernel_rfl) (by kernel_rfl) ?_
  refine Ops.done (by kernel_rfl) ?_
  refine q_seq (by kernel_rfl) ?_
  refine q_region (by kernel_rfl) ?_
  refine Ops.regs 1 [(1, (Value.pointer (some ⟨b1, 0, none⟩))), (2, (Value.bool false)), (3, (Value.pointer none)), (4, (i64 0)), (5, (i64 0)), (13, (agg [(i64 2), (Value.bool false), (i64 0)]))] (j := 1) (by kernel_rfl) (by kernel_rfl) ?_
  refine Ops.new (o := rowL [(i64 0), (Value.bool false), (i64 0)] 55) (V := fun b => (Value.pointer (some ⟨b, 0, none⟩))) (by kernel_rfl) (d := (some 6)) (by kernel_rfl) (fun b => rfl) (fun b12 w13 hb14 H15 K16 hs17 => ?_)
  have lb12 : b1 < b12 := by have := H10.lt; omega
  have nb12 : w.heap.size ≤ b12 := by have := K11.size; omega
  have H18 := H10.keep K16 (fun h => h)
  clear H10
  have K19 := K11.trans K16 (U := none_) (fun i h1 h2 => h2) (fun i h1 h2 => by exact h2)
  clear K11
  clear K16 hs17
  refine Ops.put (t := 55) (b := b12) (off := 0) (v := (agg [(i64 2), (Value.bool false), (i64 0)])) (ys := [(i64 2), (Value.bool false), (i64 0)]) (by kernel_rfl) (by kernel_rfl) H15 (by kernel_rfl) (d := none) (by kernel_rfl) rfl (fun w20 H21 K22 => ?_)
  clear H15
  have H23 := H18.keep K22 (by intro h; change b1 = b12 at h; omega)
  clear H18
  have K24 := K19.trans K22 (U := none_) (fun i h1 h2 => h2) (fun i h1 h2 => by have h2 : i = b12 := h2; exfalso; omega)
  clear K19
  clear K22
  refine Ops.done (by kernel_rfl) ?_
  refine q_seq (by kernel_rfl) ?_
  refine q_region (by kernel_rfl) ?_
  refine Ops.regs 1 [(1, (Value.pointer (some ⟨b1, 0, none⟩))), (2, (Value.bool false)), (3, (Value.pointer none)), (4, (i64 0)), (5, (i64 0)), (6, (Value.pointer (some ⟨b12, 0, none⟩))), (14, (agg [(i64 0), (i64 0), (i64 0), (i64 0), (i64 0), (i64 0)]))] (j := 1) (by kernel_rfl) (by kernel_rfl) ?_
  refine Ops.new (o := rowL [(i64 0), (i64 0), (i64 0), (i64 0), (i64 0), (i64 0)] 52) (V := fun b => (Value.pointer (some ⟨b, 0, none⟩))) (by kernel_rfl) (d := (some 7)) (by kernel_rfl) (fun b => rfl) (fun b25 w26 hb27 H28 K29 hs30 => ?_)
  have lb25 : b12 < b25 := by have := H21.lt; omega
  have nb25 : w.heap.size ≤ b25 := by have := K24.size; omega
  have H31 := H23.keep K29 (fun h => h)
  clear H23
  have H32 := H21.keep K29 (fun h => h)
  clear H21
  have K33 := K24.trans K29 (U := none_) (fun i h1 h2 => h2) (fun i h1 h2 => by exact h2)
  clear K24
  clear K29 hs30
  refine Ops.put (t := 52) (b := b25) (off := 0) (v := (agg [(i64 0), (i64 0), (i64 0), (i64 0), (i64 0), (i64 0)])) (ys := [(i64 0), (i64 0), (i64 0), (i64 0), (i64 0), (i64 0)]) (by kernel_rfl) (by kernel_rfl) H28 (by kernel_rfl) (d := none) (by kernel_rfl) rfl (fun w34 H35 K36 => ?_)
  clear H28
  have H37 := H31.keep K36 (by intro h; change b1 = b25 at h; omega)
  clear H31
  have H38 := H32.keep K36 (by intro h; change b12 = b25 at h; omega)
  clear H32
  have K39 := K33.trans K36 (U := none_) (fun i h1 h2 => h2) (fun i h1 h2 => by have h2 : i = b25 := h2; exfalso; omega)
  clear K33
  clear K36
  refine Ops.done (by kernel_rfl) ?_
  refine q_seq (by kernel_rfl) ?_
  refine q_draw (fun wz => Keeps none_ w34 wz) 52 (by kernel_rfl) (by kernel_rfl) (by kernel_rfl) (fun w40 K41 _ _ => ⟨K41, ?_⟩)
  have H42 := H37.keep K41 (fun h => h)
  clear H37
  have H43 := H38.keep K41 (fun h => h)
  clear H38
  have H44 := H35.keep K41 (fun h => h)
  clear H35
  have K45 := K39.trans K41 (U := none_) (fun i h1 h2 => h2) (fun i h1 h2 => by exact h2)
  clear K39
  refine Dr.strong (S' := (fun wz => Keeps none_ w40 wz)) (Keeps.refl w40) (fun wz hx => K41.trans hx (fun _ _ h => h) (fun _ _ h => h)) ?_
  clear K41
  refine Dr.takes (fuel' := 51) (is' := [0]) [0] [(1, (Value.pointer (some ⟨b1, 0, none⟩))), (2, (Value.bool false)), (3, (Value.pointer none)), (4, (i64 0)), (5, (i64 0)), (6, (Value.pointer (some ⟨b12, 0, none⟩))), (7, (Value.pointer (some ⟨b25, 0, none⟩))), (15, (Value.pointer none))] (by kernel_rfl) rfl (by kernel_rfl) ?_
  refine Dr.take (i := 1) (v := (agg [(i64 x.kind), (i64 x.slot), (i64 x.shard), (i64 x.n), (i64 x.phase)])) (by kernel_rfl) (by kernel_rfl) (fun wz hS => Runs.load (t := 40) (a := ⟨b1, 0, none⟩) (by kernel_rfl) ((H42.keep hS (fun h => h)).loads (by kernel_rfl))) (d := (some 16)) (by kernel_rfl) rfl ?_
  refine Dr.take (i := 5) (v := (agg [(i64 2), (Value.bool false), (i64 0)])) (by kernel_rfl) (by kernel_rfl) (fun wz hS => Runs.load (t := 55) (a := ⟨b12, 0, none⟩) (by kernel_rfl) ((H43.keep hS (fun h => h)).loads (by kernel_rfl))) (d := (some 20)) (by kernel_rfl) rfl ?_
  refine Dr.call (i := 2) (by kernel_rfl) (by kernel_rfl) (d := (some 17)) (by kernel_rfl) (fun _ => given_calls _ ⟨x.kind, x.slot, x.shard, x.n, x.phase⟩) ?_
  rintro _ w46 ⟨rfl, K47⟩
  have H48 := H42.keep K47 (fun h => h)
  clear H42
  have H49 := H43.keep K47 (fun h => h)
  clear H43
  have H50 := H44.keep K47 (fun h => h)
  clear H44
  have K51 := K45.trans K47 (U := none_) (fun i h1 h2 => h2) (fun i h1 h2 => by exact h2)
  clear K45
  refine ⟨_, _, rfl, rfl, K47, ?_⟩
  refine Dr.strong (S' := (fun wz => Keeps none_ w46 wz)) (Keeps.refl w46) (fun wz hx => K47.trans hx (fun _ _ h => h) (fun _ _ h => h)) ?_
  clear K47
  refine Dr.call (i := 3) (by kernel_rfl) (by kernel_rfl) (d := (some 18)) (by kernel_rfl) (fun _ => Do_nil _ ⟨x.kind, x.slot, x.shard, x.n, x.phase⟩) ?_
  rintro _ w52 ⟨rfl, K53⟩
  have H54 := H48.keep K53 (fun h => h)
  clear H48
  have H55 := H49.keep K53 (fun h => h)
  clear H49
  have H56 := H50.keep K53 (fun h => h)
  clear H50
  have K57 := K51.trans K53 (U := none_) (fun i h1 h2 => h2) (fun i h1 h2 => by exact h2)
  clear K51
  refine ⟨_, _, rfl, rfl, K53, ?_⟩
  refine Dr.strong (S' := (fun wz => Keeps none_ w52 wz)) (Keeps.refl w52) (fun wz hx => K53.trans hx (fun _ _ h => h) (fun _ _ h => h)) ?_
  clear K53
  refine Dr.call (i := 4) (by kernel_rfl) (by kernel_rfl) (d := (some 19)) (by kernel_rfl) (fun _ => taken_calls _ 2 false 0) ?_
  rintro _ w58 ⟨rfl, K59⟩
  have H60 := H54.keep K59 (fun h => h)
  clear H54
  have H61 := H55.keep K59 (fun h => h)
  clear H55
  have H62 := H56.keep K59 (fun h => h)
  clear H56
  have K63 := K57.trans K59 (U := none_) (fun i h1 h2 => h2) (fun i h1 h2 => by exact h2)
  clear K57
  refine ⟨_, _, rfl, rfl, K59, ?_⟩
  refine Dr.strong (S' := (fun wz => Keeps none_ w58 wz)) (Keeps.refl w58) (fun wz hx => K59.trans hx (fun _ _ h => h) (fun _ _ h => h)) ?_
  clear K59
  refine Dr.takes (fuel' := 43) (is' := [8, 7, 6, 4, 3, 2, 5, 1, 0]) [6, 7, 8] [(2, (Value.bool false)), (3, (Value.pointer none)), (4, (i64 0)), (5, (i64 0)), (7, (Value.pointer (some ⟨b25, 0, none⟩))), (22, (Value.bool true)), (23, (Value.pointer none))] (by kernel_rfl) rfl (by kernel_rfl) ?_
  refine Dr.call (i := 9) (by kernel_rfl) (by kernel_rfl) (d := (some 24)) (by kernel_rfl) (fun _ => Owner_nil _ 0) ?_
  rintro _ w64 ⟨rfl, K65⟩
  have H66 := H60.keep K65 (fun h => h)
  clear H60
  have H67 := H61.keep K65 (fun h => h)
  clear H61
  have H68 := H62.keep K65 (fun h => h)
  clear H62
  have K69 := K63.trans K65 (U := none_) (fun i h1 h2 => h2) (fun i h1 h2 => by exact h2)
  clear K63
  refine ⟨_, _, rfl, rfl, K65, ?_⟩
  refine Dr.strong (S' := (fun wz => Keeps none_ w64 wz)) (Keeps.refl w64) (fun wz hx => K65.trans hx (fun _ _ h => h) (fun _ _ h => h)) ?_
  clear K65
  refine Dr.takes (fuel' := 38) (is' := [13, 12, 11, 10, 9, 8, 7, 6, 4, 3, 2, 5, 1, 0]) [10, 11, 12, 13] [(2, (Value.bool false)), (3, (Value.pointer none)), (4, (i64 0)), (5, (i64 0)), (7, (Value.pointer (some ⟨b25, 0, none⟩))), (27, (Value.bool true)), (28, (Value.pointer none))] (by kernel_rfl) rfl (by kernel_rfl) ?_
  refine Dr.call (i := 14) (by kernel_rfl) (by kernel_rfl) (d := (some 29)) (by kernel_rfl) (fun _ => Epoch_nil _ 0) ?_
  rintro _ w70 ⟨rfl, K71⟩
  have H72 := H66.keep K71 (fun h => h)
  clear H66
  have H73 := H67.keep K71 (fun h => h)
  clear H67
  have H74 := H68.keep K71 (fun h => h)
  clear H68
  have K75 := K69.trans K71 (U := none_) (fun i h1 h2 => h2) (fun i h1 h2 => by exact h2)
  clear K69
  refine ⟨_, _, rfl, rfl, K71, ?_⟩
  refine Dr.strong (S' := (fun wz => Keeps none_ w70 wz)) (Keeps.refl w70) (fun wz hx => K71.trans hx (fun _ _ h => h) (fun _ _ h => h)) ?_
  clear K71
  refine Dr.takes (fuel' := 33) (is' := [18, 17, 16, 15, 14, 13, 12, 11, 10, 9, 8, 7, 6, 4, 3, 2, 5, 1, 0]) [15, 16, 17, 18] [(2, (Value.bool false)), (3, (Value.pointer none)), (4, (i64 0)), (5, (i64 0)), (7, (Value.pointer (some ⟨b25, 0, none⟩))), (32, (Value.bool true)), (33, (Value.pointer none))] (by kernel_rfl) rfl (by kernel_rfl) ?_
  refine Dr.take (i := 21) (v := (agg [(i64 0), (i64 0), (i64 0), (i64 0), (i64 0), (i64 0)])) (by kernel_rfl) (by kernel_rfl) (fun wz hS => Runs.load (t := 52) (a := ⟨b25, 0, none⟩) (by kernel_rfl) ((H74.keep hS (fun h => h)).loads (by kernel_rfl))) (d := (some 36)) (by kernel_rfl) rfl ?_
  refine Dr.call (i := 19) (by kernel_rfl) (by kernel_rfl) (d := (some 34)) (by kernel_rfl) (fun _ => Move_nil _ ) ?_
  rintro _ w76 ⟨rfl, K77⟩
  have H78 := H72.keep K77 (fun h => h)
  clear H72
  have H79 := H73.keep K77 (fun h => h)
  clear H73
  have H80 := H74.keep K77 (fun h => h)
  clear H74
  have K81 := K75.trans K77 (U := none_) (fun i h1 h2 => h2) (fun i h1 h2 => by exact h2)
  clear K75
  refine ⟨_, _, rfl, rfl, K77, ?_⟩
  refine Dr.strong (S' := (fun wz => Keeps none_ w76 wz)) (Keeps.refl w76) (fun wz hx => K77.trans hx (fun _ _ h => h) (fun _ _ h => h)) ?_
  clear K77
  refine Dr.call (i := 20) (by kernel_rfl) (by kernel_rfl) (d := (some 35)) (by kernel_rfl) (fun _ => moving_calls _ 0 0 0 0 0 0) ?_
  rintro _ w82 ⟨rfl, K83⟩
  have H84 := H78.keep K83 (fun h => h)
  clear H78
  have H85 := H79.keep K83 (fun h => h)
  clear H79
  have H86 := H80.keep K83 (fun h => h)
  clear H80
  have K87 := K81.trans K83 (U := none_) (fun i h1 h2 => h2) (fun i h1 h2 => by exact h2)
  clear K81
  refine ⟨_, _, rfl, rfl, K83, ?_⟩
  refine Dr.strong (S' := (fun wz => Keeps none_ w82 wz)) (Keeps.refl w82) (fun wz hx => K83.trans hx (fun _ _ h => h) (fun _ _ h => h)) ?_
  clear K83
  refine Dr.takes (fuel' := 18) (is' := [33, 32, 31, 30, 29, 28, 27, 26, 25, 24, 23, 22, 20, 19, 21, 18, 17, 16, 15, 14, 13, 12, 11, 10, 9, 8, 7, 6, 4, 3, 2, 5, 1, 0]) [22, 23, 24, 25, 26, 27, 28, 29, 30, 31, 32, 33] [(2, (Value.bool false)), (3, (Value.pointer none)), (47, (Value.bool true)), (48, (Value.pointer none))] (by kernel_rfl) rfl (by kernel_rfl) ?_
  refine Dr.call (i := 34) (by kernel_rfl) (by kernel_rfl) (d := (some 49)) (by kernel_rfl) (fun _ => Shards_nil _ ) ?_
  rintro _ w88 ⟨rfl, K89⟩
  have H90 := H84.keep K89 (fun h => h)
  clear H84
  have H91 := H85.keep K89 (fun h => h)
  clear H85
  have H92 := H86.keep K89 (fun h => h)
  clear H86
  have K93 := K87.trans K89 (U := none_) (fun i h1 h2 => h2) (fun i h1 h2 => by exact h2)
  clear K87
  refine ⟨_, _, rfl, rfl, K89, ?_⟩
  refine Dr.strong (S' := (fun wz => Keeps none_ w88 wz)) (Keeps.refl w88) (fun wz hx => K89.trans hx (fun _ _ h => h) (fun _ _ h => h)) ?_
  clear K89
  refine Dr.takes (fuel' := 13) (is' := [38, 37, 36, 35, 34, 33, 32, 31, 30, 29, 28, 27, 26, 25, 24, 23, 22, 20, 19, 21, 18, 17, 16, 15, 14, 13, 12, 11, 10, 9, 8, 7, 6, 4, 3, 2, 5, 1, 0]) [35, 36, 37, 38] [(2, (Value.bool false)), (3, (Value.pointer none)), (52, (Value.bool true)), (53, (Value.pointer none))] (by kernel_rfl) rfl (by kernel_rfl) ?_
  refine Dr.call (i := 39) (by kernel_rfl) (by kernel_rfl) (d := (some 54)) (by kernel_rfl) (fun _ => Image_nil _ ) ?_
  rintro _ w94 ⟨rfl, K95⟩
  have H96 := H90.keep K95 (fun h => h)
  clear H90
  have H97 := H91.keep K95 (fun h => h)
  clear H91
  have H98 := H92.keep K95 (fun h => h)
  clear H92
  have K99 := K93.trans K95 (U := none_) (fun i h1 h2 => h2) (fun i h1 h2 => by exact h2)
  clear K93
  refine ⟨_, _, rfl, rfl, K95, ?_⟩
  refine Dr.strong (S' := (fun wz => Keeps none_ w94 wz)) (Keeps.refl w94) (fun wz hx => K95.trans hx (fun _ _ h => h) (fun _ _ h => h)) ?_
  clear K95
  refine Dr.takes (fuel' := 7) (is' := [44, 43, 42, 41, 40, 39, 38, 37, 36, 35, 34, 33, 32, 31, 30, 29, 28, 27, 26, 25, 24, 23, 22, 20, 19, 21, 18, 17, 16, 15, 14, 13, 12, 11, 10, 9, 8, 7, 6, 4, 3, 2, 5, 1, 0]) [40, 41, 42, 43, 44] [(2, (Value.bool false)), (58, (Value.bool true)), (59, (Value.pointer none))] (by kernel_rfl) rfl (by kernel_rfl) ?_
  refine Dr.call (i := 45) (by kernel_rfl) (by kernel_rfl) (d := (some 60)) (by kernel_rfl) (fun _ => Copy_nil _ ) ?_
  rintro _ w100 ⟨rfl, K101⟩
  have H102 := H96.keep K101 (fun h => h)
  clear H96
  have H103 := H97.keep K101 (fun h => h)
  clear H97
  have H104 := H98.keep K101 (fun h => h)
  clear H98
  have K105 := K99.trans K101 (U := none_) (fun i h1 h2 => h2) (fun i h1 h2 => by exact h2)
  clear K99
  refine ⟨_, _, rfl, rfl, K101, ?_⟩
  refine Dr.strong (S' := (fun wz => Keeps none_ w100 wz)) (Keeps.refl w100) (fun wz hx => K101.trans hx (fun _ _ h => h) (fun _ _ h => h)) ?_
  clear K101
  refine Dr.takes (fuel' := 3) (is' := [48, 47, 46, 45, 44, 43, 42, 41, 40, 39, 38, 37, 36, 35, 34, 33, 32, 31, 30, 29, 28, 27, 26, 25, 24, 23, 22, 20, 19, 21, 18, 17, 16, 15, 14, 13, 12, 11, 10, 9, 8, 7, 6, 4, 3, 2, 5, 1, 0]) [46, 47, 48] [(2, (Value.bool false)), (63, (Value.bool true))] (by kernel_rfl) rfl (by kernel_rfl) ?_
  refine Dr.call (i := 49) (by kernel_rfl) (by kernel_rfl) (d := (some 64)) (by kernel_rfl) (fun _ => known_calls _) ?_
  rintro _ w106 ⟨rfl, K107⟩
  have H108 := H102.keep K107 (fun h => h)
  clear H102
  have H109 := H103.keep K107 (fun h => h)
  clear H103
  have H110 := H104.keep K107 (fun h => h)
  clear H104
  have K111 := K105.trans K107 (U := none_) (fun i h1 h2 => h2) (fun i h1 h2 => by exact h2)
  clear K105
  refine ⟨_, _, rfl, rfl, K107, ?_⟩
  refine Dr.strong (S' := (fun wz => Keeps none_ w106 wz)) (Keeps.refl w106) (fun wz hx => K107.trans hx (fun _ _ h => h) (fun _ _ h => h)) ?_
  clear K107
  refine Dr.takes (fuel' := 0) (is' := [51, 50, 49, 48, 47, 46, 45, 44, 43, 42, 41, 40, 39, 38, 37, 36, 35, 34, 33, 32, 31, 30, 29, 28, 27, 26, 25, 24, 23, 22, 20, 19, 21, 18, 17, 16, 15, 14, 13, 12, 11, 10, 9, 8, 7, 6, 4, 3, 2, 5, 1, 0]) [50, 51] [(2, (Value.bool true))] (by kernel_rfl) rfl (by kernel_rfl) ?_
  refine Dr.done (by kernel_rfl) ?_
  refine q_ret (by kernel_rfl) ?_
  refine ⟨(Value.bool true), retv_tmp rfl rfl, ?_⟩
  exact ⟨rfl, K111⟩
end Go.Proofs.Ytoljbckhoigibaa
