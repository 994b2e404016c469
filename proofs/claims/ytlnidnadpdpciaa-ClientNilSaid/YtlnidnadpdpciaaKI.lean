/- a desk that is not there -/
import Derived.Test.YtlnidnadpdpciaaProg
import Derived.Test.YtlnidnadpdpciaaKH
import Derived.Test.YtlnidnadpdpciaaLV
set_option linter.unusedVariables false
namespace Go.Proofs.Ytlnidnadpdpciaa
open Go.Q Go.RowKit

theorem at_nil (w : World) (n : Int)  : Calls Try.prog 37 ⟨[(Value.pointer none), (i64 n)]⟩ w (fun e w' => e = .returned (Value.pointer none) ∧ Keeps none_ w w') := by
  have K0 : Keeps none_ w w := Keeps.refl w
  refine q_calls Try.func37 (by kernel_rfl) (by kernel_rfl) ?_
  refine q_seq (by kernel_rfl) ?_
  refine q_region (by kernel_rfl) ?_
  refine Ops.regs 1 [(0, (Value.pointer none)), (1, (i64 n)), (4, (Value.pointer none))] (j := 1) (by kernel_rfl) (by kernel_rfl) ?_
  refine Ops.done (by kernel_rfl) ?_
  refine q_seq (by kernel_rfl) ?_
  refine q_seq (by kernel_rfl) ?_
  refine q_region (by kernel_rfl) ?_
  refine Ops.regs 15 [(0, (Value.pointer none)), (1, (i64 n)), (4, (Value.pointer none)), (19, (Value.bool true))] (j := 15) (by kernel_rfl) (by kernel_rfl) ?_
  refine Ops.done (by kernel_rfl) ?_
  refine q_then (o := .tmp 19) (by kernel_rfl) rfl ?_
  refine q_seq (by kernel_rfl) ?_
  refine q_region (by kernel_rfl) ?_
  refine Ops.regs 1 [(0, (Value.pointer none)), (1, (i64 n)), (4, (Value.pointer none))] (j := 1) (by kernel_rfl) (by kernel_rfl) ?_
  refine Ops.done (by kernel_rfl) ?_
  refine q_ret (by kernel_rfl) ?_
  refine ⟨(Value.pointer none), retv_tmp rfl rfl, ?_⟩
  exact ⟨rfl, K0⟩

theorem Get_nil (w : World) (n : Int)  : Calls Try.prog 12 ⟨[(Value.pointer none), (i64 n)]⟩ w (fun e w' => e = .returned (Value.tuple #[(agg [(i64 0), (Value.string ByteArray.empty), (Value.string ByteArray.empty), (i64 0), (Value.string ByteArray.empty), (i64 0), (i64 0)]), (agg [(i64 0), (i64 0), (Value.slice none 0 0)]), (Value.bool false)]) ∧ Keeps none_ w w') := by
  have K0 : Keeps none_ w w := Keeps.refl w
  refine q_calls Try.func12 (by kernel_rfl) (by kernel_rfl) ?_
  refine q_seq (by kernel_rfl) ?_
  refine q_region (by kernel_rfl) ?_
  refine Ops.new (o := rowL [(i64 0), (Value.string ByteArray.empty), (Value.string ByteArray.empty), (i64 0), (Value.string ByteArray.empty), (i64 0), (i64 0)] 23) (V := fun b => (ptr b)) (by kernel_rfl) (d := (some 4)) (by kernel_rfl) (fun b => rfl) (fun b1 w2 hb3 H4 K5 hs6 => ?_)
  have nb1 : w.heap.size ≤ b1 := by have := K0.size; omega
  replace K0 := K0.trans K5 (U := none_) (fun i h1 h2 => h2) (fun i h1 h2 => by exact h2)
  clear K5 hs6
  refine Ops.new (o := rowL [(i64 0), (i64 0), (Value.slice none 0 0)] 27) (V := fun b => (ptr b)) (by kernel_rfl) (d := (some 5)) (by kernel_rfl) (fun b => rfl) (fun b7 w8 hb9 H10 K11 hs12 => ?_)
  have lb7 : b1 < b7 := by have := H4.lt; omega
  have nb7 : w.heap.size ≤ b7 := by have := K0.size; omega
  replace K0 := K0.trans K11 (U := none_) (fun i h1 h2 => h2) (fun i h1 h2 => by exact h2)
  replace H4 := H4.keep K11 (fun h => h)
  clear K11 hs12
  refine Ops.regs 1 [(0, (Value.pointer none)), (1, (i64 n)), (4, (ptr b1)), (5, (ptr b7)), (6, (Value.bool false))] (j := 3) (by kernel_rfl) (by kernel_rfl) ?_
  refine Ops.done (by kernel_rfl) ?_
  refine q_seq (by kernel_rfl) ?_
  refine q_region (by kernel_rfl) ?_
  refine Ops.regs 2 [(4, (ptr b1)), (5, (ptr b7)), (6, (Value.bool false)), (8, (Value.pointer none)), (9, (i64 n))] (j := 2) (by kernel_rfl) (by kernel_rfl) ?_
  refine Ops.call (by kernel_rfl) (d := (some 10)) (by kernel_rfl) (at_nil _ n) ?_
  rintro _ w14 ⟨rfl, K13⟩
  refine ⟨_, _, rfl, rfl, ?_⟩
  replace K0 := K0.trans K13 (U := none_) (fun i h1 h2 => h2) (fun i h1 h2 => by exact h2)
  replace H4 := H4.keep K13 (fun h => h)
  replace H10 := H10.keep K13 (fun h => h)
  clear K13
  refine Ops.regs 1 [(4, (ptr b1)), (5, (ptr b7)), (6, (Value.bool false)), (7, (Value.pointer none))] (j := 4) (by kernel_rfl) (by kernel_rfl) ?_
  refine Ops.done (by kernel_rfl) ?_
  refine q_seq (by kernel_rfl) ?_
  refine q_seq (by kernel_rfl) ?_
  refine q_region (by kernel_rfl) ?_
  refine Ops.regs 2 [(4, (ptr b1)), (5, (ptr b7)), (6, (Value.bool false)), (7, (Value.pointer none)), (12, (Value.bool true))] (j := 2) (by kernel_rfl) (by kernel_rfl) ?_
  refine Ops.done (by kernel_rfl) ?_
  refine q_then (o := .tmp 12) (by kernel_rfl) rfl ?_
  refine q_seq (by kernel_rfl) ?_
  refine q_region (by kernel_rfl) ?_
  refine Ops.regs 2 [(4, (ptr b1)), (5, (ptr b7)), (6, (Value.bool false)), (7, (Value.pointer none)), (13, (agg [(i64 0), (Value.string ByteArray.empty), (Value.string ByteArray.empty), (i64 0), (Value.string ByteArray.empty), (i64 0), (i64 0)])), (14, (agg [(i64 0), (i64 0), (Value.slice none 0 0)]))] (j := 2) (by kernel_rfl) (by kernel_rfl) ?_
  refine Ops.put (t := 23) (b := b1) (off := 0) (v := (agg [(i64 0), (Value.string ByteArray.empty), (Value.string ByteArray.empty), (i64 0), (Value.string ByteArray.empty), (i64 0), (i64 0)])) (ys := [(i64 0), (Value.string ByteArray.empty), (Value.string ByteArray.empty), (i64 0), (Value.string ByteArray.empty), (i64 0), (i64 0)]) (by kernel_rfl) (by kernel_rfl) H4 (by kernel_rfl) (d := none) (by kernel_rfl) rfl (fun w15 H16 K17 => ?_)
  clear H4
  replace K0 := K0.trans K17 (U := none_) (fun i h1 h2 => h2) (fun i h1 h2 => by have h2 : i = b1 := h2; exfalso; omega)
  replace H10 := H10.keep K17 (by intro h; change b7 = b1 at h; omega)
  clear K17
  refine Ops.put (t := 27) (b := b7) (off := 0) (v := (agg [(i64 0), (i64 0), (Value.slice none 0 0)])) (ys := [(i64 0), (i64 0), (Value.slice none 0 0)]) (by kernel_rfl) (by kernel_rfl) H10 (by kernel_rfl) (d := none) (by kernel_rfl) rfl (fun w18 H19 K20 => ?_)
  clear H10
  replace K0 := K0.trans K20 (U := none_) (fun i h1 h2 => h2) (fun i h1 h2 => by have h2 : i = b7 := h2; exfalso; omega)
  replace H16 := H16.keep K20 (by intro h; change b1 = b7 at h; omega)
  clear K20
  refine Ops.regs 1 [(4, (ptr b1)), (5, (ptr b7)), (6, (Value.bool false)), (7, (Value.pointer none))] (j := 5) (by kernel_rfl) (by kernel_rfl) ?_
  refine Ops.done (by kernel_rfl) ?_
  refine q_ret (by kernel_rfl) ?_
  refine ⟨(Value.tuple #[(agg [(i64 0), (Value.string ByteArray.empty), (Value.string ByteArray.empty), (i64 0), (Value.string ByteArray.empty), (i64 0), (i64 0)]), (agg [(i64 0), (i64 0), (Value.slice none 0 0)]), (Value.bool false)]), retv_cell_cell_tmp rfl rfl (H16.loads (by kernel_rfl)) rfl (H19.loads (by kernel_rfl)) rfl, ?_⟩
  exact ⟨rfl, K0⟩

theorem Begin_nil (w : World) (o : Opm)  : Calls Try.prog 14 ⟨[(Value.pointer none), (agg [(i64 o.kind), (Value.string (str o.frm)), (Value.string (str o.to)), (i64 o.amount), (Value.string (str o.key)), (i64 o.slot), (i64 o.shard)])]⟩ w (fun e w' => e = .returned (i64 (-1)) ∧ Keeps none_ w w') := by
  have K0 : Keeps none_ w w := Keeps.refl w
  refine q_calls Try.func14 (by kernel_rfl) (by kernel_rfl) ?_
  refine q_seq (by kernel_rfl) ?_
  refine q_region (by kernel_rfl) ?_
  refine Ops.new (o := rowL [(i64 o.kind), (Value.string (str o.frm)), (Value.string (str o.to)), (i64 o.amount), (Value.string (str o.key)), (i64 o.slot), (i64 o.shard)] 23) (V := fun b => (ptr b)) (by kernel_rfl) (d := (some 3)) (by kernel_rfl) (fun b => rfl) (fun b1 w2 hb3 H4 K5 hs6 => ?_)
  have nb1 : w.heap.size ≤ b1 := by have := K0.size; omega
  replace K0 := K0.trans K5 (U := none_) (fun i h1 h2 => h2) (fun i h1 h2 => by exact h2)
  clear K5 hs6
  refine Ops.regs 1 [(0, (Value.pointer none)), (3, (ptr b1)), (4, (i64 0))] (j := 2) (by kernel_rfl) (by kernel_rfl) ?_
  refine Ops.done (by kernel_rfl) ?_
  refine q_seq (by kernel_rfl) ?_
  refine q_seq (by kernel_rfl) ?_
  refine q_region (by kernel_rfl) ?_
  refine Ops.regs 10 [(0, (Value.pointer none)), (3, (ptr b1)), (4, (i64 0)), (14, (Value.bool true))] (j := 10) (by kernel_rfl) (by kernel_rfl) ?_
  refine Ops.done (by kernel_rfl) ?_
  refine q_then (o := .tmp 14) (by kernel_rfl) rfl ?_
  refine q_seq (by kernel_rfl) ?_
  refine q_region (by kernel_rfl) ?_
  refine Ops.regs 1 [(0, (Value.pointer none)), (3, (ptr b1)), (4, (i64 (-1)))] (j := 1) (by kernel_rfl) (by kernel_rfl) ?_
  refine Ops.done (by kernel_rfl) ?_
  refine q_ret (by kernel_rfl) ?_
  refine ⟨(i64 (-1)), retv_tmp rfl rfl, ?_⟩
  exact ⟨rfl, K0⟩

theorem Hear_nil (w : World) (n : Int)  : Calls Try.prog 15 ⟨[(Value.pointer none), (i64 n), (agg [(i64 0), (i64 0), (Value.slice none 0 0)])]⟩ w (fun e w' => e = .returned (Value.bool false) ∧ Keeps none_ w w') := by
  have K0 : Keeps none_ w w := Keeps.refl w
  refine q_calls Try.func15 (by kernel_rfl) (by kernel_rfl) ?_
  refine q_seq (by kernel_rfl) ?_
  refine q_region (by kernel_rfl) ?_
  refine Ops.new (o := rowL [(i64 0), (i64 0), (Value.slice none 0 0)] 27) (V := fun b => (ptr b)) (by kernel_rfl) (d := (some 5)) (by kernel_rfl) (fun b => rfl) (fun b1 w2 hb3 H4 K5 hs6 => ?_)
  have nb1 : w.heap.size ≤ b1 := by have := K0.size; omega
  replace K0 := K0.trans K5 (U := none_) (fun i h1 h2 => h2) (fun i h1 h2 => by exact h2)
  clear K5 hs6
  refine Ops.regs 1 [(0, (Value.pointer none)), (1, (i64 n)), (5, (ptr b1)), (6, (Value.bool false))] (j := 2) (by kernel_rfl) (by kernel_rfl) ?_
  refine Ops.done (by kernel_rfl) ?_
  refine q_seq (by kernel_rfl) ?_
  refine q_region (by kernel_rfl) ?_
  refine Ops.regs 2 [(5, (ptr b1)), (6, (Value.bool false)), (8, (Value.pointer none)), (9, (i64 n))] (j := 2) (by kernel_rfl) (by kernel_rfl) ?_
  refine Ops.call (by kernel_rfl) (d := (some 10)) (by kernel_rfl) (at_nil _ n) ?_
  rintro _ w8 ⟨rfl, K7⟩
  refine ⟨_, _, rfl, rfl, ?_⟩
  replace K0 := K0.trans K7 (U := none_) (fun i h1 h2 => h2) (fun i h1 h2 => by exact h2)
  replace H4 := H4.keep K7 (fun h => h)
  clear K7
  refine Ops.regs 1 [(5, (ptr b1)), (6, (Value.bool false)), (7, (Value.pointer none))] (j := 4) (by kernel_rfl) (by kernel_rfl) ?_
  refine Ops.done (by kernel_rfl) ?_
  refine q_seq (by kernel_rfl) ?_
  refine q_seq (by kernel_rfl) ?_
  refine q_region (by kernel_rfl) ?_
  refine Ops.regs 8 [(5, (ptr b1)), (6, (Value.bool false)), (7, (Value.pointer none)), (18, (Value.bool true))] (j := 8) (by kernel_rfl) (by kernel_rfl) ?_
  refine Ops.done (by kernel_rfl) ?_
  refine q_then (o := .tmp 18) (by kernel_rfl) rfl ?_
  refine q_seq (by kernel_rfl) ?_
  refine q_region (by kernel_rfl) ?_
  refine Ops.regs 1 [(5, (ptr b1)), (6, (Value.bool false)), (7, (Value.pointer none))] (j := 1) (by kernel_rfl) (by kernel_rfl) ?_
  refine Ops.done (by kernel_rfl) ?_
  refine q_ret (by kernel_rfl) ?_
  refine ⟨(Value.bool false), retv_tmp rfl rfl, ?_⟩
  exact ⟨rfl, K0⟩

theorem Len_nil (w : World)   : Calls Try.prog 18 ⟨[(Value.pointer none)]⟩ w (fun e w' => e = .returned (i64 0) ∧ Keeps none_ w w') := by
  have K0 : Keeps none_ w w := Keeps.refl w
  refine q_calls Try.func18 (by kernel_rfl) (by kernel_rfl) ?_
  refine q_seq (by kernel_rfl) ?_
  refine q_region (by kernel_rfl) ?_
  refine Ops.regs 1 [(0, (Value.pointer none)), (2, (i64 0))] (j := 1) (by kernel_rfl) (by kernel_rfl) ?_
  refine Ops.done (by kernel_rfl) ?_
  refine q_seq (by kernel_rfl) ?_
  refine q_seq (by kernel_rfl) ?_
  refine q_region (by kernel_rfl) ?_
  refine Ops.regs 2 [(0, (Value.pointer none)), (2, (i64 0)), (4, (Value.bool true))] (j := 2) (by kernel_rfl) (by kernel_rfl) ?_
  refine Ops.done (by kernel_rfl) ?_
  refine q_then (o := .tmp 4) (by kernel_rfl) rfl ?_
  refine q_seq (by kernel_rfl) ?_
  refine q_region (by kernel_rfl) ?_
  refine Ops.regs 1 [(0, (Value.pointer none)), (2, (i64 0))] (j := 1) (by kernel_rfl) (by kernel_rfl) ?_
  refine Ops.done (by kernel_rfl) ?_
  refine q_ret (by kernel_rfl) ?_
  refine ⟨(i64 0), retv_tmp rfl rfl, ?_⟩
  exact ⟨rfl, K0⟩

theorem none_calls (w : World)   : Calls Try.prog 16 ⟨[]⟩ w (fun e w' => e = .returned (agg [(i64 0), (Value.string ByteArray.empty), (Value.string ByteArray.empty), (i64 0), (Value.string ByteArray.empty), (i64 0), (i64 0)]) ∧ Keeps none_ w w') := by
  have K0 : Keeps none_ w w := Keeps.refl w
  refine q_calls Try.func16 (by kernel_rfl) (by kernel_rfl) ?_
  refine q_seq (by kernel_rfl) ?_
  refine q_region (by kernel_rfl) ?_
  refine Ops.new (o := rowL [(i64 0), (Value.string ByteArray.empty), (Value.string ByteArray.empty), (i64 0), (Value.string ByteArray.empty), (i64 0), (i64 0)] 23) (V := fun b => (ptr b)) (by kernel_rfl) (d := (some 0)) (by kernel_rfl) (fun b => rfl) (fun b1 w2 hb3 H4 K5 hs6 => ?_)
  have nb1 : w.heap.size ≤ b1 := by have := K0.size; omega
  replace K0 := K0.trans K5 (U := none_) (fun i h1 h2 => h2) (fun i h1 h2 => by exact h2)
  clear K5 hs6
  refine Ops.done (by kernel_rfl) ?_
  refine q_seq (by kernel_rfl) ?_
  refine q_region (by kernel_rfl) ?_
  refine Ops.regs 1 [(0, (ptr b1)), (1, (agg [(i64 0), (Value.string ByteArray.empty), (Value.string ByteArray.empty), (i64 0), (Value.string ByteArray.empty), (i64 0), (i64 0)]))] (j := 1) (by kernel_rfl) (by kernel_rfl) ?_
  refine Ops.put (t := 23) (b := b1) (off := 0) (v := (agg [(i64 0), (Value.string ByteArray.empty), (Value.string ByteArray.empty), (i64 0), (Value.string ByteArray.empty), (i64 0), (i64 0)])) (ys := [(i64 0), (Value.string ByteArray.empty), (Value.string ByteArray.empty), (i64 0), (Value.string ByteArray.empty), (i64 0), (i64 0)]) (by kernel_rfl) (by kernel_rfl) H4 (by kernel_rfl) (d := none) (by kernel_rfl) rfl (fun w7 H8 K9 => ?_)
  clear H4
  replace K0 := K0.trans K9 (U := none_) (fun i h1 h2 => h2) (fun i h1 h2 => by have h2 : i = b1 := h2; exfalso; omega)
  clear K9
  refine Ops.done (by kernel_rfl) ?_
  refine q_ret (by kernel_rfl) ?_
  refine ⟨(agg [(i64 0), (Value.string ByteArray.empty), (Value.string ByteArray.empty), (i64 0), (Value.string ByteArray.empty), (i64 0), (i64 0)]), retv_cell rfl rfl (H8.loads (by kernel_rfl)), ?_⟩
  exact ⟨rfl, K0⟩

theorem Open_nil (w : World)   : Calls Try.prog 13 ⟨[(Value.pointer none)]⟩ w (fun e w' => ∃ C : Nat, e = .returned (.func (.func 40) ⟨[]⟩ ⟨[ptr C]⟩) ∧ Keeps none_ w w' ∧ Has w' C (rowL [.slice none 0 0] 81) ∧ w.heap.size ≤ C) := by
  have K0 : Keeps none_ w w := Keeps.refl w
  refine q_calls Try.func13 (by kernel_rfl) (by kernel_rfl) ?_
  refine q_seq (by kernel_rfl) ?_
  refine q_region (by kernel_rfl) ?_
  refine Ops.regs 1 [(0, (Value.pointer none)), (2, Value.nilFunc)] (j := 1) (by kernel_rfl) (by kernel_rfl) ?_
  refine Ops.done (by kernel_rfl) ?_
  refine q_seq (by kernel_rfl) ?_
  refine q_region (by kernel_rfl) ?_
  refine Ops.new (o := rowL [(Value.slice none 0 0)] 81) (V := fun b => (ptr b)) (by kernel_rfl) (d := (some 3)) (by kernel_rfl) (fun b => rfl) (fun b1 w2 hb3 H4 K5 hs6 => ?_)
  have nb1 : w.heap.size ≤ b1 := by have := K0.size; omega
  replace K0 := K0.trans K5 (U := none_) (fun i h1 h2 => h2) (fun i h1 h2 => by exact h2)
  clear K5 hs6
  refine Ops.done (by kernel_rfl) ?_
  refine q_seq (by kernel_rfl) ?_
  refine q_seq (by kernel_rfl) ?_
  refine q_region (by kernel_rfl) ?_
  refine Ops.regs 2 [(0, (Value.pointer none)), (2, Value.nilFunc), (3, (ptr b1)), (5, (Value.bool false))] (j := 2) (by kernel_rfl) (by kernel_rfl) ?_
  refine Ops.done (by kernel_rfl) ?_
  refine q_else (o := .tmp 5) (by kernel_rfl) rfl ?_
  refine q_skip (by kernel_rfl) ?_
  refine q_seq (by kernel_rfl) ?_
  refine q_region (by kernel_rfl) ?_
  refine Ops.regs 2 [(2, (Value.func (Fn.func 40) ⟨[]⟩ ⟨[(ptr b1)]⟩))] (j := 2) (by kernel_rfl) (by kernel_rfl) ?_
  refine Ops.done (by kernel_rfl) ?_
  refine q_ret (by kernel_rfl) ?_
  refine ⟨(Value.func (Fn.func 40) ⟨[]⟩ ⟨[(ptr b1)]⟩), retv_tmp rfl rfl, ?_⟩
  exact ⟨_, rfl, K0, H4, nb1⟩

theorem Open1_nil (w : World) (Y : Value) (C : Nat) (H0 : Has w C (rowL [.slice none 0 0] 81)) : Calls Try.prog 40 ⟨[Y, (ptr C)]⟩ w (fun e w' => e = .returned (.tuple #[]) ∧ Keeps none_ w w') := by
  have K0 : Keeps none_ w w := Keeps.refl w
  refine q_calls Try.func40 (by kernel_rfl) (by kernel_rfl) ?_
  refine q_seq (by kernel_rfl) ?_
  refine q_region (by kernel_rfl) ?_
  refine Ops.go (v := (Value.slice none 0 0)) (by kernel_rfl) (Runs.load (t := 81) (a := ⟨C, 0, none⟩) (by kernel_rfl) (H0.loads (by kernel_rfl))) (d := (some 5)) (by kernel_rfl) rfl ?_
  refine Ops.regs 2 [(0, Y), (5, (Value.slice none 0 0)), (6, (i64 0)), (7, (i64 0))] (j := 3) (by kernel_rfl) (by kernel_rfl) ?_
  refine Ops.done (by kernel_rfl) ?_
  refine q_block (id := 0) (by kernel_rfl) ?_
  refine q_roll 1 (by kernel_rfl) ?_
  refine roll_step ?_
  refine q_seq (by kernel_rfl) ?_
  refine q_region (by kernel_rfl) ?_
  refine Ops.regs 1 [(0, Y), (5, (Value.slice none 0 0)), (6, (i64 0)), (7, (i64 0)), (8, (Value.bool false))] (j := 1) (by kernel_rfl) (by kernel_rfl) ?_
  refine Ops.done (by kernel_rfl) ?_
  refine q_seq (by kernel_rfl) ?_
  refine q_else (o := .tmp 8) (by kernel_rfl) rfl ?_
  refine q_exit (id := 0) (by kernel_rfl) ?_
  refine ⟨(Value.tuple #[]), retv_none rfl, ?_⟩
  exact ⟨rfl, K0⟩

theorem Open1_tells0 (w0 : World) (m : Nat) (C : Nat) (T : Nat → Prop) (hC : Has w0 C (rowL [.slice none 0 0] 81)) (hTC : ¬ T C) : TellsN Try.prog m 40 [ptr C] (fun _ _ _ => False) T 0 w0 := by
  intro l J W hW hJ hY h0
  exact (Open1_nil W _ C (hC.keep hW hTC)).mono fun e W' ⟨he, hk⟩ => ⟨⟨_, he⟩, hJ _ _ _ h0 hk⟩
end Go.Proofs.Ytlnidnadpdpciaa
