/- chart: ChartAudits returns true, printed by a program of this session -/
import Derived.Test.YtoljbckhoigibaaProg
import Derived.Test.YtoljbckhoigibaaChart5
import Derived.Test.YtoljbckhoigibaaC
set_option linter.unusedVariables false
namespace Go.Proofs.Ytoljbckhoigibaa
open Go.Q Go.RowKit

theorem given_calls (w : World) (x : Cmd)  : Calls Try.prog 19 ⟨[(agg [(i64 x.kind), (i64 x.slot), (i64 x.shard), (i64 x.n), (i64 x.phase)])]⟩ w (fun e w' => e = .returned x.v ∧ Keeps none_ w w') := by
  have K0 : Keeps none_ w w := Keeps.refl w
  refine q_calls Try.func19 (by kernel_rfl) (by kernel_rfl) ?_
  refine q_seq (by kernel_rfl) ?_
  refine q_region (by kernel_rfl) ?_
  refine Ops.new (o := rowL [(i64 x.kind), (i64 x.slot), (i64 x.shard), (i64 x.n), (i64 x.phase)] 40) (V := fun b => (Value.pointer (some ⟨b, 0, none⟩))) (by kernel_rfl) (d := (some 1)) (by kernel_rfl) (fun b => rfl) (fun b1 w2 hb3 H4 K5 hs6 => ?_)
  have nb1 : w.heap.size ≤ b1 := by have := K0.size; omega
  have K7 := K0.trans K5 (U := none_) (fun i h1 h2 => h2) (fun i h1 h2 => by exact h2)
  clear K0
  clear K5 hs6
  refine Ops.new (o := rowL [(i64 0), (i64 0), (i64 0), (i64 0), (i64 0)] 32) (V := fun b => (Value.pointer (some ⟨b, 0, none⟩))) (by kernel_rfl) (d := (some 2)) (by kernel_rfl) (fun b => rfl) (fun b8 w9 hb10 H11 K12 hs13 => ?_)
  have lb8 : b1 < b8 := by have := H4.lt; omega
  have nb8 : w.heap.size ≤ b8 := by have := K7.size; omega
  have H14 := H4.keep K12 (fun h => h)
  clear H4
  have K15 := K7.trans K12 (U := none_) (fun i h1 h2 => h2) (fun i h1 h2 => by exact h2)
  clear K7
  clear K12 hs13
  refine Ops.done (by kernel_rfl) ?_
  refine q_seq (by kernel_rfl) ?_
  refine q_region (by kernel_rfl) ?_
  refine Ops.regs 1 [(1, (Value.pointer (some ⟨b1, 0, none⟩))), (2, (Value.pointer (some ⟨b8, 0, none⟩))), (3, (Value.pointer (some ⟨b1, 0, none⟩)))] (j := 1) (by kernel_rfl) (by kernel_rfl) ?_
  refine Ops.go (v := (i64 x.kind)) (by kernel_rfl) (Runs.load (t := 3) (a := ⟨b1, 0, none⟩) (by kernel_rfl) (H14.loads (by kernel_rfl))) (d := (some 4)) (by kernel_rfl) rfl ?_
  refine Ops.regs 1 [(1, (Value.pointer (some ⟨b1, 0, none⟩))), (2, (Value.pointer (some ⟨b8, 0, none⟩))), (4, (i64 x.kind)), (5, (Value.pointer (some ⟨b1, 1, none⟩)))] (j := 3) (by kernel_rfl) (by kernel_rfl) ?_
  refine Ops.go (v := (i64 x.slot)) (by kernel_rfl) (Runs.load (t := 3) (a := ⟨b1, 1, none⟩) (by kernel_rfl) (H14.loads (by kernel_rfl))) (d := (some 6)) (by kernel_rfl) rfl ?_
  refine Ops.regs 1 [(1, (Value.pointer (some ⟨b1, 0, none⟩))), (2, (Value.pointer (some ⟨b8, 0, none⟩))), (4, (i64 x.kind)), (6, (i64 x.slot)), (7, (Value.pointer (some ⟨b1, 2, none⟩)))] (j := 5) (by kernel_rfl) (by kernel_rfl) ?_
  refine Ops.go (v := (i64 x.shard)) (by kernel_rfl) (Runs.load (t := 3) (a := ⟨b1, 2, none⟩) (by kernel_rfl) (H14.loads (by kernel_rfl))) (d := (some 8)) (by kernel_rfl) rfl ?_
  refine Ops.regs 1 [(1, (Value.pointer (some ⟨b1, 0, none⟩))), (2, (Value.pointer (some ⟨b8, 0, none⟩))), (4, (i64 x.kind)), (6, (i64 x.slot)), (8, (i64 x.shard)), (9, (Value.pointer (some ⟨b1, 3, none⟩)))] (j := 7) (by kernel_rfl) (by kernel_rfl) ?_
  refine Ops.go (v := (i64 x.n)) (by kernel_rfl) (Runs.load (t := 2) (a := ⟨b1, 3, none⟩) (by kernel_rfl) (H14.loads (by kernel_rfl))) (d := (some 10)) (by kernel_rfl) rfl ?_
  refine Ops.regs 1 [(2, (Value.pointer (some ⟨b8, 0, none⟩))), (4, (i64 x.kind)), (6, (i64 x.slot)), (8, (i64 x.shard)), (10, (i64 x.n)), (11, (Value.pointer (some ⟨b1, 4, none⟩)))] (j := 9) (by kernel_rfl) (by kernel_rfl) ?_
  refine Ops.go (v := (i64 x.phase)) (by kernel_rfl) (Runs.load (t := 3) (a := ⟨b1, 4, none⟩) (by kernel_rfl) (H14.loads (by kernel_rfl))) (d := (some 12)) (by kernel_rfl) rfl ?_
  refine Ops.regs 1 [(2, (Value.pointer (some ⟨b8, 0, none⟩))), (13, (agg [(i64 x.kind), (i64 x.slot), (i64 x.shard), (i64 x.n), (i64 x.phase)]))] (j := 11) (by kernel_rfl) (by kernel_rfl) ?_
  refine Ops.put (t := 32) (b := b8) (off := 0) (v := (agg [(i64 x.kind), (i64 x.slot), (i64 x.shard), (i64 x.n), (i64 x.phase)])) (ys := [(i64 x.kind), (i64 x.slot), (i64 x.shard), (i64 x.n), (i64 x.phase)]) (by kernel_rfl) (by kernel_rfl) H11 (by kernel_rfl) (d := none) (by kernel_rfl) rfl (fun w16 H17 K18 => ?_)
  clear H11
  have H19 := H14.keep K18 (by intro h; change b1 = b8 at h; omega)
  clear H14
  have K20 := K15.trans K18 (U := none_) (fun i h1 h2 => h2) (fun i h1 h2 => by have h2 : i = b8 := h2; exfalso; omega)
  clear K15
  clear K18
  refine Ops.done (by kernel_rfl) ?_
  refine q_ret (by kernel_rfl) ?_
  refine ⟨(agg [(i64 x.kind), (i64 x.slot), (i64 x.shard), (i64 x.n), (i64 x.phase)]), retv_cell rfl rfl (H17.loads (by kernel_rfl)), ?_⟩
  exact ⟨rfl, K20⟩

theorem Audits_none (w : World) (s : Int) (A : Option Addr) (n cap : Nat) (l : List Cmd) (h : ¬ (1 ≤ s ∧ s ≤ 3)) : Calls Try.prog 4 ⟨[(i64 s), (Value.slice A n cap)]⟩ w (fun e w' => e = .returned (.bool true) ∧ Keeps none_ w w') := by
  have K0 : Keeps none_ w w := Keeps.refl w
  refine q_calls Try.func4 (by kernel_rfl) (by kernel_rfl) ?_
  refine q_seq (by kernel_rfl) ?_
  refine q_region (by kernel_rfl) ?_
  refine Ops.regs 1 [(0, (i64 s)), (1, (Value.slice A n cap)), (4, (Value.bool false))] (j := 1) (by kernel_rfl) (by kernel_rfl) ?_
  refine Ops.done (by kernel_rfl) ?_
  refine q_seq (by kernel_rfl) ?_
  refine q_region (by kernel_rfl) ?_
  refine Ops.regs 1 [(1, (Value.slice A n cap)), (4, (Value.bool false)), (13, (i64 s))] (j := 1) (by kernel_rfl) (by kernel_rfl) ?_
  refine Ops.call (by kernel_rfl) (d := (some 14)) (by kernel_rfl) (New_bad _ s (by omega)) ?_
  rintro _ w1 ⟨rfl, K2⟩
  refine ⟨_, _, rfl, rfl, ?_⟩
  have K3 := K0.trans K2 (U := none_) (fun i h1 h2 => h2) (fun i h1 h2 => by exact h2)
  clear K0
  clear K2
  refine Ops.regs 5 [(1, (Value.slice A n cap)), (4, (Value.bool false)), (5, (Value.pointer none)), (6, (i64 1))] (j := 7) (by kernel_rfl) (by kernel_rfl) ?_
  refine Ops.done (by kernel_rfl) ?_
  refine q_seq (by kernel_rfl) ?_
  refine q_seq (by kernel_rfl) ?_
  refine q_region (by kernel_rfl) ?_
  refine Ops.regs 6 [(1, (Value.slice A n cap)), (4, (Value.bool false)), (5, (Value.pointer none)), (6, (i64 1)), (22, (Value.bool true))] (j := 6) (by kernel_rfl) (by kernel_rfl) ?_
  refine Ops.done (by kernel_rfl) ?_
  refine q_then (o := .tmp 22) (by kernel_rfl) rfl ?_
  refine q_seq (by kernel_rfl) ?_
  refine q_region (by kernel_rfl) ?_
  refine Ops.regs 3 [(1, (Value.slice A n cap)), (4, (Value.bool false)), (5, (Value.pointer none)), (25, (Value.bool true))] (j := 3) (by kernel_rfl) (by kernel_rfl) ?_
  refine Ops.call (by kernel_rfl) (d := (some 26)) (by kernel_rfl) (known_calls _) ?_
  rintro _ w4 ⟨rfl, K5⟩
  refine ⟨_, _, rfl, rfl, ?_⟩
  have K6 := K3.trans K5 (U := none_) (fun i h1 h2 => h2) (fun i h1 h2 => by exact h2)
  clear K3
  clear K5
  refine Ops.regs 2 [(1, (Value.slice A n cap)), (4, (Value.bool true)), (5, (Value.pointer none))] (j := 6) (by kernel_rfl) (by kernel_rfl) ?_
  refine Ops.done (by kernel_rfl) ?_
  refine q_ret (by kernel_rfl) ?_
  refine ⟨(Value.bool true), retv_tmp rfl rfl, ?_⟩
  exact ⟨rfl, K6⟩

theorem Audits_some (w : World) (s : Int) (A : Option Addr) (n cap : Nat) (l : List Cmd) (h : 1 ≤ s ∧ s ≤ 3) (hL : Elems w A n 5 (l.map Cmd.v)) (hn : l.length = n) (hm : n ≤ 9223372036854775807) : Calls Try.prog 4 ⟨[(i64 s), (Value.slice A n cap)]⟩ w (fun e w' => e = .returned (.bool true) ∧ Keeps none_ w w') := by
  have K0 : Keeps none_ w w := Keeps.refl w
  refine q_calls Try.func4 (by kernel_rfl) (by kernel_rfl) ?_
  refine q_seq (by kernel_rfl) ?_
  refine q_region (by kernel_rfl) ?_
  refine Ops.regs 1 [(0, (i64 s)), (1, (Value.slice A n cap)), (4, (Value.bool false))] (j := 1) (by kernel_rfl) (by kernel_rfl) ?_
  refine Ops.done (by kernel_rfl) ?_
  refine q_seq (by kernel_rfl) ?_
  refine q_region (by kernel_rfl) ?_
  refine Ops.regs 1 [(1, (Value.slice A n cap)), (4, (Value.bool false)), (13, (i64 s))] (j := 1) (by kernel_rfl) (by kernel_rfl) ?_
  refine Ops.call (by kernel_rfl) (d := (some 14)) (by kernel_rfl) (New_ok _ s (by omega) (by omega)) ?_
  rintro _ w2 ⟨b1, rfl, q5, K3, H4⟩
  have nb1 : w.heap.size ≤ b1 := by have := K0.size; omega
  clear q5
  have inv6 := newCh_inv s (by omega) (by omega)
  refine ⟨_, _, rfl, rfl, ?_⟩
  have K7 := K0.trans K3 (U := none_) (fun i h1 h2 => h2) (fun i h1 h2 => by exact h2)
  clear K0
  clear K3
  refine Ops.regs 5 [(1, (Value.slice A n cap)), (4, (Value.bool false)), (5, (Value.pointer (some ⟨b1, 0, none⟩))), (6, (i64 0))] (j := 7) (by kernel_rfl) (by kernel_rfl) ?_
  refine Ops.done (by kernel_rfl) ?_
  refine q_seq (by kernel_rfl) ?_
  refine q_seq (by kernel_rfl) ?_
  refine q_region (by kernel_rfl) ?_
  refine Ops.regs 6 [(1, (Value.slice A n cap)), (4, (Value.bool false)), (5, (Value.pointer (some ⟨b1, 0, none⟩))), (6, (i64 0)), (22, (Value.bool false))] (j := 6) (by kernel_rfl) (by kernel_rfl) ?_
  refine Ops.done (by kernel_rfl) ?_
  refine q_else (o := .tmp 22) (by kernel_rfl) rfl ?_
  refine q_skip (by kernel_rfl) ?_
  refine q_seq (by kernel_rfl) ?_
  refine q_seq (by kernel_rfl) ?_
  refine q_region (by kernel_rfl) ?_
  refine Ops.regs 1 [(1, (Value.slice A n cap)), (4, (Value.bool false)), (5, (Value.pointer (some ⟨b1, 0, none⟩))), (7, (i64 0))] (j := 1) (by kernel_rfl) (by kernel_rfl) ?_
  refine Ops.done (by kernel_rfl) ?_
  refine q_block (id := 0) (by kernel_rfl) ?_
  refine q_keep (R := [(1, (Value.slice A n cap)), (4, (Value.bool false)), (5, (Value.pointer (some ⟨b1, 0, none⟩))), (7, (i64 0))]) (by kernel_rfl) ?_
  refine q_loop (fun (gs : Nat × Ch) L (wx : World) => match gs with | (k, c) => L = [(1, (Value.slice A n cap)), (4, (Value.bool false)), (5, (Value.pointer (some ⟨b1, 0, none⟩))), (7, (i64 ((k : Nat) : Int)))] ∧ k ≤ n ∧ k ≤ 60 ∧ c.Inv ∧ c.began ≤ k ∧ Keeps none_ w wx ∧ Has wx b1 (rowL (chL c) 118)) (fun (gs : Nat × Ch) => match gs with | (k, c) => 60 - k) (0, newCh s 16) (by kernel_rfl) ⟨rfl, Nat.zero_le _, Nat.zero_le _, inv6, Int.le_refl _, K7, H4⟩ ?_
  clear H4 K7
  rintro ⟨k, c⟩ _ w8 ⟨rfl, hk, hk2, hc, hcb, K9, H10⟩
  have hbg := hc.bg
  refine q_seq (by kernel_rfl) ?_
  refine q_seq (by kernel_rfl) ?_
  refine q_region (by kernel_rfl) ?_
  refine Ops.regs 5 [(1, (Value.slice A n cap)), (4, (Value.bool false)), (5, (Value.pointer (some ⟨b1, 0, none⟩))), (7, (i64 ((k : Nat) : Int))), (32, (Value.bool (decide (((k : Nat) : Int) < ((n : Nat) : Int)))))] (j := 5) (by kernel_rfl) (by kernel_rfl) ?_
  refine Ops.split (decide (((k : Nat) : Int) < ((n : Nat) : Int))) (fun h11 => ?_) (fun h11 => ?_)
  · rw [h11]
    have p12 : ((k : Nat) : Int) < ((n : Nat) : Int) := of_decide_eq_true h11
    refine Ops.regs 3 [(1, (Value.slice A n cap)), (4, (Value.bool false)), (5, (Value.pointer (some ⟨b1, 0, none⟩))), (7, (i64 ((k : Nat) : Int))), (35, (Value.bool (decide (((k : Nat) : Int) < 60))))] (j := 8) (by kernel_rfl) (by kernel_rfl) ?_
    refine Ops.done (by kernel_rfl) ?_
    refine q_cond (o := .tmp 35) (b := (decide (((k : Nat) : Int) < 60))) (by kernel_rfl) rfl (fun h13 => ?_) (fun h13 => ?_)
    · rw [h13]
      have p14 : ((k : Nat) : Int) < 60 := of_decide_eq_true h13
      obtain ⟨x15, lb16, lo17, hx18, hA19, hLd20⟩ := Elems.at (P := Try.prog) (t := 40) hL (k := k) (by omega) Cmd.l (fun _ => rfl) (by kernel_rfl) (fun _ => by kernel_rfl)
      refine q_skip (by kernel_rfl) ?_
      refine q_seq (by kernel_rfl) ?_
      refine q_block (id := 1) (by kernel_rfl) ?_
      refine q_region (by kernel_rfl) ?_
      refine Ops.regs 3 [(1, (Value.slice A n cap)), (4, (Value.bool false)), (5, (Value.pointer (some ⟨b1, 0, none⟩))), (7, (i64 ((k : Nat) : Int))), (35, (Value.bool true)), (38, (Value.pointer (some ⟨b1, 0, none⟩))), (39, (Value.slice A n cap)), (40, (i64 ((k : Nat) : Int)))] (j := 3) (by kernel_rfl) (by kernel_rfl) ?_
      refine Ops.go (by kernel_rfl) (Runs.ixSliceE (k := IntKind.i64) (t := 38) (len := n) (cap := cap) (s := 5) (off' := lo17 + k * 5) (i := ((k : Nat) : Int)) hA19 (by kernel_rfl) (by kernel_rfl) (by omega) (by omega) (by omega)) (d := (some 41)) (by kernel_rfl) rfl ?_
      refine Ops.go (v := (agg [(i64 x15.kind), (i64 x15.slot), (i64 x15.shard), (i64 x15.n), (i64 x15.phase)])) (by kernel_rfl) (Runs.load (t := 40) (a := ⟨lb16, lo17 + k * 5, none⟩) (by kernel_rfl) (hLd20 _ K9)) (d := (some 42)) (by kernel_rfl) rfl ?_
      refine Ops.call (by kernel_rfl) (d := (some 43)) (by kernel_rfl) (given_calls _ ⟨x15.kind, x15.slot, x15.shard, x15.n, x15.phase⟩) ?_
      rintro _ w21 ⟨rfl, K22⟩
      refine ⟨_, _, rfl, rfl, ?_⟩
      have H23 := H10.keep K22 (fun h => h)
      clear H10
      have K24 := K9.trans K22 (U := none_) (fun i h1 h2 => h2) (fun i h1 h2 => by exact h2)
      clear K9
      clear K22
      refine Ops.call (by kernel_rfl) (d := (some 44)) (by kernel_rfl) (Do_calls _ b1 c ⟨x15.kind, x15.slot, x15.shard, x15.n, x15.phase⟩ hc H23) ?_
      rintro _ w25 ⟨rfl, K26, H27⟩
      refine ⟨_, _, rfl, rfl, ?_⟩
      have K28 := K24.trans K26 (U := none_) (fun i h1 h2 => h2) (fun i h1 h2 => by have h2 : i = b1 := h2; exfalso; omega)
      clear K24
      clear K26
      refine Ops.done (by kernel_rfl) ?_
      refine q_region (by kernel_rfl) ?_
      refine Ops.regs 2 [(1, (Value.slice A n cap)), (4, (Value.bool false)), (5, (Value.pointer (some ⟨b1, 0, none⟩))), (7, (i64 ((k : Nat) : Int))), (35, (Value.bool true)), (37, (i64 (IntKind.i64.wrap (((k : Nat) : Int) + 1))))] (j := 2) (by kernel_rfl) (by kernel_rfl) ?_
      have e29 : IntKind.i64.wrap (((k : Nat) : Int) + 1) = ((k : Nat) : Int) + 1 := wrap_i64 (by omega) (by omega)
      rw [e29]
      refine Ops.regs 1 [(1, (Value.slice A n cap)), (4, (Value.bool false)), (5, (Value.pointer (some ⟨b1, 0, none⟩))), (7, (i64 (((k : Nat) : Int) + 1))), (35, (Value.bool true))] (j := 3) (by kernel_rfl) (by kernel_rfl) ?_
      refine Ops.keep (R := [(1, (Value.slice A n cap)), (4, (Value.bool false)), (5, (Value.pointer (some ⟨b1, 0, none⟩))), (7, (i64 ((k + 1 : Nat) : Int)))]) (by kernel_rfl) ?_
      refine Ops.done (by kernel_rfl) ?_
      exact ⟨(k + 1, (c.do_ ⟨x15.kind, x15.slot, x15.shard, x15.n, x15.phase⟩).2), ⟨rfl, by omega, by omega, Ch.Inv.do_ hc ⟨x15.kind, x15.slot, x15.shard, x15.n, x15.phase⟩, by have := do_began c ⟨x15.kind, x15.slot, x15.shard, x15.n, x15.phase⟩; show _ ≤ ((k + 1 : Nat) : Int); omega, K28, H27⟩, (show 60 - (k + 1) < 60 - k from by omega)⟩
    · rw [h13]
      have p30 : ¬ (((k : Nat) : Int) < 60) := of_decide_eq_false h13
      refine q_exit (id := 0) (by kernel_rfl) ?_
      refine q_seq (by kernel_rfl) ?_
      refine q_region (by kernel_rfl) ?_
      refine Ops.regs 2 [(4, (Value.bool false)), (5, (Value.pointer (some ⟨b1, 0, none⟩))), (45, (Value.pointer (some ⟨b1, 0, none⟩))), (46, (agg [(i64 3), (i64 0), (i64 0), (i64 0), (i64 0)]))] (j := 2) (by kernel_rfl) (by kernel_rfl) ?_
      refine Ops.call (by kernel_rfl) (d := (some 47)) (by kernel_rfl) (Do_calls _ b1 c ⟨3, 0, 0, 0, 0⟩ hc H10) ?_
      rintro _ w31 ⟨rfl, K32, H33⟩
      refine ⟨_, _, rfl, rfl, ?_⟩
      have K34 := K9.trans K32 (U := none_) (fun i h1 h2 => h2) (fun i h1 h2 => by have h2 : i = b1 := h2; exfalso; omega)
      clear K9
      clear K32
      refine Ops.new (o := rowL [(i64 0), (Value.bool false), (i64 0)] 29) (V := fun b => (Value.pointer (some ⟨b, 0, none⟩))) (by kernel_rfl) (d := (some 8)) (by kernel_rfl) (fun b => rfl) (fun b35 w36 hb37 H38 K39 hs40 => ?_)
      have lb35 : b1 < b35 := by have := H33.lt; omega
      have nb35 : w.heap.size ≤ b35 := by have := K34.size; omega
      have H41 := H33.keep K39 (fun h => h)
      clear H33
      have K42 := K34.trans K39 (U := none_) (fun i h1 h2 => h2) (fun i h1 h2 => by exact h2)
      clear K34
      clear K39 hs40
      refine Ops.put (t := 29) (b := b35) (off := 0) (v := (agg [(i64 ((c.do_ ⟨3, 0, 0, 0, 0⟩).1.why)), (Value.bool ((c.do_ ⟨3, 0, 0, 0, 0⟩).1.wait)), (i64 ((c.do_ ⟨3, 0, 0, 0, 0⟩).1.n))])) (ys := [(i64 ((c.do_ ⟨3, 0, 0, 0, 0⟩).1.why)), (Value.bool ((c.do_ ⟨3, 0, 0, 0, 0⟩).1.wait)), (i64 ((c.do_ ⟨3, 0, 0, 0, 0⟩).1.n))]) (by kernel_rfl) (by kernel_rfl) H38 (by kernel_rfl) (d := none) (by kernel_rfl) rfl (fun w43 H44 K45 => ?_)
      clear H38
      have H46 := H41.keep K45 (by intro h; change b1 = b35 at h; omega)
      clear H41
      have K47 := K42.trans K45 (U := none_) (fun i h1 h2 => h2) (fun i h1 h2 => by have h2 : i = b35 := h2; exfalso; omega)
      clear K42
      clear K45
      refine Ops.done (by kernel_rfl) ?_
      refine q_seq (by kernel_rfl) ?_
      refine q_seq (by kernel_rfl) ?_
      refine q_region (by kernel_rfl) ?_
      refine Ops.regs 1 [(4, (Value.bool false)), (5, (Value.pointer (some ⟨b1, 0, none⟩))), (8, (Value.pointer (some ⟨b35, 0, none⟩))), (48, (Value.pointer (some ⟨b35, 1, none⟩)))] (j := 1) (by kernel_rfl) (by kernel_rfl) ?_
      refine Ops.go (v := (Value.bool ((c.do_ ⟨3, 0, 0, 0, 0⟩).1.wait))) (by kernel_rfl) (Runs.load (t := 4) (a := ⟨b35, 1, none⟩) (by kernel_rfl) (H44.loads (by kernel_rfl))) (d := (some 49)) (by kernel_rfl) rfl ?_
      refine Ops.regs 1 [(4, (Value.bool false)), (5, (Value.pointer (some ⟨b1, 0, none⟩))), (8, (Value.pointer (some ⟨b35, 0, none⟩))), (50, (Value.bool (!((c.do_ ⟨3, 0, 0, 0, 0⟩).1.wait))))] (j := 3) (by kernel_rfl) (by kernel_rfl) ?_
      refine Ops.done (by kernel_rfl) ?_
      refine q_cond (o := .tmp 50) (b := (!((c.do_ ⟨3, 0, 0, 0, 0⟩).1.wait))) (by kernel_rfl) rfl (fun h48 => ?_) (fun h48 => ?_)
      · rw [h48]
        have p49 : ((c.do_ ⟨3, 0, 0, 0, 0⟩).1.wait) = false := (bnot_true h48)
        have hw := aud_no (bnot_true h48)
        refine q_seq (by kernel_rfl) ?_
        refine q_region (by kernel_rfl) ?_
        refine Ops.regs 1 [(4, (Value.bool false)), (5, (Value.pointer (some ⟨b1, 0, none⟩))), (8, (Value.pointer (some ⟨b35, 0, none⟩))), (51, (Value.pointer (some ⟨b35, 0, none⟩)))] (j := 1) (by kernel_rfl) (by kernel_rfl) ?_
        refine Ops.go (v := (i64 ((c.do_ ⟨3, 0, 0, 0, 0⟩).1.why))) (by kernel_rfl) (Runs.load (t := 23) (a := ⟨b35, 0, none⟩) (by kernel_rfl) (H44.loads (by kernel_rfl))) (d := (some 52)) (by kernel_rfl) rfl ?_
        refine Ops.regs 2 [(4, (Value.bool false)), (5, (Value.pointer (some ⟨b1, 0, none⟩))), (8, (Value.pointer (some ⟨b35, 0, none⟩))), (54, (Value.bool (((c.do_ ⟨3, 0, 0, 0, 0⟩).1.why) == 50)))] (j := 4) (by kernel_rfl) (by kernel_rfl) ?_
        have h50 : (((c.do_ ⟨3, 0, 0, 0, 0⟩).1.why) == 50) = true := by simp [hw]
        rw [h50]
        refine Ops.call (by kernel_rfl) (d := (some 55)) (by kernel_rfl) (known_calls _) ?_
        rintro _ w51 ⟨rfl, K52⟩
        refine ⟨_, _, rfl, rfl, ?_⟩
        have H53 := H46.keep K52 (fun h => h)
        clear H46
        have H54 := H44.keep K52 (fun h => h)
        clear H44
        have K55 := K47.trans K52 (U := none_) (fun i h1 h2 => h2) (fun i h1 h2 => by exact h2)
        clear K47
        clear K52
        refine Ops.regs 2 [(4, (Value.bool true)), (5, (Value.pointer (some ⟨b1, 0, none⟩))), (8, (Value.pointer (some ⟨b35, 0, none⟩)))] (j := 7) (by kernel_rfl) (by kernel_rfl) ?_
        refine Ops.done (by kernel_rfl) ?_
        refine q_ret (by kernel_rfl) ?_
        refine ⟨(Value.bool true), retv_tmp rfl rfl, ?_⟩
        exact ⟨rfl, K55⟩
      · rw [h48]
        have p56 : ((c.do_ ⟨3, 0, 0, 0, 0⟩).1.wait) = true := (bnot_false h48)
        have hy := aud_yes (bnot_false h48)
        have inv58 := Ch.Inv.do_ hc ⟨3, 0, 0, 0, 0⟩
        have hnn : (c.do_ ⟨3, 0, 0, 0, 0⟩).1.n = c.began + 1 := by rw [hy.1]
        have H57 := H46
        clear H46
        rw [hy.1] at H57 inv58
        have H57 : Has w43 b1 (rowL (chL (aud c)) 118) := H57
        have inv58 : Ch.Inv (aud c) := inv58
        refine q_skip (by kernel_rfl) ?_
        refine q_seq (by kernel_rfl) ?_
        refine q_region (by kernel_rfl) ?_
        refine Ops.regs 1 [(4, (Value.bool false)), (5, (Value.pointer (some ⟨b1, 0, none⟩))), (8, (Value.pointer (some ⟨b35, 0, none⟩))), (58, (Value.pointer (some ⟨b1, 0, none⟩)))] (j := 1) (by kernel_rfl) (by kernel_rfl) ?_
        refine Ops.call (by kernel_rfl) (d := (some 59)) (by kernel_rfl) (Audit_calls _ b1 (aud c)  inv58 H57) ?_
        rintro _ w59 ⟨rfl, K60⟩
        refine ⟨_, _, rfl, rfl, ?_⟩
        have H61 := H57.keep K60 (fun h => h)
        clear H57
        have H62 := H44.keep K60 (fun h => h)
        clear H44
        have K63 := K47.trans K60 (U := none_) (fun i h1 h2 => h2) (fun i h1 h2 => by exact h2)
        clear K47
        clear K60
        refine Ops.regs 5 [(4, (Value.bool false)), (5, (Value.pointer (some ⟨b1, 0, none⟩))), (8, (Value.pointer (some ⟨b35, 0, none⟩))), (9, (i64 (c.began + 1))), (10, (i64 1))] (j := 7) (by kernel_rfl) (by kernel_rfl) ?_
        refine Ops.done (by kernel_rfl) ?_
        refine q_seq (by kernel_rfl) ?_
        refine q_seq (by kernel_rfl) ?_
        refine q_region (by kernel_rfl) ?_
        refine Ops.regs 2 [(4, (Value.bool false)), (5, (Value.pointer (some ⟨b1, 0, none⟩))), (9, (i64 (c.began + 1))), (10, (i64 1)), (62, (i64 (c.began + 1))), (63, (Value.pointer (some ⟨b35, 2, none⟩)))] (j := 2) (by kernel_rfl) (by kernel_rfl) ?_
        refine Ops.go (v := (i64 ((c.do_ ⟨3, 0, 0, 0, 0⟩).1.n))) (by kernel_rfl) (Runs.load (t := 2) (a := ⟨b35, 2, none⟩) (by kernel_rfl) (H62.loads (by kernel_rfl))) (d := (some 64)) (by kernel_rfl) rfl ?_
        refine Ops.regs 2 [(4, (Value.bool false)), (5, (Value.pointer (some ⟨b1, 0, none⟩))), (9, (i64 (c.began + 1))), (10, (i64 1)), (66, (Value.bool ((c.began + 1) != ((c.do_ ⟨3, 0, 0, 0, 0⟩).1.n))))] (j := 5) (by kernel_rfl) (by kernel_rfl) ?_
        have h64 : ((c.began + 1) != ((c.do_ ⟨3, 0, 0, 0, 0⟩).1.n)) = false := bne_f (by omega)
        rw [h64]
        refine Ops.regs 7 [(4, (Value.bool false)), (5, (Value.pointer (some ⟨b1, 0, none⟩))), (9, (i64 (c.began + 1))), (10, (i64 1)), (70, (Value.bool false)), (71, (Value.pointer (some ⟨b1, 0, none⟩))), (73, (agg [(i64 5), (i64 0), (i64 0), (i64 (c.began + 1)), (i64 0)]))] (j := 12) (by kernel_rfl) (by kernel_rfl) ?_
        refine Ops.call (by kernel_rfl) (d := (some 74)) (by kernel_rfl) (Do_calls _ b1 (aud c) ⟨5, 0, 0, c.began + 1, 0⟩ inv58 H61) ?_
        rintro _ w65 ⟨rfl, K66, H67⟩
        have e68 : (aud c).do_ ⟨5, 0, 0, c.began + 1, 0⟩ = (⟨5, false, 0⟩, aud c) := aud_thaw
        have inv69 := Ch.Inv.do_ inv58 ⟨5, 0, 0, c.began + 1, 0⟩
        rw [e68] at H67 inv69 ⊢
        have inv69 : Ch.Inv (aud c) := inv69
        clear e68
        refine ⟨_, _, rfl, rfl, ?_⟩
        have H70 := H62.keep K66 (by intro h; change b35 = b1 at h; omega)
        clear H62
        have K71 := K63.trans K66 (U := none_) (fun i h1 h2 => h2) (fun i h1 h2 => by have h2 : i = b1 := h2; exfalso; omega)
        clear K63
        clear K66
        refine Ops.regs 6 [(4, (Value.bool false)), (5, (Value.pointer (some ⟨b1, 0, none⟩))), (9, (i64 (c.began + 1))), (10, (i64 1)), (78, (Value.bool false)), (79, (Value.pointer (some ⟨b1, 0, none⟩))), (80, (agg [(i64 1), (i64 0), (i64 1), (i64 0), (i64 0)]))] (j := 19) (by kernel_rfl) (by kernel_rfl) ?_
        refine Ops.call (by kernel_rfl) (d := (some 81)) (by kernel_rfl) (Do_calls _ b1 (aud c) ⟨1, 0, 1, 0, 0⟩ inv69 H67) ?_
        rintro _ w72 ⟨rfl, K73, H74⟩
        have e75 : (aud c).do_ ⟨1, 0, 1, 0, 0⟩ = (⟨50, false, 0⟩, aud c) := aud_move inv69
        have inv76 := Ch.Inv.do_ inv69 ⟨1, 0, 1, 0, 0⟩
        rw [e75] at H74 inv76 ⊢
        have inv76 : Ch.Inv (aud c) := inv76
        clear e75
        refine ⟨_, _, rfl, rfl, ?_⟩
        have H77 := H70.keep K73 (by intro h; change b35 = b1 at h; omega)
        clear H70
        have K78 := K71.trans K73 (U := none_) (fun i h1 h2 => h2) (fun i h1 h2 => by have h2 : i = b1 := h2; exfalso; omega)
        clear K71
        clear K73
        refine Ops.regs 3 [(4, (Value.bool false)), (5, (Value.pointer (some ⟨b1, 0, none⟩))), (9, (i64 (c.began + 1))), (10, (i64 1)), (84, (Value.bool false))] (j := 23) (by kernel_rfl) (by kernel_rfl) ?_
        refine Ops.done (by kernel_rfl) ?_
        refine q_else (o := .tmp 84) (by kernel_rfl) rfl ?_
        refine q_skip (by kernel_rfl) ?_
        refine q_seq (by kernel_rfl) ?_
        refine q_seq (by kernel_rfl) ?_
        refine q_region (by kernel_rfl) ?_
        refine Ops.regs 3 [(4, (Value.bool false)), (5, (Value.pointer (some ⟨b1, 0, none⟩))), (9, (i64 (c.began + 1))), (10, (i64 1)), (85, (Value.pointer (some ⟨b1, 0, none⟩))), (87, (agg [(i64 4), (i64 0), (i64 0), (i64 (c.began + 1)), (i64 0)]))] (j := 3) (by kernel_rfl) (by kernel_rfl) ?_
        refine Ops.call (by kernel_rfl) (d := (some 88)) (by kernel_rfl) (Do_calls _ b1 (aud c) ⟨4, 0, 0, c.began + 1, 0⟩ inv76 H74) ?_
        rintro _ w79 ⟨rfl, K80, H81⟩
        have e82 : (aud c).do_ ⟨4, 0, 0, c.began + 1, 0⟩ = (⟨0, false, c.began + 1⟩, aud2 c) := aud_cut
        have inv83 := Ch.Inv.do_ inv76 ⟨4, 0, 0, c.began + 1, 0⟩
        rw [e82] at H81 inv83 ⊢
        have inv83 : Ch.Inv (aud2 c) := inv83
        clear e82
        refine ⟨_, _, rfl, rfl, ?_⟩
        have H84 := H77.keep K80 (by intro h; change b35 = b1 at h; omega)
        clear H77
        have K85 := K78.trans K80 (U := none_) (fun i h1 h2 => h2) (fun i h1 h2 => by have h2 : i = b1 := h2; exfalso; omega)
        clear K78
        clear K80
        refine Ops.regs 6 [(4, (Value.bool false)), (5, (Value.pointer (some ⟨b1, 0, none⟩))), (9, (i64 (c.began + 1))), (10, (i64 1)), (91, (Value.bool false)), (92, (Value.pointer (some ⟨b1, 0, none⟩))), (94, (agg [(i64 4), (i64 0), (i64 0), (i64 (c.began + 1)), (i64 0)]))] (j := 10) (by kernel_rfl) (by kernel_rfl) ?_
        refine Ops.call (by kernel_rfl) (d := (some 95)) (by kernel_rfl) (Do_calls _ b1 (aud2 c) ⟨4, 0, 0, c.began + 1, 0⟩ inv83 H81) ?_
        rintro _ w86 ⟨rfl, K87, H88⟩
        have e89 : (aud2 c).do_ ⟨4, 0, 0, c.began + 1, 0⟩ = (⟨5, false, 0⟩, aud2 c) := aud2_cut
        have inv90 := Ch.Inv.do_ inv83 ⟨4, 0, 0, c.began + 1, 0⟩
        rw [e89] at H88 inv90 ⊢
        have inv90 : Ch.Inv (aud2 c) := inv90
        clear e89
        refine ⟨_, _, rfl, rfl, ?_⟩
        have H91 := H84.keep K87 (by intro h; change b35 = b1 at h; omega)
        clear H84
        have K92 := K85.trans K87 (U := none_) (fun i h1 h2 => h2) (fun i h1 h2 => by have h2 : i = b1 := h2; exfalso; omega)
        clear K85
        clear K87
        refine Ops.regs 6 [(4, (Value.bool false)), (5, (Value.pointer (some ⟨b1, 0, none⟩))), (9, (i64 (c.began + 1))), (10, (i64 1)), (99, (Value.bool false)), (100, (Value.pointer (some ⟨b1, 0, none⟩))), (101, (agg [(i64 3), (i64 0), (i64 0), (i64 0), (i64 0)]))] (j := 17) (by kernel_rfl) (by kernel_rfl) ?_
        refine Ops.call (by kernel_rfl) (d := (some 102)) (by kernel_rfl) (Do_calls _ b1 (aud2 c) ⟨3, 0, 0, 0, 0⟩ inv90 H88) ?_
        rintro _ w93 ⟨rfl, K94, H95⟩
        have e96 : (aud2 c).do_ ⟨3, 0, 0, 0, 0⟩ = (⟨50, false, 0⟩, aud2 c) := aud2_audit
        have inv97 := Ch.Inv.do_ inv90 ⟨3, 0, 0, 0, 0⟩
        rw [e96] at H95 inv97 ⊢
        have inv97 : Ch.Inv (aud2 c) := inv97
        clear e96
        refine ⟨_, _, rfl, rfl, ?_⟩
        have H98 := H91.keep K94 (by intro h; change b35 = b1 at h; omega)
        clear H91
        have K99 := K92.trans K94 (U := none_) (fun i h1 h2 => h2) (fun i h1 h2 => by have h2 : i = b1 := h2; exfalso; omega)
        clear K92
        clear K94
        refine Ops.regs 3 [(4, (Value.bool false)), (5, (Value.pointer (some ⟨b1, 0, none⟩))), (9, (i64 (c.began + 1))), (10, (i64 1)), (105, (Value.bool false))] (j := 21) (by kernel_rfl) (by kernel_rfl) ?_
        refine Ops.done (by kernel_rfl) ?_
        refine q_else (o := .tmp 105) (by kernel_rfl) rfl ?_
        refine q_skip (by kernel_rfl) ?_
        refine q_seq (by kernel_rfl) ?_
        refine q_seq (by kernel_rfl) ?_
        refine q_region (by kernel_rfl) ?_
        refine Ops.regs 3 [(4, (Value.bool false)), (5, (Value.pointer (some ⟨b1, 0, none⟩))), (9, (i64 (c.began + 1))), (10, (i64 1)), (106, (Value.pointer (some ⟨b1, 0, none⟩))), (108, (agg [(i64 5), (i64 0), (i64 0), (i64 (c.began + 1)), (i64 0)]))] (j := 3) (by kernel_rfl) (by kernel_rfl) ?_
        refine Ops.call (by kernel_rfl) (d := (some 109)) (by kernel_rfl) (Do_calls _ b1 (aud2 c) ⟨5, 0, 0, c.began + 1, 0⟩ inv97 H95) ?_
        rintro _ w100 ⟨rfl, K101, H102⟩
        have e103 : (aud2 c).do_ ⟨5, 0, 0, c.began + 1, 0⟩ = (⟨0, false, c.began + 1⟩, aud3 c) := aud2_thaw
        have inv104 := Ch.Inv.do_ inv97 ⟨5, 0, 0, c.began + 1, 0⟩
        rw [e103] at H102 inv104 ⊢
        have inv104 : Ch.Inv (aud3 c) := inv104
        clear e103
        refine ⟨_, _, rfl, rfl, ?_⟩
        have H105 := H98.keep K101 (by intro h; change b35 = b1 at h; omega)
        clear H98
        have K106 := K99.trans K101 (U := none_) (fun i h1 h2 => h2) (fun i h1 h2 => by have h2 : i = b1 := h2; exfalso; omega)
        clear K99
        clear K101
        refine Ops.regs 2 [(4, (Value.bool false)), (5, (Value.pointer (some ⟨b1, 0, none⟩))), (9, (i64 (c.began + 1))), (10, (i64 1)), (111, (Value.bool false))] (j := 6) (by kernel_rfl) (by kernel_rfl) ?_
        refine Ops.done (by kernel_rfl) ?_
        refine q_else (o := .tmp 111) (by kernel_rfl) rfl ?_
        refine q_skip (by kernel_rfl) ?_
        refine q_seq (by kernel_rfl) ?_
        refine q_region (by kernel_rfl) ?_
        refine Ops.regs 1 [(4, (Value.bool false)), (5, (Value.pointer (some ⟨b1, 0, none⟩))), (9, (i64 (c.began + 1))), (10, (i64 1)), (113, (Value.pointer (some ⟨b1, 0, none⟩)))] (j := 1) (by kernel_rfl) (by kernel_rfl) ?_
        refine Ops.call (by kernel_rfl) (d := (some 114)) (by kernel_rfl) (Audit_calls _ b1 (aud3 c)  inv104 H102) ?_
        rintro _ w107 ⟨rfl, K108⟩
        refine ⟨_, _, rfl, rfl, ?_⟩
        have H109 := H102.keep K108 (fun h => h)
        clear H102
        have H110 := H105.keep K108 (fun h => h)
        clear H105
        have K111 := K106.trans K108 (U := none_) (fun i h1 h2 => h2) (fun i h1 h2 => by exact h2)
        clear K106
        clear K108
        refine Ops.regs 4 [(4, (Value.bool false)), (5, (Value.pointer (some ⟨b1, 0, none⟩))), (9, (i64 (c.began + 1))), (10, (i64 0))] (j := 6) (by kernel_rfl) (by kernel_rfl) ?_
        refine Ops.done (by kernel_rfl) ?_
        refine q_seq (by kernel_rfl) ?_
        refine q_region (by kernel_rfl) ?_
        refine Ops.regs 2 [(4, (Value.bool false)), (9, (i64 (c.began + 1))), (10, (i64 0)), (117, (Value.pointer (some ⟨b1, 0, none⟩))), (118, (agg [(i64 3), (i64 0), (i64 0), (i64 0), (i64 0)]))] (j := 2) (by kernel_rfl) (by kernel_rfl) ?_
        refine Ops.call (by kernel_rfl) (d := (some 119)) (by kernel_rfl) (Do_calls _ b1 (aud3 c) ⟨3, 0, 0, 0, 0⟩ inv104 H109) ?_
        rintro _ w112 ⟨rfl, K113, H114⟩
        have e115 : (aud3 c).do_ ⟨3, 0, 0, 0, 0⟩ = (⟨0, true, c.began + 1 + 1⟩, ({ aud3 c with began := c.began + 1 + 1, audit := c.began + 1 + 1, phase := 1 } : Ch)) := aud3_audit hy.2.1 (by omega)
        have inv116 := Ch.Inv.do_ inv104 ⟨3, 0, 0, 0, 0⟩
        rw [e115] at H114 inv116 ⊢
        have inv116 : Ch.Inv ({ aud3 c with began := c.began + 1 + 1, audit := c.began + 1 + 1, phase := 1 } : Ch) := inv116
        clear e115
        refine ⟨_, _, rfl, rfl, ?_⟩
        have H117 := H110.keep K113 (by intro h; change b35 = b1 at h; omega)
        clear H110
        have K118 := K111.trans K113 (U := none_) (fun i h1 h2 => h2) (fun i h1 h2 => by have h2 : i = b1 := h2; exfalso; omega)
        clear K111
        clear K113
        refine Ops.new (o := rowL [(i64 0), (Value.bool false), (i64 0)] 29) (V := fun b => (Value.pointer (some ⟨b, 0, none⟩))) (by kernel_rfl) (d := (some 11)) (by kernel_rfl) (fun b => rfl) (fun b119 w120 hb121 H122 K123 hs124 => ?_)
        have lb119 : b35 < b119 := by have := H117.lt; omega
        have nb119 : w.heap.size ≤ b119 := by have := K118.size; omega
        have H125 := H114.keep K123 (fun h => h)
        clear H114
        have H126 := H117.keep K123 (fun h => h)
        clear H117
        have K127 := K118.trans K123 (U := none_) (fun i h1 h2 => h2) (fun i h1 h2 => by exact h2)
        clear K118
        clear K123 hs124
        refine Ops.put (t := 29) (b := b119) (off := 0) (v := (agg [(i64 0), (Value.bool true), (i64 (c.began + 1 + 1))])) (ys := [(i64 0), (Value.bool true), (i64 (c.began + 1 + 1))]) (by kernel_rfl) (by kernel_rfl) H122 (by kernel_rfl) (d := none) (by kernel_rfl) rfl (fun w128 H129 K130 => ?_)
        clear H122
        have H131 := H125.keep K130 (by intro h; change b1 = b119 at h; omega)
        clear H125
        have H132 := H126.keep K130 (by intro h; change b35 = b119 at h; omega)
        clear H126
        have K133 := K127.trans K130 (U := none_) (fun i h1 h2 => h2) (fun i h1 h2 => by have h2 : i = b119 := h2; exfalso; omega)
        clear K127
        clear K130
        refine Ops.done (by kernel_rfl) ?_
        refine q_seq (by kernel_rfl) ?_
        refine q_region (by kernel_rfl) ?_
        refine Ops.regs 4 [(4, (Value.bool false)), (9, (i64 (c.began + 1))), (11, (Value.pointer (some ⟨b119, 0, none⟩))), (122, (Value.bool true)), (123, (Value.pointer (some ⟨b119, 1, none⟩)))] (j := 4) (by kernel_rfl) (by kernel_rfl) ?_
        refine Ops.go (v := (Value.bool true)) (by kernel_rfl) (Runs.load (t := 4) (a := ⟨b119, 1, none⟩) (by kernel_rfl) (H129.loads (by kernel_rfl))) (d := (some 124)) (by kernel_rfl) rfl ?_
        refine Ops.regs 3 [(4, (Value.bool false)), (9, (i64 (c.began + 1))), (126, (Value.bool true)), (127, (Value.pointer (some ⟨b119, 2, none⟩)))] (j := 8) (by kernel_rfl) (by kernel_rfl) ?_
        refine Ops.go (v := (i64 (c.began + 1 + 1))) (by kernel_rfl) (Runs.load (t := 2) (a := ⟨b119, 2, none⟩) (by kernel_rfl) (H129.loads (by kernel_rfl))) (d := (some 128)) (by kernel_rfl) rfl ?_
        refine Ops.regs 2 [(4, (Value.bool false)), (126, (Value.bool true)), (128, (i64 (c.began + 1 + 1))), (130, (i64 (IntKind.i64.wrap ((c.began + 1) + 1))))] (j := 11) (by kernel_rfl) (by kernel_rfl) ?_
        have e134 : IntKind.i64.wrap ((c.began + 1) + 1) = (c.began + 1) + 1 := wrap_i64 (by omega) (by omega)
        rw [e134]
        refine Ops.regs 3 [(4, (Value.bool false)), (133, (Value.bool ((c.began + 1 + 1) == ((c.began + 1) + 1))))] (j := 14) (by kernel_rfl) (by kernel_rfl) ?_
        have h135 : ((c.began + 1 + 1) == ((c.began + 1) + 1)) = true := by simp
        rw [h135]
        refine Ops.call (by kernel_rfl) (d := (some 134)) (by kernel_rfl) (known_calls _) ?_
        rintro _ w136 ⟨rfl, K137⟩
        refine ⟨_, _, rfl, rfl, ?_⟩
        have H138 := H131.keep K137 (fun h => h)
        clear H131
        have H139 := H132.keep K137 (fun h => h)
        clear H132
        have H140 := H129.keep K137 (fun h => h)
        clear H129
        have K141 := K133.trans K137 (U := none_) (fun i h1 h2 => h2) (fun i h1 h2 => by exact h2)
        clear K133
        clear K137
        refine Ops.regs 2 [(4, (Value.bool true))] (j := 17) (by kernel_rfl) (by kernel_rfl) ?_
        refine Ops.done (by kernel_rfl) ?_
        refine q_ret (by kernel_rfl) ?_
        refine ⟨(Value.bool true), retv_tmp rfl rfl, ?_⟩
        exact ⟨rfl, K141⟩
  · rw [h11]
    have p142 : ¬ (((k : Nat) : Int) < ((n : Nat) : Int)) := of_decide_eq_false h11
    refine Ops.regs 3 [(1, (Value.slice A n cap)), (4, (Value.bool false)), (5, (Value.pointer (some ⟨b1, 0, none⟩))), (7, (i64 ((k : Nat) : Int))), (35, (Value.bool false))] (j := 8) (by kernel_rfl) (by kernel_rfl) ?_
    refine Ops.done (by kernel_rfl) ?_
    refine q_else (o := .tmp 35) (by kernel_rfl) rfl ?_
    refine q_exit (id := 0) (by kernel_rfl) ?_
    refine q_seq (by kernel_rfl) ?_
    refine q_region (by kernel_rfl) ?_
    refine Ops.regs 2 [(4, (Value.bool false)), (5, (Value.pointer (some ⟨b1, 0, none⟩))), (45, (Value.pointer (some ⟨b1, 0, none⟩))), (46, (agg [(i64 3), (i64 0), (i64 0), (i64 0), (i64 0)]))] (j := 2) (by kernel_rfl) (by kernel_rfl) ?_
    refine Ops.call (by kernel_rfl) (d := (some 47)) (by kernel_rfl) (Do_calls _ b1 c ⟨3, 0, 0, 0, 0⟩ hc H10) ?_
    rintro _ w143 ⟨rfl, K144, H145⟩
    refine ⟨_, _, rfl, rfl, ?_⟩
    have K146 := K9.trans K144 (U := none_) (fun i h1 h2 => h2) (fun i h1 h2 => by have h2 : i = b1 := h2; exfalso; omega)
    clear K9
    clear K144
    refine Ops.new (o := rowL [(i64 0), (Value.bool false), (i64 0)] 29) (V := fun b => (Value.pointer (some ⟨b, 0, none⟩))) (by kernel_rfl) (d := (some 8)) (by kernel_rfl) (fun b => rfl) (fun b147 w148 hb149 H150 K151 hs152 => ?_)
    have lb147 : b1 < b147 := by have := H145.lt; omega
    have nb147 : w.heap.size ≤ b147 := by have := K146.size; omega
    have H153 := H145.keep K151 (fun h => h)
    clear H145
    have K154 := K146.trans K151 (U := none_) (fun i h1 h2 => h2) (fun i h1 h2 => by exact h2)
    clear K146
    clear K151 hs152
    refine Ops.put (t := 29) (b := b147) (off := 0) (v := (agg [(i64 ((c.do_ ⟨3, 0, 0, 0, 0⟩).1.why)), (Value.bool ((c.do_ ⟨3, 0, 0, 0, 0⟩).1.wait)), (i64 ((c.do_ ⟨3, 0, 0, 0, 0⟩).1.n))])) (ys := [(i64 ((c.do_ ⟨3, 0, 0, 0, 0⟩).1.why)), (Value.bool ((c.do_ ⟨3, 0, 0, 0, 0⟩).1.wait)), (i64 ((c.do_ ⟨3, 0, 0, 0, 0⟩).1.n))]) (by kernel_rfl) (by kernel_rfl) H150 (by kernel_rfl) (d := none) (by kernel_rfl) rfl (fun w155 H156 K157 => ?_)
    clear H150
    have H158 := H153.keep K157 (by intro h; change b1 = b147 at h; omega)
    clear H153
    have K159 := K154.trans K157 (U := none_) (fun i h1 h2 => h2) (fun i h1 h2 => by have h2 : i = b147 := h2; exfalso; omega)
    clear K154
    clear K157
    refine Ops.done (by kernel_rfl) ?_
    refine q_seq (by kernel_rfl) ?_
    refine q_seq (by kernel_rfl) ?_
    refine q_region (by kernel_rfl) ?_
    refine Ops.regs 1 [(4, (Value.bool false)), (5, (Value.pointer (some ⟨b1, 0, none⟩))), (8, (Value.pointer (some ⟨b147, 0, none⟩))), (48, (Value.pointer (some ⟨b147, 1, none⟩)))] (j := 1) (by kernel_rfl) (by kernel_rfl) ?_
    refine Ops.go (v := (Value.bool ((c.do_ ⟨3, 0, 0, 0, 0⟩).1.wait))) (by kernel_rfl) (Runs.load (t := 4) (a := ⟨b147, 1, none⟩) (by kernel_rfl) (H156.loads (by kernel_rfl))) (d := (some 49)) (by kernel_rfl) rfl ?_
    refine Ops.regs 1 [(4, (Value.bool false)), (5, (Value.pointer (some ⟨b1, 0, none⟩))), (8, (Value.pointer (some ⟨b147, 0, none⟩))), (50, (Value.bool (!((c.do_ ⟨3, 0, 0, 0, 0⟩).1.wait))))] (j := 3) (by kernel_rfl) (by kernel_rfl) ?_
    refine Ops.done (by kernel_rfl) ?_
    refine q_cond (o := .tmp 50) (b := (!((c.do_ ⟨3, 0, 0, 0, 0⟩).1.wait))) (by kernel_rfl) rfl (fun h160 => ?_) (fun h160 => ?_)
    · rw [h160]
      have p161 : ((c.do_ ⟨3, 0, 0, 0, 0⟩).1.wait) = false := (bnot_true h160)
      have hw := aud_no (bnot_true h160)
      refine q_seq (by kernel_rfl) ?_
      refine q_region (by kernel_rfl) ?_
      refine Ops.regs 1 [(4, (Value.bool false)), (5, (Value.pointer (some ⟨b1, 0, none⟩))), (8, (Value.pointer (some ⟨b147, 0, none⟩))), (51, (Value.pointer (some ⟨b147, 0, none⟩)))] (j := 1) (by kernel_rfl) (by kernel_rfl) ?_
      refine Ops.go (v := (i64 ((c.do_ ⟨3, 0, 0, 0, 0⟩).1.why))) (by kernel_rfl) (Runs.load (t := 23) (a := ⟨b147, 0, none⟩) (by kernel_rfl) (H156.loads (by kernel_rfl))) (d := (some 52)) (by kernel_rfl) rfl ?_
      refine Ops.regs 2 [(4, (Value.bool false)), (5, (Value.pointer (some ⟨b1, 0, none⟩))), (8, (Value.pointer (some ⟨b147, 0, none⟩))), (54, (Value.bool (((c.do_ ⟨3, 0, 0, 0, 0⟩).1.why) == 50)))] (j := 4) (by kernel_rfl) (by kernel_rfl) ?_
      have h162 : (((c.do_ ⟨3, 0, 0, 0, 0⟩).1.why) == 50) = true := by simp [hw]
      rw [h162]
      refine Ops.call (by kernel_rfl) (d := (some 55)) (by kernel_rfl) (known_calls _) ?_
      rintro _ w163 ⟨rfl, K164⟩
      refine ⟨_, _, rfl, rfl, ?_⟩
      have H165 := H158.keep K164 (fun h => h)
      clear H158
      have H166 := H156.keep K164 (fun h => h)
      clear H156
      have K167 := K159.trans K164 (U := none_) (fun i h1 h2 => h2) (fun i h1 h2 => by exact h2)
      clear K159
      clear K164
      refine Ops.regs 2 [(4, (Value.bool true)), (5, (Value.pointer (some ⟨b1, 0, none⟩))), (8, (Value.pointer (some ⟨b147, 0, none⟩)))] (j := 7) (by kernel_rfl) (by kernel_rfl) ?_
      refine Ops.done (by kernel_rfl) ?_
      refine q_ret (by kernel_rfl) ?_
      refine ⟨(Value.bool true), retv_tmp rfl rfl, ?_⟩
      exact ⟨rfl, K167⟩
    · rw [h160]
      have p168 : ((c.do_ ⟨3, 0, 0, 0, 0⟩).1.wait) = true := (bnot_false h160)
      have hy := aud_yes (bnot_false h160)
      have inv170 := Ch.Inv.do_ hc ⟨3, 0, 0, 0, 0⟩
      have hnn : (c.do_ ⟨3, 0, 0, 0, 0⟩).1.n = c.began + 1 := by rw [hy.1]
      have H169 := H158
      clear H158
      rw [hy.1] at H169 inv170
      have H169 : Has w155 b1 (rowL (chL (aud c)) 118) := H169
      have inv170 : Ch.Inv (aud c) := inv170
      refine q_skip (by kernel_rfl) ?_
      refine q_seq (by kernel_rfl) ?_
      refine q_region (by kernel_rfl) ?_
      refine Ops.regs 1 [(4, (Value.bool false)), (5, (Value.pointer (some ⟨b1, 0, none⟩))), (8, (Value.pointer (some ⟨b147, 0, none⟩))), (58, (Value.pointer (some ⟨b1, 0, none⟩)))] (j := 1) (by kernel_rfl) (by kernel_rfl) ?_
      refine Ops.call (by kernel_rfl) (d := (some 59)) (by kernel_rfl) (Audit_calls _ b1 (aud c)  inv170 H169) ?_
      rintro _ w171 ⟨rfl, K172⟩
      refine ⟨_, _, rfl, rfl, ?_⟩
      have H173 := H169.keep K172 (fun h => h)
      clear H169
      have H174 := H156.keep K172 (fun h => h)
      clear H156
      have K175 := K159.trans K172 (U := none_) (fun i h1 h2 => h2) (fun i h1 h2 => by exact h2)
      clear K159
      clear K172
      refine Ops.regs 5 [(4, (Value.bool false)), (5, (Value.pointer (some ⟨b1, 0, none⟩))), (8, (Value.pointer (some ⟨b147, 0, none⟩))), (9, (i64 (c.began + 1))), (10, (i64 1))] (j := 7) (by kernel_rfl) (by kernel_rfl) ?_
      refine Ops.done (by kernel_rfl) ?_
      refine q_seq (by kernel_rfl) ?_
      refine q_seq (by kernel_rfl) ?_
      refine q_region (by kernel_rfl) ?_
      refine Ops.regs 2 [(4, (Value.bool false)), (5, (Value.pointer (some ⟨b1, 0, none⟩))), (9, (i64 (c.began + 1))), (10, (i64 1)), (62, (i64 (c.began + 1))), (63, (Value.pointer (some ⟨b147, 2, none⟩)))] (j := 2) (by kernel_rfl) (by kernel_rfl) ?_
      refine Ops.go (v := (i64 ((c.do_ ⟨3, 0, 0, 0, 0⟩).1.n))) (by kernel_rfl) (Runs.load (t := 2) (a := ⟨b147, 2, none⟩) (by kernel_rfl) (H174.loads (by kernel_rfl))) (d := (some 64)) (by kernel_rfl) rfl ?_
      refine Ops.regs 2 [(4, (Value.bool false)), (5, (Value.pointer (some ⟨b1, 0, none⟩))), (9, (i64 (c.began + 1))), (10, (i64 1)), (66, (Value.bool ((c.began + 1) != ((c.do_ ⟨3, 0, 0, 0, 0⟩).1.n))))] (j := 5) (by kernel_rfl) (by kernel_rfl) ?_
      have h176 : ((c.began + 1) != ((c.do_ ⟨3, 0, 0, 0, 0⟩).1.n)) = false := bne_f (by omega)
      rw [h176]
      refine Ops.regs 7 [(4, (Value.bool false)), (5, (Value.pointer (some ⟨b1, 0, none⟩))), (9, (i64 (c.began + 1))), (10, (i64 1)), (70, (Value.bool false)), (71, (Value.pointer (some ⟨b1, 0, none⟩))), (73, (agg [(i64 5), (i64 0), (i64 0), (i64 (c.began + 1)), (i64 0)]))] (j := 12) (by kernel_rfl) (by kernel_rfl) ?_
      refine Ops.call (by kernel_rfl) (d := (some 74)) (by kernel_rfl) (Do_calls _ b1 (aud c) ⟨5, 0, 0, c.began + 1, 0⟩ inv170 H173) ?_
      rintro _ w177 ⟨rfl, K178, H179⟩
      have e180 : (aud c).do_ ⟨5, 0, 0, c.began + 1, 0⟩ = (⟨5, false, 0⟩, aud c) := aud_thaw
      have inv181 := Ch.Inv.do_ inv170 ⟨5, 0, 0, c.began + 1, 0⟩
      rw [e180] at H179 inv181 ⊢
      have inv181 : Ch.Inv (aud c) := inv181
      clear e180
      refine ⟨_, _, rfl, rfl, ?_⟩
      have H182 := H174.keep K178 (by intro h; change b147 = b1 at h; omega)
      clear H174
      have K183 := K175.trans K178 (U := none_) (fun i h1 h2 => h2) (fun i h1 h2 => by have h2 : i = b1 := h2; exfalso; omega)
      clear K175
      clear K178
      refine Ops.regs 6 [(4, (Value.bool false)), (5, (Value.pointer (some ⟨b1, 0, none⟩))), (9, (i64 (c.began + 1))), (10, (i64 1)), (78, (Value.bool false)), (79, (Value.pointer (some ⟨b1, 0, none⟩))), (80, (agg [(i64 1), (i64 0), (i64 1), (i64 0), (i64 0)]))] (j := 19) (by kernel_rfl) (by kernel_rfl) ?_
      refine Ops.call (by kernel_rfl) (d := (some 81)) (by kernel_rfl) (Do_calls _ b1 (aud c) ⟨1, 0, 1, 0, 0⟩ inv181 H179) ?_
      rintro _ w184 ⟨rfl, K185, H186⟩
      have e187 : (aud c).do_ ⟨1, 0, 1, 0, 0⟩ = (⟨50, false, 0⟩, aud c) := aud_move inv181
      have inv188 := Ch.Inv.do_ inv181 ⟨1, 0, 1, 0, 0⟩
      rw [e187] at H186 inv188 ⊢
      have inv188 : Ch.Inv (aud c) := inv188
      clear e187
      refine ⟨_, _, rfl, rfl, ?_⟩
      have H189 := H182.keep K185 (by intro h; change b147 = b1 at h; omega)
      clear H182
      have K190 := K183.trans K185 (U := none_) (fun i h1 h2 => h2) (fun i h1 h2 => by have h2 : i = b1 := h2; exfalso; omega)
      clear K183
      clear K185
      refine Ops.regs 3 [(4, (Value.bool false)), (5, (Value.pointer (some ⟨b1, 0, none⟩))), (9, (i64 (c.began + 1))), (10, (i64 1)), (84, (Value.bool false))] (j := 23) (by kernel_rfl) (by kernel_rfl) ?_
      refine Ops.done (by kernel_rfl) ?_
      refine q_else (o := .tmp 84) (by kernel_rfl) rfl ?_
      refine q_skip (by kernel_rfl) ?_
      refine q_seq (by kernel_rfl) ?_
      refine q_seq (by kernel_rfl) ?_
      refine q_region (by kernel_rfl) ?_
      refine Ops.regs 3 [(4, (Value.bool false)), (5, (Value.pointer (some ⟨b1, 0, none⟩))), (9, (i64 (c.began + 1))), (10, (i64 1)), (85, (Value.pointer (some ⟨b1, 0, none⟩))), (87, (agg [(i64 4), (i64 0), (i64 0), (i64 (c.began + 1)), (i64 0)]))] (j := 3) (by kernel_rfl) (by kernel_rfl) ?_
      refine Ops.call (by kernel_rfl) (d := (some 88)) (by kernel_rfl) (Do_calls _ b1 (aud c) ⟨4, 0, 0, c.began + 1, 0⟩ inv188 H186) ?_
      rintro _ w191 ⟨rfl, K192, H193⟩
      have e194 : (aud c).do_ ⟨4, 0, 0, c.began + 1, 0⟩ = (⟨0, false, c.began + 1⟩, aud2 c) := aud_cut
      have inv195 := Ch.Inv.do_ inv188 ⟨4, 0, 0, c.began + 1, 0⟩
      rw [e194] at H193 inv195 ⊢
      have inv195 : Ch.Inv (aud2 c) := inv195
      clear e194
      refine ⟨_, _, rfl, rfl, ?_⟩
      have H196 := H189.keep K192 (by intro h; change b147 = b1 at h; omega)
      clear H189
      have K197 := K190.trans K192 (U := none_) (fun i h1 h2 => h2) (fun i h1 h2 => by have h2 : i = b1 := h2; exfalso; omega)
      clear K190
      clear K192
      refine Ops.regs 6 [(4, (Value.bool false)), (5, (Value.pointer (some ⟨b1, 0, none⟩))), (9, (i64 (c.began + 1))), (10, (i64 1)), (91, (Value.bool false)), (92, (Value.pointer (some ⟨b1, 0, none⟩))), (94, (agg [(i64 4), (i64 0), (i64 0), (i64 (c.began + 1)), (i64 0)]))] (j := 10) (by kernel_rfl) (by kernel_rfl) ?_
      refine Ops.call (by kernel_rfl) (d := (some 95)) (by kernel_rfl) (Do_calls _ b1 (aud2 c) ⟨4, 0, 0, c.began + 1, 0⟩ inv195 H193) ?_
      rintro _ w198 ⟨rfl, K199, H200⟩
      have e201 : (aud2 c).do_ ⟨4, 0, 0, c.began + 1, 0⟩ = (⟨5, false, 0⟩, aud2 c) := aud2_cut
      have inv202 := Ch.Inv.do_ inv195 ⟨4, 0, 0, c.began + 1, 0⟩
      rw [e201] at H200 inv202 ⊢
      have inv202 : Ch.Inv (aud2 c) := inv202
      clear e201
      refine ⟨_, _, rfl, rfl, ?_⟩
      have H203 := H196.keep K199 (by intro h; change b147 = b1 at h; omega)
      clear H196
      have K204 := K197.trans K199 (U := none_) (fun i h1 h2 => h2) (fun i h1 h2 => by have h2 : i = b1 := h2; exfalso; omega)
      clear K197
      clear K199
      refine Ops.regs 6 [(4, (Value.bool false)), (5, (Value.pointer (some ⟨b1, 0, none⟩))), (9, (i64 (c.began + 1))), (10, (i64 1)), (99, (Value.bool false)), (100, (Value.pointer (some ⟨b1, 0, none⟩))), (101, (agg [(i64 3), (i64 0), (i64 0), (i64 0), (i64 0)]))] (j := 17) (by kernel_rfl) (by kernel_rfl) ?_
      refine Ops.call (by kernel_rfl) (d := (some 102)) (by kernel_rfl) (Do_calls _ b1 (aud2 c) ⟨3, 0, 0, 0, 0⟩ inv202 H200) ?_
      rintro _ w205 ⟨rfl, K206, H207⟩
      have e208 : (aud2 c).do_ ⟨3, 0, 0, 0, 0⟩ = (⟨50, false, 0⟩, aud2 c) := aud2_audit
      have inv209 := Ch.Inv.do_ inv202 ⟨3, 0, 0, 0, 0⟩
      rw [e208] at H207 inv209 ⊢
      have inv209 : Ch.Inv (aud2 c) := inv209
      clear e208
      refine ⟨_, _, rfl, rfl, ?_⟩
      have H210 := H203.keep K206 (by intro h; change b147 = b1 at h; omega)
      clear H203
      have K211 := K204.trans K206 (U := none_) (fun i h1 h2 => h2) (fun i h1 h2 => by have h2 : i = b1 := h2; exfalso; omega)
      clear K204
      clear K206
      refine Ops.regs 3 [(4, (Value.bool false)), (5, (Value.pointer (some ⟨b1, 0, none⟩))), (9, (i64 (c.began + 1))), (10, (i64 1)), (105, (Value.bool false))] (j := 21) (by kernel_rfl) (by kernel_rfl) ?_
      refine Ops.done (by kernel_rfl) ?_
      refine q_else (o := .tmp 105) (by kernel_rfl) rfl ?_
      refine q_skip (by kernel_rfl) ?_
      refine q_seq (by kernel_rfl) ?_
      refine q_seq (by kernel_rfl) ?_
      refine q_region (by kernel_rfl) ?_
      refine Ops.regs 3 [(4, (Value.bool false)), (5, (Value.pointer (some ⟨b1, 0, none⟩))), (9, (i64 (c.began + 1))), (10, (i64 1)), (106, (Value.pointer (some ⟨b1, 0, none⟩))), (108, (agg [(i64 5), (i64 0), (i64 0), (i64 (c.began + 1)), (i64 0)]))] (j := 3) (by kernel_rfl) (by kernel_rfl) ?_
      refine Ops.call (by kernel_rfl) (d := (some 109)) (by kernel_rfl) (Do_calls _ b1 (aud2 c) ⟨5, 0, 0, c.began + 1, 0⟩ inv209 H207) ?_
      rintro _ w212 ⟨rfl, K213, H214⟩
      have e215 : (aud2 c).do_ ⟨5, 0, 0, c.began + 1, 0⟩ = (⟨0, false, c.began + 1⟩, aud3 c) := aud2_thaw
      have inv216 := Ch.Inv.do_ inv209 ⟨5, 0, 0, c.began + 1, 0⟩
      rw [e215] at H214 inv216 ⊢
      have inv216 : Ch.Inv (aud3 c) := inv216
      clear e215
      refine ⟨_, _, rfl, rfl, ?_⟩
      have H217 := H210.keep K213 (by intro h; change b147 = b1 at h; omega)
      clear H210
      have K218 := K211.trans K213 (U := none_) (fun i h1 h2 => h2) (fun i h1 h2 => by have h2 : i = b1 := h2; exfalso; omega)
      clear K211
      clear K213
      refine Ops.regs 2 [(4, (Value.bool false)), (5, (Value.pointer (some ⟨b1, 0, none⟩))), (9, (i64 (c.began + 1))), (10, (i64 1)), (111, (Value.bool false))] (j := 6) (by kernel_rfl) (by kernel_rfl) ?_
      refine Ops.done (by kernel_rfl) ?_
      refine q_else (o := .tmp 111) (by kernel_rfl) rfl ?_
      refine q_skip (by kernel_rfl) ?_
      refine q_seq (by kernel_rfl) ?_
      refine q_region (by kernel_rfl) ?_
      refine Ops.regs 1 [(4, (Value.bool false)), (5, (Value.pointer (some ⟨b1, 0, none⟩))), (9, (i64 (c.began + 1))), (10, (i64 1)), (113, (Value.pointer (some ⟨b1, 0, none⟩)))] (j := 1) (by kernel_rfl) (by kernel_rfl) ?_
      refine Ops.call (by kernel_rfl) (d := (some 114)) (by kernel_rfl) (Audit_calls _ b1 (aud3 c)  inv216 H214) ?_
      rintro _ w219 ⟨rfl, K220⟩
      refine ⟨_, _, rfl, rfl, ?_⟩
      have H221 := H214.keep K220 (fun h => h)
      clear H214
      have H222 := H217.keep K220 (fun h => h)
      clear H217
      have K223 := K218.trans K220 (U := none_) (fun i h1 h2 => h2) (fun i h1 h2 => by exact h2)
      clear K218
      clear K220
      refine Ops.regs 4 [(4, (Value.bool false)), (5, (Value.pointer (some ⟨b1, 0, none⟩))), (9, (i64 (c.began + 1))), (10, (i64 0))] (j := 6) (by kernel_rfl) (by kernel_rfl) ?_
      refine Ops.done (by kernel_rfl) ?_
      refine q_seq (by kernel_rfl) ?_
      refine q_region (by kernel_rfl) ?_
      refine Ops.regs 2 [(4, (Value.bool false)), (9, (i64 (c.began + 1))), (10, (i64 0)), (117, (Value.pointer (some ⟨b1, 0, none⟩))), (118, (agg [(i64 3), (i64 0), (i64 0), (i64 0), (i64 0)]))] (j := 2) (by kernel_rfl) (by kernel_rfl) ?_
      refine Ops.call (by kernel_rfl) (d := (some 119)) (by kernel_rfl) (Do_calls _ b1 (aud3 c) ⟨3, 0, 0, 0, 0⟩ inv216 H221) ?_
      rintro _ w224 ⟨rfl, K225, H226⟩
      have e227 : (aud3 c).do_ ⟨3, 0, 0, 0, 0⟩ = (⟨0, true, c.began + 1 + 1⟩, ({ aud3 c with began := c.began + 1 + 1, audit := c.began + 1 + 1, phase := 1 } : Ch)) := aud3_audit hy.2.1 (by omega)
      have inv228 := Ch.Inv.do_ inv216 ⟨3, 0, 0, 0, 0⟩
      rw [e227] at H226 inv228 ⊢
      have inv228 : Ch.Inv ({ aud3 c with began := c.began + 1 + 1, audit := c.began + 1 + 1, phase := 1 } : Ch) := inv228
      clear e227
      refine ⟨_, _, rfl, rfl, ?_⟩
      have H229 := H222.keep K225 (by intro h; change b147 = b1 at h; omega)
      clear H222
      have K230 := K223.trans K225 (U := none_) (fun i h1 h2 => h2) (fun i h1 h2 => by have h2 : i = b1 := h2; exfalso; omega)
      clear K223
      clear K225
      refine Ops.new (o := rowL [(i64 0), (Value.bool false), (i64 0)] 29) (V := fun b => (Value.pointer (some ⟨b, 0, none⟩))) (by kernel_rfl) (d := (some 11)) (by kernel_rfl) (fun b => rfl) (fun b231 w232 hb233 H234 K235 hs236 => ?_)
      have lb231 : b147 < b231 := by have := H229.lt; omega
      have nb231 : w.heap.size ≤ b231 := by have := K230.size; omega
      have H237 := H226.keep K235 (fun h => h)
      clear H226
      have H238 := H229.keep K235 (fun h => h)
      clear H229
      have K239 := K230.trans K235 (U := none_) (fun i h1 h2 => h2) (fun i h1 h2 => by exact h2)
      clear K230
      clear K235 hs236
      refine Ops.put (t := 29) (b := b231) (off := 0) (v := (agg [(i64 0), (Value.bool true), (i64 (c.began + 1 + 1))])) (ys := [(i64 0), (Value.bool true), (i64 (c.began + 1 + 1))]) (by kernel_rfl) (by kernel_rfl) H234 (by kernel_rfl) (d := none) (by kernel_rfl) rfl (fun w240 H241 K242 => ?_)
      clear H234
      have H243 := H237.keep K242 (by intro h; change b1 = b231 at h; omega)
      clear H237
      have H244 := H238.keep K242 (by intro h; change b147 = b231 at h; omega)
      clear H238
      have K245 := K239.trans K242 (U := none_) (fun i h1 h2 => h2) (fun i h1 h2 => by have h2 : i = b231 := h2; exfalso; omega)
      clear K239
      clear K242
      refine Ops.done (by kernel_rfl) ?_
      refine q_seq (by kernel_rfl) ?_
      refine q_region (by kernel_rfl) ?_
      refine Ops.regs 4 [(4, (Value.bool false)), (9, (i64 (c.began + 1))), (11, (Value.pointer (some ⟨b231, 0, none⟩))), (122, (Value.bool true)), (123, (Value.pointer (some ⟨b231, 1, none⟩)))] (j := 4) (by kernel_rfl) (by kernel_rfl) ?_
      refine Ops.go (v := (Value.bool true)) (by kernel_rfl) (Runs.load (t := 4) (a := ⟨b231, 1, none⟩) (by kernel_rfl) (H241.loads (by kernel_rfl))) (d := (some 124)) (by kernel_rfl) rfl ?_
      refine Ops.regs 3 [(4, (Value.bool false)), (9, (i64 (c.began + 1))), (126, (Value.bool true)), (127, (Value.pointer (some ⟨b231, 2, none⟩)))] (j := 8) (by kernel_rfl) (by kernel_rfl) ?_
      refine Ops.go (v := (i64 (c.began + 1 + 1))) (by kernel_rfl) (Runs.load (t := 2) (a := ⟨b231, 2, none⟩) (by kernel_rfl) (H241.loads (by kernel_rfl))) (d := (some 128)) (by kernel_rfl) rfl ?_
      refine Ops.regs 2 [(4, (Value.bool false)), (126, (Value.bool true)), (128, (i64 (c.began + 1 + 1))), (130, (i64 (IntKind.i64.wrap ((c.began + 1) + 1))))] (j := 11) (by kernel_rfl) (by kernel_rfl) ?_
      have e246 : IntKind.i64.wrap ((c.began + 1) + 1) = (c.began + 1) + 1 := wrap_i64 (by omega) (by omega)
      rw [e246]
      refine Ops.regs 3 [(4, (Value.bool false)), (133, (Value.bool ((c.began + 1 + 1) == ((c.began + 1) + 1))))] (j := 14) (by kernel_rfl) (by kernel_rfl) ?_
      have h247 : ((c.began + 1 + 1) == ((c.began + 1) + 1)) = true := by simp
      rw [h247]
      refine Ops.call (by kernel_rfl) (d := (some 134)) (by kernel_rfl) (known_calls _) ?_
      rintro _ w248 ⟨rfl, K249⟩
      refine ⟨_, _, rfl, rfl, ?_⟩
      have H250 := H243.keep K249 (fun h => h)
      clear H243
      have H251 := H244.keep K249 (fun h => h)
      clear H244
      have H252 := H241.keep K249 (fun h => h)
      clear H241
      have K253 := K245.trans K249 (U := none_) (fun i h1 h2 => h2) (fun i h1 h2 => by exact h2)
      clear K245
      clear K249
      refine Ops.regs 2 [(4, (Value.bool true))] (j := 17) (by kernel_rfl) (by kernel_rfl) ?_
      refine Ops.done (by kernel_rfl) ?_
      refine q_ret (by kernel_rfl) ?_
      refine ⟨(Value.bool true), retv_tmp rfl rfl, ?_⟩
      exact ⟨rfl, K253⟩
end Go.Proofs.Ytoljbckhoigibaa
