/- chart: commands as bytes -/
import Derived.Test.YtoljbckhoigibaaProg
import Derived.Test.YtoljbckhoigibaaChart9
import Derived.Test.YtoljbckhoigibaaK8
import Derived.Test.YtoljbckhoigibaaN
set_option linter.unusedVariables false
namespace Go.Proofs.Ytoljbckhoigibaa
open Go.Q Go.RowKit

theorem Bytes_calls (w : World) (x : Cmd) (hg : x.Good) : Calls Try.prog 29 ⟨[(agg [(i64 x.kind), (i64 x.slot), (i64 x.shard), (i64 x.n), (i64 x.phase)])]⟩ w (fun e w' => ∃ v', e = .returned v' ∧ Keeps none_ w w' ∧ OwnB w' w.heap.size 5 v' (ivs [x.kind, x.slot, x.shard, x.n, x.phase])) := by
  have hg1 := hg.kind
  have hg2 := hg.slot
  have hg3 := hg.shard
  have hg4 := hg.n
  have hg5 := hg.phase
  unfold I64 at hg1 hg2 hg3 hg4 hg5
  have K0 : Keeps none_ w w := Keeps.refl w
  refine q_calls Try.func29 (by kernel_rfl) (by kernel_rfl) ?_
  refine q_seq (by kernel_rfl) ?_
  refine q_region (by kernel_rfl) ?_
  refine Ops.new (o := rowL [(i64 x.kind), (i64 x.slot), (i64 x.shard), (i64 x.n), (i64 x.phase)] 32) (V := fun b => (Value.pointer (some ⟨b, 0, none⟩))) (by kernel_rfl) (d := (some 1)) (by kernel_rfl) (fun b => rfl) (fun b1 w2 hb3 H4 K5 hs6 => ?_)
  have nb1 : w.heap.size ≤ b1 := by have := K0.size; omega
  have K7 := K0.trans K5 (U := none_) (fun i h1 h2 => h2) (fun i h1 h2 => by exact h2)
  clear K0
  clear K5 hs6
  refine Ops.regs 1 [(1, (Value.pointer (some ⟨b1, 0, none⟩))), (2, (Value.slice none 0 0))] (j := 2) (by kernel_rfl) (by kernel_rfl) ?_
  refine Ops.done (by kernel_rfl) ?_
  refine q_seq (by kernel_rfl) ?_
  refine q_region (by kernel_rfl) ?_
  refine Ops.regs 1 [(1, (Value.pointer (some ⟨b1, 0, none⟩))), (2, (Value.slice none 0 0)), (3, (Value.pointer (some ⟨b1, 0, none⟩)))] (j := 1) (by kernel_rfl) (by kernel_rfl) ?_
  refine Ops.go (v := (i64 x.kind)) (by kernel_rfl) (Runs.load (t := 3) (a := ⟨b1, 0, none⟩) (by kernel_rfl) (H4.loads (by kernel_rfl))) (d := (some 4)) (by kernel_rfl) rfl ?_
  refine Ops.regs 1 [(1, (Value.pointer (some ⟨b1, 0, none⟩))), (2, (Value.slice none 0 0)), (4, (i64 x.kind)), (5, (Value.pointer (some ⟨b1, 1, none⟩)))] (j := 3) (by kernel_rfl) (by kernel_rfl) ?_
  refine Ops.go (v := (i64 x.slot)) (by kernel_rfl) (Runs.load (t := 3) (a := ⟨b1, 1, none⟩) (by kernel_rfl) (H4.loads (by kernel_rfl))) (d := (some 6)) (by kernel_rfl) rfl ?_
  refine Ops.regs 1 [(1, (Value.pointer (some ⟨b1, 0, none⟩))), (2, (Value.slice none 0 0)), (4, (i64 x.kind)), (6, (i64 x.slot)), (7, (Value.pointer (some ⟨b1, 2, none⟩)))] (j := 5) (by kernel_rfl) (by kernel_rfl) ?_
  refine Ops.go (v := (i64 x.shard)) (by kernel_rfl) (Runs.load (t := 3) (a := ⟨b1, 2, none⟩) (by kernel_rfl) (H4.loads (by kernel_rfl))) (d := (some 8)) (by kernel_rfl) rfl ?_
  refine Ops.regs 1 [(1, (Value.pointer (some ⟨b1, 0, none⟩))), (2, (Value.slice none 0 0)), (4, (i64 x.kind)), (6, (i64 x.slot)), (8, (i64 x.shard)), (9, (Value.pointer (some ⟨b1, 3, none⟩)))] (j := 7) (by kernel_rfl) (by kernel_rfl) ?_
  refine Ops.go (v := (i64 x.n)) (by kernel_rfl) (Runs.load (t := 2) (a := ⟨b1, 3, none⟩) (by kernel_rfl) (H4.loads (by kernel_rfl))) (d := (some 10)) (by kernel_rfl) rfl ?_
  refine Ops.regs 1 [(2, (Value.slice none 0 0)), (4, (i64 x.kind)), (6, (i64 x.slot)), (8, (i64 x.shard)), (10, (i64 x.n)), (11, (Value.pointer (some ⟨b1, 4, none⟩)))] (j := 9) (by kernel_rfl) (by kernel_rfl) ?_
  refine Ops.go (v := (i64 x.phase)) (by kernel_rfl) (Runs.load (t := 3) (a := ⟨b1, 4, none⟩) (by kernel_rfl) (H4.loads (by kernel_rfl))) (d := (some 12)) (by kernel_rfl) rfl ?_
  refine Ops.new (o := rowL [(i64 x.kind), (i64 x.slot), (i64 x.shard), (i64 x.n), (i64 x.phase)] 2) (V := fun b => (Value.slice (some ⟨b, 0, none⟩) 5 5)) (by kernel_rfl) (d := (some 13)) (by kernel_rfl) (fun b => rfl) (fun b8 w9 hb10 H11 K12 hs13 => ?_)
  have lb8 : b1 < b8 := by have := H4.lt; omega
  have nb8 : w.heap.size ≤ b8 := by have := K7.size; omega
  have H14 := H4.keep K12 (fun h => h)
  clear H4
  have K15 := K7.trans K12 (U := none_) (fun i h1 h2 => h2) (fun i h1 h2 => by exact h2)
  clear K7
  clear K12 hs13
  have hr16 : ∀ z ∈ ([x.kind, x.slot, x.shard, x.n, x.phase] : List Int), -9223372036854775808 ≤ z ∧ z ≤ 9223372036854775807 := by
    intro z hz
    simp only [List.mem_cons, List.not_mem_nil, or_false] at hz
    omega
  refine Ops.call (by kernel_rfl) (d := (some 14)) (by kernel_rfl) (ints_calls _ (Value.slice none 0 0) [] b8 [x.kind, x.slot, x.shard, x.n, x.phase] 5 (Rd.nil _ _) (show Has _ b8 (rowL (ints [x.kind, x.slot, x.shard, x.n, x.phase]) 2) from H11) rfl hr16 (by omega) (by (try simp only at *); (try simp only [List.length_append] at *); (try simp only [List.length_cons] at *); (try simp only [List.length_nil] at *); omega)) ?_
  rintro _ w19 ⟨v18, rfl, K20, hO21⟩
  have O22 := own_base hO21 K15.size
  clear hO21
  have hL17 : (ivs [x.kind, x.slot, x.shard, x.n, x.phase]).length ≤ 50 := ivs_length_le hr16
  refine ⟨_, _, rfl, rfl, ?_⟩
  have H23 := H14.keep K20 (fun h => h)
  clear H14
  have H24 := H11.keep K20 (fun h => h)
  clear H11
  have K25 := K15.trans K20 (U := none_) (fun i h1 h2 => h2) (fun i h1 h2 => by exact h2)
  clear K15
  clear K20
  refine Ops.regs 1 [(2, v18)] (j := 13) (by kernel_rfl) (by kernel_rfl) ?_
  refine Ops.done (by kernel_rfl) ?_
  refine q_ret (by kernel_rfl) ?_
  refine ⟨v18, retv_tmp rfl rfl, ?_⟩
  have hfin : [] ++ ivs [x.kind, x.slot, x.shard, x.n, x.phase] = ivs [x.kind, x.slot, x.shard, x.n, x.phase] := by simp
  rw [hfin] at O22
  exact ⟨_, rfl, K25, O22⟩

theorem RBytes_calls (w : World) (x : Cmd) (hg : x.Good) : Calls Try.prog 32 ⟨[(agg [(i64 x.kind), (i64 x.slot), (i64 x.shard), (i64 x.n), (i64 x.phase)])]⟩ w (fun e w' => ∃ v', e = .returned v' ∧ Keeps none_ w w' ∧ OwnB w' w.heap.size 5 v' (ivs [x.kind, x.slot, x.shard, x.n, x.phase])) := by
  have hg1 := hg.kind
  have hg2 := hg.slot
  have hg3 := hg.shard
  have hg4 := hg.n
  have hg5 := hg.phase
  unfold I64 at hg1 hg2 hg3 hg4 hg5
  have K0 : Keeps none_ w w := Keeps.refl w
  refine q_calls Try.func32 (by kernel_rfl) (by kernel_rfl) ?_
  refine q_seq (by kernel_rfl) ?_
  refine q_region (by kernel_rfl) ?_
  refine Ops.new (o := rowL [(i64 x.kind), (i64 x.slot), (i64 x.shard), (i64 x.n), (i64 x.phase)] 40) (V := fun b => (Value.pointer (some ⟨b, 0, none⟩))) (by kernel_rfl) (d := (some 1)) (by kernel_rfl) (fun b => rfl) (fun b1 w2 hb3 H4 K5 hs6 => ?_)
  have nb1 : w.heap.size ≤ b1 := by have := K0.size; omega
  have K7 := K0.trans K5 (U := none_) (fun i h1 h2 => h2) (fun i h1 h2 => by exact h2)
  clear K0
  clear K5 hs6
  refine Ops.regs 1 [(1, (Value.pointer (some ⟨b1, 0, none⟩))), (2, (Value.slice none 0 0))] (j := 2) (by kernel_rfl) (by kernel_rfl) ?_
  refine Ops.done (by kernel_rfl) ?_
  refine q_seq (by kernel_rfl) ?_
  refine q_region (by kernel_rfl) ?_
  refine Ops.regs 1 [(1, (Value.pointer (some ⟨b1, 0, none⟩))), (2, (Value.slice none 0 0)), (4, (Value.pointer (some ⟨b1, 0, none⟩)))] (j := 1) (by kernel_rfl) (by kernel_rfl) ?_
  refine Ops.go (v := (i64 x.kind)) (by kernel_rfl) (Runs.load (t := 3) (a := ⟨b1, 0, none⟩) (by kernel_rfl) (H4.loads (by kernel_rfl))) (d := (some 5)) (by kernel_rfl) rfl ?_
  refine Ops.call (by kernel_rfl) (d := (some 6)) (by kernel_rfl) (RInt_calls _ (Value.slice none 0 0) [] x.kind (Rd.nil _ _) (by omega) (by (try simp only at *); (try simp only [List.length_append] at *); (try simp only [List.length_cons] at *); (try simp only [List.length_nil] at *); omega)) ?_
  rintro _ w10 ⟨v9, rfl, K11, hO12⟩
  have O13 := own_base hO12 K7.size
  clear hO12
  have hL8 := iv_length_10 (n := x.kind) (by omega)
  refine ⟨_, _, rfl, rfl, ?_⟩
  have H14 := H4.keep K11 (fun h => h)
  clear H4
  have K15 := K7.trans K11 (U := none_) (fun i h1 h2 => h2) (fun i h1 h2 => by exact h2)
  clear K7
  clear K11
  refine Ops.regs 1 [(1, (Value.pointer (some ⟨b1, 0, none⟩))), (2, (Value.slice none 0 0)), (3, v9)] (j := 4) (by kernel_rfl) (by kernel_rfl) ?_
  refine Ops.done (by kernel_rfl) ?_
  refine q_seq (by kernel_rfl) ?_
  refine q_region (by kernel_rfl) ?_
  refine Ops.regs 2 [(1, (Value.pointer (some ⟨b1, 0, none⟩))), (2, (Value.slice none 0 0)), (3, v9), (7, v9), (8, (Value.pointer (some ⟨b1, 1, none⟩)))] (j := 2) (by kernel_rfl) (by kernel_rfl) ?_
  refine Ops.go (v := (i64 x.slot)) (by kernel_rfl) (Runs.load (t := 3) (a := ⟨b1, 1, none⟩) (by kernel_rfl) (H14.loads (by kernel_rfl))) (d := (some 9)) (by kernel_rfl) rfl ?_
  refine Ops.call (by kernel_rfl) (d := (some 10)) (by kernel_rfl) (RInt_calls _ v9 ([] ++ iv x.kind) x.slot (OwnB.rd O13) (by omega) (by (try simp only at *); (try simp only [List.length_append] at *); (try simp only [List.length_cons] at *); (try simp only [List.length_nil] at *); omega)) ?_
  rintro _ w18 ⟨v17, rfl, K19, hO20⟩
  have O21 := own_base hO20 K15.size
  clear hO20
  have hL16 := iv_length_10 (n := x.slot) (by omega)
  refine ⟨_, _, rfl, rfl, ?_⟩
  have H22 := H14.keep K19 (fun h => h)
  clear H14
  have F23 := own_keep0 O13 K19
  clear O13
  have K24 := K15.trans K19 (U := none_) (fun i h1 h2 => h2) (fun i h1 h2 => by exact h2)
  clear K15
  clear K19
  refine Ops.regs 1 [(1, (Value.pointer (some ⟨b1, 0, none⟩))), (2, (Value.slice none 0 0)), (3, v17)] (j := 5) (by kernel_rfl) (by kernel_rfl) ?_
  refine Ops.done (by kernel_rfl) ?_
  refine q_seq (by kernel_rfl) ?_
  refine q_region (by kernel_rfl) ?_
  refine Ops.regs 2 [(1, (Value.pointer (some ⟨b1, 0, none⟩))), (2, (Value.slice none 0 0)), (3, v17), (11, v17), (12, (Value.pointer (some ⟨b1, 2, none⟩)))] (j := 2) (by kernel_rfl) (by kernel_rfl) ?_
  refine Ops.go (v := (i64 x.shard)) (by kernel_rfl) (Runs.load (t := 3) (a := ⟨b1, 2, none⟩) (by kernel_rfl) (H22.loads (by kernel_rfl))) (d := (some 13)) (by kernel_rfl) rfl ?_
  refine Ops.call (by kernel_rfl) (d := (some 14)) (by kernel_rfl) (RInt_calls _ v17 ([] ++ iv x.kind ++ iv x.slot) x.shard (OwnB.rd O21) (by omega) (by (try simp only at *); (try simp only [List.length_append] at *); (try simp only [List.length_cons] at *); (try simp only [List.length_nil] at *); omega)) ?_
  rintro _ w27 ⟨v26, rfl, K28, hO29⟩
  have O30 := own_base hO29 K24.size
  clear hO29
  have hL25 := iv_length_10 (n := x.shard) (by omega)
  refine ⟨_, _, rfl, rfl, ?_⟩
  have H31 := H22.keep K28 (fun h => h)
  clear H22
  have F32 := own_keep0 F23 K28
  clear F23
  have F33 := own_keep0 O21 K28
  clear O21
  have K34 := K24.trans K28 (U := none_) (fun i h1 h2 => h2) (fun i h1 h2 => by exact h2)
  clear K24
  clear K28
  refine Ops.regs 1 [(1, (Value.pointer (some ⟨b1, 0, none⟩))), (2, (Value.slice none 0 0)), (3, v26)] (j := 5) (by kernel_rfl) (by kernel_rfl) ?_
  refine Ops.done (by kernel_rfl) ?_
  refine q_seq (by kernel_rfl) ?_
  refine q_region (by kernel_rfl) ?_
  refine Ops.regs 2 [(1, (Value.pointer (some ⟨b1, 0, none⟩))), (2, (Value.slice none 0 0)), (3, v26), (15, v26), (16, (Value.pointer (some ⟨b1, 3, none⟩)))] (j := 2) (by kernel_rfl) (by kernel_rfl) ?_
  refine Ops.go (v := (i64 x.n)) (by kernel_rfl) (Runs.load (t := 2) (a := ⟨b1, 3, none⟩) (by kernel_rfl) (H31.loads (by kernel_rfl))) (d := (some 17)) (by kernel_rfl) rfl ?_
  refine Ops.call (by kernel_rfl) (d := (some 18)) (by kernel_rfl) (RInt_calls _ v26 ([] ++ iv x.kind ++ iv x.slot ++ iv x.shard) x.n (OwnB.rd O30) (by omega) (by (try simp only at *); (try simp only [List.length_append] at *); (try simp only [List.length_cons] at *); (try simp only [List.length_nil] at *); omega)) ?_
  rintro _ w37 ⟨v36, rfl, K38, hO39⟩
  have O40 := own_base hO39 K34.size
  clear hO39
  have hL35 := iv_length_10 (n := x.n) (by omega)
  refine ⟨_, _, rfl, rfl, ?_⟩
  have H41 := H31.keep K38 (fun h => h)
  clear H31
  have F42 := own_keep0 F32 K38
  clear F32
  have F43 := own_keep0 F33 K38
  clear F33
  have F44 := own_keep0 O30 K38
  clear O30
  have K45 := K34.trans K38 (U := none_) (fun i h1 h2 => h2) (fun i h1 h2 => by exact h2)
  clear K34
  clear K38
  refine Ops.regs 1 [(1, (Value.pointer (some ⟨b1, 0, none⟩))), (2, (Value.slice none 0 0)), (3, v36)] (j := 5) (by kernel_rfl) (by kernel_rfl) ?_
  refine Ops.done (by kernel_rfl) ?_
  refine q_seq (by kernel_rfl) ?_
  refine q_region (by kernel_rfl) ?_
  refine Ops.regs 2 [(2, (Value.slice none 0 0)), (19, v36), (20, (Value.pointer (some ⟨b1, 4, none⟩)))] (j := 2) (by kernel_rfl) (by kernel_rfl) ?_
  refine Ops.go (v := (i64 x.phase)) (by kernel_rfl) (Runs.load (t := 3) (a := ⟨b1, 4, none⟩) (by kernel_rfl) (H41.loads (by kernel_rfl))) (d := (some 21)) (by kernel_rfl) rfl ?_
  refine Ops.call (by kernel_rfl) (d := (some 22)) (by kernel_rfl) (RInt_calls _ v36 ([] ++ iv x.kind ++ iv x.slot ++ iv x.shard ++ iv x.n) x.phase (OwnB.rd O40) (by omega) (by (try simp only at *); (try simp only [List.length_append] at *); (try simp only [List.length_cons] at *); (try simp only [List.length_nil] at *); omega)) ?_
  rintro _ w48 ⟨v47, rfl, K49, hO50⟩
  have O51 := own_base hO50 K45.size
  clear hO50
  have hL46 := iv_length_10 (n := x.phase) (by omega)
  refine ⟨_, _, rfl, rfl, ?_⟩
  have H52 := H41.keep K49 (fun h => h)
  clear H41
  have F53 := own_keep0 F42 K49
  clear F42
  have F54 := own_keep0 F43 K49
  clear F43
  have F55 := own_keep0 F44 K49
  clear F44
  have F56 := own_keep0 O40 K49
  clear O40
  have K57 := K45.trans K49 (U := none_) (fun i h1 h2 => h2) (fun i h1 h2 => by exact h2)
  clear K45
  clear K49
  refine Ops.regs 1 [(2, v47)] (j := 5) (by kernel_rfl) (by kernel_rfl) ?_
  refine Ops.done (by kernel_rfl) ?_
  refine q_ret (by kernel_rfl) ?_
  refine ⟨v47, retv_tmp rfl rfl, ?_⟩
  have hfin : [] ++ iv x.kind ++ iv x.slot ++ iv x.shard ++ iv x.n ++ iv x.phase = ivs [x.kind, x.slot, x.shard, x.n, x.phase] := by simp
  rw [hfin] at O51
  exact ⟨_, rfl, K57, O51⟩

theorem Parse_calls (w : World) (A : Option Addr) (c : Nat) (bs : List UInt8) (hv : RdB w (.slice A bs.length c) bs) : Calls Try.prog 30 ⟨[(Value.slice A bs.length c)]⟩ w (fun e w' => e = .returned (.tuple #[(parseB bs).1.v, i64 (parseB bs).2]) ∧ Keeps none_ w w') := by
  have K0 : Keeps none_ w w := Keeps.refl w
  refine q_calls Try.func30 (by kernel_rfl) (by kernel_rfl) ?_
  refine q_seq (by kernel_rfl) ?_
  refine q_region (by kernel_rfl) ?_
  refine Ops.new (o := rowL [(i64 0), (i64 0), (i64 0), (i64 0), (i64 0)] 32) (V := fun b => (Value.pointer (some ⟨b, 0, none⟩))) (by kernel_rfl) (d := (some 2)) (by kernel_rfl) (fun b => rfl) (fun b1 w2 hb3 H4 K5 hs6 => ?_)
  have nb1 : w.heap.size ≤ b1 := by have := K0.size; omega
  have K7 := K0.trans K5 (U := none_) (fun i h1 h2 => h2) (fun i h1 h2 => by exact h2)
  clear K0
  clear K5 hs6
  refine Ops.regs 1 [(0, (Value.slice A bs.length c)), (2, (Value.pointer (some ⟨b1, 0, none⟩))), (3, (i64 0))] (j := 2) (by kernel_rfl) (by kernel_rfl) ?_
  refine Ops.done (by kernel_rfl) ?_
  refine q_seq (by kernel_rfl) ?_
  refine q_seq (by kernel_rfl) ?_
  refine q_region (by kernel_rfl) ?_
  refine Ops.regs 3 [(0, (Value.slice A bs.length c)), (2, (Value.pointer (some ⟨b1, 0, none⟩))), (3, (i64 0)), (9, (Value.bool (decide (((bs.length : Nat) : Int) > 100))))] (j := 3) (by kernel_rfl) (by kernel_rfl) ?_
  refine Ops.done (by kernel_rfl) ?_
  refine q_cond (o := .tmp 9) (b := (decide (((bs.length : Nat) : Int) > 100))) (by kernel_rfl) rfl (fun h8 => ?_) (fun h8 => ?_)
  · rw [h8]
    have p9 : ((bs.length : Nat) : Int) > 100 := of_decide_eq_true h8
    refine q_seq (by kernel_rfl) ?_
    refine q_region (by kernel_rfl) ?_
    refine Ops.regs 1 [(0, (Value.slice A bs.length c)), (2, (Value.pointer (some ⟨b1, 0, none⟩))), (3, (i64 0)), (10, (agg [(i64 0), (i64 0), (i64 0), (i64 0), (i64 0)]))] (j := 1) (by kernel_rfl) (by kernel_rfl) ?_
    refine Ops.put (t := 32) (b := b1) (off := 0) (v := (agg [(i64 0), (i64 0), (i64 0), (i64 0), (i64 0)])) (ys := [(i64 0), (i64 0), (i64 0), (i64 0), (i64 0)]) (by kernel_rfl) (by kernel_rfl) H4 (by kernel_rfl) (d := none) (by kernel_rfl) rfl (fun w10 H11 K12 => ?_)
    clear H4
    have K13 := K7.trans K12 (U := none_) (fun i h1 h2 => h2) (fun i h1 h2 => by have h2 : i = b1 := h2; exfalso; omega)
    clear K7
    clear K12
    refine Ops.regs 1 [(0, (Value.slice A bs.length c)), (2, (Value.pointer (some ⟨b1, 0, none⟩))), (3, (i64 3))] (j := 3) (by kernel_rfl) (by kernel_rfl) ?_
    refine Ops.done (by kernel_rfl) ?_
    refine q_ret (by kernel_rfl) ?_
    refine ⟨(Value.tuple #[(agg [(i64 0), (i64 0), (i64 0), (i64 0), (i64 0)]), (i64 3)]), retv_cell_tmp rfl rfl (H11.loads (by kernel_rfl)) rfl, ?_⟩
    have e : parseB bs = (⟨0, 0, 0, 0, 0⟩, 3) := by unfold parseB; first | (rw [if_pos (by omega)]; done) | (rw [if_neg (by omega)]; first | (exact if_pos (by assumption)) | (exact if_neg (fun h => h (by assumption))))
    exact ⟨by rw [e]; rfl, K13⟩
  · rw [h8]
    have p14 : ¬ (((bs.length : Nat) : Int) > 100) := of_decide_eq_false h8
    refine q_skip (by kernel_rfl) ?_
    refine q_seq (by kernel_rfl) ?_
    refine q_region (by kernel_rfl) ?_
    refine Ops.regs 1 [(2, (Value.pointer (some ⟨b1, 0, none⟩))), (3, (i64 0)), (11, (Value.slice A bs.length c))] (j := 1) (by kernel_rfl) (by kernel_rfl) ?_
    refine Ops.call (by kernel_rfl) (d := (some 12)) (by kernel_rfl) (NewReader_calls _ (Value.slice A bs.length c) bs (hv.keep0 (by omega) K7) (by omega)) ?_
    rintro _ w19 ⟨b15, A16, c17, rfl, q18, K20, H21, hr22, hne23, hge24⟩
    have nb15 : w.heap.size ≤ b15 := by have := K7.size; omega
    have lb15b1 : b1 < b15 := by have := H4.lt; omega
    have ob26 : ∀ i o s, A16 = some ⟨i, o, s⟩ → i ≠ b1 := fun i o s hi => by have := hge24 i o s hi; have := H4.lt; omega
    have hok25 : Rdr.Ok (⟨bs, 0, 0⟩ : Rdr) := ⟨Nat.zero_le _, by show bs.length ≤ _; omega⟩
    clear q18 hge24
    refine ⟨_, _, rfl, rfl, ?_⟩
    have H27 := H4.keep K20 (fun h => h)
    clear H4
    have K28 := K7.trans K20 (U := none_) (fun i h1 h2 => h2) (fun i h1 h2 => by exact h2)
    clear K7
    clear K20
    refine Ops.regs 1 [(2, (Value.pointer (some ⟨b1, 0, none⟩))), (3, (i64 0)), (4, (Value.pointer (some ⟨b15, 0, none⟩)))] (j := 3) (by kernel_rfl) (by kernel_rfl) ?_
    refine Ops.done (by kernel_rfl) ?_
    refine q_seq (by kernel_rfl) ?_
    refine q_region (by kernel_rfl) ?_
    refine Ops.regs 1 [(2, (Value.pointer (some ⟨b1, 0, none⟩))), (3, (i64 0)), (4, (Value.pointer (some ⟨b15, 0, none⟩))), (13, (Value.pointer (some ⟨b15, 0, none⟩)))] (j := 1) (by kernel_rfl) (by kernel_rfl) ?_
    refine Ops.call (by kernel_rfl) (d := (some 14)) (by kernel_rfl) (RdInt_calls _ b15 A16 c17 (⟨bs, 0, 0⟩ : Rdr) hok25 H21 hr22 hne23) ?_
    rintro _ w29 ⟨rfl, K30, H31⟩
    have hok32 := Rdr.Ok.int hok25
    have hu33 := Rdr.int_range (⟨bs, 0, 0⟩ : Rdr)
    refine ⟨_, _, rfl, rfl, ?_⟩
    have H34 := H27.keep K30 (by intro h; change b1 = b15 at h; omega)
    clear H27
    have F35 := RdO.keep hr22 K30 (fun i _ _ hi hs => by have hs : i = b15 := hs; have := hne23 i _ _ hi; omega)
    clear hr22
    have K36 := K28.trans K30 (U := none_) (fun i h1 h2 => h2) (fun i h1 h2 => by have h2 : i = b15 := h2; exfalso; omega)
    clear K28
    clear K30
    have F37 : RdO w29 A16 c17 ((⟨bs, 0, 0⟩ : Rdr).int.2).bs := by rw [Rdr.int_bs]; exact F35
    clear F35
    refine Ops.regs 1 [(2, (Value.pointer (some ⟨b1, 0, none⟩))), (3, (i64 0)), (4, (Value.pointer (some ⟨b15, 0, none⟩))), (14, (i64 ((⟨bs, 0, 0⟩ : Rdr).int.1))), (15, (Value.pointer (some ⟨b15, 0, none⟩)))] (j := 3) (by kernel_rfl) (by kernel_rfl) ?_
    refine Ops.call (by kernel_rfl) (d := (some 16)) (by kernel_rfl) (RdInt_calls _ b15 A16 c17 ((⟨bs, 0, 0⟩ : Rdr).int.2) hok32 H31 F37 hne23) ?_
    rintro _ w38 ⟨rfl, K39, H40⟩
    have hok41 := Rdr.Ok.int hok32
    have hu42 := Rdr.int_range ((⟨bs, 0, 0⟩ : Rdr).int.2)
    refine ⟨_, _, rfl, rfl, ?_⟩
    have H43 := H34.keep K39 (by intro h; change b1 = b15 at h; omega)
    clear H34
    have F44 := RdO.keep F37 K39 (fun i _ _ hi hs => by have hs : i = b15 := hs; have := hne23 i _ _ hi; omega)
    clear F37
    have K45 := K36.trans K39 (U := none_) (fun i h1 h2 => h2) (fun i h1 h2 => by have h2 : i = b15 := h2; exfalso; omega)
    clear K36
    clear K39
    have F46 : RdO w38 A16 c17 (((⟨bs, 0, 0⟩ : Rdr).int.2).int.2).bs := by rw [Rdr.int_bs]; exact F44
    clear F44
    refine Ops.regs 1 [(2, (Value.pointer (some ⟨b1, 0, none⟩))), (3, (i64 0)), (4, (Value.pointer (some ⟨b15, 0, none⟩))), (14, (i64 ((⟨bs, 0, 0⟩ : Rdr).int.1))), (16, (i64 (((⟨bs, 0, 0⟩ : Rdr).int.2).int.1))), (17, (Value.pointer (some ⟨b15, 0, none⟩)))] (j := 5) (by kernel_rfl) (by kernel_rfl) ?_
    refine Ops.call (by kernel_rfl) (d := (some 18)) (by kernel_rfl) (RdInt_calls _ b15 A16 c17 (((⟨bs, 0, 0⟩ : Rdr).int.2).int.2) hok41 H40 F46 hne23) ?_
    rintro _ w47 ⟨rfl, K48, H49⟩
    have hok50 := Rdr.Ok.int hok41
    have hu51 := Rdr.int_range (((⟨bs, 0, 0⟩ : Rdr).int.2).int.2)
    refine ⟨_, _, rfl, rfl, ?_⟩
    have H52 := H43.keep K48 (by intro h; change b1 = b15 at h; omega)
    clear H43
    have F53 := RdO.keep F46 K48 (fun i _ _ hi hs => by have hs : i = b15 := hs; have := hne23 i _ _ hi; omega)
    clear F46
    have K54 := K45.trans K48 (U := none_) (fun i h1 h2 => h2) (fun i h1 h2 => by have h2 : i = b15 := h2; exfalso; omega)
    clear K45
    clear K48
    have F55 : RdO w47 A16 c17 ((((⟨bs, 0, 0⟩ : Rdr).int.2).int.2).int.2).bs := by rw [Rdr.int_bs]; exact F53
    clear F53
    refine Ops.regs 1 [(2, (Value.pointer (some ⟨b1, 0, none⟩))), (3, (i64 0)), (4, (Value.pointer (some ⟨b15, 0, none⟩))), (14, (i64 ((⟨bs, 0, 0⟩ : Rdr).int.1))), (16, (i64 (((⟨bs, 0, 0⟩ : Rdr).int.2).int.1))), (18, (i64 ((((⟨bs, 0, 0⟩ : Rdr).int.2).int.2).int.1))), (19, (Value.pointer (some ⟨b15, 0, none⟩)))] (j := 7) (by kernel_rfl) (by kernel_rfl) ?_
    refine Ops.call (by kernel_rfl) (d := (some 20)) (by kernel_rfl) (RdInt_calls _ b15 A16 c17 ((((⟨bs, 0, 0⟩ : Rdr).int.2).int.2).int.2) hok50 H49 F55 hne23) ?_
    rintro _ w56 ⟨rfl, K57, H58⟩
    have hok59 := Rdr.Ok.int hok50
    have hu60 := Rdr.int_range ((((⟨bs, 0, 0⟩ : Rdr).int.2).int.2).int.2)
    refine ⟨_, _, rfl, rfl, ?_⟩
    have H61 := H52.keep K57 (by intro h; change b1 = b15 at h; omega)
    clear H52
    have F62 := RdO.keep F55 K57 (fun i _ _ hi hs => by have hs : i = b15 := hs; have := hne23 i _ _ hi; omega)
    clear F55
    have K63 := K54.trans K57 (U := none_) (fun i h1 h2 => h2) (fun i h1 h2 => by have h2 : i = b15 := h2; exfalso; omega)
    clear K54
    clear K57
    have F64 : RdO w56 A16 c17 (((((⟨bs, 0, 0⟩ : Rdr).int.2).int.2).int.2).int.2).bs := by rw [Rdr.int_bs]; exact F62
    clear F62
    refine Ops.regs 1 [(2, (Value.pointer (some ⟨b1, 0, none⟩))), (3, (i64 0)), (4, (Value.pointer (some ⟨b15, 0, none⟩))), (14, (i64 ((⟨bs, 0, 0⟩ : Rdr).int.1))), (16, (i64 (((⟨bs, 0, 0⟩ : Rdr).int.2).int.1))), (18, (i64 ((((⟨bs, 0, 0⟩ : Rdr).int.2).int.2).int.1))), (20, (i64 (((((⟨bs, 0, 0⟩ : Rdr).int.2).int.2).int.2).int.1))), (21, (Value.pointer (some ⟨b15, 0, none⟩)))] (j := 9) (by kernel_rfl) (by kernel_rfl) ?_
    refine Ops.call (by kernel_rfl) (d := (some 22)) (by kernel_rfl) (RdInt_calls _ b15 A16 c17 (((((⟨bs, 0, 0⟩ : Rdr).int.2).int.2).int.2).int.2) hok59 H58 F64 hne23) ?_
    rintro _ w65 ⟨rfl, K66, H67⟩
    have hok68 := Rdr.Ok.int hok59
    have hu69 := Rdr.int_range (((((⟨bs, 0, 0⟩ : Rdr).int.2).int.2).int.2).int.2)
    refine ⟨_, _, rfl, rfl, ?_⟩
    have H70 := H61.keep K66 (by intro h; change b1 = b15 at h; omega)
    clear H61
    have F71 := RdO.keep F64 K66 (fun i _ _ hi hs => by have hs : i = b15 := hs; have := hne23 i _ _ hi; omega)
    clear F64
    have K72 := K63.trans K66 (U := none_) (fun i h1 h2 => h2) (fun i h1 h2 => by have h2 : i = b15 := h2; exfalso; omega)
    clear K63
    clear K66
    have F73 : RdO w65 A16 c17 ((((((⟨bs, 0, 0⟩ : Rdr).int.2).int.2).int.2).int.2).int.2).bs := by rw [Rdr.int_bs]; exact F71
    clear F71
    refine Ops.regs 1 [(2, (Value.pointer (some ⟨b1, 0, none⟩))), (3, (i64 0)), (4, (Value.pointer (some ⟨b15, 0, none⟩))), (23, (agg [(i64 ((⟨bs, 0, 0⟩ : Rdr).int.1)), (i64 (((⟨bs, 0, 0⟩ : Rdr).int.2).int.1)), (i64 ((((⟨bs, 0, 0⟩ : Rdr).int.2).int.2).int.1)), (i64 (((((⟨bs, 0, 0⟩ : Rdr).int.2).int.2).int.2).int.1)), (i64 ((((((⟨bs, 0, 0⟩ : Rdr).int.2).int.2).int.2).int.2).int.1))]))] (j := 11) (by kernel_rfl) (by kernel_rfl) ?_
    refine Ops.new (o := rowL [(i64 0), (i64 0), (i64 0), (i64 0), (i64 0)] 32) (V := fun b => (Value.pointer (some ⟨b, 0, none⟩))) (by kernel_rfl) (d := (some 5)) (by kernel_rfl) (fun b => rfl) (fun b74 w75 hb76 H77 K78 hs79 => ?_)
    have lb74 : b15 < b74 := by have := H67.lt; omega
    have nb74 : w.heap.size ≤ b74 := by have := K72.size; omega
    have ob80 : ∀ i o s, A16 = some ⟨i, o, s⟩ → i ≠ b74 := fun i o s hi => by have := F73.2 i o s hi; omega
    have H81 := H70.keep K78 (fun h => h)
    clear H70
    have H82 := H67.keep K78 (fun h => h)
    clear H67
    have F83 := RdO.keep0 F73 K78
    clear F73
    have K84 := K72.trans K78 (U := none_) (fun i h1 h2 => h2) (fun i h1 h2 => by exact h2)
    clear K72
    clear K78 hs79
    refine Ops.put (t := 32) (b := b74) (off := 0) (v := (agg [(i64 ((⟨bs, 0, 0⟩ : Rdr).int.1)), (i64 (((⟨bs, 0, 0⟩ : Rdr).int.2).int.1)), (i64 ((((⟨bs, 0, 0⟩ : Rdr).int.2).int.2).int.1)), (i64 (((((⟨bs, 0, 0⟩ : Rdr).int.2).int.2).int.2).int.1)), (i64 ((((((⟨bs, 0, 0⟩ : Rdr).int.2).int.2).int.2).int.2).int.1))])) (ys := [(i64 ((⟨bs, 0, 0⟩ : Rdr).int.1)), (i64 (((⟨bs, 0, 0⟩ : Rdr).int.2).int.1)), (i64 ((((⟨bs, 0, 0⟩ : Rdr).int.2).int.2).int.1)), (i64 (((((⟨bs, 0, 0⟩ : Rdr).int.2).int.2).int.2).int.1)), (i64 ((((((⟨bs, 0, 0⟩ : Rdr).int.2).int.2).int.2).int.2).int.1))]) (by kernel_rfl) (by kernel_rfl) H77 (by kernel_rfl) (d := none) (by kernel_rfl) rfl (fun w85 H86 K87 => ?_)
    clear H77
    have H88 := H81.keep K87 (by intro h; change b1 = b74 at h; omega)
    clear H81
    have H89 := H82.keep K87 (by intro h; change b15 = b74 at h; omega)
    clear H82
    have F90 := RdO.keep F83 K87 (fun i _ _ hi hs => by have hs : i = b74 := hs; have := ob80 i _ _ hi; omega)
    clear F83
    have K91 := K84.trans K87 (U := none_) (fun i h1 h2 => h2) (fun i h1 h2 => by have h2 : i = b74 := h2; exfalso; omega)
    clear K84
    clear K87
    refine Ops.done (by kernel_rfl) ?_
    refine q_seq (by kernel_rfl) ?_
    refine q_seq (by kernel_rfl) ?_
    refine q_region (by kernel_rfl) ?_
    refine Ops.regs 1 [(2, (Value.pointer (some ⟨b1, 0, none⟩))), (3, (i64 0)), (5, (Value.pointer (some ⟨b74, 0, none⟩))), (24, (Value.pointer (some ⟨b15, 0, none⟩)))] (j := 1) (by kernel_rfl) (by kernel_rfl) ?_
    refine Ops.call (by kernel_rfl) (d := (some 25)) (by kernel_rfl) (RdEnd_calls _ b15 A16 c17 ((((((⟨bs, 0, 0⟩ : Rdr).int.2).int.2).int.2).int.2).int.2) hok68 H89 F90 hne23) ?_
    rintro _ w92 ⟨rfl, K93⟩
    refine ⟨_, _, rfl, rfl, ?_⟩
    have H94 := H88.keep K93 (fun h => h)
    clear H88
    have H95 := H89.keep K93 (fun h => h)
    clear H89
    have H96 := H86.keep K93 (fun h => h)
    clear H86
    have F97 := RdO.keep0 F90 K93
    clear F90
    have K98 := K91.trans K93 (U := none_) (fun i h1 h2 => h2) (fun i h1 h2 => by exact h2)
    clear K91
    clear K93
    refine Ops.regs 1 [(2, (Value.pointer (some ⟨b1, 0, none⟩))), (3, (i64 0)), (5, (Value.pointer (some ⟨b74, 0, none⟩))), (6, (i64 (((((((⟨bs, 0, 0⟩ : Rdr).int.2).int.2).int.2).int.2).int.2).end_)))] (j := 3) (by kernel_rfl) (by kernel_rfl) ?_
    refine Ops.done (by kernel_rfl) ?_
    refine q_seq (by kernel_rfl) ?_
    refine q_region (by kernel_rfl) ?_
    refine Ops.regs 2 [(2, (Value.pointer (some ⟨b1, 0, none⟩))), (3, (i64 0)), (5, (Value.pointer (some ⟨b74, 0, none⟩))), (6, (i64 (((((((⟨bs, 0, 0⟩ : Rdr).int.2).int.2).int.2).int.2).int.2).end_))), (27, (Value.bool ((((((((⟨bs, 0, 0⟩ : Rdr).int.2).int.2).int.2).int.2).int.2).end_) != 0)))] (j := 2) (by kernel_rfl) (by kernel_rfl) ?_
    refine Ops.done (by kernel_rfl) ?_
    refine q_cond (o := .tmp 27) (b := ((((((((⟨bs, 0, 0⟩ : Rdr).int.2).int.2).int.2).int.2).int.2).end_) != 0)) (by kernel_rfl) rfl (fun h99 => ?_) (fun h99 => ?_)
    · rw [h99]
      have p100 : ¬ (((((((⟨bs, 0, 0⟩ : Rdr).int.2).int.2).int.2).int.2).int.2).end_ = 0) := of_bne_t h99
      refine q_seq (by kernel_rfl) ?_
      refine q_region (by kernel_rfl) ?_
      refine Ops.regs 2 [(2, (Value.pointer (some ⟨b1, 0, none⟩))), (3, (i64 0)), (5, (Value.pointer (some ⟨b74, 0, none⟩))), (28, (agg [(i64 0), (i64 0), (i64 0), (i64 0), (i64 0)])), (29, (i64 (((((((⟨bs, 0, 0⟩ : Rdr).int.2).int.2).int.2).int.2).int.2).end_)))] (j := 2) (by kernel_rfl) (by kernel_rfl) ?_
      refine Ops.put (t := 32) (b := b1) (off := 0) (v := (agg [(i64 0), (i64 0), (i64 0), (i64 0), (i64 0)])) (ys := [(i64 0), (i64 0), (i64 0), (i64 0), (i64 0)]) (by kernel_rfl) (by kernel_rfl) H94 (by kernel_rfl) (d := none) (by kernel_rfl) rfl (fun w101 H102 K103 => ?_)
      clear H94
      have H104 := H95.keep K103 (by intro h; change b15 = b1 at h; omega)
      clear H95
      have H105 := H96.keep K103 (by intro h; change b74 = b1 at h; omega)
      clear H96
      have F106 := RdO.keep F97 K103 (fun i _ _ hi hs => by have hs : i = b1 := hs; have := ob26 i _ _ hi; omega)
      clear F97
      have K107 := K98.trans K103 (U := none_) (fun i h1 h2 => h2) (fun i h1 h2 => by have h2 : i = b1 := h2; exfalso; omega)
      clear K98
      clear K103
      refine Ops.regs 1 [(2, (Value.pointer (some ⟨b1, 0, none⟩))), (3, (i64 (((((((⟨bs, 0, 0⟩ : Rdr).int.2).int.2).int.2).int.2).int.2).end_))), (5, (Value.pointer (some ⟨b74, 0, none⟩)))] (j := 4) (by kernel_rfl) (by kernel_rfl) ?_
      refine Ops.done (by kernel_rfl) ?_
      refine q_ret (by kernel_rfl) ?_
      refine ⟨(Value.tuple #[(agg [(i64 0), (i64 0), (i64 0), (i64 0), (i64 0)]), (i64 (((((((⟨bs, 0, 0⟩ : Rdr).int.2).int.2).int.2).int.2).int.2).end_))]), retv_cell_tmp rfl rfl (H102.loads (by kernel_rfl)) rfl, ?_⟩
      have e : parseB bs = (⟨0, 0, 0, 0, 0⟩, ((((((⟨bs, 0, 0⟩ : Rdr).int.2).int.2).int.2).int.2).int.2).end_) := by unfold parseB; first | (rw [if_pos (by omega)]; done) | (rw [if_neg (by omega)]; first | (exact if_pos (by assumption)) | (exact if_neg (fun h => h (by assumption))))
      exact ⟨by rw [e]; rfl, K107⟩
    · rw [h99]
      have p108 : ((((((⟨bs, 0, 0⟩ : Rdr).int.2).int.2).int.2).int.2).int.2).end_ = 0 := of_bne_f h99
      refine q_skip (by kernel_rfl) ?_
      refine q_seq (by kernel_rfl) ?_
      refine q_region (by kernel_rfl) ?_
      refine Ops.go (v := (agg [(i64 ((⟨bs, 0, 0⟩ : Rdr).int.1)), (i64 (((⟨bs, 0, 0⟩ : Rdr).int.2).int.1)), (i64 ((((⟨bs, 0, 0⟩ : Rdr).int.2).int.2).int.1)), (i64 (((((⟨bs, 0, 0⟩ : Rdr).int.2).int.2).int.2).int.1)), (i64 ((((((⟨bs, 0, 0⟩ : Rdr).int.2).int.2).int.2).int.2).int.1))])) (by kernel_rfl) (Runs.load (t := 32) (a := ⟨b74, 0, none⟩) (by kernel_rfl) (H96.loads (by kernel_rfl))) (d := (some 30)) (by kernel_rfl) rfl ?_
      refine Ops.put (t := 32) (b := b1) (off := 0) (v := (agg [(i64 ((⟨bs, 0, 0⟩ : Rdr).int.1)), (i64 (((⟨bs, 0, 0⟩ : Rdr).int.2).int.1)), (i64 ((((⟨bs, 0, 0⟩ : Rdr).int.2).int.2).int.1)), (i64 (((((⟨bs, 0, 0⟩ : Rdr).int.2).int.2).int.2).int.1)), (i64 ((((((⟨bs, 0, 0⟩ : Rdr).int.2).int.2).int.2).int.2).int.1))])) (ys := [(i64 ((⟨bs, 0, 0⟩ : Rdr).int.1)), (i64 (((⟨bs, 0, 0⟩ : Rdr).int.2).int.1)), (i64 ((((⟨bs, 0, 0⟩ : Rdr).int.2).int.2).int.1)), (i64 (((((⟨bs, 0, 0⟩ : Rdr).int.2).int.2).int.2).int.1)), (i64 ((((((⟨bs, 0, 0⟩ : Rdr).int.2).int.2).int.2).int.2).int.1))]) (by kernel_rfl) (by kernel_rfl) H94 (by kernel_rfl) (d := none) (by kernel_rfl) rfl (fun w109 H110 K111 => ?_)
      clear H94
      have H112 := H95.keep K111 (by intro h; change b15 = b1 at h; omega)
      clear H95
      have H113 := H96.keep K111 (by intro h; change b74 = b1 at h; omega)
      clear H96
      have F114 := RdO.keep F97 K111 (fun i _ _ hi hs => by have hs : i = b1 := hs; have := ob26 i _ _ hi; omega)
      clear F97
      have K115 := K98.trans K111 (U := none_) (fun i h1 h2 => h2) (fun i h1 h2 => by have h2 : i = b1 := h2; exfalso; omega)
      clear K98
      clear K111
      refine Ops.regs 1 [(2, (Value.pointer (some ⟨b1, 0, none⟩))), (3, (i64 0))] (j := 3) (by kernel_rfl) (by kernel_rfl) ?_
      refine Ops.done (by kernel_rfl) ?_
      refine q_ret (by kernel_rfl) ?_
      refine ⟨(Value.tuple #[(agg [(i64 ((⟨bs, 0, 0⟩ : Rdr).int.1)), (i64 (((⟨bs, 0, 0⟩ : Rdr).int.2).int.1)), (i64 ((((⟨bs, 0, 0⟩ : Rdr).int.2).int.2).int.1)), (i64 (((((⟨bs, 0, 0⟩ : Rdr).int.2).int.2).int.2).int.1)), (i64 ((((((⟨bs, 0, 0⟩ : Rdr).int.2).int.2).int.2).int.2).int.1))]), (i64 0)]), retv_cell_tmp rfl rfl (H110.loads (by kernel_rfl)) rfl, ?_⟩
      have e : parseB bs = (⟨(⟨bs, 0, 0⟩ : Rdr).int.1, ((⟨bs, 0, 0⟩ : Rdr).int.2).int.1, (((⟨bs, 0, 0⟩ : Rdr).int.2).int.2).int.1, ((((⟨bs, 0, 0⟩ : Rdr).int.2).int.2).int.2).int.1, (((((⟨bs, 0, 0⟩ : Rdr).int.2).int.2).int.2).int.2).int.1⟩, 0) := by unfold parseB; first | (rw [if_pos (by omega)]; done) | (rw [if_neg (by omega)]; first | (exact if_pos (by assumption)) | (exact if_neg (fun h => h (by assumption))))
      exact ⟨by rw [e]; rfl, K115⟩

theorem Parse_calls_any (w : World) (v : Value) (bs : List UInt8) (hv : RdB w v bs) : Calls Try.prog 30 ⟨[v]⟩ w (fun e w' => e = .returned (.tuple #[(parseB bs).1.v, i64 (parseB bs).2]) ∧ Keeps none_ w w') := by
  obtain ⟨A, c, rfl⟩ := hv.form
  exact Parse_calls w A c bs hv

theorem RParse_calls (w : World) (A : Option Addr) (c : Nat) (bs : List UInt8) (hv : RdB w (.slice A bs.length c) bs) : Calls Try.prog 31 ⟨[(Value.slice A bs.length c)]⟩ w (fun e w' => e = .returned (.tuple #[(parseB bs).1.v, i64 (parseB bs).2]) ∧ Keeps none_ w w') := by
  have K0 : Keeps none_ w w := Keeps.refl w
  refine q_calls Try.func31 (by kernel_rfl) (by kernel_rfl) ?_
  refine q_seq (by kernel_rfl) ?_
  refine q_region (by kernel_rfl) ?_
  refine Ops.new (o := rowL [(i64 0), (i64 0), (i64 0), (i64 0), (i64 0)] 40) (V := fun b => (Value.pointer (some ⟨b, 0, none⟩))) (by kernel_rfl) (d := (some 2)) (by kernel_rfl) (fun b => rfl) (fun b1 w2 hb3 H4 K5 hs6 => ?_)
  have nb1 : w.heap.size ≤ b1 := by have := K0.size; omega
  have K7 := K0.trans K5 (U := none_) (fun i h1 h2 => h2) (fun i h1 h2 => by exact h2)
  clear K0
  clear K5 hs6
  refine Ops.regs 1 [(0, (Value.slice A bs.length c)), (2, (Value.pointer (some ⟨b1, 0, none⟩))), (3, (i64 0))] (j := 2) (by kernel_rfl) (by kernel_rfl) ?_
  refine Ops.done (by kernel_rfl) ?_
  refine q_seq (by kernel_rfl) ?_
  refine q_seq (by kernel_rfl) ?_
  refine q_region (by kernel_rfl) ?_
  refine Ops.regs 3 [(0, (Value.slice A bs.length c)), (2, (Value.pointer (some ⟨b1, 0, none⟩))), (3, (i64 0)), (9, (Value.bool (decide (((bs.length : Nat) : Int) > 100))))] (j := 3) (by kernel_rfl) (by kernel_rfl) ?_
  refine Ops.done (by kernel_rfl) ?_
  refine q_cond (o := .tmp 9) (b := (decide (((bs.length : Nat) : Int) > 100))) (by kernel_rfl) rfl (fun h8 => ?_) (fun h8 => ?_)
  · rw [h8]
    have p9 : ((bs.length : Nat) : Int) > 100 := of_decide_eq_true h8
    refine q_seq (by kernel_rfl) ?_
    refine q_region (by kernel_rfl) ?_
    refine Ops.regs 1 [(0, (Value.slice A bs.length c)), (2, (Value.pointer (some ⟨b1, 0, none⟩))), (3, (i64 0)), (10, (agg [(i64 0), (i64 0), (i64 0), (i64 0), (i64 0)]))] (j := 1) (by kernel_rfl) (by kernel_rfl) ?_
    refine Ops.put (t := 40) (b := b1) (off := 0) (v := (agg [(i64 0), (i64 0), (i64 0), (i64 0), (i64 0)])) (ys := [(i64 0), (i64 0), (i64 0), (i64 0), (i64 0)]) (by kernel_rfl) (by kernel_rfl) H4 (by kernel_rfl) (d := none) (by kernel_rfl) rfl (fun w10 H11 K12 => ?_)
    clear H4
    have K13 := K7.trans K12 (U := none_) (fun i h1 h2 => h2) (fun i h1 h2 => by have h2 : i = b1 := h2; exfalso; omega)
    clear K7
    clear K12
    refine Ops.regs 1 [(0, (Value.slice A bs.length c)), (2, (Value.pointer (some ⟨b1, 0, none⟩))), (3, (i64 3))] (j := 3) (by kernel_rfl) (by kernel_rfl) ?_
    refine Ops.done (by kernel_rfl) ?_
    refine q_ret (by kernel_rfl) ?_
    refine ⟨(Value.tuple #[(agg [(i64 0), (i64 0), (i64 0), (i64 0), (i64 0)]), (i64 3)]), retv_cell_tmp rfl rfl (H11.loads (by kernel_rfl)) rfl, ?_⟩
    have e : parseB bs = (⟨0, 0, 0, 0, 0⟩, 3) := by unfold parseB; first | (rw [if_pos (by omega)]; done) | (rw [if_neg (by omega)]; first | (exact if_pos (by assumption)) | (exact if_neg (fun h => h (by assumption))))
    exact ⟨by rw [e]; rfl, K13⟩
  · rw [h8]
    have p14 : ¬ (((bs.length : Nat) : Int) > 100) := of_decide_eq_false h8
    refine q_skip (by kernel_rfl) ?_
    refine q_seq (by kernel_rfl) ?_
    refine q_region (by kernel_rfl) ?_
    refine Ops.regs 1 [(2, (Value.pointer (some ⟨b1, 0, none⟩))), (3, (i64 0)), (11, (Value.slice A bs.length c))] (j := 1) (by kernel_rfl) (by kernel_rfl) ?_
    refine Ops.call (by kernel_rfl) (d := (some 12)) (by kernel_rfl) (Of_calls _ (Value.slice A bs.length c) bs (hv.keep0 (by omega) K7) (by omega)) ?_
    rintro _ w19 ⟨b15, A16, c17, rfl, q18, K20, H21, hr22, hne23, hge24⟩
    have nb15 : w.heap.size ≤ b15 := by have := K7.size; omega
    have lb15b1 : b1 < b15 := by have := H4.lt; omega
    have ob26 : ∀ i o s, A16 = some ⟨i, o, s⟩ → i ≠ b1 := fun i o s hi => by have := hge24 i o s hi; have := H4.lt; omega
    have hok25 : Rdr.Ok (⟨bs, 0, 0⟩ : Rdr) := ⟨Nat.zero_le _, by show bs.length ≤ _; omega⟩
    clear q18 hge24
    refine ⟨_, _, rfl, rfl, ?_⟩
    have H27 := H4.keep K20 (fun h => h)
    clear H4
    have K28 := K7.trans K20 (U := none_) (fun i h1 h2 => h2) (fun i h1 h2 => by exact h2)
    clear K7
    clear K20
    refine Ops.regs 1 [(2, (Value.pointer (some ⟨b1, 0, none⟩))), (3, (i64 0)), (4, (Value.pointer (some ⟨b15, 0, none⟩)))] (j := 3) (by kernel_rfl) (by kernel_rfl) ?_
    refine Ops.done (by kernel_rfl) ?_
    refine q_seq (by kernel_rfl) ?_
    refine q_region (by kernel_rfl) ?_
    refine Ops.new (o := rowL [(i64 0), (i64 0), (i64 0), (i64 0), (i64 0)] 40) (V := fun b => (Value.pointer (some ⟨b, 0, none⟩))) (by kernel_rfl) (d := (some 5)) (by kernel_rfl) (fun b => rfl) (fun b29 w30 hb31 H32 K33 hs34 => ?_)
    have lb29 : b15 < b29 := by have := H21.lt; omega
    have nb29 : w.heap.size ≤ b29 := by have := K28.size; omega
    have ob35 : ∀ i o s, A16 = some ⟨i, o, s⟩ → i ≠ b29 := fun i o s hi => by have := hr22.2 i o s hi; omega
    have H36 := H27.keep K33 (fun h => h)
    clear H27
    have H37 := H21.keep K33 (fun h => h)
    clear H21
    have F38 := RdO.keep0 hr22 K33
    clear hr22
    have K39 := K28.trans K33 (U := none_) (fun i h1 h2 => h2) (fun i h1 h2 => by exact h2)
    clear K28
    clear K33 hs34
    refine Ops.done (by kernel_rfl) ?_
    refine q_seq (by kernel_rfl) ?_
    refine q_region (by kernel_rfl) ?_
    refine Ops.regs 1 [(2, (Value.pointer (some ⟨b1, 0, none⟩))), (3, (i64 0)), (4, (Value.pointer (some ⟨b15, 0, none⟩))), (5, (Value.pointer (some ⟨b29, 0, none⟩))), (13, (Value.pointer (some ⟨b15, 0, none⟩)))] (j := 1) (by kernel_rfl) (by kernel_rfl) ?_
    refine Ops.call (by kernel_rfl) (d := (some 14)) (by kernel_rfl) (RRInt_calls _ b15 A16 c17 (⟨bs, 0, 0⟩ : Rdr) hok25 H37 F38 hne23) ?_
    rintro _ w40 ⟨rfl, K41, H42⟩
    have hok43 := Rdr.Ok.int hok25
    have hu44 := Rdr.int_range (⟨bs, 0, 0⟩ : Rdr)
    refine ⟨_, _, rfl, rfl, ?_⟩
    have H45 := H36.keep K41 (by intro h; change b1 = b15 at h; omega)
    clear H36
    have H46 := H32.keep K41 (by intro h; change b29 = b15 at h; omega)
    clear H32
    have F47 := RdO.keep F38 K41 (fun i _ _ hi hs => by have hs : i = b15 := hs; have := hne23 i _ _ hi; omega)
    clear F38
    have K48 := K39.trans K41 (U := none_) (fun i h1 h2 => h2) (fun i h1 h2 => by have h2 : i = b15 := h2; exfalso; omega)
    clear K39
    clear K41
    have F49 : RdO w40 A16 c17 ((⟨bs, 0, 0⟩ : Rdr).int.2).bs := by rw [Rdr.int_bs]; exact F47
    clear F47
    refine Ops.regs 1 [(2, (Value.pointer (some ⟨b1, 0, none⟩))), (3, (i64 0)), (4, (Value.pointer (some ⟨b15, 0, none⟩))), (5, (Value.pointer (some ⟨b29, 0, none⟩))), (14, (i64 ((⟨bs, 0, 0⟩ : Rdr).int.1))), (15, (Value.pointer (some ⟨b29, 0, none⟩)))] (j := 3) (by kernel_rfl) (by kernel_rfl) ?_
    refine Ops.put (t := 3) (b := b29) (off := 0) (v := (i64 ((⟨bs, 0, 0⟩ : Rdr).int.1))) (ys := [(i64 ((⟨bs, 0, 0⟩ : Rdr).int.1)), (i64 0), (i64 0), (i64 0), (i64 0)]) (by kernel_rfl) (by kernel_rfl) H46 (by kernel_rfl) (d := none) (by kernel_rfl) rfl (fun w50 H51 K52 => ?_)
    clear H46
    have H53 := H45.keep K52 (by intro h; change b1 = b29 at h; omega)
    clear H45
    have H54 := H42.keep K52 (by intro h; change b15 = b29 at h; omega)
    clear H42
    have F55 := RdO.keep F49 K52 (fun i _ _ hi hs => by have hs : i = b29 := hs; have := ob35 i _ _ hi; omega)
    clear F49
    have K56 := K48.trans K52 (U := none_) (fun i h1 h2 => h2) (fun i h1 h2 => by have h2 : i = b29 := h2; exfalso; omega)
    clear K48
    clear K52
    refine Ops.done (by kernel_rfl) ?_
    refine q_seq (by kernel_rfl) ?_
    refine q_region (by kernel_rfl) ?_
    refine Ops.regs 1 [(2, (Value.pointer (some ⟨b1, 0, none⟩))), (3, (i64 0)), (4, (Value.pointer (some ⟨b15, 0, none⟩))), (5, (Value.pointer (some ⟨b29, 0, none⟩))), (16, (Value.pointer (some ⟨b15, 0, none⟩)))] (j := 1) (by kernel_rfl) (by kernel_rfl) ?_
    refine Ops.call (by kernel_rfl) (d := (some 17)) (by kernel_rfl) (RRInt_calls _ b15 A16 c17 ((⟨bs, 0, 0⟩ : Rdr).int.2) hok43 H54 F55 hne23) ?_
    rintro _ w57 ⟨rfl, K58, H59⟩
    have hok60 := Rdr.Ok.int hok43
    have hu61 := Rdr.int_range ((⟨bs, 0, 0⟩ : Rdr).int.2)
    refine ⟨_, _, rfl, rfl, ?_⟩
    have H62 := H53.keep K58 (by intro h; change b1 = b15 at h; omega)
    clear H53
    have H63 := H51.keep K58 (by intro h; change b29 = b15 at h; omega)
    clear H51
    have F64 := RdO.keep F55 K58 (fun i _ _ hi hs => by have hs : i = b15 := hs; have := hne23 i _ _ hi; omega)
    clear F55
    have K65 := K56.trans K58 (U := none_) (fun i h1 h2 => h2) (fun i h1 h2 => by have h2 : i = b15 := h2; exfalso; omega)
    clear K56
    clear K58
    have F66 : RdO w57 A16 c17 (((⟨bs, 0, 0⟩ : Rdr).int.2).int.2).bs := by rw [Rdr.int_bs]; exact F64
    clear F64
    refine Ops.regs 1 [(2, (Value.pointer (some ⟨b1, 0, none⟩))), (3, (i64 0)), (4, (Value.pointer (some ⟨b15, 0, none⟩))), (5, (Value.pointer (some ⟨b29, 0, none⟩))), (17, (i64 (((⟨bs, 0, 0⟩ : Rdr).int.2).int.1))), (18, (Value.pointer (some ⟨b29, 1, none⟩)))] (j := 3) (by kernel_rfl) (by kernel_rfl) ?_
    refine Ops.put (t := 3) (b := b29) (off := 1) (v := (i64 (((⟨bs, 0, 0⟩ : Rdr).int.2).int.1))) (ys := [(i64 ((⟨bs, 0, 0⟩ : Rdr).int.1)), (i64 (((⟨bs, 0, 0⟩ : Rdr).int.2).int.1)), (i64 0), (i64 0), (i64 0)]) (by kernel_rfl) (by kernel_rfl) H63 (by kernel_rfl) (d := none) (by kernel_rfl) rfl (fun w67 H68 K69 => ?_)
    clear H63
    have H70 := H62.keep K69 (by intro h; change b1 = b29 at h; omega)
    clear H62
    have H71 := H59.keep K69 (by intro h; change b15 = b29 at h; omega)
    clear H59
    have F72 := RdO.keep F66 K69 (fun i _ _ hi hs => by have hs : i = b29 := hs; have := ob35 i _ _ hi; omega)
    clear F66
    have K73 := K65.trans K69 (U := none_) (fun i h1 h2 => h2) (fun i h1 h2 => by have h2 : i = b29 := h2; exfalso; omega)
    clear K65
    clear K69
    refine Ops.done (by kernel_rfl) ?_
    refine q_seq (by kernel_rfl) ?_
    refine q_region (by kernel_rfl) ?_
    refine Ops.regs 1 [(2, (Value.pointer (some ⟨b1, 0, none⟩))), (3, (i64 0)), (4, (Value.pointer (some ⟨b15, 0, none⟩))), (5, (Value.pointer (some ⟨b29, 0, none⟩))), (19, (Value.pointer (some ⟨b15, 0, none⟩)))] (j := 1) (by kernel_rfl) (by kernel_rfl) ?_
    refine Ops.call (by kernel_rfl) (d := (some 20)) (by kernel_rfl) (RRInt_calls _ b15 A16 c17 (((⟨bs, 0, 0⟩ : Rdr).int.2).int.2) hok60 H71 F72 hne23) ?_
    rintro _ w74 ⟨rfl, K75, H76⟩
    have hok77 := Rdr.Ok.int hok60
    have hu78 := Rdr.int_range (((⟨bs, 0, 0⟩ : Rdr).int.2).int.2)
    refine ⟨_, _, rfl, rfl, ?_⟩
    have H79 := H70.keep K75 (by intro h; change b1 = b15 at h; omega)
    clear H70
    have H80 := H68.keep K75 (by intro h; change b29 = b15 at h; omega)
    clear H68
    have F81 := RdO.keep F72 K75 (fun i _ _ hi hs => by have hs : i = b15 := hs; have := hne23 i _ _ hi; omega)
    clear F72
    have K82 := K73.trans K75 (U := none_) (fun i h1 h2 => h2) (fun i h1 h2 => by have h2 : i = b15 := h2; exfalso; omega)
    clear K73
    clear K75
    have F83 : RdO w74 A16 c17 ((((⟨bs, 0, 0⟩ : Rdr).int.2).int.2).int.2).bs := by rw [Rdr.int_bs]; exact F81
    clear F81
    refine Ops.regs 1 [(2, (Value.pointer (some ⟨b1, 0, none⟩))), (3, (i64 0)), (4, (Value.pointer (some ⟨b15, 0, none⟩))), (5, (Value.pointer (some ⟨b29, 0, none⟩))), (20, (i64 ((((⟨bs, 0, 0⟩ : Rdr).int.2).int.2).int.1))), (21, (Value.pointer (some ⟨b29, 2, none⟩)))] (j := 3) (by kernel_rfl) (by kernel_rfl) ?_
    refine Ops.put (t := 3) (b := b29) (off := 2) (v := (i64 ((((⟨bs, 0, 0⟩ : Rdr).int.2).int.2).int.1))) (ys := [(i64 ((⟨bs, 0, 0⟩ : Rdr).int.1)), (i64 (((⟨bs, 0, 0⟩ : Rdr).int.2).int.1)), (i64 ((((⟨bs, 0, 0⟩ : Rdr).int.2).int.2).int.1)), (i64 0), (i64 0)]) (by kernel_rfl) (by kernel_rfl) H80 (by kernel_rfl) (d := none) (by kernel_rfl) rfl (fun w84 H85 K86 => ?_)
    clear H80
    have H87 := H79.keep K86 (by intro h; change b1 = b29 at h; omega)
    clear H79
    have H88 := H76.keep K86 (by intro h; change b15 = b29 at h; omega)
    clear H76
    have F89 := RdO.keep F83 K86 (fun i _ _ hi hs => by have hs : i = b29 := hs; have := ob35 i _ _ hi; omega)
    clear F83
    have K90 := K82.trans K86 (U := none_) (fun i h1 h2 => h2) (fun i h1 h2 => by have h2 : i = b29 := h2; exfalso; omega)
    clear K82
    clear K86
    refine Ops.done (by kernel_rfl) ?_
    refine q_seq (by kernel_rfl) ?_
    refine q_region (by kernel_rfl) ?_
    refine Ops.regs 1 [(2, (Value.pointer (some ⟨b1, 0, none⟩))), (3, (i64 0)), (4, (Value.pointer (some ⟨b15, 0, none⟩))), (5, (Value.pointer (some ⟨b29, 0, none⟩))), (22, (Value.pointer (some ⟨b15, 0, none⟩)))] (j := 1) (by kernel_rfl) (by kernel_rfl) ?_
    refine Ops.call (by kernel_rfl) (d := (some 23)) (by kernel_rfl) (RRInt_calls _ b15 A16 c17 ((((⟨bs, 0, 0⟩ : Rdr).int.2).int.2).int.2) hok77 H88 F89 hne23) ?_
    rintro _ w91 ⟨rfl, K92, H93⟩
    have hok94 := Rdr.Ok.int hok77
    have hu95 := Rdr.int_range ((((⟨bs, 0, 0⟩ : Rdr).int.2).int.2).int.2)
    refine ⟨_, _, rfl, rfl, ?_⟩
    have H96 := H87.keep K92 (by intro h; change b1 = b15 at h; omega)
    clear H87
    have H97 := H85.keep K92 (by intro h; change b29 = b15 at h; omega)
    clear H85
    have F98 := RdO.keep F89 K92 (fun i _ _ hi hs => by have hs : i = b15 := hs; have := hne23 i _ _ hi; omega)
    clear F89
    have K99 := K90.trans K92 (U := none_) (fun i h1 h2 => h2) (fun i h1 h2 => by have h2 : i = b15 := h2; exfalso; omega)
    clear K90
    clear K92
    have F100 : RdO w91 A16 c17 (((((⟨bs, 0, 0⟩ : Rdr).int.2).int.2).int.2).int.2).bs := by rw [Rdr.int_bs]; exact F98
    clear F98
    refine Ops.regs 1 [(2, (Value.pointer (some ⟨b1, 0, none⟩))), (3, (i64 0)), (4, (Value.pointer (some ⟨b15, 0, none⟩))), (5, (Value.pointer (some ⟨b29, 0, none⟩))), (23, (i64 (((((⟨bs, 0, 0⟩ : Rdr).int.2).int.2).int.2).int.1))), (24, (Value.pointer (some ⟨b29, 3, none⟩)))] (j := 3) (by kernel_rfl) (by kernel_rfl) ?_
    refine Ops.put (t := 2) (b := b29) (off := 3) (v := (i64 (((((⟨bs, 0, 0⟩ : Rdr).int.2).int.2).int.2).int.1))) (ys := [(i64 ((⟨bs, 0, 0⟩ : Rdr).int.1)), (i64 (((⟨bs, 0, 0⟩ : Rdr).int.2).int.1)), (i64 ((((⟨bs, 0, 0⟩ : Rdr).int.2).int.2).int.1)), (i64 (((((⟨bs, 0, 0⟩ : Rdr).int.2).int.2).int.2).int.1)), (i64 0)]) (by kernel_rfl) (by kernel_rfl) H97 (by kernel_rfl) (d := none) (by kernel_rfl) rfl (fun w101 H102 K103 => ?_)
    clear H97
    have H104 := H96.keep K103 (by intro h; change b1 = b29 at h; omega)
    clear H96
    have H105 := H93.keep K103 (by intro h; change b15 = b29 at h; omega)
    clear H93
    have F106 := RdO.keep F100 K103 (fun i _ _ hi hs => by have hs : i = b29 := hs; have := ob35 i _ _ hi; omega)
    clear F100
    have K107 := K99.trans K103 (U := none_) (fun i h1 h2 => h2) (fun i h1 h2 => by have h2 : i = b29 := h2; exfalso; omega)
    clear K99
    clear K103
    refine Ops.done (by kernel_rfl) ?_
    refine q_seq (by kernel_rfl) ?_
    refine q_region (by kernel_rfl) ?_
    refine Ops.regs 1 [(2, (Value.pointer (some ⟨b1, 0, none⟩))), (3, (i64 0)), (4, (Value.pointer (some ⟨b15, 0, none⟩))), (5, (Value.pointer (some ⟨b29, 0, none⟩))), (25, (Value.pointer (some ⟨b15, 0, none⟩)))] (j := 1) (by kernel_rfl) (by kernel_rfl) ?_
    refine Ops.call (by kernel_rfl) (d := (some 26)) (by kernel_rfl) (RRInt_calls _ b15 A16 c17 (((((⟨bs, 0, 0⟩ : Rdr).int.2).int.2).int.2).int.2) hok94 H105 F106 hne23) ?_
    rintro _ w108 ⟨rfl, K109, H110⟩
    have hok111 := Rdr.Ok.int hok94
    have hu112 := Rdr.int_range (((((⟨bs, 0, 0⟩ : Rdr).int.2).int.2).int.2).int.2)
    refine ⟨_, _, rfl, rfl, ?_⟩
    have H113 := H104.keep K109 (by intro h; change b1 = b15 at h; omega)
    clear H104
    have H114 := H102.keep K109 (by intro h; change b29 = b15 at h; omega)
    clear H102
    have F115 := RdO.keep F106 K109 (fun i _ _ hi hs => by have hs : i = b15 := hs; have := hne23 i _ _ hi; omega)
    clear F106
    have K116 := K107.trans K109 (U := none_) (fun i h1 h2 => h2) (fun i h1 h2 => by have h2 : i = b15 := h2; exfalso; omega)
    clear K107
    clear K109
    have F117 : RdO w108 A16 c17 ((((((⟨bs, 0, 0⟩ : Rdr).int.2).int.2).int.2).int.2).int.2).bs := by rw [Rdr.int_bs]; exact F115
    clear F115
    refine Ops.regs 1 [(2, (Value.pointer (some ⟨b1, 0, none⟩))), (3, (i64 0)), (4, (Value.pointer (some ⟨b15, 0, none⟩))), (5, (Value.pointer (some ⟨b29, 0, none⟩))), (26, (i64 ((((((⟨bs, 0, 0⟩ : Rdr).int.2).int.2).int.2).int.2).int.1))), (27, (Value.pointer (some ⟨b29, 4, none⟩)))] (j := 3) (by kernel_rfl) (by kernel_rfl) ?_
    refine Ops.put (t := 3) (b := b29) (off := 4) (v := (i64 ((((((⟨bs, 0, 0⟩ : Rdr).int.2).int.2).int.2).int.2).int.1))) (ys := [(i64 ((⟨bs, 0, 0⟩ : Rdr).int.1)), (i64 (((⟨bs, 0, 0⟩ : Rdr).int.2).int.1)), (i64 ((((⟨bs, 0, 0⟩ : Rdr).int.2).int.2).int.1)), (i64 (((((⟨bs, 0, 0⟩ : Rdr).int.2).int.2).int.2).int.1)), (i64 ((((((⟨bs, 0, 0⟩ : Rdr).int.2).int.2).int.2).int.2).int.1))]) (by kernel_rfl) (by kernel_rfl) H114 (by kernel_rfl) (d := none) (by kernel_rfl) rfl (fun w118 H119 K120 => ?_)
    clear H114
    have H121 := H113.keep K120 (by intro h; change b1 = b29 at h; omega)
    clear H113
    have H122 := H110.keep K120 (by intro h; change b15 = b29 at h; omega)
    clear H110
    have F123 := RdO.keep F117 K120 (fun i _ _ hi hs => by have hs : i = b29 := hs; have := ob35 i _ _ hi; omega)
    clear F117
    have K124 := K116.trans K120 (U := none_) (fun i h1 h2 => h2) (fun i h1 h2 => by have h2 : i = b29 := h2; exfalso; omega)
    clear K116
    clear K120
    refine Ops.done (by kernel_rfl) ?_
    refine q_seq (by kernel_rfl) ?_
    refine q_region (by kernel_rfl) ?_
    refine Ops.regs 1 [(2, (Value.pointer (some ⟨b1, 0, none⟩))), (3, (i64 0)), (5, (Value.pointer (some ⟨b29, 0, none⟩))), (28, (Value.pointer (some ⟨b15, 0, none⟩)))] (j := 1) (by kernel_rfl) (by kernel_rfl) ?_
    refine Ops.call (by kernel_rfl) (d := (some 29)) (by kernel_rfl) (RREnd_calls _ b15 A16 c17 ((((((⟨bs, 0, 0⟩ : Rdr).int.2).int.2).int.2).int.2).int.2) hok111 H122 F123 hne23) ?_
    rintro _ w125 ⟨rfl, K126⟩
    refine ⟨_, _, rfl, rfl, ?_⟩
    have H127 := H121.keep K126 (fun h => h)
    clear H121
    have H128 := H122.keep K126 (fun h => h)
    clear H122
    have H129 := H119.keep K126 (fun h => h)
    clear H119
    have F130 := RdO.keep0 F123 K126
    clear F123
    have K131 := K124.trans K126 (U := none_) (fun i h1 h2 => h2) (fun i h1 h2 => by exact h2)
    clear K124
    clear K126
    refine Ops.regs 1 [(2, (Value.pointer (some ⟨b1, 0, none⟩))), (3, (i64 0)), (5, (Value.pointer (some ⟨b29, 0, none⟩))), (6, (i64 (((((((⟨bs, 0, 0⟩ : Rdr).int.2).int.2).int.2).int.2).int.2).end_)))] (j := 3) (by kernel_rfl) (by kernel_rfl) ?_
    refine Ops.done (by kernel_rfl) ?_
    refine q_seq (by kernel_rfl) ?_
    refine q_seq (by kernel_rfl) ?_
    refine q_region (by kernel_rfl) ?_
    refine Ops.regs 2 [(2, (Value.pointer (some ⟨b1, 0, none⟩))), (3, (i64 0)), (5, (Value.pointer (some ⟨b29, 0, none⟩))), (6, (i64 (((((((⟨bs, 0, 0⟩ : Rdr).int.2).int.2).int.2).int.2).int.2).end_))), (31, (Value.bool ((((((((⟨bs, 0, 0⟩ : Rdr).int.2).int.2).int.2).int.2).int.2).end_) != 0)))] (j := 2) (by kernel_rfl) (by kernel_rfl) ?_
    refine Ops.done (by kernel_rfl) ?_
    refine q_cond (o := .tmp 31) (b := ((((((((⟨bs, 0, 0⟩ : Rdr).int.2).int.2).int.2).int.2).int.2).end_) != 0)) (by kernel_rfl) rfl (fun h132 => ?_) (fun h132 => ?_)
    · rw [h132]
      have p133 : ¬ (((((((⟨bs, 0, 0⟩ : Rdr).int.2).int.2).int.2).int.2).int.2).end_ = 0) := of_bne_t h132
      refine q_seq (by kernel_rfl) ?_
      refine q_region (by kernel_rfl) ?_
      refine Ops.regs 2 [(2, (Value.pointer (some ⟨b1, 0, none⟩))), (3, (i64 0)), (5, (Value.pointer (some ⟨b29, 0, none⟩))), (32, (agg [(i64 0), (i64 0), (i64 0), (i64 0), (i64 0)])), (33, (i64 (((((((⟨bs, 0, 0⟩ : Rdr).int.2).int.2).int.2).int.2).int.2).end_)))] (j := 2) (by kernel_rfl) (by kernel_rfl) ?_
      refine Ops.put (t := 40) (b := b1) (off := 0) (v := (agg [(i64 0), (i64 0), (i64 0), (i64 0), (i64 0)])) (ys := [(i64 0), (i64 0), (i64 0), (i64 0), (i64 0)]) (by kernel_rfl) (by kernel_rfl) H127 (by kernel_rfl) (d := none) (by kernel_rfl) rfl (fun w134 H135 K136 => ?_)
      clear H127
      have H137 := H128.keep K136 (by intro h; change b15 = b1 at h; omega)
      clear H128
      have H138 := H129.keep K136 (by intro h; change b29 = b1 at h; omega)
      clear H129
      have F139 := RdO.keep F130 K136 (fun i _ _ hi hs => by have hs : i = b1 := hs; have := ob26 i _ _ hi; omega)
      clear F130
      have K140 := K131.trans K136 (U := none_) (fun i h1 h2 => h2) (fun i h1 h2 => by have h2 : i = b1 := h2; exfalso; omega)
      clear K131
      clear K136
      refine Ops.regs 1 [(2, (Value.pointer (some ⟨b1, 0, none⟩))), (3, (i64 (((((((⟨bs, 0, 0⟩ : Rdr).int.2).int.2).int.2).int.2).int.2).end_))), (5, (Value.pointer (some ⟨b29, 0, none⟩)))] (j := 4) (by kernel_rfl) (by kernel_rfl) ?_
      refine Ops.done (by kernel_rfl) ?_
      refine q_ret (by kernel_rfl) ?_
      refine ⟨(Value.tuple #[(agg [(i64 0), (i64 0), (i64 0), (i64 0), (i64 0)]), (i64 (((((((⟨bs, 0, 0⟩ : Rdr).int.2).int.2).int.2).int.2).int.2).end_))]), retv_cell_tmp rfl rfl (H135.loads (by kernel_rfl)) rfl, ?_⟩
      have e : parseB bs = (⟨0, 0, 0, 0, 0⟩, ((((((⟨bs, 0, 0⟩ : Rdr).int.2).int.2).int.2).int.2).int.2).end_) := by unfold parseB; first | (rw [if_pos (by omega)]; done) | (rw [if_neg (by omega)]; first | (exact if_pos (by assumption)) | (exact if_neg (fun h => h (by assumption))))
      exact ⟨by rw [e]; rfl, K140⟩
    · rw [h132]
      have p141 : ((((((⟨bs, 0, 0⟩ : Rdr).int.2).int.2).int.2).int.2).int.2).end_ = 0 := of_bne_f h132
      refine q_skip (by kernel_rfl) ?_
      refine q_seq (by kernel_rfl) ?_
      refine q_region (by kernel_rfl) ?_
      refine Ops.go (v := (agg [(i64 ((⟨bs, 0, 0⟩ : Rdr).int.1)), (i64 (((⟨bs, 0, 0⟩ : Rdr).int.2).int.1)), (i64 ((((⟨bs, 0, 0⟩ : Rdr).int.2).int.2).int.1)), (i64 (((((⟨bs, 0, 0⟩ : Rdr).int.2).int.2).int.2).int.1)), (i64 ((((((⟨bs, 0, 0⟩ : Rdr).int.2).int.2).int.2).int.2).int.1))])) (by kernel_rfl) (Runs.load (t := 40) (a := ⟨b29, 0, none⟩) (by kernel_rfl) (H129.loads (by kernel_rfl))) (d := (some 34)) (by kernel_rfl) rfl ?_
      refine Ops.put (t := 40) (b := b1) (off := 0) (v := (agg [(i64 ((⟨bs, 0, 0⟩ : Rdr).int.1)), (i64 (((⟨bs, 0, 0⟩ : Rdr).int.2).int.1)), (i64 ((((⟨bs, 0, 0⟩ : Rdr).int.2).int.2).int.1)), (i64 (((((⟨bs, 0, 0⟩ : Rdr).int.2).int.2).int.2).int.1)), (i64 ((((((⟨bs, 0, 0⟩ : Rdr).int.2).int.2).int.2).int.2).int.1))])) (ys := [(i64 ((⟨bs, 0, 0⟩ : Rdr).int.1)), (i64 (((⟨bs, 0, 0⟩ : Rdr).int.2).int.1)), (i64 ((((⟨bs, 0, 0⟩ : Rdr).int.2).int.2).int.1)), (i64 (((((⟨bs, 0, 0⟩ : Rdr).int.2).int.2).int.2).int.1)), (i64 ((((((⟨bs, 0, 0⟩ : Rdr).int.2).int.2).int.2).int.2).int.1))]) (by kernel_rfl) (by kernel_rfl) H127 (by kernel_rfl) (d := none) (by kernel_rfl) rfl (fun w142 H143 K144 => ?_)
      clear H127
      have H145 := H128.keep K144 (by intro h; change b15 = b1 at h; omega)
      clear H128
      have H146 := H129.keep K144 (by intro h; change b29 = b1 at h; omega)
      clear H129
      have F147 := RdO.keep F130 K144 (fun i _ _ hi hs => by have hs : i = b1 := hs; have := ob26 i _ _ hi; omega)
      clear F130
      have K148 := K131.trans K144 (U := none_) (fun i h1 h2 => h2) (fun i h1 h2 => by have h2 : i = b1 := h2; exfalso; omega)
      clear K131
      clear K144
      refine Ops.regs 1 [(2, (Value.pointer (some ⟨b1, 0, none⟩))), (3, (i64 0))] (j := 3) (by kernel_rfl) (by kernel_rfl) ?_
      refine Ops.done (by kernel_rfl) ?_
      refine q_ret (by kernel_rfl) ?_
      refine ⟨(Value.tuple #[(agg [(i64 ((⟨bs, 0, 0⟩ : Rdr).int.1)), (i64 (((⟨bs, 0, 0⟩ : Rdr).int.2).int.1)), (i64 ((((⟨bs, 0, 0⟩ : Rdr).int.2).int.2).int.1)), (i64 (((((⟨bs, 0, 0⟩ : Rdr).int.2).int.2).int.2).int.1)), (i64 ((((((⟨bs, 0, 0⟩ : Rdr).int.2).int.2).int.2).int.2).int.1))]), (i64 0)]), retv_cell_tmp rfl rfl (H143.loads (by kernel_rfl)) rfl, ?_⟩
      have e : parseB bs = (⟨(⟨bs, 0, 0⟩ : Rdr).int.1, ((⟨bs, 0, 0⟩ : Rdr).int.2).int.1, (((⟨bs, 0, 0⟩ : Rdr).int.2).int.2).int.1, ((((⟨bs, 0, 0⟩ : Rdr).int.2).int.2).int.2).int.1, (((((⟨bs, 0, 0⟩ : Rdr).int.2).int.2).int.2).int.2).int.1⟩, 0) := by unfold parseB; first | (rw [if_pos (by omega)]; done) | (rw [if_neg (by omega)]; first | (exact if_pos (by assumption)) | (exact if_neg (fun h => h (by assumption))))
      exact ⟨by rw [e]; rfl, K148⟩

theorem RParse_calls_any (w : World) (v : Value) (bs : List UInt8) (hv : RdB w v bs) : Calls Try.prog 31 ⟨[v]⟩ w (fun e w' => e = .returned (.tuple #[(parseB bs).1.v, i64 (parseB bs).2]) ∧ Keeps none_ w w') := by
  obtain ⟨A, c, rfl⟩ := hv.form
  exact RParse_calls w A c bs hv
end Go.Proofs.Ytoljbckhoigibaa
