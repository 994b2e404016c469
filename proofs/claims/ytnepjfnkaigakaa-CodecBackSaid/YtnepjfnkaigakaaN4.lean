/- chapter 02: CodecBack returns true -/
import Derived.Test.YtnepjfnkaigakaaProg
import Derived.Test.YtnepjfnkaigakaaKE
set_option linter.unusedVariables false
namespace Go.Proofs.Ytnepjfnkaigakaa
open Go.Q Go.RowKit

set_option maxHeartbeats 4000000 in
theorem Back_calls (w : World) (n : Nat) (z : Int) (ss : List UInt8) (om : Opm) (p : ReplyM) (A : Option Addr) (c : Nat) (hn : n < 18446744073709551616) (hz : -9223372036854775808 ≤ z ∧ z ≤ 9223372036854775807) (ho : om.Ok) (hpo : p.Ok) (hp : RdR w (.slice A p.rows.length c) p.rows) : Calls Try.prog 10 ⟨[(Value.int IntKind.u64 ((n : Nat) : Int)), (i64 z), (Value.string (str ss)), (agg [(i64 om.kind), (Value.string (str om.frm)), (Value.string (str om.to)), (i64 om.amount), (Value.string (str om.key)), (i64 om.slot), (i64 om.shard)]), (agg [(i64 p.why), (i64 p.amount), (Value.slice A p.rows.length c)])]⟩ w (fun e w' => e = .returned (.bool true) ∧ Keeps none_ w w') := by
  have hol := opv_len om
  have hpl := rpv_len p
  have hi1 := iv_length_10 ho.kind
  have hi2 := iv_length_10 ho.amount
  have hi3 := iv_length_10 ho.slot
  have hi4 := iv_length_10 ho.shard
  have hi5 := iv_length_10 hpo.why
  have hi6 := iv_length_10 hpo.amount
  have hu0 : p.rows.length ≤ 600 → (uv p.rows.length).length ≤ 10 := fun h => uv_length_10 (by omega)
  have ht1 : om.frm.length ≤ 65536 → (tv om.frm).length ≤ om.frm.length + 10 := fun h => tv_le (by omega)
  have ht2 : om.to.length ≤ 65536 → (tv om.to).length ≤ om.to.length + 10 := fun h => tv_le (by omega)
  have ht3 : om.key.length ≤ 65536 → (tv om.key).length ≤ om.key.length + 10 := fun h => tv_le (by omega)
  have K0 : Keeps none_ w w := Keeps.refl w
  refine q_calls Try.func10 (by kernel_rfl) (by kernel_rfl) ?_
  refine q_seq (by kernel_rfl) ?_
  refine q_region (by kernel_rfl) ?_
  refine Ops.new (o := rowL [(i64 om.kind), (Value.string (str om.frm)), (Value.string (str om.to)), (i64 om.amount), (Value.string (str om.key)), (i64 om.slot), (i64 om.shard)] 43) (V := fun b => (Value.pointer (some ⟨b, 0, none⟩))) (by kernel_rfl) (d := (some 8)) (by kernel_rfl) (fun b => rfl) (fun b1 w2 hb3 H4 K5 hs6 => ?_)
  have nb1 : w.heap.size ≤ b1 := by have := K0.size; omega
  have K7 := K0.trans K5 (U := none_) (fun i h1 h2 => h2) (fun i h1 h2 => by exact h2)
  clear K0
  clear K5 hs6
  refine Ops.new (o := rowL [(i64 p.why), (i64 p.amount), (Value.slice A p.rows.length c)] 46) (V := fun b => (Value.pointer (some ⟨b, 0, none⟩))) (by kernel_rfl) (d := (some 9)) (by kernel_rfl) (fun b => rfl) (fun b8 w9 hb10 H11 K12 hs13 => ?_)
  have lb8b1 : b1 < b8 := by have := H4.lt; omega
  have nb8 : w.heap.size ≤ b8 := by have := K7.size; omega
  have K14 := K7.trans K12 (U := none_) (fun i h1 h2 => h2) (fun i h1 h2 => by exact h2)
  clear K7
  have H15 := H4.keep K12 (fun h => h)
  clear H4
  clear K12 hs13
  refine Ops.regs 1 [(0, (Value.int IntKind.u64 ((n : Nat) : Int))), (1, (i64 z)), (2, (Value.string (str ss))), (8, (Value.pointer (some ⟨b1, 0, none⟩))), (9, (Value.pointer (some ⟨b8, 0, none⟩))), (10, (Value.bool false))] (j := 3) (by kernel_rfl) (by kernel_rfl) ?_
  refine Ops.done (by kernel_rfl) ?_
  refine q_seq (by kernel_rfl) ?_
  refine q_seq (by kernel_rfl) ?_
  refine q_region (by kernel_rfl) ?_
  refine Ops.regs 4 [(0, (Value.int IntKind.u64 ((n : Nat) : Int))), (1, (i64 z)), (2, (Value.string (str ss))), (8, (Value.pointer (some ⟨b1, 0, none⟩))), (9, (Value.pointer (some ⟨b8, 0, none⟩))), (10, (Value.bool false)), (17, (Value.bool (decide (((ss.length : Nat) : Int) > 65536))))] (j := 4) (by kernel_rfl) (by kernel_rfl) ?_
  refine Ops.split (decide (((ss.length : Nat) : Int) > 65536)) (fun h16 => ?_) (fun h16 => ?_)
  · rw [h16]
    have p17 : ((ss.length : Nat) : Int) > 65536 := of_decide_eq_true h16
    refine Ops.regs 23 [(0, (Value.int IntKind.u64 ((n : Nat) : Int))), (1, (i64 z)), (2, (Value.string (str ss))), (8, (Value.pointer (some ⟨b1, 0, none⟩))), (9, (Value.pointer (some ⟨b8, 0, none⟩))), (10, (Value.bool false)), (40, (Value.bool true))] (j := 27) (by kernel_rfl) (by kernel_rfl) ?_
    refine Ops.done (by kernel_rfl) ?_
    refine q_then (o := .tmp 40) (by kernel_rfl) rfl ?_
    refine q_seq (by kernel_rfl) ?_
    refine q_region (by kernel_rfl) ?_
    refine Ops.call (by kernel_rfl) (d := (some 41)) (by kernel_rfl) (known_calls _) ?_
    rintro _ w18 ⟨rfl, K19⟩
    refine ⟨_, _, rfl, rfl, ?_⟩
    have K20 := K14.trans K19 (U := none_) (fun i h1 h2 => h2) (fun i h1 h2 => by exact h2)
    clear K14
    have H21 := H15.keep K19 (fun h => h)
    clear H15
    have H22 := H11.keep K19 (fun h => h)
    clear H11
    clear K19
    refine Ops.regs 1 [(0, (Value.int IntKind.u64 ((n : Nat) : Int))), (1, (i64 z)), (2, (Value.string (str ss))), (8, (Value.pointer (some ⟨b1, 0, none⟩))), (9, (Value.pointer (some ⟨b8, 0, none⟩))), (10, (Value.bool true))] (j := 2) (by kernel_rfl) (by kernel_rfl) ?_
    refine Ops.done (by kernel_rfl) ?_
    refine q_ret (by kernel_rfl) ?_
    refine ⟨(Value.bool true), retv_tmp rfl rfl, ?_⟩
    exact ⟨rfl, K20⟩
  · rw [h16]
    have p23 : ¬ (((ss.length : Nat) : Int) > 65536) := of_decide_eq_false h16
    refine Ops.regs 1 [(0, (Value.int IntKind.u64 ((n : Nat) : Int))), (1, (i64 z)), (2, (Value.string (str ss))), (8, (Value.pointer (some ⟨b1, 0, none⟩))), (9, (Value.pointer (some ⟨b8, 0, none⟩))), (10, (Value.bool false)), (17, (Value.bool false)), (18, (Value.pointer (some ⟨b1, 1, none⟩)))] (j := 5) (by kernel_rfl) (by kernel_rfl) ?_
    refine Ops.go (v := (Value.string (str om.frm))) (by kernel_rfl) (Runs.load (t := 9) (a := ⟨b1, 1, none⟩) (by kernel_rfl) (H15.loads (by kernel_rfl))) (d := (some 19)) (by kernel_rfl) rfl ?_
    refine Ops.regs 4 [(0, (Value.int IntKind.u64 ((n : Nat) : Int))), (1, (i64 z)), (2, (Value.string (str ss))), (8, (Value.pointer (some ⟨b1, 0, none⟩))), (9, (Value.pointer (some ⟨b8, 0, none⟩))), (10, (Value.bool false)), (23, (Value.bool (decide (((om.frm.length : Nat) : Int) > 65536))))] (j := 10) (by kernel_rfl) (by kernel_rfl) ?_
    refine Ops.split (decide (((om.frm.length : Nat) : Int) > 65536)) (fun h24 => ?_) (fun h24 => ?_)
    · rw [h24]
      have p25 : ((om.frm.length : Nat) : Int) > 65536 := of_decide_eq_true h24
      refine Ops.regs 17 [(0, (Value.int IntKind.u64 ((n : Nat) : Int))), (1, (i64 z)), (2, (Value.string (str ss))), (8, (Value.pointer (some ⟨b1, 0, none⟩))), (9, (Value.pointer (some ⟨b8, 0, none⟩))), (10, (Value.bool false)), (40, (Value.bool true))] (j := 27) (by kernel_rfl) (by kernel_rfl) ?_
      refine Ops.done (by kernel_rfl) ?_
      refine q_then (o := .tmp 40) (by kernel_rfl) rfl ?_
      refine q_seq (by kernel_rfl) ?_
      refine q_region (by kernel_rfl) ?_
      refine Ops.call (by kernel_rfl) (d := (some 41)) (by kernel_rfl) (known_calls _) ?_
      rintro _ w26 ⟨rfl, K27⟩
      refine ⟨_, _, rfl, rfl, ?_⟩
      have K28 := K14.trans K27 (U := none_) (fun i h1 h2 => h2) (fun i h1 h2 => by exact h2)
      clear K14
      have H29 := H15.keep K27 (fun h => h)
      clear H15
      have H30 := H11.keep K27 (fun h => h)
      clear H11
      clear K27
      refine Ops.regs 1 [(0, (Value.int IntKind.u64 ((n : Nat) : Int))), (1, (i64 z)), (2, (Value.string (str ss))), (8, (Value.pointer (some ⟨b1, 0, none⟩))), (9, (Value.pointer (some ⟨b8, 0, none⟩))), (10, (Value.bool true))] (j := 2) (by kernel_rfl) (by kernel_rfl) ?_
      refine Ops.done (by kernel_rfl) ?_
      refine q_ret (by kernel_rfl) ?_
      refine ⟨(Value.bool true), retv_tmp rfl rfl, ?_⟩
      exact ⟨rfl, K28⟩
    · rw [h24]
      have p31 : ¬ (((om.frm.length : Nat) : Int) > 65536) := of_decide_eq_false h24
      refine Ops.regs 1 [(0, (Value.int IntKind.u64 ((n : Nat) : Int))), (1, (i64 z)), (2, (Value.string (str ss))), (8, (Value.pointer (some ⟨b1, 0, none⟩))), (9, (Value.pointer (some ⟨b8, 0, none⟩))), (10, (Value.bool false)), (23, (Value.bool false)), (24, (Value.pointer (some ⟨b1, 2, none⟩)))] (j := 11) (by kernel_rfl) (by kernel_rfl) ?_
      refine Ops.go (v := (Value.string (str om.to))) (by kernel_rfl) (Runs.load (t := 9) (a := ⟨b1, 2, none⟩) (by kernel_rfl) (H15.loads (by kernel_rfl))) (d := (some 25)) (by kernel_rfl) rfl ?_
      refine Ops.regs 4 [(0, (Value.int IntKind.u64 ((n : Nat) : Int))), (1, (i64 z)), (2, (Value.string (str ss))), (8, (Value.pointer (some ⟨b1, 0, none⟩))), (9, (Value.pointer (some ⟨b8, 0, none⟩))), (10, (Value.bool false)), (29, (Value.bool (decide (((om.to.length : Nat) : Int) > 65536))))] (j := 16) (by kernel_rfl) (by kernel_rfl) ?_
      refine Ops.split (decide (((om.to.length : Nat) : Int) > 65536)) (fun h32 => ?_) (fun h32 => ?_)
      · rw [h32]
        have p33 : ((om.to.length : Nat) : Int) > 65536 := of_decide_eq_true h32
        refine Ops.regs 11 [(0, (Value.int IntKind.u64 ((n : Nat) : Int))), (1, (i64 z)), (2, (Value.string (str ss))), (8, (Value.pointer (some ⟨b1, 0, none⟩))), (9, (Value.pointer (some ⟨b8, 0, none⟩))), (10, (Value.bool false)), (40, (Value.bool true))] (j := 27) (by kernel_rfl) (by kernel_rfl) ?_
        refine Ops.done (by kernel_rfl) ?_
        refine q_then (o := .tmp 40) (by kernel_rfl) rfl ?_
        refine q_seq (by kernel_rfl) ?_
        refine q_region (by kernel_rfl) ?_
        refine Ops.call (by kernel_rfl) (d := (some 41)) (by kernel_rfl) (known_calls _) ?_
        rintro _ w34 ⟨rfl, K35⟩
        refine ⟨_, _, rfl, rfl, ?_⟩
        have K36 := K14.trans K35 (U := none_) (fun i h1 h2 => h2) (fun i h1 h2 => by exact h2)
        clear K14
        have H37 := H15.keep K35 (fun h => h)
        clear H15
        have H38 := H11.keep K35 (fun h => h)
        clear H11
        clear K35
        refine Ops.regs 1 [(0, (Value.int IntKind.u64 ((n : Nat) : Int))), (1, (i64 z)), (2, (Value.string (str ss))), (8, (Value.pointer (some ⟨b1, 0, none⟩))), (9, (Value.pointer (some ⟨b8, 0, none⟩))), (10, (Value.bool true))] (j := 2) (by kernel_rfl) (by kernel_rfl) ?_
        refine Ops.done (by kernel_rfl) ?_
        refine q_ret (by kernel_rfl) ?_
        refine ⟨(Value.bool true), retv_tmp rfl rfl, ?_⟩
        exact ⟨rfl, K36⟩
      · rw [h32]
        have p39 : ¬ (((om.to.length : Nat) : Int) > 65536) := of_decide_eq_false h32
        refine Ops.regs 1 [(0, (Value.int IntKind.u64 ((n : Nat) : Int))), (1, (i64 z)), (2, (Value.string (str ss))), (8, (Value.pointer (some ⟨b1, 0, none⟩))), (9, (Value.pointer (some ⟨b8, 0, none⟩))), (10, (Value.bool false)), (29, (Value.bool false)), (30, (Value.pointer (some ⟨b1, 4, none⟩)))] (j := 17) (by kernel_rfl) (by kernel_rfl) ?_
        refine Ops.go (v := (Value.string (str om.key))) (by kernel_rfl) (Runs.load (t := 9) (a := ⟨b1, 4, none⟩) (by kernel_rfl) (H15.loads (by kernel_rfl))) (d := (some 31)) (by kernel_rfl) rfl ?_
        refine Ops.regs 4 [(0, (Value.int IntKind.u64 ((n : Nat) : Int))), (1, (i64 z)), (2, (Value.string (str ss))), (8, (Value.pointer (some ⟨b1, 0, none⟩))), (9, (Value.pointer (some ⟨b8, 0, none⟩))), (10, (Value.bool false)), (35, (Value.bool (decide (((om.key.length : Nat) : Int) > 65536))))] (j := 22) (by kernel_rfl) (by kernel_rfl) ?_
        refine Ops.split (decide (((om.key.length : Nat) : Int) > 65536)) (fun h40 => ?_) (fun h40 => ?_)
        · rw [h40]
          have p41 : ((om.key.length : Nat) : Int) > 65536 := of_decide_eq_true h40
          refine Ops.regs 5 [(0, (Value.int IntKind.u64 ((n : Nat) : Int))), (1, (i64 z)), (2, (Value.string (str ss))), (8, (Value.pointer (some ⟨b1, 0, none⟩))), (9, (Value.pointer (some ⟨b8, 0, none⟩))), (10, (Value.bool false)), (40, (Value.bool true))] (j := 27) (by kernel_rfl) (by kernel_rfl) ?_
          refine Ops.done (by kernel_rfl) ?_
          refine q_then (o := .tmp 40) (by kernel_rfl) rfl ?_
          refine q_seq (by kernel_rfl) ?_
          refine q_region (by kernel_rfl) ?_
          refine Ops.call (by kernel_rfl) (d := (some 41)) (by kernel_rfl) (known_calls _) ?_
          rintro _ w42 ⟨rfl, K43⟩
          refine ⟨_, _, rfl, rfl, ?_⟩
          have K44 := K14.trans K43 (U := none_) (fun i h1 h2 => h2) (fun i h1 h2 => by exact h2)
          clear K14
          have H45 := H15.keep K43 (fun h => h)
          clear H15
          have H46 := H11.keep K43 (fun h => h)
          clear H11
          clear K43
          refine Ops.regs 1 [(0, (Value.int IntKind.u64 ((n : Nat) : Int))), (1, (i64 z)), (2, (Value.string (str ss))), (8, (Value.pointer (some ⟨b1, 0, none⟩))), (9, (Value.pointer (some ⟨b8, 0, none⟩))), (10, (Value.bool true))] (j := 2) (by kernel_rfl) (by kernel_rfl) ?_
          refine Ops.done (by kernel_rfl) ?_
          refine q_ret (by kernel_rfl) ?_
          refine ⟨(Value.bool true), retv_tmp rfl rfl, ?_⟩
          exact ⟨rfl, K44⟩
        · rw [h40]
          have p47 : ¬ (((om.key.length : Nat) : Int) > 65536) := of_decide_eq_false h40
          refine Ops.regs 1 [(0, (Value.int IntKind.u64 ((n : Nat) : Int))), (1, (i64 z)), (2, (Value.string (str ss))), (8, (Value.pointer (some ⟨b1, 0, none⟩))), (9, (Value.pointer (some ⟨b8, 0, none⟩))), (10, (Value.bool false)), (35, (Value.bool false)), (36, (Value.pointer (some ⟨b8, 2, none⟩)))] (j := 23) (by kernel_rfl) (by kernel_rfl) ?_
          refine Ops.go (v := (Value.slice A p.rows.length c)) (by kernel_rfl) (Runs.load (t := 44) (a := ⟨b8, 2, none⟩) (by kernel_rfl) (H11.loads (by kernel_rfl))) (d := (some 37)) (by kernel_rfl) rfl ?_
          refine Ops.regs 3 [(0, (Value.int IntKind.u64 ((n : Nat) : Int))), (1, (i64 z)), (2, (Value.string (str ss))), (8, (Value.pointer (some ⟨b1, 0, none⟩))), (9, (Value.pointer (some ⟨b8, 0, none⟩))), (10, (Value.bool false)), (40, (Value.bool (decide (((p.rows.length : Nat) : Int) > 600))))] (j := 27) (by kernel_rfl) (by kernel_rfl) ?_
          refine Ops.done (by kernel_rfl) ?_
          refine q_cond (o := .tmp 40) (b := (decide (((p.rows.length : Nat) : Int) > 600))) (by kernel_rfl) rfl (fun h48 => ?_) (fun h48 => ?_)
          · rw [h48]
            have p49 : ((p.rows.length : Nat) : Int) > 600 := of_decide_eq_true h48
            refine q_seq (by kernel_rfl) ?_
            refine q_region (by kernel_rfl) ?_
            refine Ops.call (by kernel_rfl) (d := (some 41)) (by kernel_rfl) (known_calls _) ?_
            rintro _ w50 ⟨rfl, K51⟩
            refine ⟨_, _, rfl, rfl, ?_⟩
            have K52 := K14.trans K51 (U := none_) (fun i h1 h2 => h2) (fun i h1 h2 => by exact h2)
            clear K14
            have H53 := H15.keep K51 (fun h => h)
            clear H15
            have H54 := H11.keep K51 (fun h => h)
            clear H11
            clear K51
            refine Ops.regs 1 [(0, (Value.int IntKind.u64 ((n : Nat) : Int))), (1, (i64 z)), (2, (Value.string (str ss))), (8, (Value.pointer (some ⟨b1, 0, none⟩))), (9, (Value.pointer (some ⟨b8, 0, none⟩))), (10, (Value.bool true))] (j := 2) (by kernel_rfl) (by kernel_rfl) ?_
            refine Ops.done (by kernel_rfl) ?_
            refine q_ret (by kernel_rfl) ?_
            refine ⟨(Value.bool true), retv_tmp rfl rfl, ?_⟩
            exact ⟨rfl, K52⟩
          · rw [h48]
            have p55 : ¬ (((p.rows.length : Nat) : Int) > 600) := of_decide_eq_false h48
            refine q_skip (by kernel_rfl) ?_
            refine q_seq (by kernel_rfl) ?_
            refine q_seq (by kernel_rfl) ?_
            refine q_region (by kernel_rfl) ?_
            refine Ops.regs 1 [(0, (Value.int IntKind.u64 ((n : Nat) : Int))), (1, (i64 z)), (2, (Value.string (str ss))), (8, (Value.pointer (some ⟨b1, 0, none⟩))), (9, (Value.pointer (some ⟨b8, 0, none⟩))), (10, (Value.bool false)), (11, (i64 0))] (j := 1) (by kernel_rfl) (by kernel_rfl) ?_
            refine Ops.done (by kernel_rfl) ?_
            refine q_block (id := 0) (by kernel_rfl) ?_
            refine q_keep (R := [(0, (Value.int IntKind.u64 ((n : Nat) : Int))), (1, (i64 z)), (2, (Value.string (str ss))), (8, (Value.pointer (some ⟨b1, 0, none⟩))), (9, (Value.pointer (some ⟨b8, 0, none⟩))), (11, (i64 0))]) (by kernel_rfl) ?_
            refine q_loop (fun (i : Nat) L (wx : World) => L = [(0, (Value.int IntKind.u64 ((n : Nat) : Int))), (1, (i64 z)), (2, (Value.string (str ss))), (8, (Value.pointer (some ⟨b1, 0, none⟩))), (9, (Value.pointer (some ⟨b8, 0, none⟩))), (11, (i64 ((i : Nat) : Int)))] ∧ (∀ x ∈ p.rows.take i, x.name.length ≤ 1000) ∧ i ≤ p.rows.length ∧ Keeps none_ w wx ∧ Has wx b1 (rowL [(i64 om.kind), (Value.string (str om.frm)), (Value.string (str om.to)), (i64 om.amount), (Value.string (str om.key)), (i64 om.slot), (i64 om.shard)] 43) ∧ Has wx b8 (rowL [(i64 p.why), (i64 p.amount), (Value.slice A p.rows.length c)] 46)) (fun (i : Nat) => p.rows.length - i) 0 (by kernel_rfl) ⟨rfl, (by simp), Nat.zero_le _, K14, H15, H11⟩ ?_
            clear H15 H11 K14
            rintro i _ w56 ⟨rfl, hN, hi, K57, H58, H59⟩
            refine q_seq (by kernel_rfl) ?_
            refine q_seq (by kernel_rfl) ?_
            refine q_region (by kernel_rfl) ?_
            refine Ops.regs 2 [(0, (Value.int IntKind.u64 ((n : Nat) : Int))), (1, (i64 z)), (2, (Value.string (str ss))), (8, (Value.pointer (some ⟨b1, 0, none⟩))), (9, (Value.pointer (some ⟨b8, 0, none⟩))), (11, (i64 ((i : Nat) : Int))), (42, (i64 ((i : Nat) : Int))), (43, (Value.pointer (some ⟨b8, 2, none⟩)))] (j := 2) (by kernel_rfl) (by kernel_rfl) ?_
            refine Ops.go (v := (Value.slice A p.rows.length c)) (by kernel_rfl) (Runs.load (t := 44) (a := ⟨b8, 2, none⟩) (by kernel_rfl) (H59.loads (by kernel_rfl))) (d := (some 44)) (by kernel_rfl) rfl ?_
            refine Ops.regs 2 [(0, (Value.int IntKind.u64 ((n : Nat) : Int))), (1, (i64 z)), (2, (Value.string (str ss))), (8, (Value.pointer (some ⟨b1, 0, none⟩))), (9, (Value.pointer (some ⟨b8, 0, none⟩))), (11, (i64 ((i : Nat) : Int))), (46, (Value.bool (decide (((i : Nat) : Int) < ((p.rows.length : Nat) : Int)))))] (j := 5) (by kernel_rfl) (by kernel_rfl) ?_
            refine Ops.done (by kernel_rfl) ?_
            refine q_cond (o := .tmp 46) (b := (decide (((i : Nat) : Int) < ((p.rows.length : Nat) : Int)))) (by kernel_rfl) rfl (fun h60 => ?_) (fun h60 => ?_)
            · rw [h60]
              have p61 : ((i : Nat) : Int) < ((p.rows.length : Nat) : Int) := of_decide_eq_true h60
              obtain ⟨rb62, ro63, x, hA64, hx65⟩ := RdT.open (Rd.keep0 (by omega) hp K57) rfl (k := i) (by omega)
              have hX := hx65
              refine q_skip (by kernel_rfl) ?_
              refine q_seq (by kernel_rfl) ?_
              refine q_block (id := 1) (by kernel_rfl) ?_
              refine q_seq (by kernel_rfl) ?_
              refine q_region (by kernel_rfl) ?_
              refine Ops.regs 1 [(0, (Value.int IntKind.u64 ((n : Nat) : Int))), (1, (i64 z)), (2, (Value.string (str ss))), (8, (Value.pointer (some ⟨b1, 0, none⟩))), (9, (Value.pointer (some ⟨b8, 0, none⟩))), (11, (i64 ((i : Nat) : Int))), (46, (Value.bool true)), (49, (Value.pointer (some ⟨b8, 2, none⟩)))] (j := 1) (by kernel_rfl) (by kernel_rfl) ?_
              refine Ops.go (v := (Value.slice A p.rows.length c)) (by kernel_rfl) (Runs.load (t := 44) (a := ⟨b8, 2, none⟩) (by kernel_rfl) (H59.loads (by kernel_rfl))) (d := (some 50)) (by kernel_rfl) rfl ?_
              refine Ops.regs 1 [(0, (Value.int IntKind.u64 ((n : Nat) : Int))), (1, (i64 z)), (2, (Value.string (str ss))), (8, (Value.pointer (some ⟨b1, 0, none⟩))), (9, (Value.pointer (some ⟨b8, 0, none⟩))), (11, (i64 ((i : Nat) : Int))), (46, (Value.bool true)), (50, (Value.slice A p.rows.length c)), (51, (i64 ((i : Nat) : Int)))] (j := 3) (by kernel_rfl) (by kernel_rfl) ?_
              refine Ops.go (by kernel_rfl) (Runs.ixSliceE (k := IntKind.i64) (t := 44) (len := p.rows.length) (cap := c) (s := 2) (off' := ro63 + i * 2) (i := ((i : Nat) : Int)) hA64 (by kernel_rfl) (by kernel_rfl) (by omega) (by omega) (by omega)) (d := (some 52)) (by kernel_rfl) rfl ?_
              refine Ops.regs 1 [(0, (Value.int IntKind.u64 ((n : Nat) : Int))), (1, (i64 z)), (2, (Value.string (str ss))), (8, (Value.pointer (some ⟨b1, 0, none⟩))), (9, (Value.pointer (some ⟨b8, 0, none⟩))), (11, (i64 ((i : Nat) : Int))), (46, (Value.bool true)), (53, (Value.pointer (some ⟨rb62, ro63 + i * 2, none⟩)))] (j := 5) (by kernel_rfl) (by kernel_rfl) ?_
              refine Ops.go (v := (Value.string (str x.name))) (by kernel_rfl) (Runs.load (t := 9) (a := ⟨rb62, ro63 + i * 2, none⟩) (by kernel_rfl) (RdT.ldf (f := RowM.cells) (x := x) (o := 0) RowM.two (Rd.keep0 (by omega) hp K57) (by kernel_rfl) hA64 hx65 rfl)) (d := (some 54)) (by kernel_rfl) rfl ?_
              refine Ops.regs 2 [(0, (Value.int IntKind.u64 ((n : Nat) : Int))), (1, (i64 z)), (2, (Value.string (str ss))), (8, (Value.pointer (some ⟨b1, 0, none⟩))), (9, (Value.pointer (some ⟨b8, 0, none⟩))), (11, (i64 ((i : Nat) : Int))), (46, (Value.bool true)), (56, (Value.bool (decide (((x.name.length : Nat) : Int) > 1000))))] (j := 8) (by kernel_rfl) (by kernel_rfl) ?_
              refine Ops.done (by kernel_rfl) ?_
              refine q_cond (o := .tmp 56) (b := (decide (((x.name.length : Nat) : Int) > 1000))) (by kernel_rfl) rfl (fun h66 => ?_) (fun h66 => ?_)
              · rw [h66]
                have p67 : ((x.name.length : Nat) : Int) > 1000 := of_decide_eq_true h66
                refine q_seq (by kernel_rfl) ?_
                refine q_region (by kernel_rfl) ?_
                refine Ops.call (by kernel_rfl) (d := (some 57)) (by kernel_rfl) (known_calls _) ?_
                rintro _ w68 ⟨rfl, K69⟩
                refine ⟨_, _, rfl, rfl, ?_⟩
                have K70 := K57.trans K69 (U := none_) (fun i h1 h2 => h2) (fun i h1 h2 => by exact h2)
                clear K57
                have H71 := H58.keep K69 (fun h => h)
                clear H58
                have H72 := H59.keep K69 (fun h => h)
                clear H59
                clear K69
                refine Ops.regs 1 [(0, (Value.int IntKind.u64 ((n : Nat) : Int))), (1, (i64 z)), (2, (Value.string (str ss))), (8, (Value.pointer (some ⟨b1, 0, none⟩))), (9, (Value.pointer (some ⟨b8, 0, none⟩))), (10, (Value.bool true)), (11, (i64 ((i : Nat) : Int))), (46, (Value.bool true)), (56, (Value.bool true))] (j := 2) (by kernel_rfl) (by kernel_rfl) ?_
                refine Ops.done (by kernel_rfl) ?_
                refine q_ret (by kernel_rfl) ?_
                refine ⟨(Value.bool true), retv_tmp rfl rfl, ?_⟩
                exact ⟨rfl, K70⟩
              · rw [h66]
                have p73 : ¬ (((x.name.length : Nat) : Int) > 1000) := of_decide_eq_false h66
                refine q_skip (by kernel_rfl) ?_
                refine q_region (by kernel_rfl) ?_
                refine Ops.regs 2 [(0, (Value.int IntKind.u64 ((n : Nat) : Int))), (1, (i64 z)), (2, (Value.string (str ss))), (8, (Value.pointer (some ⟨b1, 0, none⟩))), (9, (Value.pointer (some ⟨b8, 0, none⟩))), (11, (i64 ((i : Nat) : Int))), (46, (Value.bool true)), (48, (i64 (IntKind.i64.wrap (((i : Nat) : Int) + 1)))), (56, (Value.bool false))] (j := 2) (by kernel_rfl) (by kernel_rfl) ?_
                have e74 : IntKind.i64.wrap (((i : Nat) : Int) + 1) = ((i + 1 : Nat) : Int) := by rw [wrap_i64 (by omega) (by omega)]; omega
                rw [e74]
                clear e74
                refine Ops.regs 1 [(0, (Value.int IntKind.u64 ((n : Nat) : Int))), (1, (i64 z)), (2, (Value.string (str ss))), (8, (Value.pointer (some ⟨b1, 0, none⟩))), (9, (Value.pointer (some ⟨b8, 0, none⟩))), (11, (i64 ((i + 1 : Nat) : Int))), (46, (Value.bool true)), (56, (Value.bool false))] (j := 3) (by kernel_rfl) (by kernel_rfl) ?_
                refine Ops.keep (R := [(0, (Value.int IntKind.u64 ((n : Nat) : Int))), (1, (i64 z)), (2, (Value.string (str ss))), (8, (Value.pointer (some ⟨b1, 0, none⟩))), (9, (Value.pointer (some ⟨b8, 0, none⟩))), (11, (i64 ((i + 1 : Nat) : Int)))]) (by kernel_rfl) ?_
                refine Ops.done (by kernel_rfl) ?_
                exact ⟨i + 1, ⟨rfl, (fun y hy => by obtain ⟨h1, h2⟩ := List.getElem?_eq_some_iff.1 hX; rw [List.take_succ_eq_append_getElem h1, List.mem_append, List.mem_singleton] at hy; rcases hy with hy | hy; (exact hN y hy); (subst hy; rw [h2]; omega)), (by omega), K57, H58, H59⟩, (show p.rows.length - (i + 1) < p.rows.length - i from by omega)⟩
            · rw [h60]
              have p75 : ¬ (((i : Nat) : Int) < ((p.rows.length : Nat) : Int)) := of_decide_eq_false h60
              have hNa : ∀ x ∈ p.rows, x.name.length ≤ 1000 := by rw [List.take_of_length_le (by omega)] at hN; exact hN
              have hrv := rowsv_len_le (B := 1000) p.rows hNa hpo.rows (by decide)
              have hrm : p.rows.length * (1000 + 20) ≤ 600 * 1020 := Nat.mul_le_mul (by omega) (by decide)
              refine q_exit (id := 0) (by kernel_rfl) ?_
              refine q_seq (by kernel_rfl) ?_
              refine q_region (by kernel_rfl) ?_
              refine Ops.regs 1 [(0, (Value.int IntKind.u64 ((n : Nat) : Int))), (1, (i64 z)), (2, (Value.string (str ss))), (8, (Value.pointer (some ⟨b1, 0, none⟩))), (9, (Value.pointer (some ⟨b8, 0, none⟩))), (58, (Value.int IntKind.u64 ((n : Nat) : Int)))] (j := 1) (by kernel_rfl) (by kernel_rfl) ?_
              refine Ops.call (by kernel_rfl) (d := (some 59)) (by kernel_rfl) (Uint_calls _ (Value.slice none 0 0) [] n (Rd.nil _ _) (by omega) (by (try simp only at *); (try simp only [List.length_append] at *); (try simp only [List.length_cons] at *); (try simp only [List.length_nil] at *); omega)) ?_
              rintro _ w78 ⟨v77, rfl, K79, hO80⟩
              have O81 := own_base hO80 K57.size
              clear hO80
              have hL76 := uv_length_10 (n := n) (by omega)
              refine ⟨_, _, rfl, rfl, ?_⟩
              have K82 := K57.trans K79 (U := none_) (fun i h1 h2 => h2) (fun i h1 h2 => by exact h2)
              clear K57
              have H83 := H58.keep K79 (fun h => h)
              clear H58
              have H84 := H59.keep K79 (fun h => h)
              clear H59
              clear K79
              refine Ops.regs 1 [(0, (Value.int IntKind.u64 ((n : Nat) : Int))), (1, (i64 z)), (2, (Value.string (str ss))), (8, (Value.pointer (some ⟨b1, 0, none⟩))), (9, (Value.pointer (some ⟨b8, 0, none⟩))), (12, v77)] (j := 3) (by kernel_rfl) (by kernel_rfl) ?_
              refine Ops.done (by kernel_rfl) ?_
              refine q_seq (by kernel_rfl) ?_
              refine q_region (by kernel_rfl) ?_
              refine Ops.regs 2 [(0, (Value.int IntKind.u64 ((n : Nat) : Int))), (1, (i64 z)), (2, (Value.string (str ss))), (8, (Value.pointer (some ⟨b1, 0, none⟩))), (9, (Value.pointer (some ⟨b8, 0, none⟩))), (12, v77), (60, v77), (61, (i64 z))] (j := 2) (by kernel_rfl) (by kernel_rfl) ?_
              refine Ops.call (by kernel_rfl) (d := (some 62)) (by kernel_rfl) (Int_calls _ v77 ([] ++ uv n) z (OwnB.rd O81) (by omega) (by (try simp only at *); (try simp only [List.length_append] at *); (try simp only [List.length_cons] at *); (try simp only [List.length_nil] at *); omega)) ?_
              rintro _ w87 ⟨v86, rfl, K88, hO89⟩
              have O90 := own_base hO89 K82.size
              clear hO89
              have hL85 := iv_length_10 (n := z) (by omega)
              refine ⟨_, _, rfl, rfl, ?_⟩
              have K91 := K82.trans K88 (U := none_) (fun i h1 h2 => h2) (fun i h1 h2 => by exact h2)
              clear K82
              have H92 := H83.keep K88 (fun h => h)
              clear H83
              have H93 := H84.keep K88 (fun h => h)
              clear H84
              have F94 := own_keep0 O81 K88
              clear O81
              clear K88
              refine Ops.regs 1 [(0, (Value.int IntKind.u64 ((n : Nat) : Int))), (1, (i64 z)), (2, (Value.string (str ss))), (8, (Value.pointer (some ⟨b1, 0, none⟩))), (9, (Value.pointer (some ⟨b8, 0, none⟩))), (12, v86)] (j := 4) (by kernel_rfl) (by kernel_rfl) ?_
              refine Ops.done (by kernel_rfl) ?_
              refine q_seq (by kernel_rfl) ?_
              refine q_region (by kernel_rfl) ?_
              refine Ops.regs 2 [(0, (Value.int IntKind.u64 ((n : Nat) : Int))), (1, (i64 z)), (2, (Value.string (str ss))), (8, (Value.pointer (some ⟨b1, 0, none⟩))), (9, (Value.pointer (some ⟨b8, 0, none⟩))), (12, v86), (63, v86), (64, (Value.string (str ss)))] (j := 2) (by kernel_rfl) (by kernel_rfl) ?_
              refine Ops.call (by kernel_rfl) (d := (some 65)) (by kernel_rfl) (Text_calls _ v86 ([] ++ uv n ++ iv z) ss (OwnB.rd O90) (by first | omega | decide) (by (try simp only at *); (try simp only [List.length_append] at *); (try simp only [List.length_cons] at *); (try simp only [List.length_nil] at *); omega)) ?_
              rintro _ w98 ⟨v97, rfl, K99, hO100⟩
              have O101 := own_base hO100 K91.size
              clear hO100
              have hL95 := tv_ge ss
              have hL96 := tv_le (s := ss) (by first | omega | decide)
              refine ⟨_, _, rfl, rfl, ?_⟩
              have K102 := K91.trans K99 (U := none_) (fun i h1 h2 => h2) (fun i h1 h2 => by exact h2)
              clear K91
              have H103 := H92.keep K99 (fun h => h)
              clear H92
              have H104 := H93.keep K99 (fun h => h)
              clear H93
              have F105 := own_keep0 F94 K99
              clear F94
              have F106 := own_keep0 O90 K99
              clear O90
              clear K99
              refine Ops.regs 1 [(0, (Value.int IntKind.u64 ((n : Nat) : Int))), (1, (i64 z)), (2, (Value.string (str ss))), (8, (Value.pointer (some ⟨b1, 0, none⟩))), (9, (Value.pointer (some ⟨b8, 0, none⟩))), (12, v97)] (j := 4) (by kernel_rfl) (by kernel_rfl) ?_
              refine Ops.done (by kernel_rfl) ?_
              refine q_seq (by kernel_rfl) ?_
              refine q_region (by kernel_rfl) ?_
              refine Ops.regs 1 [(0, (Value.int IntKind.u64 ((n : Nat) : Int))), (1, (i64 z)), (2, (Value.string (str ss))), (8, (Value.pointer (some ⟨b1, 0, none⟩))), (9, (Value.pointer (some ⟨b8, 0, none⟩))), (12, v97), (66, v97)] (j := 1) (by kernel_rfl) (by kernel_rfl) ?_
              refine Ops.go (v := (agg [(i64 om.kind), (Value.string (str om.frm)), (Value.string (str om.to)), (i64 om.amount), (Value.string (str om.key)), (i64 om.slot), (i64 om.shard)])) (by kernel_rfl) (Runs.load (t := 43) (a := ⟨b1, 0, none⟩) (by kernel_rfl) (H103.loads (by kernel_rfl))) (d := (some 67)) (by kernel_rfl) rfl ?_
              refine Ops.call (by kernel_rfl) (d := (some 68)) (by kernel_rfl) (PutOp_calls _ v97 ([] ++ uv n ++ iv z ++ tv ss) om (OwnB.rd O101) ho (by (try simp only at *); (try simp only [List.length_append] at *); (try simp only [List.length_cons] at *); (try simp only [List.length_nil] at *); omega)) ?_
              rintro _ w108 ⟨v107, rfl, K109, hO110⟩
              have O111 := own_base hO110 K102.size
              clear hO110
              refine ⟨_, _, rfl, rfl, ?_⟩
              have K112 := K102.trans K109 (U := none_) (fun i h1 h2 => h2) (fun i h1 h2 => by exact h2)
              clear K102
              have H113 := H103.keep K109 (fun h => h)
              clear H103
              have H114 := H104.keep K109 (fun h => h)
              clear H104
              have F115 := own_keep0 F105 K109
              clear F105
              have F116 := own_keep0 F106 K109
              clear F106
              have F117 := own_keep0 O101 K109
              clear O101
              clear K109
              refine Ops.regs 1 [(0, (Value.int IntKind.u64 ((n : Nat) : Int))), (1, (i64 z)), (2, (Value.string (str ss))), (8, (Value.pointer (some ⟨b1, 0, none⟩))), (9, (Value.pointer (some ⟨b8, 0, none⟩))), (12, v107)] (j := 4) (by kernel_rfl) (by kernel_rfl) ?_
              refine Ops.done (by kernel_rfl) ?_
              refine q_seq (by kernel_rfl) ?_
              refine q_region (by kernel_rfl) ?_
              refine Ops.regs 1 [(0, (Value.int IntKind.u64 ((n : Nat) : Int))), (1, (i64 z)), (2, (Value.string (str ss))), (8, (Value.pointer (some ⟨b1, 0, none⟩))), (9, (Value.pointer (some ⟨b8, 0, none⟩))), (12, v107), (69, v107)] (j := 1) (by kernel_rfl) (by kernel_rfl) ?_
              refine Ops.call (by kernel_rfl) (d := (some 70)) (by kernel_rfl) (BoolW_calls _ v107 ([] ++ uv n ++ iv z ++ tv ss ++ opv om) true (OwnB.rd O111)  (by (try simp only at *); (try simp only [List.length_append] at *); (try simp only [List.length_cons] at *); (try simp only [List.length_nil] at *); omega)) ?_
              rintro _ w120 ⟨v119, rfl, K121, hO122⟩
              have O123 := own_base hO122 K112.size
              clear hO122
              have hL118 := uvb_len true
              refine ⟨_, _, rfl, rfl, ?_⟩
              have K124 := K112.trans K121 (U := none_) (fun i h1 h2 => h2) (fun i h1 h2 => by exact h2)
              clear K112
              have H125 := H113.keep K121 (fun h => h)
              clear H113
              have H126 := H114.keep K121 (fun h => h)
              clear H114
              have F127 := own_keep0 F115 K121
              clear F115
              have F128 := own_keep0 F116 K121
              clear F116
              have F129 := own_keep0 F117 K121
              clear F117
              have F130 := own_keep0 O111 K121
              clear O111
              clear K121
              refine Ops.regs 1 [(0, (Value.int IntKind.u64 ((n : Nat) : Int))), (1, (i64 z)), (2, (Value.string (str ss))), (8, (Value.pointer (some ⟨b1, 0, none⟩))), (9, (Value.pointer (some ⟨b8, 0, none⟩))), (12, v119)] (j := 3) (by kernel_rfl) (by kernel_rfl) ?_
              refine Ops.done (by kernel_rfl) ?_
              refine q_seq (by kernel_rfl) ?_
              refine q_region (by kernel_rfl) ?_
              refine Ops.regs 1 [(0, (Value.int IntKind.u64 ((n : Nat) : Int))), (1, (i64 z)), (2, (Value.string (str ss))), (8, (Value.pointer (some ⟨b1, 0, none⟩))), (9, (Value.pointer (some ⟨b8, 0, none⟩))), (12, v119), (71, v119)] (j := 1) (by kernel_rfl) (by kernel_rfl) ?_
              refine Ops.go (v := (agg [(i64 p.why), (i64 p.amount), (Value.slice A p.rows.length c)])) (by kernel_rfl) (Runs.load (t := 46) (a := ⟨b8, 0, none⟩) (by kernel_rfl) (H126.loads (by kernel_rfl))) (d := (some 72)) (by kernel_rfl) rfl ?_
              refine Ops.call (by kernel_rfl) (d := (some 73)) (by kernel_rfl) (PutReply_calls _ v119 ([] ++ uv n ++ iv z ++ tv ss ++ opv om ++ uv (true).toNat) p A c (OwnB.rd O123) hpo (Rd.keep0 (by omega) hp K124) (by (try simp only at *); (try simp only [List.length_append] at *); (try simp only [List.length_cons] at *); (try simp only [List.length_nil] at *); omega)) ?_
              rintro _ w132 ⟨v131, rfl, K133, hO134⟩
              have O135 := own_base hO134 K124.size
              clear hO134
              refine ⟨_, _, rfl, rfl, ?_⟩
              have K136 := K124.trans K133 (U := none_) (fun i h1 h2 => h2) (fun i h1 h2 => by exact h2)
              clear K124
              have H137 := H125.keep K133 (fun h => h)
              clear H125
              have H138 := H126.keep K133 (fun h => h)
              clear H126
              have F139 := own_keep0 F127 K133
              clear F127
              have F140 := own_keep0 F128 K133
              clear F128
              have F141 := own_keep0 F129 K133
              clear F129
              have F142 := own_keep0 F130 K133
              clear F130
              have F143 := own_keep0 O123 K133
              clear O123
              clear K133
              refine Ops.regs 1 [(0, (Value.int IntKind.u64 ((n : Nat) : Int))), (1, (i64 z)), (2, (Value.string (str ss))), (8, (Value.pointer (some ⟨b1, 0, none⟩))), (9, (Value.pointer (some ⟨b8, 0, none⟩))), (12, v131)] (j := 4) (by kernel_rfl) (by kernel_rfl) ?_
              refine Ops.done (by kernel_rfl) ?_
              refine q_seq (by kernel_rfl) ?_
              refine q_region (by kernel_rfl) ?_
              refine Ops.regs 1 [(0, (Value.int IntKind.u64 ((n : Nat) : Int))), (1, (i64 z)), (2, (Value.string (str ss))), (8, (Value.pointer (some ⟨b1, 0, none⟩))), (9, (Value.pointer (some ⟨b8, 0, none⟩))), (12, v131), (74, v131)] (j := 1) (by kernel_rfl) (by kernel_rfl) ?_
              obtain ⟨b, hb⟩ : ∃ b, b = [] ++ uv n ++ iv z ++ tv ss ++ opv om ++ uv (true).toNat ++ rpv p := ⟨_, rfl⟩
              rw [← hb] at O135
              have hbl := congrArg List.length hb
              simp only [List.length_append, List.length_nil] at hbl
              have d0 : b.drop 0 = uv n ++ (iv z ++ (tv ss ++ (opv om ++ (uv (true).toNat ++ (rpv p ++ []))))) := by rw [List.drop_zero, hb]; simp only [List.nil_append, List.append_assoc, List.append_nil]
              obtain ⟨A144, c145, hf146⟩ := RdB.form (OwnB.rd O135)
              subst hf146
              refine Ops.call (by kernel_rfl) (d := (some 75)) (by kernel_rfl) (NewReader_calls _ (Value.slice A144 b.length c145) b (OwnB.rd O135) (by first | omega | decide)) ?_
              rintro _ w151 ⟨b147, A148, c149, rfl, q150, K152, H153, hr154, hne155, hge156⟩
              have nb147 : w.heap.size ≤ b147 := by have := K136.size; omega
              have lb147b1 : b1 < b147 := by have := H137.lt; omega
              have ob158 : ∀ i o s, A148 = some ⟨i, o, s⟩ → i ≠ b1 := fun i o s hi => by have := hge156 i o s hi; have := H137.lt; omega
              have lb147b8 : b8 < b147 := by have := H138.lt; omega
              have ob159 : ∀ i o s, A148 = some ⟨i, o, s⟩ → i ≠ b8 := fun i o s hi => by have := hge156 i o s hi; have := H138.lt; omega
              have oo160 : ∀ i o s, A148 = some ⟨i, o, s⟩ → (v77).ownBlock = some i → False := fun i o s hi hs => by have := hge156 i o s hi; have := (World.ownsRow.lt F139 i hs).2; omega
              have ob161 : ∀ i, (v77).ownBlock = some i → i < b147 := fun i hi => by have := (World.ownsRow.lt F139 i hi).2; omega
              have oo162 : ∀ i o s, A148 = some ⟨i, o, s⟩ → (v86).ownBlock = some i → False := fun i o s hi hs => by have := hge156 i o s hi; have := (World.ownsRow.lt F140 i hs).2; omega
              have ob163 : ∀ i, (v86).ownBlock = some i → i < b147 := fun i hi => by have := (World.ownsRow.lt F140 i hi).2; omega
              have oo164 : ∀ i o s, A148 = some ⟨i, o, s⟩ → (v97).ownBlock = some i → False := fun i o s hi hs => by have := hge156 i o s hi; have := (World.ownsRow.lt F141 i hs).2; omega
              have ob165 : ∀ i, (v97).ownBlock = some i → i < b147 := fun i hi => by have := (World.ownsRow.lt F141 i hi).2; omega
              have oo166 : ∀ i o s, A148 = some ⟨i, o, s⟩ → (v107).ownBlock = some i → False := fun i o s hi hs => by have := hge156 i o s hi; have := (World.ownsRow.lt F142 i hs).2; omega
              have ob167 : ∀ i, (v107).ownBlock = some i → i < b147 := fun i hi => by have := (World.ownsRow.lt F142 i hi).2; omega
              have oo168 : ∀ i o s, A148 = some ⟨i, o, s⟩ → (v119).ownBlock = some i → False := fun i o s hi hs => by have := hge156 i o s hi; have := (World.ownsRow.lt F143 i hs).2; omega
              have ob169 : ∀ i, (v119).ownBlock = some i → i < b147 := fun i hi => by have := (World.ownsRow.lt F143 i hi).2; omega
              have oo170 : ∀ i o s, A148 = some ⟨i, o, s⟩ → ((Value.slice A144 b.length c145)).ownBlock = some i → False := fun i o s hi hs => by have := hge156 i o s hi; have := (World.ownsRow.lt O135 i hs).2; omega
              have ob171 : ∀ i, ((Value.slice A144 b.length c145)).ownBlock = some i → i < b147 := fun i hi => by have := (World.ownsRow.lt O135 i hi).2; omega
              have hok157 : Rdr.Ok (⟨b, 0, 0⟩ : Rdr) := ⟨Nat.zero_le _, by show b.length ≤ _; first | omega | decide⟩
              clear q150 hge156
              refine ⟨_, _, rfl, rfl, ?_⟩
              have K172 := K136.trans K152 (U := none_) (fun i h1 h2 => h2) (fun i h1 h2 => by exact h2)
              clear K136
              have H173 := H137.keep K152 (fun h => h)
              clear H137
              have H174 := H138.keep K152 (fun h => h)
              clear H138
              have F175 := own_keep0 F139 K152
              clear F139
              have F176 := own_keep0 F140 K152
              clear F140
              have F177 := own_keep0 F141 K152
              clear F141
              have F178 := own_keep0 F142 K152
              clear F142
              have F179 := own_keep0 F143 K152
              clear F143
              have F180 := own_keep0 O135 K152
              clear O135
              clear K152
              refine Ops.regs 1 [(0, (Value.int IntKind.u64 ((n : Nat) : Int))), (1, (i64 z)), (2, (Value.string (str ss))), (8, (Value.pointer (some ⟨b1, 0, none⟩))), (9, (Value.pointer (some ⟨b8, 0, none⟩))), (12, (Value.slice A144 b.length c145)), (13, (Value.pointer (some ⟨b147, 0, none⟩)))] (j := 3) (by kernel_rfl) (by kernel_rfl) ?_
              refine Ops.done (by kernel_rfl) ?_
              refine q_seq (by kernel_rfl) ?_
              refine q_seq (by kernel_rfl) ?_
              refine q_region (by kernel_rfl) ?_
              refine Ops.regs 2 [(0, (Value.int IntKind.u64 ((n : Nat) : Int))), (1, (i64 z)), (2, (Value.string (str ss))), (8, (Value.pointer (some ⟨b1, 0, none⟩))), (9, (Value.pointer (some ⟨b8, 0, none⟩))), (12, (Value.slice A144 b.length c145)), (13, (Value.pointer (some ⟨b147, 0, none⟩))), (77, (Value.bool false))] (j := 2) (by kernel_rfl) (by kernel_rfl) ?_
              refine Ops.done (by kernel_rfl) ?_
              refine q_else (o := .tmp 77) (by kernel_rfl) rfl ?_
              refine q_skip (by kernel_rfl) ?_
              refine q_seq (by kernel_rfl) ?_
              refine q_draw (fun wz => Keeps (fun i => i = b147) w151 wz) 48 (by kernel_rfl) (by kernel_rfl) (by kernel_rfl) (fun w181 K182 _ _ => ⟨(K182.mono (fun _ _ h => h.elim)), ?_⟩)
              have K183 := K172.trans K182 (U := none_) (fun i h1 h2 => h2) (fun i h1 h2 => by exact h2)
              clear K172
              have H184 := H173.keep K182 (fun h => h)
              clear H173
              have H185 := H174.keep K182 (fun h => h)
              clear H174
              have H186 := H153.keep K182 (fun h => h)
              clear H153
              have F187 := own_keep0 F175 K182
              clear F175
              have F188 := own_keep0 F176 K182
              clear F176
              have F189 := own_keep0 F177 K182
              clear F177
              have F190 := own_keep0 F178 K182
              clear F178
              have F191 := own_keep0 F179 K182
              clear F179
              have F192 := own_keep0 F180 K182
              clear F180
              have F193 := RdO.keep0 hr154 K182
              clear hr154
              refine Dr.strong (S' := (fun wz => Keeps (fun i => i = b147) w181 wz)) ((Keeps.refl w181).mono (fun _ _ h => h.elim)) (fun wz hx => K182.trans hx (fun i _ h => h.elim) (fun _ _ h => h)) ?_
              clear K182
              refine Dr.takes (fuel' := 46) (is' := [2, 0]) [0, 2] [(1, (i64 z)), (2, (Value.string (str ss))), (8, (Value.pointer (some ⟨b1, 0, none⟩))), (9, (Value.pointer (some ⟨b8, 0, none⟩))), (12, (Value.slice A144 b.length c145)), (13, (Value.pointer (some ⟨b147, 0, none⟩))), (78, (Value.pointer (some ⟨b147, 0, none⟩))), (80, (Value.int IntKind.u64 ((n : Nat) : Int)))] (by kernel_rfl) rfl (by kernel_rfl) ?_
              have a0 : (⟨b, 0, 0⟩ : Rdr).uint = (n, (⟨b, 0 + (uv n).length, 0⟩ : Rdr)) := uint_at d0 hn
              have d1 := drop_next d0
              refine Dr.call (i := 1) (by kernel_rfl) (by kernel_rfl) (d := (some 79)) (by kernel_rfl) (fun _ => calls_as (fun e w' => e = .returned (Value.int IntKind.u64 ((n : Nat) : Int)) ∧ Keeps (fun i => i = b147) w181 w' ∧ Has w' b147 (rowL (rdrL A148 c149 (⟨b, 0 + (uv n).length, 0⟩ : Rdr)) 88)) (RdUint_calls _ b147 A148 c149 (⟨b, 0, 0⟩ : Rdr) hok157 H186 F193 hne155 ) (fun e w' h => by rw [a0] at h; exact h)) ?_
              rintro _ w194 ⟨rfl, K195, H196⟩
              have hok197 : ((⟨b, 0, 0⟩ : Rdr).uint).2.Ok := Rdr.Ok.uint hok157
              rw [a0] at hok197
              have K199 := K183.trans K195 (U := none_) (fun i h1 h2 => h2) (fun i h1 h2 => by have h2 : i = b147 := h2; exfalso; omega)
              clear K183
              have H200 := H184.keep K195 (by intro h; change b1 = b147 at h; omega)
              clear H184
              have H201 := H185.keep K195 (by intro h; change b8 = b147 at h; omega)
              clear H185
              have F202 := own_keep F187 K195 (fun i hi hs => by have hs : i = b147 := hs; have := ob161 i hi; omega)
              clear F187
              have F203 := own_keep F188 K195 (fun i hi hs => by have hs : i = b147 := hs; have := ob163 i hi; omega)
              clear F188
              have F204 := own_keep F189 K195 (fun i hi hs => by have hs : i = b147 := hs; have := ob165 i hi; omega)
              clear F189
              have F205 := own_keep F190 K195 (fun i hi hs => by have hs : i = b147 := hs; have := ob167 i hi; omega)
              clear F190
              have F206 := own_keep F191 K195 (fun i hi hs => by have hs : i = b147 := hs; have := ob169 i hi; omega)
              clear F191
              have F207 := own_keep F192 K195 (fun i hi hs => by have hs : i = b147 := hs; have := ob171 i hi; omega)
              clear F192
              have F208 := RdO.keep F193 K195 (fun i _ _ hi hs => by have hs : i = b147 := hs; have := hne155 i _ _ hi; omega)
              clear F193
              refine ⟨_, _, rfl, rfl, K195, ?_⟩
              refine Dr.strong (S' := (fun wz => Keeps (fun i => i = b147) w194 wz)) ((Keeps.refl w194).mono (fun _ _ h => h.elim)) (fun wz hx => K195.trans hx (fun i _ h => by have h : i = b147 := h; show i = b147; omega) (fun _ _ h => h)) ?_
              clear K195
              have F209 : RdO w194 A148 c149 (⟨b, 0 + (uv n).length, 0⟩ : Rdr).bs := F208
              clear F208
              refine Dr.takes (fuel' := 43) (is' := [4, 3, 1, 2, 0]) [3, 4] [(1, (i64 z)), (2, (Value.string (str ss))), (8, (Value.pointer (some ⟨b1, 0, none⟩))), (9, (Value.pointer (some ⟨b8, 0, none⟩))), (12, (Value.slice A144 b.length c145)), (13, (Value.pointer (some ⟨b147, 0, none⟩))), (82, (Value.bool (((n : Nat) : Int) == ((n : Nat) : Int))))] (by kernel_rfl) rfl (by kernel_rfl) ?_
              have h210 : (((n : Nat) : Int) == ((n : Nat) : Int)) = true := by simp
              rw [h210]
              refine Dr.takes (fuel' := 41) (is' := [7, 5, 4, 3, 1, 2, 0]) [5, 7] [(2, (Value.string (str ss))), (8, (Value.pointer (some ⟨b1, 0, none⟩))), (9, (Value.pointer (some ⟨b8, 0, none⟩))), (12, (Value.slice A144 b.length c145)), (13, (Value.pointer (some ⟨b147, 0, none⟩))), (82, (Value.bool true)), (83, (Value.pointer (some ⟨b147, 0, none⟩))), (85, (i64 z))] (by kernel_rfl) rfl (by kernel_rfl) ?_
              have a1 : (⟨b, 0 + (uv n).length, 0⟩ : Rdr).int = (z, (⟨b, 0 + (uv n).length + (iv z).length, 0⟩ : Rdr)) := int_at d1 hz
              have d2 := drop_next d1
              refine Dr.call (i := 6) (by kernel_rfl) (by kernel_rfl) (d := (some 84)) (by kernel_rfl) (fun _ => calls_as (fun e w' => e = .returned (i64 z) ∧ Keeps (fun i => i = b147) w194 w' ∧ Has w' b147 (rowL (rdrL A148 c149 (⟨b, 0 + (uv n).length + (iv z).length, 0⟩ : Rdr)) 88)) (RdInt_calls _ b147 A148 c149 (⟨b, 0 + (uv n).length, 0⟩ : Rdr) hok197 H196 F209 hne155 ) (fun e w' h => by rw [a1] at h; exact h)) ?_
              rintro _ w211 ⟨rfl, K212, H213⟩
              have hok214 : ((⟨b, 0 + (uv n).length, 0⟩ : Rdr).int).2.Ok := Rdr.Ok.int hok197
              rw [a1] at hok214
              have K216 := K199.trans K212 (U := none_) (fun i h1 h2 => h2) (fun i h1 h2 => by have h2 : i = b147 := h2; exfalso; omega)
              clear K199
              have H217 := H200.keep K212 (by intro h; change b1 = b147 at h; omega)
              clear H200
              have H218 := H201.keep K212 (by intro h; change b8 = b147 at h; omega)
              clear H201
              have F219 := own_keep F202 K212 (fun i hi hs => by have hs : i = b147 := hs; have := ob161 i hi; omega)
              clear F202
              have F220 := own_keep F203 K212 (fun i hi hs => by have hs : i = b147 := hs; have := ob163 i hi; omega)
              clear F203
              have F221 := own_keep F204 K212 (fun i hi hs => by have hs : i = b147 := hs; have := ob165 i hi; omega)
              clear F204
              have F222 := own_keep F205 K212 (fun i hi hs => by have hs : i = b147 := hs; have := ob167 i hi; omega)
              clear F205
              have F223 := own_keep F206 K212 (fun i hi hs => by have hs : i = b147 := hs; have := ob169 i hi; omega)
              clear F206
              have F224 := own_keep F207 K212 (fun i hi hs => by have hs : i = b147 := hs; have := ob171 i hi; omega)
              clear F207
              have F225 := RdO.keep F209 K212 (fun i _ _ hi hs => by have hs : i = b147 := hs; have := hne155 i _ _ hi; omega)
              clear F209
              refine ⟨_, _, rfl, rfl, K212, ?_⟩
              refine Dr.strong (S' := (fun wz => Keeps (fun i => i = b147) w211 wz)) ((Keeps.refl w211).mono (fun _ _ h => h.elim)) (fun wz hx => K212.trans hx (fun i _ h => by have h : i = b147 := h; show i = b147; omega) (fun _ _ h => h)) ?_
              clear K212
              have F226 : RdO w211 A148 c149 (⟨b, 0 + (uv n).length + (iv z).length, 0⟩ : Rdr).bs := F225
              clear F225
              refine Dr.takes (fuel' := 37) (is' := [10, 9, 8, 6, 7, 5, 4, 3, 1, 2, 0]) [8, 9, 10] [(2, (Value.string (str ss))), (8, (Value.pointer (some ⟨b1, 0, none⟩))), (9, (Value.pointer (some ⟨b8, 0, none⟩))), (12, (Value.slice A144 b.length c145)), (13, (Value.pointer (some ⟨b147, 0, none⟩))), (88, (Value.bool (z == z)))] (by kernel_rfl) rfl (by kernel_rfl) ?_
              have h227 : (z == z) = true := by simp
              rw [h227]
              refine Dr.takes (fuel' := 35) (is' := [13, 11, 10, 9, 8, 6, 7, 5, 4, 3, 1, 2, 0]) [11, 13] [(8, (Value.pointer (some ⟨b1, 0, none⟩))), (9, (Value.pointer (some ⟨b8, 0, none⟩))), (12, (Value.slice A144 b.length c145)), (13, (Value.pointer (some ⟨b147, 0, none⟩))), (88, (Value.bool true)), (89, (Value.pointer (some ⟨b147, 0, none⟩))), (91, (Value.string (str ss)))] (by kernel_rfl) rfl (by kernel_rfl) ?_
              have a2 : (⟨b, 0 + (uv n).length + (iv z).length, 0⟩ : Rdr).bytes = (ss, (⟨b, 0 + (uv n).length + (iv z).length + (tv ss).length, 0⟩ : Rdr)) := bytes_at d2 (by omega)
              have d3 := drop_next d2
              refine Dr.call (i := 12) (by kernel_rfl) (by kernel_rfl) (d := (some 90)) (by kernel_rfl) (fun _ => calls_as (fun e w' => e = .returned (Value.string (str ss)) ∧ Keeps (fun i => i = b147) w211 w' ∧ Has w' b147 (rowL (rdrL A148 c149 (⟨b, 0 + (uv n).length + (iv z).length + (tv ss).length, 0⟩ : Rdr)) 88)) (RdText_calls _ b147 A148 c149 (⟨b, 0 + (uv n).length + (iv z).length, 0⟩ : Rdr) hok214 H213 F226 hne155 ) (fun e w' h => by rw [a2] at h; exact h)) ?_
              rintro _ w228 ⟨rfl, K229, H230⟩
              have hok231 : ((⟨b, 0 + (uv n).length + (iv z).length, 0⟩ : Rdr).bytes).2.Ok := Rdr.Ok.bytes hok214
              rw [a2] at hok231
              have K233 := K216.trans K229 (U := none_) (fun i h1 h2 => h2) (fun i h1 h2 => by have h2 : i = b147 := h2; exfalso; omega)
              clear K216
              have H234 := H217.keep K229 (by intro h; change b1 = b147 at h; omega)
              clear H217
              have H235 := H218.keep K229 (by intro h; change b8 = b147 at h; omega)
              clear H218
              have F236 := own_keep F219 K229 (fun i hi hs => by have hs : i = b147 := hs; have := ob161 i hi; omega)
              clear F219
              have F237 := own_keep F220 K229 (fun i hi hs => by have hs : i = b147 := hs; have := ob163 i hi; omega)
              clear F220
              have F238 := own_keep F221 K229 (fun i hi hs => by have hs : i = b147 := hs; have := ob165 i hi; omega)
              clear F221
              have F239 := own_keep F222 K229 (fun i hi hs => by have hs : i = b147 := hs; have := ob167 i hi; omega)
              clear F222
              have F240 := own_keep F223 K229 (fun i hi hs => by have hs : i = b147 := hs; have := ob169 i hi; omega)
              clear F223
              have F241 := own_keep F224 K229 (fun i hi hs => by have hs : i = b147 := hs; have := ob171 i hi; omega)
              clear F224
              have F242 := RdO.keep F226 K229 (fun i _ _ hi hs => by have hs : i = b147 := hs; have := hne155 i _ _ hi; omega)
              clear F226
              refine ⟨_, _, rfl, rfl, K229, ?_⟩
              refine Dr.strong (S' := (fun wz => Keeps (fun i => i = b147) w228 wz)) ((Keeps.refl w228).mono (fun _ _ h => h.elim)) (fun wz hx => K229.trans hx (fun i _ h => by have h : i = b147 := h; show i = b147; omega) (fun _ _ h => h)) ?_
              clear K229
              have F243 : RdO w228 A148 c149 (⟨b, 0 + (uv n).length + (iv z).length + (tv ss).length, 0⟩ : Rdr).bs := F242
              clear F242
              refine Dr.take (i := 14) (v := (Value.bool (ss == ss))) (by kernel_rfl) (by kernel_rfl) (fun wz hS => Runs.streq (t := 9) (by kernel_rfl)) (d := (some 92)) (by kernel_rfl) rfl ?_
              refine Dr.takes (fuel' := 31) (is' := [16, 15, 14, 12, 13, 11, 10, 9, 8, 6, 7, 5, 4, 3, 1, 2, 0]) [15, 16] [(8, (Value.pointer (some ⟨b1, 0, none⟩))), (9, (Value.pointer (some ⟨b8, 0, none⟩))), (12, (Value.slice A144 b.length c145)), (13, (Value.pointer (some ⟨b147, 0, none⟩))), (94, (Value.bool (ss == ss)))] (by kernel_rfl) rfl (by kernel_rfl) ?_
              have h244 : (ss == ss) = true := by simp
              rw [h244]
              refine Dr.takes (fuel' := 30) (is' := [17, 16, 15, 14, 12, 13, 11, 10, 9, 8, 6, 7, 5, 4, 3, 1, 2, 0]) [17] [(8, (Value.pointer (some ⟨b1, 0, none⟩))), (9, (Value.pointer (some ⟨b8, 0, none⟩))), (12, (Value.slice A144 b.length c145)), (13, (Value.pointer (some ⟨b147, 0, none⟩))), (94, (Value.bool true)), (95, (Value.pointer (some ⟨b147, 0, none⟩)))] (by kernel_rfl) rfl (by kernel_rfl) ?_
              refine Dr.take (i := 19) (v := (agg [(i64 om.kind), (Value.string (str om.frm)), (Value.string (str om.to)), (i64 om.amount), (Value.string (str om.key)), (i64 om.slot), (i64 om.shard)])) (by kernel_rfl) (by kernel_rfl) (fun wz hS => Runs.load (t := 43) (a := ⟨b1, 0, none⟩) (by kernel_rfl) ((H234.keep hS (by intro h; change b1 = b147 at h; omega)).loads (by kernel_rfl))) (d := (some 97)) (by kernel_rfl) rfl ?_
              have a3 : (⟨b, 0 + (uv n).length + (iv z).length + (tv ss).length, 0⟩ : Rdr).op = (om, (⟨b, 0 + (uv n).length + (iv z).length + (tv ss).length + (opv om).length, 0⟩ : Rdr)) := op_at d3 ho (by omega) (by omega) (by omega)
              have d4 := drop_next d3
              refine Dr.call (i := 18) (by kernel_rfl) (by kernel_rfl) (d := (some 96)) (by kernel_rfl) (fun _ => calls_as (fun e w' => e = .returned (agg [(i64 om.kind), (Value.string (str om.frm)), (Value.string (str om.to)), (i64 om.amount), (Value.string (str om.key)), (i64 om.slot), (i64 om.shard)]) ∧ Keeps (fun i => i = b147) w228 w' ∧ Has w' b147 (rowL (rdrL A148 c149 (⟨b, 0 + (uv n).length + (iv z).length + (tv ss).length + (opv om).length, 0⟩ : Rdr)) 88)) (GetOp_calls _ b147 A148 c149 (⟨b, 0 + (uv n).length + (iv z).length + (tv ss).length, 0⟩ : Rdr) hok231 H230 F243 hne155 ) (fun e w' h => by rw [a3] at h; exact h)) ?_
              rintro _ w245 ⟨rfl, K246, H247⟩
              have hok248 : ((⟨b, 0 + (uv n).length + (iv z).length + (tv ss).length, 0⟩ : Rdr).op).2.Ok := Rdr.Ok.op hok231
              rw [a3] at hok248
              have K249 := K233.trans K246 (U := none_) (fun i h1 h2 => h2) (fun i h1 h2 => by have h2 : i = b147 := h2; exfalso; omega)
              clear K233
              have H250 := H234.keep K246 (by intro h; change b1 = b147 at h; omega)
              clear H234
              have H251 := H235.keep K246 (by intro h; change b8 = b147 at h; omega)
              clear H235
              have F252 := own_keep F236 K246 (fun i hi hs => by have hs : i = b147 := hs; have := ob161 i hi; omega)
              clear F236
              have F253 := own_keep F237 K246 (fun i hi hs => by have hs : i = b147 := hs; have := ob163 i hi; omega)
              clear F237
              have F254 := own_keep F238 K246 (fun i hi hs => by have hs : i = b147 := hs; have := ob165 i hi; omega)
              clear F238
              have F255 := own_keep F239 K246 (fun i hi hs => by have hs : i = b147 := hs; have := ob167 i hi; omega)
              clear F239
              have F256 := own_keep F240 K246 (fun i hi hs => by have hs : i = b147 := hs; have := ob169 i hi; omega)
              clear F240
              have F257 := own_keep F241 K246 (fun i hi hs => by have hs : i = b147 := hs; have := ob171 i hi; omega)
              clear F241
              have F258 := RdO.keep F243 K246 (fun i _ _ hi hs => by have hs : i = b147 := hs; have := hne155 i _ _ hi; omega)
              clear F243
              refine ⟨_, _, rfl, rfl, K246, ?_⟩
              refine Dr.strong (S' := (fun wz => Keeps (fun i => i = b147) w245 wz)) ((Keeps.refl w245).mono (fun _ _ h => h.elim)) (fun wz hx => K246.trans hx (fun i _ h => by have h : i = b147 := h; show i = b147; omega) (fun _ _ h => h)) ?_
              clear K246
              have F259 : RdO w245 A148 c149 (⟨b, 0 + (uv n).length + (iv z).length + (tv ss).length + (opv om).length, 0⟩ : Rdr).bs := F258
              clear F258
              refine Dr.take (i := 20) (v := (Value.bool (aggB [(i64 om.kind), (Value.string (str om.frm)), (Value.string (str om.to)), (i64 om.amount), (Value.string (str om.key)), (i64 om.slot), (i64 om.shard)] [(i64 om.kind), (Value.string (str om.frm)), (Value.string (str om.to)), (i64 om.amount), (Value.string (str om.key)), (i64 om.slot), (i64 om.shard)]))) (by kernel_rfl) (by kernel_rfl) (fun wz hS => Runs.aggeq (t := 43) (by kernel_rfl) (by kernel_rfl)) (d := (some 98)) (by kernel_rfl) rfl ?_
              refine Dr.takes (fuel' := 25) (is' := [22, 21, 20, 18, 19, 17, 16, 15, 14, 12, 13, 11, 10, 9, 8, 6, 7, 5, 4, 3, 1, 2, 0]) [21, 22] [(9, (Value.pointer (some ⟨b8, 0, none⟩))), (12, (Value.slice A144 b.length c145)), (13, (Value.pointer (some ⟨b147, 0, none⟩))), (100, (Value.bool (aggB [(i64 om.kind), (Value.string (str om.frm)), (Value.string (str om.to)), (i64 om.amount), (Value.string (str om.key)), (i64 om.slot), (i64 om.shard)] [(i64 om.kind), (Value.string (str om.frm)), (Value.string (str om.to)), (i64 om.amount), (Value.string (str om.key)), (i64 om.slot), (i64 om.shard)])))] (by kernel_rfl) rfl (by kernel_rfl) ?_
              have h260 : (aggB [(i64 om.kind), (Value.string (str om.frm)), (Value.string (str om.to)), (i64 om.amount), (Value.string (str om.key)), (i64 om.slot), (i64 om.shard)] [(i64 om.kind), (Value.string (str om.frm)), (Value.string (str om.to)), (i64 om.amount), (Value.string (str om.key)), (i64 om.slot), (i64 om.shard)]) = true := by simp [aggB, cellB]
              rw [h260]
              refine Dr.takes (fuel' := 24) (is' := [23, 22, 21, 20, 18, 19, 17, 16, 15, 14, 12, 13, 11, 10, 9, 8, 6, 7, 5, 4, 3, 1, 2, 0]) [23] [(9, (Value.pointer (some ⟨b8, 0, none⟩))), (12, (Value.slice A144 b.length c145)), (13, (Value.pointer (some ⟨b147, 0, none⟩))), (100, (Value.bool true)), (101, (Value.pointer (some ⟨b147, 0, none⟩)))] (by kernel_rfl) rfl (by kernel_rfl) ?_
              have a4 : (⟨b, 0 + (uv n).length + (iv z).length + (tv ss).length + (opv om).length, 0⟩ : Rdr).bool_ = (true, (⟨b, 0 + (uv n).length + (iv z).length + (tv ss).length + (opv om).length + (uv (true).toNat).length, 0⟩ : Rdr)) := bool_at (t := true) d4
              have d5 := drop_next d4
              refine Dr.call (i := 24) (by kernel_rfl) (by kernel_rfl) (d := (some 102)) (by kernel_rfl) (fun _ => calls_as (fun e w' => e = .returned (Value.bool true) ∧ Keeps (fun i => i = b147) w245 w' ∧ Has w' b147 (rowL (rdrL A148 c149 (⟨b, 0 + (uv n).length + (iv z).length + (tv ss).length + (opv om).length + (uv (true).toNat).length, 0⟩ : Rdr)) 88)) (RdBool_calls _ b147 A148 c149 (⟨b, 0 + (uv n).length + (iv z).length + (tv ss).length + (opv om).length, 0⟩ : Rdr) hok248 H247 F259 hne155 ) (fun e w' h => by rw [a4] at h; exact h)) ?_
              rintro _ w261 ⟨rfl, K262, H263⟩
              have hok264 : ((⟨b, 0 + (uv n).length + (iv z).length + (tv ss).length + (opv om).length, 0⟩ : Rdr).bool_).2.Ok := Rdr.Ok.bool_ hok248
              rw [a4] at hok264
              have K265 := K249.trans K262 (U := none_) (fun i h1 h2 => h2) (fun i h1 h2 => by have h2 : i = b147 := h2; exfalso; omega)
              clear K249
              have H266 := H250.keep K262 (by intro h; change b1 = b147 at h; omega)
              clear H250
              have H267 := H251.keep K262 (by intro h; change b8 = b147 at h; omega)
              clear H251
              have F268 := own_keep F252 K262 (fun i hi hs => by have hs : i = b147 := hs; have := ob161 i hi; omega)
              clear F252
              have F269 := own_keep F253 K262 (fun i hi hs => by have hs : i = b147 := hs; have := ob163 i hi; omega)
              clear F253
              have F270 := own_keep F254 K262 (fun i hi hs => by have hs : i = b147 := hs; have := ob165 i hi; omega)
              clear F254
              have F271 := own_keep F255 K262 (fun i hi hs => by have hs : i = b147 := hs; have := ob167 i hi; omega)
              clear F255
              have F272 := own_keep F256 K262 (fun i hi hs => by have hs : i = b147 := hs; have := ob169 i hi; omega)
              clear F256
              have F273 := own_keep F257 K262 (fun i hi hs => by have hs : i = b147 := hs; have := ob171 i hi; omega)
              clear F257
              have F274 := RdO.keep F259 K262 (fun i _ _ hi hs => by have hs : i = b147 := hs; have := hne155 i _ _ hi; omega)
              clear F259
              refine ⟨_, _, rfl, rfl, K262, ?_⟩
              refine Dr.strong (S' := (fun wz => Keeps (fun i => i = b147) w261 wz)) ((Keeps.refl w261).mono (fun _ _ h => h.elim)) (fun wz hx => K262.trans hx (fun i _ h => by have h : i = b147 := h; show i = b147; omega) (fun _ _ h => h)) ?_
              clear K262
              have F275 : RdO w261 A148 c149 (⟨b, 0 + (uv n).length + (iv z).length + (tv ss).length + (opv om).length + (uv (true).toNat).length, 0⟩ : Rdr).bs := F274
              clear F274
              refine Dr.takes (fuel' := 20) (is' := [27, 26, 25, 24, 23, 22, 21, 20, 18, 19, 17, 16, 15, 14, 12, 13, 11, 10, 9, 8, 6, 7, 5, 4, 3, 1, 2, 0]) [25, 26, 27] [(9, (Value.pointer (some ⟨b8, 0, none⟩))), (12, (Value.slice A144 b.length c145)), (13, (Value.pointer (some ⟨b147, 0, none⟩))), (104, (Value.bool true)), (105, (Value.pointer (some ⟨b147, 0, none⟩)))] (by kernel_rfl) rfl (by kernel_rfl) ?_
              refine Dr.take (i := 29) (v := (agg [(i64 p.why), (i64 p.amount), (Value.slice A p.rows.length c)])) (by kernel_rfl) (by kernel_rfl) (fun wz hS => Runs.load (t := 46) (a := ⟨b8, 0, none⟩) (by kernel_rfl) ((H267.keep hS (by intro h; change b8 = b147 at h; omega)).loads (by kernel_rfl))) (d := (some 107)) (by kernel_rfl) rfl ?_
              have a5 := reply_at d5 hpo (by omega) (fun x hx => by have := hNa x hx; omega)
              have hend := drop_len d5 (by rw [rpv_len]; have := iv_pos p.why; omega)
              rw [List.length_nil, Nat.add_zero] at hend
              refine Dr.call (i := 28) (by kernel_rfl) (by kernel_rfl) (d := (some 106)) (by kernel_rfl) (fun _ => GetReply_calls _ b147 A148 c149 (⟨b, 0 + (uv n).length + (iv z).length + (tv ss).length + (opv om).length + (uv (true).toNat).length, 0⟩ : Rdr) hok264 H263 F275 hne155 ) ?_
              rintro _ w276 ⟨A300, c301, rfl, K277, hO281, H278⟩
              have hok279 : ((⟨b, 0 + (uv n).length + (iv z).length + (tv ss).length + (opv om).length + (uv (true).toNat).length, 0⟩ : Rdr).reply).2.Ok := Rdr.Ok.reply hok264
              have ob283 : ∀ i, ((Value.slice A300 (((⟨b, 0 + (uv n).length + (iv z).length + (tv ss).length + (opv om).length + (uv (true).toNat).length, 0⟩ : Rdr).reply).1.rows.length) c301)).ownBlock = some i → i ≠ b1 := fun i hi => by have := (World.ownsRow.lt hO281 i hi).1; have := H266.lt; omega
              have ob284 : ∀ i, ((Value.slice A300 (((⟨b, 0 + (uv n).length + (iv z).length + (tv ss).length + (opv om).length + (uv (true).toNat).length, 0⟩ : Rdr).reply).1.rows.length) c301)).ownBlock = some i → i ≠ b8 := fun i hi => by have := (World.ownsRow.lt hO281 i hi).1; have := H267.lt; omega
              have ob285 : ∀ i, ((Value.slice A300 (((⟨b, 0 + (uv n).length + (iv z).length + (tv ss).length + (opv om).length + (uv (true).toNat).length, 0⟩ : Rdr).reply).1.rows.length) c301)).ownBlock = some i → i ≠ b147 := fun i hi => by have := (World.ownsRow.lt hO281 i hi).1; have := H263.lt; omega
              have oo286 : ∀ i, (v77).ownBlock = some i → ((Value.slice A300 (((⟨b, 0 + (uv n).length + (iv z).length + (tv ss).length + (opv om).length + (uv (true).toNat).length, 0⟩ : Rdr).reply).1.rows.length) c301)).ownBlock = some i → False := fun i hi hs => by have := (World.ownsRow.lt hO281 i hs).1; have := (World.ownsRow.lt F268 i hi).2; omega
              have oo287 : ∀ i, ((Value.slice A300 (((⟨b, 0 + (uv n).length + (iv z).length + (tv ss).length + (opv om).length + (uv (true).toNat).length, 0⟩ : Rdr).reply).1.rows.length) c301)).ownBlock = some i → (v77).ownBlock = some i → False := fun i hi hs => oo286 i hs hi
              have oo288 : ∀ i, (v86).ownBlock = some i → ((Value.slice A300 (((⟨b, 0 + (uv n).length + (iv z).length + (tv ss).length + (opv om).length + (uv (true).toNat).length, 0⟩ : Rdr).reply).1.rows.length) c301)).ownBlock = some i → False := fun i hi hs => by have := (World.ownsRow.lt hO281 i hs).1; have := (World.ownsRow.lt F269 i hi).2; omega
              have oo289 : ∀ i, ((Value.slice A300 (((⟨b, 0 + (uv n).length + (iv z).length + (tv ss).length + (opv om).length + (uv (true).toNat).length, 0⟩ : Rdr).reply).1.rows.length) c301)).ownBlock = some i → (v86).ownBlock = some i → False := fun i hi hs => oo288 i hs hi
              have oo290 : ∀ i, (v97).ownBlock = some i → ((Value.slice A300 (((⟨b, 0 + (uv n).length + (iv z).length + (tv ss).length + (opv om).length + (uv (true).toNat).length, 0⟩ : Rdr).reply).1.rows.length) c301)).ownBlock = some i → False := fun i hi hs => by have := (World.ownsRow.lt hO281 i hs).1; have := (World.ownsRow.lt F270 i hi).2; omega
              have oo291 : ∀ i, ((Value.slice A300 (((⟨b, 0 + (uv n).length + (iv z).length + (tv ss).length + (opv om).length + (uv (true).toNat).length, 0⟩ : Rdr).reply).1.rows.length) c301)).ownBlock = some i → (v97).ownBlock = some i → False := fun i hi hs => oo290 i hs hi
              have oo292 : ∀ i, (v107).ownBlock = some i → ((Value.slice A300 (((⟨b, 0 + (uv n).length + (iv z).length + (tv ss).length + (opv om).length + (uv (true).toNat).length, 0⟩ : Rdr).reply).1.rows.length) c301)).ownBlock = some i → False := fun i hi hs => by have := (World.ownsRow.lt hO281 i hs).1; have := (World.ownsRow.lt F271 i hi).2; omega
              have oo293 : ∀ i, ((Value.slice A300 (((⟨b, 0 + (uv n).length + (iv z).length + (tv ss).length + (opv om).length + (uv (true).toNat).length, 0⟩ : Rdr).reply).1.rows.length) c301)).ownBlock = some i → (v107).ownBlock = some i → False := fun i hi hs => oo292 i hs hi
              have oo294 : ∀ i, (v119).ownBlock = some i → ((Value.slice A300 (((⟨b, 0 + (uv n).length + (iv z).length + (tv ss).length + (opv om).length + (uv (true).toNat).length, 0⟩ : Rdr).reply).1.rows.length) c301)).ownBlock = some i → False := fun i hi hs => by have := (World.ownsRow.lt hO281 i hs).1; have := (World.ownsRow.lt F272 i hi).2; omega
              have oo295 : ∀ i, ((Value.slice A300 (((⟨b, 0 + (uv n).length + (iv z).length + (tv ss).length + (opv om).length + (uv (true).toNat).length, 0⟩ : Rdr).reply).1.rows.length) c301)).ownBlock = some i → (v119).ownBlock = some i → False := fun i hi hs => oo294 i hs hi
              have oo296 : ∀ i, ((Value.slice A144 b.length c145)).ownBlock = some i → ((Value.slice A300 (((⟨b, 0 + (uv n).length + (iv z).length + (tv ss).length + (opv om).length + (uv (true).toNat).length, 0⟩ : Rdr).reply).1.rows.length) c301)).ownBlock = some i → False := fun i hi hs => by have := (World.ownsRow.lt hO281 i hs).1; have := (World.ownsRow.lt F273 i hi).2; omega
              have oo297 : ∀ i, ((Value.slice A300 (((⟨b, 0 + (uv n).length + (iv z).length + (tv ss).length + (opv om).length + (uv (true).toNat).length, 0⟩ : Rdr).reply).1.rows.length) c301)).ownBlock = some i → ((Value.slice A144 b.length c145)).ownBlock = some i → False := fun i hi hs => oo296 i hs hi
              have oo298 : ∀ i o s, A148 = some ⟨i, o, s⟩ → ((Value.slice A300 (((⟨b, 0 + (uv n).length + (iv z).length + (tv ss).length + (opv om).length + (uv (true).toNat).length, 0⟩ : Rdr).reply).1.rows.length) c301)).ownBlock = some i → False := fun i o s hi hs => by have := (World.ownsRow.lt hO281 i hs).1; have := F275.2 i o s hi; omega
              have O282 := own_base hO281 K265.size
              clear hO281
              have K302 := K265.trans K277 (U := none_) (fun i h1 h2 => h2) (fun i h1 h2 => by have h2 : i = b147 := h2; exfalso; omega)
              clear K265
              have H303 := H266.keep K277 (by intro h; change b1 = b147 at h; omega)
              clear H266
              have H304 := H267.keep K277 (by intro h; change b8 = b147 at h; omega)
              clear H267
              have F305 := own_keep F268 K277 (fun i hi hs => by have hs : i = b147 := hs; have := ob161 i hi; omega)
              clear F268
              have F306 := own_keep F269 K277 (fun i hi hs => by have hs : i = b147 := hs; have := ob163 i hi; omega)
              clear F269
              have F307 := own_keep F270 K277 (fun i hi hs => by have hs : i = b147 := hs; have := ob165 i hi; omega)
              clear F270
              have F308 := own_keep F271 K277 (fun i hi hs => by have hs : i = b147 := hs; have := ob167 i hi; omega)
              clear F271
              have F309 := own_keep F272 K277 (fun i hi hs => by have hs : i = b147 := hs; have := ob169 i hi; omega)
              clear F272
              have F310 := own_keep F273 K277 (fun i hi hs => by have hs : i = b147 := hs; have := ob171 i hi; omega)
              clear F273
              have F311 := RdO.keep F275 K277 (fun i _ _ hi hs => by have hs : i = b147 := hs; have := hne155 i _ _ hi; omega)
              clear F275
              refine ⟨_, _, rfl, rfl, K277, ?_⟩
              refine Dr.strong (S' := (fun wz => Keeps (fun i => i = b147) w276 wz)) ((Keeps.refl w276).mono (fun _ _ h => h.elim)) (fun wz hx => K277.trans hx (fun i _ h => by have h : i = b147 := h; show i = b147; omega) (fun _ _ h => h)) ?_
              clear K277
              have F312 : RdO w276 A148 c149 ((⟨b, 0 + (uv n).length + (iv z).length + (tv ss).length + (opv om).length + (uv (true).toNat).length, 0⟩ : Rdr).reply).2.bs := by rw [Rdr.reply_bs]; exact F311
              clear F311
              refine Dr.call (i := 30) (by kernel_rfl) (by kernel_rfl) (d := (some 108)) (by kernel_rfl) (fun _ => SameReply_calls _ A300 c301 (((⟨b, 0 + (uv n).length + (iv z).length + (tv ss).length + (opv om).length + (uv (true).toNat).length, 0⟩ : Rdr).reply).1) A c p (OwnT.rd O282) (Rd.keep0 (by omega) hp K302)) ?_
              rintro _ w316 ⟨t313, rfl, ht314, K315⟩
              have httt313 : t313 = true := ht314.2 (by rw [a5])
              have K317 := K302.trans K315 (U := none_) (fun i h1 h2 => h2) (fun i h1 h2 => by exact h2)
              clear K302
              have H318 := H303.keep K315 (fun h => h)
              clear H303
              have H319 := H304.keep K315 (fun h => h)
              clear H304
              have H320 := H278.keep K315 (fun h => h)
              clear H278
              have F321 := own_keep0 F305 K315
              clear F305
              have F322 := own_keep0 F306 K315
              clear F306
              have F323 := own_keep0 F307 K315
              clear F307
              have F324 := own_keep0 F308 K315
              clear F308
              have F325 := own_keep0 F309 K315
              clear F309
              have F326 := own_keep0 F310 K315
              clear F310
              have F327 := RdO.keep0 F312 K315
              clear F312
              have F328 := own_keep0 O282 K315
              clear O282
              refine ⟨_, _, rfl, rfl, (K315.mono (fun _ _ h => h.elim)), ?_⟩
              refine Dr.strong (S' := (fun wz => Keeps (fun i => i = b147) w316 wz)) ((Keeps.refl w316).mono (fun _ _ h => h.elim)) (fun wz hx => K315.trans hx (fun i _ h => h.elim) (fun _ _ h => h)) ?_
              clear K315
              refine Dr.takes (fuel' := 15) (is' := [32, 31, 30, 28, 29, 27, 26, 25, 24, 23, 22, 21, 20, 18, 19, 17, 16, 15, 14, 12, 13, 11, 10, 9, 8, 6, 7, 5, 4, 3, 1, 2, 0]) [31, 32] [(12, (Value.slice A144 b.length c145)), (13, (Value.pointer (some ⟨b147, 0, none⟩))), (110, (Value.bool t313))] (by kernel_rfl) rfl (by kernel_rfl) ?_
              have h329 : t313 = true := httt313
              rw [h329]
              refine Dr.takes (fuel' := 14) (is' := [33, 32, 31, 30, 28, 29, 27, 26, 25, 24, 23, 22, 21, 20, 18, 19, 17, 16, 15, 14, 12, 13, 11, 10, 9, 8, 6, 7, 5, 4, 3, 1, 2, 0]) [33] [(12, (Value.slice A144 b.length c145)), (13, (Value.pointer (some ⟨b147, 0, none⟩))), (110, (Value.bool true)), (111, (Value.pointer (some ⟨b147, 0, none⟩)))] (by kernel_rfl) rfl (by kernel_rfl) ?_
              refine Dr.call (i := 34) (by kernel_rfl) (by kernel_rfl) (d := (some 112)) (by kernel_rfl) (fun _ => RdEnd_calls _ b147 A148 c149 (((⟨b, 0 + (uv n).length + (iv z).length + (tv ss).length + (opv om).length + (uv (true).toNat).length, 0⟩ : Rdr).reply).2) hok279 H320 F327 hne155) ?_
              rintro _ w330 ⟨rfl, K331⟩
              have K332 := K317.trans K331 (U := none_) (fun i h1 h2 => h2) (fun i h1 h2 => by exact h2)
              clear K317
              have H333 := H318.keep K331 (fun h => h)
              clear H318
              have H334 := H319.keep K331 (fun h => h)
              clear H319
              have H335 := H320.keep K331 (fun h => h)
              clear H320
              have F336 := own_keep0 F321 K331
              clear F321
              have F337 := own_keep0 F322 K331
              clear F322
              have F338 := own_keep0 F323 K331
              clear F323
              have F339 := own_keep0 F324 K331
              clear F324
              have F340 := own_keep0 F325 K331
              clear F325
              have F341 := own_keep0 F326 K331
              clear F326
              have F342 := RdO.keep0 F327 K331
              clear F327
              have F343 := own_keep0 F328 K331
              clear F328
              refine ⟨_, _, rfl, rfl, (K331.mono (fun _ _ h => h.elim)), ?_⟩
              refine Dr.strong (S' := (fun wz => Keeps (fun i => i = b147) w330 wz)) ((Keeps.refl w330).mono (fun _ _ h => h.elim)) (fun wz hx => K331.trans hx (fun i _ h => h.elim) (fun _ _ h => h)) ?_
              clear K331
              refine Dr.takes (fuel' := 10) (is' := [37, 36, 35, 34, 33, 32, 31, 30, 28, 29, 27, 26, 25, 24, 23, 22, 21, 20, 18, 19, 17, 16, 15, 14, 12, 13, 11, 10, 9, 8, 6, 7, 5, 4, 3, 1, 2, 0]) [35, 36, 37] [(12, (Value.slice A144 b.length c145)), (13, (Value.pointer (some ⟨b147, 0, none⟩))), (115, (Value.bool (((((⟨b, 0 + (uv n).length + (iv z).length + (tv ss).length + (opv om).length + (uv (true).toNat).length, 0⟩ : Rdr).reply).2).end_) == 0)))] (by kernel_rfl) rfl (by kernel_rfl) ?_
              have h344 : (((((⟨b, 0 + (uv n).length + (iv z).length + (tv ss).length + (opv om).length + (uv (true).toNat).length, 0⟩ : Rdr).reply).2).end_) == 0) = true := beq_t (by rw [a5]; exact end_at hend)
              rw [h344]
              refine Dr.takes (fuel' := 7) (is' := [41, 40, 38, 37, 36, 35, 34, 33, 32, 31, 30, 28, 29, 27, 26, 25, 24, 23, 22, 21, 20, 18, 19, 17, 16, 15, 14, 12, 13, 11, 10, 9, 8, 6, 7, 5, 4, 3, 1, 2, 0]) [38, 40, 41] [(115, (Value.bool true)), (116, (Value.pointer (some ⟨b147, 0, none⟩))), (119, (i64 ((b.length : Nat) : Int)))] (by kernel_rfl) rfl (by kernel_rfl) ?_
              refine Dr.call (i := 39) (by kernel_rfl) (by kernel_rfl) (d := (some 117)) (by kernel_rfl) (fun _ => At_calls _ b147 A148 c149 (((⟨b, 0 + (uv n).length + (iv z).length + (tv ss).length + (opv om).length + (uv (true).toNat).length, 0⟩ : Rdr).reply).2) hok279 H335 F342 hne155) ?_
              rintro _ w345 ⟨rfl, K346⟩
              have K347 := K332.trans K346 (U := none_) (fun i h1 h2 => h2) (fun i h1 h2 => by exact h2)
              clear K332
              have H348 := H333.keep K346 (fun h => h)
              clear H333
              have H349 := H334.keep K346 (fun h => h)
              clear H334
              have H350 := H335.keep K346 (fun h => h)
              clear H335
              have F351 := own_keep0 F336 K346
              clear F336
              have F352 := own_keep0 F337 K346
              clear F337
              have F353 := own_keep0 F338 K346
              clear F338
              have F354 := own_keep0 F339 K346
              clear F339
              have F355 := own_keep0 F340 K346
              clear F340
              have F356 := own_keep0 F341 K346
              clear F341
              have F357 := RdO.keep0 F342 K346
              clear F342
              have F358 := own_keep0 F343 K346
              clear F343
              refine ⟨_, _, rfl, rfl, (K346.mono (fun _ _ h => h.elim)), ?_⟩
              refine Dr.strong (S' := (fun wz => Keeps (fun i => i = b147) w345 wz)) ((Keeps.refl w345).mono (fun _ _ h => h.elim)) (fun wz hx => K346.trans hx (fun i _ h => h.elim) (fun _ _ h => h)) ?_
              clear K346
              refine Dr.takes (fuel' := 3) (is' := [44, 43, 42, 39, 41, 40, 38, 37, 36, 35, 34, 33, 32, 31, 30, 28, 29, 27, 26, 25, 24, 23, 22, 21, 20, 18, 19, 17, 16, 15, 14, 12, 13, 11, 10, 9, 8, 6, 7, 5, 4, 3, 1, 2, 0]) [42, 43, 44] [(122, (Value.bool ((((((⟨b, 0 + (uv n).length + (iv z).length + (tv ss).length + (opv om).length + (uv (true).toNat).length, 0⟩ : Rdr).reply).2).pos : Nat) : Int) == ((b.length : Nat) : Int))))] (by kernel_rfl) rfl (by kernel_rfl) ?_
              have h359 : ((((((⟨b, 0 + (uv n).length + (iv z).length + (tv ss).length + (opv om).length + (uv (true).toNat).length, 0⟩ : Rdr).reply).2).pos : Nat) : Int) == ((b.length : Nat) : Int)) = true := beq_t (by rw [a5]; show ((_ : Nat) : Int) = _; rw [hend])
              rw [h359]
              refine Dr.call (i := 45) (by kernel_rfl) (by kernel_rfl) (d := (some 123)) (by kernel_rfl) (fun _ => known_calls _) ?_
              rintro _ w360 ⟨rfl, K361⟩
              have K362 := K347.trans K361 (U := none_) (fun i h1 h2 => h2) (fun i h1 h2 => by exact h2)
              clear K347
              have H363 := H348.keep K361 (fun h => h)
              clear H348
              have H364 := H349.keep K361 (fun h => h)
              clear H349
              have H365 := H350.keep K361 (fun h => h)
              clear H350
              have F366 := own_keep0 F351 K361
              clear F351
              have F367 := own_keep0 F352 K361
              clear F352
              have F368 := own_keep0 F353 K361
              clear F353
              have F369 := own_keep0 F354 K361
              clear F354
              have F370 := own_keep0 F355 K361
              clear F355
              have F371 := own_keep0 F356 K361
              clear F356
              have F372 := RdO.keep0 F357 K361
              clear F357
              have F373 := own_keep0 F358 K361
              clear F358
              refine ⟨_, _, rfl, rfl, (K361.mono (fun _ _ h => h.elim)), ?_⟩
              refine Dr.strong (S' := (fun wz => Keeps (fun i => i = b147) w360 wz)) ((Keeps.refl w360).mono (fun _ _ h => h.elim)) (fun wz hx => K361.trans hx (fun i _ h => h.elim) (fun _ _ h => h)) ?_
              clear K361
              refine Dr.takes (fuel' := 0) (is' := [47, 46, 45, 44, 43, 42, 39, 41, 40, 38, 37, 36, 35, 34, 33, 32, 31, 30, 28, 29, 27, 26, 25, 24, 23, 22, 21, 20, 18, 19, 17, 16, 15, 14, 12, 13, 11, 10, 9, 8, 6, 7, 5, 4, 3, 1, 2, 0]) [46, 47] [(10, (Value.bool true))] (by kernel_rfl) rfl (by kernel_rfl) ?_
              refine Dr.done (by kernel_rfl) ?_
              refine q_ret (by kernel_rfl) ?_
              refine ⟨(Value.bool true), retv_tmp rfl rfl, ?_⟩
              exact ⟨rfl, K362⟩
end Go.Proofs.Ytnepjfnkaigakaa
