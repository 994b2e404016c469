/- What the claim stands on, part 12: rules of the walk, contracts of the functions, plain laws. -/
import Derived.Test.YtnbcghbgeiocbaaDoorProg
import Derived.Test.YtnbcghbgeiocbaaDoorKHRecords9
import Derived.Test.YtnbcghbgeiocbaaDoorKHRecords6
import Derived.Test.YtnbcghbgeiocbaaDoorKHRecords8
import Derived.Test.YtnbcghbgeiocbaaDoorKHRecords11
set_option linter.unusedVariables false
namespace Go.Proofs.YtnbcghbgeiocbaaDoor
open Go.Q Go.RowKit
theorem Wrong_calls (w : World) (o : Opm)  : Calls Tryd.prog 57 ⟨[(agg (Opm.cells o))]⟩ w (fun e w' => e = .returned (i64 (wrongE o)) ∧ Keeps none_ w w') := by
 have K0 : Keeps none_ w w := Keeps.refl w
 refine q_calls Tryd.func57 (by kernel_rfl) (by kernel_rfl) ?_
 refine qsg ?_
 refine onew (rowL (Opm.cells o) 24) (fun b => (ptr b)) 1 (fun b => rfl) (fun b1 w2 hb3 H4 K5 hs6 => ?_)
 have nb1 : w.heap.size ≤ b1 := by have := K0.size; omega
 replace K0 := K0.t0 K5
 clear K5 hs6
 refine odz 1 ?_
 refine qs ?_
 refine qsg ?_
 refine og 1 [(1, ptr b1), (2, i64 0), (4, ptr b1)] 1 ?_
 refine ogo (i64 o.kind) 5 (rld 3 b1 0 H4) rfl ?_
 refine od ?_
 refine q_block (id := 0) (by kernel_rfl) ?_
 refine qsg ?_
 refine ogd 2 [(1, ptr b1), (2, i64 0), (5, i64 o.kind), (6, .bool (o.kind == 6))] ?_
 refine qcQ 6 (o.kind == 6) rfl (fun h7 => ?_) (fun h7 => ?_)
 ·rw [h7]
  have p8 := of_beq_t h7
  refine qsg ?_
  refine ogd 1 [(1, ptr b1), (2, i64 0), (5, i64 o.kind)] ?_
  refine qtQ ?_
  refine ⟨(i64 0), retv_tmp rfl rfl, ?_⟩
  have e : wrongE o = 0 := by unfold wrongE; rw [if_pos (by omega)]
  exact ⟨by rw [e], K0⟩
 ·rw [h7]
  have p9 := of_beq_f h7
  refine qsg ?_
  refine ogd 2 [(1, ptr b1), (2, i64 0), (5, i64 o.kind), (8, .bool (o.kind == 7))] ?_
  refine qcQ 8 (o.kind == 7) rfl (fun h10 => ?_) (fun h10 => ?_)
  ·rw [h10]
   have p11 := of_beq_t h10
   refine qs ?_
   refine qsg ?_
   refine og 1 [(1, ptr b1), (2, i64 0), (5, i64 o.kind), (10, .pointer (some ⟨b1, 5, none⟩))] 1 ?_
   refine ogo (i64 o.slot) 11 (rld 3 b1 5 H4) rfl ?_
   refine og 2 [(1, ptr b1), (2, i64 0), (5, i64 o.kind), (13, (Value.bool (decide (o.slot < 0))))] 4 ?_
   refine Ops.split (decide (o.slot < 0)) (fun h12 => ?_) (fun h12 => ?_)
   ·rw [h12]
    have p13 := of_decide_eq_true h12
    refine ogd 14 [(1, ptr b1), (2, i64 0), (5, i64 o.kind), (27, .bool true)] ?_
    refine q_then (o := .tmp 27) (by kernel_rfl) rfl ?_
    refine qsg ?_
    refine ogd 1 [(1, ptr b1), (2, i64 1), (5, i64 o.kind)] ?_
    refine qtQ ?_
    refine ⟨(i64 1), retv_tmp rfl rfl, ?_⟩
    have e : wrongE o = 1 := by unfold wrongE; rw [if_neg (by omega), if_pos (by omega), if_pos (by omega)]
    exact ⟨by rw [e], K0⟩
   ·rw [h12]
    have p14 := of_decide_eq_false h12
    refine og 1 [(1, ptr b1), (2, i64 0), (5, i64 o.kind), (13, .bool false), (14, .pointer (some ⟨b1, 5, none⟩))] 5 ?_
    refine ogo (i64 o.slot) 15 (rld 3 b1 5 H4) rfl ?_
    refine og 3 [(1, ptr b1), (2, i64 0), (5, i64 o.kind), (18, (Value.bool (decide (o.slot ≥ 16))))] 9 ?_
    refine Ops.split (decide (o.slot ≥ 16)) (fun h15 => ?_) (fun h15 => ?_)
    ·rw [h15]
     have p16 := of_decide_eq_true h15
     refine ogd 9 [(1, ptr b1), (2, i64 0), (5, i64 o.kind), (27, .bool true)] ?_
     refine q_then (o := .tmp 27) (by kernel_rfl) rfl ?_
     refine qsg ?_
     refine ogd 1 [(1, ptr b1), (2, i64 1), (5, i64 o.kind)] ?_
     refine qtQ ?_
     refine ⟨(i64 1), retv_tmp rfl rfl, ?_⟩
     have e : wrongE o = 1 := by unfold wrongE; rw [if_neg (by omega), if_pos (by omega), if_pos (by omega)]
     exact ⟨by rw [e], K0⟩
    ·rw [h15]
     have p17 := of_decide_eq_false h15
     refine og 1 [(1, ptr b1), (2, i64 0), (5, i64 o.kind), (18, .bool false), (19, .pointer (some ⟨b1, 6, none⟩))] 10 ?_
     refine ogo (i64 o.shard) 20 (rld 3 b1 6 H4) rfl ?_
     refine og 3 [(1, ptr b1), (2, i64 0), (5, i64 o.kind), (23, (Value.bool (decide (o.shard < 1))))] 14 ?_
     refine Ops.split (decide (o.shard < 1)) (fun h18 => ?_) (fun h18 => ?_)
     ·rw [h18]
      have p19 := of_decide_eq_true h18
      refine ogd 4 [(1, ptr b1), (2, i64 0), (5, i64 o.kind), (27, .bool true)] ?_
      refine q_then (o := .tmp 27) (by kernel_rfl) rfl ?_
      refine qsg ?_
      refine ogd 1 [(1, ptr b1), (2, i64 1), (5, i64 o.kind)] ?_
      refine qtQ ?_
      refine ⟨(i64 1), retv_tmp rfl rfl, ?_⟩
      have e : wrongE o = 1 := by unfold wrongE; rw [if_neg (by omega), if_pos (by omega), if_pos (by omega)]
      exact ⟨by rw [e], K0⟩
     ·rw [h18]
      have p20 := of_decide_eq_false h18
      refine og 1 [(1, ptr b1), (2, i64 0), (5, i64 o.kind), (23, .bool false), (24, .pointer (some ⟨b1, 6, none⟩))] 15 ?_
      refine ogo (i64 o.shard) 25 (rld 3 b1 6 H4) rfl ?_
      refine ogd 2 [(1, ptr b1), (2, i64 0), (5, i64 o.kind), (27, (Value.bool (decide (o.shard > 3))))] ?_
      refine qcQ 27 (decide (o.shard > 3)) rfl (fun h21 => ?_) (fun h21 => ?_)
      ·rw [h21]
       have p22 := of_decide_eq_true h21
       refine qsg ?_
       refine ogd 1 [(1, ptr b1), (2, i64 1), (5, i64 o.kind)] ?_
       refine qtQ ?_
       refine ⟨(i64 1), retv_tmp rfl rfl, ?_⟩
       have e : wrongE o = 1 := by unfold wrongE; rw [if_neg (by omega), if_pos (by omega), if_pos (by omega)]
       exact ⟨by rw [e], K0⟩
      ·rw [h21]
       have p23 := of_decide_eq_false h21
       refine qkQ ?_
       refine qsg ?_
       refine ogd 1 [(1, ptr b1), (2, i64 0), (5, i64 o.kind)] ?_
       refine qtQ ?_
       refine ⟨(i64 0), retv_tmp rfl rfl, ?_⟩
       have e : wrongE o = 0 := by unfold wrongE; rw [if_neg (by omega), if_pos (by omega), if_neg (by omega)]
       exact ⟨by rw [e], K0⟩
  ·rw [h10]
   have p24 := of_beq_f h10
   refine qs ?_
   refine qsg ?_
   refine ogd 2 [(1, ptr b1), (2, i64 0), (5, i64 o.kind), (28, .bool (o.kind == 1))] ?_
   refine qcQ 28 (o.kind == 1) rfl (fun h25 => ?_) (fun h25 => ?_)
   ·rw [h25]
    have p26 := of_beq_t h25
    refine qkQ ?_
    refine q_then (o := .tmp 28) (by kernel_rfl) rfl ?_
    refine qkQ ?_
    refine qsg ?_
    refine og 1 [(1, ptr b1), (2, i64 0), (34, ptr b1)] 1 ?_
    refine ogo (i64 o.kind) 35 (rld 3 b1 0 H4) rfl ?_
    refine ogd 2 [(1, ptr b1), (2, i64 0), (3, .bool (o.kind == 4))] ?_
    refine qs ?_
    refine q_block (id := 1) (by kernel_rfl) ?_
    refine qsg ?_
    refine og 1 [(1, ptr b1), (2, i64 0), (3, .bool (o.kind == 4)), (38, .pointer (some ⟨b1, 1, none⟩))] 1 ?_
    refine ogo (Value.string (str o.frm)) 39 (rld 9 b1 1 H4) rfl ?_
    refine ocQ 40 (Name_calls _ o.frm) ?_
    rintro _ w28 ⟨rfl, K27⟩
    refine ⟨_, _, rfl, rfl, ?_⟩
    replace K0 := K0.t0 K27
    replace H4 := H4.kn K27
    refine ogd 2 [(1, ptr b1), (2, i64 0), (3, .bool (o.kind == 4)), (37, (Value.bool (!(nameOk o.frm))))] ?_
    refine qcQ 37 (!(nameOk o.frm)) rfl (fun h29 => ?_) (fun h29 => ?_)
    ·rw [h29]
     have p30 := bnot_true h29
     refine qsg ?_
     refine ogd 1 [(1, ptr b1), (2, i64 46), (3, .bool (o.kind == 4))] ?_
     refine qtQ ?_
     refine ⟨(i64 46), retv_tmp rfl rfl, ?_⟩
     have e : wrongE o = 46 := by unfold wrongE; rw [if_neg (by omega), if_neg (by omega), if_neg (by omega), if_pos (by assumption)]
     exact ⟨by rw [e], K0⟩
    ·rw [h29]
     have p31 := bnot_false h29
     refine qsg ?_
     refine og 1 [(1, ptr b1), (2, i64 0), (3, .bool (o.kind == 4)), (43, ptr b1)] 1 ?_
     refine ogo (i64 o.kind) 44 (rld 3 b1 0 H4) rfl ?_
     refine ogd 2 [(1, ptr b1), (2, i64 0), (3, .bool (o.kind == 4)), (42, .bool (o.kind == 5))] ?_
     refine qcQ 42 (o.kind == 5) rfl (fun h32 => ?_) (fun h32 => ?_)
     ·rw [h32]
      have p33 := of_beq_t h32
      refine qsg ?_
      refine ogd 1 [(1, ptr b1), (2, i64 0), (3, .bool (o.kind == 4))] ?_
      refine qtQ ?_
      refine ⟨(i64 0), retv_tmp rfl rfl, ?_⟩
      exfalso; omega
     ·rw [h32]
      have p34 := of_beq_f h32
      refine qs ?_
      refine qsg ?_
      refine og 1 [(1, ptr b1), (2, i64 0), (3, .bool (o.kind == 4)), (47, .pointer (some ⟨b1, 4, none⟩))] 1 ?_
      refine ogo (Value.string (str o.key)) 48 (rld 9 b1 4 H4) rfl ?_
      refine ocQ 49 (Name_calls _ o.key) ?_
      rintro _ w36 ⟨rfl, K35⟩
      refine ⟨_, _, rfl, rfl, ?_⟩
      replace K0 := K0.t0 K35
      replace H4 := H4.kn K35
      refine ogd 2 [(1, ptr b1), (2, i64 0), (3, .bool (o.kind == 4)), (46, (Value.bool (!(nameOk o.key))))] ?_
      refine qcQ 46 (!(nameOk o.key)) rfl (fun h37 => ?_) (fun h37 => ?_)
      ·rw [h37]
       have p38 := bnot_true h37
       refine qkQ ?_
       refine q_then (o := .tmp 46) (by kernel_rfl) rfl ?_
       refine qsg ?_
       refine ogd 1 [(1, ptr b1), (2, i64 46), (3, .bool (o.kind == 4))] ?_
       refine qtQ ?_
       refine ⟨(i64 46), retv_tmp rfl rfl, ?_⟩
       have e : wrongE o = 46 := by unfold wrongE; rw [if_neg (by omega), if_neg (by omega), if_neg (by omega), if_neg (ne_of_t (by assumption)), if_neg (by omega), if_pos (by assumption)]
       exact ⟨by rw [e], K0⟩
      ·rw [h37]
       have p39 := bnot_false h37
       refine qg ?_
       refine og 2 [(1, ptr b1), (2, i64 0), (3, .bool (o.kind == 4)), (46, .bool false), (52, .bool (o.kind == 4))] 2 ?_
       refine Ops.split (o.kind == 4) (fun h40 => ?_) (fun h40 => ?_)
       ·rw [h40]
        have p41 := of_beq_t h40
        refine og 1 [(1, ptr b1), (2, i64 0), (3, .bool true), (46, .bool false), (52, .bool true), (53, .pointer (some ⟨b1, 2, none⟩))] 3 ?_
        refine ogo (Value.string (str o.to)) 54 (rld 9 b1 2 H4) rfl ?_
        refine ocQ 55 (Name_calls _ o.to) ?_
        rintro _ w43 ⟨rfl, K42⟩
        refine ⟨_, _, rfl, rfl, ?_⟩
        replace H4 := H4.kn K42
        refine ogd 3 [(1, ptr b1), (2, i64 0), (3, .bool true), (46, (Value.bool (!(nameOk o.to))))] ?_
        refine qcQ 46 (!(nameOk o.to)) rfl (fun h44 => ?_) (fun h44 => ?_)
        ·rw [h44]
         have p45 := bnot_true h44
         refine qsg ?_
         refine ogd 1 [(1, ptr b1), (2, i64 46), (3, .bool true)] ?_
         refine qtQ ?_
         refine ⟨(i64 46), retv_tmp rfl rfl, ?_⟩
         exfalso; omega
        ·rw [h44]
         have p46 := bnot_false h44
         refine qsg ?_
         refine og 1 [(1, ptr b1), (2, i64 0), (3, .bool true), (59, ptr b1)] 1 ?_
         refine ogo (i64 o.kind) 60 (rld 3 b1 0 H4) rfl ?_
         refine ogd 2 [(1, ptr b1), (2, i64 0), (3, .bool true), (58, .bool (o.kind == 1))] ?_
         rw [h25]
         refine q_then (o := .tmp 58) (by kernel_rfl) rfl ?_
         refine qsg ?_
         refine ogd 1 [(1, ptr b1), (2, i64 0), (3, .bool true)] ?_
         refine qtQ ?_
         refine ⟨(i64 0), retv_tmp rfl rfl, ?_⟩
         exfalso; omega
       ·rw [h40]
        have p47 := of_beq_f h40
        refine ogd 6 [(1, ptr b1), (2, i64 0), (3, .bool false), (46, .bool false)] ?_
        refine q_else (o := .tmp 46) (by kernel_rfl) rfl ?_
        refine qsg ?_
        refine og 1 [(1, ptr b1), (2, i64 0), (3, .bool false), (59, ptr b1)] 1 ?_
        refine ogo (i64 o.kind) 60 (rld 3 b1 0 H4) rfl ?_
        refine ogd 2 [(1, ptr b1), (2, i64 0), (3, .bool false), (58, .bool (o.kind == 1))] ?_
        rw [h25]
        refine q_then (o := .tmp 58) (by kernel_rfl) rfl ?_
        refine qsg ?_
        refine ogd 1 [(1, ptr b1), (2, i64 0), (3, .bool false)] ?_
        refine qtQ ?_
        refine ⟨(i64 0), retv_tmp rfl rfl, ?_⟩
        have e : wrongE o = 0 := by unfold wrongE; rw [if_neg (by omega), if_neg (by omega), if_neg (by omega), if_neg (ne_of_t (by assumption)), if_neg (by omega), if_neg (ne_of_t (by assumption)), if_pos (by omega)]
        exact ⟨by rw [e], K0⟩
   ·rw [h25]
    have p48 := of_beq_f h25
    refine qsg ?_
    refine ogd 2 [(1, ptr b1), (2, i64 0), (5, i64 o.kind), (28, .bool (o.kind == 2))] ?_
    refine qcQ 28 (o.kind == 2) rfl (fun h49 => ?_) (fun h49 => ?_)
    ·rw [h49]
     have p50 := of_beq_t h49
     refine qkQ ?_
     refine q_then (o := .tmp 28) (by kernel_rfl) rfl ?_
     refine qkQ ?_
     refine qsg ?_
     refine og 1 [(1, ptr b1), (2, i64 0), (34, ptr b1)] 1 ?_
     refine ogo (i64 o.kind) 35 (rld 3 b1 0 H4) rfl ?_
     refine ogd 2 [(1, ptr b1), (2, i64 0), (3, .bool (o.kind == 4))] ?_
     refine qs ?_
     refine q_block (id := 1) (by kernel_rfl) ?_
     refine qsg ?_
     refine og 1 [(1, ptr b1), (2, i64 0), (3, .bool (o.kind == 4)), (38, .pointer (some ⟨b1, 1, none⟩))] 1 ?_
     refine ogo (Value.string (str o.frm)) 39 (rld 9 b1 1 H4) rfl ?_
     refine ocQ 40 (Name_calls _ o.frm) ?_
     rintro _ w52 ⟨rfl, K51⟩
     refine ⟨_, _, rfl, rfl, ?_⟩
     replace K0 := K0.t0 K51
     replace H4 := H4.kn K51
     refine ogd 2 [(1, ptr b1), (2, i64 0), (3, .bool (o.kind == 4)), (37, (Value.bool (!(nameOk o.frm))))] ?_
     refine qcQ 37 (!(nameOk o.frm)) rfl (fun h53 => ?_) (fun h53 => ?_)
     ·rw [h53]
      have p54 := bnot_true h53
      refine qsg ?_
      refine ogd 1 [(1, ptr b1), (2, i64 46), (3, .bool (o.kind == 4))] ?_
      refine qtQ ?_
      refine ⟨(i64 46), retv_tmp rfl rfl, ?_⟩
      have e : wrongE o = 46 := by unfold wrongE; rw [if_neg (by omega), if_neg (by omega), if_neg (by omega), if_pos (by assumption)]
      exact ⟨by rw [e], K0⟩
     ·rw [h53]
      have p55 := bnot_false h53
      refine qsg ?_
      refine og 1 [(1, ptr b1), (2, i64 0), (3, .bool (o.kind == 4)), (43, ptr b1)] 1 ?_
      refine ogo (i64 o.kind) 44 (rld 3 b1 0 H4) rfl ?_
      refine ogd 2 [(1, ptr b1), (2, i64 0), (3, .bool (o.kind == 4)), (42, .bool (o.kind == 5))] ?_
      refine qcQ 42 (o.kind == 5) rfl (fun h56 => ?_) (fun h56 => ?_)
      ·rw [h56]
       have p57 := of_beq_t h56
       refine qsg ?_
       refine ogd 1 [(1, ptr b1), (2, i64 0), (3, .bool (o.kind == 4))] ?_
       refine qtQ ?_
       refine ⟨(i64 0), retv_tmp rfl rfl, ?_⟩
       exfalso; omega
      ·rw [h56]
       have p58 := of_beq_f h56
       refine qs ?_
       refine qsg ?_
       refine og 1 [(1, ptr b1), (2, i64 0), (3, .bool (o.kind == 4)), (47, .pointer (some ⟨b1, 4, none⟩))] 1 ?_
       refine ogo (Value.string (str o.key)) 48 (rld 9 b1 4 H4) rfl ?_
       refine ocQ 49 (Name_calls _ o.key) ?_
       rintro _ w60 ⟨rfl, K59⟩
       refine ⟨_, _, rfl, rfl, ?_⟩
       replace K0 := K0.t0 K59
       replace H4 := H4.kn K59
       refine ogd 2 [(1, ptr b1), (2, i64 0), (3, .bool (o.kind == 4)), (46, (Value.bool (!(nameOk o.key))))] ?_
       refine qcQ 46 (!(nameOk o.key)) rfl (fun h61 => ?_) (fun h61 => ?_)
       ·rw [h61]
        have p62 := bnot_true h61
        refine qkQ ?_
        refine q_then (o := .tmp 46) (by kernel_rfl) rfl ?_
        refine qsg ?_
        refine ogd 1 [(1, ptr b1), (2, i64 46), (3, .bool (o.kind == 4))] ?_
        refine qtQ ?_
        refine ⟨(i64 46), retv_tmp rfl rfl, ?_⟩
        have e : wrongE o = 46 := by unfold wrongE; rw [if_neg (by omega), if_neg (by omega), if_neg (by omega), if_neg (ne_of_t (by assumption)), if_neg (by omega), if_pos (by assumption)]
        exact ⟨by rw [e], K0⟩
       ·rw [h61]
        have p63 := bnot_false h61
        refine qg ?_
        refine og 2 [(1, ptr b1), (2, i64 0), (3, .bool (o.kind == 4)), (46, .bool false), (52, .bool (o.kind == 4))] 2 ?_
        refine Ops.split (o.kind == 4) (fun h64 => ?_) (fun h64 => ?_)
        ·rw [h64]
         have p65 := of_beq_t h64
         refine og 1 [(1, ptr b1), (2, i64 0), (3, .bool true), (46, .bool false), (52, .bool true), (53, .pointer (some ⟨b1, 2, none⟩))] 3 ?_
         refine ogo (Value.string (str o.to)) 54 (rld 9 b1 2 H4) rfl ?_
         refine ocQ 55 (Name_calls _ o.to) ?_
         rintro _ w67 ⟨rfl, K66⟩
         refine ⟨_, _, rfl, rfl, ?_⟩
         replace H4 := H4.kn K66
         refine ogd 3 [(1, ptr b1), (2, i64 0), (3, .bool true), (46, (Value.bool (!(nameOk o.to))))] ?_
         refine qcQ 46 (!(nameOk o.to)) rfl (fun h68 => ?_) (fun h68 => ?_)
         ·rw [h68]
          have p69 := bnot_true h68
          refine qsg ?_
          refine ogd 1 [(1, ptr b1), (2, i64 46), (3, .bool true)] ?_
          refine qtQ ?_
          refine ⟨(i64 46), retv_tmp rfl rfl, ?_⟩
          exfalso; omega
         ·rw [h68]
          have p70 := bnot_false h68
          refine qsg ?_
          refine og 1 [(1, ptr b1), (2, i64 0), (3, .bool true), (59, ptr b1)] 1 ?_
          refine ogo (i64 o.kind) 60 (rld 3 b1 0 H4) rfl ?_
          refine ogd 2 [(1, ptr b1), (2, i64 0), (3, .bool true), (58, .bool (o.kind == 1))] ?_
          rw [h25]
          refine q_else (o := .tmp 58) (by kernel_rfl) rfl ?_
          refine qsg ?_
          refine og 1 [(1, ptr b1), (2, i64 0), (3, .bool true), (63, .pointer (some ⟨b1, 3, none⟩))] 1 ?_
          refine ogo (i64 o.amount) 64 (rld 2 b1 3 H4) rfl ?_
          refine ogd 2 [(1, ptr b1), (2, i64 0), (3, .bool true), (62, (Value.bool (decide (o.amount < 1))))] ?_
          refine qcQ 62 (decide (o.amount < 1)) rfl (fun h71 => ?_) (fun h71 => ?_)
          ·rw [h71]
           have p72 := of_decide_eq_true h71
           refine qsg ?_
           refine ogd 1 [(1, ptr b1), (2, i64 47), (3, .bool true)] ?_
           refine qtQ ?_
           refine ⟨(i64 47), retv_tmp rfl rfl, ?_⟩
           exfalso; omega
          ·rw [h71]
           have p73 := of_decide_eq_false h71
           refine qsg ?_
           refine og 3 [(1, ptr b1), (2, i64 0), (68, .bool true), (69, .pointer (some ⟨b1, 1, none⟩))] 3 ?_
           refine ogo (Value.string (str o.frm)) 70 (rld 9 b1 1 H4) rfl ?_
           refine og 1 [(2, i64 0), (68, .bool true), (70, .string (str o.frm)), (71, .pointer (some ⟨b1, 2, none⟩))] 5 ?_
           refine ogo (Value.string (str o.to)) 72 (rld 9 b1 2 H4) rfl ?_
           refine ogo (Value.bool (o.frm == o.to)) 73 (Runs.streq (t := 9) (by kernel_rfl)) rfl ?_
           refine ogd 2 [(2, i64 0), (66, .bool (o.frm == o.to))] ?_
           refine qcQ 66 (o.frm == o.to) rfl (fun h74 => ?_) (fun h74 => ?_)
           ·rw [h74]
            have p75 : (o.frm == o.to) = true := h74
            refine qsg ?_
            refine ogd 1 [(2, i64 44)] ?_
            refine qtQ ?_
            refine ⟨(i64 44), retv_tmp rfl rfl, ?_⟩
            exfalso; omega
           ·rw [h74]
            have p76 : (o.frm == o.to) = false := h74
            refine qkQ ?_
            refine qsg ?_
            refine ogd 1 [(2, i64 0)] ?_
            refine qtQ ?_
            refine ⟨(i64 0), retv_tmp rfl rfl, ?_⟩
            exfalso; omega
        ·rw [h64]
         have p77 := of_beq_f h64
         refine ogd 6 [(1, ptr b1), (2, i64 0), (3, .bool false), (46, .bool false)] ?_
         refine q_else (o := .tmp 46) (by kernel_rfl) rfl ?_
         refine qsg ?_
         refine og 1 [(1, ptr b1), (2, i64 0), (3, .bool false), (59, ptr b1)] 1 ?_
         refine ogo (i64 o.kind) 60 (rld 3 b1 0 H4) rfl ?_
         refine ogd 2 [(1, ptr b1), (2, i64 0), (3, .bool false), (58, .bool (o.kind == 1))] ?_
         rw [h25]
         refine q_else (o := .tmp 58) (by kernel_rfl) rfl ?_
         refine qsg ?_
         refine og 1 [(1, ptr b1), (2, i64 0), (3, .bool false), (63, .pointer (some ⟨b1, 3, none⟩))] 1 ?_
         refine ogo (i64 o.amount) 64 (rld 2 b1 3 H4) rfl ?_
         refine ogd 2 [(1, ptr b1), (2, i64 0), (3, .bool false), (62, (Value.bool (decide (o.amount < 1))))] ?_
         refine qcQ 62 (decide (o.amount < 1)) rfl (fun h78 => ?_) (fun h78 => ?_)
         ·rw [h78]
          have p79 := of_decide_eq_true h78
          refine qsg ?_
          refine ogd 1 [(1, ptr b1), (2, i64 47), (3, .bool false)] ?_
          refine qtQ ?_
          refine ⟨(i64 47), retv_tmp rfl rfl, ?_⟩
          have e : wrongE o = 47 := by unfold wrongE; rw [if_neg (by omega), if_neg (by omega), if_neg (by omega), if_neg (ne_of_t (by assumption)), if_neg (by omega), if_neg (ne_of_t (by assumption)), if_neg (by omega), if_neg (by omega), if_pos (by omega)]
          exact ⟨by rw [e], K0⟩
         ·rw [h78]
          have p80 := of_decide_eq_false h78
          refine qsg ?_
          refine ogd 9 [(2, i64 0), (66, .bool false)] ?_
          refine q_else (o := .tmp 66) (by kernel_rfl) rfl ?_
          refine qkQ ?_
          refine qsg ?_
          refine ogd 1 [(2, i64 0)] ?_
          refine qtQ ?_
          refine ⟨(i64 0), retv_tmp rfl rfl, ?_⟩
          have e : wrongE o = 0 := by unfold wrongE; rw [if_neg (by omega), if_neg (by omega), if_neg (by omega), if_neg (ne_of_t (by assumption)), if_neg (by omega), if_neg (ne_of_t (by assumption)), if_neg (by omega), if_neg (by omega), if_neg (by omega), if_neg (by omega)]
          exact ⟨by rw [e], K0⟩
    ·rw [h49]
     have p81 := of_beq_f h49
     refine qsg ?_
     refine ogd 2 [(1, ptr b1), (2, i64 0), (5, i64 o.kind), (28, .bool (o.kind == 3))] ?_
     refine qcQ 28 (o.kind == 3) rfl (fun h82 => ?_) (fun h82 => ?_)
     ·rw [h82]
      have p83 := of_beq_t h82
      refine qkQ ?_
      refine q_then (o := .tmp 28) (by kernel_rfl) rfl ?_
      refine qkQ ?_
      refine qsg ?_
      refine og 1 [(1, ptr b1), (2, i64 0), (34, ptr b1)] 1 ?_
      refine ogo (i64 o.kind) 35 (rld 3 b1 0 H4) rfl ?_
      refine ogd 2 [(1, ptr b1), (2, i64 0), (3, .bool (o.kind == 4))] ?_
      refine qs ?_
      refine q_block (id := 1) (by kernel_rfl) ?_
      refine qsg ?_
      refine og 1 [(1, ptr b1), (2, i64 0), (3, .bool (o.kind == 4)), (38, .pointer (some ⟨b1, 1, none⟩))] 1 ?_
      refine ogo (Value.string (str o.frm)) 39 (rld 9 b1 1 H4) rfl ?_
      refine ocQ 40 (Name_calls _ o.frm) ?_
      rintro _ w85 ⟨rfl, K84⟩
      refine ⟨_, _, rfl, rfl, ?_⟩
      replace K0 := K0.t0 K84
      replace H4 := H4.kn K84
      refine ogd 2 [(1, ptr b1), (2, i64 0), (3, .bool (o.kind == 4)), (37, (Value.bool (!(nameOk o.frm))))] ?_
      refine qcQ 37 (!(nameOk o.frm)) rfl (fun h86 => ?_) (fun h86 => ?_)
      ·rw [h86]
       have p87 := bnot_true h86
       refine qsg ?_
       refine ogd 1 [(1, ptr b1), (2, i64 46), (3, .bool (o.kind == 4))] ?_
       refine qtQ ?_
       refine ⟨(i64 46), retv_tmp rfl rfl, ?_⟩
       have e : wrongE o = 46 := by unfold wrongE; rw [if_neg (by omega), if_neg (by omega), if_neg (by omega), if_pos (by assumption)]
       exact ⟨by rw [e], K0⟩
      ·rw [h86]
       have p88 := bnot_false h86
       refine qsg ?_
       refine og 1 [(1, ptr b1), (2, i64 0), (3, .bool (o.kind == 4)), (43, ptr b1)] 1 ?_
       refine ogo (i64 o.kind) 44 (rld 3 b1 0 H4) rfl ?_
       refine ogd 2 [(1, ptr b1), (2, i64 0), (3, .bool (o.kind == 4)), (42, .bool (o.kind == 5))] ?_
       refine qcQ 42 (o.kind == 5) rfl (fun h89 => ?_) (fun h89 => ?_)
       ·rw [h89]
        have p90 := of_beq_t h89
        refine qsg ?_
        refine ogd 1 [(1, ptr b1), (2, i64 0), (3, .bool (o.kind == 4))] ?_
        refine qtQ ?_
        refine ⟨(i64 0), retv_tmp rfl rfl, ?_⟩
        exfalso; omega
       ·rw [h89]
        have p91 := of_beq_f h89
        refine qs ?_
        refine qsg ?_
        refine og 1 [(1, ptr b1), (2, i64 0), (3, .bool (o.kind == 4)), (47, .pointer (some ⟨b1, 4, none⟩))] 1 ?_
        refine ogo (Value.string (str o.key)) 48 (rld 9 b1 4 H4) rfl ?_
        refine ocQ 49 (Name_calls _ o.key) ?_
        rintro _ w93 ⟨rfl, K92⟩
        refine ⟨_, _, rfl, rfl, ?_⟩
        replace K0 := K0.t0 K92
        replace H4 := H4.kn K92
        refine ogd 2 [(1, ptr b1), (2, i64 0), (3, .bool (o.kind == 4)), (46, (Value.bool (!(nameOk o.key))))] ?_
        refine qcQ 46 (!(nameOk o.key)) rfl (fun h94 => ?_) (fun h94 => ?_)
        ·rw [h94]
         have p95 := bnot_true h94
         refine qkQ ?_
         refine q_then (o := .tmp 46) (by kernel_rfl) rfl ?_
         refine qsg ?_
         refine ogd 1 [(1, ptr b1), (2, i64 46), (3, .bool (o.kind == 4))] ?_
         refine qtQ ?_
         refine ⟨(i64 46), retv_tmp rfl rfl, ?_⟩
         have e : wrongE o = 46 := by unfold wrongE; rw [if_neg (by omega), if_neg (by omega), if_neg (by omega), if_neg (ne_of_t (by assumption)), if_neg (by omega), if_pos (by assumption)]
         exact ⟨by rw [e], K0⟩
        ·rw [h94]
         have p96 := bnot_false h94
         refine qg ?_
         refine og 2 [(1, ptr b1), (2, i64 0), (3, .bool (o.kind == 4)), (46, .bool false), (52, .bool (o.kind == 4))] 2 ?_
         refine Ops.split (o.kind == 4) (fun h97 => ?_) (fun h97 => ?_)
         ·rw [h97]
          have p98 := of_beq_t h97
          refine og 1 [(1, ptr b1), (2, i64 0), (3, .bool true), (46, .bool false), (52, .bool true), (53, .pointer (some ⟨b1, 2, none⟩))] 3 ?_
          refine ogo (Value.string (str o.to)) 54 (rld 9 b1 2 H4) rfl ?_
          refine ocQ 55 (Name_calls _ o.to) ?_
          rintro _ w100 ⟨rfl, K99⟩
          refine ⟨_, _, rfl, rfl, ?_⟩
          replace H4 := H4.kn K99
          refine ogd 3 [(1, ptr b1), (2, i64 0), (3, .bool true), (46, (Value.bool (!(nameOk o.to))))] ?_
          refine qcQ 46 (!(nameOk o.to)) rfl (fun h101 => ?_) (fun h101 => ?_)
          ·rw [h101]
           have p102 := bnot_true h101
           refine qsg ?_
           refine ogd 1 [(1, ptr b1), (2, i64 46), (3, .bool true)] ?_
           refine qtQ ?_
           refine ⟨(i64 46), retv_tmp rfl rfl, ?_⟩
           exfalso; omega
          ·rw [h101]
           have p103 := bnot_false h101
           refine qsg ?_
           refine og 1 [(1, ptr b1), (2, i64 0), (3, .bool true), (59, ptr b1)] 1 ?_
           refine ogo (i64 o.kind) 60 (rld 3 b1 0 H4) rfl ?_
           refine ogd 2 [(1, ptr b1), (2, i64 0), (3, .bool true), (58, .bool (o.kind == 1))] ?_
           rw [h25]
           refine q_else (o := .tmp 58) (by kernel_rfl) rfl ?_
           refine qsg ?_
           refine og 1 [(1, ptr b1), (2, i64 0), (3, .bool true), (63, .pointer (some ⟨b1, 3, none⟩))] 1 ?_
           refine ogo (i64 o.amount) 64 (rld 2 b1 3 H4) rfl ?_
           refine ogd 2 [(1, ptr b1), (2, i64 0), (3, .bool true), (62, (Value.bool (decide (o.amount < 1))))] ?_
           refine qcQ 62 (decide (o.amount < 1)) rfl (fun h104 => ?_) (fun h104 => ?_)
           ·rw [h104]
            have p105 := of_decide_eq_true h104
            refine qsg ?_
            refine ogd 1 [(1, ptr b1), (2, i64 47), (3, .bool true)] ?_
            refine qtQ ?_
            refine ⟨(i64 47), retv_tmp rfl rfl, ?_⟩
            exfalso; omega
           ·rw [h104]
            have p106 := of_decide_eq_false h104
            refine qsg ?_
            refine og 3 [(1, ptr b1), (2, i64 0), (68, .bool true), (69, .pointer (some ⟨b1, 1, none⟩))] 3 ?_
            refine ogo (Value.string (str o.frm)) 70 (rld 9 b1 1 H4) rfl ?_
            refine og 1 [(2, i64 0), (68, .bool true), (70, .string (str o.frm)), (71, .pointer (some ⟨b1, 2, none⟩))] 5 ?_
            refine ogo (Value.string (str o.to)) 72 (rld 9 b1 2 H4) rfl ?_
            refine ogo (Value.bool (o.frm == o.to)) 73 (Runs.streq (t := 9) (by kernel_rfl)) rfl ?_
            refine ogd 2 [(2, i64 0), (66, .bool (o.frm == o.to))] ?_
            refine qcQ 66 (o.frm == o.to) rfl (fun h107 => ?_) (fun h107 => ?_)
            ·rw [h107]
             have p108 : (o.frm == o.to) = true := h107
             refine qsg ?_
             refine ogd 1 [(2, i64 44)] ?_
             refine qtQ ?_
             refine ⟨(i64 44), retv_tmp rfl rfl, ?_⟩
             exfalso; omega
            ·rw [h107]
             have p109 : (o.frm == o.to) = false := h107
             refine qkQ ?_
             refine qsg ?_
             refine ogd 1 [(2, i64 0)] ?_
             refine qtQ ?_
             refine ⟨(i64 0), retv_tmp rfl rfl, ?_⟩
             exfalso; omega
         ·rw [h97]
          have p110 := of_beq_f h97
          refine ogd 6 [(1, ptr b1), (2, i64 0), (3, .bool false), (46, .bool false)] ?_
          refine q_else (o := .tmp 46) (by kernel_rfl) rfl ?_
          refine qsg ?_
          refine og 1 [(1, ptr b1), (2, i64 0), (3, .bool false), (59, ptr b1)] 1 ?_
          refine ogo (i64 o.kind) 60 (rld 3 b1 0 H4) rfl ?_
          refine ogd 2 [(1, ptr b1), (2, i64 0), (3, .bool false), (58, .bool (o.kind == 1))] ?_
          rw [h25]
          refine q_else (o := .tmp 58) (by kernel_rfl) rfl ?_
          refine qsg ?_
          refine og 1 [(1, ptr b1), (2, i64 0), (3, .bool false), (63, .pointer (some ⟨b1, 3, none⟩))] 1 ?_
          refine ogo (i64 o.amount) 64 (rld 2 b1 3 H4) rfl ?_
          refine ogd 2 [(1, ptr b1), (2, i64 0), (3, .bool false), (62, (Value.bool (decide (o.amount < 1))))] ?_
          refine qcQ 62 (decide (o.amount < 1)) rfl (fun h111 => ?_) (fun h111 => ?_)
          ·rw [h111]
           have p112 := of_decide_eq_true h111
           refine qsg ?_
           refine ogd 1 [(1, ptr b1), (2, i64 47), (3, .bool false)] ?_
           refine qtQ ?_
           refine ⟨(i64 47), retv_tmp rfl rfl, ?_⟩
           have e : wrongE o = 47 := by unfold wrongE; rw [if_neg (by omega), if_neg (by omega), if_neg (by omega), if_neg (ne_of_t (by assumption)), if_neg (by omega), if_neg (ne_of_t (by assumption)), if_neg (by omega), if_neg (by omega), if_pos (by omega)]
           exact ⟨by rw [e], K0⟩
          ·rw [h111]
           have p113 := of_decide_eq_false h111
           refine qsg ?_
           refine ogd 9 [(2, i64 0), (66, .bool false)] ?_
           refine q_else (o := .tmp 66) (by kernel_rfl) rfl ?_
           refine qkQ ?_
           refine qsg ?_
           refine ogd 1 [(2, i64 0)] ?_
           refine qtQ ?_
           refine ⟨(i64 0), retv_tmp rfl rfl, ?_⟩
           have e : wrongE o = 0 := by unfold wrongE; rw [if_neg (by omega), if_neg (by omega), if_neg (by omega), if_neg (ne_of_t (by assumption)), if_neg (by omega), if_neg (ne_of_t (by assumption)), if_neg (by omega), if_neg (by omega), if_neg (by omega), if_neg (by omega)]
           exact ⟨by rw [e], K0⟩
     ·rw [h82]
      have p114 := of_beq_f h82
      refine qsg ?_
      refine ogd 2 [(1, ptr b1), (2, i64 0), (5, i64 o.kind), (28, .bool (o.kind == 4))] ?_
      refine qcQ 28 (o.kind == 4) rfl (fun h115 => ?_) (fun h115 => ?_)
      ·rw [h115]
       have p116 := of_beq_t h115
       refine qkQ ?_
       refine q_then (o := .tmp 28) (by kernel_rfl) rfl ?_
       refine qkQ ?_
       refine qsg ?_
       refine og 1 [(1, ptr b1), (2, i64 0), (34, ptr b1)] 1 ?_
       refine ogo (i64 o.kind) 35 (rld 3 b1 0 H4) rfl ?_
       refine ogd 2 [(1, ptr b1), (2, i64 0), (3, .bool (o.kind == 4))] ?_
       refine qs ?_
       refine q_block (id := 1) (by kernel_rfl) ?_
       refine qsg ?_
       refine og 1 [(1, ptr b1), (2, i64 0), (3, .bool (o.kind == 4)), (38, .pointer (some ⟨b1, 1, none⟩))] 1 ?_
       refine ogo (Value.string (str o.frm)) 39 (rld 9 b1 1 H4) rfl ?_
       refine ocQ 40 (Name_calls _ o.frm) ?_
       rintro _ w118 ⟨rfl, K117⟩
       refine ⟨_, _, rfl, rfl, ?_⟩
       replace K0 := K0.t0 K117
       replace H4 := H4.kn K117
       refine ogd 2 [(1, ptr b1), (2, i64 0), (3, .bool (o.kind == 4)), (37, (Value.bool (!(nameOk o.frm))))] ?_
       refine qcQ 37 (!(nameOk o.frm)) rfl (fun h119 => ?_) (fun h119 => ?_)
       ·rw [h119]
        have p120 := bnot_true h119
        refine qsg ?_
        refine ogd 1 [(1, ptr b1), (2, i64 46), (3, .bool (o.kind == 4))] ?_
        refine qtQ ?_
        refine ⟨(i64 46), retv_tmp rfl rfl, ?_⟩
        have e : wrongE o = 46 := by unfold wrongE; rw [if_neg (by omega), if_neg (by omega), if_neg (by omega), if_pos (by assumption)]
        exact ⟨by rw [e], K0⟩
       ·rw [h119]
        have p121 := bnot_false h119
        refine qsg ?_
        refine og 1 [(1, ptr b1), (2, i64 0), (3, .bool (o.kind == 4)), (43, ptr b1)] 1 ?_
        refine ogo (i64 o.kind) 44 (rld 3 b1 0 H4) rfl ?_
        refine ogd 2 [(1, ptr b1), (2, i64 0), (3, .bool (o.kind == 4)), (42, .bool (o.kind == 5))] ?_
        refine qcQ 42 (o.kind == 5) rfl (fun h122 => ?_) (fun h122 => ?_)
        ·rw [h122]
         have p123 := of_beq_t h122
         refine qsg ?_
         refine ogd 1 [(1, ptr b1), (2, i64 0), (3, .bool (o.kind == 4))] ?_
         refine qtQ ?_
         refine ⟨(i64 0), retv_tmp rfl rfl, ?_⟩
         exfalso; omega
        ·rw [h122]
         have p124 := of_beq_f h122
         refine qs ?_
         refine qsg ?_
         refine og 1 [(1, ptr b1), (2, i64 0), (3, .bool (o.kind == 4)), (47, .pointer (some ⟨b1, 4, none⟩))] 1 ?_
         refine ogo (Value.string (str o.key)) 48 (rld 9 b1 4 H4) rfl ?_
         refine ocQ 49 (Name_calls _ o.key) ?_
         rintro _ w126 ⟨rfl, K125⟩
         refine ⟨_, _, rfl, rfl, ?_⟩
         replace K0 := K0.t0 K125
         replace H4 := H4.kn K125
         refine ogd 2 [(1, ptr b1), (2, i64 0), (3, .bool (o.kind == 4)), (46, (Value.bool (!(nameOk o.key))))] ?_
         refine qcQ 46 (!(nameOk o.key)) rfl (fun h127 => ?_) (fun h127 => ?_)
         ·rw [h127]
          have p128 := bnot_true h127
          refine qkQ ?_
          refine q_then (o := .tmp 46) (by kernel_rfl) rfl ?_
          refine qsg ?_
          refine ogd 1 [(1, ptr b1), (2, i64 46), (3, .bool (o.kind == 4))] ?_
          refine qtQ ?_
          refine ⟨(i64 46), retv_tmp rfl rfl, ?_⟩
          have e : wrongE o = 46 := by unfold wrongE; rw [if_neg (by omega), if_neg (by omega), if_neg (by omega), if_neg (ne_of_t (by assumption)), if_neg (by omega), if_pos (by assumption)]
          exact ⟨by rw [e], K0⟩
         ·rw [h127]
          have p129 := bnot_false h127
          refine qg ?_
          refine og 2 [(1, ptr b1), (2, i64 0), (3, .bool (o.kind == 4)), (46, .bool false), (52, .bool (o.kind == 4))] 2 ?_
          rw [h115]
          refine og 1 [(1, ptr b1), (2, i64 0), (3, .bool true), (46, .bool false), (52, .bool true), (53, .pointer (some ⟨b1, 2, none⟩))] 3 ?_
          refine ogo (Value.string (str o.to)) 54 (rld 9 b1 2 H4) rfl ?_
          refine ocQ 55 (Name_calls _ o.to) ?_
          rintro _ w131 ⟨rfl, K130⟩
          refine ⟨_, _, rfl, rfl, ?_⟩
          replace K0 := K0.t0 K130
          replace H4 := H4.kn K130
          refine ogd 3 [(1, ptr b1), (2, i64 0), (3, .bool true), (46, (Value.bool (!(nameOk o.to))))] ?_
          refine qcQ 46 (!(nameOk o.to)) rfl (fun h132 => ?_) (fun h132 => ?_)
          ·rw [h132]
           have p133 := bnot_true h132
           refine qsg ?_
           refine ogd 1 [(1, ptr b1), (2, i64 46), (3, .bool true)] ?_
           refine qtQ ?_
           refine ⟨(i64 46), retv_tmp rfl rfl, ?_⟩
           have e : wrongE o = 46 := by unfold wrongE; rw [if_neg (by omega), if_neg (by omega), if_neg (by omega), if_neg (ne_of_t (by assumption)), if_neg (by omega), if_neg (ne_of_t (by assumption)), if_neg (by omega), if_pos ⟨by omega, by assumption⟩]
           exact ⟨by rw [e], K0⟩
          ·rw [h132]
           have p134 := bnot_false h132
           refine qsg ?_
           refine og 1 [(1, ptr b1), (2, i64 0), (3, .bool true), (59, ptr b1)] 1 ?_
           refine ogo (i64 o.kind) 60 (rld 3 b1 0 H4) rfl ?_
           refine ogd 2 [(1, ptr b1), (2, i64 0), (3, .bool true), (58, .bool (o.kind == 1))] ?_
           rw [h25]
           refine q_else (o := .tmp 58) (by kernel_rfl) rfl ?_
           refine qsg ?_
           refine og 1 [(1, ptr b1), (2, i64 0), (3, .bool true), (63, .pointer (some ⟨b1, 3, none⟩))] 1 ?_
           refine ogo (i64 o.amount) 64 (rld 2 b1 3 H4) rfl ?_
           refine ogd 2 [(1, ptr b1), (2, i64 0), (3, .bool true), (62, (Value.bool (decide (o.amount < 1))))] ?_
           refine qcQ 62 (decide (o.amount < 1)) rfl (fun h135 => ?_) (fun h135 => ?_)
           ·rw [h135]
            have p136 := of_decide_eq_true h135
            refine qsg ?_
            refine ogd 1 [(1, ptr b1), (2, i64 47), (3, .bool true)] ?_
            refine qtQ ?_
            refine ⟨(i64 47), retv_tmp rfl rfl, ?_⟩
            have e : wrongE o = 47 := by unfold wrongE; rw [if_neg (by omega), if_neg (by omega), if_neg (by omega), if_neg (ne_of_t (by assumption)), if_neg (by omega), if_neg (ne_of_t (by assumption)), if_neg (by omega), if_neg (and_ne_of_t (by assumption)), if_pos (by omega)]
            exact ⟨by rw [e], K0⟩
           ·rw [h135]
            have p137 := of_decide_eq_false h135
            refine qsg ?_
            refine og 3 [(1, ptr b1), (2, i64 0), (68, .bool true), (69, .pointer (some ⟨b1, 1, none⟩))] 3 ?_
            refine ogo (Value.string (str o.frm)) 70 (rld 9 b1 1 H4) rfl ?_
            refine og 1 [(2, i64 0), (68, .bool true), (70, .string (str o.frm)), (71, .pointer (some ⟨b1, 2, none⟩))] 5 ?_
            refine ogo (Value.string (str o.to)) 72 (rld 9 b1 2 H4) rfl ?_
            refine ogo (Value.bool (o.frm == o.to)) 73 (Runs.streq (t := 9) (by kernel_rfl)) rfl ?_
            refine ogd 2 [(2, i64 0), (66, .bool (o.frm == o.to))] ?_
            refine qcQ 66 (o.frm == o.to) rfl (fun h138 => ?_) (fun h138 => ?_)
            ·rw [h138]
             have p139 : (o.frm == o.to) = true := h138
             refine qsg ?_
             refine ogd 1 [(2, i64 44)] ?_
             refine qtQ ?_
             refine ⟨(i64 44), retv_tmp rfl rfl, ?_⟩
             have e : wrongE o = 44 := by unfold wrongE; rw [if_neg (by omega), if_neg (by omega), if_neg (by omega), if_neg (ne_of_t (by assumption)), if_neg (by omega), if_neg (ne_of_t (by assumption)), if_neg (by omega), if_neg (and_ne_of_t (by assumption)), if_neg (by omega), if_pos ⟨by omega, by first | exact beq_true_eq (by assumption) | exact (beq_true_eq (by assumption)).symm⟩]
             exact ⟨by rw [e], K0⟩
            ·rw [h138]
             have p140 : (o.frm == o.to) = false := h138
             refine qkQ ?_
             refine qsg ?_
             refine ogd 1 [(2, i64 0)] ?_
             refine qtQ ?_
             refine ⟨(i64 0), retv_tmp rfl rfl, ?_⟩
             have e : wrongE o = 0 := by unfold wrongE; rw [if_neg (by omega), if_neg (by omega), if_neg (by omega), if_neg (ne_of_t (by assumption)), if_neg (by omega), if_neg (ne_of_t (by assumption)), if_neg (by omega), if_neg (and_ne_of_t (by assumption)), if_neg (by omega), if_neg (and_ne (by first | exact beq_false_ne (by assumption) | exact fun h => beq_false_ne (by assumption) h.symm))]
             exact ⟨by rw [e], K0⟩
      ·rw [h115]
       have p141 := of_beq_f h115
       refine qg ?_
       refine ogd 2 [(1, ptr b1), (2, i64 0), (28, .bool (o.kind == 5))] ?_
       refine qcQ 28 (o.kind == 5) rfl (fun h142 => ?_) (fun h142 => ?_)
       ·rw [h142]
        have p143 := of_beq_t h142
        refine qkQ ?_
        refine qsg ?_
        refine og 1 [(1, ptr b1), (2, i64 0), (34, ptr b1)] 1 ?_
        refine ogo (i64 o.kind) 35 (rld 3 b1 0 H4) rfl ?_
        refine ogd 2 [(1, ptr b1), (2, i64 0), (3, .bool (o.kind == 4))] ?_
        refine qs ?_
        refine q_block (id := 1) (by kernel_rfl) ?_
        refine qsg ?_
        refine og 1 [(1, ptr b1), (2, i64 0), (3, .bool (o.kind == 4)), (38, .pointer (some ⟨b1, 1, none⟩))] 1 ?_
        refine ogo (Value.string (str o.frm)) 39 (rld 9 b1 1 H4) rfl ?_
        refine ocQ 40 (Name_calls _ o.frm) ?_
        rintro _ w145 ⟨rfl, K144⟩
        refine ⟨_, _, rfl, rfl, ?_⟩
        replace K0 := K0.t0 K144
        replace H4 := H4.kn K144
        refine ogd 2 [(1, ptr b1), (2, i64 0), (3, .bool (o.kind == 4)), (37, (Value.bool (!(nameOk o.frm))))] ?_
        refine qcQ 37 (!(nameOk o.frm)) rfl (fun h146 => ?_) (fun h146 => ?_)
        ·rw [h146]
         have p147 := bnot_true h146
         refine qsg ?_
         refine ogd 1 [(1, ptr b1), (2, i64 46), (3, .bool (o.kind == 4))] ?_
         refine qtQ ?_
         refine ⟨(i64 46), retv_tmp rfl rfl, ?_⟩
         have e : wrongE o = 46 := by unfold wrongE; rw [if_neg (by omega), if_neg (by omega), if_neg (by omega), if_pos (by assumption)]
         exact ⟨by rw [e], K0⟩
        ·rw [h146]
         have p148 := bnot_false h146
         refine qsg ?_
         refine og 1 [(1, ptr b1), (2, i64 0), (3, .bool (o.kind == 4)), (43, ptr b1)] 1 ?_
         refine ogo (i64 o.kind) 44 (rld 3 b1 0 H4) rfl ?_
         refine ogd 2 [(1, ptr b1), (2, i64 0), (3, .bool (o.kind == 4)), (42, .bool (o.kind == 5))] ?_
         rw [h142]
         refine q_then (o := .tmp 42) (by kernel_rfl) rfl ?_
         refine qsg ?_
         refine ogd 1 [(1, ptr b1), (2, i64 0), (3, .bool (o.kind == 4))] ?_
         refine qtQ ?_
         refine ⟨(i64 0), retv_tmp rfl rfl, ?_⟩
         have e : wrongE o = 0 := by unfold wrongE; rw [if_neg (by omega), if_neg (by omega), if_neg (by omega), if_neg (ne_of_t (by assumption)), if_pos (by omega)]
         exact ⟨by rw [e], K0⟩
       ·rw [h142]
        have p149 := of_beq_f h142
        refine qsg ?_
        refine ogd 1 [(1, ptr b1), (2, i64 1)] ?_
        refine qtQ ?_
        refine ⟨(i64 1), retv_tmp rfl rfl, ?_⟩
        have e : wrongE o = 1 := by unfold wrongE; rw [if_neg (by omega), if_neg (by omega), if_pos (by omega)]
        exact ⟨by rw [e], K0⟩
end Go.Proofs.YtnbcghbgeiocbaaDoor
namespace Go.Q
open Go.RowKit
abbrev GetF := List UInt8 → Option RowM
def actEg (g : GetF) (o : Opm) : Int :=
 if o.kind = 1 then (if (g o.frm).isSome then 41 else 0)
 else match g o.frm with
  | none => 40
  | some a =>
   if o.kind = 2 then (if 9223372036854775807 - o.amount < a.amount then 43 else 0)
   else if a.amount < o.amount then 42
   else if o.kind = 4 then (match g o.to with | none => 40 | some b => if 9223372036854775807 - o.amount < b.amount then 43 else 0)
   else 0
def actG (g : GetF) (o : Opm) (n : List UInt8) : Option RowM :=
 if o.kind = 1 then (if (g o.frm).isSome then g n else if n = o.frm then some ⟨o.frm, 0⟩ else g n)
 else match g o.frm with
  | none => g n
  | some a =>
   if o.kind = 2 then (if 9223372036854775807 - o.amount < a.amount then g n else if n = o.frm then some ⟨o.frm, a.amount + o.amount⟩ else g n)
   else if a.amount < o.amount then g n
   else if o.kind = 4 then (match g o.to with
    | none => g n
    | some b => if 9223372036854775807 - o.amount < b.amount then g n else if n = o.frm then some ⟨o.frm, a.amount - o.amount⟩ else if n = o.to then some ⟨o.to, b.amount + o.amount⟩ else g n)
   else if n = o.frm then some ⟨o.frm, a.amount - o.amount⟩ else g n
def FootP (o : Opm) (n : List UInt8) : Prop := n = o.frm ∨ o.kind = 4 ∧ n = o.to
structure ApartOps (p q : Opm) : Prop where
 ff : p.frm ≠ q.frm
 ft : p.frm ≠ q.to
 tf : p.to ≠ q.frm
 tt : ¬ (p.to = q.to ∧ p.to ≠ [])
theorem ApartOps.symm {p q : Opm} (h : ApartOps p q) : ApartOps q p := ⟨h.ff.symm, h.tf.symm, h.ft.symm, fun e => h.tt ⟨e.1.symm, by rw [← e.1]; exact e.2⟩⟩
end Go.Q
