/- the reference's names -/
import Derived.Test.YtooginpgclcldaaGreatDoorProg
import Derived.Test.YtooginpgclcldaaGreatDoorKA
import Derived.Test.YtooginpgclcldaaGreatDoorOE
import Derived.Test.YtooginpgclcldaaGreatDoorLX
set_option linter.unusedVariables false
namespace Go.Proofs.YtooginpgclcldaaGreatDoor
open Go.Q Go.RowKit

theorem RName_calls (w : World) (n : List UInt8)  : Calls Tryz.prog 80 ⟨[(Value.string (str n))]⟩ w (fun e w' => e = .returned (.bool (nameOk n)) ∧ Keeps none_ w w') := by
 have K0 : Keeps none_ w w := Keeps.refl w
 refine q_calls Tryz.func80 (by kernel_rfl) (by kernel_rfl) ?_
 refine qs ?_
 refine qg ?_
 refine og 1 [(0, (Value.string (str n))), (2, (Value.bool false))] 1 ?_
 refine od ?_
 refine qs ?_
 refine qs ?_
 refine qg ?_
 refine og 4 [(0, (Value.string (str n))), (2, (Value.bool false)), (8, (Value.bool (decide (((n.length : Nat) : Int) < 1))))] 4 ?_
 refine Ops.split (decide (((n.length : Nat) : Int) < 1)) (fun h1 => ?_) (fun h1 => ?_)
 ·rw [h1]
  have p2 : ((n.length : Nat) : Int) < 1 := of_decide_eq_true h1
  refine og 4 [(0, (Value.string (str n))), (2, (Value.bool false)), (12, (Value.bool true))] 8 ?_
  refine od ?_
  refine q_then (o := .tmp 12) (by kernel_rfl) rfl ?_
  refine qs ?_
  refine qg ?_
  refine og 1 [(0, (Value.string (str n))), (2, (Value.bool false))] 1 ?_
  refine od ?_
  refine q_ret (by kernel_rfl) ?_
  refine ⟨(Value.bool false), retv_tmp rfl rfl, ?_⟩
  have e : nameOk n = false := by exact name_short (by omega)
  exact ⟨by rw [e], K0⟩
 ·rw [h1]
  have p3 : ¬ (((n.length : Nat) : Int) < 1) := of_decide_eq_false h1
  refine og 4 [(0, (Value.string (str n))), (2, (Value.bool false)), (12, (Value.bool (decide (((n.length : Nat) : Int) > 24))))] 8 ?_
  refine od ?_
  refine q_cond (o := .tmp 12) (b := (decide (((n.length : Nat) : Int) > 24))) (by kernel_rfl) rfl (fun h4 => ?_) (fun h4 => ?_)
  ·rw [h4]
   have p5 : ((n.length : Nat) : Int) > 24 := of_decide_eq_true h4
   refine qs ?_
   refine qg ?_
   refine og 1 [(0, (Value.string (str n))), (2, (Value.bool false))] 1 ?_
   refine od ?_
   refine q_ret (by kernel_rfl) ?_
   refine ⟨(Value.bool false), retv_tmp rfl rfl, ?_⟩
   have e : nameOk n = false := by exact name_short (by omega)
   exact ⟨by rw [e], K0⟩
  ·rw [h4]
   have p6 : ¬ (((n.length : Nat) : Int) > 24) := of_decide_eq_false h4
   refine q_skip (by kernel_rfl) ?_
   refine qs ?_
   refine qs ?_
   refine qg ?_
   refine og 1 [(0, (Value.string (str n))), (2, (Value.bool false)), (3, (i64 0))] 1 ?_
   refine od ?_
   refine q_block (id := 0) (by kernel_rfl) ?_
   refine q_keep (R := [(0, (Value.string (str n))), (3, (i64 0))]) (by kernel_rfl) ?_
   refine q_loop (fun (i : Nat) L (wx : World) => L = [(0, (Value.string (str n))), (3, (i64 ((i : Nat) : Int)))] ∧ (n.drop i).all letterB = n.all letterB ∧ i ≤ n.length ∧ Keeps none_ w wx) (fun (i : Nat) => n.length - i) 0 (by kernel_rfl) ⟨rfl, rfl, Nat.zero_le _, K0⟩ ?_
   clear K0
   rintro i _ w7 ⟨rfl, hE, hi, K8⟩
   refine qs ?_
   refine qs ?_
   refine qg ?_
   refine og 4 [(0, (Value.string (str n))), (3, (i64 ((i : Nat) : Int))), (16, (Value.bool (decide (((i : Nat) : Int) < ((n.length : Nat) : Int)))))] 4 ?_
   refine od ?_
   refine q_cond (o := .tmp 16) (b := (decide (((i : Nat) : Int) < ((n.length : Nat) : Int)))) (by kernel_rfl) rfl (fun h9 => ?_) (fun h9 => ?_)
   ·rw [h9]
    have p10 : ((i : Nat) : Int) < ((n.length : Nat) : Int) := of_decide_eq_true h9
    obtain ⟨x, hx⟩ : ∃ y, n[i]? = some y := ⟨_, List.getElem?_eq_getElem (by omega)⟩
    have had := all_drop hx
    refine q_skip (by kernel_rfl) ?_
    refine qs ?_
    refine q_block (id := 1) (by kernel_rfl) ?_
    refine qs ?_
    refine qg ?_
    refine og 2 [(0, (Value.string (str n))), (3, (i64 ((i : Nat) : Int))), (16, (Value.bool true)), (19, (Value.string (str n))), (20, (i64 ((i : Nat) : Int)))] 2 ?_
    refine Ops.go (v := (Value.int IntKind.u8 ((x.toNat : Nat) : Int))) (by kernel_rfl) (Runs.of_index (by kernel_rfl) (run_index_str Tryz.underlying9 hx .i64)) (d := (some 21)) (by kernel_rfl) rfl ?_
    refine og 1 [(0, (Value.string (str n))), (3, (i64 ((i : Nat) : Int))), (4, (Value.int IntKind.u8 ((x.toNat : Nat) : Int))), (16, (Value.bool true))] 4 ?_
    refine od ?_
    refine qs ?_
    refine qg ?_
    refine og 3 [(0, (Value.string (str n))), (3, (i64 ((i : Nat) : Int))), (4, (Value.int IntKind.u8 ((x.toNat : Nat) : Int))), (16, (Value.bool true)), (24, (Value.bool (decide (((x.toNat : Nat) : Int) ≥ 97))))] 3 ?_
    refine Ops.split (decide (((x.toNat : Nat) : Int) ≥ 97)) (fun h11 => ?_) (fun h11 => ?_)
    ·rw [h11]
     have p12 : ((x.toNat : Nat) : Int) ≥ 97 := of_decide_eq_true h11
     refine og 4 [(0, (Value.string (str n))), (3, (i64 ((i : Nat) : Int))), (4, (Value.int IntKind.u8 ((x.toNat : Nat) : Int))), (16, (Value.bool true)), (28, (Value.bool (decide (((x.toNat : Nat) : Int) ≤ 122))))] 7 ?_
     refine Ops.split (decide (((x.toNat : Nat) : Int) ≤ 122)) (fun h13 => ?_) (fun h13 => ?_)
     ·rw [h13]
      have p14 : ((x.toNat : Nat) : Int) ≤ 122 := of_decide_eq_true h13
      refine og 12 [(0, (Value.string (str n))), (3, (i64 ((i : Nat) : Int))), (4, (Value.int IntKind.u8 ((x.toNat : Nat) : Int))), (16, (Value.bool true)), (40, (Value.bool false))] 19 ?_
      refine od ?_
      refine q_else (o := .tmp 40) (by kernel_rfl) rfl ?_
      refine q_skip (by kernel_rfl) ?_
      refine qg ?_
      refine og 2 [(0, (Value.string (str n))), (3, (i64 ((i : Nat) : Int))), (4, (Value.int IntKind.u8 ((x.toNat : Nat) : Int))), (16, (Value.bool true)), (18, (i64 (IntKind.i64.wrap (((i : Nat) : Int) + 1)))), (40, (Value.bool false))] 2 ?_
      have e15 : IntKind.i64.wrap (((i : Nat) : Int) + 1) = ((i + 1 : Nat) : Int) := by rw [wrap_i64 (by omega) (by omega)]; omega
      rw [e15]
      clear e15
      refine og 1 [(0, (Value.string (str n))), (3, (i64 ((i + 1 : Nat) : Int))), (4, (Value.int IntKind.u8 ((x.toNat : Nat) : Int))), (16, (Value.bool true)), (40, (Value.bool false))] 3 ?_
      refine Ops.keep (R := [(0, (Value.string (str n))), (3, (i64 ((i + 1 : Nat) : Int)))]) (by kernel_rfl) ?_
      refine od ?_
      exact ⟨i + 1, ⟨rfl, (by rw [← hE, had, letterB_t (by omega), Bool.true_and]), (by omega), K8⟩, (show n.length - (i + 1) < n.length - i from by omega)⟩
     ·rw [h13]
      have p16 : ¬ (((x.toNat : Nat) : Int) ≤ 122) := of_decide_eq_false h13
      refine og 3 [(0, (Value.string (str n))), (3, (i64 ((i : Nat) : Int))), (4, (Value.int IntKind.u8 ((x.toNat : Nat) : Int))), (16, (Value.bool true)), (28, (Value.bool false)), (31, (Value.bool (decide (((x.toNat : Nat) : Int) ≥ 48))))] 10 ?_
      refine Ops.split (decide (((x.toNat : Nat) : Int) ≥ 48)) (fun h17 => ?_) (fun h17 => ?_)
      ·rw [h17]
       have p18 : ((x.toNat : Nat) : Int) ≥ 48 := of_decide_eq_true h17
       refine og 5 [(0, (Value.string (str n))), (3, (i64 ((i : Nat) : Int))), (4, (Value.int IntKind.u8 ((x.toNat : Nat) : Int))), (16, (Value.bool true)), (36, (Value.bool (decide (((x.toNat : Nat) : Int) ≤ 57))))] 15 ?_
       refine Ops.split (decide (((x.toNat : Nat) : Int) ≤ 57)) (fun h19 => ?_) (fun h19 => ?_)
       ·rw [h19]
        have p20 : ((x.toNat : Nat) : Int) ≤ 57 := of_decide_eq_true h19
        refine og 4 [(0, (Value.string (str n))), (3, (i64 ((i : Nat) : Int))), (4, (Value.int IntKind.u8 ((x.toNat : Nat) : Int))), (16, (Value.bool true)), (40, (Value.bool false))] 19 ?_
        refine od ?_
        refine q_else (o := .tmp 40) (by kernel_rfl) rfl ?_
        refine q_skip (by kernel_rfl) ?_
        refine qg ?_
        refine og 2 [(0, (Value.string (str n))), (3, (i64 ((i : Nat) : Int))), (4, (Value.int IntKind.u8 ((x.toNat : Nat) : Int))), (16, (Value.bool true)), (18, (i64 (IntKind.i64.wrap (((i : Nat) : Int) + 1)))), (40, (Value.bool false))] 2 ?_
        have e21 : IntKind.i64.wrap (((i : Nat) : Int) + 1) = ((i + 1 : Nat) : Int) := by rw [wrap_i64 (by omega) (by omega)]; omega
        rw [e21]
        clear e21
        refine og 1 [(0, (Value.string (str n))), (3, (i64 ((i + 1 : Nat) : Int))), (4, (Value.int IntKind.u8 ((x.toNat : Nat) : Int))), (16, (Value.bool true)), (40, (Value.bool false))] 3 ?_
        refine Ops.keep (R := [(0, (Value.string (str n))), (3, (i64 ((i + 1 : Nat) : Int)))]) (by kernel_rfl) ?_
        refine od ?_
        exact ⟨i + 1, ⟨rfl, (by rw [← hE, had, letterB_t (by omega), Bool.true_and]), (by omega), K8⟩, (show n.length - (i + 1) < n.length - i from by omega)⟩
       ·rw [h19]
        have p22 : ¬ (((x.toNat : Nat) : Int) ≤ 57) := of_decide_eq_false h19
        refine og 4 [(0, (Value.string (str n))), (3, (i64 ((i : Nat) : Int))), (4, (Value.int IntKind.u8 ((x.toNat : Nat) : Int))), (16, (Value.bool true)), (40, (Value.bool (!(((x.toNat : Nat) : Int) == 95))))] 19 ?_
        refine od ?_
        refine q_cond (o := .tmp 40) (b := (!(((x.toNat : Nat) : Int) == 95))) (by kernel_rfl) rfl (fun h23 => ?_) (fun h23 => ?_)
        ·rw [h23]
         have p24 : ¬ (((x.toNat : Nat) : Int) = 95) := of_beq_f (bnot_true h23)
         refine qs ?_
         refine qg ?_
         refine og 1 [(0, (Value.string (str n))), (2, (Value.bool false)), (3, (i64 ((i : Nat) : Int))), (4, (Value.int IntKind.u8 ((x.toNat : Nat) : Int))), (16, (Value.bool true)), (40, (Value.bool true))] 1 ?_
         refine od ?_
         refine q_ret (by kernel_rfl) ?_
         refine ⟨(Value.bool false), retv_tmp rfl rfl, ?_⟩
         have e : nameOk n = false := by rw [name_all (by omega), ← hE, had, letterB_f (by omega), Bool.false_and]
         exact ⟨by rw [e], K8⟩
        ·rw [h23]
         have p25 : ((x.toNat : Nat) : Int) = 95 := of_beq_t (bnot_false h23)
         refine q_skip (by kernel_rfl) ?_
         refine qg ?_
         refine og 2 [(0, (Value.string (str n))), (3, (i64 ((i : Nat) : Int))), (4, (Value.int IntKind.u8 ((x.toNat : Nat) : Int))), (16, (Value.bool true)), (18, (i64 (IntKind.i64.wrap (((i : Nat) : Int) + 1)))), (40, (Value.bool false))] 2 ?_
         have e26 : IntKind.i64.wrap (((i : Nat) : Int) + 1) = ((i + 1 : Nat) : Int) := by rw [wrap_i64 (by omega) (by omega)]; omega
         rw [e26]
         clear e26
         refine og 1 [(0, (Value.string (str n))), (3, (i64 ((i + 1 : Nat) : Int))), (4, (Value.int IntKind.u8 ((x.toNat : Nat) : Int))), (16, (Value.bool true)), (40, (Value.bool false))] 3 ?_
         refine Ops.keep (R := [(0, (Value.string (str n))), (3, (i64 ((i + 1 : Nat) : Int)))]) (by kernel_rfl) ?_
         refine od ?_
         exact ⟨i + 1, ⟨rfl, (by rw [← hE, had, letterB_t (by omega), Bool.true_and]), (by omega), K8⟩, (show n.length - (i + 1) < n.length - i from by omega)⟩
      ·rw [h17]
       have p27 : ¬ (((x.toNat : Nat) : Int) ≥ 48) := of_decide_eq_false h17
       refine og 9 [(0, (Value.string (str n))), (3, (i64 ((i : Nat) : Int))), (4, (Value.int IntKind.u8 ((x.toNat : Nat) : Int))), (16, (Value.bool true)), (40, (Value.bool (!(((x.toNat : Nat) : Int) == 95))))] 19 ?_
       refine od ?_
       refine q_cond (o := .tmp 40) (b := (!(((x.toNat : Nat) : Int) == 95))) (by kernel_rfl) rfl (fun h28 => ?_) (fun h28 => ?_)
       ·rw [h28]
        have p29 : ¬ (((x.toNat : Nat) : Int) = 95) := of_beq_f (bnot_true h28)
        refine qs ?_
        refine qg ?_
        refine og 1 [(0, (Value.string (str n))), (2, (Value.bool false)), (3, (i64 ((i : Nat) : Int))), (4, (Value.int IntKind.u8 ((x.toNat : Nat) : Int))), (16, (Value.bool true)), (40, (Value.bool true))] 1 ?_
        refine od ?_
        refine q_ret (by kernel_rfl) ?_
        refine ⟨(Value.bool false), retv_tmp rfl rfl, ?_⟩
        have e : nameOk n = false := by rw [name_all (by omega), ← hE, had, letterB_f (by omega), Bool.false_and]
        exact ⟨by rw [e], K8⟩
       ·rw [h28]
        have p30 : ((x.toNat : Nat) : Int) = 95 := of_beq_t (bnot_false h28)
        refine q_skip (by kernel_rfl) ?_
        refine qg ?_
        refine og 2 [(0, (Value.string (str n))), (3, (i64 ((i : Nat) : Int))), (4, (Value.int IntKind.u8 ((x.toNat : Nat) : Int))), (16, (Value.bool true)), (18, (i64 (IntKind.i64.wrap (((i : Nat) : Int) + 1)))), (40, (Value.bool false))] 2 ?_
        have e31 : IntKind.i64.wrap (((i : Nat) : Int) + 1) = ((i + 1 : Nat) : Int) := by rw [wrap_i64 (by omega) (by omega)]; omega
        rw [e31]
        clear e31
        refine og 1 [(0, (Value.string (str n))), (3, (i64 ((i + 1 : Nat) : Int))), (4, (Value.int IntKind.u8 ((x.toNat : Nat) : Int))), (16, (Value.bool true)), (40, (Value.bool false))] 3 ?_
        refine Ops.keep (R := [(0, (Value.string (str n))), (3, (i64 ((i + 1 : Nat) : Int)))]) (by kernel_rfl) ?_
        refine od ?_
        exact ⟨i + 1, ⟨rfl, (by rw [← hE, had, letterB_t (by omega), Bool.true_and]), (by omega), K8⟩, (show n.length - (i + 1) < n.length - i from by omega)⟩
    ·rw [h11]
     have p32 : ¬ (((x.toNat : Nat) : Int) ≥ 97) := of_decide_eq_false h11
     refine og 7 [(0, (Value.string (str n))), (3, (i64 ((i : Nat) : Int))), (4, (Value.int IntKind.u8 ((x.toNat : Nat) : Int))), (16, (Value.bool true)), (28, (Value.bool false)), (31, (Value.bool (decide (((x.toNat : Nat) : Int) ≥ 48))))] 10 ?_
     refine Ops.split (decide (((x.toNat : Nat) : Int) ≥ 48)) (fun h33 => ?_) (fun h33 => ?_)
     ·rw [h33]
      have p34 : ((x.toNat : Nat) : Int) ≥ 48 := of_decide_eq_true h33
      refine og 5 [(0, (Value.string (str n))), (3, (i64 ((i : Nat) : Int))), (4, (Value.int IntKind.u8 ((x.toNat : Nat) : Int))), (16, (Value.bool true)), (36, (Value.bool (decide (((x.toNat : Nat) : Int) ≤ 57))))] 15 ?_
      refine Ops.split (decide (((x.toNat : Nat) : Int) ≤ 57)) (fun h35 => ?_) (fun h35 => ?_)
      ·rw [h35]
       have p36 : ((x.toNat : Nat) : Int) ≤ 57 := of_decide_eq_true h35
       refine og 4 [(0, (Value.string (str n))), (3, (i64 ((i : Nat) : Int))), (4, (Value.int IntKind.u8 ((x.toNat : Nat) : Int))), (16, (Value.bool true)), (40, (Value.bool false))] 19 ?_
       refine od ?_
       refine q_else (o := .tmp 40) (by kernel_rfl) rfl ?_
       refine q_skip (by kernel_rfl) ?_
       refine qg ?_
       refine og 2 [(0, (Value.string (str n))), (3, (i64 ((i : Nat) : Int))), (4, (Value.int IntKind.u8 ((x.toNat : Nat) : Int))), (16, (Value.bool true)), (18, (i64 (IntKind.i64.wrap (((i : Nat) : Int) + 1)))), (40, (Value.bool false))] 2 ?_
       have e37 : IntKind.i64.wrap (((i : Nat) : Int) + 1) = ((i + 1 : Nat) : Int) := by rw [wrap_i64 (by omega) (by omega)]; omega
       rw [e37]
       clear e37
       refine og 1 [(0, (Value.string (str n))), (3, (i64 ((i + 1 : Nat) : Int))), (4, (Value.int IntKind.u8 ((x.toNat : Nat) : Int))), (16, (Value.bool true)), (40, (Value.bool false))] 3 ?_
       refine Ops.keep (R := [(0, (Value.string (str n))), (3, (i64 ((i + 1 : Nat) : Int)))]) (by kernel_rfl) ?_
       refine od ?_
       exact ⟨i + 1, ⟨rfl, (by rw [← hE, had, letterB_t (by omega), Bool.true_and]), (by omega), K8⟩, (show n.length - (i + 1) < n.length - i from by omega)⟩
      ·rw [h35]
       have p38 : ¬ (((x.toNat : Nat) : Int) ≤ 57) := of_decide_eq_false h35
       refine og 4 [(0, (Value.string (str n))), (3, (i64 ((i : Nat) : Int))), (4, (Value.int IntKind.u8 ((x.toNat : Nat) : Int))), (16, (Value.bool true)), (40, (Value.bool (!(((x.toNat : Nat) : Int) == 95))))] 19 ?_
       refine od ?_
       refine q_cond (o := .tmp 40) (b := (!(((x.toNat : Nat) : Int) == 95))) (by kernel_rfl) rfl (fun h39 => ?_) (fun h39 => ?_)
       ·rw [h39]
        have p40 : ¬ (((x.toNat : Nat) : Int) = 95) := of_beq_f (bnot_true h39)
        refine qs ?_
        refine qg ?_
        refine og 1 [(0, (Value.string (str n))), (2, (Value.bool false)), (3, (i64 ((i : Nat) : Int))), (4, (Value.int IntKind.u8 ((x.toNat : Nat) : Int))), (16, (Value.bool true)), (40, (Value.bool true))] 1 ?_
        refine od ?_
        refine q_ret (by kernel_rfl) ?_
        refine ⟨(Value.bool false), retv_tmp rfl rfl, ?_⟩
        have e : nameOk n = false := by rw [name_all (by omega), ← hE, had, letterB_f (by omega), Bool.false_and]
        exact ⟨by rw [e], K8⟩
       ·rw [h39]
        have p41 : ((x.toNat : Nat) : Int) = 95 := of_beq_t (bnot_false h39)
        refine q_skip (by kernel_rfl) ?_
        refine qg ?_
        refine og 2 [(0, (Value.string (str n))), (3, (i64 ((i : Nat) : Int))), (4, (Value.int IntKind.u8 ((x.toNat : Nat) : Int))), (16, (Value.bool true)), (18, (i64 (IntKind.i64.wrap (((i : Nat) : Int) + 1)))), (40, (Value.bool false))] 2 ?_
        have e42 : IntKind.i64.wrap (((i : Nat) : Int) + 1) = ((i + 1 : Nat) : Int) := by rw [wrap_i64 (by omega) (by omega)]; omega
        rw [e42]
        clear e42
        refine og 1 [(0, (Value.string (str n))), (3, (i64 ((i + 1 : Nat) : Int))), (4, (Value.int IntKind.u8 ((x.toNat : Nat) : Int))), (16, (Value.bool true)), (40, (Value.bool false))] 3 ?_
        refine Ops.keep (R := [(0, (Value.string (str n))), (3, (i64 ((i + 1 : Nat) : Int)))]) (by kernel_rfl) ?_
        refine od ?_
        exact ⟨i + 1, ⟨rfl, (by rw [← hE, had, letterB_t (by omega), Bool.true_and]), (by omega), K8⟩, (show n.length - (i + 1) < n.length - i from by omega)⟩
     ·rw [h33]
      have p43 : ¬ (((x.toNat : Nat) : Int) ≥ 48) := of_decide_eq_false h33
      refine og 9 [(0, (Value.string (str n))), (3, (i64 ((i : Nat) : Int))), (4, (Value.int IntKind.u8 ((x.toNat : Nat) : Int))), (16, (Value.bool true)), (40, (Value.bool (!(((x.toNat : Nat) : Int) == 95))))] 19 ?_
      refine od ?_
      refine q_cond (o := .tmp 40) (b := (!(((x.toNat : Nat) : Int) == 95))) (by kernel_rfl) rfl (fun h44 => ?_) (fun h44 => ?_)
      ·rw [h44]
       have p45 : ¬ (((x.toNat : Nat) : Int) = 95) := of_beq_f (bnot_true h44)
       refine qs ?_
       refine qg ?_
       refine og 1 [(0, (Value.string (str n))), (2, (Value.bool false)), (3, (i64 ((i : Nat) : Int))), (4, (Value.int IntKind.u8 ((x.toNat : Nat) : Int))), (16, (Value.bool true)), (40, (Value.bool true))] 1 ?_
       refine od ?_
       refine q_ret (by kernel_rfl) ?_
       refine ⟨(Value.bool false), retv_tmp rfl rfl, ?_⟩
       have e : nameOk n = false := by rw [name_all (by omega), ← hE, had, letterB_f (by omega), Bool.false_and]
       exact ⟨by rw [e], K8⟩
      ·rw [h44]
       have p46 : ((x.toNat : Nat) : Int) = 95 := of_beq_t (bnot_false h44)
       refine q_skip (by kernel_rfl) ?_
       refine qg ?_
       refine og 2 [(0, (Value.string (str n))), (3, (i64 ((i : Nat) : Int))), (4, (Value.int IntKind.u8 ((x.toNat : Nat) : Int))), (16, (Value.bool true)), (18, (i64 (IntKind.i64.wrap (((i : Nat) : Int) + 1)))), (40, (Value.bool false))] 2 ?_
       have e47 : IntKind.i64.wrap (((i : Nat) : Int) + 1) = ((i + 1 : Nat) : Int) := by rw [wrap_i64 (by omega) (by omega)]; omega
       rw [e47]
       clear e47
       refine og 1 [(0, (Value.string (str n))), (3, (i64 ((i + 1 : Nat) : Int))), (4, (Value.int IntKind.u8 ((x.toNat : Nat) : Int))), (16, (Value.bool true)), (40, (Value.bool false))] 3 ?_
       refine Ops.keep (R := [(0, (Value.string (str n))), (3, (i64 ((i + 1 : Nat) : Int)))]) (by kernel_rfl) ?_
       refine od ?_
       exact ⟨i + 1, ⟨rfl, (by rw [← hE, had, letterB_t (by omega), Bool.true_and]), (by omega), K8⟩, (show n.length - (i + 1) < n.length - i from by omega)⟩
   ·rw [h9]
    have p48 : ¬ (((i : Nat) : Int) < ((n.length : Nat) : Int)) := of_decide_eq_false h9
    refine q_exit (id := 0) (by kernel_rfl) ?_
    refine qs ?_
    refine qg ?_
    refine og 1 [(2, (Value.bool true))] 1 ?_
    refine od ?_
    refine q_ret (by kernel_rfl) ?_
    refine ⟨(Value.bool true), retv_tmp rfl rfl, ?_⟩
    have e : nameOk n = true := by rw [name_all (by omega), ← hE, List.drop_of_length_le (by omega)]; rfl
    exact ⟨by rw [e], K8⟩
end Go.Proofs.YtooginpgclcldaaGreatDoor
