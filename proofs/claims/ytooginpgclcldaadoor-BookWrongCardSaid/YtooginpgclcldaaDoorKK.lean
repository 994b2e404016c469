/- what is wrong of an operation, on both sides -/
import Derived.Test.YtooginpgclcldaaDoorProg
import Derived.Test.YtooginpgclcldaaDoorKA
import Derived.Test.YtooginpgclcldaaDoorOE
import Derived.Test.YtooginpgclcldaaDoorLX
set_option linter.unusedVariables false
namespace Go.Proofs.YtooginpgclcldaaDoor
open Go.Q Go.RowKit

theorem RName_calls (w : World) (n : List UInt8)  : Calls Tryd.prog 18 ⟨[(Value.string (str n))]⟩ w (fun e w' => e = .returned (.bool (nameOk n)) ∧ Keeps none_ w w') := by
 have K0 : Keeps none_ w w := Keeps.refl w
 refine q_calls Tryd.func18 (by kernel_rfl) (by kernel_rfl) ?_
 refine qs ?_
 refine qg ?_
 refine og 1 [(0, (Value.string (str n))), (2, (Value.bool false))] 1 ?_
 refine od ?_
 refine qs ?_
 refine qs ?_
 refine qg ?_
 refine og 4 [(0, (Value.string (str n))), (2, (Value.bool false)), (8, (Value.bool (decide (((n.length : Nat) : Int) < 1))))] 4 ?_
 refine Ops.split (decide (((n.length : Nat) : Int) < 1)) (fun h1 => ?_) (fun h1 => ?_)
 ·rw [h1]
  have p2 : ((n.length : Nat) : Int) < 1 := of_decide_eq_true h1
  refine og 4 [(0, (Value.string (str n))), (2, (Value.bool false)), (12, (Value.bool true))] 8 ?_
  refine od ?_
  refine q_then (o := .tmp 12) (by kernel_rfl) rfl ?_
  refine qs ?_
  refine qg ?_
  refine og 1 [(0, (Value.string (str n))), (2, (Value.bool false))] 1 ?_
  refine od ?_
  refine q_ret (by kernel_rfl) ?_
  refine ⟨(Value.bool false), retv_tmp rfl rfl, ?_⟩
  have e : nameOk n = false := by exact name_short (by omega)
  exact ⟨by rw [e], K0⟩
 ·rw [h1]
  have p3 : ¬ (((n.length : Nat) : Int) < 1) := of_decide_eq_false h1
  refine og 4 [(0, (Value.string (str n))), (2, (Value.bool false)), (12, (Value.bool (decide (((n.length : Nat) : Int) > 24))))] 8 ?_
  refine od ?_
  refine q_cond (o := .tmp 12) (b := (decide (((n.length : Nat) : Int) > 24))) (by kernel_rfl) rfl (fun h4 => ?_) (fun h4 => ?_)
  ·rw [h4]
   have p5 : ((n.length : Nat) : Int) > 24 := of_decide_eq_true h4
   refine qs ?_
   refine qg ?_
   refine og 1 [(0, (Value.string (str n))), (2, (Value.bool false))] 1 ?_
   refine od ?_
   refine q_ret (by kernel_rfl) ?_
   refine ⟨(Value.bool false), retv_tmp rfl rfl, ?_⟩
   have e : nameOk n = false := by exact name_short (by omega)
   exact ⟨by rw [e], K0⟩
  ·rw [h4]
   have p6 : ¬ (((n.length : Nat) : Int) > 24) := of_decide_eq_false h4
   refine q_skip (by kernel_rfl) ?_
   refine qs ?_
   refine qs ?_
   refine qg ?_
   refine og 1 [(0, (Value.string (str n))), (2, (Value.bool false)), (3, (i64 0))] 1 ?_
   refine od ?_
   refine q_block (id := 0) (by kernel_rfl) ?_
   refine q_keep (R := [(0, (Value.string (str n))), (3, (i64 0))]) (by kernel_rfl) ?_
   refine q_loop (fun (i : Nat) L (wx : World) => L = [(0, (Value.string (str n))), (3, (i64 ((i : Nat) : Int)))] ∧ (n.drop i).all letterB = n.all letterB ∧ i ≤ n.length ∧ Keeps none_ w wx) (fun (i : Nat) => n.length - i) 0 (by kernel_rfl) ⟨rfl, rfl, Nat.zero_le _, K0⟩ ?_
   clear K0
   rintro i _ w7 ⟨rfl, hE, hi, K8⟩
   refine qs ?_
   refine qs ?_
   refine qg ?_
   refine og 4 [(0, (Value.string (str n))), (3, (i64 ((i : Nat) : Int))), (16, (Value.bool (decide (((i : Nat) : Int) < ((n.length : Nat) : Int)))))] 4 ?_
   refine od ?_
   refine q_cond (o := .tmp 16) (b := (decide (((i : Nat) : Int) < ((n.length : Nat) : Int)))) (by kernel_rfl) rfl (fun h9 => ?_) (fun h9 => ?_)
   ·rw [h9]
    have p10 : ((i : Nat) : Int) < ((n.length : Nat) : Int) := of_decide_eq_true h9
    obtain ⟨x, hx⟩ : ∃ y, n[i]? = some y := ⟨_, List.getElem?_eq_getElem (by omega)⟩
    have had := all_drop hx
    refine q_skip (by kernel_rfl) ?_
    refine qs ?_
    refine q_block (id := 1) (by kernel_rfl) ?_
    refine qs ?_
    refine qg ?_
    refine og 2 [(0, (Value.string (str n))), (3, (i64 ((i : Nat) : Int))), (16, (Value.bool true)), (19, (Value.string (str n))), (20, (i64 ((i : Nat) : Int)))] 2 ?_
    refine Ops.go (v := (Value.int IntKind.u8 ((x.toNat : Nat) : Int))) (by kernel_rfl) (Runs.of_index (by kernel_rfl) (run_index_str Tryd.underlying9 hx .i64)) (d := (some 21)) (by kernel_rfl) rfl ?_
    refine og 1 [(0, (Value.string (str n))), (3, (i64 ((i : Nat) : Int))), (4, (Value.int IntKind.u8 ((x.toNat : Nat) : Int))), (16, (Value.bool true))] 4 ?_
    refine od ?_
    refine qs ?_
    refine qg ?_
    refine og 3 [(0, (Value.string (str n))), (3, (i64 ((i : Nat) : Int))), (4, (Value.int IntKind.u8 ((x.toNat : Nat) : Int))), (16, (Value.bool true)), (24, (Value.bool (decide (((x.toNat : Nat) : Int) ≥ 97))))] 3 ?_
    refine Ops.split (decide (((x.toNat : Nat) : Int) ≥ 97)) (fun h11 => ?_) (fun h11 => ?_)
    ·rw [h11]
     have p12 : ((x.toNat : Nat) : Int) ≥ 97 := of_decide_eq_true h11
     refine og 4 [(0, (Value.string (str n))), (3, (i64 ((i : Nat) : Int))), (4, (Value.int IntKind.u8 ((x.toNat : Nat) : Int))), (16, (Value.bool true)), (28, (Value.bool (decide (((x.toNat : Nat) : Int) ≤ 122))))] 7 ?_
     refine Ops.split (decide (((x.toNat : Nat) : Int) ≤ 122)) (fun h13 => ?_) (fun h13 => ?_)
     ·rw [h13]
      have p14 : ((x.toNat : Nat) : Int) ≤ 122 := of_decide_eq_true h13
      refine og 12 [(0, (Value.string (str n))), (3, (i64 ((i : Nat) : Int))), (4, (Value.int IntKind.u8 ((x.toNat : Nat) : Int))), (16, (Value.bool true)), (40, (Value.bool false))] 19 ?_
      refine od ?_
      refine q_else (o := .tmp 40) (by kernel_rfl) rfl ?_
      refine q_skip (by kernel_rfl) ?_
      refine qg ?_
      refine og 2 [(0, (Value.string (str n))), (3, (i64 ((i : Nat) : Int))), (4, (Value.int IntKind.u8 ((x.toNat : Nat) : Int))), (16, (Value.bool true)), (18, (i64 (IntKind.i64.wrap (((i : Nat) : Int) + 1)))), (40, (Value.bool false))] 2 ?_
      have e15 : IntKind.i64.wrap (((i : Nat) : Int) + 1) = ((i + 1 : Nat) : Int) := by rw [wrap_i64 (by omega) (by omega)]; omega
      rw [e15]
      clear e15
      refine og 1 [(0, (Value.string (str n))), (3, (i64 ((i + 1 : Nat) : Int))), (4, (Value.int IntKind.u8 ((x.toNat : Nat) : Int))), (16, (Value.bool true)), (40, (Value.bool false))] 3 ?_
      refine Ops.keep (R := [(0, (Value.string (str n))), (3, (i64 ((i + 1 : Nat) : Int)))]) (by kernel_rfl) ?_
      refine od ?_
      exact ⟨i + 1, ⟨rfl, (by rw [← hE, had, letterB_t (by omega), Bool.true_and]), (by omega), K8⟩, (show n.length - (i + 1) < n.length - i from by omega)⟩
     ·rw [h13]
      have p16 : ¬ (((x.toNat : Nat) : Int) ≤ 122) := of_decide_eq_false h13
      refine og 3 [(0, (Value.string (str n))), (3, (i64 ((i : Nat) : Int))), (4, (Value.int IntKind.u8 ((x.toNat : Nat) : Int))), (16, (Value.bool true)), (28, (Value.bool false)), (31, (Value.bool (decide (((x.toNat : Nat) : Int) ≥ 48))))] 10 ?_
      refine Ops.split (decide (((x.toNat : Nat) : Int) ≥ 48)) (fun h17 => ?_) (fun h17 => ?_)
      ·rw [h17]
       have p18 : ((x.toNat : Nat) : Int) ≥ 48 := of_decide_eq_true h17
       refine og 5 [(0, (Value.string (str n))), (3, (i64 ((i : Nat) : Int))), (4, (Value.int IntKind.u8 ((x.toNat : Nat) : Int))), (16, (Value.bool true)), (36, (Value.bool (decide (((x.toNat : Nat) : Int) ≤ 57))))] 15 ?_
       refine Ops.split (decide (((x.toNat : Nat) : Int) ≤ 57)) (fun h19 => ?_) (fun h19 => ?_)
       ·rw [h19]
        have p20 : ((x.toNat : Nat) : Int) ≤ 57 := of_decide_eq_true h19
        refine og 4 [(0, (Value.string (str n))), (3, (i64 ((i : Nat) : Int))), (4, (Value.int IntKind.u8 ((x.toNat : Nat) : Int))), (16, (Value.bool true)), (40, (Value.bool false))] 19 ?_
        refine od ?_
        refine q_else (o := .tmp 40) (by kernel_rfl) rfl ?_
        refine q_skip (by kernel_rfl) ?_
        refine qg ?_
        refine og 2 [(0, (Value.string (str n))), (3, (i64 ((i : Nat) : Int))), (4, (Value.int IntKind.u8 ((x.toNat : Nat) : Int))), (16, (Value.bool true)), (18, (i64 (IntKind.i64.wrap (((i : Nat) : Int) + 1)))), (40, (Value.bool false))] 2 ?_
        have e21 : IntKind.i64.wrap (((i : Nat) : Int) + 1) = ((i + 1 : Nat) : Int) := by rw [wrap_i64 (by omega) (by omega)]; omega
        rw [e21]
        clear e21
        refine og 1 [(0, (Value.string (str n))), (3, (i64 ((i + 1 : Nat) : Int))), (4, (Value.int IntKind.u8 ((x.toNat : Nat) : Int))), (16, (Value.bool true)), (40, (Value.bool false))] 3 ?_
        refine Ops.keep (R := [(0, (Value.string (str n))), (3, (i64 ((i + 1 : Nat) : Int)))]) (by kernel_rfl) ?_
        refine od ?_
        exact ⟨i + 1, ⟨rfl, (by rw [← hE, had, letterB_t (by omega), Bool.true_and]), (by omega), K8⟩, (show n.length - (i + 1) < n.length - i from by omega)⟩
       ·rw [h19]
        have p22 : ¬ (((x.toNat : Nat) : Int) ≤ 57) := of_decide_eq_false h19
        refine og 4 [(0, (Value.string (str n))), (3, (i64 ((i : Nat) : Int))), (4, (Value.int IntKind.u8 ((x.toNat : Nat) : Int))), (16, (Value.bool true)), (40, (Value.bool (!(((x.toNat : Nat) : Int) == 95))))] 19 ?_
        refine od ?_
        refine q_cond (o := .tmp 40) (b := (!(((x.toNat : Nat) : Int) == 95))) (by kernel_rfl) rfl (fun h23 => ?_) (fun h23 => ?_)
        ·rw [h23]
         have p24 : ¬ (((x.toNat : Nat) : Int) = 95) := of_beq_f (bnot_true h23)
         refine qs ?_
         refine qg ?_
         refine og 1 [(0, (Value.string (str n))), (2, (Value.bool false)), (3, (i64 ((i : Nat) : Int))), (4, (Value.int IntKind.u8 ((x.toNat : Nat) : Int))), (16, (Value.bool true)), (40, (Value.bool true))] 1 ?_
         refine od ?_
         refine q_ret (by kernel_rfl) ?_
         refine ⟨(Value.bool false), retv_tmp rfl rfl, ?_⟩
         have e : nameOk n = false := by rw [name_all (by omega), ← hE, had, letterB_f (by omega), Bool.false_and]
         exact ⟨by rw [e], K8⟩
        ·rw [h23]
         have p25 : ((x.toNat : Nat) : Int) = 95 := of_beq_t (bnot_false h23)
         refine q_skip (by kernel_rfl) ?_
         refine qg ?_
         refine og 2 [(0, (Value.string (str n))), (3, (i64 ((i : Nat) : Int))), (4, (Value.int IntKind.u8 ((x.toNat : Nat) : Int))), (16, (Value.bool true)), (18, (i64 (IntKind.i64.wrap (((i : Nat) : Int) + 1)))), (40, (Value.bool false))] 2 ?_
         have e26 : IntKind.i64.wrap (((i : Nat) : Int) + 1) = ((i + 1 : Nat) : Int) := by rw [wrap_i64 (by omega) (by omega)]; omega
         rw [e26]
         clear e26
         refine og 1 [(0, (Value.string (str n))), (3, (i64 ((i + 1 : Nat) : Int))), (4, (Value.int IntKind.u8 ((x.toNat : Nat) : Int))), (16, (Value.bool true)), (40, (Value.bool false))] 3 ?_
         refine Ops.keep (R := [(0, (Value.string (str n))), (3, (i64 ((i + 1 : Nat) : Int)))]) (by kernel_rfl) ?_
         refine od ?_
         exact ⟨i + 1, ⟨rfl, (by rw [← hE, had, letterB_t (by omega), Bool.true_and]), (by omega), K8⟩, (show n.length - (i + 1) < n.length - i from by omega)⟩
      ·rw [h17]
       have p27 : ¬ (((x.toNat : Nat) : Int) ≥ 48) := of_decide_eq_false h17
       refine og 9 [(0, (Value.string (str n))), (3, (i64 ((i : Nat) : Int))), (4, (Value.int IntKind.u8 ((x.toNat : Nat) : Int))), (16, (Value.bool true)), (40, (Value.bool (!(((x.toNat : Nat) : Int) == 95))))] 19 ?_
       refine od ?_
       refine q_cond (o := .tmp 40) (b := (!(((x.toNat : Nat) : Int) == 95))) (by kernel_rfl) rfl (fun h28 => ?_) (fun h28 => ?_)
       ·rw [h28]
        have p29 : ¬ (((x.toNat : Nat) : Int) = 95) := of_beq_f (bnot_true h28)
        refine qs ?_
        refine qg ?_
        refine og 1 [(0, (Value.string (str n))), (2, (Value.bool false)), (3, (i64 ((i : Nat) : Int))), (4, (Value.int IntKind.u8 ((x.toNat : Nat) : Int))), (16, (Value.bool true)), (40, (Value.bool true))] 1 ?_
        refine od ?_
        refine q_ret (by kernel_rfl) ?_
        refine ⟨(Value.bool false), retv_tmp rfl rfl, ?_⟩
        have e : nameOk n = false := by rw [name_all (by omega), ← hE, had, letterB_f (by omega), Bool.false_and]
        exact ⟨by rw [e], K8⟩
       ·rw [h28]
        have p30 : ((x.toNat : Nat) : Int) = 95 := of_beq_t (bnot_false h28)
        refine q_skip (by kernel_rfl) ?_
        refine qg ?_
        refine og 2 [(0, (Value.string (str n))), (3, (i64 ((i : Nat) : Int))), (4, (Value.int IntKind.u8 ((x.toNat : Nat) : Int))), (16, (Value.bool true)), (18, (i64 (IntKind.i64.wrap (((i : Nat) : Int) + 1)))), (40, (Value.bool false))] 2 ?_
        have e31 : IntKind.i64.wrap (((i : Nat) : Int) + 1) = ((i + 1 : Nat) : Int) := by rw [wrap_i64 (by omega) (by omega)]; omega
        rw [e31]
        clear e31
        refine og 1 [(0, (Value.string (str n))), (3, (i64 ((i + 1 : Nat) : Int))), (4, (Value.int IntKind.u8 ((x.toNat : Nat) : Int))), (16, (Value.bool true)), (40, (Value.bool false))] 3 ?_
        refine Ops.keep (R := [(0, (Value.string (str n))), (3, (i64 ((i + 1 : Nat) : Int)))]) (by kernel_rfl) ?_
        refine od ?_
        exact ⟨i + 1, ⟨rfl, (by rw [← hE, had, letterB_t (by omega), Bool.true_and]), (by omega), K8⟩, (show n.length - (i + 1) < n.length - i from by omega)⟩
    ·rw [h11]
     have p32 : ¬ (((x.toNat : Nat) : Int) ≥ 97) := of_decide_eq_false h11
     refine og 7 [(0, (Value.string (str n))), (3, (i64 ((i : Nat) : Int))), (4, (Value.int IntKind.u8 ((x.toNat : Nat) : Int))), (16, (Value.bool true)), (28, (Value.bool false)), (31, (Value.bool (decide (((x.toNat : Nat) : Int) ≥ 48))))] 10 ?_
     refine Ops.split (decide (((x.toNat : Nat) : Int) ≥ 48)) (fun h33 => ?_) (fun h33 => ?_)
     ·rw [h33]
      have p34 : ((x.toNat : Nat) : Int) ≥ 48 := of_decide_eq_true h33
      refine og 5 [(0, (Value.string (str n))), (3, (i64 ((i : Nat) : Int))), (4, (Value.int IntKind.u8 ((x.toNat : Nat) : Int))), (16, (Value.bool true)), (36, (Value.bool (decide (((x.toNat : Nat) : Int) ≤ 57))))] 15 ?_
      refine Ops.split (decide (((x.toNat : Nat) : Int) ≤ 57)) (fun h35 => ?_) (fun h35 => ?_)
      ·rw [h35]
       have p36 : ((x.toNat : Nat) : Int) ≤ 57 := of_decide_eq_true h35
       refine og 4 [(0, (Value.string (str n))), (3, (i64 ((i : Nat) : Int))), (4, (Value.int IntKind.u8 ((x.toNat : Nat) : Int))), (16, (Value.bool true)), (40, (Value.bool false))] 19 ?_
       refine od ?_
       refine q_else (o := .tmp 40) (by kernel_rfl) rfl ?_
       refine q_skip (by kernel_rfl) ?_
       refine qg ?_
       refine og 2 [(0, (Value.string (str n))), (3, (i64 ((i : Nat) : Int))), (4, (Value.int IntKind.u8 ((x.toNat : Nat) : Int))), (16, (Value.bool true)), (18, (i64 (IntKind.i64.wrap (((i : Nat) : Int) + 1)))), (40, (Value.bool false))] 2 ?_
       have e37 : IntKind.i64.wrap (((i : Nat) : Int) + 1) = ((i + 1 : Nat) : Int) := by rw [wrap_i64 (by omega) (by omega)]; omega
       rw [e37]
       clear e37
       refine og 1 [(0, (Value.string (str n))), (3, (i64 ((i + 1 : Nat) : Int))), (4, (Value.int IntKind.u8 ((x.toNat : Nat) : Int))), (16, (Value.bool true)), (40, (Value.bool false))] 3 ?_
       refine Ops.keep (R := [(0, (Value.string (str n))), (3, (i64 ((i + 1 : Nat) : Int)))]) (by kernel_rfl) ?_
       refine od ?_
       exact ⟨i + 1, ⟨rfl, (by rw [← hE, had, letterB_t (by omega), Bool.true_and]), (by omega), K8⟩, (show n.length - (i + 1) < n.length - i from by omega)⟩
      ·rw [h35]
       have p38 : ¬ (((x.toNat : Nat) : Int) ≤ 57) := of_decide_eq_false h35
       refine og 4 [(0, (Value.string (str n))), (3, (i64 ((i : Nat) : Int))), (4, (Value.int IntKind.u8 ((x.toNat : Nat) : Int))), (16, (Value.bool true)), (40, (Value.bool (!(((x.toNat : Nat) : Int) == 95))))] 19 ?_
       refine od ?_
       refine q_cond (o := .tmp 40) (b := (!(((x.toNat : Nat) : Int) == 95))) (by kernel_rfl) rfl (fun h39 => ?_) (fun h39 => ?_)
       ·rw [h39]
        have p40 : ¬ (((x.toNat : Nat) : Int) = 95) := of_beq_f (bnot_true h39)
        refine qs ?_
        refine qg ?_
        refine og 1 [(0, (Value.string (str n))), (2, (Value.bool false)), (3, (i64 ((i : Nat) : Int))), (4, (Value.int IntKind.u8 ((x.toNat : Nat) : Int))), (16, (Value.bool true)), (40, (Value.bool true))] 1 ?_
        refine od ?_
        refine q_ret (by kernel_rfl) ?_
        refine ⟨(Value.bool false), retv_tmp rfl rfl, ?_⟩
        have e : nameOk n = false := by rw [name_all (by omega), ← hE, had, letterB_f (by omega), Bool.false_and]
        exact ⟨by rw [e], K8⟩
       ·rw [h39]
        have p41 : ((x.toNat : Nat) : Int) = 95 := of_beq_t (bnot_false h39)
        refine q_skip (by kernel_rfl) ?_
        refine qg ?_
        refine og 2 [(0, (Value.string (str n))), (3, (i64 ((i : Nat) : Int))), (4, (Value.int IntKind.u8 ((x.toNat : Nat) : Int))), (16, (Value.bool true)), (18, (i64 (IntKind.i64.wrap (((i : Nat) : Int) + 1)))), (40, (Value.bool false))] 2 ?_
        have e42 : IntKind.i64.wrap (((i : Nat) : Int) + 1) = ((i + 1 : Nat) : Int) := by rw [wrap_i64 (by omega) (by omega)]; omega
        rw [e42]
        clear e42
        refine og 1 [(0, (Value.string (str n))), (3, (i64 ((i + 1 : Nat) : Int))), (4, (Value.int IntKind.u8 ((x.toNat : Nat) : Int))), (16, (Value.bool true)), (40, (Value.bool false))] 3 ?_
        refine Ops.keep (R := [(0, (Value.string (str n))), (3, (i64 ((i + 1 : Nat) : Int)))]) (by kernel_rfl) ?_
        refine od ?_
        exact ⟨i + 1, ⟨rfl, (by rw [← hE, had, letterB_t (by omega), Bool.true_and]), (by omega), K8⟩, (show n.length - (i + 1) < n.length - i from by omega)⟩
     ·rw [h33]
      have p43 : ¬ (((x.toNat : Nat) : Int) ≥ 48) := of_decide_eq_false h33
      refine og 9 [(0, (Value.string (str n))), (3, (i64 ((i : Nat) : Int))), (4, (Value.int IntKind.u8 ((x.toNat : Nat) : Int))), (16, (Value.bool true)), (40, (Value.bool (!(((x.toNat : Nat) : Int) == 95))))] 19 ?_
      refine od ?_
      refine q_cond (o := .tmp 40) (b := (!(((x.toNat : Nat) : Int) == 95))) (by kernel_rfl) rfl (fun h44 => ?_) (fun h44 => ?_)
      ·rw [h44]
       have p45 : ¬ (((x.toNat : Nat) : Int) = 95) := of_beq_f (bnot_true h44)
       refine qs ?_
       refine qg ?_
       refine og 1 [(0, (Value.string (str n))), (2, (Value.bool false)), (3, (i64 ((i : Nat) : Int))), (4, (Value.int IntKind.u8 ((x.toNat : Nat) : Int))), (16, (Value.bool true)), (40, (Value.bool true))] 1 ?_
       refine od ?_
       refine q_ret (by kernel_rfl) ?_
       refine ⟨(Value.bool false), retv_tmp rfl rfl, ?_⟩
       have e : nameOk n = false := by rw [name_all (by omega), ← hE, had, letterB_f (by omega), Bool.false_and]
       exact ⟨by rw [e], K8⟩
      ·rw [h44]
       have p46 : ((x.toNat : Nat) : Int) = 95 := of_beq_t (bnot_false h44)
       refine q_skip (by kernel_rfl) ?_
       refine qg ?_
       refine og 2 [(0, (Value.string (str n))), (3, (i64 ((i : Nat) : Int))), (4, (Value.int IntKind.u8 ((x.toNat : Nat) : Int))), (16, (Value.bool true)), (18, (i64 (IntKind.i64.wrap (((i : Nat) : Int) + 1)))), (40, (Value.bool false))] 2 ?_
       have e47 : IntKind.i64.wrap (((i : Nat) : Int) + 1) = ((i + 1 : Nat) : Int) := by rw [wrap_i64 (by omega) (by omega)]; omega
       rw [e47]
       clear e47
       refine og 1 [(0, (Value.string (str n))), (3, (i64 ((i + 1 : Nat) : Int))), (4, (Value.int IntKind.u8 ((x.toNat : Nat) : Int))), (16, (Value.bool true)), (40, (Value.bool false))] 3 ?_
       refine Ops.keep (R := [(0, (Value.string (str n))), (3, (i64 ((i + 1 : Nat) : Int)))]) (by kernel_rfl) ?_
       refine od ?_
       exact ⟨i + 1, ⟨rfl, (by rw [← hE, had, letterB_t (by omega), Bool.true_and]), (by omega), K8⟩, (show n.length - (i + 1) < n.length - i from by omega)⟩
   ·rw [h9]
    have p48 : ¬ (((i : Nat) : Int) < ((n.length : Nat) : Int)) := of_decide_eq_false h9
    refine q_exit (id := 0) (by kernel_rfl) ?_
    refine qs ?_
    refine qg ?_
    refine og 1 [(2, (Value.bool true))] 1 ?_
    refine od ?_
    refine q_ret (by kernel_rfl) ?_
    refine ⟨(Value.bool true), retv_tmp rfl rfl, ?_⟩
    have e : nameOk n = true := by rw [name_all (by omega), ← hE, List.drop_of_length_le (by omega)]; rfl
    exact ⟨by rw [e], K8⟩

theorem Wrong_calls (w : World) (o : Opm)  : Calls Tryd.prog 15 ⟨[(agg [(i64 o.kind), (Value.string (str o.frm)), (Value.string (str o.to)), (i64 o.amount), (Value.string (str o.key)), (i64 o.slot), (i64 o.shard)])]⟩ w (fun e w' => e = .returned (i64 (wrongE o)) ∧ Keeps none_ w w') := by
 have K0 : Keeps none_ w w := Keeps.refl w
 refine q_calls Tryd.func15 (by kernel_rfl) (by kernel_rfl) ?_
 refine qs ?_
 refine qg ?_
 refine Ops.new (o := rowL [(i64 o.kind), (Value.string (str o.frm)), (Value.string (str o.to)), (i64 o.amount), (Value.string (str o.key)), (i64 o.slot), (i64 o.shard)] 35) (V := fun b => (ptr b)) (by kernel_rfl) (d := (some 1)) (by kernel_rfl) (fun b => rfl) (fun b1 w2 hb3 H4 K5 hs6 => ?_)
 have nb1 : w.heap.size ≤ b1 := by have := K0.size; omega
 replace K0 := K0.t0 K5
 clear K5 hs6
 refine og 1 [(1, (ptr b1)), (2, (i64 0))] 2 ?_
 refine od ?_
 refine qs ?_
 refine qs ?_
 refine qg ?_
 refine og 1 [(1, (ptr b1)), (2, (i64 0)), (4, (ptr b1))] 1 ?_
 refine Ops.go (v := (i64 o.kind)) (by kernel_rfl) (Runs.load (t := 3) (a := ⟨b1, 0, none⟩) (by kernel_rfl) (H4.loads (by kernel_rfl))) (d := (some 5)) (by kernel_rfl) rfl ?_
 refine od ?_
 refine q_block (id := 0) (by kernel_rfl) ?_
 refine qs ?_
 refine qg ?_
 refine og 2 [(1, (ptr b1)), (2, (i64 0)), (5, (i64 o.kind)), (6, (Value.bool (o.kind == 6)))] 2 ?_
 refine od ?_
 refine q_cond (o := .tmp 6) (b := (o.kind == 6)) (by kernel_rfl) rfl (fun h7 => ?_) (fun h7 => ?_)
 ·rw [h7]
  have p8 : o.kind = 6 := of_beq_t h7
  refine qs ?_
  refine qg ?_
  refine og 1 [(1, (ptr b1)), (2, (i64 0)), (5, (i64 o.kind))] 1 ?_
  refine od ?_
  refine q_ret (by kernel_rfl) ?_
  refine ⟨(i64 0), retv_tmp rfl rfl, ?_⟩
  have e : wrongE o = 0 := by unfold wrongE; rw [if_pos (by omega)]
  exact ⟨by rw [e], K0⟩
 ·rw [h7]
  have p9 : ¬ (o.kind = 6) := of_beq_f h7
  refine qs ?_
  refine qg ?_
  refine og 2 [(1, (ptr b1)), (2, (i64 0)), (5, (i64 o.kind)), (8, (Value.bool (o.kind == 7)))] 2 ?_
  refine od ?_
  refine q_cond (o := .tmp 8) (b := (o.kind == 7)) (by kernel_rfl) rfl (fun h10 => ?_) (fun h10 => ?_)
  ·rw [h10]
   have p11 : o.kind = 7 := of_beq_t h10
   refine qs ?_
   refine qs ?_
   refine qg ?_
   refine og 1 [(1, (ptr b1)), (2, (i64 0)), (5, (i64 o.kind)), (10, (Value.pointer (some ⟨b1, 5, none⟩)))] 1 ?_
   refine Ops.go (v := (i64 o.slot)) (by kernel_rfl) (Runs.load (t := 3) (a := ⟨b1, 5, none⟩) (by kernel_rfl) (H4.loads (by kernel_rfl))) (d := (some 11)) (by kernel_rfl) rfl ?_
   refine og 2 [(1, (ptr b1)), (2, (i64 0)), (5, (i64 o.kind)), (13, (Value.bool (decide (o.slot < 0))))] 4 ?_
   refine Ops.split (decide (o.slot < 0)) (fun h12 => ?_) (fun h12 => ?_)
   ·rw [h12]
    have p13 : o.slot < 0 := of_decide_eq_true h12
    refine og 14 [(1, (ptr b1)), (2, (i64 0)), (5, (i64 o.kind)), (27, (Value.bool true))] 18 ?_
    refine od ?_
    refine q_then (o := .tmp 27) (by kernel_rfl) rfl ?_
    refine qs ?_
    refine qg ?_
    refine og 1 [(1, (ptr b1)), (2, (i64 1)), (5, (i64 o.kind))] 1 ?_
    refine od ?_
    refine q_ret (by kernel_rfl) ?_
    refine ⟨(i64 1), retv_tmp rfl rfl, ?_⟩
    have e : wrongE o = 1 := by unfold wrongE; rw [if_neg (by omega), if_pos (by omega), if_pos (by omega)]
    exact ⟨by rw [e], K0⟩
   ·rw [h12]
    have p14 : ¬ (o.slot < 0) := of_decide_eq_false h12
    refine og 1 [(1, (ptr b1)), (2, (i64 0)), (5, (i64 o.kind)), (13, (Value.bool false)), (14, (Value.pointer (some ⟨b1, 5, none⟩)))] 5 ?_
    refine Ops.go (v := (i64 o.slot)) (by kernel_rfl) (Runs.load (t := 3) (a := ⟨b1, 5, none⟩) (by kernel_rfl) (H4.loads (by kernel_rfl))) (d := (some 15)) (by kernel_rfl) rfl ?_
    refine og 3 [(1, (ptr b1)), (2, (i64 0)), (5, (i64 o.kind)), (18, (Value.bool (decide (o.slot ≥ 16))))] 9 ?_
    refine Ops.split (decide (o.slot ≥ 16)) (fun h15 => ?_) (fun h15 => ?_)
    ·rw [h15]
     have p16 : o.slot ≥ 16 := of_decide_eq_true h15
     refine og 9 [(1, (ptr b1)), (2, (i64 0)), (5, (i64 o.kind)), (27, (Value.bool true))] 18 ?_
     refine od ?_
     refine q_then (o := .tmp 27) (by kernel_rfl) rfl ?_
     refine qs ?_
     refine qg ?_
     refine og 1 [(1, (ptr b1)), (2, (i64 1)), (5, (i64 o.kind))] 1 ?_
     refine od ?_
     refine q_ret (by kernel_rfl) ?_
     refine ⟨(i64 1), retv_tmp rfl rfl, ?_⟩
     have e : wrongE o = 1 := by unfold wrongE; rw [if_neg (by omega), if_pos (by omega), if_pos (by omega)]
     exact ⟨by rw [e], K0⟩
    ·rw [h15]
     have p17 : ¬ (o.slot ≥ 16) := of_decide_eq_false h15
     refine og 1 [(1, (ptr b1)), (2, (i64 0)), (5, (i64 o.kind)), (18, (Value.bool false)), (19, (Value.pointer (some ⟨b1, 6, none⟩)))] 10 ?_
     refine Ops.go (v := (i64 o.shard)) (by kernel_rfl) (Runs.load (t := 3) (a := ⟨b1, 6, none⟩) (by kernel_rfl) (H4.loads (by kernel_rfl))) (d := (some 20)) (by kernel_rfl) rfl ?_
     refine og 3 [(1, (ptr b1)), (2, (i64 0)), (5, (i64 o.kind)), (23, (Value.bool (decide (o.shard < 1))))] 14 ?_
     refine Ops.split (decide (o.shard < 1)) (fun h18 => ?_) (fun h18 => ?_)
     ·rw [h18]
      have p19 : o.shard < 1 := of_decide_eq_true h18
      refine og 4 [(1, (ptr b1)), (2, (i64 0)), (5, (i64 o.kind)), (27, (Value.bool true))] 18 ?_
      refine od ?_
      refine q_then (o := .tmp 27) (by kernel_rfl) rfl ?_
      refine qs ?_
      refine qg ?_
      refine og 1 [(1, (ptr b1)), (2, (i64 1)), (5, (i64 o.kind))] 1 ?_
      refine od ?_
      refine q_ret (by kernel_rfl) ?_
      refine ⟨(i64 1), retv_tmp rfl rfl, ?_⟩
      have e : wrongE o = 1 := by unfold wrongE; rw [if_neg (by omega), if_pos (by omega), if_pos (by omega)]
      exact ⟨by rw [e], K0⟩
     ·rw [h18]
      have p20 : ¬ (o.shard < 1) := of_decide_eq_false h18
      refine og 1 [(1, (ptr b1)), (2, (i64 0)), (5, (i64 o.kind)), (23, (Value.bool false)), (24, (Value.pointer (some ⟨b1, 6, none⟩)))] 15 ?_
      refine Ops.go (v := (i64 o.shard)) (by kernel_rfl) (Runs.load (t := 3) (a := ⟨b1, 6, none⟩) (by kernel_rfl) (H4.loads (by kernel_rfl))) (d := (some 25)) (by kernel_rfl) rfl ?_
      refine og 2 [(1, (ptr b1)), (2, (i64 0)), (5, (i64 o.kind)), (27, (Value.bool (decide (o.shard > 3))))] 18 ?_
      refine od ?_
      refine q_cond (o := .tmp 27) (b := (decide (o.shard > 3))) (by kernel_rfl) rfl (fun h21 => ?_) (fun h21 => ?_)
      ·rw [h21]
       have p22 : o.shard > 3 := of_decide_eq_true h21
       refine qs ?_
       refine qg ?_
       refine og 1 [(1, (ptr b1)), (2, (i64 1)), (5, (i64 o.kind))] 1 ?_
       refine od ?_
       refine q_ret (by kernel_rfl) ?_
       refine ⟨(i64 1), retv_tmp rfl rfl, ?_⟩
       have e : wrongE o = 1 := by unfold wrongE; rw [if_neg (by omega), if_pos (by omega), if_pos (by omega)]
       exact ⟨by rw [e], K0⟩
      ·rw [h21]
       have p23 : ¬ (o.shard > 3) := of_decide_eq_false h21
       refine q_skip (by kernel_rfl) ?_
       refine qs ?_
       refine qg ?_
       refine og 1 [(1, (ptr b1)), (2, (i64 0)), (5, (i64 o.kind))] 1 ?_
       refine od ?_
       refine q_ret (by kernel_rfl) ?_
       refine ⟨(i64 0), retv_tmp rfl rfl, ?_⟩
       have e : wrongE o = 0 := by unfold wrongE; rw [if_neg (by omega), if_pos (by omega), if_neg (by omega)]
       exact ⟨by rw [e], K0⟩
  ·rw [h10]
   have p24 : ¬ (o.kind = 7) := of_beq_f h10
   refine qs ?_
   refine qs ?_
   refine qg ?_
   refine og 2 [(1, (ptr b1)), (2, (i64 0)), (5, (i64 o.kind)), (28, (Value.bool (o.kind == 1)))] 2 ?_
   refine od ?_
   refine q_cond (o := .tmp 28) (b := (o.kind == 1)) (by kernel_rfl) rfl (fun h25 => ?_) (fun h25 => ?_)
   ·rw [h25]
    have p26 : o.kind = 1 := of_beq_t h25
    refine q_skip (by kernel_rfl) ?_
    refine q_then (o := .tmp 28) (by kernel_rfl) rfl ?_
    refine q_skip (by kernel_rfl) ?_
    refine qs ?_
    refine qg ?_
    refine og 1 [(1, (ptr b1)), (2, (i64 0)), (34, (ptr b1))] 1 ?_
    refine Ops.go (v := (i64 o.kind)) (by kernel_rfl) (Runs.load (t := 3) (a := ⟨b1, 0, none⟩) (by kernel_rfl) (H4.loads (by kernel_rfl))) (d := (some 35)) (by kernel_rfl) rfl ?_
    refine og 2 [(1, (ptr b1)), (2, (i64 0)), (3, (Value.bool (o.kind == 4)))] 4 ?_
    refine od ?_
    refine qs ?_
    refine q_block (id := 1) (by kernel_rfl) ?_
    refine qs ?_
    refine qg ?_
    refine og 1 [(1, (ptr b1)), (2, (i64 0)), (3, (Value.bool (o.kind == 4))), (38, (Value.pointer (some ⟨b1, 1, none⟩)))] 1 ?_
    refine Ops.go (v := (Value.string (str o.frm))) (by kernel_rfl) (Runs.load (t := 9) (a := ⟨b1, 1, none⟩) (by kernel_rfl) (H4.loads (by kernel_rfl))) (d := (some 39)) (by kernel_rfl) rfl ?_
    refine Ops.call (by kernel_rfl) (d := (some 40)) (by kernel_rfl) (Name_calls _ o.frm) ?_
    rintro _ w28 ⟨rfl, K27⟩
    refine ⟨_, _, rfl, rfl, ?_⟩
    replace K0 := K0.t0 K27
    replace H4 := H4.keep K27 (fun h => h)
    clear K27
    refine og 2 [(1, (ptr b1)), (2, (i64 0)), (3, (Value.bool (o.kind == 4))), (37, (Value.bool (!(nameOk o.frm))))] 5 ?_
    refine od ?_
    refine q_cond (o := .tmp 37) (b := (!(nameOk o.frm))) (by kernel_rfl) rfl (fun h29 => ?_) (fun h29 => ?_)
    ·rw [h29]
     have p30 : (nameOk o.frm) = false := (bnot_true h29)
     refine qs ?_
     refine qg ?_
     refine og 1 [(1, (ptr b1)), (2, (i64 46)), (3, (Value.bool (o.kind == 4)))] 1 ?_
     refine od ?_
     refine q_ret (by kernel_rfl) ?_
     refine ⟨(i64 46), retv_tmp rfl rfl, ?_⟩
     have e : wrongE o = 46 := by unfold wrongE; rw [if_neg (by omega), if_neg (by omega), if_neg (by omega), if_pos (by assumption)]
     exact ⟨by rw [e], K0⟩
    ·rw [h29]
     have p31 : (nameOk o.frm) = true := (bnot_false h29)
     refine qs ?_
     refine qg ?_
     refine og 1 [(1, (ptr b1)), (2, (i64 0)), (3, (Value.bool (o.kind == 4))), (43, (ptr b1))] 1 ?_
     refine Ops.go (v := (i64 o.kind)) (by kernel_rfl) (Runs.load (t := 3) (a := ⟨b1, 0, none⟩) (by kernel_rfl) (H4.loads (by kernel_rfl))) (d := (some 44)) (by kernel_rfl) rfl ?_
     refine og 2 [(1, (ptr b1)), (2, (i64 0)), (3, (Value.bool (o.kind == 4))), (42, (Value.bool (o.kind == 5)))] 4 ?_
     refine od ?_
     refine q_cond (o := .tmp 42) (b := (o.kind == 5)) (by kernel_rfl) rfl (fun h32 => ?_) (fun h32 => ?_)
     ·rw [h32]
      have p33 : o.kind = 5 := of_beq_t h32
      refine qs ?_
      refine qg ?_
      refine og 1 [(1, (ptr b1)), (2, (i64 0)), (3, (Value.bool (o.kind == 4)))] 1 ?_
      refine od ?_
      refine q_ret (by kernel_rfl) ?_
      refine ⟨(i64 0), retv_tmp rfl rfl, ?_⟩
      exfalso; omega
     ·rw [h32]
      have p34 : ¬ (o.kind = 5) := of_beq_f h32
      refine qs ?_
      refine qs ?_
      refine qg ?_
      refine og 1 [(1, (ptr b1)), (2, (i64 0)), (3, (Value.bool (o.kind == 4))), (47, (Value.pointer (some ⟨b1, 4, none⟩)))] 1 ?_
      refine Ops.go (v := (Value.string (str o.key))) (by kernel_rfl) (Runs.load (t := 9) (a := ⟨b1, 4, none⟩) (by kernel_rfl) (H4.loads (by kernel_rfl))) (d := (some 48)) (by kernel_rfl) rfl ?_
      refine Ops.call (by kernel_rfl) (d := (some 49)) (by kernel_rfl) (Name_calls _ o.key) ?_
      rintro _ w36 ⟨rfl, K35⟩
      refine ⟨_, _, rfl, rfl, ?_⟩
      replace K0 := K0.t0 K35
      replace H4 := H4.keep K35 (fun h => h)
      clear K35
      refine og 2 [(1, (ptr b1)), (2, (i64 0)), (3, (Value.bool (o.kind == 4))), (46, (Value.bool (!(nameOk o.key))))] 5 ?_
      refine od ?_
      refine q_cond (o := .tmp 46) (b := (!(nameOk o.key))) (by kernel_rfl) rfl (fun h37 => ?_) (fun h37 => ?_)
      ·rw [h37]
       have p38 : (nameOk o.key) = false := (bnot_true h37)
       refine q_skip (by kernel_rfl) ?_
       refine q_then (o := .tmp 46) (by kernel_rfl) rfl ?_
       refine qs ?_
       refine qg ?_
       refine og 1 [(1, (ptr b1)), (2, (i64 46)), (3, (Value.bool (o.kind == 4)))] 1 ?_
       refine od ?_
       refine q_ret (by kernel_rfl) ?_
       refine ⟨(i64 46), retv_tmp rfl rfl, ?_⟩
       have e : wrongE o = 46 := by unfold wrongE; rw [if_neg (by omega), if_neg (by omega), if_neg (by omega), if_neg (ne_of_t (by assumption)), if_neg (by omega), if_pos (by assumption)]
       exact ⟨by rw [e], K0⟩
      ·rw [h37]
       have p39 : (nameOk o.key) = true := (bnot_false h37)
       refine qg ?_
       refine og 2 [(1, (ptr b1)), (2, (i64 0)), (3, (Value.bool (o.kind == 4))), (46, (Value.bool false)), (52, (Value.bool (o.kind == 4)))] 2 ?_
       refine Ops.split (o.kind == 4) (fun h40 => ?_) (fun h40 => ?_)
       ·rw [h40]
        have p41 : o.kind = 4 := of_beq_t h40
        refine og 1 [(1, (ptr b1)), (2, (i64 0)), (3, (Value.bool true)), (46, (Value.bool false)), (52, (Value.bool true)), (53, (Value.pointer (some ⟨b1, 2, none⟩)))] 3 ?_
        refine Ops.go (v := (Value.string (str o.to))) (by kernel_rfl) (Runs.load (t := 9) (a := ⟨b1, 2, none⟩) (by kernel_rfl) (H4.loads (by kernel_rfl))) (d := (some 54)) (by kernel_rfl) rfl ?_
        refine Ops.call (by kernel_rfl) (d := (some 55)) (by kernel_rfl) (Name_calls _ o.to) ?_
        rintro _ w43 ⟨rfl, K42⟩
        refine ⟨_, _, rfl, rfl, ?_⟩
        replace K0 := K0.t0 K42
        replace H4 := H4.keep K42 (fun h => h)
        clear K42
        refine og 3 [(1, (ptr b1)), (2, (i64 0)), (3, (Value.bool true)), (46, (Value.bool (!(nameOk o.to))))] 8 ?_
        refine od ?_
        refine q_cond (o := .tmp 46) (b := (!(nameOk o.to))) (by kernel_rfl) rfl (fun h44 => ?_) (fun h44 => ?_)
        ·rw [h44]
         have p45 : (nameOk o.to) = false := (bnot_true h44)
         refine qs ?_
         refine qg ?_
         refine og 1 [(1, (ptr b1)), (2, (i64 46)), (3, (Value.bool true))] 1 ?_
         refine od ?_
         refine q_ret (by kernel_rfl) ?_
         refine ⟨(i64 46), retv_tmp rfl rfl, ?_⟩
         exfalso; omega
        ·rw [h44]
         have p46 : (nameOk o.to) = true := (bnot_false h44)
         refine qs ?_
         refine qg ?_
         refine og 1 [(1, (ptr b1)), (2, (i64 0)), (3, (Value.bool true)), (59, (ptr b1))] 1 ?_
         refine Ops.go (v := (i64 o.kind)) (by kernel_rfl) (Runs.load (t := 3) (a := ⟨b1, 0, none⟩) (by kernel_rfl) (H4.loads (by kernel_rfl))) (d := (some 60)) (by kernel_rfl) rfl ?_
         refine og 2 [(1, (ptr b1)), (2, (i64 0)), (3, (Value.bool true)), (58, (Value.bool (o.kind == 1)))] 4 ?_
         refine od ?_
         rw [h25]
         refine q_then (o := .tmp 58) (by kernel_rfl) rfl ?_
         refine qs ?_
         refine qg ?_
         refine og 1 [(1, (ptr b1)), (2, (i64 0)), (3, (Value.bool true))] 1 ?_
         refine od ?_
         refine q_ret (by kernel_rfl) ?_
         refine ⟨(i64 0), retv_tmp rfl rfl, ?_⟩
         exfalso; omega
       ·rw [h40]
        have p47 : ¬ (o.kind = 4) := of_beq_f h40
        refine og 6 [(1, (ptr b1)), (2, (i64 0)), (3, (Value.bool false)), (46, (Value.bool false))] 8 ?_
        refine od ?_
        refine q_else (o := .tmp 46) (by kernel_rfl) rfl ?_
        refine qs ?_
        refine qg ?_
        refine og 1 [(1, (ptr b1)), (2, (i64 0)), (3, (Value.bool false)), (59, (ptr b1))] 1 ?_
        refine Ops.go (v := (i64 o.kind)) (by kernel_rfl) (Runs.load (t := 3) (a := ⟨b1, 0, none⟩) (by kernel_rfl) (H4.loads (by kernel_rfl))) (d := (some 60)) (by kernel_rfl) rfl ?_
        refine og 2 [(1, (ptr b1)), (2, (i64 0)), (3, (Value.bool false)), (58, (Value.bool (o.kind == 1)))] 4 ?_
        refine od ?_
        rw [h25]
        refine q_then (o := .tmp 58) (by kernel_rfl) rfl ?_
        refine qs ?_
        refine qg ?_
        refine og 1 [(1, (ptr b1)), (2, (i64 0)), (3, (Value.bool false))] 1 ?_
        refine od ?_
        refine q_ret (by kernel_rfl) ?_
        refine ⟨(i64 0), retv_tmp rfl rfl, ?_⟩
        have e : wrongE o = 0 := by unfold wrongE; rw [if_neg (by omega), if_neg (by omega), if_neg (by omega), if_neg (ne_of_t (by assumption)), if_neg (by omega), if_neg (ne_of_t (by assumption)), if_pos (by omega)]
        exact ⟨by rw [e], K0⟩
   ·rw [h25]
    have p48 : ¬ (o.kind = 1) := of_beq_f h25
    refine qs ?_
    refine qg ?_
    refine og 2 [(1, (ptr b1)), (2, (i64 0)), (5, (i64 o.kind)), (28, (Value.bool (o.kind == 2)))] 2 ?_
    refine od ?_
    refine q_cond (o := .tmp 28) (b := (o.kind == 2)) (by kernel_rfl) rfl (fun h49 => ?_) (fun h49 => ?_)
    ·rw [h49]
     have p50 : o.kind = 2 := of_beq_t h49
     refine q_skip (by kernel_rfl) ?_
     refine q_then (o := .tmp 28) (by kernel_rfl) rfl ?_
     refine q_skip (by kernel_rfl) ?_
     refine qs ?_
     refine qg ?_
     refine og 1 [(1, (ptr b1)), (2, (i64 0)), (34, (ptr b1))] 1 ?_
     refine Ops.go (v := (i64 o.kind)) (by kernel_rfl) (Runs.load (t := 3) (a := ⟨b1, 0, none⟩) (by kernel_rfl) (H4.loads (by kernel_rfl))) (d := (some 35)) (by kernel_rfl) rfl ?_
     refine og 2 [(1, (ptr b1)), (2, (i64 0)), (3, (Value.bool (o.kind == 4)))] 4 ?_
     refine od ?_
     refine qs ?_
     refine q_block (id := 1) (by kernel_rfl) ?_
     refine qs ?_
     refine qg ?_
     refine og 1 [(1, (ptr b1)), (2, (i64 0)), (3, (Value.bool (o.kind == 4))), (38, (Value.pointer (some ⟨b1, 1, none⟩)))] 1 ?_
     refine Ops.go (v := (Value.string (str o.frm))) (by kernel_rfl) (Runs.load (t := 9) (a := ⟨b1, 1, none⟩) (by kernel_rfl) (H4.loads (by kernel_rfl))) (d := (some 39)) (by kernel_rfl) rfl ?_
     refine Ops.call (by kernel_rfl) (d := (some 40)) (by kernel_rfl) (Name_calls _ o.frm) ?_
     rintro _ w52 ⟨rfl, K51⟩
     refine ⟨_, _, rfl, rfl, ?_⟩
     replace K0 := K0.t0 K51
     replace H4 := H4.keep K51 (fun h => h)
     clear K51
     refine og 2 [(1, (ptr b1)), (2, (i64 0)), (3, (Value.bool (o.kind == 4))), (37, (Value.bool (!(nameOk o.frm))))] 5 ?_
     refine od ?_
     refine q_cond (o := .tmp 37) (b := (!(nameOk o.frm))) (by kernel_rfl) rfl (fun h53 => ?_) (fun h53 => ?_)
     ·rw [h53]
      have p54 : (nameOk o.frm) = false := (bnot_true h53)
      refine qs ?_
      refine qg ?_
      refine og 1 [(1, (ptr b1)), (2, (i64 46)), (3, (Value.bool (o.kind == 4)))] 1 ?_
      refine od ?_
      refine q_ret (by kernel_rfl) ?_
      refine ⟨(i64 46), retv_tmp rfl rfl, ?_⟩
      have e : wrongE o = 46 := by unfold wrongE; rw [if_neg (by omega), if_neg (by omega), if_neg (by omega), if_pos (by assumption)]
      exact ⟨by rw [e], K0⟩
     ·rw [h53]
      have p55 : (nameOk o.frm) = true := (bnot_false h53)
      refine qs ?_
      refine qg ?_
      refine og 1 [(1, (ptr b1)), (2, (i64 0)), (3, (Value.bool (o.kind == 4))), (43, (ptr b1))] 1 ?_
      refine Ops.go (v := (i64 o.kind)) (by kernel_rfl) (Runs.load (t := 3) (a := ⟨b1, 0, none⟩) (by kernel_rfl) (H4.loads (by kernel_rfl))) (d := (some 44)) (by kernel_rfl) rfl ?_
      refine og 2 [(1, (ptr b1)), (2, (i64 0)), (3, (Value.bool (o.kind == 4))), (42, (Value.bool (o.kind == 5)))] 4 ?_
      refine od ?_
      refine q_cond (o := .tmp 42) (b := (o.kind == 5)) (by kernel_rfl) rfl (fun h56 => ?_) (fun h56 => ?_)
      ·rw [h56]
       have p57 : o.kind = 5 := of_beq_t h56
       refine qs ?_
       refine qg ?_
       refine og 1 [(1, (ptr b1)), (2, (i64 0)), (3, (Value.bool (o.kind == 4)))] 1 ?_
       refine od ?_
       refine q_ret (by kernel_rfl) ?_
       refine ⟨(i64 0), retv_tmp rfl rfl, ?_⟩
       exfalso; omega
      ·rw [h56]
       have p58 : ¬ (o.kind = 5) := of_beq_f h56
       refine qs ?_
       refine qs ?_
       refine qg ?_
       refine og 1 [(1, (ptr b1)), (2, (i64 0)), (3, (Value.bool (o.kind == 4))), (47, (Value.pointer (some ⟨b1, 4, none⟩)))] 1 ?_
       refine Ops.go (v := (Value.string (str o.key))) (by kernel_rfl) (Runs.load (t := 9) (a := ⟨b1, 4, none⟩) (by kernel_rfl) (H4.loads (by kernel_rfl))) (d := (some 48)) (by kernel_rfl) rfl ?_
       refine Ops.call (by kernel_rfl) (d := (some 49)) (by kernel_rfl) (Name_calls _ o.key) ?_
       rintro _ w60 ⟨rfl, K59⟩
       refine ⟨_, _, rfl, rfl, ?_⟩
       replace K0 := K0.t0 K59
       replace H4 := H4.keep K59 (fun h => h)
       clear K59
       refine og 2 [(1, (ptr b1)), (2, (i64 0)), (3, (Value.bool (o.kind == 4))), (46, (Value.bool (!(nameOk o.key))))] 5 ?_
       refine od ?_
       refine q_cond (o := .tmp 46) (b := (!(nameOk o.key))) (by kernel_rfl) rfl (fun h61 => ?_) (fun h61 => ?_)
       ·rw [h61]
        have p62 : (nameOk o.key) = false := (bnot_true h61)
        refine q_skip (by kernel_rfl) ?_
        refine q_then (o := .tmp 46) (by kernel_rfl) rfl ?_
        refine qs ?_
        refine qg ?_
        refine og 1 [(1, (ptr b1)), (2, (i64 46)), (3, (Value.bool (o.kind == 4)))] 1 ?_
        refine od ?_
        refine q_ret (by kernel_rfl) ?_
        refine ⟨(i64 46), retv_tmp rfl rfl, ?_⟩
        have e : wrongE o = 46 := by unfold wrongE; rw [if_neg (by omega), if_neg (by omega), if_neg (by omega), if_neg (ne_of_t (by assumption)), if_neg (by omega), if_pos (by assumption)]
        exact ⟨by rw [e], K0⟩
       ·rw [h61]
        have p63 : (nameOk o.key) = true := (bnot_false h61)
        refine qg ?_
        refine og 2 [(1, (ptr b1)), (2, (i64 0)), (3, (Value.bool (o.kind == 4))), (46, (Value.bool false)), (52, (Value.bool (o.kind == 4)))] 2 ?_
        refine Ops.split (o.kind == 4) (fun h64 => ?_) (fun h64 => ?_)
        ·rw [h64]
         have p65 : o.kind = 4 := of_beq_t h64
         refine og 1 [(1, (ptr b1)), (2, (i64 0)), (3, (Value.bool true)), (46, (Value.bool false)), (52, (Value.bool true)), (53, (Value.pointer (some ⟨b1, 2, none⟩)))] 3 ?_
         refine Ops.go (v := (Value.string (str o.to))) (by kernel_rfl) (Runs.load (t := 9) (a := ⟨b1, 2, none⟩) (by kernel_rfl) (H4.loads (by kernel_rfl))) (d := (some 54)) (by kernel_rfl) rfl ?_
         refine Ops.call (by kernel_rfl) (d := (some 55)) (by kernel_rfl) (Name_calls _ o.to) ?_
         rintro _ w67 ⟨rfl, K66⟩
         refine ⟨_, _, rfl, rfl, ?_⟩
         replace K0 := K0.t0 K66
         replace H4 := H4.keep K66 (fun h => h)
         clear K66
         refine og 3 [(1, (ptr b1)), (2, (i64 0)), (3, (Value.bool true)), (46, (Value.bool (!(nameOk o.to))))] 8 ?_
         refine od ?_
         refine q_cond (o := .tmp 46) (b := (!(nameOk o.to))) (by kernel_rfl) rfl (fun h68 => ?_) (fun h68 => ?_)
         ·rw [h68]
          have p69 : (nameOk o.to) = false := (bnot_true h68)
          refine qs ?_
          refine qg ?_
          refine og 1 [(1, (ptr b1)), (2, (i64 46)), (3, (Value.bool true))] 1 ?_
          refine od ?_
          refine q_ret (by kernel_rfl) ?_
          refine ⟨(i64 46), retv_tmp rfl rfl, ?_⟩
          exfalso; omega
         ·rw [h68]
          have p70 : (nameOk o.to) = true := (bnot_false h68)
          refine qs ?_
          refine qg ?_
          refine og 1 [(1, (ptr b1)), (2, (i64 0)), (3, (Value.bool true)), (59, (ptr b1))] 1 ?_
          refine Ops.go (v := (i64 o.kind)) (by kernel_rfl) (Runs.load (t := 3) (a := ⟨b1, 0, none⟩) (by kernel_rfl) (H4.loads (by kernel_rfl))) (d := (some 60)) (by kernel_rfl) rfl ?_
          refine og 2 [(1, (ptr b1)), (2, (i64 0)), (3, (Value.bool true)), (58, (Value.bool (o.kind == 1)))] 4 ?_
          refine od ?_
          rw [h25]
          refine q_else (o := .tmp 58) (by kernel_rfl) rfl ?_
          refine qs ?_
          refine qg ?_
          refine og 1 [(1, (ptr b1)), (2, (i64 0)), (3, (Value.bool true)), (63, (Value.pointer (some ⟨b1, 3, none⟩)))] 1 ?_
          refine Ops.go (v := (i64 o.amount)) (by kernel_rfl) (Runs.load (t := 2) (a := ⟨b1, 3, none⟩) (by kernel_rfl) (H4.loads (by kernel_rfl))) (d := (some 64)) (by kernel_rfl) rfl ?_
          refine og 2 [(1, (ptr b1)), (2, (i64 0)), (3, (Value.bool true)), (62, (Value.bool (decide (o.amount < 1))))] 4 ?_
          refine od ?_
          refine q_cond (o := .tmp 62) (b := (decide (o.amount < 1))) (by kernel_rfl) rfl (fun h71 => ?_) (fun h71 => ?_)
          ·rw [h71]
           have p72 : o.amount < 1 := of_decide_eq_true h71
           refine qs ?_
           refine qg ?_
           refine og 1 [(1, (ptr b1)), (2, (i64 47)), (3, (Value.bool true))] 1 ?_
           refine od ?_
           refine q_ret (by kernel_rfl) ?_
           refine ⟨(i64 47), retv_tmp rfl rfl, ?_⟩
           exfalso; omega
          ·rw [h71]
           have p73 : ¬ (o.amount < 1) := of_decide_eq_false h71
           refine qs ?_
           refine qg ?_
           refine og 3 [(1, (ptr b1)), (2, (i64 0)), (68, (Value.bool true)), (69, (Value.pointer (some ⟨b1, 1, none⟩)))] 3 ?_
           refine Ops.go (v := (Value.string (str o.frm))) (by kernel_rfl) (Runs.load (t := 9) (a := ⟨b1, 1, none⟩) (by kernel_rfl) (H4.loads (by kernel_rfl))) (d := (some 70)) (by kernel_rfl) rfl ?_
           refine og 1 [(2, (i64 0)), (68, (Value.bool true)), (70, (Value.string (str o.frm))), (71, (Value.pointer (some ⟨b1, 2, none⟩)))] 5 ?_
           refine Ops.go (v := (Value.string (str o.to))) (by kernel_rfl) (Runs.load (t := 9) (a := ⟨b1, 2, none⟩) (by kernel_rfl) (H4.loads (by kernel_rfl))) (d := (some 72)) (by kernel_rfl) rfl ?_
           refine Ops.go (v := (Value.bool (o.frm == o.to))) (by kernel_rfl) (Runs.streq (t := 9) (by kernel_rfl)) (d := (some 73)) (by kernel_rfl) rfl ?_
           refine og 2 [(2, (i64 0)), (66, (Value.bool (o.frm == o.to)))] 9 ?_
           refine od ?_
           refine q_cond (o := .tmp 66) (b := (o.frm == o.to)) (by kernel_rfl) rfl (fun h74 => ?_) (fun h74 => ?_)
           ·rw [h74]
            have p75 : (o.frm == o.to) = true := h74
            refine qs ?_
            refine qg ?_
            refine og 1 [(2, (i64 44))] 1 ?_
            refine od ?_
            refine q_ret (by kernel_rfl) ?_
            refine ⟨(i64 44), retv_tmp rfl rfl, ?_⟩
            exfalso; omega
           ·rw [h74]
            have p76 : (o.frm == o.to) = false := h74
            refine q_skip (by kernel_rfl) ?_
            refine qs ?_
            refine qg ?_
            refine og 1 [(2, (i64 0))] 1 ?_
            refine od ?_
            refine q_ret (by kernel_rfl) ?_
            refine ⟨(i64 0), retv_tmp rfl rfl, ?_⟩
            exfalso; omega
        ·rw [h64]
         have p77 : ¬ (o.kind = 4) := of_beq_f h64
         refine og 6 [(1, (ptr b1)), (2, (i64 0)), (3, (Value.bool false)), (46, (Value.bool false))] 8 ?_
         refine od ?_
         refine q_else (o := .tmp 46) (by kernel_rfl) rfl ?_
         refine qs ?_
         refine qg ?_
         refine og 1 [(1, (ptr b1)), (2, (i64 0)), (3, (Value.bool false)), (59, (ptr b1))] 1 ?_
         refine Ops.go (v := (i64 o.kind)) (by kernel_rfl) (Runs.load (t := 3) (a := ⟨b1, 0, none⟩) (by kernel_rfl) (H4.loads (by kernel_rfl))) (d := (some 60)) (by kernel_rfl) rfl ?_
         refine og 2 [(1, (ptr b1)), (2, (i64 0)), (3, (Value.bool false)), (58, (Value.bool (o.kind == 1)))] 4 ?_
         refine od ?_
         rw [h25]
         refine q_else (o := .tmp 58) (by kernel_rfl) rfl ?_
         refine qs ?_
         refine qg ?_
         refine og 1 [(1, (ptr b1)), (2, (i64 0)), (3, (Value.bool false)), (63, (Value.pointer (some ⟨b1, 3, none⟩)))] 1 ?_
         refine Ops.go (v := (i64 o.amount)) (by kernel_rfl) (Runs.load (t := 2) (a := ⟨b1, 3, none⟩) (by kernel_rfl) (H4.loads (by kernel_rfl))) (d := (some 64)) (by kernel_rfl) rfl ?_
         refine og 2 [(1, (ptr b1)), (2, (i64 0)), (3, (Value.bool false)), (62, (Value.bool (decide (o.amount < 1))))] 4 ?_
         refine od ?_
         refine q_cond (o := .tmp 62) (b := (decide (o.amount < 1))) (by kernel_rfl) rfl (fun h78 => ?_) (fun h78 => ?_)
         ·rw [h78]
          have p79 : o.amount < 1 := of_decide_eq_true h78
          refine qs ?_
          refine qg ?_
          refine og 1 [(1, (ptr b1)), (2, (i64 47)), (3, (Value.bool false))] 1 ?_
          refine od ?_
          refine q_ret (by kernel_rfl) ?_
          refine ⟨(i64 47), retv_tmp rfl rfl, ?_⟩
          have e : wrongE o = 47 := by unfold wrongE; rw [if_neg (by omega), if_neg (by omega), if_neg (by omega), if_neg (ne_of_t (by assumption)), if_neg (by omega), if_neg (ne_of_t (by assumption)), if_neg (by omega), if_neg (by omega), if_pos (by omega)]
          exact ⟨by rw [e], K0⟩
         ·rw [h78]
          have p80 : ¬ (o.amount < 1) := of_decide_eq_false h78
          refine qs ?_
          refine qg ?_
          refine og 9 [(2, (i64 0)), (66, (Value.bool false))] 9 ?_
          refine od ?_
          refine q_else (o := .tmp 66) (by kernel_rfl) rfl ?_
          refine q_skip (by kernel_rfl) ?_
          refine qs ?_
          refine qg ?_
          refine og 1 [(2, (i64 0))] 1 ?_
          refine od ?_
          refine q_ret (by kernel_rfl) ?_
          refine ⟨(i64 0), retv_tmp rfl rfl, ?_⟩
          have e : wrongE o = 0 := by unfold wrongE; rw [if_neg (by omega), if_neg (by omega), if_neg (by omega), if_neg (ne_of_t (by assumption)), if_neg (by omega), if_neg (ne_of_t (by assumption)), if_neg (by omega), if_neg (by omega), if_neg (by omega), if_neg (by omega)]
          exact ⟨by rw [e], K0⟩
    ·rw [h49]
     have p81 : ¬ (o.kind = 2) := of_beq_f h49
     refine qs ?_
     refine qg ?_
     refine og 2 [(1, (ptr b1)), (2, (i64 0)), (5, (i64 o.kind)), (28, (Value.bool (o.kind == 3)))] 2 ?_
     refine od ?_
     refine q_cond (o := .tmp 28) (b := (o.kind == 3)) (by kernel_rfl) rfl (fun h82 => ?_) (fun h82 => ?_)
     ·rw [h82]
      have p83 : o.kind = 3 := of_beq_t h82
      refine q_skip (by kernel_rfl) ?_
      refine q_then (o := .tmp 28) (by kernel_rfl) rfl ?_
      refine q_skip (by kernel_rfl) ?_
      refine qs ?_
      refine qg ?_
      refine og 1 [(1, (ptr b1)), (2, (i64 0)), (34, (ptr b1))] 1 ?_
      refine Ops.go (v := (i64 o.kind)) (by kernel_rfl) (Runs.load (t := 3) (a := ⟨b1, 0, none⟩) (by kernel_rfl) (H4.loads (by kernel_rfl))) (d := (some 35)) (by kernel_rfl) rfl ?_
      refine og 2 [(1, (ptr b1)), (2, (i64 0)), (3, (Value.bool (o.kind == 4)))] 4 ?_
      refine od ?_
      refine qs ?_
      refine q_block (id := 1) (by kernel_rfl) ?_
      refine qs ?_
      refine qg ?_
      refine og 1 [(1, (ptr b1)), (2, (i64 0)), (3, (Value.bool (o.kind == 4))), (38, (Value.pointer (some ⟨b1, 1, none⟩)))] 1 ?_
      refine Ops.go (v := (Value.string (str o.frm))) (by kernel_rfl) (Runs.load (t := 9) (a := ⟨b1, 1, none⟩) (by kernel_rfl) (H4.loads (by kernel_rfl))) (d := (some 39)) (by kernel_rfl) rfl ?_
      refine Ops.call (by kernel_rfl) (d := (some 40)) (by kernel_rfl) (Name_calls _ o.frm) ?_
      rintro _ w85 ⟨rfl, K84⟩
      refine ⟨_, _, rfl, rfl, ?_⟩
      replace K0 := K0.t0 K84
      replace H4 := H4.keep K84 (fun h => h)
      clear K84
      refine og 2 [(1, (ptr b1)), (2, (i64 0)), (3, (Value.bool (o.kind == 4))), (37, (Value.bool (!(nameOk o.frm))))] 5 ?_
      refine od ?_
      refine q_cond (o := .tmp 37) (b := (!(nameOk o.frm))) (by kernel_rfl) rfl (fun h86 => ?_) (fun h86 => ?_)
      ·rw [h86]
       have p87 : (nameOk o.frm) = false := (bnot_true h86)
       refine qs ?_
       refine qg ?_
       refine og 1 [(1, (ptr b1)), (2, (i64 46)), (3, (Value.bool (o.kind == 4)))] 1 ?_
       refine od ?_
       refine q_ret (by kernel_rfl) ?_
       refine ⟨(i64 46), retv_tmp rfl rfl, ?_⟩
       have e : wrongE o = 46 := by unfold wrongE; rw [if_neg (by omega), if_neg (by omega), if_neg (by omega), if_pos (by assumption)]
       exact ⟨by rw [e], K0⟩
      ·rw [h86]
       have p88 : (nameOk o.frm) = true := (bnot_false h86)
       refine qs ?_
       refine qg ?_
       refine og 1 [(1, (ptr b1)), (2, (i64 0)), (3, (Value.bool (o.kind == 4))), (43, (ptr b1))] 1 ?_
       refine Ops.go (v := (i64 o.kind)) (by kernel_rfl) (Runs.load (t := 3) (a := ⟨b1, 0, none⟩) (by kernel_rfl) (H4.loads (by kernel_rfl))) (d := (some 44)) (by kernel_rfl) rfl ?_
       refine og 2 [(1, (ptr b1)), (2, (i64 0)), (3, (Value.bool (o.kind == 4))), (42, (Value.bool (o.kind == 5)))] 4 ?_
       refine od ?_
       refine q_cond (o := .tmp 42) (b := (o.kind == 5)) (by kernel_rfl) rfl (fun h89 => ?_) (fun h89 => ?_)
       ·rw [h89]
        have p90 : o.kind = 5 := of_beq_t h89
        refine qs ?_
        refine qg ?_
        refine og 1 [(1, (ptr b1)), (2, (i64 0)), (3, (Value.bool (o.kind == 4)))] 1 ?_
        refine od ?_
        refine q_ret (by kernel_rfl) ?_
        refine ⟨(i64 0), retv_tmp rfl rfl, ?_⟩
        exfalso; omega
       ·rw [h89]
        have p91 : ¬ (o.kind = 5) := of_beq_f h89
        refine qs ?_
        refine qs ?_
        refine qg ?_
        refine og 1 [(1, (ptr b1)), (2, (i64 0)), (3, (Value.bool (o.kind == 4))), (47, (Value.pointer (some ⟨b1, 4, none⟩)))] 1 ?_
        refine Ops.go (v := (Value.string (str o.key))) (by kernel_rfl) (Runs.load (t := 9) (a := ⟨b1, 4, none⟩) (by kernel_rfl) (H4.loads (by kernel_rfl))) (d := (some 48)) (by kernel_rfl) rfl ?_
        refine Ops.call (by kernel_rfl) (d := (some 49)) (by kernel_rfl) (Name_calls _ o.key) ?_
        rintro _ w93 ⟨rfl, K92⟩
        refine ⟨_, _, rfl, rfl, ?_⟩
        replace K0 := K0.t0 K92
        replace H4 := H4.keep K92 (fun h => h)
        clear K92
        refine og 2 [(1, (ptr b1)), (2, (i64 0)), (3, (Value.bool (o.kind == 4))), (46, (Value.bool (!(nameOk o.key))))] 5 ?_
        refine od ?_
        refine q_cond (o := .tmp 46) (b := (!(nameOk o.key))) (by kernel_rfl) rfl (fun h94 => ?_) (fun h94 => ?_)
        ·rw [h94]
         have p95 : (nameOk o.key) = false := (bnot_true h94)
         refine q_skip (by kernel_rfl) ?_
         refine q_then (o := .tmp 46) (by kernel_rfl) rfl ?_
         refine qs ?_
         refine qg ?_
         refine og 1 [(1, (ptr b1)), (2, (i64 46)), (3, (Value.bool (o.kind == 4)))] 1 ?_
         refine od ?_
         refine q_ret (by kernel_rfl) ?_
         refine ⟨(i64 46), retv_tmp rfl rfl, ?_⟩
         have e : wrongE o = 46 := by unfold wrongE; rw [if_neg (by omega), if_neg (by omega), if_neg (by omega), if_neg (ne_of_t (by assumption)), if_neg (by omega), if_pos (by assumption)]
         exact ⟨by rw [e], K0⟩
        ·rw [h94]
         have p96 : (nameOk o.key) = true := (bnot_false h94)
         refine qg ?_
         refine og 2 [(1, (ptr b1)), (2, (i64 0)), (3, (Value.bool (o.kind == 4))), (46, (Value.bool false)), (52, (Value.bool (o.kind == 4)))] 2 ?_
         refine Ops.split (o.kind == 4) (fun h97 => ?_) (fun h97 => ?_)
         ·rw [h97]
          have p98 : o.kind = 4 := of_beq_t h97
          refine og 1 [(1, (ptr b1)), (2, (i64 0)), (3, (Value.bool true)), (46, (Value.bool false)), (52, (Value.bool true)), (53, (Value.pointer (some ⟨b1, 2, none⟩)))] 3 ?_
          refine Ops.go (v := (Value.string (str o.to))) (by kernel_rfl) (Runs.load (t := 9) (a := ⟨b1, 2, none⟩) (by kernel_rfl) (H4.loads (by kernel_rfl))) (d := (some 54)) (by kernel_rfl) rfl ?_
          refine Ops.call (by kernel_rfl) (d := (some 55)) (by kernel_rfl) (Name_calls _ o.to) ?_
          rintro _ w100 ⟨rfl, K99⟩
          refine ⟨_, _, rfl, rfl, ?_⟩
          replace K0 := K0.t0 K99
          replace H4 := H4.keep K99 (fun h => h)
          clear K99
          refine og 3 [(1, (ptr b1)), (2, (i64 0)), (3, (Value.bool true)), (46, (Value.bool (!(nameOk o.to))))] 8 ?_
          refine od ?_
          refine q_cond (o := .tmp 46) (b := (!(nameOk o.to))) (by kernel_rfl) rfl (fun h101 => ?_) (fun h101 => ?_)
          ·rw [h101]
           have p102 : (nameOk o.to) = false := (bnot_true h101)
           refine qs ?_
           refine qg ?_
           refine og 1 [(1, (ptr b1)), (2, (i64 46)), (3, (Value.bool true))] 1 ?_
           refine od ?_
           refine q_ret (by kernel_rfl) ?_
           refine ⟨(i64 46), retv_tmp rfl rfl, ?_⟩
           exfalso; omega
          ·rw [h101]
           have p103 : (nameOk o.to) = true := (bnot_false h101)
           refine qs ?_
           refine qg ?_
           refine og 1 [(1, (ptr b1)), (2, (i64 0)), (3, (Value.bool true)), (59, (ptr b1))] 1 ?_
           refine Ops.go (v := (i64 o.kind)) (by kernel_rfl) (Runs.load (t := 3) (a := ⟨b1, 0, none⟩) (by kernel_rfl) (H4.loads (by kernel_rfl))) (d := (some 60)) (by kernel_rfl) rfl ?_
           refine og 2 [(1, (ptr b1)), (2, (i64 0)), (3, (Value.bool true)), (58, (Value.bool (o.kind == 1)))] 4 ?_
           refine od ?_
           rw [h25]
           refine q_else (o := .tmp 58) (by kernel_rfl) rfl ?_
           refine qs ?_
           refine qg ?_
           refine og 1 [(1, (ptr b1)), (2, (i64 0)), (3, (Value.bool true)), (63, (Value.pointer (some ⟨b1, 3, none⟩)))] 1 ?_
           refine Ops.go (v := (i64 o.amount)) (by kernel_rfl) (Runs.load (t := 2) (a := ⟨b1, 3, none⟩) (by kernel_rfl) (H4.loads (by kernel_rfl))) (d := (some 64)) (by kernel_rfl) rfl ?_
           refine og 2 [(1, (ptr b1)), (2, (i64 0)), (3, (Value.bool true)), (62, (Value.bool (decide (o.amount < 1))))] 4 ?_
           refine od ?_
           refine q_cond (o := .tmp 62) (b := (decide (o.amount < 1))) (by kernel_rfl) rfl (fun h104 => ?_) (fun h104 => ?_)
           ·rw [h104]
            have p105 : o.amount < 1 := of_decide_eq_true h104
            refine qs ?_
            refine qg ?_
            refine og 1 [(1, (ptr b1)), (2, (i64 47)), (3, (Value.bool true))] 1 ?_
            refine od ?_
            refine q_ret (by kernel_rfl) ?_
            refine ⟨(i64 47), retv_tmp rfl rfl, ?_⟩
            exfalso; omega
           ·rw [h104]
            have p106 : ¬ (o.amount < 1) := of_decide_eq_false h104
            refine qs ?_
            refine qg ?_
            refine og 3 [(1, (ptr b1)), (2, (i64 0)), (68, (Value.bool true)), (69, (Value.pointer (some ⟨b1, 1, none⟩)))] 3 ?_
            refine Ops.go (v := (Value.string (str o.frm))) (by kernel_rfl) (Runs.load (t := 9) (a := ⟨b1, 1, none⟩) (by kernel_rfl) (H4.loads (by kernel_rfl))) (d := (some 70)) (by kernel_rfl) rfl ?_
            refine og 1 [(2, (i64 0)), (68, (Value.bool true)), (70, (Value.string (str o.frm))), (71, (Value.pointer (some ⟨b1, 2, none⟩)))] 5 ?_
            refine Ops.go (v := (Value.string (str o.to))) (by kernel_rfl) (Runs.load (t := 9) (a := ⟨b1, 2, none⟩) (by kernel_rfl) (H4.loads (by kernel_rfl))) (d := (some 72)) (by kernel_rfl) rfl ?_
            refine Ops.go (v := (Value.bool (o.frm == o.to))) (by kernel_rfl) (Runs.streq (t := 9) (by kernel_rfl)) (d := (some 73)) (by kernel_rfl) rfl ?_
            refine og 2 [(2, (i64 0)), (66, (Value.bool (o.frm == o.to)))] 9 ?_
            refine od ?_
            refine q_cond (o := .tmp 66) (b := (o.frm == o.to)) (by kernel_rfl) rfl (fun h107 => ?_) (fun h107 => ?_)
            ·rw [h107]
             have p108 : (o.frm == o.to) = true := h107
             refine qs ?_
             refine qg ?_
             refine og 1 [(2, (i64 44))] 1 ?_
             refine od ?_
             refine q_ret (by kernel_rfl) ?_
             refine ⟨(i64 44), retv_tmp rfl rfl, ?_⟩
             exfalso; omega
            ·rw [h107]
             have p109 : (o.frm == o.to) = false := h107
             refine q_skip (by kernel_rfl) ?_
             refine qs ?_
             refine qg ?_
             refine og 1 [(2, (i64 0))] 1 ?_
             refine od ?_
             refine q_ret (by kernel_rfl) ?_
             refine ⟨(i64 0), retv_tmp rfl rfl, ?_⟩
             exfalso; omega
         ·rw [h97]
          have p110 : ¬ (o.kind = 4) := of_beq_f h97
          refine og 6 [(1, (ptr b1)), (2, (i64 0)), (3, (Value.bool false)), (46, (Value.bool false))] 8 ?_
          refine od ?_
          refine q_else (o := .tmp 46) (by kernel_rfl) rfl ?_
          refine qs ?_
          refine qg ?_
          refine og 1 [(1, (ptr b1)), (2, (i64 0)), (3, (Value.bool false)), (59, (ptr b1))] 1 ?_
          refine Ops.go (v := (i64 o.kind)) (by kernel_rfl) (Runs.load (t := 3) (a := ⟨b1, 0, none⟩) (by kernel_rfl) (H4.loads (by kernel_rfl))) (d := (some 60)) (by kernel_rfl) rfl ?_
          refine og 2 [(1, (ptr b1)), (2, (i64 0)), (3, (Value.bool false)), (58, (Value.bool (o.kind == 1)))] 4 ?_
          refine od ?_
          rw [h25]
          refine q_else (o := .tmp 58) (by kernel_rfl) rfl ?_
          refine qs ?_
          refine qg ?_
          refine og 1 [(1, (ptr b1)), (2, (i64 0)), (3, (Value.bool false)), (63, (Value.pointer (some ⟨b1, 3, none⟩)))] 1 ?_
          refine Ops.go (v := (i64 o.amount)) (by kernel_rfl) (Runs.load (t := 2) (a := ⟨b1, 3, none⟩) (by kernel_rfl) (H4.loads (by kernel_rfl))) (d := (some 64)) (by kernel_rfl) rfl ?_
          refine og 2 [(1, (ptr b1)), (2, (i64 0)), (3, (Value.bool false)), (62, (Value.bool (decide (o.amount < 1))))] 4 ?_
          refine od ?_
          refine q_cond (o := .tmp 62) (b := (decide (o.amount < 1))) (by kernel_rfl) rfl (fun h111 => ?_) (fun h111 => ?_)
          ·rw [h111]
           have p112 : o.amount < 1 := of_decide_eq_true h111
           refine qs ?_
           refine qg ?_
           refine og 1 [(1, (ptr b1)), (2, (i64 47)), (3, (Value.bool false))] 1 ?_
           refine od ?_
           refine q_ret (by kernel_rfl) ?_
           refine ⟨(i64 47), retv_tmp rfl rfl, ?_⟩
           have e : wrongE o = 47 := by unfold wrongE; rw [if_neg (by omega), if_neg (by omega), if_neg (by omega), if_neg (ne_of_t (by assumption)), if_neg (by omega), if_neg (ne_of_t (by assumption)), if_neg (by omega), if_neg (by omega), if_pos (by omega)]
           exact ⟨by rw [e], K0⟩
          ·rw [h111]
           have p113 : ¬ (o.amount < 1) := of_decide_eq_false h111
           refine qs ?_
           refine qg ?_
           refine og 9 [(2, (i64 0)), (66, (Value.bool false))] 9 ?_
           refine od ?_
           refine q_else (o := .tmp 66) (by kernel_rfl) rfl ?_
           refine q_skip (by kernel_rfl) ?_
           refine qs ?_
           refine qg ?_
           refine og 1 [(2, (i64 0))] 1 ?_
           refine od ?_
           refine q_ret (by kernel_rfl) ?_
           refine ⟨(i64 0), retv_tmp rfl rfl, ?_⟩
           have e : wrongE o = 0 := by unfold wrongE; rw [if_neg (by omega), if_neg (by omega), if_neg (by omega), if_neg (ne_of_t (by assumption)), if_neg (by omega), if_neg (ne_of_t (by assumption)), if_neg (by omega), if_neg (by omega), if_neg (by omega), if_neg (by omega)]
           exact ⟨by rw [e], K0⟩
     ·rw [h82]
      have p114 : ¬ (o.kind = 3) := of_beq_f h82
      refine qs ?_
      refine qg ?_
      refine og 2 [(1, (ptr b1)), (2, (i64 0)), (5, (i64 o.kind)), (28, (Value.bool (o.kind == 4)))] 2 ?_
      refine od ?_
      refine q_cond (o := .tmp 28) (b := (o.kind == 4)) (by kernel_rfl) rfl (fun h115 => ?_) (fun h115 => ?_)
      ·rw [h115]
       have p116 : o.kind = 4 := of_beq_t h115
       refine q_skip (by kernel_rfl) ?_
       refine q_then (o := .tmp 28) (by kernel_rfl) rfl ?_
       refine q_skip (by kernel_rfl) ?_
       refine qs ?_
       refine qg ?_
       refine og 1 [(1, (ptr b1)), (2, (i64 0)), (34, (ptr b1))] 1 ?_
       refine Ops.go (v := (i64 o.kind)) (by kernel_rfl) (Runs.load (t := 3) (a := ⟨b1, 0, none⟩) (by kernel_rfl) (H4.loads (by kernel_rfl))) (d := (some 35)) (by kernel_rfl) rfl ?_
       refine og 2 [(1, (ptr b1)), (2, (i64 0)), (3, (Value.bool (o.kind == 4)))] 4 ?_
       refine od ?_
       refine qs ?_
       refine q_block (id := 1) (by kernel_rfl) ?_
       refine qs ?_
       refine qg ?_
       refine og 1 [(1, (ptr b1)), (2, (i64 0)), (3, (Value.bool (o.kind == 4))), (38, (Value.pointer (some ⟨b1, 1, none⟩)))] 1 ?_
       refine Ops.go (v := (Value.string (str o.frm))) (by kernel_rfl) (Runs.load (t := 9) (a := ⟨b1, 1, none⟩) (by kernel_rfl) (H4.loads (by kernel_rfl))) (d := (some 39)) (by kernel_rfl) rfl ?_
       refine Ops.call (by kernel_rfl) (d := (some 40)) (by kernel_rfl) (Name_calls _ o.frm) ?_
       rintro _ w118 ⟨rfl, K117⟩
       refine ⟨_, _, rfl, rfl, ?_⟩
       replace K0 := K0.t0 K117
       replace H4 := H4.keep K117 (fun h => h)
       clear K117
       refine og 2 [(1, (ptr b1)), (2, (i64 0)), (3, (Value.bool (o.kind == 4))), (37, (Value.bool (!(nameOk o.frm))))] 5 ?_
       refine od ?_
       refine q_cond (o := .tmp 37) (b := (!(nameOk o.frm))) (by kernel_rfl) rfl (fun h119 => ?_) (fun h119 => ?_)
       ·rw [h119]
        have p120 : (nameOk o.frm) = false := (bnot_true h119)
        refine qs ?_
        refine qg ?_
        refine og 1 [(1, (ptr b1)), (2, (i64 46)), (3, (Value.bool (o.kind == 4)))] 1 ?_
        refine od ?_
        refine q_ret (by kernel_rfl) ?_
        refine ⟨(i64 46), retv_tmp rfl rfl, ?_⟩
        have e : wrongE o = 46 := by unfold wrongE; rw [if_neg (by omega), if_neg (by omega), if_neg (by omega), if_pos (by assumption)]
        exact ⟨by rw [e], K0⟩
       ·rw [h119]
        have p121 : (nameOk o.frm) = true := (bnot_false h119)
        refine qs ?_
        refine qg ?_
        refine og 1 [(1, (ptr b1)), (2, (i64 0)), (3, (Value.bool (o.kind == 4))), (43, (ptr b1))] 1 ?_
        refine Ops.go (v := (i64 o.kind)) (by kernel_rfl) (Runs.load (t := 3) (a := ⟨b1, 0, none⟩) (by kernel_rfl) (H4.loads (by kernel_rfl))) (d := (some 44)) (by kernel_rfl) rfl ?_
        refine og 2 [(1, (ptr b1)), (2, (i64 0)), (3, (Value.bool (o.kind == 4))), (42, (Value.bool (o.kind == 5)))] 4 ?_
        refine od ?_
        refine q_cond (o := .tmp 42) (b := (o.kind == 5)) (by kernel_rfl) rfl (fun h122 => ?_) (fun h122 => ?_)
        ·rw [h122]
         have p123 : o.kind = 5 := of_beq_t h122
         refine qs ?_
         refine qg ?_
         refine og 1 [(1, (ptr b1)), (2, (i64 0)), (3, (Value.bool (o.kind == 4)))] 1 ?_
         refine od ?_
         refine q_ret (by kernel_rfl) ?_
         refine ⟨(i64 0), retv_tmp rfl rfl, ?_⟩
         exfalso; omega
        ·rw [h122]
         have p124 : ¬ (o.kind = 5) := of_beq_f h122
         refine qs ?_
         refine qs ?_
         refine qg ?_
         refine og 1 [(1, (ptr b1)), (2, (i64 0)), (3, (Value.bool (o.kind == 4))), (47, (Value.pointer (some ⟨b1, 4, none⟩)))] 1 ?_
         refine Ops.go (v := (Value.string (str o.key))) (by kernel_rfl) (Runs.load (t := 9) (a := ⟨b1, 4, none⟩) (by kernel_rfl) (H4.loads (by kernel_rfl))) (d := (some 48)) (by kernel_rfl) rfl ?_
         refine Ops.call (by kernel_rfl) (d := (some 49)) (by kernel_rfl) (Name_calls _ o.key) ?_
         rintro _ w126 ⟨rfl, K125⟩
         refine ⟨_, _, rfl, rfl, ?_⟩
         replace K0 := K0.t0 K125
         replace H4 := H4.keep K125 (fun h => h)
         clear K125
         refine og 2 [(1, (ptr b1)), (2, (i64 0)), (3, (Value.bool (o.kind == 4))), (46, (Value.bool (!(nameOk o.key))))] 5 ?_
         refine od ?_
         refine q_cond (o := .tmp 46) (b := (!(nameOk o.key))) (by kernel_rfl) rfl (fun h127 => ?_) (fun h127 => ?_)
         ·rw [h127]
          have p128 : (nameOk o.key) = false := (bnot_true h127)
          refine q_skip (by kernel_rfl) ?_
          refine q_then (o := .tmp 46) (by kernel_rfl) rfl ?_
          refine qs ?_
          refine qg ?_
          refine og 1 [(1, (ptr b1)), (2, (i64 46)), (3, (Value.bool (o.kind == 4)))] 1 ?_
          refine od ?_
          refine q_ret (by kernel_rfl) ?_
          refine ⟨(i64 46), retv_tmp rfl rfl, ?_⟩
          have e : wrongE o = 46 := by unfold wrongE; rw [if_neg (by omega), if_neg (by omega), if_neg (by omega), if_neg (ne_of_t (by assumption)), if_neg (by omega), if_pos (by assumption)]
          exact ⟨by rw [e], K0⟩
         ·rw [h127]
          have p129 : (nameOk o.key) = true := (bnot_false h127)
          refine qg ?_
          refine og 2 [(1, (ptr b1)), (2, (i64 0)), (3, (Value.bool (o.kind == 4))), (46, (Value.bool false)), (52, (Value.bool (o.kind == 4)))] 2 ?_
          rw [h115]
          refine og 1 [(1, (ptr b1)), (2, (i64 0)), (3, (Value.bool true)), (46, (Value.bool false)), (52, (Value.bool true)), (53, (Value.pointer (some ⟨b1, 2, none⟩)))] 3 ?_
          refine Ops.go (v := (Value.string (str o.to))) (by kernel_rfl) (Runs.load (t := 9) (a := ⟨b1, 2, none⟩) (by kernel_rfl) (H4.loads (by kernel_rfl))) (d := (some 54)) (by kernel_rfl) rfl ?_
          refine Ops.call (by kernel_rfl) (d := (some 55)) (by kernel_rfl) (Name_calls _ o.to) ?_
          rintro _ w131 ⟨rfl, K130⟩
          refine ⟨_, _, rfl, rfl, ?_⟩
          replace K0 := K0.t0 K130
          replace H4 := H4.keep K130 (fun h => h)
          clear K130
          refine og 3 [(1, (ptr b1)), (2, (i64 0)), (3, (Value.bool true)), (46, (Value.bool (!(nameOk o.to))))] 8 ?_
          refine od ?_
          refine q_cond (o := .tmp 46) (b := (!(nameOk o.to))) (by kernel_rfl) rfl (fun h132 => ?_) (fun h132 => ?_)
          ·rw [h132]
           have p133 : (nameOk o.to) = false := (bnot_true h132)
           refine qs ?_
           refine qg ?_
           refine og 1 [(1, (ptr b1)), (2, (i64 46)), (3, (Value.bool true))] 1 ?_
           refine od ?_
           refine q_ret (by kernel_rfl) ?_
           refine ⟨(i64 46), retv_tmp rfl rfl, ?_⟩
           have e : wrongE o = 46 := by unfold wrongE; rw [if_neg (by omega), if_neg (by omega), if_neg (by omega), if_neg (ne_of_t (by assumption)), if_neg (by omega), if_neg (ne_of_t (by assumption)), if_neg (by omega), if_pos ⟨by omega, by assumption⟩]
           exact ⟨by rw [e], K0⟩
          ·rw [h132]
           have p134 : (nameOk o.to) = true := (bnot_false h132)
           refine qs ?_
           refine qg ?_
           refine og 1 [(1, (ptr b1)), (2, (i64 0)), (3, (Value.bool true)), (59, (ptr b1))] 1 ?_
           refine Ops.go (v := (i64 o.kind)) (by kernel_rfl) (Runs.load (t := 3) (a := ⟨b1, 0, none⟩) (by kernel_rfl) (H4.loads (by kernel_rfl))) (d := (some 60)) (by kernel_rfl) rfl ?_
           refine og 2 [(1, (ptr b1)), (2, (i64 0)), (3, (Value.bool true)), (58, (Value.bool (o.kind == 1)))] 4 ?_
           refine od ?_
           rw [h25]
           refine q_else (o := .tmp 58) (by kernel_rfl) rfl ?_
           refine qs ?_
           refine qg ?_
           refine og 1 [(1, (ptr b1)), (2, (i64 0)), (3, (Value.bool true)), (63, (Value.pointer (some ⟨b1, 3, none⟩)))] 1 ?_
           refine Ops.go (v := (i64 o.amount)) (by kernel_rfl) (Runs.load (t := 2) (a := ⟨b1, 3, none⟩) (by kernel_rfl) (H4.loads (by kernel_rfl))) (d := (some 64)) (by kernel_rfl) rfl ?_
           refine og 2 [(1, (ptr b1)), (2, (i64 0)), (3, (Value.bool true)), (62, (Value.bool (decide (o.amount < 1))))] 4 ?_
           refine od ?_
           refine q_cond (o := .tmp 62) (b := (decide (o.amount < 1))) (by kernel_rfl) rfl (fun h135 => ?_) (fun h135 => ?_)
           ·rw [h135]
            have p136 : o.amount < 1 := of_decide_eq_true h135
            refine qs ?_
            refine qg ?_
            refine og 1 [(1, (ptr b1)), (2, (i64 47)), (3, (Value.bool true))] 1 ?_
            refine od ?_
            refine q_ret (by kernel_rfl) ?_
            refine ⟨(i64 47), retv_tmp rfl rfl, ?_⟩
            have e : wrongE o = 47 := by unfold wrongE; rw [if_neg (by omega), if_neg (by omega), if_neg (by omega), if_neg (ne_of_t (by assumption)), if_neg (by omega), if_neg (ne_of_t (by assumption)), if_neg (by omega), if_neg (and_ne_of_t (by assumption)), if_pos (by omega)]
            exact ⟨by rw [e], K0⟩
           ·rw [h135]
            have p137 : ¬ (o.amount < 1) := of_decide_eq_false h135
            refine qs ?_
            refine qg ?_
            refine og 3 [(1, (ptr b1)), (2, (i64 0)), (68, (Value.bool true)), (69, (Value.pointer (some ⟨b1, 1, none⟩)))] 3 ?_
            refine Ops.go (v := (Value.string (str o.frm))) (by kernel_rfl) (Runs.load (t := 9) (a := ⟨b1, 1, none⟩) (by kernel_rfl) (H4.loads (by kernel_rfl))) (d := (some 70)) (by kernel_rfl) rfl ?_
            refine og 1 [(2, (i64 0)), (68, (Value.bool true)), (70, (Value.string (str o.frm))), (71, (Value.pointer (some ⟨b1, 2, none⟩)))] 5 ?_
            refine Ops.go (v := (Value.string (str o.to))) (by kernel_rfl) (Runs.load (t := 9) (a := ⟨b1, 2, none⟩) (by kernel_rfl) (H4.loads (by kernel_rfl))) (d := (some 72)) (by kernel_rfl) rfl ?_
            refine Ops.go (v := (Value.bool (o.frm == o.to))) (by kernel_rfl) (Runs.streq (t := 9) (by kernel_rfl)) (d := (some 73)) (by kernel_rfl) rfl ?_
            refine og 2 [(2, (i64 0)), (66, (Value.bool (o.frm == o.to)))] 9 ?_
            refine od ?_
            refine q_cond (o := .tmp 66) (b := (o.frm == o.to)) (by kernel_rfl) rfl (fun h138 => ?_) (fun h138 => ?_)
            ·rw [h138]
             have p139 : (o.frm == o.to) = true := h138
             refine qs ?_
             refine qg ?_
             refine og 1 [(2, (i64 44))] 1 ?_
             refine od ?_
             refine q_ret (by kernel_rfl) ?_
             refine ⟨(i64 44), retv_tmp rfl rfl, ?_⟩
             have e : wrongE o = 44 := by unfold wrongE; rw [if_neg (by omega), if_neg (by omega), if_neg (by omega), if_neg (ne_of_t (by assumption)), if_neg (by omega), if_neg (ne_of_t (by assumption)), if_neg (by omega), if_neg (and_ne_of_t (by assumption)), if_neg (by omega), if_pos ⟨by omega, by first | exact beq_true_eq (by assumption) | exact (beq_true_eq (by assumption)).symm⟩]
             exact ⟨by rw [e], K0⟩
            ·rw [h138]
             have p140 : (o.frm == o.to) = false := h138
             refine q_skip (by kernel_rfl) ?_
             refine qs ?_
             refine qg ?_
             refine og 1 [(2, (i64 0))] 1 ?_
             refine od ?_
             refine q_ret (by kernel_rfl) ?_
             refine ⟨(i64 0), retv_tmp rfl rfl, ?_⟩
             have e : wrongE o = 0 := by unfold wrongE; rw [if_neg (by omega), if_neg (by omega), if_neg (by omega), if_neg (ne_of_t (by assumption)), if_neg (by omega), if_neg (ne_of_t (by assumption)), if_neg (by omega), if_neg (and_ne_of_t (by assumption)), if_neg (by omega), if_neg (and_ne (by first | exact beq_false_ne (by assumption) | exact fun h => beq_false_ne (by assumption) h.symm))]
             exact ⟨by rw [e], K0⟩
      ·rw [h115]
       have p141 : ¬ (o.kind = 4) := of_beq_f h115
       refine qg ?_
       refine og 2 [(1, (ptr b1)), (2, (i64 0)), (28, (Value.bool (o.kind == 5)))] 2 ?_
       refine od ?_
       refine q_cond (o := .tmp 28) (b := (o.kind == 5)) (by kernel_rfl) rfl (fun h142 => ?_) (fun h142 => ?_)
       ·rw [h142]
        have p143 : o.kind = 5 := of_beq_t h142
        refine q_skip (by kernel_rfl) ?_
        refine qs ?_
        refine qg ?_
        refine og 1 [(1, (ptr b1)), (2, (i64 0)), (34, (ptr b1))] 1 ?_
        refine Ops.go (v := (i64 o.kind)) (by kernel_rfl) (Runs.load (t := 3) (a := ⟨b1, 0, none⟩) (by kernel_rfl) (H4.loads (by kernel_rfl))) (d := (some 35)) (by kernel_rfl) rfl ?_
        refine og 2 [(1, (ptr b1)), (2, (i64 0)), (3, (Value.bool (o.kind == 4)))] 4 ?_
        refine od ?_
        refine qs ?_
        refine q_block (id := 1) (by kernel_rfl) ?_
        refine qs ?_
        refine qg ?_
        refine og 1 [(1, (ptr b1)), (2, (i64 0)), (3, (Value.bool (o.kind == 4))), (38, (Value.pointer (some ⟨b1, 1, none⟩)))] 1 ?_
        refine Ops.go (v := (Value.string (str o.frm))) (by kernel_rfl) (Runs.load (t := 9) (a := ⟨b1, 1, none⟩) (by kernel_rfl) (H4.loads (by kernel_rfl))) (d := (some 39)) (by kernel_rfl) rfl ?_
        refine Ops.call (by kernel_rfl) (d := (some 40)) (by kernel_rfl) (Name_calls _ o.frm) ?_
        rintro _ w145 ⟨rfl, K144⟩
        refine ⟨_, _, rfl, rfl, ?_⟩
        replace K0 := K0.t0 K144
        replace H4 := H4.keep K144 (fun h => h)
        clear K144
        refine og 2 [(1, (ptr b1)), (2, (i64 0)), (3, (Value.bool (o.kind == 4))), (37, (Value.bool (!(nameOk o.frm))))] 5 ?_
        refine od ?_
        refine q_cond (o := .tmp 37) (b := (!(nameOk o.frm))) (by kernel_rfl) rfl (fun h146 => ?_) (fun h146 => ?_)
        ·rw [h146]
         have p147 : (nameOk o.frm) = false := (bnot_true h146)
         refine qs ?_
         refine qg ?_
         refine og 1 [(1, (ptr b1)), (2, (i64 46)), (3, (Value.bool (o.kind == 4)))] 1 ?_
         refine od ?_
         refine q_ret (by kernel_rfl) ?_
         refine ⟨(i64 46), retv_tmp rfl rfl, ?_⟩
         have e : wrongE o = 46 := by unfold wrongE; rw [if_neg (by omega), if_neg (by omega), if_neg (by omega), if_pos (by assumption)]
         exact ⟨by rw [e], K0⟩
        ·rw [h146]
         have p148 : (nameOk o.frm) = true := (bnot_false h146)
         refine qs ?_
         refine qg ?_
         refine og 1 [(1, (ptr b1)), (2, (i64 0)), (3, (Value.bool (o.kind == 4))), (43, (ptr b1))] 1 ?_
         refine Ops.go (v := (i64 o.kind)) (by kernel_rfl) (Runs.load (t := 3) (a := ⟨b1, 0, none⟩) (by kernel_rfl) (H4.loads (by kernel_rfl))) (d := (some 44)) (by kernel_rfl) rfl ?_
         refine og 2 [(1, (ptr b1)), (2, (i64 0)), (3, (Value.bool (o.kind == 4))), (42, (Value.bool (o.kind == 5)))] 4 ?_
         refine od ?_
         rw [h142]
         refine q_then (o := .tmp 42) (by kernel_rfl) rfl ?_
         refine qs ?_
         refine qg ?_
         refine og 1 [(1, (ptr b1)), (2, (i64 0)), (3, (Value.bool (o.kind == 4)))] 1 ?_
         refine od ?_
         refine q_ret (by kernel_rfl) ?_
         refine ⟨(i64 0), retv_tmp rfl rfl, ?_⟩
         have e : wrongE o = 0 := by unfold wrongE; rw [if_neg (by omega), if_neg (by omega), if_neg (by omega), if_neg (ne_of_t (by assumption)), if_pos (by omega)]
         exact ⟨by rw [e], K0⟩
       ·rw [h142]
        have p149 : ¬ (o.kind = 5) := of_beq_f h142
        refine qs ?_
        refine qg ?_
        refine og 1 [(1, (ptr b1)), (2, (i64 1))] 1 ?_
        refine od ?_
        refine q_ret (by kernel_rfl) ?_
        refine ⟨(i64 1), retv_tmp rfl rfl, ?_⟩
        have e : wrongE o = 1 := by unfold wrongE; rw [if_neg (by omega), if_neg (by omega), if_pos (by omega)]
        exact ⟨by rw [e], K0⟩

theorem RWrong_calls (w : World) (o : Opm)  : Calls Tryd.prog 16 ⟨[(agg [(i64 o.kind), (Value.string (str o.frm)), (Value.string (str o.to)), (i64 o.amount), (Value.string (str o.key)), (i64 o.slot), (i64 o.shard)])]⟩ w (fun e w' => e = .returned (i64 (wrongE o)) ∧ Keeps none_ w w') := by
 have K0 : Keeps none_ w w := Keeps.refl w
 refine q_calls Tryd.func16 (by kernel_rfl) (by kernel_rfl) ?_
 refine qs ?_
 refine qg ?_
 refine Ops.new (o := rowL [(i64 o.kind), (Value.string (str o.frm)), (Value.string (str o.to)), (i64 o.amount), (Value.string (str o.key)), (i64 o.slot), (i64 o.shard)] 35) (V := fun b => (ptr b)) (by kernel_rfl) (d := (some 1)) (by kernel_rfl) (fun b => rfl) (fun b1 w2 hb3 H4 K5 hs6 => ?_)
 have nb1 : w.heap.size ≤ b1 := by have := K0.size; omega
 replace K0 := K0.t0 K5
 clear K5 hs6
 refine og 1 [(1, (ptr b1)), (2, (i64 0))] 2 ?_
 refine od ?_
 refine qs ?_
 refine q_block (id := 0) (by kernel_rfl) ?_
 refine qs ?_
 refine qg ?_
 refine og 1 [(1, (ptr b1)), (2, (i64 0)), (4, (ptr b1))] 1 ?_
 refine Ops.go (v := (i64 o.kind)) (by kernel_rfl) (Runs.load (t := 3) (a := ⟨b1, 0, none⟩) (by kernel_rfl) (H4.loads (by kernel_rfl))) (d := (some 5)) (by kernel_rfl) rfl ?_
 refine og 2 [(1, (ptr b1)), (2, (i64 0)), (7, (Value.bool (decide (o.kind < 1))))] 4 ?_
 refine Ops.split (decide (o.kind < 1)) (fun h7 => ?_) (fun h7 => ?_)
 ·rw [h7]
  have p8 : o.kind < 1 := of_decide_eq_true h7
  refine og 5 [(1, (ptr b1)), (2, (i64 0)), (3, (Value.bool true))] 9 ?_
  refine od ?_
  refine q_then (o := .tmp 3) (by kernel_rfl) rfl ?_
  refine qs ?_
  refine qg ?_
  refine og 1 [(1, (ptr b1)), (2, (i64 1))] 1 ?_
  refine od ?_
  refine q_ret (by kernel_rfl) ?_
  refine ⟨(i64 1), retv_tmp rfl rfl, ?_⟩
  have e : wrongE o = 1 := by unfold wrongE; rw [if_neg (by omega), if_neg (by omega), if_pos (by omega)]
  exact ⟨by rw [e], K0⟩
 ·rw [h7]
  have p9 : ¬ (o.kind < 1) := of_decide_eq_false h7
  refine og 1 [(1, (ptr b1)), (2, (i64 0)), (7, (Value.bool false)), (8, (ptr b1))] 5 ?_
  refine Ops.go (v := (i64 o.kind)) (by kernel_rfl) (Runs.load (t := 3) (a := ⟨b1, 0, none⟩) (by kernel_rfl) (H4.loads (by kernel_rfl))) (d := (some 9)) (by kernel_rfl) rfl ?_
  refine og 3 [(1, (ptr b1)), (2, (i64 0)), (3, (Value.bool (decide (o.kind > 7))))] 9 ?_
  refine od ?_
  refine q_cond (o := .tmp 3) (b := (decide (o.kind > 7))) (by kernel_rfl) rfl (fun h10 => ?_) (fun h10 => ?_)
  ·rw [h10]
   have p11 : o.kind > 7 := of_decide_eq_true h10
   refine qs ?_
   refine qg ?_
   refine og 1 [(1, (ptr b1)), (2, (i64 1))] 1 ?_
   refine od ?_
   refine q_ret (by kernel_rfl) ?_
   refine ⟨(i64 1), retv_tmp rfl rfl, ?_⟩
   have e : wrongE o = 1 := by unfold wrongE; rw [if_neg (by omega), if_neg (by omega), if_pos (by omega)]
   exact ⟨by rw [e], K0⟩
  ·rw [h10]
   have p12 : ¬ (o.kind > 7) := of_decide_eq_false h10
   refine qs ?_
   refine qg ?_
   refine og 1 [(1, (ptr b1)), (2, (i64 0)), (13, (ptr b1))] 1 ?_
   refine Ops.go (v := (i64 o.kind)) (by kernel_rfl) (Runs.load (t := 3) (a := ⟨b1, 0, none⟩) (by kernel_rfl) (H4.loads (by kernel_rfl))) (d := (some 14)) (by kernel_rfl) rfl ?_
   refine og 2 [(1, (ptr b1)), (2, (i64 0)), (12, (Value.bool (o.kind == 6)))] 4 ?_
   refine od ?_
   refine q_cond (o := .tmp 12) (b := (o.kind == 6)) (by kernel_rfl) rfl (fun h13 => ?_) (fun h13 => ?_)
   ·rw [h13]
    have p14 : o.kind = 6 := of_beq_t h13
    refine qs ?_
    refine qg ?_
    refine og 1 [(1, (ptr b1)), (2, (i64 0))] 1 ?_
    refine od ?_
    refine q_ret (by kernel_rfl) ?_
    refine ⟨(i64 0), retv_tmp rfl rfl, ?_⟩
    have e : wrongE o = 0 := by unfold wrongE; rw [if_pos (by omega)]
    exact ⟨by rw [e], K0⟩
   ·rw [h13]
    have p15 : ¬ (o.kind = 6) := of_beq_f h13
    refine qs ?_
    refine qg ?_
    refine og 1 [(1, (ptr b1)), (2, (i64 0)), (17, (ptr b1))] 1 ?_
    refine Ops.go (v := (i64 o.kind)) (by kernel_rfl) (Runs.load (t := 3) (a := ⟨b1, 0, none⟩) (by kernel_rfl) (H4.loads (by kernel_rfl))) (d := (some 18)) (by kernel_rfl) rfl ?_
    refine og 2 [(1, (ptr b1)), (2, (i64 0)), (16, (Value.bool (o.kind == 7)))] 4 ?_
    refine od ?_
    refine q_cond (o := .tmp 16) (b := (o.kind == 7)) (by kernel_rfl) rfl (fun h16 => ?_) (fun h16 => ?_)
    ·rw [h16]
     have p17 : o.kind = 7 := of_beq_t h16
     refine qs ?_
     refine qs ?_
     refine qg ?_
     refine og 1 [(1, (ptr b1)), (2, (i64 0)), (20, (Value.pointer (some ⟨b1, 5, none⟩)))] 1 ?_
     refine Ops.go (v := (i64 o.slot)) (by kernel_rfl) (Runs.load (t := 3) (a := ⟨b1, 5, none⟩) (by kernel_rfl) (H4.loads (by kernel_rfl))) (d := (some 21)) (by kernel_rfl) rfl ?_
     refine og 2 [(1, (ptr b1)), (2, (i64 0)), (23, (Value.bool (decide (o.slot < 0))))] 4 ?_
     refine Ops.split (decide (o.slot < 0)) (fun h18 => ?_) (fun h18 => ?_)
     ·rw [h18]
      have p19 : o.slot < 0 := of_decide_eq_true h18
      refine og 14 [(1, (ptr b1)), (2, (i64 0)), (37, (Value.bool true))] 18 ?_
      refine od ?_
      refine q_then (o := .tmp 37) (by kernel_rfl) rfl ?_
      refine qs ?_
      refine qg ?_
      refine og 1 [(1, (ptr b1)), (2, (i64 1))] 1 ?_
      refine od ?_
      refine q_ret (by kernel_rfl) ?_
      refine ⟨(i64 1), retv_tmp rfl rfl, ?_⟩
      have e : wrongE o = 1 := by unfold wrongE; rw [if_neg (by omega), if_pos (by omega), if_pos (by omega)]
      exact ⟨by rw [e], K0⟩
     ·rw [h18]
      have p20 : ¬ (o.slot < 0) := of_decide_eq_false h18
      refine og 1 [(1, (ptr b1)), (2, (i64 0)), (23, (Value.bool false)), (24, (Value.pointer (some ⟨b1, 5, none⟩)))] 5 ?_
      refine Ops.go (v := (i64 o.slot)) (by kernel_rfl) (Runs.load (t := 3) (a := ⟨b1, 5, none⟩) (by kernel_rfl) (H4.loads (by kernel_rfl))) (d := (some 25)) (by kernel_rfl) rfl ?_
      refine og 3 [(1, (ptr b1)), (2, (i64 0)), (28, (Value.bool (decide (o.slot > 15))))] 9 ?_
      refine Ops.split (decide (o.slot > 15)) (fun h21 => ?_) (fun h21 => ?_)
      ·rw [h21]
       have p22 : o.slot > 15 := of_decide_eq_true h21
       refine og 9 [(1, (ptr b1)), (2, (i64 0)), (37, (Value.bool true))] 18 ?_
       refine od ?_
       refine q_then (o := .tmp 37) (by kernel_rfl) rfl ?_
       refine qs ?_
       refine qg ?_
       refine og 1 [(1, (ptr b1)), (2, (i64 1))] 1 ?_
       refine od ?_
       refine q_ret (by kernel_rfl) ?_
       refine ⟨(i64 1), retv_tmp rfl rfl, ?_⟩
       have e : wrongE o = 1 := by unfold wrongE; rw [if_neg (by omega), if_pos (by omega), if_pos (by omega)]
       exact ⟨by rw [e], K0⟩
      ·rw [h21]
       have p23 : ¬ (o.slot > 15) := of_decide_eq_false h21
       refine og 1 [(1, (ptr b1)), (2, (i64 0)), (28, (Value.bool false)), (29, (Value.pointer (some ⟨b1, 6, none⟩)))] 10 ?_
       refine Ops.go (v := (i64 o.shard)) (by kernel_rfl) (Runs.load (t := 3) (a := ⟨b1, 6, none⟩) (by kernel_rfl) (H4.loads (by kernel_rfl))) (d := (some 30)) (by kernel_rfl) rfl ?_
       refine og 3 [(1, (ptr b1)), (2, (i64 0)), (33, (Value.bool (decide (o.shard < 1))))] 14 ?_
       refine Ops.split (decide (o.shard < 1)) (fun h24 => ?_) (fun h24 => ?_)
       ·rw [h24]
        have p25 : o.shard < 1 := of_decide_eq_true h24
        refine og 4 [(1, (ptr b1)), (2, (i64 0)), (37, (Value.bool true))] 18 ?_
        refine od ?_
        refine q_then (o := .tmp 37) (by kernel_rfl) rfl ?_
        refine qs ?_
        refine qg ?_
        refine og 1 [(1, (ptr b1)), (2, (i64 1))] 1 ?_
        refine od ?_
        refine q_ret (by kernel_rfl) ?_
        refine ⟨(i64 1), retv_tmp rfl rfl, ?_⟩
        have e : wrongE o = 1 := by unfold wrongE; rw [if_neg (by omega), if_pos (by omega), if_pos (by omega)]
        exact ⟨by rw [e], K0⟩
       ·rw [h24]
        have p26 : ¬ (o.shard < 1) := of_decide_eq_false h24
        refine og 1 [(1, (ptr b1)), (2, (i64 0)), (33, (Value.bool false)), (34, (Value.pointer (some ⟨b1, 6, none⟩)))] 15 ?_
        refine Ops.go (v := (i64 o.shard)) (by kernel_rfl) (Runs.load (t := 3) (a := ⟨b1, 6, none⟩) (by kernel_rfl) (H4.loads (by kernel_rfl))) (d := (some 35)) (by kernel_rfl) rfl ?_
        refine og 2 [(1, (ptr b1)), (2, (i64 0)), (37, (Value.bool (decide (o.shard > 3))))] 18 ?_
        refine od ?_
        refine q_cond (o := .tmp 37) (b := (decide (o.shard > 3))) (by kernel_rfl) rfl (fun h27 => ?_) (fun h27 => ?_)
        ·rw [h27]
         have p28 : o.shard > 3 := of_decide_eq_true h27
         refine qs ?_
         refine qg ?_
         refine og 1 [(1, (ptr b1)), (2, (i64 1))] 1 ?_
         refine od ?_
         refine q_ret (by kernel_rfl) ?_
         refine ⟨(i64 1), retv_tmp rfl rfl, ?_⟩
         have e : wrongE o = 1 := by unfold wrongE; rw [if_neg (by omega), if_pos (by omega), if_pos (by omega)]
         exact ⟨by rw [e], K0⟩
        ·rw [h27]
         have p29 : ¬ (o.shard > 3) := of_decide_eq_false h27
         refine q_skip (by kernel_rfl) ?_
         refine qs ?_
         refine qg ?_
         refine og 1 [(1, (ptr b1)), (2, (i64 0))] 1 ?_
         refine od ?_
         refine q_ret (by kernel_rfl) ?_
         refine ⟨(i64 0), retv_tmp rfl rfl, ?_⟩
         have e : wrongE o = 0 := by unfold wrongE; rw [if_neg (by omega), if_pos (by omega), if_neg (by omega)]
         exact ⟨by rw [e], K0⟩
    ·rw [h16]
     have p30 : ¬ (o.kind = 7) := of_beq_f h16
     refine qs ?_
     refine qg ?_
     refine og 1 [(1, (ptr b1)), (2, (i64 0)), (39, (Value.pointer (some ⟨b1, 1, none⟩)))] 1 ?_
     refine Ops.go (v := (Value.string (str o.frm))) (by kernel_rfl) (Runs.load (t := 9) (a := ⟨b1, 1, none⟩) (by kernel_rfl) (H4.loads (by kernel_rfl))) (d := (some 40)) (by kernel_rfl) rfl ?_
     refine Ops.call (by kernel_rfl) (d := (some 41)) (by kernel_rfl) (RName_calls _ o.frm) ?_
     rintro _ w32 ⟨rfl, K31⟩
     refine ⟨_, _, rfl, rfl, ?_⟩
     replace K0 := K0.t0 K31
     replace H4 := H4.keep K31 (fun h => h)
     clear K31
     refine og 2 [(1, (ptr b1)), (2, (i64 0)), (38, (Value.bool (!(nameOk o.frm))))] 5 ?_
     refine od ?_
     refine q_cond (o := .tmp 38) (b := (!(nameOk o.frm))) (by kernel_rfl) rfl (fun h33 => ?_) (fun h33 => ?_)
     ·rw [h33]
      have p34 : (nameOk o.frm) = false := (bnot_true h33)
      refine qs ?_
      refine qg ?_
      refine og 1 [(1, (ptr b1)), (2, (i64 46))] 1 ?_
      refine od ?_
      refine q_ret (by kernel_rfl) ?_
      refine ⟨(i64 46), retv_tmp rfl rfl, ?_⟩
      have e : wrongE o = 46 := by unfold wrongE; rw [if_neg (by omega), if_neg (by omega), if_neg (by omega), if_pos (by assumption)]
      exact ⟨by rw [e], K0⟩
     ·rw [h33]
      have p35 : (nameOk o.frm) = true := (bnot_false h33)
      refine qs ?_
      refine qg ?_
      refine og 1 [(1, (ptr b1)), (2, (i64 0)), (44, (ptr b1))] 1 ?_
      refine Ops.go (v := (i64 o.kind)) (by kernel_rfl) (Runs.load (t := 3) (a := ⟨b1, 0, none⟩) (by kernel_rfl) (H4.loads (by kernel_rfl))) (d := (some 45)) (by kernel_rfl) rfl ?_
      refine og 2 [(1, (ptr b1)), (2, (i64 0)), (43, (Value.bool (o.kind == 5)))] 4 ?_
      refine od ?_
      refine q_cond (o := .tmp 43) (b := (o.kind == 5)) (by kernel_rfl) rfl (fun h36 => ?_) (fun h36 => ?_)
      ·rw [h36]
       have p37 : o.kind = 5 := of_beq_t h36
       refine qs ?_
       refine qg ?_
       refine og 1 [(1, (ptr b1)), (2, (i64 0))] 1 ?_
       refine od ?_
       refine q_ret (by kernel_rfl) ?_
       refine ⟨(i64 0), retv_tmp rfl rfl, ?_⟩
       have e : wrongE o = 0 := by unfold wrongE; rw [if_neg (by omega), if_neg (by omega), if_neg (by omega), if_neg (ne_of_t (by assumption)), if_pos (by omega)]
       exact ⟨by rw [e], K0⟩
      ·rw [h36]
       have p38 : ¬ (o.kind = 5) := of_beq_f h36
       refine qs ?_
       refine qg ?_
       refine og 1 [(1, (ptr b1)), (2, (i64 0)), (48, (Value.pointer (some ⟨b1, 4, none⟩)))] 1 ?_
       refine Ops.go (v := (Value.string (str o.key))) (by kernel_rfl) (Runs.load (t := 9) (a := ⟨b1, 4, none⟩) (by kernel_rfl) (H4.loads (by kernel_rfl))) (d := (some 49)) (by kernel_rfl) rfl ?_
       refine Ops.call (by kernel_rfl) (d := (some 50)) (by kernel_rfl) (RName_calls _ o.key) ?_
       rintro _ w40 ⟨rfl, K39⟩
       refine ⟨_, _, rfl, rfl, ?_⟩
       replace K0 := K0.t0 K39
       replace H4 := H4.keep K39 (fun h => h)
       clear K39
       refine og 2 [(1, (ptr b1)), (2, (i64 0)), (47, (Value.bool (!(nameOk o.key))))] 5 ?_
       refine od ?_
       refine q_cond (o := .tmp 47) (b := (!(nameOk o.key))) (by kernel_rfl) rfl (fun h41 => ?_) (fun h41 => ?_)
       ·rw [h41]
        have p42 : (nameOk o.key) = false := (bnot_true h41)
        refine qs ?_
        refine qg ?_
        refine og 1 [(1, (ptr b1)), (2, (i64 46))] 1 ?_
        refine od ?_
        refine q_ret (by kernel_rfl) ?_
        refine ⟨(i64 46), retv_tmp rfl rfl, ?_⟩
        have e : wrongE o = 46 := by unfold wrongE; rw [if_neg (by omega), if_neg (by omega), if_neg (by omega), if_neg (ne_of_t (by assumption)), if_neg (by omega), if_pos (by assumption)]
        exact ⟨by rw [e], K0⟩
       ·rw [h41]
        have p43 : (nameOk o.key) = true := (bnot_false h41)
        refine qs ?_
        refine qg ?_
        refine og 1 [(1, (ptr b1)), (2, (i64 0)), (53, (ptr b1))] 1 ?_
        refine Ops.go (v := (i64 o.kind)) (by kernel_rfl) (Runs.load (t := 3) (a := ⟨b1, 0, none⟩) (by kernel_rfl) (H4.loads (by kernel_rfl))) (d := (some 54)) (by kernel_rfl) rfl ?_
        refine og 2 [(1, (ptr b1)), (2, (i64 0)), (52, (Value.bool (o.kind == 1)))] 4 ?_
        refine od ?_
        refine q_cond (o := .tmp 52) (b := (o.kind == 1)) (by kernel_rfl) rfl (fun h44 => ?_) (fun h44 => ?_)
        ·rw [h44]
         have p45 : o.kind = 1 := of_beq_t h44
         refine qs ?_
         refine qg ?_
         refine og 1 [(1, (ptr b1)), (2, (i64 0))] 1 ?_
         refine od ?_
         refine q_ret (by kernel_rfl) ?_
         refine ⟨(i64 0), retv_tmp rfl rfl, ?_⟩
         have e : wrongE o = 0 := by unfold wrongE; rw [if_neg (by omega), if_neg (by omega), if_neg (by omega), if_neg (ne_of_t (by assumption)), if_neg (by omega), if_neg (ne_of_t (by assumption)), if_pos (by omega)]
         exact ⟨by rw [e], K0⟩
        ·rw [h44]
         have p46 : ¬ (o.kind = 1) := of_beq_f h44
         refine qs ?_
         refine qg ?_
         refine og 1 [(1, (ptr b1)), (2, (i64 0)), (57, (ptr b1))] 1 ?_
         refine Ops.go (v := (i64 o.kind)) (by kernel_rfl) (Runs.load (t := 3) (a := ⟨b1, 0, none⟩) (by kernel_rfl) (H4.loads (by kernel_rfl))) (d := (some 58)) (by kernel_rfl) rfl ?_
         refine og 2 [(1, (ptr b1)), (2, (i64 0)), (60, (Value.bool (o.kind == 4)))] 4 ?_
         refine Ops.split (o.kind == 4) (fun h47 => ?_) (fun h47 => ?_)
         ·rw [h47]
          have p48 : o.kind = 4 := of_beq_t h47
          refine og 1 [(1, (ptr b1)), (2, (i64 0)), (60, (Value.bool true)), (61, (Value.pointer (some ⟨b1, 2, none⟩)))] 5 ?_
          refine Ops.go (v := (Value.string (str o.to))) (by kernel_rfl) (Runs.load (t := 9) (a := ⟨b1, 2, none⟩) (by kernel_rfl) (H4.loads (by kernel_rfl))) (d := (some 62)) (by kernel_rfl) rfl ?_
          refine Ops.call (by kernel_rfl) (d := (some 63)) (by kernel_rfl) (RName_calls _ o.to) ?_
          rintro _ w50 ⟨rfl, K49⟩
          refine ⟨_, _, rfl, rfl, ?_⟩
          replace K0 := K0.t0 K49
          replace H4 := H4.keep K49 (fun h => h)
          clear K49
          refine og 3 [(1, (ptr b1)), (2, (i64 0)), (56, (Value.bool (!(nameOk o.to))))] 10 ?_
          refine od ?_
          refine q_cond (o := .tmp 56) (b := (!(nameOk o.to))) (by kernel_rfl) rfl (fun h51 => ?_) (fun h51 => ?_)
          ·rw [h51]
           have p52 : (nameOk o.to) = false := (bnot_true h51)
           refine qs ?_
           refine qg ?_
           refine og 1 [(1, (ptr b1)), (2, (i64 46))] 1 ?_
           refine od ?_
           refine q_ret (by kernel_rfl) ?_
           refine ⟨(i64 46), retv_tmp rfl rfl, ?_⟩
           have e : wrongE o = 46 := by unfold wrongE; rw [if_neg (by omega), if_neg (by omega), if_neg (by omega), if_neg (ne_of_t (by assumption)), if_neg (by omega), if_neg (ne_of_t (by assumption)), if_neg (by omega), if_pos ⟨by omega, by assumption⟩]
           exact ⟨by rw [e], K0⟩
          ·rw [h51]
           have p53 : (nameOk o.to) = true := (bnot_false h51)
           refine qs ?_
           refine qg ?_
           refine og 1 [(1, (ptr b1)), (2, (i64 0)), (67, (Value.pointer (some ⟨b1, 3, none⟩)))] 1 ?_
           refine Ops.go (v := (i64 o.amount)) (by kernel_rfl) (Runs.load (t := 2) (a := ⟨b1, 3, none⟩) (by kernel_rfl) (H4.loads (by kernel_rfl))) (d := (some 68)) (by kernel_rfl) rfl ?_
           refine og 2 [(1, (ptr b1)), (2, (i64 0)), (66, (Value.bool (decide (o.amount < 1))))] 4 ?_
           refine od ?_
           refine q_cond (o := .tmp 66) (b := (decide (o.amount < 1))) (by kernel_rfl) rfl (fun h54 => ?_) (fun h54 => ?_)
           ·rw [h54]
            have p55 : o.amount < 1 := of_decide_eq_true h54
            refine qs ?_
            refine qg ?_
            refine og 1 [(1, (ptr b1)), (2, (i64 47))] 1 ?_
            refine od ?_
            refine q_ret (by kernel_rfl) ?_
            refine ⟨(i64 47), retv_tmp rfl rfl, ?_⟩
            have e : wrongE o = 47 := by unfold wrongE; rw [if_neg (by omega), if_neg (by omega), if_neg (by omega), if_neg (ne_of_t (by assumption)), if_neg (by omega), if_neg (ne_of_t (by assumption)), if_neg (by omega), if_neg (and_ne_of_t (by assumption)), if_pos (by omega)]
            exact ⟨by rw [e], K0⟩
           ·rw [h54]
            have p56 : ¬ (o.amount < 1) := of_decide_eq_false h54
            refine qs ?_
            refine qg ?_
            refine og 1 [(1, (ptr b1)), (2, (i64 0)), (71, (ptr b1))] 1 ?_
            refine Ops.go (v := (i64 o.kind)) (by kernel_rfl) (Runs.load (t := 3) (a := ⟨b1, 0, none⟩) (by kernel_rfl) (H4.loads (by kernel_rfl))) (d := (some 72)) (by kernel_rfl) rfl ?_
            refine og 2 [(1, (ptr b1)), (2, (i64 0)), (74, (Value.bool (o.kind == 4)))] 4 ?_
            rw [h47]
            refine og 1 [(1, (ptr b1)), (2, (i64 0)), (74, (Value.bool true)), (75, (Value.pointer (some ⟨b1, 2, none⟩)))] 5 ?_
            refine Ops.go (v := (Value.string (str o.to))) (by kernel_rfl) (Runs.load (t := 9) (a := ⟨b1, 2, none⟩) (by kernel_rfl) (H4.loads (by kernel_rfl))) (d := (some 76)) (by kernel_rfl) rfl ?_
            refine og 1 [(2, (i64 0)), (74, (Value.bool true)), (76, (Value.string (str o.to))), (77, (Value.pointer (some ⟨b1, 1, none⟩)))] 7 ?_
            refine Ops.go (v := (Value.string (str o.frm))) (by kernel_rfl) (Runs.load (t := 9) (a := ⟨b1, 1, none⟩) (by kernel_rfl) (H4.loads (by kernel_rfl))) (d := (some 78)) (by kernel_rfl) rfl ?_
            refine Ops.go (v := (Value.bool (o.to == o.frm))) (by kernel_rfl) (Runs.streq (t := 9) (by kernel_rfl)) (d := (some 79)) (by kernel_rfl) rfl ?_
            refine og 2 [(2, (i64 0)), (70, (Value.bool (o.to == o.frm)))] 11 ?_
            refine od ?_
            refine q_cond (o := .tmp 70) (b := (o.to == o.frm)) (by kernel_rfl) rfl (fun h57 => ?_) (fun h57 => ?_)
            ·rw [h57]
             have p58 : (o.to == o.frm) = true := h57
             refine qs ?_
             refine qg ?_
             refine og 1 [(2, (i64 44))] 1 ?_
             refine od ?_
             refine q_ret (by kernel_rfl) ?_
             refine ⟨(i64 44), retv_tmp rfl rfl, ?_⟩
             have e : wrongE o = 44 := by unfold wrongE; rw [if_neg (by omega), if_neg (by omega), if_neg (by omega), if_neg (ne_of_t (by assumption)), if_neg (by omega), if_neg (ne_of_t (by assumption)), if_neg (by omega), if_neg (and_ne_of_t (by assumption)), if_neg (by omega), if_pos ⟨by omega, by first | exact beq_true_eq (by assumption) | exact (beq_true_eq (by assumption)).symm⟩]
             exact ⟨by rw [e], K0⟩
            ·rw [h57]
             have p59 : (o.to == o.frm) = false := h57
             refine q_skip (by kernel_rfl) ?_
             refine qs ?_
             refine qg ?_
             refine og 1 [(2, (i64 0))] 1 ?_
             refine od ?_
             refine q_ret (by kernel_rfl) ?_
             refine ⟨(i64 0), retv_tmp rfl rfl, ?_⟩
             have e : wrongE o = 0 := by unfold wrongE; rw [if_neg (by omega), if_neg (by omega), if_neg (by omega), if_neg (ne_of_t (by assumption)), if_neg (by omega), if_neg (ne_of_t (by assumption)), if_neg (by omega), if_neg (and_ne_of_t (by assumption)), if_neg (by omega), if_neg (and_ne (by first | exact beq_false_ne (by assumption) | exact fun h => beq_false_ne (by assumption) h.symm))]
             exact ⟨by rw [e], K0⟩
         ·rw [h47]
          have p60 : ¬ (o.kind = 4) := of_beq_f h47
          refine og 6 [(1, (ptr b1)), (2, (i64 0)), (56, (Value.bool false))] 10 ?_
          refine od ?_
          refine q_else (o := .tmp 56) (by kernel_rfl) rfl ?_
          refine qs ?_
          refine qg ?_
          refine og 1 [(1, (ptr b1)), (2, (i64 0)), (67, (Value.pointer (some ⟨b1, 3, none⟩)))] 1 ?_
          refine Ops.go (v := (i64 o.amount)) (by kernel_rfl) (Runs.load (t := 2) (a := ⟨b1, 3, none⟩) (by kernel_rfl) (H4.loads (by kernel_rfl))) (d := (some 68)) (by kernel_rfl) rfl ?_
          refine og 2 [(1, (ptr b1)), (2, (i64 0)), (66, (Value.bool (decide (o.amount < 1))))] 4 ?_
          refine od ?_
          refine q_cond (o := .tmp 66) (b := (decide (o.amount < 1))) (by kernel_rfl) rfl (fun h61 => ?_) (fun h61 => ?_)
          ·rw [h61]
           have p62 : o.amount < 1 := of_decide_eq_true h61
           refine qs ?_
           refine qg ?_
           refine og 1 [(1, (ptr b1)), (2, (i64 47))] 1 ?_
           refine od ?_
           refine q_ret (by kernel_rfl) ?_
           refine ⟨(i64 47), retv_tmp rfl rfl, ?_⟩
           have e : wrongE o = 47 := by unfold wrongE; rw [if_neg (by omega), if_neg (by omega), if_neg (by omega), if_neg (ne_of_t (by assumption)), if_neg (by omega), if_neg (ne_of_t (by assumption)), if_neg (by omega), if_neg (by omega), if_pos (by omega)]
           exact ⟨by rw [e], K0⟩
          ·rw [h61]
           have p63 : ¬ (o.amount < 1) := of_decide_eq_false h61
           refine qs ?_
           refine qg ?_
           refine og 1 [(1, (ptr b1)), (2, (i64 0)), (71, (ptr b1))] 1 ?_
           refine Ops.go (v := (i64 o.kind)) (by kernel_rfl) (Runs.load (t := 3) (a := ⟨b1, 0, none⟩) (by kernel_rfl) (H4.loads (by kernel_rfl))) (d := (some 72)) (by kernel_rfl) rfl ?_
           refine og 2 [(1, (ptr b1)), (2, (i64 0)), (74, (Value.bool (o.kind == 4)))] 4 ?_
           rw [h47]
           refine og 7 [(2, (i64 0)), (70, (Value.bool false))] 11 ?_
           refine od ?_
           refine q_else (o := .tmp 70) (by kernel_rfl) rfl ?_
           refine q_skip (by kernel_rfl) ?_
           refine qs ?_
           refine qg ?_
           refine og 1 [(2, (i64 0))] 1 ?_
           refine od ?_
           refine q_ret (by kernel_rfl) ?_
           refine ⟨(i64 0), retv_tmp rfl rfl, ?_⟩
           have e : wrongE o = 0 := by unfold wrongE; rw [if_neg (by omega), if_neg (by omega), if_neg (by omega), if_neg (ne_of_t (by assumption)), if_neg (by omega), if_neg (ne_of_t (by assumption)), if_neg (by omega), if_neg (by omega), if_neg (by omega), if_neg (by omega)]
           exact ⟨by rw [e], K0⟩
end Go.Proofs.YtooginpgclcldaaDoor
