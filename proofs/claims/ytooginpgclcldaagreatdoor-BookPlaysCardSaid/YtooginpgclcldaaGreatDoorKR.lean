/- the program's reader -/
import Derived.Test.YtooginpgclcldaaGreatDoorProg
import Derived.Test.YtooginpgclcldaaGreatDoorKD
import Derived.Test.YtooginpgclcldaaGreatDoorLC
import Derived.Test.YtooginpgclcldaaGreatDoorLX
set_option linter.unusedVariables false
namespace Go.Proofs.YtooginpgclcldaaGreatDoor
open Go.Q Go.RowKit

theorem scan_calls (w : World) (A : Option Addr) (c : Nat) (bs : List UInt8) (hv : RdB w (.slice A bs.length c) bs) (hl : bs.length ≤ 140737488351232) : Calls Tryz.prog 83 ⟨[(Value.slice A bs.length c)]⟩ w (fun e w' => e = .returned (.tuple #[.int .u64 (((scanB bs).1 : Nat) : Int), i64 (((scanB bs).2.1 : Nat) : Int), i64 (scanB bs).2.2]) ∧ Keeps none_ w w') := by
 have K0 : Keeps none_ w w := Keeps.refl w
 refine q_calls Tryz.func83 (by kernel_rfl) (by kernel_rfl) ?_
 refine qs ?_
 refine qg ?_
 refine og 3 [(0, (Value.slice A bs.length c)), (2, (Value.int IntKind.u64 0)), (3, (i64 0)), (4, (i64 0))] 3 ?_
 refine od ?_
 refine q_scope (by kernel_rfl) ?_
 refine qs ?_
 refine qg ?_
 refine og 2 [(0, (Value.slice A bs.length c)), (2, (Value.int IntKind.u64 0)), (3, (i64 0)), (4, (i64 0)), (5, (Value.int IntKind.u64 0)), (6, (i64 10))] 2 ?_
 refine od ?_
 refine qs ?_
 refine qg ?_
 refine og 1 [(0, (Value.slice A bs.length c)), (2, (Value.int IntKind.u64 0)), (3, (i64 0)), (4, (i64 0)), (5, (Value.int IntKind.u64 0)), (6, (i64 10)), (7, (i64 0))] 1 ?_
 refine od ?_
 refine qs ?_
 refine q_label (by kernel_rfl) ?_
 refine qs ?_
 refine qs ?_
 refine qg ?_
 refine og 3 [(2, (Value.int IntKind.u64 0)), (3, (i64 0)), (4, (i64 0)), (5, (Value.int IntKind.u64 0)), (6, (i64 10)), (7, (i64 0)), (10, (Value.slice A bs.length c)), (11, (i64 ((bs.length : Nat) : Int))), (12, (i64 0))] 3 ?_
 refine od ?_
 refine q_block (id := 0) (by kernel_rfl) ?_
 refine q_keep (R := [(2, (Value.int IntKind.u64 0)), (3, (i64 0)), (4, (i64 0)), (5, (Value.int IntKind.u64 0)), (6, (i64 10)), (7, (i64 0)), (10, (Value.slice A bs.length c)), (11, (i64 ((bs.length : Nat) : Int))), (12, (i64 0))]) (by kernel_rfl) ?_
 refine q_loop (fun (gs : Nat × Nat) L (wx : World) => match gs with | (i, n) => L = [(2, (Value.int IntKind.u64 0)), (3, (i64 0)), (4, (i64 0)), (5, (Value.int IntKind.u64 ((n : Nat) : Int))), (6, (i64 10)), (7, (i64 0)), (10, (Value.slice A bs.length c)), (11, (i64 ((bs.length : Nat) : Int))), (12, (i64 ((i : Nat) : Int)))] ∧ scanA (bs.drop i) i n = scanB bs ∧ i ≤ 9 ∧ i ≤ bs.length ∧ n < p7 i ∧ Keeps none_ w wx) (fun (gs : Nat × Nat) => match gs with | (i, n) => bs.length - i) (0, 0) (by kernel_rfl) ⟨rfl, rfl, (by omega), (by omega), (p7_pos 0), K0⟩ ?_
 clear K0
 rintro ⟨i, n⟩ _ w1 ⟨rfl, hE, hi, hil, hn, K2⟩
 refine qs ?_
 refine qg ?_
 refine og 1 [(2, (Value.int IntKind.u64 0)), (3, (i64 0)), (4, (i64 0)), (5, (Value.int IntKind.u64 ((n : Nat) : Int))), (6, (i64 10)), (7, (i64 0)), (10, (Value.slice A bs.length c)), (11, (i64 ((bs.length : Nat) : Int))), (12, (i64 ((i : Nat) : Int))), (13, (Value.bool (decide (((i : Nat) : Int) < ((bs.length : Nat) : Int)))))] 1 ?_
 refine od ?_
 refine qs ?_
 refine q_cond (o := .tmp 13) (b := (decide (((i : Nat) : Int) < ((bs.length : Nat) : Int)))) (by kernel_rfl) rfl (fun h3 => ?_) (fun h3 => ?_)
 ·rw [h3]
  have p4 : ((i : Nat) : Int) < ((bs.length : Nat) : Int) := of_decide_eq_true h3
  obtain ⟨x, lb, lo, hx, hA, hLd⟩ := RdB.at (P := Tryz.prog) (t := 5) hv (k := i) (by kernel_rfl) (by omega)
  have hx256 : x.toNat < 256 := x.toNat_lt
  refine q_skip (by kernel_rfl) ?_
  refine qs ?_
  refine q_block (id := 1) (by kernel_rfl) ?_
  refine qs ?_
  refine qg ?_
  refine og 1 [(2, (Value.int IntKind.u64 0)), (3, (i64 0)), (4, (i64 0)), (5, (Value.int IntKind.u64 ((n : Nat) : Int))), (6, (i64 10)), (7, (i64 0)), (10, (Value.slice A bs.length c)), (11, (i64 ((bs.length : Nat) : Int))), (12, (i64 ((i : Nat) : Int))), (13, (Value.bool true)), (14, (i64 ((i : Nat) : Int)))] 1 ?_
  refine Ops.go (by kernel_rfl) (Runs.ixSliceE (k := IntKind.i64) (t := 22) (len := bs.length) (cap := c) (s := 1) (off' := lo + i) (i := ((i : Nat) : Int)) hA (by kernel_rfl) (by kernel_rfl) (by omega) (by omega) (by omega)) (d := (some 15)) (by kernel_rfl) rfl ?_
  refine Ops.go (v := (Value.int IntKind.u8 ((x.toNat : Nat) : Int))) (by kernel_rfl) (Runs.load (t := 5) (a := ⟨lb, lo + i, none⟩) (by kernel_rfl) (hLd _ _ K2 (fun h => h))) (d := (some 16)) (by kernel_rfl) rfl ?_
  refine og 2 [(2, (Value.int IntKind.u64 0)), (3, (i64 0)), (4, (i64 0)), (5, (Value.int IntKind.u64 ((n : Nat) : Int))), (6, (i64 10)), (7, (i64 0)), (8, (i64 ((i : Nat) : Int))), (9, (Value.int IntKind.u8 ((x.toNat : Nat) : Int))), (10, (Value.slice A bs.length c)), (11, (i64 ((bs.length : Nat) : Int))), (12, (i64 ((i : Nat) : Int))), (13, (Value.bool true))] 5 ?_
  refine od ?_
  refine qs ?_
  refine qs ?_
  refine qg ?_
  refine og 3 [(2, (Value.int IntKind.u64 0)), (3, (i64 0)), (4, (i64 0)), (5, (Value.int IntKind.u64 ((n : Nat) : Int))), (6, (i64 10)), (7, (i64 0)), (8, (i64 ((i : Nat) : Int))), (9, (Value.int IntKind.u8 ((x.toNat : Nat) : Int))), (10, (Value.slice A bs.length c)), (11, (i64 ((bs.length : Nat) : Int))), (12, (i64 ((i : Nat) : Int))), (13, (Value.bool true)), (19, (Value.bool (((i : Nat) : Int) == 9)))] 3 ?_
  refine Ops.split (((i : Nat) : Int) == 9) (fun h5 => ?_) (fun h5 => ?_)
  ·rw [h5]
   have p6 : ((i : Nat) : Int) = 9 := of_beq_t h5
   refine og 4 [(2, (Value.int IntKind.u64 0)), (3, (i64 0)), (4, (i64 0)), (5, (Value.int IntKind.u64 ((n : Nat) : Int))), (6, (i64 10)), (7, (i64 0)), (8, (i64 ((i : Nat) : Int))), (9, (Value.int IntKind.u8 ((x.toNat : Nat) : Int))), (10, (Value.slice A bs.length c)), (11, (i64 ((bs.length : Nat) : Int))), (12, (i64 ((i : Nat) : Int))), (13, (Value.bool true)), (23, (Value.bool (decide (((x.toNat : Nat) : Int) > 1))))] 7 ?_
   refine Ops.split (decide (((x.toNat : Nat) : Int) > 1)) (fun h7 => ?_) (fun h7 => ?_)
   ·rw [h7]
    have p8 : ((x.toNat : Nat) : Int) > 1 := of_decide_eq_true h7
    refine og 7 [(2, (Value.int IntKind.u64 0)), (3, (i64 0)), (4, (i64 0)), (5, (Value.int IntKind.u64 ((n : Nat) : Int))), (6, (i64 10)), (7, (i64 0)), (8, (i64 ((i : Nat) : Int))), (9, (Value.int IntKind.u8 ((x.toNat : Nat) : Int))), (10, (Value.slice A bs.length c)), (11, (i64 ((bs.length : Nat) : Int))), (12, (i64 ((i : Nat) : Int))), (13, (Value.bool true)), (30, (Value.bool true))] 14 ?_
    refine od ?_
    refine q_then (o := .tmp 30) (by kernel_rfl) rfl ?_
    refine qs ?_
    refine qg ?_
    refine og 1 [(2, (Value.int IntKind.u64 0)), (3, (i64 0)), (4, (i64 0)), (5, (Value.int IntKind.u64 ((n : Nat) : Int))), (6, (i64 11)), (7, (i64 0)), (8, (i64 ((i : Nat) : Int))), (9, (Value.int IntKind.u8 ((x.toNat : Nat) : Int))), (10, (Value.slice A bs.length c)), (11, (i64 ((bs.length : Nat) : Int))), (12, (i64 ((i : Nat) : Int))), (13, (Value.bool true)), (30, (Value.bool true))] 1 ?_
    refine od ?_
    refine q_exit (id := 0) (by kernel_rfl) ?_
    refine qs ?_
    refine qg ?_
    refine og 6 [(2, (Value.int IntKind.u64 ((n : Nat) : Int))), (3, (i64 0)), (4, (i64 11))] 6 ?_
    refine od ?_
    refine q_ret (by kernel_rfl) ?_
    refine ⟨(Value.tuple #[(Value.int IntKind.u64 ((n : Nat) : Int)), (i64 0), (i64 11)]), retv_tmp3 rfl rfl rfl rfl, ?_⟩
    have e : scanB bs = (n, 0, 11) := by rw [← hE]; first | (exfalso; omega) | (rw [hx, scanA_bad (by omega)]; done) | (rw [hx, scanA_end (by omega) (by omega)]; done) | (rw [show i = bs.length from by omega, List.drop_length]; rfl)
    exact ⟨by first | (rw [e]; done) | (rw [e]; rfl), K2⟩
   ·rw [h7]
    have p9 : ¬ (((x.toNat : Nat) : Int) > 1) := of_decide_eq_false h7
    refine og 3 [(2, (Value.int IntKind.u64 0)), (3, (i64 0)), (4, (i64 0)), (5, (Value.int IntKind.u64 ((n : Nat) : Int))), (6, (i64 10)), (7, (i64 0)), (8, (i64 ((i : Nat) : Int))), (9, (Value.int IntKind.u8 ((x.toNat : Nat) : Int))), (10, (Value.slice A bs.length c)), (11, (i64 ((bs.length : Nat) : Int))), (12, (i64 ((i : Nat) : Int))), (13, (Value.bool true)), (23, (Value.bool false)), (26, (Value.bool (decide (((i : Nat) : Int) > 0))))] 10 ?_
    refine Ops.split (decide (((i : Nat) : Int) > 0)) (fun h10 => ?_) (fun h10 => ?_)
    ·rw [h10]
     have p11 : ((i : Nat) : Int) > 0 := of_decide_eq_true h10
     refine og 4 [(2, (Value.int IntKind.u64 0)), (3, (i64 0)), (4, (i64 0)), (5, (Value.int IntKind.u64 ((n : Nat) : Int))), (6, (i64 10)), (7, (i64 0)), (8, (i64 ((i : Nat) : Int))), (9, (Value.int IntKind.u8 ((x.toNat : Nat) : Int))), (10, (Value.slice A bs.length c)), (11, (i64 ((bs.length : Nat) : Int))), (12, (i64 ((i : Nat) : Int))), (13, (Value.bool true)), (30, (Value.bool (((x.toNat : Nat) : Int) == 0)))] 14 ?_
     refine od ?_
     refine q_cond (o := .tmp 30) (b := (((x.toNat : Nat) : Int) == 0)) (by kernel_rfl) rfl (fun h12 => ?_) (fun h12 => ?_)
     ·rw [h12]
      have p13 : ((x.toNat : Nat) : Int) = 0 := of_beq_t h12
      refine qs ?_
      refine qg ?_
      refine og 1 [(2, (Value.int IntKind.u64 0)), (3, (i64 0)), (4, (i64 0)), (5, (Value.int IntKind.u64 ((n : Nat) : Int))), (6, (i64 11)), (7, (i64 0)), (8, (i64 ((i : Nat) : Int))), (9, (Value.int IntKind.u8 ((x.toNat : Nat) : Int))), (10, (Value.slice A bs.length c)), (11, (i64 ((bs.length : Nat) : Int))), (12, (i64 ((i : Nat) : Int))), (13, (Value.bool true)), (30, (Value.bool true))] 1 ?_
      refine od ?_
      refine q_exit (id := 0) (by kernel_rfl) ?_
      refine qs ?_
      refine qg ?_
      refine og 6 [(2, (Value.int IntKind.u64 ((n : Nat) : Int))), (3, (i64 0)), (4, (i64 11))] 6 ?_
      refine od ?_
      refine q_ret (by kernel_rfl) ?_
      refine ⟨(Value.tuple #[(Value.int IntKind.u64 ((n : Nat) : Int)), (i64 0), (i64 11)]), retv_tmp3 rfl rfl rfl rfl, ?_⟩
      have e : scanB bs = (n, 0, 11) := by rw [← hE]; first | (exfalso; omega) | (rw [hx, scanA_bad (by omega)]; done) | (rw [hx, scanA_end (by omega) (by omega)]; done) | (rw [show i = bs.length from by omega, List.drop_length]; rfl)
      exact ⟨by first | (rw [e]; done) | (rw [e]; rfl), K2⟩
     ·rw [h12]
      have p14 : ¬ (((x.toNat : Nat) : Int) = 0) := of_beq_f h12
      refine q_skip (by kernel_rfl) ?_
      refine qs ?_
      refine qg ?_
      refine og 2 [(2, (Value.int IntKind.u64 0)), (3, (i64 0)), (4, (i64 0)), (5, (Value.int IntKind.u64 ((n : Nat) : Int))), (6, (i64 10)), (7, (i64 0)), (8, (i64 ((i : Nat) : Int))), (9, (Value.int IntKind.u8 ((x.toNat : Nat) : Int))), (10, (Value.slice A bs.length c)), (11, (i64 ((bs.length : Nat) : Int))), (12, (i64 ((i : Nat) : Int))), (13, (Value.bool true)), (30, (Value.bool false)), (31, (Value.int IntKind.u64 ((n : Nat) : Int))), (32, (Value.int IntKind.u8 ((x.toNat : Nat) : Int)))] 2 ?_
      refine Ops.go (v := (Value.int IntKind.u8 ((x.toNat % 128 : Nat) : Int))) (by kernel_rfl) (Runs.int (op := .and) (t := 5) (by kernel_rfl) (run_and127 (by omega))) (d := (some 33)) (by kernel_rfl) rfl ?_
      refine og 1 [(2, (Value.int IntKind.u64 0)), (3, (i64 0)), (4, (i64 0)), (5, (Value.int IntKind.u64 ((n : Nat) : Int))), (6, (i64 10)), (7, (i64 0)), (8, (i64 ((i : Nat) : Int))), (9, (Value.int IntKind.u8 ((x.toNat : Nat) : Int))), (10, (Value.slice A bs.length c)), (11, (i64 ((bs.length : Nat) : Int))), (12, (i64 ((i : Nat) : Int))), (13, (Value.bool true)), (30, (Value.bool false)), (31, (Value.int IntKind.u64 ((n : Nat) : Int))), (34, (Value.int IntKind.u64 (IntKind.u64.wrap (((x.toNat % 128 : Nat) : Int)))))] 4 ?_
      have e15 : IntKind.u64.wrap (((x.toNat % 128 : Nat) : Int)) = ((x.toNat % 128 : Nat) : Int) := wrap_u64 (by omega) (by omega)
      rw [e15]
      refine og 2 [(2, (Value.int IntKind.u64 0)), (3, (i64 0)), (4, (i64 0)), (5, (Value.int IntKind.u64 ((n : Nat) : Int))), (6, (i64 10)), (7, (i64 0)), (8, (i64 ((i : Nat) : Int))), (9, (Value.int IntKind.u8 ((x.toNat : Nat) : Int))), (10, (Value.slice A bs.length c)), (11, (i64 ((bs.length : Nat) : Int))), (12, (i64 ((i : Nat) : Int))), (13, (Value.bool true)), (30, (Value.bool false)), (31, (Value.int IntKind.u64 ((n : Nat) : Int))), (34, (Value.int IntKind.u64 ((x.toNat % 128 : Nat) : Int))), (36, (i64 (IntKind.i64.wrap (7 * ((i : Nat) : Int)))))] 6 ?_
      have e16 : IntKind.i64.wrap (7 * ((i : Nat) : Int)) = ((7 * i : Nat) : Int) := by rw [wrap_i64 (by omega) (by omega)]; omega
      rw [e16]
      clear e16
      have hr := scan_round (c := x) hi hn (by omega)
      refine Ops.go (v := (Value.int IntKind.u64 ((x.toNat % 128 * p7 i : Nat) : Int))) (by kernel_rfl) (Runs.int (op := .shl) (t := 63) (by kernel_rfl) (run_shl7 (k := IntKind.i64) (i := i) (s := ((7 * i : Nat) : Int)) (by omega) (by omega) hr.1)) (d := (some 37)) (by kernel_rfl) rfl ?_
      refine Ops.go (v := (Value.int IntKind.u64 ((n + x.toNat % 128 * p7 i : Nat) : Int))) (by kernel_rfl) (Runs.int (op := .or) (t := 63) (by kernel_rfl) (run_or7 hn hr.2.1)) (d := (some 38)) (by kernel_rfl) rfl ?_
      refine og 1 [(2, (Value.int IntKind.u64 0)), (3, (i64 0)), (4, (i64 0)), (5, (Value.int IntKind.u64 ((n + x.toNat % 128 * p7 i : Nat) : Int))), (6, (i64 10)), (7, (i64 0)), (8, (i64 ((i : Nat) : Int))), (9, (Value.int IntKind.u8 ((x.toNat : Nat) : Int))), (10, (Value.slice A bs.length c)), (11, (i64 ((bs.length : Nat) : Int))), (12, (i64 ((i : Nat) : Int))), (13, (Value.bool true)), (30, (Value.bool false))] 9 ?_
      refine od ?_
      refine qs ?_
      refine qg ?_
      refine og 2 [(2, (Value.int IntKind.u64 0)), (3, (i64 0)), (4, (i64 0)), (5, (Value.int IntKind.u64 ((n + x.toNat % 128 * p7 i : Nat) : Int))), (6, (i64 10)), (7, (i64 0)), (8, (i64 ((i : Nat) : Int))), (9, (Value.int IntKind.u8 ((x.toNat : Nat) : Int))), (10, (Value.slice A bs.length c)), (11, (i64 ((bs.length : Nat) : Int))), (12, (i64 ((i : Nat) : Int))), (13, (Value.bool true)), (30, (Value.bool false)), (40, (Value.bool (decide (((x.toNat : Nat) : Int) < 128))))] 2 ?_
      refine od ?_
      refine q_cond (o := .tmp 40) (b := (decide (((x.toNat : Nat) : Int) < 128))) (by kernel_rfl) rfl (fun h17 => ?_) (fun h17 => ?_)
      ·rw [h17]
       have p18 : ((x.toNat : Nat) : Int) < 128 := of_decide_eq_true h17
       refine qs ?_
       refine qg ?_
       refine og 2 [(2, (Value.int IntKind.u64 0)), (3, (i64 0)), (4, (i64 0)), (5, (Value.int IntKind.u64 ((n + x.toNat % 128 * p7 i : Nat) : Int))), (6, (i64 10)), (7, (i64 0)), (8, (i64 ((i : Nat) : Int))), (9, (Value.int IntKind.u8 ((x.toNat : Nat) : Int))), (10, (Value.slice A bs.length c)), (11, (i64 ((bs.length : Nat) : Int))), (12, (i64 ((i : Nat) : Int))), (13, (Value.bool true)), (30, (Value.bool false)), (40, (Value.bool true)), (42, (i64 (IntKind.i64.wrap (((i : Nat) : Int) + 1))))] 2 ?_
       have e19 : IntKind.i64.wrap (((i : Nat) : Int) + 1) = ((i + 1 : Nat) : Int) := by rw [wrap_i64 (by omega) (by omega)]; omega
       rw [e19]
       clear e19
       refine og 2 [(2, (Value.int IntKind.u64 0)), (3, (i64 0)), (4, (i64 0)), (5, (Value.int IntKind.u64 ((n + x.toNat % 128 * p7 i : Nat) : Int))), (6, (i64 0)), (7, (i64 ((i + 1 : Nat) : Int))), (8, (i64 ((i : Nat) : Int))), (9, (Value.int IntKind.u8 ((x.toNat : Nat) : Int))), (10, (Value.slice A bs.length c)), (11, (i64 ((bs.length : Nat) : Int))), (12, (i64 ((i : Nat) : Int))), (13, (Value.bool true)), (30, (Value.bool false)), (40, (Value.bool true))] 4 ?_
       refine od ?_
       refine q_exit (id := 0) (by kernel_rfl) ?_
       refine qs ?_
       refine qg ?_
       refine og 6 [(2, (Value.int IntKind.u64 ((n + x.toNat % 128 * p7 i : Nat) : Int))), (3, (i64 ((i + 1 : Nat) : Int))), (4, (i64 0))] 6 ?_
       refine od ?_
       refine q_ret (by kernel_rfl) ?_
       refine ⟨(Value.tuple #[(Value.int IntKind.u64 ((n + x.toNat % 128 * p7 i : Nat) : Int)), (i64 ((i + 1 : Nat) : Int)), (i64 0)]), retv_tmp3 rfl rfl rfl rfl, ?_⟩
       have e : scanB bs = (n + x.toNat % 128 * p7 i, i + 1, 0) := by rw [← hE]; first | (exfalso; omega) | (rw [hx, scanA_bad (by omega)]; done) | (rw [hx, scanA_end (by omega) (by omega)]; done) | (rw [show i = bs.length from by omega, List.drop_length]; rfl)
       exact ⟨by first | (rw [e]; done) | (rw [e]; rfl), K2⟩
      ·rw [h17]
       have p20 : ¬ (((x.toNat : Nat) : Int) < 128) := of_decide_eq_false h17
       refine q_skip (by kernel_rfl) ?_
       refine qg ?_
       refine og 1 [(2, (Value.int IntKind.u64 0)), (3, (i64 0)), (4, (i64 0)), (5, (Value.int IntKind.u64 ((n + x.toNat % 128 * p7 i : Nat) : Int))), (6, (i64 10)), (7, (i64 0)), (8, (i64 ((i : Nat) : Int))), (9, (Value.int IntKind.u8 ((x.toNat : Nat) : Int))), (10, (Value.slice A bs.length c)), (11, (i64 ((bs.length : Nat) : Int))), (12, (i64 ((i : Nat) : Int))), (13, (Value.bool true)), (30, (Value.bool false)), (40, (Value.bool false)), (43, (i64 (IntKind.i64.wrap (((i : Nat) : Int) + 1))))] 1 ?_
       have e21 : IntKind.i64.wrap (((i : Nat) : Int) + 1) = ((i + 1 : Nat) : Int) := by rw [wrap_i64 (by omega) (by omega)]; omega
       rw [e21]
       clear e21
       refine og 1 [(2, (Value.int IntKind.u64 0)), (3, (i64 0)), (4, (i64 0)), (5, (Value.int IntKind.u64 ((n + x.toNat % 128 * p7 i : Nat) : Int))), (6, (i64 10)), (7, (i64 0)), (8, (i64 ((i : Nat) : Int))), (9, (Value.int IntKind.u8 ((x.toNat : Nat) : Int))), (10, (Value.slice A bs.length c)), (11, (i64 ((bs.length : Nat) : Int))), (12, (i64 ((i + 1 : Nat) : Int))), (13, (Value.bool true)), (30, (Value.bool false)), (40, (Value.bool false))] 2 ?_
       refine Ops.keep (R := [(2, (Value.int IntKind.u64 0)), (3, (i64 0)), (4, (i64 0)), (5, (Value.int IntKind.u64 ((n + x.toNat % 128 * p7 i : Nat) : Int))), (6, (i64 10)), (7, (i64 0)), (10, (Value.slice A bs.length c)), (11, (i64 ((bs.length : Nat) : Int))), (12, (i64 ((i + 1 : Nat) : Int)))]) (by kernel_rfl) ?_
       refine od ?_
       exact ⟨(i + 1, n + x.toNat % 128 * p7 i), ⟨rfl, (by rw [← hE, hx, scanA_more (by omega) (by omega)]), (by omega), (by omega), (hr.2.2 (by omega)), K2⟩, (show bs.length - (i + 1) < bs.length - i from by omega)⟩
    ·rw [h10]
     have p22 : ¬ (((i : Nat) : Int) > 0) := of_decide_eq_false h10
     refine og 4 [(2, (Value.int IntKind.u64 0)), (3, (i64 0)), (4, (i64 0)), (5, (Value.int IntKind.u64 ((n : Nat) : Int))), (6, (i64 10)), (7, (i64 0)), (8, (i64 ((i : Nat) : Int))), (9, (Value.int IntKind.u8 ((x.toNat : Nat) : Int))), (10, (Value.slice A bs.length c)), (11, (i64 ((bs.length : Nat) : Int))), (12, (i64 ((i : Nat) : Int))), (13, (Value.bool true)), (30, (Value.bool false))] 14 ?_
     refine od ?_
     refine q_else (o := .tmp 30) (by kernel_rfl) rfl ?_
     refine q_skip (by kernel_rfl) ?_
     refine qs ?_
     refine qg ?_
     refine og 2 [(2, (Value.int IntKind.u64 0)), (3, (i64 0)), (4, (i64 0)), (5, (Value.int IntKind.u64 ((n : Nat) : Int))), (6, (i64 10)), (7, (i64 0)), (8, (i64 ((i : Nat) : Int))), (9, (Value.int IntKind.u8 ((x.toNat : Nat) : Int))), (10, (Value.slice A bs.length c)), (11, (i64 ((bs.length : Nat) : Int))), (12, (i64 ((i : Nat) : Int))), (13, (Value.bool true)), (30, (Value.bool false)), (31, (Value.int IntKind.u64 ((n : Nat) : Int))), (32, (Value.int IntKind.u8 ((x.toNat : Nat) : Int)))] 2 ?_
     refine Ops.go (v := (Value.int IntKind.u8 ((x.toNat % 128 : Nat) : Int))) (by kernel_rfl) (Runs.int (op := .and) (t := 5) (by kernel_rfl) (run_and127 (by omega))) (d := (some 33)) (by kernel_rfl) rfl ?_
     refine og 1 [(2, (Value.int IntKind.u64 0)), (3, (i64 0)), (4, (i64 0)), (5, (Value.int IntKind.u64 ((n : Nat) : Int))), (6, (i64 10)), (7, (i64 0)), (8, (i64 ((i : Nat) : Int))), (9, (Value.int IntKind.u8 ((x.toNat : Nat) : Int))), (10, (Value.slice A bs.length c)), (11, (i64 ((bs.length : Nat) : Int))), (12, (i64 ((i : Nat) : Int))), (13, (Value.bool true)), (30, (Value.bool false)), (31, (Value.int IntKind.u64 ((n : Nat) : Int))), (34, (Value.int IntKind.u64 (IntKind.u64.wrap (((x.toNat % 128 : Nat) : Int)))))] 4 ?_
     have e23 : IntKind.u64.wrap (((x.toNat % 128 : Nat) : Int)) = ((x.toNat % 128 : Nat) : Int) := wrap_u64 (by omega) (by omega)
     rw [e23]
     refine og 2 [(2, (Value.int IntKind.u64 0)), (3, (i64 0)), (4, (i64 0)), (5, (Value.int IntKind.u64 ((n : Nat) : Int))), (6, (i64 10)), (7, (i64 0)), (8, (i64 ((i : Nat) : Int))), (9, (Value.int IntKind.u8 ((x.toNat : Nat) : Int))), (10, (Value.slice A bs.length c)), (11, (i64 ((bs.length : Nat) : Int))), (12, (i64 ((i : Nat) : Int))), (13, (Value.bool true)), (30, (Value.bool false)), (31, (Value.int IntKind.u64 ((n : Nat) : Int))), (34, (Value.int IntKind.u64 ((x.toNat % 128 : Nat) : Int))), (36, (i64 (IntKind.i64.wrap (7 * ((i : Nat) : Int)))))] 6 ?_
     have e24 : IntKind.i64.wrap (7 * ((i : Nat) : Int)) = ((7 * i : Nat) : Int) := by rw [wrap_i64 (by omega) (by omega)]; omega
     rw [e24]
     clear e24
     have hr := scan_round (c := x) hi hn (by omega)
     refine Ops.go (v := (Value.int IntKind.u64 ((x.toNat % 128 * p7 i : Nat) : Int))) (by kernel_rfl) (Runs.int (op := .shl) (t := 63) (by kernel_rfl) (run_shl7 (k := IntKind.i64) (i := i) (s := ((7 * i : Nat) : Int)) (by omega) (by omega) hr.1)) (d := (some 37)) (by kernel_rfl) rfl ?_
     refine Ops.go (v := (Value.int IntKind.u64 ((n + x.toNat % 128 * p7 i : Nat) : Int))) (by kernel_rfl) (Runs.int (op := .or) (t := 63) (by kernel_rfl) (run_or7 hn hr.2.1)) (d := (some 38)) (by kernel_rfl) rfl ?_
     refine og 1 [(2, (Value.int IntKind.u64 0)), (3, (i64 0)), (4, (i64 0)), (5, (Value.int IntKind.u64 ((n + x.toNat % 128 * p7 i : Nat) : Int))), (6, (i64 10)), (7, (i64 0)), (8, (i64 ((i : Nat) : Int))), (9, (Value.int IntKind.u8 ((x.toNat : Nat) : Int))), (10, (Value.slice A bs.length c)), (11, (i64 ((bs.length : Nat) : Int))), (12, (i64 ((i : Nat) : Int))), (13, (Value.bool true)), (30, (Value.bool false))] 9 ?_
     refine od ?_
     refine qs ?_
     refine qg ?_
     refine og 2 [(2, (Value.int IntKind.u64 0)), (3, (i64 0)), (4, (i64 0)), (5, (Value.int IntKind.u64 ((n + x.toNat % 128 * p7 i : Nat) : Int))), (6, (i64 10)), (7, (i64 0)), (8, (i64 ((i : Nat) : Int))), (9, (Value.int IntKind.u8 ((x.toNat : Nat) : Int))), (10, (Value.slice A bs.length c)), (11, (i64 ((bs.length : Nat) : Int))), (12, (i64 ((i : Nat) : Int))), (13, (Value.bool true)), (30, (Value.bool false)), (40, (Value.bool (decide (((x.toNat : Nat) : Int) < 128))))] 2 ?_
     refine od ?_
     refine q_cond (o := .tmp 40) (b := (decide (((x.toNat : Nat) : Int) < 128))) (by kernel_rfl) rfl (fun h25 => ?_) (fun h25 => ?_)
     ·rw [h25]
      have p26 : ((x.toNat : Nat) : Int) < 128 := of_decide_eq_true h25
      refine qs ?_
      refine qg ?_
      refine og 2 [(2, (Value.int IntKind.u64 0)), (3, (i64 0)), (4, (i64 0)), (5, (Value.int IntKind.u64 ((n + x.toNat % 128 * p7 i : Nat) : Int))), (6, (i64 10)), (7, (i64 0)), (8, (i64 ((i : Nat) : Int))), (9, (Value.int IntKind.u8 ((x.toNat : Nat) : Int))), (10, (Value.slice A bs.length c)), (11, (i64 ((bs.length : Nat) : Int))), (12, (i64 ((i : Nat) : Int))), (13, (Value.bool true)), (30, (Value.bool false)), (40, (Value.bool true)), (42, (i64 (IntKind.i64.wrap (((i : Nat) : Int) + 1))))] 2 ?_
      have e27 : IntKind.i64.wrap (((i : Nat) : Int) + 1) = ((i + 1 : Nat) : Int) := by rw [wrap_i64 (by omega) (by omega)]; omega
      rw [e27]
      clear e27
      refine og 2 [(2, (Value.int IntKind.u64 0)), (3, (i64 0)), (4, (i64 0)), (5, (Value.int IntKind.u64 ((n + x.toNat % 128 * p7 i : Nat) : Int))), (6, (i64 0)), (7, (i64 ((i + 1 : Nat) : Int))), (8, (i64 ((i : Nat) : Int))), (9, (Value.int IntKind.u8 ((x.toNat : Nat) : Int))), (10, (Value.slice A bs.length c)), (11, (i64 ((bs.length : Nat) : Int))), (12, (i64 ((i : Nat) : Int))), (13, (Value.bool true)), (30, (Value.bool false)), (40, (Value.bool true))] 4 ?_
      refine od ?_
      refine q_exit (id := 0) (by kernel_rfl) ?_
      refine qs ?_
      refine qg ?_
      refine og 6 [(2, (Value.int IntKind.u64 ((n + x.toNat % 128 * p7 i : Nat) : Int))), (3, (i64 ((i + 1 : Nat) : Int))), (4, (i64 0))] 6 ?_
      refine od ?_
      refine q_ret (by kernel_rfl) ?_
      refine ⟨(Value.tuple #[(Value.int IntKind.u64 ((n + x.toNat % 128 * p7 i : Nat) : Int)), (i64 ((i + 1 : Nat) : Int)), (i64 0)]), retv_tmp3 rfl rfl rfl rfl, ?_⟩
      have e : scanB bs = (n + x.toNat % 128 * p7 i, i + 1, 0) := by rw [← hE]; first | (exfalso; omega) | (rw [hx, scanA_bad (by omega)]; done) | (rw [hx, scanA_end (by omega) (by omega)]; done) | (rw [show i = bs.length from by omega, List.drop_length]; rfl)
      exact ⟨by first | (rw [e]; done) | (rw [e]; rfl), K2⟩
     ·rw [h25]
      have p28 : ¬ (((x.toNat : Nat) : Int) < 128) := of_decide_eq_false h25
      refine q_skip (by kernel_rfl) ?_
      refine qg ?_
      refine og 1 [(2, (Value.int IntKind.u64 0)), (3, (i64 0)), (4, (i64 0)), (5, (Value.int IntKind.u64 ((n + x.toNat % 128 * p7 i : Nat) : Int))), (6, (i64 10)), (7, (i64 0)), (8, (i64 ((i : Nat) : Int))), (9, (Value.int IntKind.u8 ((x.toNat : Nat) : Int))), (10, (Value.slice A bs.length c)), (11, (i64 ((bs.length : Nat) : Int))), (12, (i64 ((i : Nat) : Int))), (13, (Value.bool true)), (30, (Value.bool false)), (40, (Value.bool false)), (43, (i64 (IntKind.i64.wrap (((i : Nat) : Int) + 1))))] 1 ?_
      have e29 : IntKind.i64.wrap (((i : Nat) : Int) + 1) = ((i + 1 : Nat) : Int) := by rw [wrap_i64 (by omega) (by omega)]; omega
      rw [e29]
      clear e29
      refine og 1 [(2, (Value.int IntKind.u64 0)), (3, (i64 0)), (4, (i64 0)), (5, (Value.int IntKind.u64 ((n + x.toNat % 128 * p7 i : Nat) : Int))), (6, (i64 10)), (7, (i64 0)), (8, (i64 ((i : Nat) : Int))), (9, (Value.int IntKind.u8 ((x.toNat : Nat) : Int))), (10, (Value.slice A bs.length c)), (11, (i64 ((bs.length : Nat) : Int))), (12, (i64 ((i + 1 : Nat) : Int))), (13, (Value.bool true)), (30, (Value.bool false)), (40, (Value.bool false))] 2 ?_
      refine Ops.keep (R := [(2, (Value.int IntKind.u64 0)), (3, (i64 0)), (4, (i64 0)), (5, (Value.int IntKind.u64 ((n + x.toNat % 128 * p7 i : Nat) : Int))), (6, (i64 10)), (7, (i64 0)), (10, (Value.slice A bs.length c)), (11, (i64 ((bs.length : Nat) : Int))), (12, (i64 ((i + 1 : Nat) : Int)))]) (by kernel_rfl) ?_
      refine od ?_
      exact ⟨(i + 1, n + x.toNat % 128 * p7 i), ⟨rfl, (by rw [← hE, hx, scanA_more (by omega) (by omega)]), (by omega), (by omega), (hr.2.2 (by omega)), K2⟩, (show bs.length - (i + 1) < bs.length - i from by omega)⟩
  ·rw [h5]
   have p30 : ¬ (((i : Nat) : Int) = 9) := of_beq_f h5
   refine og 7 [(2, (Value.int IntKind.u64 0)), (3, (i64 0)), (4, (i64 0)), (5, (Value.int IntKind.u64 ((n : Nat) : Int))), (6, (i64 10)), (7, (i64 0)), (8, (i64 ((i : Nat) : Int))), (9, (Value.int IntKind.u8 ((x.toNat : Nat) : Int))), (10, (Value.slice A bs.length c)), (11, (i64 ((bs.length : Nat) : Int))), (12, (i64 ((i : Nat) : Int))), (13, (Value.bool true)), (23, (Value.bool false)), (26, (Value.bool (decide (((i : Nat) : Int) > 0))))] 10 ?_
   refine Ops.split (decide (((i : Nat) : Int) > 0)) (fun h31 => ?_) (fun h31 => ?_)
   ·rw [h31]
    have p32 : ((i : Nat) : Int) > 0 := of_decide_eq_true h31
    refine og 4 [(2, (Value.int IntKind.u64 0)), (3, (i64 0)), (4, (i64 0)), (5, (Value.int IntKind.u64 ((n : Nat) : Int))), (6, (i64 10)), (7, (i64 0)), (8, (i64 ((i : Nat) : Int))), (9, (Value.int IntKind.u8 ((x.toNat : Nat) : Int))), (10, (Value.slice A bs.length c)), (11, (i64 ((bs.length : Nat) : Int))), (12, (i64 ((i : Nat) : Int))), (13, (Value.bool true)), (30, (Value.bool (((x.toNat : Nat) : Int) == 0)))] 14 ?_
    refine od ?_
    refine q_cond (o := .tmp 30) (b := (((x.toNat : Nat) : Int) == 0)) (by kernel_rfl) rfl (fun h33 => ?_) (fun h33 => ?_)
    ·rw [h33]
     have p34 : ((x.toNat : Nat) : Int) = 0 := of_beq_t h33
     refine qs ?_
     refine qg ?_
     refine og 1 [(2, (Value.int IntKind.u64 0)), (3, (i64 0)), (4, (i64 0)), (5, (Value.int IntKind.u64 ((n : Nat) : Int))), (6, (i64 11)), (7, (i64 0)), (8, (i64 ((i : Nat) : Int))), (9, (Value.int IntKind.u8 ((x.toNat : Nat) : Int))), (10, (Value.slice A bs.length c)), (11, (i64 ((bs.length : Nat) : Int))), (12, (i64 ((i : Nat) : Int))), (13, (Value.bool true)), (30, (Value.bool true))] 1 ?_
     refine od ?_
     refine q_exit (id := 0) (by kernel_rfl) ?_
     refine qs ?_
     refine qg ?_
     refine og 6 [(2, (Value.int IntKind.u64 ((n : Nat) : Int))), (3, (i64 0)), (4, (i64 11))] 6 ?_
     refine od ?_
     refine q_ret (by kernel_rfl) ?_
     refine ⟨(Value.tuple #[(Value.int IntKind.u64 ((n : Nat) : Int)), (i64 0), (i64 11)]), retv_tmp3 rfl rfl rfl rfl, ?_⟩
     have e : scanB bs = (n, 0, 11) := by rw [← hE]; first | (exfalso; omega) | (rw [hx, scanA_bad (by omega)]; done) | (rw [hx, scanA_end (by omega) (by omega)]; done) | (rw [show i = bs.length from by omega, List.drop_length]; rfl)
     exact ⟨by first | (rw [e]; done) | (rw [e]; rfl), K2⟩
    ·rw [h33]
     have p35 : ¬ (((x.toNat : Nat) : Int) = 0) := of_beq_f h33
     refine q_skip (by kernel_rfl) ?_
     refine qs ?_
     refine qg ?_
     refine og 2 [(2, (Value.int IntKind.u64 0)), (3, (i64 0)), (4, (i64 0)), (5, (Value.int IntKind.u64 ((n : Nat) : Int))), (6, (i64 10)), (7, (i64 0)), (8, (i64 ((i : Nat) : Int))), (9, (Value.int IntKind.u8 ((x.toNat : Nat) : Int))), (10, (Value.slice A bs.length c)), (11, (i64 ((bs.length : Nat) : Int))), (12, (i64 ((i : Nat) : Int))), (13, (Value.bool true)), (30, (Value.bool false)), (31, (Value.int IntKind.u64 ((n : Nat) : Int))), (32, (Value.int IntKind.u8 ((x.toNat : Nat) : Int)))] 2 ?_
     refine Ops.go (v := (Value.int IntKind.u8 ((x.toNat % 128 : Nat) : Int))) (by kernel_rfl) (Runs.int (op := .and) (t := 5) (by kernel_rfl) (run_and127 (by omega))) (d := (some 33)) (by kernel_rfl) rfl ?_
     refine og 1 [(2, (Value.int IntKind.u64 0)), (3, (i64 0)), (4, (i64 0)), (5, (Value.int IntKind.u64 ((n : Nat) : Int))), (6, (i64 10)), (7, (i64 0)), (8, (i64 ((i : Nat) : Int))), (9, (Value.int IntKind.u8 ((x.toNat : Nat) : Int))), (10, (Value.slice A bs.length c)), (11, (i64 ((bs.length : Nat) : Int))), (12, (i64 ((i : Nat) : Int))), (13, (Value.bool true)), (30, (Value.bool false)), (31, (Value.int IntKind.u64 ((n : Nat) : Int))), (34, (Value.int IntKind.u64 (IntKind.u64.wrap (((x.toNat % 128 : Nat) : Int)))))] 4 ?_
     have e36 : IntKind.u64.wrap (((x.toNat % 128 : Nat) : Int)) = ((x.toNat % 128 : Nat) : Int) := wrap_u64 (by omega) (by omega)
     rw [e36]
     refine og 2 [(2, (Value.int IntKind.u64 0)), (3, (i64 0)), (4, (i64 0)), (5, (Value.int IntKind.u64 ((n : Nat) : Int))), (6, (i64 10)), (7, (i64 0)), (8, (i64 ((i : Nat) : Int))), (9, (Value.int IntKind.u8 ((x.toNat : Nat) : Int))), (10, (Value.slice A bs.length c)), (11, (i64 ((bs.length : Nat) : Int))), (12, (i64 ((i : Nat) : Int))), (13, (Value.bool true)), (30, (Value.bool false)), (31, (Value.int IntKind.u64 ((n : Nat) : Int))), (34, (Value.int IntKind.u64 ((x.toNat % 128 : Nat) : Int))), (36, (i64 (IntKind.i64.wrap (7 * ((i : Nat) : Int)))))] 6 ?_
     have e37 : IntKind.i64.wrap (7 * ((i : Nat) : Int)) = ((7 * i : Nat) : Int) := by rw [wrap_i64 (by omega) (by omega)]; omega
     rw [e37]
     clear e37
     have hr := scan_round (c := x) hi hn (by omega)
     refine Ops.go (v := (Value.int IntKind.u64 ((x.toNat % 128 * p7 i : Nat) : Int))) (by kernel_rfl) (Runs.int (op := .shl) (t := 63) (by kernel_rfl) (run_shl7 (k := IntKind.i64) (i := i) (s := ((7 * i : Nat) : Int)) (by omega) (by omega) hr.1)) (d := (some 37)) (by kernel_rfl) rfl ?_
     refine Ops.go (v := (Value.int IntKind.u64 ((n + x.toNat % 128 * p7 i : Nat) : Int))) (by kernel_rfl) (Runs.int (op := .or) (t := 63) (by kernel_rfl) (run_or7 hn hr.2.1)) (d := (some 38)) (by kernel_rfl) rfl ?_
     refine og 1 [(2, (Value.int IntKind.u64 0)), (3, (i64 0)), (4, (i64 0)), (5, (Value.int IntKind.u64 ((n + x.toNat % 128 * p7 i : Nat) : Int))), (6, (i64 10)), (7, (i64 0)), (8, (i64 ((i : Nat) : Int))), (9, (Value.int IntKind.u8 ((x.toNat : Nat) : Int))), (10, (Value.slice A bs.length c)), (11, (i64 ((bs.length : Nat) : Int))), (12, (i64 ((i : Nat) : Int))), (13, (Value.bool true)), (30, (Value.bool false))] 9 ?_
     refine od ?_
     refine qs ?_
     refine qg ?_
     refine og 2 [(2, (Value.int IntKind.u64 0)), (3, (i64 0)), (4, (i64 0)), (5, (Value.int IntKind.u64 ((n + x.toNat % 128 * p7 i : Nat) : Int))), (6, (i64 10)), (7, (i64 0)), (8, (i64 ((i : Nat) : Int))), (9, (Value.int IntKind.u8 ((x.toNat : Nat) : Int))), (10, (Value.slice A bs.length c)), (11, (i64 ((bs.length : Nat) : Int))), (12, (i64 ((i : Nat) : Int))), (13, (Value.bool true)), (30, (Value.bool false)), (40, (Value.bool (decide (((x.toNat : Nat) : Int) < 128))))] 2 ?_
     refine od ?_
     refine q_cond (o := .tmp 40) (b := (decide (((x.toNat : Nat) : Int) < 128))) (by kernel_rfl) rfl (fun h38 => ?_) (fun h38 => ?_)
     ·rw [h38]
      have p39 : ((x.toNat : Nat) : Int) < 128 := of_decide_eq_true h38
      refine qs ?_
      refine qg ?_
      refine og 2 [(2, (Value.int IntKind.u64 0)), (3, (i64 0)), (4, (i64 0)), (5, (Value.int IntKind.u64 ((n + x.toNat % 128 * p7 i : Nat) : Int))), (6, (i64 10)), (7, (i64 0)), (8, (i64 ((i : Nat) : Int))), (9, (Value.int IntKind.u8 ((x.toNat : Nat) : Int))), (10, (Value.slice A bs.length c)), (11, (i64 ((bs.length : Nat) : Int))), (12, (i64 ((i : Nat) : Int))), (13, (Value.bool true)), (30, (Value.bool false)), (40, (Value.bool true)), (42, (i64 (IntKind.i64.wrap (((i : Nat) : Int) + 1))))] 2 ?_
      have e40 : IntKind.i64.wrap (((i : Nat) : Int) + 1) = ((i + 1 : Nat) : Int) := by rw [wrap_i64 (by omega) (by omega)]; omega
      rw [e40]
      clear e40
      refine og 2 [(2, (Value.int IntKind.u64 0)), (3, (i64 0)), (4, (i64 0)), (5, (Value.int IntKind.u64 ((n + x.toNat % 128 * p7 i : Nat) : Int))), (6, (i64 0)), (7, (i64 ((i + 1 : Nat) : Int))), (8, (i64 ((i : Nat) : Int))), (9, (Value.int IntKind.u8 ((x.toNat : Nat) : Int))), (10, (Value.slice A bs.length c)), (11, (i64 ((bs.length : Nat) : Int))), (12, (i64 ((i : Nat) : Int))), (13, (Value.bool true)), (30, (Value.bool false)), (40, (Value.bool true))] 4 ?_
      refine od ?_
      refine q_exit (id := 0) (by kernel_rfl) ?_
      refine qs ?_
      refine qg ?_
      refine og 6 [(2, (Value.int IntKind.u64 ((n + x.toNat % 128 * p7 i : Nat) : Int))), (3, (i64 ((i + 1 : Nat) : Int))), (4, (i64 0))] 6 ?_
      refine od ?_
      refine q_ret (by kernel_rfl) ?_
      refine ⟨(Value.tuple #[(Value.int IntKind.u64 ((n + x.toNat % 128 * p7 i : Nat) : Int)), (i64 ((i + 1 : Nat) : Int)), (i64 0)]), retv_tmp3 rfl rfl rfl rfl, ?_⟩
      have e : scanB bs = (n + x.toNat % 128 * p7 i, i + 1, 0) := by rw [← hE]; first | (exfalso; omega) | (rw [hx, scanA_bad (by omega)]; done) | (rw [hx, scanA_end (by omega) (by omega)]; done) | (rw [show i = bs.length from by omega, List.drop_length]; rfl)
      exact ⟨by first | (rw [e]; done) | (rw [e]; rfl), K2⟩
     ·rw [h38]
      have p41 : ¬ (((x.toNat : Nat) : Int) < 128) := of_decide_eq_false h38
      refine q_skip (by kernel_rfl) ?_
      refine qg ?_
      refine og 1 [(2, (Value.int IntKind.u64 0)), (3, (i64 0)), (4, (i64 0)), (5, (Value.int IntKind.u64 ((n + x.toNat % 128 * p7 i : Nat) : Int))), (6, (i64 10)), (7, (i64 0)), (8, (i64 ((i : Nat) : Int))), (9, (Value.int IntKind.u8 ((x.toNat : Nat) : Int))), (10, (Value.slice A bs.length c)), (11, (i64 ((bs.length : Nat) : Int))), (12, (i64 ((i : Nat) : Int))), (13, (Value.bool true)), (30, (Value.bool false)), (40, (Value.bool false)), (43, (i64 (IntKind.i64.wrap (((i : Nat) : Int) + 1))))] 1 ?_
      have e42 : IntKind.i64.wrap (((i : Nat) : Int) + 1) = ((i + 1 : Nat) : Int) := by rw [wrap_i64 (by omega) (by omega)]; omega
      rw [e42]
      clear e42
      refine og 1 [(2, (Value.int IntKind.u64 0)), (3, (i64 0)), (4, (i64 0)), (5, (Value.int IntKind.u64 ((n + x.toNat % 128 * p7 i : Nat) : Int))), (6, (i64 10)), (7, (i64 0)), (8, (i64 ((i : Nat) : Int))), (9, (Value.int IntKind.u8 ((x.toNat : Nat) : Int))), (10, (Value.slice A bs.length c)), (11, (i64 ((bs.length : Nat) : Int))), (12, (i64 ((i + 1 : Nat) : Int))), (13, (Value.bool true)), (30, (Value.bool false)), (40, (Value.bool false))] 2 ?_
      refine Ops.keep (R := [(2, (Value.int IntKind.u64 0)), (3, (i64 0)), (4, (i64 0)), (5, (Value.int IntKind.u64 ((n + x.toNat % 128 * p7 i : Nat) : Int))), (6, (i64 10)), (7, (i64 0)), (10, (Value.slice A bs.length c)), (11, (i64 ((bs.length : Nat) : Int))), (12, (i64 ((i + 1 : Nat) : Int)))]) (by kernel_rfl) ?_
      refine od ?_
      exact ⟨(i + 1, n + x.toNat % 128 * p7 i), ⟨rfl, (by rw [← hE, hx, scanA_more (by omega) (by omega)]), (by omega), (by omega), (hr.2.2 (by omega)), K2⟩, (show bs.length - (i + 1) < bs.length - i from by omega)⟩
   ·rw [h31]
    have p43 : ¬ (((i : Nat) : Int) > 0) := of_decide_eq_false h31
    refine og 4 [(2, (Value.int IntKind.u64 0)), (3, (i64 0)), (4, (i64 0)), (5, (Value.int IntKind.u64 ((n : Nat) : Int))), (6, (i64 10)), (7, (i64 0)), (8, (i64 ((i : Nat) : Int))), (9, (Value.int IntKind.u8 ((x.toNat : Nat) : Int))), (10, (Value.slice A bs.length c)), (11, (i64 ((bs.length : Nat) : Int))), (12, (i64 ((i : Nat) : Int))), (13, (Value.bool true)), (30, (Value.bool false))] 14 ?_
    refine od ?_
    refine q_else (o := .tmp 30) (by kernel_rfl) rfl ?_
    refine q_skip (by kernel_rfl) ?_
    refine qs ?_
    refine qg ?_
    refine og 2 [(2, (Value.int IntKind.u64 0)), (3, (i64 0)), (4, (i64 0)), (5, (Value.int IntKind.u64 ((n : Nat) : Int))), (6, (i64 10)), (7, (i64 0)), (8, (i64 ((i : Nat) : Int))), (9, (Value.int IntKind.u8 ((x.toNat : Nat) : Int))), (10, (Value.slice A bs.length c)), (11, (i64 ((bs.length : Nat) : Int))), (12, (i64 ((i : Nat) : Int))), (13, (Value.bool true)), (30, (Value.bool false)), (31, (Value.int IntKind.u64 ((n : Nat) : Int))), (32, (Value.int IntKind.u8 ((x.toNat : Nat) : Int)))] 2 ?_
    refine Ops.go (v := (Value.int IntKind.u8 ((x.toNat % 128 : Nat) : Int))) (by kernel_rfl) (Runs.int (op := .and) (t := 5) (by kernel_rfl) (run_and127 (by omega))) (d := (some 33)) (by kernel_rfl) rfl ?_
    refine og 1 [(2, (Value.int IntKind.u64 0)), (3, (i64 0)), (4, (i64 0)), (5, (Value.int IntKind.u64 ((n : Nat) : Int))), (6, (i64 10)), (7, (i64 0)), (8, (i64 ((i : Nat) : Int))), (9, (Value.int IntKind.u8 ((x.toNat : Nat) : Int))), (10, (Value.slice A bs.length c)), (11, (i64 ((bs.length : Nat) : Int))), (12, (i64 ((i : Nat) : Int))), (13, (Value.bool true)), (30, (Value.bool false)), (31, (Value.int IntKind.u64 ((n : Nat) : Int))), (34, (Value.int IntKind.u64 (IntKind.u64.wrap (((x.toNat % 128 : Nat) : Int)))))] 4 ?_
    have e44 : IntKind.u64.wrap (((x.toNat % 128 : Nat) : Int)) = ((x.toNat % 128 : Nat) : Int) := wrap_u64 (by omega) (by omega)
    rw [e44]
    refine og 2 [(2, (Value.int IntKind.u64 0)), (3, (i64 0)), (4, (i64 0)), (5, (Value.int IntKind.u64 ((n : Nat) : Int))), (6, (i64 10)), (7, (i64 0)), (8, (i64 ((i : Nat) : Int))), (9, (Value.int IntKind.u8 ((x.toNat : Nat) : Int))), (10, (Value.slice A bs.length c)), (11, (i64 ((bs.length : Nat) : Int))), (12, (i64 ((i : Nat) : Int))), (13, (Value.bool true)), (30, (Value.bool false)), (31, (Value.int IntKind.u64 ((n : Nat) : Int))), (34, (Value.int IntKind.u64 ((x.toNat % 128 : Nat) : Int))), (36, (i64 (IntKind.i64.wrap (7 * ((i : Nat) : Int)))))] 6 ?_
    have e45 : IntKind.i64.wrap (7 * ((i : Nat) : Int)) = ((7 * i : Nat) : Int) := by rw [wrap_i64 (by omega) (by omega)]; omega
    rw [e45]
    clear e45
    have hr := scan_round (c := x) hi hn (by omega)
    refine Ops.go (v := (Value.int IntKind.u64 ((x.toNat % 128 * p7 i : Nat) : Int))) (by kernel_rfl) (Runs.int (op := .shl) (t := 63) (by kernel_rfl) (run_shl7 (k := IntKind.i64) (i := i) (s := ((7 * i : Nat) : Int)) (by omega) (by omega) hr.1)) (d := (some 37)) (by kernel_rfl) rfl ?_
    refine Ops.go (v := (Value.int IntKind.u64 ((n + x.toNat % 128 * p7 i : Nat) : Int))) (by kernel_rfl) (Runs.int (op := .or) (t := 63) (by kernel_rfl) (run_or7 hn hr.2.1)) (d := (some 38)) (by kernel_rfl) rfl ?_
    refine og 1 [(2, (Value.int IntKind.u64 0)), (3, (i64 0)), (4, (i64 0)), (5, (Value.int IntKind.u64 ((n + x.toNat % 128 * p7 i : Nat) : Int))), (6, (i64 10)), (7, (i64 0)), (8, (i64 ((i : Nat) : Int))), (9, (Value.int IntKind.u8 ((x.toNat : Nat) : Int))), (10, (Value.slice A bs.length c)), (11, (i64 ((bs.length : Nat) : Int))), (12, (i64 ((i : Nat) : Int))), (13, (Value.bool true)), (30, (Value.bool false))] 9 ?_
    refine od ?_
    refine qs ?_
    refine qg ?_
    refine og 2 [(2, (Value.int IntKind.u64 0)), (3, (i64 0)), (4, (i64 0)), (5, (Value.int IntKind.u64 ((n + x.toNat % 128 * p7 i : Nat) : Int))), (6, (i64 10)), (7, (i64 0)), (8, (i64 ((i : Nat) : Int))), (9, (Value.int IntKind.u8 ((x.toNat : Nat) : Int))), (10, (Value.slice A bs.length c)), (11, (i64 ((bs.length : Nat) : Int))), (12, (i64 ((i : Nat) : Int))), (13, (Value.bool true)), (30, (Value.bool false)), (40, (Value.bool (decide (((x.toNat : Nat) : Int) < 128))))] 2 ?_
    refine od ?_
    refine q_cond (o := .tmp 40) (b := (decide (((x.toNat : Nat) : Int) < 128))) (by kernel_rfl) rfl (fun h46 => ?_) (fun h46 => ?_)
    ·rw [h46]
     have p47 : ((x.toNat : Nat) : Int) < 128 := of_decide_eq_true h46
     refine qs ?_
     refine qg ?_
     refine og 2 [(2, (Value.int IntKind.u64 0)), (3, (i64 0)), (4, (i64 0)), (5, (Value.int IntKind.u64 ((n + x.toNat % 128 * p7 i : Nat) : Int))), (6, (i64 10)), (7, (i64 0)), (8, (i64 ((i : Nat) : Int))), (9, (Value.int IntKind.u8 ((x.toNat : Nat) : Int))), (10, (Value.slice A bs.length c)), (11, (i64 ((bs.length : Nat) : Int))), (12, (i64 ((i : Nat) : Int))), (13, (Value.bool true)), (30, (Value.bool false)), (40, (Value.bool true)), (42, (i64 (IntKind.i64.wrap (((i : Nat) : Int) + 1))))] 2 ?_
     have e48 : IntKind.i64.wrap (((i : Nat) : Int) + 1) = ((i + 1 : Nat) : Int) := by rw [wrap_i64 (by omega) (by omega)]; omega
     rw [e48]
     clear e48
     refine og 2 [(2, (Value.int IntKind.u64 0)), (3, (i64 0)), (4, (i64 0)), (5, (Value.int IntKind.u64 ((n + x.toNat % 128 * p7 i : Nat) : Int))), (6, (i64 0)), (7, (i64 ((i + 1 : Nat) : Int))), (8, (i64 ((i : Nat) : Int))), (9, (Value.int IntKind.u8 ((x.toNat : Nat) : Int))), (10, (Value.slice A bs.length c)), (11, (i64 ((bs.length : Nat) : Int))), (12, (i64 ((i : Nat) : Int))), (13, (Value.bool true)), (30, (Value.bool false)), (40, (Value.bool true))] 4 ?_
     refine od ?_
     refine q_exit (id := 0) (by kernel_rfl) ?_
     refine qs ?_
     refine qg ?_
     refine og 6 [(2, (Value.int IntKind.u64 ((n + x.toNat % 128 * p7 i : Nat) : Int))), (3, (i64 ((i + 1 : Nat) : Int))), (4, (i64 0))] 6 ?_
     refine od ?_
     refine q_ret (by kernel_rfl) ?_
     refine ⟨(Value.tuple #[(Value.int IntKind.u64 ((n + x.toNat % 128 * p7 i : Nat) : Int)), (i64 ((i + 1 : Nat) : Int)), (i64 0)]), retv_tmp3 rfl rfl rfl rfl, ?_⟩
     have e : scanB bs = (n + x.toNat % 128 * p7 i, i + 1, 0) := by rw [← hE]; first | (exfalso; omega) | (rw [hx, scanA_bad (by omega)]; done) | (rw [hx, scanA_end (by omega) (by omega)]; done) | (rw [show i = bs.length from by omega, List.drop_length]; rfl)
     exact ⟨by first | (rw [e]; done) | (rw [e]; rfl), K2⟩
    ·rw [h46]
     have p49 : ¬ (((x.toNat : Nat) : Int) < 128) := of_decide_eq_false h46
     refine q_skip (by kernel_rfl) ?_
     refine qg ?_
     refine og 1 [(2, (Value.int IntKind.u64 0)), (3, (i64 0)), (4, (i64 0)), (5, (Value.int IntKind.u64 ((n + x.toNat % 128 * p7 i : Nat) : Int))), (6, (i64 10)), (7, (i64 0)), (8, (i64 ((i : Nat) : Int))), (9, (Value.int IntKind.u8 ((x.toNat : Nat) : Int))), (10, (Value.slice A bs.length c)), (11, (i64 ((bs.length : Nat) : Int))), (12, (i64 ((i : Nat) : Int))), (13, (Value.bool true)), (30, (Value.bool false)), (40, (Value.bool false)), (43, (i64 (IntKind.i64.wrap (((i : Nat) : Int) + 1))))] 1 ?_
     have e50 : IntKind.i64.wrap (((i : Nat) : Int) + 1) = ((i + 1 : Nat) : Int) := by rw [wrap_i64 (by omega) (by omega)]; omega
     rw [e50]
     clear e50
     refine og 1 [(2, (Value.int IntKind.u64 0)), (3, (i64 0)), (4, (i64 0)), (5, (Value.int IntKind.u64 ((n + x.toNat % 128 * p7 i : Nat) : Int))), (6, (i64 10)), (7, (i64 0)), (8, (i64 ((i : Nat) : Int))), (9, (Value.int IntKind.u8 ((x.toNat : Nat) : Int))), (10, (Value.slice A bs.length c)), (11, (i64 ((bs.length : Nat) : Int))), (12, (i64 ((i + 1 : Nat) : Int))), (13, (Value.bool true)), (30, (Value.bool false)), (40, (Value.bool false))] 2 ?_
     refine Ops.keep (R := [(2, (Value.int IntKind.u64 0)), (3, (i64 0)), (4, (i64 0)), (5, (Value.int IntKind.u64 ((n + x.toNat % 128 * p7 i : Nat) : Int))), (6, (i64 10)), (7, (i64 0)), (10, (Value.slice A bs.length c)), (11, (i64 ((bs.length : Nat) : Int))), (12, (i64 ((i + 1 : Nat) : Int)))]) (by kernel_rfl) ?_
     refine od ?_
     exact ⟨(i + 1, n + x.toNat % 128 * p7 i), ⟨rfl, (by rw [← hE, hx, scanA_more (by omega) (by omega)]), (by omega), (by omega), (hr.2.2 (by omega)), K2⟩, (show bs.length - (i + 1) < bs.length - i from by omega)⟩
 ·rw [h3]
  have p51 : ¬ (((i : Nat) : Int) < ((bs.length : Nat) : Int)) := of_decide_eq_false h3
  refine q_exit (id := 0) (by kernel_rfl) ?_
  refine qs ?_
  refine qg ?_
  refine og 6 [(2, (Value.int IntKind.u64 ((n : Nat) : Int))), (3, (i64 0)), (4, (i64 10))] 6 ?_
  refine od ?_
  refine q_ret (by kernel_rfl) ?_
  refine ⟨(Value.tuple #[(Value.int IntKind.u64 ((n : Nat) : Int)), (i64 0), (i64 10)]), retv_tmp3 rfl rfl rfl rfl, ?_⟩
  have e : scanB bs = (n, 0, 10) := by rw [← hE]; first | (exfalso; omega) | (rw [hx, scanA_bad (by omega)]; done) | (rw [hx, scanA_end (by omega) (by omega)]; done) | (rw [show i = bs.length from by omega, List.drop_length]; rfl)
  exact ⟨by first | (rw [e]; done) | (rw [e]; rfl), K2⟩

theorem ok_calls (w : World) (b : Nat) (A : Option Addr) (c : Nat) (r : Rdr) (hok : r.Ok) (H0 : Has w b (rowL (rdrL A c r) 86)) (hR : RdO w A c r.bs) (hne : ∀ g o s, A = some ⟨g, o, s⟩ → g ≠ b) : Calls Tryz.prog 82 ⟨[(ptr b)]⟩ w (fun e w' => e = .returned (.bool (r.why == 0)) ∧ Keeps none_ w w') := by
 have hpos := hok.pos
 have hlen := hok.len
 have hsc := r.scan_le
 have hdl : (r.bs.drop r.pos).length = r.bs.length - r.pos := List.length_drop
 have hcap := hR.1.slice
 have Hb := H0.lt
 have K0 : Keeps none_ w w := Keeps.refl w
 refine q_calls Tryz.func82 (by kernel_rfl) (by kernel_rfl) ?_
 refine qs ?_
 refine qg ?_
 refine og 1 [(0, (ptr b)), (2, (Value.bool false))] 1 ?_
 refine od ?_
 refine qs ?_
 refine qg ?_
 refine og 6 [(2, (Value.bool false)), (5, (Value.bool true)), (8, (Value.pointer (some ⟨b, 2, none⟩)))] 6 ?_
 refine Ops.go (v := (i64 r.why)) (by kernel_rfl) (Runs.load (t := 25) (a := ⟨b, 2, none⟩) (by kernel_rfl) (H0.loads (by kernel_rfl))) (d := (some 9)) (by kernel_rfl) rfl ?_
 refine og 3 [(2, (Value.bool (r.why == 0)))] 10 ?_
 refine od ?_
 refine q_ret (by kernel_rfl) ?_
 refine ⟨(Value.bool (r.why == 0)), retv_tmp rfl rfl, ?_⟩
 exact ⟨rfl, K0⟩

theorem left_calls (w : World) (b : Nat) (A : Option Addr) (c : Nat) (r : Rdr) (hok : r.Ok) (H0 : Has w b (rowL (rdrL A c r) 86)) (hR : RdO w A c r.bs) (hne : ∀ g o s, A = some ⟨g, o, s⟩ → g ≠ b) : Calls Tryz.prog 64 ⟨[(ptr b)]⟩ w (fun e w' => ∃ A2 c2, e = .returned (.slice A2 (r.bs.drop r.pos).length c2) ∧ Keeps none_ w w' ∧ RdB w' (.slice A2 (r.bs.drop r.pos).length c2) (r.bs.drop r.pos) ∧ (∀ g o s, A2 = some ⟨g, o, s⟩ → ∃ o2 s2, A = some ⟨g, o2, s2⟩)) := by
 have hpos := hok.pos
 have hlen := hok.len
 have hsc := r.scan_le
 have hdl : (r.bs.drop r.pos).length = r.bs.length - r.pos := List.length_drop
 have hcap := hR.1.slice
 have Hb := H0.lt
 have K0 : Keeps none_ w w := Keeps.refl w
 refine q_calls Tryz.func64 (by kernel_rfl) (by kernel_rfl) ?_
 refine qs ?_
 refine qg ?_
 refine og 1 [(0, (ptr b)), (2, (Value.slice none 0 0))] 1 ?_
 refine od ?_
 refine qs ?_
 refine q_draw (fun wz => Keeps none_ w wz) 10 (by kernel_rfl) (by kernel_rfl) (by kernel_rfl) (fun w1 K2 _ _ => ⟨K2, ?_⟩)
 replace K0 := K0.t0 K2
 replace H0 := H0.keep K2 (fun h => h)
 replace hR := RdO.keep0 hR K2
 refine Dr.strong (S' := (fun wz => Keeps none_ w1 wz)) (Keeps.refl w1) (fun wz hx => K2.trans hx (fun i _ h => h) (fun _ _ h => h)) ?_
 clear K2
 refine Dr.takes (fuel' := 7) (is' := [2, 1, 0]) [0, 1, 2] [(0, (ptr b)), (2, (Value.slice none 0 0)), (5, (ptr b))] (by kernel_rfl) rfl (by kernel_rfl) ?_
 refine Dr.take (i := 3) (v := (Value.slice A r.bs.length c)) (by kernel_rfl) (by kernel_rfl) (fun wz hS => Runs.load (t := 22) (a := ⟨b, 0, none⟩) (by kernel_rfl) ((H0.keep hS (fun h => h)).loads (by kernel_rfl))) (d := (some 6)) (by kernel_rfl) rfl ?_
 refine Dr.takes (fuel' := 3) (is' := [6, 5, 4, 3, 2, 1, 0]) [4, 5, 6] [(2, (Value.slice none 0 0)), (6, (Value.slice A r.bs.length c)), (9, (Value.pointer (some ⟨b, 1, none⟩)))] (by kernel_rfl) rfl (by kernel_rfl) ?_
 refine Dr.take (i := 7) (v := (i64 ((r.pos : Nat) : Int))) (by kernel_rfl) (by kernel_rfl) (fun wz hS => Runs.load (t := 3) (a := ⟨b, 1, none⟩) (by kernel_rfl) ((H0.keep hS (fun h => h)).loads (by kernel_rfl))) (d := (some 10)) (by kernel_rfl) rfl ?_
 refine Dr.take (i := 8) (v := (Value.slice (if c = r.pos then A else Option.map (fun q => Addr.add q (r.pos * 1)) A) (r.bs.length - r.pos) (c - r.pos))) (by kernel_rfl) (by kernel_rfl) (fun wz hS => Runs.slice (by kernel_rfl) (run_cut (sz := 1) (t := 22) (A := A) (n := r.bs.length) (c := c) r.pos r.bs.length c (lo := some (i64 ((r.pos : Nat) : Int))) (hi := none) (mx := none) tyB.slice (by kernel_rfl) (.inr ⟨_, rfl⟩) (.inl ⟨rfl, rfl, rfl⟩) (.inl ⟨rfl, rfl⟩) (by omega) (by omega) (by omega))) (d := (some 11)) (by kernel_rfl) rfl ?_
 refine Dr.takes (fuel' := 0) (is' := [9, 8, 7, 6, 5, 4, 3, 2, 1, 0]) [9] [(2, (Value.slice (if c = r.pos then A else Option.map (fun q => Addr.add q (r.pos * 1)) A) (r.bs.length - r.pos) (c - r.pos)))] (by kernel_rfl) rfl (by kernel_rfl) ?_
 refine Dr.done (by kernel_rfl) ?_
 refine q_ret (by kernel_rfl) ?_
 refine ⟨(Value.slice (if c = r.pos then A else Option.map (fun q => Addr.add q (r.pos * 1)) A) (r.bs.length - r.pos) (c - r.pos)), retv_tmp rfl rfl, ?_⟩
 have hD := RdB.drop hR.1 hpos
 exact ⟨_, _, by rw [hdl], K0, by rw [hdl]; exact hD, fun g o s h => cut_block h⟩

theorem RdUint_calls (w : World) (b : Nat) (A : Option Addr) (c : Nat) (r : Rdr) (hok : r.Ok) (H0 : Has w b (rowL (rdrL A c r) 86)) (hR : RdO w A c r.bs) (hne : ∀ g o s, A = some ⟨g, o, s⟩ → g ≠ b) : Calls Tryz.prog 60 ⟨[(ptr b)]⟩ w (fun e w' => e = .returned (.int .u64 ((r.uint.1 : Nat) : Int)) ∧ Keeps (fun i => i = b) w w' ∧ Has w' b (rowL (rdrL A c r.uint.2) 86)) := by
 have hpos := hok.pos
 have hlen := hok.len
 have hsc := r.scan_le
 have hdl : (r.bs.drop r.pos).length = r.bs.length - r.pos := List.length_drop
 have hcap := hR.1.slice
 have Hb := H0.lt
 have K0 : Keeps (fun i => i = b) w w := (Keeps.refl w).mono (fun _ _ h => h.elim)
 refine q_calls Tryz.func60 (by kernel_rfl) (by kernel_rfl) ?_
 refine qs ?_
 refine qg ?_
 refine og 1 [(0, (ptr b)), (2, (Value.int IntKind.u64 0))] 1 ?_
 refine od ?_
 refine qs ?_
 refine qs ?_
 refine qg ?_
 refine og 1 [(0, (ptr b)), (2, (Value.int IntKind.u64 0)), (6, (ptr b))] 1 ?_
 refine Ops.call (by kernel_rfl) (d := (some 7)) (by kernel_rfl) (ok_calls _ b A c r hok H0 hR hne) ?_
 rintro _ w1 ⟨rfl, K2⟩
 refine ⟨_, _, rfl, rfl, ?_⟩
 replace K0 := K0.trans K2 (U := (fun i => i = b)) (fun i h1 h2 => h2) (fun i h1 h2 => by exact h2.elim)
 replace H0 := H0.keep K2 (fun h => h)
 replace hR := RdO.keep0 hR K2
 clear K2
 refine og 1 [(0, (ptr b)), (2, (Value.int IntKind.u64 0)), (8, (Value.bool (!(r.why == 0))))] 3 ?_
 refine od ?_
 refine q_cond (o := .tmp 8) (b := (!(r.why == 0))) (by kernel_rfl) rfl (fun h3 => ?_) (fun h3 => ?_)
 ·rw [h3]
  have p4 : ¬ (r.why = 0) := of_beq_f (bnot_true h3)
  refine qs ?_
  refine qg ?_
  refine og 1 [(0, (ptr b)), (2, (Value.int IntKind.u64 0))] 1 ?_
  refine od ?_
  refine q_ret (by kernel_rfl) ?_
  refine ⟨(Value.int IntKind.u64 0), retv_tmp rfl rfl, ?_⟩
  have e : r.uint = (0, ⟨r.bs, r.pos, r.why⟩) := by unfold Rdr.uint; (repeat' split) <;> first | (exfalso; omega) | rfl | (rw [show (scanB (r.bs.drop r.pos)).2.2 = r.why from by omega])
  exact ⟨by first | (rw [e]; done) | (rw [e]; rfl), K0, by rw [e]; exact H0⟩
 ·rw [h3]
  have p5 : r.why = 0 := of_beq_t (bnot_false h3)
  refine q_skip (by kernel_rfl) ?_
  refine qs ?_
  refine qg ?_
  refine og 1 [(0, (ptr b)), (2, (Value.int IntKind.u64 0)), (10, (ptr b))] 1 ?_
  refine Ops.call (by kernel_rfl) (d := (some 11)) (by kernel_rfl) (left_calls _ b A c r hok H0 hR hne) ?_
  rintro _ w6 ⟨A8, c9, rfl, K7, h10, hlb11⟩
  refine ⟨_, _, rfl, rfl, ?_⟩
  replace K0 := K0.trans K7 (U := (fun i => i = b)) (fun i h1 h2 => h2) (fun i h1 h2 => by exact h2.elim)
  replace H0 := H0.keep K7 (fun h => h)
  replace hR := RdO.keep0 hR K7
  clear K7
  refine Ops.call (by kernel_rfl) (d := (some 12)) (by kernel_rfl) (scan_calls _ A8 c9 (r.bs.drop r.pos) h10 (by omega)) ?_
  rintro _ w12 ⟨rfl, K13⟩
  refine ⟨_, _, rfl, rfl, ?_⟩
  replace K0 := K0.trans K13 (U := (fun i => i = b)) (fun i h1 h2 => h2) (fun i h1 h2 => by exact h2.elim)
  replace H0 := H0.keep K13 (fun h => h)
  replace hR := RdO.keep0 hR K13
  replace h10 := (Rd.keep0 (by omega) h10 K13)
  clear K13
  refine og 7 [(0, (ptr b)), (2, (Value.int IntKind.u64 0)), (3, (Value.int IntKind.u64 (((scanB (r.bs.drop r.pos)).1 : Nat) : Int))), (4, (i64 (((scanB (r.bs.drop r.pos)).2.1 : Nat) : Int))), (5, (i64 ((scanB (r.bs.drop r.pos)).2.2)))] 10 ?_
  refine od ?_
  refine qs ?_
  refine qs ?_
  refine qg ?_
  refine og 4 [(0, (ptr b)), (2, (Value.int IntKind.u64 0)), (3, (Value.int IntKind.u64 (((scanB (r.bs.drop r.pos)).1 : Nat) : Int))), (4, (i64 (((scanB (r.bs.drop r.pos)).2.1 : Nat) : Int))), (5, (i64 ((scanB (r.bs.drop r.pos)).2.2))), (17, (i64 ((scanB (r.bs.drop r.pos)).2.2))), (19, (Value.pointer (some ⟨b, 2, none⟩)))] 4 ?_
  refine Ops.put (t := 25) (b := b) (off := 2) (v := (i64 ((scanB (r.bs.drop r.pos)).2.2))) (ys := [(Value.slice A r.bs.length c), (i64 ((r.pos : Nat) : Int)), (i64 ((scanB (r.bs.drop r.pos)).2.2))]) (by kernel_rfl) (by kernel_rfl) H0 (by kernel_rfl) (d := none) (by kernel_rfl) rfl (fun w14 H15 K16 => ?_)
  clear H0
  replace K0 := K0.trans K16 (U := (fun i => i = b)) (fun i h1 h2 => h2) (fun i h1 h2 => by have h2 : i = b := h2; show i = b; omega)
  replace hR := RdO.keep hR K16 (fun i _ _ hi hs => by have hs : i = b := hs; have := hne i _ _ hi; omega)
  clear h10
  clear K16
  refine od ?_
  refine qs ?_
  refine qg ?_
  refine og 2 [(0, (ptr b)), (2, (Value.int IntKind.u64 0)), (3, (Value.int IntKind.u64 (((scanB (r.bs.drop r.pos)).1 : Nat) : Int))), (4, (i64 (((scanB (r.bs.drop r.pos)).2.1 : Nat) : Int))), (21, (Value.bool (((scanB (r.bs.drop r.pos)).2.2) != 0)))] 2 ?_
  refine od ?_
  refine q_cond (o := .tmp 21) (b := (((scanB (r.bs.drop r.pos)).2.2) != 0)) (by kernel_rfl) rfl (fun h17 => ?_) (fun h17 => ?_)
  ·rw [h17]
   have p18 : ¬ ((scanB (r.bs.drop r.pos)).2.2 = 0) := of_bne_t h17
   refine qs ?_
   refine qg ?_
   refine og 1 [(0, (ptr b)), (2, (Value.int IntKind.u64 0)), (3, (Value.int IntKind.u64 (((scanB (r.bs.drop r.pos)).1 : Nat) : Int))), (4, (i64 (((scanB (r.bs.drop r.pos)).2.1 : Nat) : Int)))] 1 ?_
   refine od ?_
   refine q_ret (by kernel_rfl) ?_
   refine ⟨(Value.int IntKind.u64 0), retv_tmp rfl rfl, ?_⟩
   have e : r.uint = (0, ⟨r.bs, r.pos, (scanB (r.bs.drop r.pos)).2.2⟩) := by unfold Rdr.uint; (repeat' split) <;> first | (exfalso; omega) | rfl | (rw [show (scanB (r.bs.drop r.pos)).2.2 = r.why from by omega])
   exact ⟨by first | (rw [e]; done) | (rw [e]; rfl), K0, by rw [e]; exact H15⟩
  ·rw [h17]
   have p19 : (scanB (r.bs.drop r.pos)).2.2 = 0 := of_bne_f h17
   refine q_skip (by kernel_rfl) ?_
   refine qs ?_
   refine qg ?_
   refine og 3 [(2, (Value.int IntKind.u64 0)), (3, (Value.int IntKind.u64 (((scanB (r.bs.drop r.pos)).1 : Nat) : Int))), (4, (i64 (((scanB (r.bs.drop r.pos)).2.1 : Nat) : Int))), (22, (ptr b)), (24, (Value.pointer (some ⟨b, 1, none⟩)))] 3 ?_
   refine Ops.go (v := (i64 ((r.pos : Nat) : Int))) (by kernel_rfl) (Runs.load (t := 3) (a := ⟨b, 1, none⟩) (by kernel_rfl) (H15.loads (by kernel_rfl))) (d := (some 25)) (by kernel_rfl) rfl ?_
   refine og 2 [(2, (Value.int IntKind.u64 0)), (3, (Value.int IntKind.u64 (((scanB (r.bs.drop r.pos)).1 : Nat) : Int))), (22, (ptr b)), (27, (i64 (IntKind.i64.wrap (((r.pos : Nat) : Int) + (((scanB (r.bs.drop r.pos)).2.1 : Nat) : Int)))))] 6 ?_
   have e20 : IntKind.i64.wrap (((r.pos : Nat) : Int) + (((scanB (r.bs.drop r.pos)).2.1 : Nat) : Int)) = ((r.pos + ((scanB (r.bs.drop r.pos)).2.1) : Nat) : Int) := by rw [wrap_i64 (by omega) (by omega)]; omega
   rw [e20]
   clear e20
   refine og 2 [(2, (Value.int IntKind.u64 0)), (3, (Value.int IntKind.u64 (((scanB (r.bs.drop r.pos)).1 : Nat) : Int))), (27, (i64 ((r.pos + ((scanB (r.bs.drop r.pos)).2.1) : Nat) : Int))), (29, (Value.pointer (some ⟨b, 1, none⟩)))] 8 ?_
   refine Ops.put (t := 3) (b := b) (off := 1) (v := (i64 ((r.pos + ((scanB (r.bs.drop r.pos)).2.1) : Nat) : Int))) (ys := [(Value.slice A r.bs.length c), (i64 ((r.pos + ((scanB (r.bs.drop r.pos)).2.1) : Nat) : Int)), (i64 ((scanB (r.bs.drop r.pos)).2.2))]) (by kernel_rfl) (by kernel_rfl) H15 (by kernel_rfl) (d := none) (by kernel_rfl) rfl (fun w21 H22 K23 => ?_)
   clear H15
   replace K0 := K0.trans K23 (U := (fun i => i = b)) (fun i h1 h2 => h2) (fun i h1 h2 => by have h2 : i = b := h2; show i = b; omega)
   replace hR := RdO.keep hR K23 (fun i _ _ hi hs => by have hs : i = b := hs; have := hne i _ _ hi; omega)
   clear K23
   refine od ?_
   refine qs ?_
   refine qg ?_
   refine og 2 [(2, (Value.int IntKind.u64 (((scanB (r.bs.drop r.pos)).1 : Nat) : Int)))] 2 ?_
   refine od ?_
   refine q_ret (by kernel_rfl) ?_
   refine ⟨(Value.int IntKind.u64 (((scanB (r.bs.drop r.pos)).1 : Nat) : Int)), retv_tmp rfl rfl, ?_⟩
   have e : r.uint = ((scanB (r.bs.drop r.pos)).1, ⟨r.bs, r.pos + ((scanB (r.bs.drop r.pos)).2.1), (scanB (r.bs.drop r.pos)).2.2⟩) := by unfold Rdr.uint; (repeat' split) <;> first | (exfalso; omega) | rfl | (rw [show (scanB (r.bs.drop r.pos)).2.2 = r.why from by omega])
   exact ⟨by first | (rw [e]; done) | (rw [e]; rfl), K0, by rw [e]; exact H22⟩

theorem RdInt_calls (w : World) (b : Nat) (A : Option Addr) (c : Nat) (r : Rdr) (hok : r.Ok) (H0 : Has w b (rowL (rdrL A c r) 86)) (hR : RdO w A c r.bs) (hne : ∀ g o s, A = some ⟨g, o, s⟩ → g ≠ b) : Calls Tryz.prog 21 ⟨[(ptr b)]⟩ w (fun e w' => e = .returned (i64 r.int.1) ∧ Keeps (fun i => i = b) w w' ∧ Has w' b (rowL (rdrL A c r.int.2) 86)) := by
 have hpos := hok.pos
 have hlen := hok.len
 have hsc := r.scan_le
 have hdl : (r.bs.drop r.pos).length = r.bs.length - r.pos := List.length_drop
 have hcap := hR.1.slice
 have Hb := H0.lt
 have K0 : Keeps (fun i => i = b) w w := (Keeps.refl w).mono (fun _ _ h => h.elim)
 refine q_calls Tryz.func21 (by kernel_rfl) (by kernel_rfl) ?_
 refine qs ?_
 refine qg ?_
 refine og 1 [(0, (ptr b)), (2, (i64 0))] 1 ?_
 refine od ?_
 refine qs ?_
 refine qg ?_
 refine og 1 [(2, (i64 0)), (4, (ptr b))] 1 ?_
 refine Ops.call (by kernel_rfl) (d := (some 5)) (by kernel_rfl) (RdUint_calls _ b A c r hok H0 hR hne) ?_
 rintro _ w1 ⟨rfl, K2, H3⟩
 have hok4 := Rdr.Ok.uint hok
 have hu5 := Rdr.uint_lt r
 refine ⟨_, _, rfl, rfl, ?_⟩
 replace K0 := K0.trans K2 (U := (fun i => i = b)) (fun i h1 h2 => h2) (fun i h1 h2 => by have h2 : i = b := h2; show i = b; omega)
 replace hR := RdO.keep hR K2 (fun i _ _ hi hs => by have hs : i = b := hs; have := hne i _ _ hi; omega)
 clear K2
 have F6 : RdO w1 A c (r.uint.2).bs := by rw [Rdr.uint_bs]; exact hR
 clear hR
 refine og 1 [(2, (i64 0)), (3, (Value.int IntKind.u64 ((r.uint.1 : Nat) : Int)))] 3 ?_
 refine od ?_
 refine qs ?_
 refine qg ?_
 refine og 2 [(2, (i64 0)), (3, (Value.int IntKind.u64 ((r.uint.1 : Nat) : Int))), (7, (Value.int IntKind.u64 ((((r.uint.1 : Nat) : Int)).fdiv 2)))] 2 ?_
 have e7 : (((r.uint.1 : Nat) : Int)).fdiv 2 = ((r.uint.1 / 2 : Nat) : Int) := fdiv_nat r.uint.1 2
 rw [e7]
 clear e7
 refine og 1 [(2, (i64 0)), (3, (Value.int IntKind.u64 ((r.uint.1 : Nat) : Int))), (8, (i64 (IntKind.i64.wrap (((r.uint.1 / 2 : Nat) : Int)))))] 3 ?_
 have e8 : IntKind.i64.wrap (((r.uint.1 / 2 : Nat) : Int)) = ((r.uint.1 / 2 : Nat) : Int) := wrap_i64 (by omega) (by omega)
 rw [e8]
 refine og 1 [(2, (i64 0)), (8, (i64 ((r.uint.1 / 2 : Nat) : Int))), (9, (Value.int IntKind.u64 ((r.uint.1 : Nat) : Int)))] 4 ?_
 refine Ops.go (v := (Value.int IntKind.u64 ((r.uint.1 % 2 : Nat) : Int))) (by kernel_rfl) (Runs.int (op := .and) (t := 63) (by kernel_rfl) (run_and1 (by omega))) (d := (some 10)) (by kernel_rfl) rfl ?_
 refine og 1 [(2, (i64 0)), (8, (i64 ((r.uint.1 / 2 : Nat) : Int))), (11, (i64 (IntKind.i64.wrap (((r.uint.1 % 2 : Nat) : Int)))))] 6 ?_
 have e9 : IntKind.i64.wrap (((r.uint.1 % 2 : Nat) : Int)) = ((r.uint.1 % 2 : Nat) : Int) := wrap_i64 (by omega) (by omega)
 rw [e9]
 refine og 1 [(2, (i64 0)), (8, (i64 ((r.uint.1 / 2 : Nat) : Int))), (12, (i64 (IntKind.i64.wrap (0 - ((r.uint.1 % 2 : Nat) : Int)))))] 7 ?_
 have e10 : IntKind.i64.wrap (0 - ((r.uint.1 % 2 : Nat) : Int)) = 0 - ((r.uint.1 % 2 : Nat) : Int) := wrap_i64 (by omega) (by omega)
 rw [e10]
 refine Ops.go (v := (i64 (unzz r.uint.1))) (by kernel_rfl) (Runs.int (op := .xor) (t := 2) (by kernel_rfl) (run_unzz (by omega))) (d := (some 13)) (by kernel_rfl) rfl ?_
 refine og 1 [(2, (i64 (unzz r.uint.1)))] 9 ?_
 refine od ?_
 refine q_ret (by kernel_rfl) ?_
 refine ⟨(i64 (unzz r.uint.1)), retv_tmp rfl rfl, ?_⟩
 exact ⟨rfl, K0, H3⟩

theorem RdEnd_calls (w : World) (b : Nat) (A : Option Addr) (c : Nat) (r : Rdr) (hok : r.Ok) (H0 : Has w b (rowL (rdrL A c r) 86)) (hR : RdO w A c r.bs) (hne : ∀ g o s, A = some ⟨g, o, s⟩ → g ≠ b) : Calls Tryz.prog 24 ⟨[(ptr b)]⟩ w (fun e w' => e = .returned (i64 r.end_) ∧ Keeps none_ w w') := by
 have hpos := hok.pos
 have hlen := hok.len
 have hsc := r.scan_le
 have hdl : (r.bs.drop r.pos).length = r.bs.length - r.pos := List.length_drop
 have hcap := hR.1.slice
 have Hb := H0.lt
 have K0 : Keeps none_ w w := Keeps.refl w
 refine q_calls Tryz.func24 (by kernel_rfl) (by kernel_rfl) ?_
 refine qs ?_
 refine qg ?_
 refine og 1 [(0, (ptr b)), (2, (i64 0))] 1 ?_
 refine od ?_
 refine qs ?_
 refine q_block (id := 0) (by kernel_rfl) ?_
 refine qs ?_
 refine qg ?_
 refine og 3 [(0, (ptr b)), (2, (i64 0)), (3, (Value.bool false))] 3 ?_
 refine od ?_
 refine q_else (o := .tmp 3) (by kernel_rfl) rfl ?_
 refine qs ?_
 refine qg ?_
 refine og 3 [(0, (ptr b)), (2, (i64 0)), (9, (Value.pointer (some ⟨b, 2, none⟩)))] 3 ?_
 refine Ops.go (v := (i64 r.why)) (by kernel_rfl) (Runs.load (t := 25) (a := ⟨b, 2, none⟩) (by kernel_rfl) (H0.loads (by kernel_rfl))) (d := (some 10)) (by kernel_rfl) rfl ?_
 refine og 2 [(0, (ptr b)), (2, (i64 0)), (12, (Value.bool (r.why == 0)))] 6 ?_
 refine Ops.split (r.why == 0) (fun h1 => ?_) (fun h1 => ?_)
 ·rw [h1]
  have p2 : r.why = 0 := of_beq_t h1
  refine og 1 [(0, (ptr b)), (2, (i64 0)), (12, (Value.bool true)), (13, (ptr b))] 7 ?_
  refine Ops.call (by kernel_rfl) (d := (some 14)) (by kernel_rfl) (left_calls _ b A c r hok H0 hR hne) ?_
  rintro _ w3 ⟨A5, c6, rfl, K4, h7, hlb8⟩
  refine ⟨_, _, rfl, rfl, ?_⟩
  replace K0 := K0.t0 K4
  replace H0 := H0.keep K4 (fun h => h)
  replace hR := RdO.keep0 hR K4
  clear K4
  refine og 4 [(0, (ptr b)), (2, (i64 0)), (6, (Value.bool (decide ((((r.bs.drop r.pos).length : Nat) : Int) > 0))))] 12 ?_
  refine od ?_
  refine q_cond (o := .tmp 6) (b := (decide ((((r.bs.drop r.pos).length : Nat) : Int) > 0))) (by kernel_rfl) rfl (fun h9 => ?_) (fun h9 => ?_)
  ·rw [h9]
   have p10 : (((r.bs.drop r.pos).length : Nat) : Int) > 0 := of_decide_eq_true h9
   refine qs ?_
   refine qg ?_
   refine og 1 [(0, (ptr b)), (2, (i64 11))] 1 ?_
   refine od ?_
   refine q_ret (by kernel_rfl) ?_
   refine ⟨(i64 11), retv_tmp rfl rfl, ?_⟩
   have e : r.end_ = 11 := by unfold Rdr.end_; (split <;> first | (exfalso; omega) | rfl | omega)
   exact ⟨by rw [e], K0⟩
  ·rw [h9]
   have p11 : ¬ ((((r.bs.drop r.pos).length : Nat) : Int) > 0) := of_decide_eq_false h9
   refine q_skip (by kernel_rfl) ?_
   refine qs ?_
   refine qg ?_
   refine og 3 [(2, (i64 0)), (20, (Value.pointer (some ⟨b, 2, none⟩)))] 3 ?_
   refine Ops.go (v := (i64 r.why)) (by kernel_rfl) (Runs.load (t := 25) (a := ⟨b, 2, none⟩) (by kernel_rfl) (H0.loads (by kernel_rfl))) (d := (some 21)) (by kernel_rfl) rfl ?_
   refine og 1 [(2, (i64 r.why))] 5 ?_
   refine od ?_
   refine q_ret (by kernel_rfl) ?_
   refine ⟨(i64 r.why), retv_tmp rfl rfl, ?_⟩
   have e : r.end_ = r.why := by unfold Rdr.end_; (split <;> first | (exfalso; omega) | rfl | omega)
   exact ⟨by rw [e], K0⟩
 ·rw [h1]
  have p12 : ¬ (r.why = 0) := of_beq_f h1
  refine og 6 [(0, (ptr b)), (2, (i64 0)), (6, (Value.bool false))] 12 ?_
  refine od ?_
  refine q_else (o := .tmp 6) (by kernel_rfl) rfl ?_
  refine q_skip (by kernel_rfl) ?_
  refine qs ?_
  refine qg ?_
  refine og 3 [(2, (i64 0)), (20, (Value.pointer (some ⟨b, 2, none⟩)))] 3 ?_
  refine Ops.go (v := (i64 r.why)) (by kernel_rfl) (Runs.load (t := 25) (a := ⟨b, 2, none⟩) (by kernel_rfl) (H0.loads (by kernel_rfl))) (d := (some 21)) (by kernel_rfl) rfl ?_
  refine og 1 [(2, (i64 r.why))] 5 ?_
  refine od ?_
  refine q_ret (by kernel_rfl) ?_
  refine ⟨(i64 r.why), retv_tmp rfl rfl, ?_⟩
  have e : r.end_ = r.why := by unfold Rdr.end_; (split <;> first | (exfalso; omega) | rfl | omega)
  exact ⟨by rw [e], K0⟩

theorem Clone_nil (w : World) (n c : Nat) (bs : List UInt8) (hv : RdB w (.slice none n c) bs) : Calls Tryz.prog 57 ⟨[(Value.slice none n c)]⟩ w (fun e w' => ∃ v', e = .returned v' ∧ Keeps none_ w w' ∧ OwnB w' w.heap.size 5 v' (bs)) := by
 have K0 : Keeps none_ w w := Keeps.refl w
 have hz : [] = bs := hv.none_nil.symm
 refine q_calls Tryz.func57 (by kernel_rfl) (by kernel_rfl) ?_
 refine qs ?_
 refine qg ?_
 refine og 1 [(0, (Value.slice none n c)), (2, (Value.slice none 0 0))] 1 ?_
 refine od ?_
 refine qs ?_
 refine qs ?_
 refine qg ?_
 refine og 2 [(0, (Value.slice none n c)), (2, (Value.slice none 0 0)), (4, (Value.bool true))] 2 ?_
 refine od ?_
 refine q_then (o := .tmp 4) (by kernel_rfl) rfl ?_
 refine qs ?_
 refine qg ?_
 refine og 1 [(0, (Value.slice none n c)), (2, (Value.slice none 0 0))] 1 ?_
 refine od ?_
 refine q_ret (by kernel_rfl) ?_
 refine ⟨(Value.slice none 0 0), retv_tmp rfl rfl, ?_⟩
 exact ⟨_, rfl, K0, hz ▸ World.ownsRow_nil _ _ _ _⟩

theorem Clone_some (w : World) (a : Addr) (c : Nat) (bs : List UInt8) (hv : RdB w (.slice (some a) bs.length c) bs) (hl : bs.length ≤ 140737488351232) : Calls Tryz.prog 57 ⟨[(Value.slice (some a) bs.length c)]⟩ w (fun e w' => ∃ v', e = .returned v' ∧ Keeps none_ w w' ∧ OwnB w' w.heap.size 5 v' (bs)) := by
 have K0 : Keeps none_ w w := Keeps.refl w
 refine q_calls Tryz.func57 (by kernel_rfl) (by kernel_rfl) ?_
 refine qs ?_
 refine qg ?_
 refine og 1 [(0, (Value.slice (some a) bs.length c)), (2, (Value.slice none 0 0))] 1 ?_
 refine od ?_
 refine qs ?_
 refine qs ?_
 refine qg ?_
 refine og 2 [(0, (Value.slice (some a) bs.length c)), (2, (Value.slice none 0 0)), (4, (Value.bool false))] 2 ?_
 refine od ?_
 refine q_else (o := .tmp 4) (by kernel_rfl) rfl ?_
 refine q_skip (by kernel_rfl) ?_
 refine qs ?_
 refine qg ?_
 refine Ops.new (o := rowL [] 5) (V := fun b => (Value.slice (some ⟨b, 0, none⟩) 0 0)) (by kernel_rfl) (d := (some 5)) (by kernel_rfl) (fun b => rfl) (fun b1 w2 hb3 H4 K5 hs6 => ?_)
 have nb1 : w.heap.size ≤ b1 := by have := K0.size; omega
 replace K0 := K0.t0 K5
 clear K5 hs6
 refine og 1 [(2, (Value.slice none 0 0)), (5, (Value.slice (some ⟨b1, 0, none⟩) 0 0)), (6, (Value.slice (some a) bs.length c))] 2 ?_
 have hE7 : OwnB w2 w.heap.size 5 (Value.slice (some ⟨b1, 0, none⟩) 0 0) [] := own_empty H4 nb1
 obtain ⟨v8, w9, hr10, hO11, K12⟩ := OwnB.app (ty := 22) tyB hE7 (hv.keep0 (by omega) K0) (by (try simp only at *); (try simp only [List.length_append] at *); (try simp only [List.length_cons] at *); (try simp only [List.length_nil] at *); omega) K0.size
 refine Ops.go (v := v8) (by kernel_rfl) (Runs.append (ts := #[22, 22]) (ty := 22) (vs := [(Value.slice (some ⟨b1, 0, none⟩) 0 0), (Value.slice (some a) bs.length c)]) (by kernel_rfl) hr10) (d := (some 7)) (by kernel_rfl) rfl ?_
 have K13 := Keeps.own2 K0 K12
 clear H4 hE7 K0 hr10 K12
 refine og 1 [(2, v8)] 4 ?_
 refine od ?_
 refine q_ret (by kernel_rfl) ?_
 refine ⟨v8, retv_tmp rfl rfl, ?_⟩
 exact ⟨_, rfl, K13, hO11⟩

theorem Clone_calls (w : World) (v : Value) (bs : List UInt8) (hv : RdB w v bs) (hl : bs.length ≤ 140737488351232) : Calls Tryz.prog 57 ⟨[v]⟩ w (fun e w' => ∃ v', e = .returned v' ∧ Keeps none_ w w' ∧ OwnB w' w.heap.size 5 v' (bs)) := by
 obtain ⟨A, c, rfl⟩ := hv.form
 cases A with
 | none => exact Clone_nil w _ c bs hv
 | some a => exact Clone_some w a c bs hv hl

theorem NewReader_calls (w : World) (v : Value) (bs : List UInt8) (hv : RdB w v bs) (hl : bs.length ≤ 140737488351232) : Calls Tryz.prog 18 ⟨[v]⟩ w (fun e w' => ∃ b A c, e = .returned (.pointer (some ⟨b, 0, none⟩)) ∧ w.heap.size ≤ b ∧ Keeps none_ w w' ∧ Has w' b (rowL (rdrL A c ⟨bs, 0, 0⟩) 86) ∧ RdO w' A c bs ∧ (∀ g o s, A = some ⟨g, o, s⟩ → g ≠ b) ∧ (∀ g o s, A = some ⟨g, o, s⟩ → w.heap.size ≤ g)) := by
 have K0 : Keeps none_ w w := Keeps.refl w
 refine q_calls Tryz.func18 (by kernel_rfl) (by kernel_rfl) ?_
 refine qs ?_
 refine qg ?_
 refine og 1 [(0, v), (2, (Value.pointer none))] 1 ?_
 refine od ?_
 refine qs ?_
 refine qg ?_
 refine og 1 [(2, (Value.pointer none)), (3, v)] 1 ?_
 refine Ops.call (by kernel_rfl) (d := (some 4)) (by kernel_rfl) (Clone_calls _ v bs (hv.keep0 (by omega) K0) (by omega)) ?_
 rintro _ w2 ⟨v1, rfl, K3, hO4⟩
 obtain ⟨A5, c6, rfl, hr7, hge8⟩ := OwnB.rdo hO4
 have hszhr7 := K0.size
 clear hO4
 refine ⟨_, _, rfl, rfl, ?_⟩
 replace K0 := K0.t0 K3
 clear K3
 refine og 1 [(2, (Value.pointer none)), (5, (agg [(Value.slice A5 bs.length c6), (i64 0), (i64 0)]))] 3 ?_
 refine Ops.new (o := rowL [(Value.slice A5 bs.length c6), (i64 0), (i64 0)] 86) (V := fun b => (ptr b)) (by kernel_rfl) (d := (some 6)) (by kernel_rfl) (fun b => rfl) (fun b9 w10 hb11 H12 K13 hs14 => ?_)
 have nb9 : w.heap.size ≤ b9 := by have := K0.size; omega
 have ob15 : ∀ i o s, A5 = some ⟨i, o, s⟩ → i ≠ b9 := fun i o s hi => by have := hr7.2 i o s hi; omega
 replace K0 := K0.t0 K13
 replace hr7 := RdO.keep0 hr7 K13
 clear K13 hs14
 refine og 1 [(2, (ptr b9))] 5 ?_
 refine od ?_
 refine q_ret (by kernel_rfl) ?_
 refine ⟨(ptr b9), retv_tmp rfl rfl, ?_⟩
 exact ⟨b9, A5, c6, rfl, nb9, K0, H12, hr7, ob15, fun g o s hi => by have := hge8 g o s hi; omega⟩
end Go.Proofs.YtooginpgclcldaaGreatDoor
