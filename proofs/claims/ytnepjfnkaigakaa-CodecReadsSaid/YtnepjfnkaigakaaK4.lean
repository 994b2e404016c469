/- codec: a number is scanned -/
import Derived.Test.YtnepjfnkaigakaaProg
import Derived.Test.YtnepjfnkaigakaaLibRead
import Derived.Test.YtnepjfnkaigakaaK1
set_option linter.unusedVariables false
namespace Go.Proofs.Ytnepjfnkaigakaa
open Go.Q Go.RowKit

theorem scan_calls (w : World) (A : Option Addr) (c : Nat) (bs : List UInt8) (hv : RdB w (.slice A bs.length c) bs) (hl : bs.length ≤ 140737488351232) : Calls Try.prog 59 ⟨[(Value.slice A bs.length c)]⟩ w (fun e w' => e = .returned (.tuple #[.int .u64 (((scanB bs).1 : Nat) : Int), i64 (((scanB bs).2.1 : Nat) : Int), i64 (scanB bs).2.2]) ∧ Keeps none_ w w') := by
  have K0 : Keeps none_ w w := Keeps.refl w
  refine q_calls Try.func59 (by kernel_rfl) (by kernel_rfl) ?_
  refine q_seq (by kernel_rfl) ?_
  refine q_region (by kernel_rfl) ?_
  refine Ops.regs 3 [(0, (Value.slice A bs.length c)), (2, (Value.int IntKind.u64 0)), (3, (i64 0)), (4, (i64 0))] (j := 3) (by kernel_rfl) (by kernel_rfl) ?_
  refine Ops.done (by kernel_rfl) ?_
  refine q_scope (by kernel_rfl) ?_
  refine q_seq (by kernel_rfl) ?_
  refine q_region (by kernel_rfl) ?_
  refine Ops.regs 2 [(0, (Value.slice A bs.length c)), (2, (Value.int IntKind.u64 0)), (3, (i64 0)), (4, (i64 0)), (5, (Value.int IntKind.u64 0)), (6, (i64 10))] (j := 2) (by kernel_rfl) (by kernel_rfl) ?_
  refine Ops.done (by kernel_rfl) ?_
  refine q_seq (by kernel_rfl) ?_
  refine q_region (by kernel_rfl) ?_
  refine Ops.regs 1 [(0, (Value.slice A bs.length c)), (2, (Value.int IntKind.u64 0)), (3, (i64 0)), (4, (i64 0)), (5, (Value.int IntKind.u64 0)), (6, (i64 10)), (7, (i64 0))] (j := 1) (by kernel_rfl) (by kernel_rfl) ?_
  refine Ops.done (by kernel_rfl) ?_
  refine q_seq (by kernel_rfl) ?_
  refine q_label (by kernel_rfl) ?_
  refine q_seq (by kernel_rfl) ?_
  refine q_seq (by kernel_rfl) ?_
  refine q_region (by kernel_rfl) ?_
  refine Ops.regs 3 [(2, (Value.int IntKind.u64 0)), (3, (i64 0)), (4, (i64 0)), (5, (Value.int IntKind.u64 0)), (6, (i64 10)), (7, (i64 0)), (10, (Value.slice A bs.length c)), (11, (i64 ((bs.length : Nat) : Int))), (12, (i64 0))] (j := 3) (by kernel_rfl) (by kernel_rfl) ?_
  refine Ops.done (by kernel_rfl) ?_
  refine q_block (id := 0) (by kernel_rfl) ?_
  refine q_keep (R := [(2, (Value.int IntKind.u64 0)), (3, (i64 0)), (4, (i64 0)), (5, (Value.int IntKind.u64 0)), (6, (i64 10)), (7, (i64 0)), (10, (Value.slice A bs.length c)), (11, (i64 ((bs.length : Nat) : Int))), (12, (i64 0))]) (by kernel_rfl) ?_
  refine q_loop (fun (gs : Nat × Nat) L (wx : World) => match gs with | (i, n) => L = [(2, (Value.int IntKind.u64 0)), (3, (i64 0)), (4, (i64 0)), (5, (Value.int IntKind.u64 ((n : Nat) : Int))), (6, (i64 10)), (7, (i64 0)), (10, (Value.slice A bs.length c)), (11, (i64 ((bs.length : Nat) : Int))), (12, (i64 ((i : Nat) : Int)))] ∧ scanA (bs.drop i) i n = scanB bs ∧ i ≤ 9 ∧ i ≤ bs.length ∧ n < p7 i ∧ Keeps none_ w wx) (fun (gs : Nat × Nat) => match gs with | (i, n) => bs.length - i) (0, 0) (by kernel_rfl) ⟨rfl, rfl, (by omega), (by omega), (p7_pos 0), K0⟩ ?_
  clear K0
  rintro ⟨i, n⟩ _ w1 ⟨rfl, hE, hi, hil, hn, K2⟩
  refine q_seq (by kernel_rfl) ?_
  refine q_region (by kernel_rfl) ?_
  refine Ops.regs 1 [(2, (Value.int IntKind.u64 0)), (3, (i64 0)), (4, (i64 0)), (5, (Value.int IntKind.u64 ((n : Nat) : Int))), (6, (i64 10)), (7, (i64 0)), (10, (Value.slice A bs.length c)), (11, (i64 ((bs.length : Nat) : Int))), (12, (i64 ((i : Nat) : Int))), (13, (Value.bool (decide (((i : Nat) : Int) < ((bs.length : Nat) : Int)))))] (j := 1) (by kernel_rfl) (by kernel_rfl) ?_
  refine Ops.done (by kernel_rfl) ?_
  refine q_seq (by kernel_rfl) ?_
  refine q_cond (o := .tmp 13) (b := (decide (((i : Nat) : Int) < ((bs.length : Nat) : Int)))) (by kernel_rfl) rfl (fun h3 => ?_) (fun h3 => ?_)
  · rw [h3]
    have p4 : ((i : Nat) : Int) < ((bs.length : Nat) : Int) := of_decide_eq_true h3
    obtain ⟨x, lb, lo, hx, hA, hLd⟩ := RdB.at (P := Try.prog) (t := 5) hv (k := i) (by kernel_rfl) (by omega)
    have hx256 : x.toNat < 256 := x.toNat_lt
    refine q_skip (by kernel_rfl) ?_
    refine q_seq (by kernel_rfl) ?_
    refine q_block (id := 1) (by kernel_rfl) ?_
    refine q_seq (by kernel_rfl) ?_
    refine q_region (by kernel_rfl) ?_
    refine Ops.regs 1 [(2, (Value.int IntKind.u64 0)), (3, (i64 0)), (4, (i64 0)), (5, (Value.int IntKind.u64 ((n : Nat) : Int))), (6, (i64 10)), (7, (i64 0)), (10, (Value.slice A bs.length c)), (11, (i64 ((bs.length : Nat) : Int))), (12, (i64 ((i : Nat) : Int))), (13, (Value.bool true)), (14, (i64 ((i : Nat) : Int)))] (j := 1) (by kernel_rfl) (by kernel_rfl) ?_
    refine Ops.go (by kernel_rfl) (Runs.ixSliceE (k := IntKind.i64) (t := 23) (len := bs.length) (cap := c) (s := 1) (off' := lo + i) (i := ((i : Nat) : Int)) hA (by kernel_rfl) (by kernel_rfl) (by omega) (by omega) (by omega)) (d := (some 15)) (by kernel_rfl) rfl ?_
    refine Ops.go (v := (Value.int IntKind.u8 ((x.toNat : Nat) : Int))) (by kernel_rfl) (Runs.load (t := 5) (a := ⟨lb, lo + i, none⟩) (by kernel_rfl) (hLd _ _ K2 (fun h => h))) (d := (some 16)) (by kernel_rfl) rfl ?_
    refine Ops.regs 2 [(2, (Value.int IntKind.u64 0)), (3, (i64 0)), (4, (i64 0)), (5, (Value.int IntKind.u64 ((n : Nat) : Int))), (6, (i64 10)), (7, (i64 0)), (8, (i64 ((i : Nat) : Int))), (9, (Value.int IntKind.u8 ((x.toNat : Nat) : Int))), (10, (Value.slice A bs.length c)), (11, (i64 ((bs.length : Nat) : Int))), (12, (i64 ((i : Nat) : Int))), (13, (Value.bool true))] (j := 5) (by kernel_rfl) (by kernel_rfl) ?_
    refine Ops.done (by kernel_rfl) ?_
    refine q_seq (by kernel_rfl) ?_
    refine q_seq (by kernel_rfl) ?_
    refine q_region (by kernel_rfl) ?_
    refine Ops.regs 3 [(2, (Value.int IntKind.u64 0)), (3, (i64 0)), (4, (i64 0)), (5, (Value.int IntKind.u64 ((n : Nat) : Int))), (6, (i64 10)), (7, (i64 0)), (8, (i64 ((i : Nat) : Int))), (9, (Value.int IntKind.u8 ((x.toNat : Nat) : Int))), (10, (Value.slice A bs.length c)), (11, (i64 ((bs.length : Nat) : Int))), (12, (i64 ((i : Nat) : Int))), (13, (Value.bool true)), (19, (Value.bool (((i : Nat) : Int) == 9)))] (j := 3) (by kernel_rfl) (by kernel_rfl) ?_
    refine Ops.split (((i : Nat) : Int) == 9) (fun h5 => ?_) (fun h5 => ?_)
    · rw [h5]
      have p6 : ((i : Nat) : Int) = 9 := of_beq_t h5
      refine Ops.regs 4 [(2, (Value.int IntKind.u64 0)), (3, (i64 0)), (4, (i64 0)), (5, (Value.int IntKind.u64 ((n : Nat) : Int))), (6, (i64 10)), (7, (i64 0)), (8, (i64 ((i : Nat) : Int))), (9, (Value.int IntKind.u8 ((x.toNat : Nat) : Int))), (10, (Value.slice A bs.length c)), (11, (i64 ((bs.length : Nat) : Int))), (12, (i64 ((i : Nat) : Int))), (13, (Value.bool true)), (23, (Value.bool (decide (((x.toNat : Nat) : Int) > 1))))] (j := 7) (by kernel_rfl) (by kernel_rfl) ?_
      refine Ops.split (decide (((x.toNat : Nat) : Int) > 1)) (fun h7 => ?_) (fun h7 => ?_)
      · rw [h7]
        have p8 : ((x.toNat : Nat) : Int) > 1 := of_decide_eq_true h7
        refine Ops.regs 7 [(2, (Value.int IntKind.u64 0)), (3, (i64 0)), (4, (i64 0)), (5, (Value.int IntKind.u64 ((n : Nat) : Int))), (6, (i64 10)), (7, (i64 0)), (8, (i64 ((i : Nat) : Int))), (9, (Value.int IntKind.u8 ((x.toNat : Nat) : Int))), (10, (Value.slice A bs.length c)), (11, (i64 ((bs.length : Nat) : Int))), (12, (i64 ((i : Nat) : Int))), (13, (Value.bool true)), (30, (Value.bool true))] (j := 14) (by kernel_rfl) (by kernel_rfl) ?_
        refine Ops.done (by kernel_rfl) ?_
        refine q_then (o := .tmp 30) (by kernel_rfl) rfl ?_
        refine q_seq (by kernel_rfl) ?_
        refine q_region (by kernel_rfl) ?_
        refine Ops.regs 1 [(2, (Value.int IntKind.u64 0)), (3, (i64 0)), (4, (i64 0)), (5, (Value.int IntKind.u64 ((n : Nat) : Int))), (6, (i64 11)), (7, (i64 0)), (8, (i64 ((i : Nat) : Int))), (9, (Value.int IntKind.u8 ((x.toNat : Nat) : Int))), (10, (Value.slice A bs.length c)), (11, (i64 ((bs.length : Nat) : Int))), (12, (i64 ((i : Nat) : Int))), (13, (Value.bool true)), (30, (Value.bool true))] (j := 1) (by kernel_rfl) (by kernel_rfl) ?_
        refine Ops.done (by kernel_rfl) ?_
        refine q_exit (id := 0) (by kernel_rfl) ?_
        refine q_seq (by kernel_rfl) ?_
        refine q_region (by kernel_rfl) ?_
        refine Ops.regs 6 [(2, (Value.int IntKind.u64 ((n : Nat) : Int))), (3, (i64 0)), (4, (i64 11))] (j := 6) (by kernel_rfl) (by kernel_rfl) ?_
        refine Ops.done (by kernel_rfl) ?_
        refine q_ret (by kernel_rfl) ?_
        refine ⟨(Value.tuple #[(Value.int IntKind.u64 ((n : Nat) : Int)), (i64 0), (i64 11)]), retv_tmp3 rfl rfl rfl rfl, ?_⟩
        have e : scanB bs = (n, 0, 11) := by rw [← hE]; first | (exfalso; omega) | (rw [hx, scanA_bad (by omega)]; done) | (rw [hx, scanA_end (by omega) (by omega)]; done) | (rw [show i = bs.length from by omega, List.drop_length]; rfl)
        exact ⟨by first | (rw [e]; done) | (rw [e]; rfl), K2⟩
      · rw [h7]
        have p9 : ¬ (((x.toNat : Nat) : Int) > 1) := of_decide_eq_false h7
        refine Ops.regs 3 [(2, (Value.int IntKind.u64 0)), (3, (i64 0)), (4, (i64 0)), (5, (Value.int IntKind.u64 ((n : Nat) : Int))), (6, (i64 10)), (7, (i64 0)), (8, (i64 ((i : Nat) : Int))), (9, (Value.int IntKind.u8 ((x.toNat : Nat) : Int))), (10, (Value.slice A bs.length c)), (11, (i64 ((bs.length : Nat) : Int))), (12, (i64 ((i : Nat) : Int))), (13, (Value.bool true)), (23, (Value.bool false)), (26, (Value.bool (decide (((i : Nat) : Int) > 0))))] (j := 10) (by kernel_rfl) (by kernel_rfl) ?_
        refine Ops.split (decide (((i : Nat) : Int) > 0)) (fun h10 => ?_) (fun h10 => ?_)
        · rw [h10]
          have p11 : ((i : Nat) : Int) > 0 := of_decide_eq_true h10
          refine Ops.regs 4 [(2, (Value.int IntKind.u64 0)), (3, (i64 0)), (4, (i64 0)), (5, (Value.int IntKind.u64 ((n : Nat) : Int))), (6, (i64 10)), (7, (i64 0)), (8, (i64 ((i : Nat) : Int))), (9, (Value.int IntKind.u8 ((x.toNat : Nat) : Int))), (10, (Value.slice A bs.length c)), (11, (i64 ((bs.length : Nat) : Int))), (12, (i64 ((i : Nat) : Int))), (13, (Value.bool true)), (30, (Value.bool (((x.toNat : Nat) : Int) == 0)))] (j := 14) (by kernel_rfl) (by kernel_rfl) ?_
          refine Ops.done (by kernel_rfl) ?_
          refine q_cond (o := .tmp 30) (b := (((x.toNat : Nat) : Int) == 0)) (by kernel_rfl) rfl (fun h12 => ?_) (fun h12 => ?_)
          · rw [h12]
            have p13 : ((x.toNat : Nat) : Int) = 0 := of_beq_t h12
            refine q_seq (by kernel_rfl) ?_
            refine q_region (by kernel_rfl) ?_
            refine Ops.regs 1 [(2, (Value.int IntKind.u64 0)), (3, (i64 0)), (4, (i64 0)), (5, (Value.int IntKind.u64 ((n : Nat) : Int))), (6, (i64 11)), (7, (i64 0)), (8, (i64 ((i : Nat) : Int))), (9, (Value.int IntKind.u8 ((x.toNat : Nat) : Int))), (10, (Value.slice A bs.length c)), (11, (i64 ((bs.length : Nat) : Int))), (12, (i64 ((i : Nat) : Int))), (13, (Value.bool true)), (30, (Value.bool true))] (j := 1) (by kernel_rfl) (by kernel_rfl) ?_
            refine Ops.done (by kernel_rfl) ?_
            refine q_exit (id := 0) (by kernel_rfl) ?_
            refine q_seq (by kernel_rfl) ?_
            refine q_region (by kernel_rfl) ?_
            refine Ops.regs 6 [(2, (Value.int IntKind.u64 ((n : Nat) : Int))), (3, (i64 0)), (4, (i64 11))] (j := 6) (by kernel_rfl) (by kernel_rfl) ?_
            refine Ops.done (by kernel_rfl) ?_
            refine q_ret (by kernel_rfl) ?_
            refine ⟨(Value.tuple #[(Value.int IntKind.u64 ((n : Nat) : Int)), (i64 0), (i64 11)]), retv_tmp3 rfl rfl rfl rfl, ?_⟩
            have e : scanB bs = (n, 0, 11) := by rw [← hE]; first | (exfalso; omega) | (rw [hx, scanA_bad (by omega)]; done) | (rw [hx, scanA_end (by omega) (by omega)]; done) | (rw [show i = bs.length from by omega, List.drop_length]; rfl)
            exact ⟨by first | (rw [e]; done) | (rw [e]; rfl), K2⟩
          · rw [h12]
            have p14 : ¬ (((x.toNat : Nat) : Int) = 0) := of_beq_f h12
            refine q_skip (by kernel_rfl) ?_
            refine q_seq (by kernel_rfl) ?_
            refine q_region (by kernel_rfl) ?_
            refine Ops.regs 2 [(2, (Value.int IntKind.u64 0)), (3, (i64 0)), (4, (i64 0)), (5, (Value.int IntKind.u64 ((n : Nat) : Int))), (6, (i64 10)), (7, (i64 0)), (8, (i64 ((i : Nat) : Int))), (9, (Value.int IntKind.u8 ((x.toNat : Nat) : Int))), (10, (Value.slice A bs.length c)), (11, (i64 ((bs.length : Nat) : Int))), (12, (i64 ((i : Nat) : Int))), (13, (Value.bool true)), (30, (Value.bool false)), (31, (Value.int IntKind.u64 ((n : Nat) : Int))), (32, (Value.int IntKind.u8 ((x.toNat : Nat) : Int)))] (j := 2) (by kernel_rfl) (by kernel_rfl) ?_
            refine Ops.go (v := (Value.int IntKind.u8 ((x.toNat % 128 : Nat) : Int))) (by kernel_rfl) (Runs.int (op := .and) (t := 5) (by kernel_rfl) (run_and127 (by omega))) (d := (some 33)) (by kernel_rfl) rfl ?_
            refine Ops.regs 1 [(2, (Value.int IntKind.u64 0)), (3, (i64 0)), (4, (i64 0)), (5, (Value.int IntKind.u64 ((n : Nat) : Int))), (6, (i64 10)), (7, (i64 0)), (8, (i64 ((i : Nat) : Int))), (9, (Value.int IntKind.u8 ((x.toNat : Nat) : Int))), (10, (Value.slice A bs.length c)), (11, (i64 ((bs.length : Nat) : Int))), (12, (i64 ((i : Nat) : Int))), (13, (Value.bool true)), (30, (Value.bool false)), (31, (Value.int IntKind.u64 ((n : Nat) : Int))), (34, (Value.int IntKind.u64 (IntKind.u64.wrap (((x.toNat % 128 : Nat) : Int)))))] (j := 4) (by kernel_rfl) (by kernel_rfl) ?_
            have e15 : IntKind.u64.wrap (((x.toNat % 128 : Nat) : Int)) = ((x.toNat % 128 : Nat) : Int) := wrap_u64 (by omega) (by omega)
            rw [e15]
            refine Ops.regs 2 [(2, (Value.int IntKind.u64 0)), (3, (i64 0)), (4, (i64 0)), (5, (Value.int IntKind.u64 ((n : Nat) : Int))), (6, (i64 10)), (7, (i64 0)), (8, (i64 ((i : Nat) : Int))), (9, (Value.int IntKind.u8 ((x.toNat : Nat) : Int))), (10, (Value.slice A bs.length c)), (11, (i64 ((bs.length : Nat) : Int))), (12, (i64 ((i : Nat) : Int))), (13, (Value.bool true)), (30, (Value.bool false)), (31, (Value.int IntKind.u64 ((n : Nat) : Int))), (34, (Value.int IntKind.u64 ((x.toNat % 128 : Nat) : Int))), (36, (i64 (IntKind.i64.wrap (7 * ((i : Nat) : Int)))))] (j := 6) (by kernel_rfl) (by kernel_rfl) ?_
            have e16 : IntKind.i64.wrap (7 * ((i : Nat) : Int)) = ((7 * i : Nat) : Int) := by rw [wrap_i64 (by omega) (by omega)]; omega
            rw [e16]
            clear e16
            have hr := scan_round (c := x) hi hn (by omega)
            refine Ops.go (v := (Value.int IntKind.u64 ((x.toNat % 128 * p7 i : Nat) : Int))) (by kernel_rfl) (Runs.int (op := .shl) (t := 22) (by kernel_rfl) (run_shl7 (k := IntKind.i64) (i := i) (s := ((7 * i : Nat) : Int)) (by omega) (by omega) hr.1)) (d := (some 37)) (by kernel_rfl) rfl ?_
            refine Ops.go (v := (Value.int IntKind.u64 ((n + x.toNat % 128 * p7 i : Nat) : Int))) (by kernel_rfl) (Runs.int (op := .or) (t := 22) (by kernel_rfl) (run_or7 hn hr.2.1)) (d := (some 38)) (by kernel_rfl) rfl ?_
            refine Ops.regs 1 [(2, (Value.int IntKind.u64 0)), (3, (i64 0)), (4, (i64 0)), (5, (Value.int IntKind.u64 ((n + x.toNat % 128 * p7 i : Nat) : Int))), (6, (i64 10)), (7, (i64 0)), (8, (i64 ((i : Nat) : Int))), (9, (Value.int IntKind.u8 ((x.toNat : Nat) : Int))), (10, (Value.slice A bs.length c)), (11, (i64 ((bs.length : Nat) : Int))), (12, (i64 ((i : Nat) : Int))), (13, (Value.bool true)), (30, (Value.bool false))] (j := 9) (by kernel_rfl) (by kernel_rfl) ?_
            refine Ops.done (by kernel_rfl) ?_
            refine q_seq (by kernel_rfl) ?_
            refine q_region (by kernel_rfl) ?_
            refine Ops.regs 2 [(2, (Value.int IntKind.u64 0)), (3, (i64 0)), (4, (i64 0)), (5, (Value.int IntKind.u64 ((n + x.toNat % 128 * p7 i : Nat) : Int))), (6, (i64 10)), (7, (i64 0)), (8, (i64 ((i : Nat) : Int))), (9, (Value.int IntKind.u8 ((x.toNat : Nat) : Int))), (10, (Value.slice A bs.length c)), (11, (i64 ((bs.length : Nat) : Int))), (12, (i64 ((i : Nat) : Int))), (13, (Value.bool true)), (30, (Value.bool false)), (40, (Value.bool (decide (((x.toNat : Nat) : Int) < 128))))] (j := 2) (by kernel_rfl) (by kernel_rfl) ?_
            refine Ops.done (by kernel_rfl) ?_
            refine q_cond (o := .tmp 40) (b := (decide (((x.toNat : Nat) : Int) < 128))) (by kernel_rfl) rfl (fun h17 => ?_) (fun h17 => ?_)
            · rw [h17]
              have p18 : ((x.toNat : Nat) : Int) < 128 := of_decide_eq_true h17
              refine q_seq (by kernel_rfl) ?_
              refine q_region (by kernel_rfl) ?_
              refine Ops.regs 2 [(2, (Value.int IntKind.u64 0)), (3, (i64 0)), (4, (i64 0)), (5, (Value.int IntKind.u64 ((n + x.toNat % 128 * p7 i : Nat) : Int))), (6, (i64 10)), (7, (i64 0)), (8, (i64 ((i : Nat) : Int))), (9, (Value.int IntKind.u8 ((x.toNat : Nat) : Int))), (10, (Value.slice A bs.length c)), (11, (i64 ((bs.length : Nat) : Int))), (12, (i64 ((i : Nat) : Int))), (13, (Value.bool true)), (30, (Value.bool false)), (40, (Value.bool true)), (42, (i64 (IntKind.i64.wrap (((i : Nat) : Int) + 1))))] (j := 2) (by kernel_rfl) (by kernel_rfl) ?_
              have e19 : IntKind.i64.wrap (((i : Nat) : Int) + 1) = ((i + 1 : Nat) : Int) := by rw [wrap_i64 (by omega) (by omega)]; omega
              rw [e19]
              clear e19
              refine Ops.regs 2 [(2, (Value.int IntKind.u64 0)), (3, (i64 0)), (4, (i64 0)), (5, (Value.int IntKind.u64 ((n + x.toNat % 128 * p7 i : Nat) : Int))), (6, (i64 0)), (7, (i64 ((i + 1 : Nat) : Int))), (8, (i64 ((i : Nat) : Int))), (9, (Value.int IntKind.u8 ((x.toNat : Nat) : Int))), (10, (Value.slice A bs.length c)), (11, (i64 ((bs.length : Nat) : Int))), (12, (i64 ((i : Nat) : Int))), (13, (Value.bool true)), (30, (Value.bool false)), (40, (Value.bool true))] (j := 4) (by kernel_rfl) (by kernel_rfl) ?_
              refine Ops.done (by kernel_rfl) ?_
              refine q_exit (id := 0) (by kernel_rfl) ?_
              refine q_seq (by kernel_rfl) ?_
              refine q_region (by kernel_rfl) ?_
              refine Ops.regs 6 [(2, (Value.int IntKind.u64 ((n + x.toNat % 128 * p7 i : Nat) : Int))), (3, (i64 ((i + 1 : Nat) : Int))), (4, (i64 0))] (j := 6) (by kernel_rfl) (by kernel_rfl) ?_
              refine Ops.done (by kernel_rfl) ?_
              refine q_ret (by kernel_rfl) ?_
              refine ⟨(Value.tuple #[(Value.int IntKind.u64 ((n + x.toNat % 128 * p7 i : Nat) : Int)), (i64 ((i + 1 : Nat) : Int)), (i64 0)]), retv_tmp3 rfl rfl rfl rfl, ?_⟩
              have e : scanB bs = (n + x.toNat % 128 * p7 i, i + 1, 0) := by rw [← hE]; first | (exfalso; omega) | (rw [hx, scanA_bad (by omega)]; done) | (rw [hx, scanA_end (by omega) (by omega)]; done) | (rw [show i = bs.length from by omega, List.drop_length]; rfl)
              exact ⟨by first | (rw [e]; done) | (rw [e]; rfl), K2⟩
            · rw [h17]
              have p20 : ¬ (((x.toNat : Nat) : Int) < 128) := of_decide_eq_false h17
              refine q_skip (by kernel_rfl) ?_
              refine q_region (by kernel_rfl) ?_
              refine Ops.regs 1 [(2, (Value.int IntKind.u64 0)), (3, (i64 0)), (4, (i64 0)), (5, (Value.int IntKind.u64 ((n + x.toNat % 128 * p7 i : Nat) : Int))), (6, (i64 10)), (7, (i64 0)), (8, (i64 ((i : Nat) : Int))), (9, (Value.int IntKind.u8 ((x.toNat : Nat) : Int))), (10, (Value.slice A bs.length c)), (11, (i64 ((bs.length : Nat) : Int))), (12, (i64 ((i : Nat) : Int))), (13, (Value.bool true)), (30, (Value.bool false)), (40, (Value.bool false)), (43, (i64 (IntKind.i64.wrap (((i : Nat) : Int) + 1))))] (j := 1) (by kernel_rfl) (by kernel_rfl) ?_
              have e21 : IntKind.i64.wrap (((i : Nat) : Int) + 1) = ((i + 1 : Nat) : Int) := by rw [wrap_i64 (by omega) (by omega)]; omega
              rw [e21]
              clear e21
              refine Ops.regs 1 [(2, (Value.int IntKind.u64 0)), (3, (i64 0)), (4, (i64 0)), (5, (Value.int IntKind.u64 ((n + x.toNat % 128 * p7 i : Nat) : Int))), (6, (i64 10)), (7, (i64 0)), (8, (i64 ((i : Nat) : Int))), (9, (Value.int IntKind.u8 ((x.toNat : Nat) : Int))), (10, (Value.slice A bs.length c)), (11, (i64 ((bs.length : Nat) : Int))), (12, (i64 ((i + 1 : Nat) : Int))), (13, (Value.bool true)), (30, (Value.bool false)), (40, (Value.bool false))] (j := 2) (by kernel_rfl) (by kernel_rfl) ?_
              refine Ops.keep (R := [(2, (Value.int IntKind.u64 0)), (3, (i64 0)), (4, (i64 0)), (5, (Value.int IntKind.u64 ((n + x.toNat % 128 * p7 i : Nat) : Int))), (6, (i64 10)), (7, (i64 0)), (10, (Value.slice A bs.length c)), (11, (i64 ((bs.length : Nat) : Int))), (12, (i64 ((i + 1 : Nat) : Int)))]) (by kernel_rfl) ?_
              refine Ops.done (by kernel_rfl) ?_
              exact ⟨(i + 1, n + x.toNat % 128 * p7 i), ⟨rfl, (by rw [← hE, hx, scanA_more (by omega) (by omega)]), (by omega), (by omega), (hr.2.2 (by omega)), K2⟩, (show bs.length - (i + 1) < bs.length - i from by omega)⟩
        · rw [h10]
          have p22 : ¬ (((i : Nat) : Int) > 0) := of_decide_eq_false h10
          refine Ops.regs 4 [(2, (Value.int IntKind.u64 0)), (3, (i64 0)), (4, (i64 0)), (5, (Value.int IntKind.u64 ((n : Nat) : Int))), (6, (i64 10)), (7, (i64 0)), (8, (i64 ((i : Nat) : Int))), (9, (Value.int IntKind.u8 ((x.toNat : Nat) : Int))), (10, (Value.slice A bs.length c)), (11, (i64 ((bs.length : Nat) : Int))), (12, (i64 ((i : Nat) : Int))), (13, (Value.bool true)), (30, (Value.bool false))] (j := 14) (by kernel_rfl) (by kernel_rfl) ?_
          refine Ops.done (by kernel_rfl) ?_
          refine q_else (o := .tmp 30) (by kernel_rfl) rfl ?_
          refine q_skip (by kernel_rfl) ?_
          refine q_seq (by kernel_rfl) ?_
          refine q_region (by kernel_rfl) ?_
          refine Ops.regs 2 [(2, (Value.int IntKind.u64 0)), (3, (i64 0)), (4, (i64 0)), (5, (Value.int IntKind.u64 ((n : Nat) : Int))), (6, (i64 10)), (7, (i64 0)), (8, (i64 ((i : Nat) : Int))), (9, (Value.int IntKind.u8 ((x.toNat : Nat) : Int))), (10, (Value.slice A bs.length c)), (11, (i64 ((bs.length : Nat) : Int))), (12, (i64 ((i : Nat) : Int))), (13, (Value.bool true)), (30, (Value.bool false)), (31, (Value.int IntKind.u64 ((n : Nat) : Int))), (32, (Value.int IntKind.u8 ((x.toNat : Nat) : Int)))] (j := 2) (by kernel_rfl) (by kernel_rfl) ?_
          refine Ops.go (v := (Value.int IntKind.u8 ((x.toNat % 128 : Nat) : Int))) (by kernel_rfl) (Runs.int (op := .and) (t := 5) (by kernel_rfl) (run_and127 (by omega))) (d := (some 33)) (by kernel_rfl) rfl ?_
          refine Ops.regs 1 [(2, (Value.int IntKind.u64 0)), (3, (i64 0)), (4, (i64 0)), (5, (Value.int IntKind.u64 ((n : Nat) : Int))), (6, (i64 10)), (7, (i64 0)), (8, (i64 ((i : Nat) : Int))), (9, (Value.int IntKind.u8 ((x.toNat : Nat) : Int))), (10, (Value.slice A bs.length c)), (11, (i64 ((bs.length : Nat) : Int))), (12, (i64 ((i : Nat) : Int))), (13, (Value.bool true)), (30, (Value.bool false)), (31, (Value.int IntKind.u64 ((n : Nat) : Int))), (34, (Value.int IntKind.u64 (IntKind.u64.wrap (((x.toNat % 128 : Nat) : Int)))))] (j := 4) (by kernel_rfl) (by kernel_rfl) ?_
          have e23 : IntKind.u64.wrap (((x.toNat % 128 : Nat) : Int)) = ((x.toNat % 128 : Nat) : Int) := wrap_u64 (by omega) (by omega)
          rw [e23]
          refine Ops.regs 2 [(2, (Value.int IntKind.u64 0)), (3, (i64 0)), (4, (i64 0)), (5, (Value.int IntKind.u64 ((n : Nat) : Int))), (6, (i64 10)), (7, (i64 0)), (8, (i64 ((i : Nat) : Int))), (9, (Value.int IntKind.u8 ((x.toNat : Nat) : Int))), (10, (Value.slice A bs.length c)), (11, (i64 ((bs.length : Nat) : Int))), (12, (i64 ((i : Nat) : Int))), (13, (Value.bool true)), (30, (Value.bool false)), (31, (Value.int IntKind.u64 ((n : Nat) : Int))), (34, (Value.int IntKind.u64 ((x.toNat % 128 : Nat) : Int))), (36, (i64 (IntKind.i64.wrap (7 * ((i : Nat) : Int)))))] (j := 6) (by kernel_rfl) (by kernel_rfl) ?_
          have e24 : IntKind.i64.wrap (7 * ((i : Nat) : Int)) = ((7 * i : Nat) : Int) := by rw [wrap_i64 (by omega) (by omega)]; omega
          rw [e24]
          clear e24
          have hr := scan_round (c := x) hi hn (by omega)
          refine Ops.go (v := (Value.int IntKind.u64 ((x.toNat % 128 * p7 i : Nat) : Int))) (by kernel_rfl) (Runs.int (op := .shl) (t := 22) (by kernel_rfl) (run_shl7 (k := IntKind.i64) (i := i) (s := ((7 * i : Nat) : Int)) (by omega) (by omega) hr.1)) (d := (some 37)) (by kernel_rfl) rfl ?_
          refine Ops.go (v := (Value.int IntKind.u64 ((n + x.toNat % 128 * p7 i : Nat) : Int))) (by kernel_rfl) (Runs.int (op := .or) (t := 22) (by kernel_rfl) (run_or7 hn hr.2.1)) (d := (some 38)) (by kernel_rfl) rfl ?_
          refine Ops.regs 1 [(2, (Value.int IntKind.u64 0)), (3, (i64 0)), (4, (i64 0)), (5, (Value.int IntKind.u64 ((n + x.toNat % 128 * p7 i : Nat) : Int))), (6, (i64 10)), (7, (i64 0)), (8, (i64 ((i : Nat) : Int))), (9, (Value.int IntKind.u8 ((x.toNat : Nat) : Int))), (10, (Value.slice A bs.length c)), (11, (i64 ((bs.length : Nat) : Int))), (12, (i64 ((i : Nat) : Int))), (13, (Value.bool true)), (30, (Value.bool false))] (j := 9) (by kernel_rfl) (by kernel_rfl) ?_
          refine Ops.done (by kernel_rfl) ?_
          refine q_seq (by kernel_rfl) ?_
          refine q_region (by kernel_rfl) ?_
          refine Ops.regs 2 [(2, (Value.int IntKind.u64 0)), (3, (i64 0)), (4, (i64 0)), (5, (Value.int IntKind.u64 ((n + x.toNat % 128 * p7 i : Nat) : Int))), (6, (i64 10)), (7, (i64 0)), (8, (i64 ((i : Nat) : Int))), (9, (Value.int IntKind.u8 ((x.toNat : Nat) : Int))), (10, (Value.slice A bs.length c)), (11, (i64 ((bs.length : Nat) : Int))), (12, (i64 ((i : Nat) : Int))), (13, (Value.bool true)), (30, (Value.bool false)), (40, (Value.bool (decide (((x.toNat : Nat) : Int) < 128))))] (j := 2) (by kernel_rfl) (by kernel_rfl) ?_
          refine Ops.done (by kernel_rfl) ?_
          refine q_cond (o := .tmp 40) (b := (decide (((x.toNat : Nat) : Int) < 128))) (by kernel_rfl) rfl (fun h25 => ?_) (fun h25 => ?_)
          · rw [h25]
            have p26 : ((x.toNat : Nat) : Int) < 128 := of_decide_eq_true h25
            refine q_seq (by kernel_rfl) ?_
            refine q_region (by kernel_rfl) ?_
            refine Ops.regs 2 [(2, (Value.int IntKind.u64 0)), (3, (i64 0)), (4, (i64 0)), (5, (Value.int IntKind.u64 ((n + x.toNat % 128 * p7 i : Nat) : Int))), (6, (i64 10)), (7, (i64 0)), (8, (i64 ((i : Nat) : Int))), (9, (Value.int IntKind.u8 ((x.toNat : Nat) : Int))), (10, (Value.slice A bs.length c)), (11, (i64 ((bs.length : Nat) : Int))), (12, (i64 ((i : Nat) : Int))), (13, (Value.bool true)), (30, (Value.bool false)), (40, (Value.bool true)), (42, (i64 (IntKind.i64.wrap (((i : Nat) : Int) + 1))))] (j := 2) (by kernel_rfl) (by kernel_rfl) ?_
            have e27 : IntKind.i64.wrap (((i : Nat) : Int) + 1) = ((i + 1 : Nat) : Int) := by rw [wrap_i64 (by omega) (by omega)]; omega
            rw [e27]
            clear e27
            refine Ops.regs 2 [(2, (Value.int IntKind.u64 0)), (3, (i64 0)), (4, (i64 0)), (5, (Value.int IntKind.u64 ((n + x.toNat % 128 * p7 i : Nat) : Int))), (6, (i64 0)), (7, (i64 ((i + 1 : Nat) : Int))), (8, (i64 ((i : Nat) : Int))), (9, (Value.int IntKind.u8 ((x.toNat : Nat) : Int))), (10, (Value.slice A bs.length c)), (11, (i64 ((bs.length : Nat) : Int))), (12, (i64 ((i : Nat) : Int))), (13, (Value.bool true)), (30, (Value.bool false)), (40, (Value.bool true))] (j := 4) (by kernel_rfl) (by kernel_rfl) ?_
            refine Ops.done (by kernel_rfl) ?_
            refine q_exit (id := 0) (by kernel_rfl) ?_
            refine q_seq (by kernel_rfl) ?_
            refine q_region (by kernel_rfl) ?_
            refine Ops.regs 6 [(2, (Value.int IntKind.u64 ((n + x.toNat % 128 * p7 i : Nat) : Int))), (3, (i64 ((i + 1 : Nat) : Int))), (4, (i64 0))] (j := 6) (by kernel_rfl) (by kernel_rfl) ?_
            refine Ops.done (by kernel_rfl) ?_
            refine q_ret (by kernel_rfl) ?_
            refine ⟨(Value.tuple #[(Value.int IntKind.u64 ((n + x.toNat % 128 * p7 i : Nat) : Int)), (i64 ((i + 1 : Nat) : Int)), (i64 0)]), retv_tmp3 rfl rfl rfl rfl, ?_⟩
            have e : scanB bs = (n + x.toNat % 128 * p7 i, i + 1, 0) := by rw [← hE]; first | (exfalso; omega) | (rw [hx, scanA_bad (by omega)]; done) | (rw [hx, scanA_end (by omega) (by omega)]; done) | (rw [show i = bs.length from by omega, List.drop_length]; rfl)
            exact ⟨by first | (rw [e]; done) | (rw [e]; rfl), K2⟩
          · rw [h25]
            have p28 : ¬ (((x.toNat : Nat) : Int) < 128) := of_decide_eq_false h25
            refine q_skip (by kernel_rfl) ?_
            refine q_region (by kernel_rfl) ?_
            refine Ops.regs 1 [(2, (Value.int IntKind.u64 0)), (3, (i64 0)), (4, (i64 0)), (5, (Value.int IntKind.u64 ((n + x.toNat % 128 * p7 i : Nat) : Int))), (6, (i64 10)), (7, (i64 0)), (8, (i64 ((i : Nat) : Int))), (9, (Value.int IntKind.u8 ((x.toNat : Nat) : Int))), (10, (Value.slice A bs.length c)), (11, (i64 ((bs.length : Nat) : Int))), (12, (i64 ((i : Nat) : Int))), (13, (Value.bool true)), (30, (Value.bool false)), (40, (Value.bool false)), (43, (i64 (IntKind.i64.wrap (((i : Nat) : Int) + 1))))] (j := 1) (by kernel_rfl) (by kernel_rfl) ?_
            have e29 : IntKind.i64.wrap (((i : Nat) : Int) + 1) = ((i + 1 : Nat) : Int) := by rw [wrap_i64 (by omega) (by omega)]; omega
            rw [e29]
            clear e29
            refine Ops.regs 1 [(2, (Value.int IntKind.u64 0)), (3, (i64 0)), (4, (i64 0)), (5, (Value.int IntKind.u64 ((n + x.toNat % 128 * p7 i : Nat) : Int))), (6, (i64 10)), (7, (i64 0)), (8, (i64 ((i : Nat) : Int))), (9, (Value.int IntKind.u8 ((x.toNat : Nat) : Int))), (10, (Value.slice A bs.length c)), (11, (i64 ((bs.length : Nat) : Int))), (12, (i64 ((i + 1 : Nat) : Int))), (13, (Value.bool true)), (30, (Value.bool false)), (40, (Value.bool false))] (j := 2) (by kernel_rfl) (by kernel_rfl) ?_
            refine Ops.keep (R := [(2, (Value.int IntKind.u64 0)), (3, (i64 0)), (4, (i64 0)), (5, (Value.int IntKind.u64 ((n + x.toNat % 128 * p7 i : Nat) : Int))), (6, (i64 10)), (7, (i64 0)), (10, (Value.slice A bs.length c)), (11, (i64 ((bs.length : Nat) : Int))), (12, (i64 ((i + 1 : Nat) : Int)))]) (by kernel_rfl) ?_
            refine Ops.done (by kernel_rfl) ?_
            exact ⟨(i + 1, n + x.toNat % 128 * p7 i), ⟨rfl, (by rw [← hE, hx, scanA_more (by omega) (by omega)]), (by omega), (by omega), (hr.2.2 (by omega)), K2⟩, (show bs.length - (i + 1) < bs.length - i from by omega)⟩
    · rw [h5]
      have p30 : ¬ (((i : Nat) : Int) = 9) := of_beq_f h5
      refine Ops.regs 7 [(2, (Value.int IntKind.u64 0)), (3, (i64 0)), (4, (i64 0)), (5, (Value.int IntKind.u64 ((n : Nat) : Int))), (6, (i64 10)), (7, (i64 0)), (8, (i64 ((i : Nat) : Int))), (9, (Value.int IntKind.u8 ((x.toNat : Nat) : Int))), (10, (Value.slice A bs.length c)), (11, (i64 ((bs.length : Nat) : Int))), (12, (i64 ((i : Nat) : Int))), (13, (Value.bool true)), (23, (Value.bool false)), (26, (Value.bool (decide (((i : Nat) : Int) > 0))))] (j := 10) (by kernel_rfl) (by kernel_rfl) ?_
      refine Ops.split (decide (((i : Nat) : Int) > 0)) (fun h31 => ?_) (fun h31 => ?_)
      · rw [h31]
        have p32 : ((i : Nat) : Int) > 0 := of_decide_eq_true h31
        refine Ops.regs 4 [(2, (Value.int IntKind.u64 0)), (3, (i64 0)), (4, (i64 0)), (5, (Value.int IntKind.u64 ((n : Nat) : Int))), (6, (i64 10)), (7, (i64 0)), (8, (i64 ((i : Nat) : Int))), (9, (Value.int IntKind.u8 ((x.toNat : Nat) : Int))), (10, (Value.slice A bs.length c)), (11, (i64 ((bs.length : Nat) : Int))), (12, (i64 ((i : Nat) : Int))), (13, (Value.bool true)), (30, (Value.bool (((x.toNat : Nat) : Int) == 0)))] (j := 14) (by kernel_rfl) (by kernel_rfl) ?_
        refine Ops.done (by kernel_rfl) ?_
        refine q_cond (o := .tmp 30) (b := (((x.toNat : Nat) : Int) == 0)) (by kernel_rfl) rfl (fun h33 => ?_) (fun h33 => ?_)
        · rw [h33]
          have p34 : ((x.toNat : Nat) : Int) = 0 := of_beq_t h33
          refine q_seq (by kernel_rfl) ?_
          refine q_region (by kernel_rfl) ?_
          refine Ops.regs 1 [(2, (Value.int IntKind.u64 0)), (3, (i64 0)), (4, (i64 0)), (5, (Value.int IntKind.u64 ((n : Nat) : Int))), (6, (i64 11)), (7, (i64 0)), (8, (i64 ((i : Nat) : Int))), (9, (Value.int IntKind.u8 ((x.toNat : Nat) : Int))), (10, (Value.slice A bs.length c)), (11, (i64 ((bs.length : Nat) : Int))), (12, (i64 ((i : Nat) : Int))), (13, (Value.bool true)), (30, (Value.bool true))] (j := 1) (by kernel_rfl) (by kernel_rfl) ?_
          refine Ops.done (by kernel_rfl) ?_
          refine q_exit (id := 0) (by kernel_rfl) ?_
          refine q_seq (by kernel_rfl) ?_
          refine q_region (by kernel_rfl) ?_
          refine Ops.regs 6 [(2, (Value.int IntKind.u64 ((n : Nat) : Int))), (3, (i64 0)), (4, (i64 11))] (j := 6) (by kernel_rfl) (by kernel_rfl) ?_
          refine Ops.done (by kernel_rfl) ?_
          refine q_ret (by kernel_rfl) ?_
          refine ⟨(Value.tuple #[(Value.int IntKind.u64 ((n : Nat) : Int)), (i64 0), (i64 11)]), retv_tmp3 rfl rfl rfl rfl, ?_⟩
          have e : scanB bs = (n, 0, 11) := by rw [← hE]; first | (exfalso; omega) | (rw [hx, scanA_bad (by omega)]; done) | (rw [hx, scanA_end (by omega) (by omega)]; done) | (rw [show i = bs.length from by omega, List.drop_length]; rfl)
          exact ⟨by first | (rw [e]; done) | (rw [e]; rfl), K2⟩
        · rw [h33]
          have p35 : ¬ (((x.toNat : Nat) : Int) = 0) := of_beq_f h33
          refine q_skip (by kernel_rfl) ?_
          refine q_seq (by kernel_rfl) ?_
          refine q_region (by kernel_rfl) ?_
          refine Ops.regs 2 [(2, (Value.int IntKind.u64 0)), (3, (i64 0)), (4, (i64 0)), (5, (Value.int IntKind.u64 ((n : Nat) : Int))), (6, (i64 10)), (7, (i64 0)), (8, (i64 ((i : Nat) : Int))), (9, (Value.int IntKind.u8 ((x.toNat : Nat) : Int))), (10, (Value.slice A bs.length c)), (11, (i64 ((bs.length : Nat) : Int))), (12, (i64 ((i : Nat) : Int))), (13, (Value.bool true)), (30, (Value.bool false)), (31, (Value.int IntKind.u64 ((n : Nat) : Int))), (32, (Value.int IntKind.u8 ((x.toNat : Nat) : Int)))] (j := 2) (by kernel_rfl) (by kernel_rfl) ?_
          refine Ops.go (v := (Value.int IntKind.u8 ((x.toNat % 128 : Nat) : Int))) (by kernel_rfl) (Runs.int (op := .and) (t := 5) (by kernel_rfl) (run_and127 (by omega))) (d := (some 33)) (by kernel_rfl) rfl ?_
          refine Ops.regs 1 [(2, (Value.int IntKind.u64 0)), (3, (i64 0)), (4, (i64 0)), (5, (Value.int IntKind.u64 ((n : Nat) : Int))), (6, (i64 10)), (7, (i64 0)), (8, (i64 ((i : Nat) : Int))), (9, (Value.int IntKind.u8 ((x.toNat : Nat) : Int))), (10, (Value.slice A bs.length c)), (11, (i64 ((bs.length : Nat) : Int))), (12, (i64 ((i : Nat) : Int))), (13, (Value.bool true)), (30, (Value.bool false)), (31, (Value.int IntKind.u64 ((n : Nat) : Int))), (34, (Value.int IntKind.u64 (IntKind.u64.wrap (((x.toNat % 128 : Nat) : Int)))))] (j := 4) (by kernel_rfl) (by kernel_rfl) ?_
          have e36 : IntKind.u64.wrap (((x.toNat % 128 : Nat) : Int)) = ((x.toNat % 128 : Nat) : Int) := wrap_u64 (by omega) (by omega)
          rw [e36]
          refine Ops.regs 2 [(2, (Value.int IntKind.u64 0)), (3, (i64 0)), (4, (i64 0)), (5, (Value.int IntKind.u64 ((n : Nat) : Int))), (6, (i64 10)), (7, (i64 0)), (8, (i64 ((i : Nat) : Int))), (9, (Value.int IntKind.u8 ((x.toNat : Nat) : Int))), (10, (Value.slice A bs.length c)), (11, (i64 ((bs.length : Nat) : Int))), (12, (i64 ((i : Nat) : Int))), (13, (Value.bool true)), (30, (Value.bool false)), (31, (Value.int IntKind.u64 ((n : Nat) : Int))), (34, (Value.int IntKind.u64 ((x.toNat % 128 : Nat) : Int))), (36, (i64 (IntKind.i64.wrap (7 * ((i : Nat) : Int)))))] (j := 6) (by kernel_rfl) (by kernel_rfl) ?_
          have e37 : IntKind.i64.wrap (7 * ((i : Nat) : Int)) = ((7 * i : Nat) : Int) := by rw [wrap_i64 (by omega) (by omega)]; omega
          rw [e37]
          clear e37
          have hr := scan_round (c := x) hi hn (by omega)
          refine Ops.go (v := (Value.int IntKind.u64 ((x.toNat % 128 * p7 i : Nat) : Int))) (by kernel_rfl) (Runs.int (op := .shl) (t := 22) (by kernel_rfl) (run_shl7 (k := IntKind.i64) (i := i) (s := ((7 * i : Nat) : Int)) (by omega) (by omega) hr.1)) (d := (some 37)) (by kernel_rfl) rfl ?_
          refine Ops.go (v := (Value.int IntKind.u64 ((n + x.toNat % 128 * p7 i : Nat) : Int))) (by kernel_rfl) (Runs.int (op := .or) (t := 22) (by kernel_rfl) (run_or7 hn hr.2.1)) (d := (some 38)) (by kernel_rfl) rfl ?_
          refine Ops.regs 1 [(2, (Value.int IntKind.u64 0)), (3, (i64 0)), (4, (i64 0)), (5, (Value.int IntKind.u64 ((n + x.toNat % 128 * p7 i : Nat) : Int))), (6, (i64 10)), (7, (i64 0)), (8, (i64 ((i : Nat) : Int))), (9, (Value.int IntKind.u8 ((x.toNat : Nat) : Int))), (10, (Value.slice A bs.length c)), (11, (i64 ((bs.length : Nat) : Int))), (12, (i64 ((i : Nat) : Int))), (13, (Value.bool true)), (30, (Value.bool false))] (j := 9) (by kernel_rfl) (by kernel_rfl) ?_
          refine Ops.done (by kernel_rfl) ?_
          refine q_seq (by kernel_rfl) ?_
          refine q_region (by kernel_rfl) ?_
          refine Ops.regs 2 [(2, (Value.int IntKind.u64 0)), (3, (i64 0)), (4, (i64 0)), (5, (Value.int IntKind.u64 ((n + x.toNat % 128 * p7 i : Nat) : Int))), (6, (i64 10)), (7, (i64 0)), (8, (i64 ((i : Nat) : Int))), (9, (Value.int IntKind.u8 ((x.toNat : Nat) : Int))), (10, (Value.slice A bs.length c)), (11, (i64 ((bs.length : Nat) : Int))), (12, (i64 ((i : Nat) : Int))), (13, (Value.bool true)), (30, (Value.bool false)), (40, (Value.bool (decide (((x.toNat : Nat) : Int) < 128))))] (j := 2) (by kernel_rfl) (by kernel_rfl) ?_
          refine Ops.done (by kernel_rfl) ?_
          refine q_cond (o := .tmp 40) (b := (decide (((x.toNat : Nat) : Int) < 128))) (by kernel_rfl) rfl (fun h38 => ?_) (fun h38 => ?_)
          · rw [h38]
            have p39 : ((x.toNat : Nat) : Int) < 128 := of_decide_eq_true h38
            refine q_seq (by kernel_rfl) ?_
            refine q_region (by kernel_rfl) ?_
            refine Ops.regs 2 [(2, (Value.int IntKind.u64 0)), (3, (i64 0)), (4, (i64 0)), (5, (Value.int IntKind.u64 ((n + x.toNat % 128 * p7 i : Nat) : Int))), (6, (i64 10)), (7, (i64 0)), (8, (i64 ((i : Nat) : Int))), (9, (Value.int IntKind.u8 ((x.toNat : Nat) : Int))), (10, (Value.slice A bs.length c)), (11, (i64 ((bs.length : Nat) : Int))), (12, (i64 ((i : Nat) : Int))), (13, (Value.bool true)), (30, (Value.bool false)), (40, (Value.bool true)), (42, (i64 (IntKind.i64.wrap (((i : Nat) : Int) + 1))))] (j := 2) (by kernel_rfl) (by kernel_rfl) ?_
            have e40 : IntKind.i64.wrap (((i : Nat) : Int) + 1) = ((i + 1 : Nat) : Int) := by rw [wrap_i64 (by omega) (by omega)]; omega
            rw [e40]
            clear e40
            refine Ops.regs 2 [(2, (Value.int IntKind.u64 0)), (3, (i64 0)), (4, (i64 0)), (5, (Value.int IntKind.u64 ((n + x.toNat % 128 * p7 i : Nat) : Int))), (6, (i64 0)), (7, (i64 ((i + 1 : Nat) : Int))), (8, (i64 ((i : Nat) : Int))), (9, (Value.int IntKind.u8 ((x.toNat : Nat) : Int))), (10, (Value.slice A bs.length c)), (11, (i64 ((bs.length : Nat) : Int))), (12, (i64 ((i : Nat) : Int))), (13, (Value.bool true)), (30, (Value.bool false)), (40, (Value.bool true))] (j := 4) (by kernel_rfl) (by kernel_rfl) ?_
            refine Ops.done (by kernel_rfl) ?_
            refine q_exit (id := 0) (by kernel_rfl) ?_
            refine q_seq (by kernel_rfl) ?_
            refine q_region (by kernel_rfl) ?_
            refine Ops.regs 6 [(2, (Value.int IntKind.u64 ((n + x.toNat % 128 * p7 i : Nat) : Int))), (3, (i64 ((i + 1 : Nat) : Int))), (4, (i64 0))] (j := 6) (by kernel_rfl) (by kernel_rfl) ?_
            refine Ops.done (by kernel_rfl) ?_
            refine q_ret (by kernel_rfl) ?_
            refine ⟨(Value.tuple #[(Value.int IntKind.u64 ((n + x.toNat % 128 * p7 i : Nat) : Int)), (i64 ((i + 1 : Nat) : Int)), (i64 0)]), retv_tmp3 rfl rfl rfl rfl, ?_⟩
            have e : scanB bs = (n + x.toNat % 128 * p7 i, i + 1, 0) := by rw [← hE]; first | (exfalso; omega) | (rw [hx, scanA_bad (by omega)]; done) | (rw [hx, scanA_end (by omega) (by omega)]; done) | (rw [show i = bs.length from by omega, List.drop_length]; rfl)
            exact ⟨by first | (rw [e]; done) | (rw [e]; rfl), K2⟩
          · rw [h38]
            have p41 : ¬ (((x.toNat : Nat) : Int) < 128) := of_decide_eq_false h38
            refine q_skip (by kernel_rfl) ?_
            refine q_region (by kernel_rfl) ?_
            refine Ops.regs 1 [(2, (Value.int IntKind.u64 0)), (3, (i64 0)), (4, (i64 0)), (5, (Value.int IntKind.u64 ((n + x.toNat % 128 * p7 i : Nat) : Int))), (6, (i64 10)), (7, (i64 0)), (8, (i64 ((i : Nat) : Int))), (9, (Value.int IntKind.u8 ((x.toNat : Nat) : Int))), (10, (Value.slice A bs.length c)), (11, (i64 ((bs.length : Nat) : Int))), (12, (i64 ((i : Nat) : Int))), (13, (Value.bool true)), (30, (Value.bool false)), (40, (Value.bool false)), (43, (i64 (IntKind.i64.wrap (((i : Nat) : Int) + 1))))] (j := 1) (by kernel_rfl) (by kernel_rfl) ?_
            have e42 : IntKind.i64.wrap (((i : Nat) : Int) + 1) = ((i + 1 : Nat) : Int) := by rw [wrap_i64 (by omega) (by omega)]; omega
            rw [e42]
            clear e42
            refine Ops.regs 1 [(2, (Value.int IntKind.u64 0)), (3, (i64 0)), (4, (i64 0)), (5, (Value.int IntKind.u64 ((n + x.toNat % 128 * p7 i : Nat) : Int))), (6, (i64 10)), (7, (i64 0)), (8, (i64 ((i : Nat) : Int))), (9, (Value.int IntKind.u8 ((x.toNat : Nat) : Int))), (10, (Value.slice A bs.length c)), (11, (i64 ((bs.length : Nat) : Int))), (12, (i64 ((i + 1 : Nat) : Int))), (13, (Value.bool true)), (30, (Value.bool false)), (40, (Value.bool false))] (j := 2) (by kernel_rfl) (by kernel_rfl) ?_
            refine Ops.keep (R := [(2, (Value.int IntKind.u64 0)), (3, (i64 0)), (4, (i64 0)), (5, (Value.int IntKind.u64 ((n + x.toNat % 128 * p7 i : Nat) : Int))), (6, (i64 10)), (7, (i64 0)), (10, (Value.slice A bs.length c)), (11, (i64 ((bs.length : Nat) : Int))), (12, (i64 ((i + 1 : Nat) : Int)))]) (by kernel_rfl) ?_
            refine Ops.done (by kernel_rfl) ?_
            exact ⟨(i + 1, n + x.toNat % 128 * p7 i), ⟨rfl, (by rw [← hE, hx, scanA_more (by omega) (by omega)]), (by omega), (by omega), (hr.2.2 (by omega)), K2⟩, (show bs.length - (i + 1) < bs.length - i from by omega)⟩
      · rw [h31]
        have p43 : ¬ (((i : Nat) : Int) > 0) := of_decide_eq_false h31
        refine Ops.regs 4 [(2, (Value.int IntKind.u64 0)), (3, (i64 0)), (4, (i64 0)), (5, (Value.int IntKind.u64 ((n : Nat) : Int))), (6, (i64 10)), (7, (i64 0)), (8, (i64 ((i : Nat) : Int))), (9, (Value.int IntKind.u8 ((x.toNat : Nat) : Int))), (10, (Value.slice A bs.length c)), (11, (i64 ((bs.length : Nat) : Int))), (12, (i64 ((i : Nat) : Int))), (13, (Value.bool true)), (30, (Value.bool false))] (j := 14) (by kernel_rfl) (by kernel_rfl) ?_
        refine Ops.done (by kernel_rfl) ?_
        refine q_else (o := .tmp 30) (by kernel_rfl) rfl ?_
        refine q_skip (by kernel_rfl) ?_
        refine q_seq (by kernel_rfl) ?_
        refine q_region (by kernel_rfl) ?_
        refine Ops.regs 2 [(2, (Value.int IntKind.u64 0)), (3, (i64 0)), (4, (i64 0)), (5, (Value.int IntKind.u64 ((n : Nat) : Int))), (6, (i64 10)), (7, (i64 0)), (8, (i64 ((i : Nat) : Int))), (9, (Value.int IntKind.u8 ((x.toNat : Nat) : Int))), (10, (Value.slice A bs.length c)), (11, (i64 ((bs.length : Nat) : Int))), (12, (i64 ((i : Nat) : Int))), (13, (Value.bool true)), (30, (Value.bool false)), (31, (Value.int IntKind.u64 ((n : Nat) : Int))), (32, (Value.int IntKind.u8 ((x.toNat : Nat) : Int)))] (j := 2) (by kernel_rfl) (by kernel_rfl) ?_
        refine Ops.go (v := (Value.int IntKind.u8 ((x.toNat % 128 : Nat) : Int))) (by kernel_rfl) (Runs.int (op := .and) (t := 5) (by kernel_rfl) (run_and127 (by omega))) (d := (some 33)) (by kernel_rfl) rfl ?_
        refine Ops.regs 1 [(2, (Value.int IntKind.u64 0)), (3, (i64 0)), (4, (i64 0)), (5, (Value.int IntKind.u64 ((n : Nat) : Int))), (6, (i64 10)), (7, (i64 0)), (8, (i64 ((i : Nat) : Int))), (9, (Value.int IntKind.u8 ((x.toNat : Nat) : Int))), (10, (Value.slice A bs.length c)), (11, (i64 ((bs.length : Nat) : Int))), (12, (i64 ((i : Nat) : Int))), (13, (Value.bool true)), (30, (Value.bool false)), (31, (Value.int IntKind.u64 ((n : Nat) : Int))), (34, (Value.int IntKind.u64 (IntKind.u64.wrap (((x.toNat % 128 : Nat) : Int)))))] (j := 4) (by kernel_rfl) (by kernel_rfl) ?_
        have e44 : IntKind.u64.wrap (((x.toNat % 128 : Nat) : Int)) = ((x.toNat % 128 : Nat) : Int) := wrap_u64 (by omega) (by omega)
        rw [e44]
        refine Ops.regs 2 [(2, (Value.int IntKind.u64 0)), (3, (i64 0)), (4, (i64 0)), (5, (Value.int IntKind.u64 ((n : Nat) : Int))), (6, (i64 10)), (7, (i64 0)), (8, (i64 ((i : Nat) : Int))), (9, (Value.int IntKind.u8 ((x.toNat : Nat) : Int))), (10, (Value.slice A bs.length c)), (11, (i64 ((bs.length : Nat) : Int))), (12, (i64 ((i : Nat) : Int))), (13, (Value.bool true)), (30, (Value.bool false)), (31, (Value.int IntKind.u64 ((n : Nat) : Int))), (34, (Value.int IntKind.u64 ((x.toNat % 128 : Nat) : Int))), (36, (i64 (IntKind.i64.wrap (7 * ((i : Nat) : Int)))))] (j := 6) (by kernel_rfl) (by kernel_rfl) ?_
        have e45 : IntKind.i64.wrap (7 * ((i : Nat) : Int)) = ((7 * i : Nat) : Int) := by rw [wrap_i64 (by omega) (by omega)]; omega
        rw [e45]
        clear e45
        have hr := scan_round (c := x) hi hn (by omega)
        refine Ops.go (v := (Value.int IntKind.u64 ((x.toNat % 128 * p7 i : Nat) : Int))) (by kernel_rfl) (Runs.int (op := .shl) (t := 22) (by kernel_rfl) (run_shl7 (k := IntKind.i64) (i := i) (s := ((7 * i : Nat) : Int)) (by omega) (by omega) hr.1)) (d := (some 37)) (by kernel_rfl) rfl ?_
        refine Ops.go (v := (Value.int IntKind.u64 ((n + x.toNat % 128 * p7 i : Nat) : Int))) (by kernel_rfl) (Runs.int (op := .or) (t := 22) (by kernel_rfl) (run_or7 hn hr.2.1)) (d := (some 38)) (by kernel_rfl) rfl ?_
        refine Ops.regs 1 [(2, (Value.int IntKind.u64 0)), (3, (i64 0)), (4, (i64 0)), (5, (Value.int IntKind.u64 ((n + x.toNat % 128 * p7 i : Nat) : Int))), (6, (i64 10)), (7, (i64 0)), (8, (i64 ((i : Nat) : Int))), (9, (Value.int IntKind.u8 ((x.toNat : Nat) : Int))), (10, (Value.slice A bs.length c)), (11, (i64 ((bs.length : Nat) : Int))), (12, (i64 ((i : Nat) : Int))), (13, (Value.bool true)), (30, (Value.bool false))] (j := 9) (by kernel_rfl) (by kernel_rfl) ?_
        refine Ops.done (by kernel_rfl) ?_
        refine q_seq (by kernel_rfl) ?_
        refine q_region (by kernel_rfl) ?_
        refine Ops.regs 2 [(2, (Value.int IntKind.u64 0)), (3, (i64 0)), (4, (i64 0)), (5, (Value.int IntKind.u64 ((n + x.toNat % 128 * p7 i : Nat) : Int))), (6, (i64 10)), (7, (i64 0)), (8, (i64 ((i : Nat) : Int))), (9, (Value.int IntKind.u8 ((x.toNat : Nat) : Int))), (10, (Value.slice A bs.length c)), (11, (i64 ((bs.length : Nat) : Int))), (12, (i64 ((i : Nat) : Int))), (13, (Value.bool true)), (30, (Value.bool false)), (40, (Value.bool (decide (((x.toNat : Nat) : Int) < 128))))] (j := 2) (by kernel_rfl) (by kernel_rfl) ?_
        refine Ops.done (by kernel_rfl) ?_
        refine q_cond (o := .tmp 40) (b := (decide (((x.toNat : Nat) : Int) < 128))) (by kernel_rfl) rfl (fun h46 => ?_) (fun h46 => ?_)
        · rw [h46]
          have p47 : ((x.toNat : Nat) : Int) < 128 := of_decide_eq_true h46
          refine q_seq (by kernel_rfl) ?_
          refine q_region (by kernel_rfl) ?_
          refine Ops.regs 2 [(2, (Value.int IntKind.u64 0)), (3, (i64 0)), (4, (i64 0)), (5, (Value.int IntKind.u64 ((n + x.toNat % 128 * p7 i : Nat) : Int))), (6, (i64 10)), (7, (i64 0)), (8, (i64 ((i : Nat) : Int))), (9, (Value.int IntKind.u8 ((x.toNat : Nat) : Int))), (10, (Value.slice A bs.length c)), (11, (i64 ((bs.length : Nat) : Int))), (12, (i64 ((i : Nat) : Int))), (13, (Value.bool true)), (30, (Value.bool false)), (40, (Value.bool true)), (42, (i64 (IntKind.i64.wrap (((i : Nat) : Int) + 1))))] (j := 2) (by kernel_rfl) (by kernel_rfl) ?_
          have e48 : IntKind.i64.wrap (((i : Nat) : Int) + 1) = ((i + 1 : Nat) : Int) := by rw [wrap_i64 (by omega) (by omega)]; omega
          rw [e48]
          clear e48
          refine Ops.regs 2 [(2, (Value.int IntKind.u64 0)), (3, (i64 0)), (4, (i64 0)), (5, (Value.int IntKind.u64 ((n + x.toNat % 128 * p7 i : Nat) : Int))), (6, (i64 0)), (7, (i64 ((i + 1 : Nat) : Int))), (8, (i64 ((i : Nat) : Int))), (9, (Value.int IntKind.u8 ((x.toNat : Nat) : Int))), (10, (Value.slice A bs.length c)), (11, (i64 ((bs.length : Nat) : Int))), (12, (i64 ((i : Nat) : Int))), (13, (Value.bool true)), (30, (Value.bool false)), (40, (Value.bool true))] (j := 4) (by kernel_rfl) (by kernel_rfl) ?_
          refine Ops.done (by kernel_rfl) ?_
          refine q_exit (id := 0) (by kernel_rfl) ?_
          refine q_seq (by kernel_rfl) ?_
          refine q_region (by kernel_rfl) ?_
          refine Ops.regs 6 [(2, (Value.int IntKind.u64 ((n + x.toNat % 128 * p7 i : Nat) : Int))), (3, (i64 ((i + 1 : Nat) : Int))), (4, (i64 0))] (j := 6) (by kernel_rfl) (by kernel_rfl) ?_
          refine Ops.done (by kernel_rfl) ?_
          refine q_ret (by kernel_rfl) ?_
          refine ⟨(Value.tuple #[(Value.int IntKind.u64 ((n + x.toNat % 128 * p7 i : Nat) : Int)), (i64 ((i + 1 : Nat) : Int)), (i64 0)]), retv_tmp3 rfl rfl rfl rfl, ?_⟩
          have e : scanB bs = (n + x.toNat % 128 * p7 i, i + 1, 0) := by rw [← hE]; first | (exfalso; omega) | (rw [hx, scanA_bad (by omega)]; done) | (rw [hx, scanA_end (by omega) (by omega)]; done) | (rw [show i = bs.length from by omega, List.drop_length]; rfl)
          exact ⟨by first | (rw [e]; done) | (rw [e]; rfl), K2⟩
        · rw [h46]
          have p49 : ¬ (((x.toNat : Nat) : Int) < 128) := of_decide_eq_false h46
          refine q_skip (by kernel_rfl) ?_
          refine q_region (by kernel_rfl) ?_
          refine Ops.regs 1 [(2, (Value.int IntKind.u64 0)), (3, (i64 0)), (4, (i64 0)), (5, (Value.int IntKind.u64 ((n + x.toNat % 128 * p7 i : Nat) : Int))), (6, (i64 10)), (7, (i64 0)), (8, (i64 ((i : Nat) : Int))), (9, (Value.int IntKind.u8 ((x.toNat : Nat) : Int))), (10, (Value.slice A bs.length c)), (11, (i64 ((bs.length : Nat) : Int))), (12, (i64 ((i : Nat) : Int))), (13, (Value.bool true)), (30, (Value.bool false)), (40, (Value.bool false)), (43, (i64 (IntKind.i64.wrap (((i : Nat) : Int) + 1))))] (j := 1) (by kernel_rfl) (by kernel_rfl) ?_
          have e50 : IntKind.i64.wrap (((i : Nat) : Int) + 1) = ((i + 1 : Nat) : Int) := by rw [wrap_i64 (by omega) (by omega)]; omega
          rw [e50]
          clear e50
          refine Ops.regs 1 [(2, (Value.int IntKind.u64 0)), (3, (i64 0)), (4, (i64 0)), (5, (Value.int IntKind.u64 ((n + x.toNat % 128 * p7 i : Nat) : Int))), (6, (i64 10)), (7, (i64 0)), (8, (i64 ((i : Nat) : Int))), (9, (Value.int IntKind.u8 ((x.toNat : Nat) : Int))), (10, (Value.slice A bs.length c)), (11, (i64 ((bs.length : Nat) : Int))), (12, (i64 ((i + 1 : Nat) : Int))), (13, (Value.bool true)), (30, (Value.bool false)), (40, (Value.bool false))] (j := 2) (by kernel_rfl) (by kernel_rfl) ?_
          refine Ops.keep (R := [(2, (Value.int IntKind.u64 0)), (3, (i64 0)), (4, (i64 0)), (5, (Value.int IntKind.u64 ((n + x.toNat % 128 * p7 i : Nat) : Int))), (6, (i64 10)), (7, (i64 0)), (10, (Value.slice A bs.length c)), (11, (i64 ((bs.length : Nat) : Int))), (12, (i64 ((i + 1 : Nat) : Int)))]) (by kernel_rfl) ?_
          refine Ops.done (by kernel_rfl) ?_
          exact ⟨(i + 1, n + x.toNat % 128 * p7 i), ⟨rfl, (by rw [← hE, hx, scanA_more (by omega) (by omega)]), (by omega), (by omega), (hr.2.2 (by omega)), K2⟩, (show bs.length - (i + 1) < bs.length - i from by omega)⟩
  · rw [h3]
    have p51 : ¬ (((i : Nat) : Int) < ((bs.length : Nat) : Int)) := of_decide_eq_false h3
    refine q_exit (id := 0) (by kernel_rfl) ?_
    refine q_seq (by kernel_rfl) ?_
    refine q_region (by kernel_rfl) ?_
    refine Ops.regs 6 [(2, (Value.int IntKind.u64 ((n : Nat) : Int))), (3, (i64 0)), (4, (i64 10))] (j := 6) (by kernel_rfl) (by kernel_rfl) ?_
    refine Ops.done (by kernel_rfl) ?_
    refine q_ret (by kernel_rfl) ?_
    refine ⟨(Value.tuple #[(Value.int IntKind.u64 ((n : Nat) : Int)), (i64 0), (i64 10)]), retv_tmp3 rfl rfl rfl rfl, ?_⟩
    have e : scanB bs = (n, 0, 10) := by rw [← hE]; first | (exfalso; omega) | (rw [hx, scanA_bad (by omega)]; done) | (rw [hx, scanA_end (by omega) (by omega)]; done) | (rw [show i = bs.length from by omega, List.drop_length]; rfl)
    exact ⟨by first | (rw [e]; done) | (rw [e]; rfl), K2⟩
end Go.Proofs.Ytnepjfnkaigakaa
