/- crc: sums -/
import Derived.Test.YtnepjfnkaigakaaProg
import Derived.Test.YtnepjfnkaigakaaLibCrc
import Derived.Test.YtnepjfnkaigakaaK1
set_option linter.unusedVariables false
namespace Go.Proofs.Ytnepjfnkaigakaa
open Go.Q Go.RowKit

theorem shifted_calls (w : World) (r : Nat) (hr : r < 4294967296) : Calls Try.prog 82 ⟨[(Value.int IntKind.u32 ((r : Nat) : Int))]⟩ w (fun e w' => e = .returned (.int .u32 ((shiftB r : Nat) : Int)) ∧ w = w') := by
  refine q_calls Try.func82 (by kernel_rfl) (by kernel_rfl) ?_
  refine q_seq (by kernel_rfl) ?_
  refine q_region (by kernel_rfl) ?_
  refine Ops.regs 1 [(0, (Value.int IntKind.u32 ((r : Nat) : Int))), (2, (Value.int IntKind.u32 0))] (j := 1) (by kernel_rfl) (by kernel_rfl) ?_
  refine Ops.done (by kernel_rfl) ?_
  refine q_seq (by kernel_rfl) ?_
  refine q_region (by kernel_rfl) ?_
  refine Ops.regs 2 [(0, (Value.int IntKind.u32 ((r : Nat) : Int))), (2, (Value.int IntKind.u32 0)), (4, (Value.int IntKind.u32 ((((r : Nat) : Int)).fdiv 2)))] (j := 2) (by kernel_rfl) (by kernel_rfl) ?_
  have e1 : (((r : Nat) : Int)).fdiv 2 = ((r / 2 : Nat) : Int) := fdiv_nat r 2
  rw [e1]
  clear e1
  refine Ops.regs 1 [(2, (Value.int IntKind.u32 0)), (4, (Value.int IntKind.u32 ((r / 2 : Nat) : Int))), (5, (Value.int IntKind.u32 ((r : Nat) : Int)))] (j := 3) (by kernel_rfl) (by kernel_rfl) ?_
  have hb2 : r &&& 1 < 4294967296 := and32_lt (by omega)
  refine Ops.go (v := (Value.int IntKind.u32 ((r &&& 1 : Nat) : Int))) (by kernel_rfl) (Runs.int (op := .and) (t := 91) (by kernel_rfl) (run_and32 (a := r) (b := 1) (by omega) (by omega))) (d := (some 6)) (by kernel_rfl) rfl ?_
  have hb3 := neg32_lt (r &&& 1)
  refine Ops.go (v := (Value.int IntKind.u32 ((neg32 (r &&& 1) : Nat) : Int))) (by kernel_rfl) (Runs.un (op := .neg) (by kernel_rfl) (run_neg32 (a := (r &&& 1)) (by omega))) (d := (some 7)) (by kernel_rfl) rfl ?_
  have hb4 : 2197175160 &&& (neg32 (r &&& 1)) < 4294967296 := and32_lt (by omega)
  refine Ops.go (v := (Value.int IntKind.u32 ((2197175160 &&& (neg32 (r &&& 1)) : Nat) : Int))) (by kernel_rfl) (Runs.int (op := .and) (t := 91) (by kernel_rfl) (run_and32 (a := 2197175160) (b := (neg32 (r &&& 1))) (by omega) (by omega))) (d := (some 8)) (by kernel_rfl) rfl ?_
  have hb5 : (r / 2) ^^^ (2197175160 &&& (neg32 (r &&& 1))) < 4294967296 := xor32_lt (by omega) (by omega)
  refine Ops.go (v := (Value.int IntKind.u32 (((r / 2) ^^^ (2197175160 &&& (neg32 (r &&& 1))) : Nat) : Int))) (by kernel_rfl) (Runs.int (op := .xor) (t := 91) (by kernel_rfl) (run_xor32 (a := (r / 2)) (b := (2197175160 &&& (neg32 (r &&& 1)))) (by omega) (by omega))) (d := (some 9)) (by kernel_rfl) rfl ?_
  refine Ops.regs 1 [(2, (Value.int IntKind.u32 (((r / 2) ^^^ (2197175160 &&& (neg32 (r &&& 1))) : Nat) : Int)))] (j := 8) (by kernel_rfl) (by kernel_rfl) ?_
  refine Ops.done (by kernel_rfl) ?_
  refine q_ret (by kernel_rfl) ?_
  refine ⟨(Value.int IntKind.u32 (((r / 2) ^^^ (2197175160 &&& (neg32 (r &&& 1))) : Nat) : Int)), retv_tmp rfl rfl, ?_⟩
  exact ⟨rfl, rfl⟩

theorem More_calls (w : World) (A : Option Addr) (c s : Nat) (bs : List UInt8) (hs : s < 4294967296) (hv : RdB w (.slice A bs.length c) bs) (hl : bs.length ≤ 140737488351232) : Calls Try.prog 79 ⟨[(Value.int IntKind.u32 ((s : Nat) : Int)), (Value.slice A bs.length c)]⟩ w (fun e w' => e = .returned (.int .u32 ((crcMore s bs : Nat) : Int)) ∧ Keeps none_ w w') := by
  have K0 : Keeps none_ w w := Keeps.refl w
  refine q_calls Try.func79 (by kernel_rfl) (by kernel_rfl) ?_
  refine q_seq (by kernel_rfl) ?_
  refine q_region (by kernel_rfl) ?_
  refine Ops.regs 1 [(0, (Value.int IntKind.u32 ((s : Nat) : Int))), (1, (Value.slice A bs.length c)), (4, (Value.int IntKind.u32 0))] (j := 1) (by kernel_rfl) (by kernel_rfl) ?_
  refine Ops.done (by kernel_rfl) ?_
  refine q_seq (by kernel_rfl) ?_
  refine q_region (by kernel_rfl) ?_
  refine Ops.regs 1 [(1, (Value.slice A bs.length c)), (4, (Value.int IntKind.u32 0)), (8, (Value.int IntKind.u32 ((s : Nat) : Int)))] (j := 1) (by kernel_rfl) (by kernel_rfl) ?_
  have hb1 : 4294967295 ^^^ s < 4294967296 := xor32_lt (by omega) (by omega)
  refine Ops.go (v := (Value.int IntKind.u32 ((4294967295 ^^^ s : Nat) : Int))) (by kernel_rfl) (Runs.un (op := .xor) (by kernel_rfl) (run_not32 (a := s) (by omega))) (d := (some 9)) (by kernel_rfl) rfl ?_
  refine Ops.regs 1 [(1, (Value.slice A bs.length c)), (4, (Value.int IntKind.u32 0)), (5, (Value.int IntKind.u32 ((4294967295 ^^^ s : Nat) : Int)))] (j := 3) (by kernel_rfl) (by kernel_rfl) ?_
  refine Ops.done (by kernel_rfl) ?_
  refine q_seq (by kernel_rfl) ?_
  refine q_seq (by kernel_rfl) ?_
  refine q_region (by kernel_rfl) ?_
  refine Ops.regs 3 [(4, (Value.int IntKind.u32 0)), (5, (Value.int IntKind.u32 ((4294967295 ^^^ s : Nat) : Int))), (10, (Value.slice A bs.length c)), (11, (i64 ((bs.length : Nat) : Int))), (12, (i64 0))] (j := 3) (by kernel_rfl) (by kernel_rfl) ?_
  refine Ops.done (by kernel_rfl) ?_
  refine q_block (id := 0) (by kernel_rfl) ?_
  refine q_keep (R := [(4, (Value.int IntKind.u32 0)), (5, (Value.int IntKind.u32 ((4294967295 ^^^ s : Nat) : Int))), (10, (Value.slice A bs.length c)), (11, (i64 ((bs.length : Nat) : Int))), (12, (i64 0))]) (by kernel_rfl) ?_
  refine q_loop (fun (gs : Nat × Nat) L (wx : World) => match gs with | (i, r) => L = [(4, (Value.int IntKind.u32 0)), (5, (Value.int IntKind.u32 ((r : Nat) : Int))), (10, (Value.slice A bs.length c)), (11, (i64 ((bs.length : Nat) : Int))), (12, (i64 ((i : Nat) : Int)))] ∧ r = (bs.take i).foldl crcByte (4294967295 ^^^ s) ∧ r < 4294967296 ∧ i ≤ bs.length ∧ Keeps none_ w wx) (fun (gs : Nat × Nat) => match gs with | (i, r) => bs.length - i) (0, 4294967295 ^^^ s) (by kernel_rfl) ⟨rfl, rfl, (xor32_lt (by omega) hs), (by omega), K0⟩ ?_
  clear K0
  rintro ⟨i, r⟩ _ w2 ⟨rfl, hE, hr, hil, K3⟩
  refine q_seq (by kernel_rfl) ?_
  refine q_region (by kernel_rfl) ?_
  refine Ops.regs 1 [(4, (Value.int IntKind.u32 0)), (5, (Value.int IntKind.u32 ((r : Nat) : Int))), (10, (Value.slice A bs.length c)), (11, (i64 ((bs.length : Nat) : Int))), (12, (i64 ((i : Nat) : Int))), (13, (Value.bool (decide (((i : Nat) : Int) < ((bs.length : Nat) : Int)))))] (j := 1) (by kernel_rfl) (by kernel_rfl) ?_
  refine Ops.done (by kernel_rfl) ?_
  refine q_seq (by kernel_rfl) ?_
  refine q_cond (o := .tmp 13) (b := (decide (((i : Nat) : Int) < ((bs.length : Nat) : Int)))) (by kernel_rfl) rfl (fun h4 => ?_) (fun h4 => ?_)
  · rw [h4]
    have p5 : ((i : Nat) : Int) < ((bs.length : Nat) : Int) := of_decide_eq_true h4
    obtain ⟨x, lb, lo, hx, hA, hLd⟩ := RdB.at (P := Try.prog) (t := 5) hv (k := i) (by kernel_rfl) (by omega)
    have hx256 : x.toNat < 256 := x.toNat_lt
    refine q_skip (by kernel_rfl) ?_
    refine q_seq (by kernel_rfl) ?_
    refine q_block (id := 1) (by kernel_rfl) ?_
    refine q_seq (by kernel_rfl) ?_
    refine q_region (by kernel_rfl) ?_
    refine Ops.go (by kernel_rfl) (Runs.ixSliceE (k := IntKind.i64) (t := 23) (len := bs.length) (cap := c) (s := 1) (off' := lo + i) (i := ((i : Nat) : Int)) hA (by kernel_rfl) (by kernel_rfl) (by omega) (by omega) (by omega)) (d := (some 14)) (by kernel_rfl) rfl ?_
    refine Ops.go (v := (Value.int IntKind.u8 ((x.toNat : Nat) : Int))) (by kernel_rfl) (Runs.load (t := 5) (a := ⟨lb, lo + i, none⟩) (by kernel_rfl) (hLd _ _ K3 (fun h => h))) (d := (some 15)) (by kernel_rfl) rfl ?_
    refine Ops.regs 1 [(4, (Value.int IntKind.u32 0)), (5, (Value.int IntKind.u32 ((r : Nat) : Int))), (7, (Value.int IntKind.u8 ((x.toNat : Nat) : Int))), (10, (Value.slice A bs.length c)), (11, (i64 ((bs.length : Nat) : Int))), (12, (i64 ((i : Nat) : Int))), (13, (Value.bool true))] (j := 3) (by kernel_rfl) (by kernel_rfl) ?_
    refine Ops.done (by kernel_rfl) ?_
    refine q_seq (by kernel_rfl) ?_
    refine q_region (by kernel_rfl) ?_
    refine Ops.regs 3 [(4, (Value.int IntKind.u32 0)), (5, (Value.int IntKind.u32 ((r : Nat) : Int))), (7, (Value.int IntKind.u8 ((x.toNat : Nat) : Int))), (10, (Value.slice A bs.length c)), (11, (i64 ((bs.length : Nat) : Int))), (12, (i64 ((i : Nat) : Int))), (13, (Value.bool true)), (16, (Value.int IntKind.u32 ((r : Nat) : Int))), (18, (Value.int IntKind.u32 (IntKind.u32.wrap (((x.toNat : Nat) : Int)))))] (j := 3) (by kernel_rfl) (by kernel_rfl) ?_
    have e6 : IntKind.u32.wrap (((x.toNat : Nat) : Int)) = ((x.toNat : Nat) : Int) := wrap_u32 (by omega) (by omega)
    rw [e6]
    have hb7 : r ^^^ x.toNat < 4294967296 := xor32_lt (by omega) (by omega)
    refine Ops.go (v := (Value.int IntKind.u32 ((r ^^^ x.toNat : Nat) : Int))) (by kernel_rfl) (Runs.int (op := .xor) (t := 91) (by kernel_rfl) (run_xor32 (a := r) (b := x.toNat) (by omega) (by omega))) (d := (some 19)) (by kernel_rfl) rfl ?_
    refine Ops.regs 1 [(4, (Value.int IntKind.u32 0)), (5, (Value.int IntKind.u32 ((r ^^^ x.toNat : Nat) : Int))), (7, (Value.int IntKind.u8 ((x.toNat : Nat) : Int))), (10, (Value.slice A bs.length c)), (11, (i64 ((bs.length : Nat) : Int))), (12, (i64 ((i : Nat) : Int))), (13, (Value.bool true))] (j := 5) (by kernel_rfl) (by kernel_rfl) ?_
    refine Ops.done (by kernel_rfl) ?_
    refine q_seq (by kernel_rfl) ?_
    refine q_region (by kernel_rfl) ?_
    refine Ops.regs 1 [(4, (Value.int IntKind.u32 0)), (5, (Value.int IntKind.u32 ((r ^^^ x.toNat : Nat) : Int))), (7, (Value.int IntKind.u8 ((x.toNat : Nat) : Int))), (10, (Value.slice A bs.length c)), (11, (i64 ((bs.length : Nat) : Int))), (12, (i64 ((i : Nat) : Int))), (13, (Value.bool true)), (20, (i64 0))] (j := 1) (by kernel_rfl) (by kernel_rfl) ?_
    refine Ops.done (by kernel_rfl) ?_
    refine q_block (id := 2) (by kernel_rfl) ?_
    refine q_keep (R := [(4, (Value.int IntKind.u32 0)), (5, (Value.int IntKind.u32 ((r ^^^ x.toNat : Nat) : Int))), (7, (Value.int IntKind.u8 ((x.toNat : Nat) : Int))), (10, (Value.slice A bs.length c)), (11, (i64 ((bs.length : Nat) : Int))), (12, (i64 ((i : Nat) : Int))), (13, (Value.bool true)), (20, (i64 0))]) (by kernel_rfl) ?_
    refine q_loop (fun (gs : Nat × Nat) L (wx : World) => match gs with | (k, q) => L = [(4, (Value.int IntKind.u32 0)), (5, (Value.int IntKind.u32 ((q : Nat) : Int))), (7, (Value.int IntKind.u8 ((x.toNat : Nat) : Int))), (10, (Value.slice A bs.length c)), (11, (i64 ((bs.length : Nat) : Int))), (12, (i64 ((i : Nat) : Int))), (13, (Value.bool true)), (20, (i64 ((k : Nat) : Int)))] ∧ q = shiftN k (r ^^^ x.toNat) ∧ q < 4294967296 ∧ k ≤ 8 ∧ Keeps none_ w wx) (fun (gs : Nat × Nat) => match gs with | (k, q) => 8 - k) (0, r ^^^ x.toNat) (by kernel_rfl) ⟨rfl, rfl, (xor32_lt hr (by omega)), (by omega), K3⟩ ?_
    clear K3
    rintro ⟨k, q⟩ _ w8 ⟨rfl, hq, hq2, hk, K9⟩
    refine q_seq (by kernel_rfl) ?_
    refine q_region (by kernel_rfl) ?_
    refine Ops.regs 1 [(4, (Value.int IntKind.u32 0)), (5, (Value.int IntKind.u32 ((q : Nat) : Int))), (7, (Value.int IntKind.u8 ((x.toNat : Nat) : Int))), (10, (Value.slice A bs.length c)), (11, (i64 ((bs.length : Nat) : Int))), (12, (i64 ((i : Nat) : Int))), (13, (Value.bool true)), (20, (i64 ((k : Nat) : Int))), (21, (Value.bool (decide (((k : Nat) : Int) < 8))))] (j := 1) (by kernel_rfl) (by kernel_rfl) ?_
    refine Ops.done (by kernel_rfl) ?_
    refine q_seq (by kernel_rfl) ?_
    refine q_cond (o := .tmp 21) (b := (decide (((k : Nat) : Int) < 8))) (by kernel_rfl) rfl (fun h10 => ?_) (fun h10 => ?_)
    · rw [h10]
      have p11 : ((k : Nat) : Int) < 8 := of_decide_eq_true h10
      refine q_skip (by kernel_rfl) ?_
      refine q_seq (by kernel_rfl) ?_
      refine q_block (id := 3) (by kernel_rfl) ?_
      refine q_region (by kernel_rfl) ?_
      refine Ops.regs 1 [(4, (Value.int IntKind.u32 0)), (5, (Value.int IntKind.u32 ((q : Nat) : Int))), (7, (Value.int IntKind.u8 ((x.toNat : Nat) : Int))), (10, (Value.slice A bs.length c)), (11, (i64 ((bs.length : Nat) : Int))), (12, (i64 ((i : Nat) : Int))), (13, (Value.bool true)), (20, (i64 ((k : Nat) : Int))), (21, (Value.bool true)), (22, (Value.int IntKind.u32 ((q : Nat) : Int)))] (j := 1) (by kernel_rfl) (by kernel_rfl) ?_
      refine Ops.call (by kernel_rfl) (d := (some 23)) (by kernel_rfl) (shifted_calls _ q (by omega)) ?_
      rintro _ _ ⟨rfl, rfl⟩
      refine ⟨_, _, rfl, rfl, ?_⟩
      refine Ops.regs 1 [(4, (Value.int IntKind.u32 0)), (5, (Value.int IntKind.u32 ((shiftB q : Nat) : Int))), (7, (Value.int IntKind.u8 ((x.toNat : Nat) : Int))), (10, (Value.slice A bs.length c)), (11, (i64 ((bs.length : Nat) : Int))), (12, (i64 ((i : Nat) : Int))), (13, (Value.bool true)), (20, (i64 ((k : Nat) : Int))), (21, (Value.bool true))] (j := 3) (by kernel_rfl) (by kernel_rfl) ?_
      refine Ops.done (by kernel_rfl) ?_
      refine q_region (by kernel_rfl) ?_
      refine Ops.regs 1 [(4, (Value.int IntKind.u32 0)), (5, (Value.int IntKind.u32 ((shiftB q : Nat) : Int))), (7, (Value.int IntKind.u8 ((x.toNat : Nat) : Int))), (10, (Value.slice A bs.length c)), (11, (i64 ((bs.length : Nat) : Int))), (12, (i64 ((i : Nat) : Int))), (13, (Value.bool true)), (20, (i64 ((k : Nat) : Int))), (21, (Value.bool true)), (24, (i64 (IntKind.i64.wrap (((k : Nat) : Int) + 1))))] (j := 1) (by kernel_rfl) (by kernel_rfl) ?_
      have e12 : IntKind.i64.wrap (((k : Nat) : Int) + 1) = ((k + 1 : Nat) : Int) := by rw [wrap_i64 (by omega) (by omega)]; omega
      rw [e12]
      clear e12
      refine Ops.regs 1 [(4, (Value.int IntKind.u32 0)), (5, (Value.int IntKind.u32 ((shiftB q : Nat) : Int))), (7, (Value.int IntKind.u8 ((x.toNat : Nat) : Int))), (10, (Value.slice A bs.length c)), (11, (i64 ((bs.length : Nat) : Int))), (12, (i64 ((i : Nat) : Int))), (13, (Value.bool true)), (20, (i64 ((k + 1 : Nat) : Int))), (21, (Value.bool true))] (j := 2) (by kernel_rfl) (by kernel_rfl) ?_
      refine Ops.keep (R := [(4, (Value.int IntKind.u32 0)), (5, (Value.int IntKind.u32 ((shiftB q : Nat) : Int))), (7, (Value.int IntKind.u8 ((x.toNat : Nat) : Int))), (10, (Value.slice A bs.length c)), (11, (i64 ((bs.length : Nat) : Int))), (12, (i64 ((i : Nat) : Int))), (13, (Value.bool true)), (20, (i64 ((k + 1 : Nat) : Int)))]) (by kernel_rfl) ?_
      refine Ops.done (by kernel_rfl) ?_
      exact ⟨(k + 1, shiftB q), ⟨rfl, (by rw [hq]; rfl), (shiftB_lt hq2), (by omega), K9⟩, (show 8 - (k + 1) < 8 - k from by omega)⟩
    · rw [h10]
      have p13 : ¬ (((k : Nat) : Int) < 8) := of_decide_eq_false h10
      refine q_exit (id := 2) (by kernel_rfl) ?_
      refine q_region (by kernel_rfl) ?_
      refine Ops.regs 1 [(4, (Value.int IntKind.u32 0)), (5, (Value.int IntKind.u32 ((q : Nat) : Int))), (7, (Value.int IntKind.u8 ((x.toNat : Nat) : Int))), (10, (Value.slice A bs.length c)), (11, (i64 ((bs.length : Nat) : Int))), (12, (i64 ((i : Nat) : Int))), (13, (Value.bool true)), (20, (i64 ((k : Nat) : Int))), (21, (Value.bool false)), (25, (i64 (IntKind.i64.wrap (((i : Nat) : Int) + 1))))] (j := 1) (by kernel_rfl) (by kernel_rfl) ?_
      have e14 : IntKind.i64.wrap (((i : Nat) : Int) + 1) = ((i + 1 : Nat) : Int) := by rw [wrap_i64 (by omega) (by omega)]; omega
      rw [e14]
      clear e14
      refine Ops.regs 1 [(4, (Value.int IntKind.u32 0)), (5, (Value.int IntKind.u32 ((q : Nat) : Int))), (7, (Value.int IntKind.u8 ((x.toNat : Nat) : Int))), (10, (Value.slice A bs.length c)), (11, (i64 ((bs.length : Nat) : Int))), (12, (i64 ((i + 1 : Nat) : Int))), (13, (Value.bool true)), (20, (i64 ((k : Nat) : Int))), (21, (Value.bool false))] (j := 2) (by kernel_rfl) (by kernel_rfl) ?_
      refine Ops.keep (R := [(4, (Value.int IntKind.u32 0)), (5, (Value.int IntKind.u32 ((q : Nat) : Int))), (10, (Value.slice A bs.length c)), (11, (i64 ((bs.length : Nat) : Int))), (12, (i64 ((i + 1 : Nat) : Int)))]) (by kernel_rfl) ?_
      refine Ops.done (by kernel_rfl) ?_
      exact ⟨(i + 1, q), ⟨rfl, (by rw [fold_take hx, ← hE, hq, show k = 8 from by omega]; rfl), hq2, (by omega), K9⟩, (show bs.length - (i + 1) < bs.length - i from by omega)⟩
  · rw [h4]
    have p15 : ¬ (((i : Nat) : Int) < ((bs.length : Nat) : Int)) := of_decide_eq_false h4
    refine q_exit (id := 0) (by kernel_rfl) ?_
    refine q_seq (by kernel_rfl) ?_
    refine q_region (by kernel_rfl) ?_
    refine Ops.regs 1 [(4, (Value.int IntKind.u32 0)), (26, (Value.int IntKind.u32 ((r : Nat) : Int)))] (j := 1) (by kernel_rfl) (by kernel_rfl) ?_
    have hb16 : 4294967295 ^^^ r < 4294967296 := xor32_lt (by omega) (by omega)
    refine Ops.go (v := (Value.int IntKind.u32 ((4294967295 ^^^ r : Nat) : Int))) (by kernel_rfl) (Runs.un (op := .xor) (by kernel_rfl) (run_not32 (a := r) (by omega))) (d := (some 27)) (by kernel_rfl) rfl ?_
    refine Ops.regs 1 [(4, (Value.int IntKind.u32 ((4294967295 ^^^ r : Nat) : Int)))] (j := 3) (by kernel_rfl) (by kernel_rfl) ?_
    refine Ops.done (by kernel_rfl) ?_
    refine q_ret (by kernel_rfl) ?_
    refine ⟨(Value.int IntKind.u32 ((4294967295 ^^^ r : Nat) : Int)), retv_tmp rfl rfl, ?_⟩
    have e : 4294967295 ^^^ r = crcMore s bs := by rw [hE, show i = bs.length from by omega, List.take_length]; rfl
    exact ⟨by rw [e], K3⟩

theorem More_any (w : World) (v : Value) (s : Nat) (bs : List UInt8) (hs : s < 4294967296) (hv : RdB w v bs) (hl : bs.length ≤ 140737488351232) : Calls Try.prog 79 ⟨[.int .u32 ((s : Nat) : Int), v]⟩ w (fun e w' => e = .returned (.int .u32 ((crcMore s bs : Nat) : Int)) ∧ Keeps none_ w w') := by
  obtain ⟨A, c, rfl⟩ := hv.form
  exact More_calls w A c s bs hs hv hl

theorem Sum_calls (w : World) (v : Value) (bs : List UInt8) (hv : RdB w v bs) (hl : bs.length ≤ 140737488351232) : Calls Try.prog 61 ⟨[v]⟩ w (fun e w' => e = .returned (.int .u32 ((crcMore 0 bs : Nat) : Int)) ∧ Keeps none_ w w') := by
  have K0 : Keeps none_ w w := Keeps.refl w
  refine q_calls Try.func61 (by kernel_rfl) (by kernel_rfl) ?_
  refine q_seq (by kernel_rfl) ?_
  refine q_region (by kernel_rfl) ?_
  refine Ops.regs 1 [(0, v), (2, (Value.int IntKind.u32 0))] (j := 1) (by kernel_rfl) (by kernel_rfl) ?_
  refine Ops.done (by kernel_rfl) ?_
  refine q_seq (by kernel_rfl) ?_
  refine q_region (by kernel_rfl) ?_
  refine Ops.regs 1 [(2, (Value.int IntKind.u32 0)), (3, v)] (j := 1) (by kernel_rfl) (by kernel_rfl) ?_
  refine Ops.call (by kernel_rfl) (d := (some 4)) (by kernel_rfl) (More_any _ v 0 bs (by omega) (hv.keep0 (by omega) K0) (by omega)) ?_
  rintro _ w1 ⟨rfl, K2⟩
  refine ⟨_, _, rfl, rfl, ?_⟩
  have K3 := K0.trans K2 (U := none_) (fun i h1 h2 => h2) (fun i h1 h2 => by exact h2)
  clear K0
  clear K2
  refine Ops.regs 1 [(2, (Value.int IntKind.u32 ((crcMore 0 bs : Nat) : Int)))] (j := 3) (by kernel_rfl) (by kernel_rfl) ?_
  refine Ops.done (by kernel_rfl) ?_
  refine q_ret (by kernel_rfl) ?_
  refine ⟨(Value.int IntKind.u32 ((crcMore 0 bs : Nat) : Int)), retv_tmp rfl rfl, ?_⟩
  exact ⟨rfl, K3⟩
end Go.Proofs.Ytnepjfnkaigakaa
