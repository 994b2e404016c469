/- codec: sums, texts, frames; the fixed calls -/
import Derived.Test.YtnepjfnkaigakaaProg
import Derived.Test.YtnepjfnkaigakaaKA
set_option linter.unusedVariables false
namespace Go.Proofs.Ytnepjfnkaigakaa
open Go.Q Go.RowKit

theorem shifted_calls (w : World) (r : Nat) (hr : r < 4294967296) : Calls Try.prog 82 ⟨[(Value.int IntKind.u32 ((r : Nat) : Int))]⟩ w (fun e w' => e = .returned (.int .u32 ((shiftB r : Nat) : Int)) ∧ w = w') := by
  refine q_calls Try.func82 (by kernel_rfl) (by kernel_rfl) ?_
  refine q_seq (by kernel_rfl) ?_
  refine q_region (by kernel_rfl) ?_
  refine Ops.regs 1 [(0, (Value.int IntKind.u32 ((r : Nat) : Int))), (2, (Value.int IntKind.u32 0))] (j := 1) (by kernel_rfl) (by kernel_rfl) ?_
  refine Ops.done (by kernel_rfl) ?_
  refine q_seq (by kernel_rfl) ?_
  refine q_region (by kernel_rfl) ?_
  refine Ops.regs 2 [(0, (Value.int IntKind.u32 ((r : Nat) : Int))), (2, (Value.int IntKind.u32 0)), (4, (Value.int IntKind.u32 ((((r : Nat) : Int)).fdiv 2)))] (j := 2) (by kernel_rfl) (by kernel_rfl) ?_
  have e1 : (((r : Nat) : Int)).fdiv 2 = ((r / 2 : Nat) : Int) := fdiv_nat r 2
  rw [e1]
  clear e1
  refine Ops.regs 1 [(2, (Value.int IntKind.u32 0)), (4, (Value.int IntKind.u32 ((r / 2 : Nat) : Int))), (5, (Value.int IntKind.u32 ((r : Nat) : Int)))] (j := 3) (by kernel_rfl) (by kernel_rfl) ?_
  have hb2 : r &&& 1 < 4294967296 := and32_lt (by omega)
  refine Ops.go (v := (Value.int IntKind.u32 ((r &&& 1 : Nat) : Int))) (by kernel_rfl) (Runs.int (op := .and) (t := 91) (by kernel_rfl) (run_and32 (a := r) (b := 1) (by omega) (by omega))) (d := (some 6)) (by kernel_rfl) rfl ?_
  have hb3 := neg32_lt (r &&& 1)
  refine Ops.go (v := (Value.int IntKind.u32 ((neg32 (r &&& 1) : Nat) : Int))) (by kernel_rfl) (Runs.un (op := .neg) (by kernel_rfl) (run_neg32 (a := (r &&& 1)) (by omega))) (d := (some 7)) (by kernel_rfl) rfl ?_
  have hb4 : 2197175160 &&& (neg32 (r &&& 1)) < 4294967296 := and32_lt (by omega)
  refine Ops.go (v := (Value.int IntKind.u32 ((2197175160 &&& (neg32 (r &&& 1)) : Nat) : Int))) (by kernel_rfl) (Runs.int (op := .and) (t := 91) (by kernel_rfl) (run_and32 (a := 2197175160) (b := (neg32 (r &&& 1))) (by omega) (by omega))) (d := (some 8)) (by kernel_rfl) rfl ?_
  have hb5 : (r / 2) ^^^ (2197175160 &&& (neg32 (r &&& 1))) < 4294967296 := xor32_lt (by omega) (by omega)
  refine Ops.go (v := (Value.int IntKind.u32 (((r / 2) ^^^ (2197175160 &&& (neg32 (r &&& 1))) : Nat) : Int))) (by kernel_rfl) (Runs.int (op := .xor) (t := 91) (by kernel_rfl) (run_xor32 (a := (r / 2)) (b := (2197175160 &&& (neg32 (r &&& 1)))) (by omega) (by omega))) (d := (some 9)) (by kernel_rfl) rfl ?_
  refine Ops.regs 1 [(2, (Value.int IntKind.u32 (((r / 2) ^^^ (2197175160 &&& (neg32 (r &&& 1))) : Nat) : Int)))] (j := 8) (by kernel_rfl) (by kernel_rfl) ?_
  refine Ops.done (by kernel_rfl) ?_
  refine q_ret (by kernel_rfl) ?_
  refine ⟨(Value.int IntKind.u32 (((r / 2) ^^^ (2197175160 &&& (neg32 (r &&& 1))) : Nat) : Int)), retv_tmp rfl rfl, ?_⟩
  exact ⟨rfl, rfl⟩

theorem More_calls (w : World) (A : Option Addr) (c s : Nat) (bs : List UInt8) (hs : s < 4294967296) (hv : RdB w (.slice A bs.length c) bs) (hl : bs.length ≤ 140737488351232) : Calls Try.prog 79 ⟨[(Value.int IntKind.u32 ((s : Nat) : Int)), (Value.slice A bs.length c)]⟩ w (fun e w' => e = .returned (.int .u32 ((crcMore s bs : Nat) : Int)) ∧ Keeps none_ w w') := by
  have K0 : Keeps none_ w w := Keeps.refl w
  refine q_calls Try.func79 (by kernel_rfl) (by kernel_rfl) ?_
  refine q_seq (by kernel_rfl) ?_
  refine q_region (by kernel_rfl) ?_
  refine Ops.regs 1 [(0, (Value.int IntKind.u32 ((s : Nat) : Int))), (1, (Value.slice A bs.length c)), (4, (Value.int IntKind.u32 0))] (j := 1) (by kernel_rfl) (by kernel_rfl) ?_
  refine Ops.done (by kernel_rfl) ?_
  refine q_seq (by kernel_rfl) ?_
  refine q_region (by kernel_rfl) ?_
  refine Ops.regs 1 [(1, (Value.slice A bs.length c)), (4, (Value.int IntKind.u32 0)), (8, (Value.int IntKind.u32 ((s : Nat) : Int)))] (j := 1) (by kernel_rfl) (by kernel_rfl) ?_
  have hb1 : 4294967295 ^^^ s < 4294967296 := xor32_lt (by omega) (by omega)
  refine Ops.go (v := (Value.int IntKind.u32 ((4294967295 ^^^ s : Nat) : Int))) (by kernel_rfl) (Runs.un (op := .xor) (by kernel_rfl) (run_not32 (a := s) (by omega))) (d := (some 9)) (by kernel_rfl) rfl ?_
  refine Ops.regs 1 [(1, (Value.slice A bs.length c)), (4, (Value.int IntKind.u32 0)), (5, (Value.int IntKind.u32 ((4294967295 ^^^ s : Nat) : Int)))] (j := 3) (by kernel_rfl) (by kernel_rfl) ?_
  refine Ops.done (by kernel_rfl) ?_
  refine q_seq (by kernel_rfl) ?_
  refine q_seq (by kernel_rfl) ?_
  refine q_region (by kernel_rfl) ?_
  refine Ops.regs 3 [(4, (Value.int IntKind.u32 0)), (5, (Value.int IntKind.u32 ((4294967295 ^^^ s : Nat) : Int))), (10, (Value.slice A bs.length c)), (11, (i64 ((bs.length : Nat) : Int))), (12, (i64 0))] (j := 3) (by kernel_rfl) (by kernel_rfl) ?_
  refine Ops.done (by kernel_rfl) ?_
  refine q_block (id := 0) (by kernel_rfl) ?_
  refine q_keep (R := [(4, (Value.int IntKind.u32 0)), (5, (Value.int IntKind.u32 ((4294967295 ^^^ s : Nat) : Int))), (10, (Value.slice A bs.length c)), (11, (i64 ((bs.length : Nat) : Int))), (12, (i64 0))]) (by kernel_rfl) ?_
  refine q_loop (fun (gs : Nat × Nat) L (wx : World) => match gs with | (i, r) => L = [(4, (Value.int IntKind.u32 0)), (5, (Value.int IntKind.u32 ((r : Nat) : Int))), (10, (Value.slice A bs.length c)), (11, (i64 ((bs.length : Nat) : Int))), (12, (i64 ((i : Nat) : Int)))] ∧ r = (bs.take i).foldl crcByte (4294967295 ^^^ s) ∧ r < 4294967296 ∧ i ≤ bs.length ∧ Keeps none_ w wx) (fun (gs : Nat × Nat) => match gs with | (i, r) => bs.length - i) (0, 4294967295 ^^^ s) (by kernel_rfl) ⟨rfl, rfl, (xor32_lt (by omega) hs), (by omega), K0⟩ ?_
  clear K0
  rintro ⟨i, r⟩ _ w2 ⟨rfl, hE, hr, hil, K3⟩
  refine q_seq (by kernel_rfl) ?_
  refine q_region (by kernel_rfl) ?_
  refine Ops.regs 1 [(4, (Value.int IntKind.u32 0)), (5, (Value.int IntKind.u32 ((r : Nat) : Int))), (10, (Value.slice A bs.length c)), (11, (i64 ((bs.length : Nat) : Int))), (12, (i64 ((i : Nat) : Int))), (13, (Value.bool (decide (((i : Nat) : Int) < ((bs.length : Nat) : Int)))))] (j := 1) (by kernel_rfl) (by kernel_rfl) ?_
  refine Ops.done (by kernel_rfl) ?_
  refine q_seq (by kernel_rfl) ?_
  refine q_cond (o := .tmp 13) (b := (decide (((i : Nat) : Int) < ((bs.length : Nat) : Int)))) (by kernel_rfl) rfl (fun h4 => ?_) (fun h4 => ?_)
  · rw [h4]
    have p5 : ((i : Nat) : Int) < ((bs.length : Nat) : Int) := of_decide_eq_true h4
    obtain ⟨x, lb, lo, hx, hA, hLd⟩ := RdB.at (P := Try.prog) (t := 5) hv (k := i) (by kernel_rfl) (by omega)
    have hx256 : x.toNat < 256 := x.toNat_lt
    refine q_skip (by kernel_rfl) ?_
    refine q_seq (by kernel_rfl) ?_
    refine q_block (id := 1) (by kernel_rfl) ?_
    refine q_seq (by kernel_rfl) ?_
    refine q_region (by kernel_rfl) ?_
    refine Ops.go (by kernel_rfl) (Runs.ixSliceE (k := IntKind.i64) (t := 23) (len := bs.length) (cap := c) (s := 1) (off' := lo + i) (i := ((i : Nat) : Int)) hA (by kernel_rfl) (by kernel_rfl) (by omega) (by omega) (by omega)) (d := (some 14)) (by kernel_rfl) rfl ?_
    refine Ops.go (v := (Value.int IntKind.u8 ((x.toNat : Nat) : Int))) (by kernel_rfl) (Runs.load (t := 5) (a := ⟨lb, lo + i, none⟩) (by kernel_rfl) (hLd _ _ K3 (fun h => h))) (d := (some 15)) (by kernel_rfl) rfl ?_
    refine Ops.regs 1 [(4, (Value.int IntKind.u32 0)), (5, (Value.int IntKind.u32 ((r : Nat) : Int))), (7, (Value.int IntKind.u8 ((x.toNat : Nat) : Int))), (10, (Value.slice A bs.length c)), (11, (i64 ((bs.length : Nat) : Int))), (12, (i64 ((i : Nat) : Int))), (13, (Value.bool true))] (j := 3) (by kernel_rfl) (by kernel_rfl) ?_
    refine Ops.done (by kernel_rfl) ?_
    refine q_seq (by kernel_rfl) ?_
    refine q_region (by kernel_rfl) ?_
    refine Ops.regs 3 [(4, (Value.int IntKind.u32 0)), (5, (Value.int IntKind.u32 ((r : Nat) : Int))), (7, (Value.int IntKind.u8 ((x.toNat : Nat) : Int))), (10, (Value.slice A bs.length c)), (11, (i64 ((bs.length : Nat) : Int))), (12, (i64 ((i : Nat) : Int))), (13, (Value.bool true)), (16, (Value.int IntKind.u32 ((r : Nat) : Int))), (18, (Value.int IntKind.u32 (IntKind.u32.wrap (((x.toNat : Nat) : Int)))))] (j := 3) (by kernel_rfl) (by kernel_rfl) ?_
    have e6 : IntKind.u32.wrap (((x.toNat : Nat) : Int)) = ((x.toNat : Nat) : Int) := wrap_u32 (by omega) (by omega)
    rw [e6]
    have hb7 : r ^^^ x.toNat < 4294967296 := xor32_lt (by omega) (by omega)
    refine Ops.go (v := (Value.int IntKind.u32 ((r ^^^ x.toNat : Nat) : Int))) (by kernel_rfl) (Runs.int (op := .xor) (t := 91) (by kernel_rfl) (run_xor32 (a := r) (b := x.toNat) (by omega) (by omega))) (d := (some 19)) (by kernel_rfl) rfl ?_
    refine Ops.regs 1 [(4, (Value.int IntKind.u32 0)), (5, (Value.int IntKind.u32 ((r ^^^ x.toNat : Nat) : Int))), (7, (Value.int IntKind.u8 ((x.toNat : Nat) : Int))), (10, (Value.slice A bs.length c)), (11, (i64 ((bs.length : Nat) : Int))), (12, (i64 ((i : Nat) : Int))), (13, (Value.bool true))] (j := 5) (by kernel_rfl) (by kernel_rfl) ?_
    refine Ops.done (by kernel_rfl) ?_
    refine q_seq (by kernel_rfl) ?_
    refine q_region (by kernel_rfl) ?_
    refine Ops.regs 1 [(4, (Value.int IntKind.u32 0)), (5, (Value.int IntKind.u32 ((r ^^^ x.toNat : Nat) : Int))), (7, (Value.int IntKind.u8 ((x.toNat : Nat) : Int))), (10, (Value.slice A bs.length c)), (11, (i64 ((bs.length : Nat) : Int))), (12, (i64 ((i : Nat) : Int))), (13, (Value.bool true)), (20, (i64 0))] (j := 1) (by kernel_rfl) (by kernel_rfl) ?_
    refine Ops.done (by kernel_rfl) ?_
    refine q_block (id := 2) (by kernel_rfl) ?_
    refine q_keep (R := [(4, (Value.int IntKind.u32 0)), (5, (Value.int IntKind.u32 ((r ^^^ x.toNat : Nat) : Int))), (7, (Value.int IntKind.u8 ((x.toNat : Nat) : Int))), (10, (Value.slice A bs.length c)), (11, (i64 ((bs.length : Nat) : Int))), (12, (i64 ((i : Nat) : Int))), (13, (Value.bool true)), (20, (i64 0))]) (by kernel_rfl) ?_
    refine q_loop (fun (gs : Nat × Nat) L (wx : World) => match gs with | (k, q) => L = [(4, (Value.int IntKind.u32 0)), (5, (Value.int IntKind.u32 ((q : Nat) : Int))), (7, (Value.int IntKind.u8 ((x.toNat : Nat) : Int))), (10, (Value.slice A bs.length c)), (11, (i64 ((bs.length : Nat) : Int))), (12, (i64 ((i : Nat) : Int))), (13, (Value.bool true)), (20, (i64 ((k : Nat) : Int)))] ∧ q = shiftN k (r ^^^ x.toNat) ∧ q < 4294967296 ∧ k ≤ 8 ∧ Keeps none_ w wx) (fun (gs : Nat × Nat) => match gs with | (k, q) => 8 - k) (0, r ^^^ x.toNat) (by kernel_rfl) ⟨rfl, rfl, (xor32_lt hr (by omega)), (by omega), K3⟩ ?_
    clear K3
    rintro ⟨k, q⟩ _ w8 ⟨rfl, hq, hq2, hk, K9⟩
    refine q_seq (by kernel_rfl) ?_
    refine q_region (by kernel_rfl) ?_
    refine Ops.regs 1 [(4, (Value.int IntKind.u32 0)), (5, (Value.int IntKind.u32 ((q : Nat) : Int))), (7, (Value.int IntKind.u8 ((x.toNat : Nat) : Int))), (10, (Value.slice A bs.length c)), (11, (i64 ((bs.length : Nat) : Int))), (12, (i64 ((i : Nat) : Int))), (13, (Value.bool true)), (20, (i64 ((k : Nat) : Int))), (21, (Value.bool (decide (((k : Nat) : Int) < 8))))] (j := 1) (by kernel_rfl) (by kernel_rfl) ?_
    refine Ops.done (by kernel_rfl) ?_
    refine q_seq (by kernel_rfl) ?_
    refine q_cond (o := .tmp 21) (b := (decide (((k : Nat) : Int) < 8))) (by kernel_rfl) rfl (fun h10 => ?_) (fun h10 => ?_)
    · rw [h10]
      have p11 : ((k : Nat) : Int) < 8 := of_decide_eq_true h10
      refine q_skip (by kernel_rfl) ?_
      refine q_seq (by kernel_rfl) ?_
      refine q_block (id := 3) (by kernel_rfl) ?_
      refine q_region (by kernel_rfl) ?_
      refine Ops.regs 1 [(4, (Value.int IntKind.u32 0)), (5, (Value.int IntKind.u32 ((q : Nat) : Int))), (7, (Value.int IntKind.u8 ((x.toNat : Nat) : Int))), (10, (Value.slice A bs.length c)), (11, (i64 ((bs.length : Nat) : Int))), (12, (i64 ((i : Nat) : Int))), (13, (Value.bool true)), (20, (i64 ((k : Nat) : Int))), (21, (Value.bool true)), (22, (Value.int IntKind.u32 ((q : Nat) : Int)))] (j := 1) (by kernel_rfl) (by kernel_rfl) ?_
      refine Ops.call (by kernel_rfl) (d := (some 23)) (by kernel_rfl) (shifted_calls _ q (by omega)) ?_
      rintro _ _ ⟨rfl, rfl⟩
      refine ⟨_, _, rfl, rfl, ?_⟩
      refine Ops.regs 1 [(4, (Value.int IntKind.u32 0)), (5, (Value.int IntKind.u32 ((shiftB q : Nat) : Int))), (7, (Value.int IntKind.u8 ((x.toNat : Nat) : Int))), (10, (Value.slice A bs.length c)), (11, (i64 ((bs.length : Nat) : Int))), (12, (i64 ((i : Nat) : Int))), (13, (Value.bool true)), (20, (i64 ((k : Nat) : Int))), (21, (Value.bool true))] (j := 3) (by kernel_rfl) (by kernel_rfl) ?_
      refine Ops.done (by kernel_rfl) ?_
      refine q_region (by kernel_rfl) ?_
      refine Ops.regs 1 [(4, (Value.int IntKind.u32 0)), (5, (Value.int IntKind.u32 ((shiftB q : Nat) : Int))), (7, (Value.int IntKind.u8 ((x.toNat : Nat) : Int))), (10, (Value.slice A bs.length c)), (11, (i64 ((bs.length : Nat) : Int))), (12, (i64 ((i : Nat) : Int))), (13, (Value.bool true)), (20, (i64 ((k : Nat) : Int))), (21, (Value.bool true)), (24, (i64 (IntKind.i64.wrap (((k : Nat) : Int) + 1))))] (j := 1) (by kernel_rfl) (by kernel_rfl) ?_
      have e12 : IntKind.i64.wrap (((k : Nat) : Int) + 1) = ((k + 1 : Nat) : Int) := by rw [wrap_i64 (by omega) (by omega)]; omega
      rw [e12]
      clear e12
      refine Ops.regs 1 [(4, (Value.int IntKind.u32 0)), (5, (Value.int IntKind.u32 ((shiftB q : Nat) : Int))), (7, (Value.int IntKind.u8 ((x.toNat : Nat) : Int))), (10, (Value.slice A bs.length c)), (11, (i64 ((bs.length : Nat) : Int))), (12, (i64 ((i : Nat) : Int))), (13, (Value.bool true)), (20, (i64 ((k + 1 : Nat) : Int))), (21, (Value.bool true))] (j := 2) (by kernel_rfl) (by kernel_rfl) ?_
      refine Ops.keep (R := [(4, (Value.int IntKind.u32 0)), (5, (Value.int IntKind.u32 ((shiftB q : Nat) : Int))), (7, (Value.int IntKind.u8 ((x.toNat : Nat) : Int))), (10, (Value.slice A bs.length c)), (11, (i64 ((bs.length : Nat) : Int))), (12, (i64 ((i : Nat) : Int))), (13, (Value.bool true)), (20, (i64 ((k + 1 : Nat) : Int)))]) (by kernel_rfl) ?_
      refine Ops.done (by kernel_rfl) ?_
      exact ⟨(k + 1, shiftB q), ⟨rfl, (by rw [hq]; rfl), (shiftB_lt hq2), (by omega), K9⟩, (show 8 - (k + 1) < 8 - k from by omega)⟩
    · rw [h10]
      have p13 : ¬ (((k : Nat) : Int) < 8) := of_decide_eq_false h10
      refine q_exit (id := 2) (by kernel_rfl) ?_
      refine q_region (by kernel_rfl) ?_
      refine Ops.regs 1 [(4, (Value.int IntKind.u32 0)), (5, (Value.int IntKind.u32 ((q : Nat) : Int))), (7, (Value.int IntKind.u8 ((x.toNat : Nat) : Int))), (10, (Value.slice A bs.length c)), (11, (i64 ((bs.length : Nat) : Int))), (12, (i64 ((i : Nat) : Int))), (13, (Value.bool true)), (20, (i64 ((k : Nat) : Int))), (21, (Value.bool false)), (25, (i64 (IntKind.i64.wrap (((i : Nat) : Int) + 1))))] (j := 1) (by kernel_rfl) (by kernel_rfl) ?_
      have e14 : IntKind.i64.wrap (((i : Nat) : Int) + 1) = ((i + 1 : Nat) : Int) := by rw [wrap_i64 (by omega) (by omega)]; omega
      rw [e14]
      clear e14
      refine Ops.regs 1 [(4, (Value.int IntKind.u32 0)), (5, (Value.int IntKind.u32 ((q : Nat) : Int))), (7, (Value.int IntKind.u8 ((x.toNat : Nat) : Int))), (10, (Value.slice A bs.length c)), (11, (i64 ((bs.length : Nat) : Int))), (12, (i64 ((i + 1 : Nat) : Int))), (13, (Value.bool true)), (20, (i64 ((k : Nat) : Int))), (21, (Value.bool false))] (j := 2) (by kernel_rfl) (by kernel_rfl) ?_
      refine Ops.keep (R := [(4, (Value.int IntKind.u32 0)), (5, (Value.int IntKind.u32 ((q : Nat) : Int))), (10, (Value.slice A bs.length c)), (11, (i64 ((bs.length : Nat) : Int))), (12, (i64 ((i + 1 : Nat) : Int)))]) (by kernel_rfl) ?_
      refine Ops.done (by kernel_rfl) ?_
      exact ⟨(i + 1, q), ⟨rfl, (by rw [fold_take hx, ← hE, hq, show k = 8 from by omega]; rfl), hq2, (by omega), K9⟩, (show bs.length - (i + 1) < bs.length - i from by omega)⟩
  · rw [h4]
    have p15 : ¬ (((i : Nat) : Int) < ((bs.length : Nat) : Int)) := of_decide_eq_false h4
    refine q_exit (id := 0) (by kernel_rfl) ?_
    refine q_seq (by kernel_rfl) ?_
    refine q_region (by kernel_rfl) ?_
    refine Ops.regs 1 [(4, (Value.int IntKind.u32 0)), (26, (Value.int IntKind.u32 ((r : Nat) : Int)))] (j := 1) (by kernel_rfl) (by kernel_rfl) ?_
    have hb16 : 4294967295 ^^^ r < 4294967296 := xor32_lt (by omega) (by omega)
    refine Ops.go (v := (Value.int IntKind.u32 ((4294967295 ^^^ r : Nat) : Int))) (by kernel_rfl) (Runs.un (op := .xor) (by kernel_rfl) (run_not32 (a := r) (by omega))) (d := (some 27)) (by kernel_rfl) rfl ?_
    refine Ops.regs 1 [(4, (Value.int IntKind.u32 ((4294967295 ^^^ r : Nat) : Int)))] (j := 3) (by kernel_rfl) (by kernel_rfl) ?_
    refine Ops.done (by kernel_rfl) ?_
    refine q_ret (by kernel_rfl) ?_
    refine ⟨(Value.int IntKind.u32 ((4294967295 ^^^ r : Nat) : Int)), retv_tmp rfl rfl, ?_⟩
    have e : 4294967295 ^^^ r = crcMore s bs := by rw [hE, show i = bs.length from by omega, List.take_length]; rfl
    exact ⟨by rw [e], K3⟩

theorem More_any (w : World) (v : Value) (s : Nat) (bs : List UInt8) (hs : s < 4294967296) (hv : RdB w v bs) (hl : bs.length ≤ 140737488351232) : Calls Try.prog 79 ⟨[.int .u32 ((s : Nat) : Int), v]⟩ w (fun e w' => e = .returned (.int .u32 ((crcMore s bs : Nat) : Int)) ∧ Keeps none_ w w') := by
  obtain ⟨A, c, rfl⟩ := hv.form
  exact More_calls w A c s bs hs hv hl

theorem Sum_calls (w : World) (v : Value) (bs : List UInt8) (hv : RdB w v bs) (hl : bs.length ≤ 140737488351232) : Calls Try.prog 61 ⟨[v]⟩ w (fun e w' => e = .returned (.int .u32 ((crcMore 0 bs : Nat) : Int)) ∧ Keeps none_ w w') := by
  have K0 : Keeps none_ w w := Keeps.refl w
  refine q_calls Try.func61 (by kernel_rfl) (by kernel_rfl) ?_
  refine q_seq (by kernel_rfl) ?_
  refine q_region (by kernel_rfl) ?_
  refine Ops.regs 1 [(0, v), (2, (Value.int IntKind.u32 0))] (j := 1) (by kernel_rfl) (by kernel_rfl) ?_
  refine Ops.done (by kernel_rfl) ?_
  refine q_seq (by kernel_rfl) ?_
  refine q_region (by kernel_rfl) ?_
  refine Ops.regs 1 [(2, (Value.int IntKind.u32 0)), (3, v)] (j := 1) (by kernel_rfl) (by kernel_rfl) ?_
  refine Ops.call (by kernel_rfl) (d := (some 4)) (by kernel_rfl) (More_any _ v 0 bs (by omega) (hv.keep0 (by omega) K0) (by omega)) ?_
  rintro _ w1 ⟨rfl, K2⟩
  refine ⟨_, _, rfl, rfl, ?_⟩
  have K3 := K0.trans K2 (U := none_) (fun i h1 h2 => h2) (fun i h1 h2 => by exact h2)
  clear K0
  clear K2
  refine Ops.regs 1 [(2, (Value.int IntKind.u32 ((crcMore 0 bs : Nat) : Int)))] (j := 3) (by kernel_rfl) (by kernel_rfl) ?_
  refine Ops.done (by kernel_rfl) ?_
  refine q_ret (by kernel_rfl) ?_
  refine ⟨(Value.int IntKind.u32 ((crcMore 0 bs : Nat) : Int)), retv_tmp rfl rfl, ?_⟩
  exact ⟨rfl, K3⟩

theorem Text_calls (w : World) (v : Value) (xs : List UInt8) (ss : List UInt8) (hv : RdB w v xs) (hs : ss.length ≤ 70368744173568) (hl : xs.length ≤ 70368744173568) : Calls Try.prog 30 ⟨[v, (Value.string (str ss))]⟩ w (fun e w' => ∃ v', e = .returned v' ∧ Keeps none_ w w' ∧ OwnB w' w.heap.size 5 v' (xs ++ tv ss)) := by
  have K0 : Keeps none_ w w := Keeps.refl w
  refine q_calls Try.func30 (by kernel_rfl) (by kernel_rfl) ?_
  refine q_seq (by kernel_rfl) ?_
  refine q_region (by kernel_rfl) ?_
  refine Ops.regs 1 [(0, v), (1, (Value.string (str ss))), (4, (Value.slice none 0 0))] (j := 1) (by kernel_rfl) (by kernel_rfl) ?_
  refine Ops.done (by kernel_rfl) ?_
  refine q_seq (by kernel_rfl) ?_
  refine q_region (by kernel_rfl) ?_
  refine Ops.regs 4 [(1, (Value.string (str ss))), (4, (Value.slice none 0 0)), (5, v), (8, (Value.int IntKind.u64 (IntKind.u64.wrap (((ss.length : Nat) : Int)))))] (j := 4) (by kernel_rfl) (by kernel_rfl) ?_
  have e1 : IntKind.u64.wrap (((ss.length : Nat) : Int)) = ((ss.length : Nat) : Int) := wrap_u64 (by omega) (by omega)
  rw [e1]
  refine Ops.call (by kernel_rfl) (d := (some 9)) (by kernel_rfl) (Uint_calls _ v xs ss.length (hv.keep0 (by omega) K0) (by omega) (by (try simp only at *); (try simp only [List.length_append] at *); (try simp only [List.length_cons] at *); (try simp only [List.length_nil] at *); omega)) ?_
  rintro _ w4 ⟨v3, rfl, K5, hO6⟩
  have O7 := own_base hO6 K0.size
  clear hO6
  have hL2 := uv_length_10 (n := ss.length) (by omega)
  refine ⟨_, _, rfl, rfl, ?_⟩
  have K8 := K0.trans K5 (U := none_) (fun i h1 h2 => h2) (fun i h1 h2 => by exact h2)
  clear K0
  clear K5
  refine Ops.regs 1 [(4, (Value.slice none 0 0)), (9, v3), (10, (Value.string (str ss)))] (j := 6) (by kernel_rfl) (by kernel_rfl) ?_
  obtain ⟨v9, w10, hr11, hO12, K13⟩ := OwnB.appS (t := 23) (u := 9) (ty := 23) (ys := ss) (by kernel_rfl) O7 (by (try simp only at *); (try simp only [List.length_append] at *); (try simp only [List.length_cons] at *); (try simp only [List.length_nil] at *); omega) K8.size
  refine Ops.go (v := v9) (by kernel_rfl) (Runs.append (ts := #[23, 9]) (ty := 23) (vs := [v3, (Value.string (str ss))]) (by kernel_rfl) hr11) (d := (some 11)) (by kernel_rfl) rfl ?_
  have K14 := Keeps.own2 K8 K13
  clear O7 K8 hr11 K13
  refine Ops.regs 1 [(4, v9)] (j := 8) (by kernel_rfl) (by kernel_rfl) ?_
  refine Ops.done (by kernel_rfl) ?_
  refine q_ret (by kernel_rfl) ?_
  refine ⟨v9, retv_tmp rfl rfl, ?_⟩
  have hfin : xs ++ uv ss.length ++ ss = xs ++ tv ss := by simp [tv]
  rw [hfin] at hO12
  exact ⟨_, rfl, K14, hO12⟩

theorem BytesW_calls (w : World) (v : Value) (xs : List UInt8) (B : Option Addr) (d : Nat) (ss : List UInt8) (hv : RdB w v xs) (hp : RdB w (.slice B ss.length d) ss) (hs : ss.length ≤ 70368744173568) (hl : xs.length ≤ 70368744173568) : Calls Try.prog 28 ⟨[v, (Value.slice B ss.length d)]⟩ w (fun e w' => ∃ v', e = .returned v' ∧ Keeps none_ w w' ∧ OwnB w' w.heap.size 5 v' (xs ++ tv ss)) := by
  have K0 : Keeps none_ w w := Keeps.refl w
  refine q_calls Try.func28 (by kernel_rfl) (by kernel_rfl) ?_
  refine q_seq (by kernel_rfl) ?_
  refine q_region (by kernel_rfl) ?_
  refine Ops.regs 1 [(0, v), (1, (Value.slice B ss.length d)), (4, (Value.slice none 0 0))] (j := 1) (by kernel_rfl) (by kernel_rfl) ?_
  refine Ops.done (by kernel_rfl) ?_
  refine q_seq (by kernel_rfl) ?_
  refine q_region (by kernel_rfl) ?_
  refine Ops.regs 4 [(1, (Value.slice B ss.length d)), (4, (Value.slice none 0 0)), (5, v), (8, (Value.int IntKind.u64 (IntKind.u64.wrap (((ss.length : Nat) : Int)))))] (j := 4) (by kernel_rfl) (by kernel_rfl) ?_
  have e1 : IntKind.u64.wrap (((ss.length : Nat) : Int)) = ((ss.length : Nat) : Int) := wrap_u64 (by omega) (by omega)
  rw [e1]
  refine Ops.call (by kernel_rfl) (d := (some 9)) (by kernel_rfl) (Uint_calls _ v xs ss.length (hv.keep0 (by omega) K0) (by omega) (by (try simp only at *); (try simp only [List.length_append] at *); (try simp only [List.length_cons] at *); (try simp only [List.length_nil] at *); omega)) ?_
  rintro _ w4 ⟨v3, rfl, K5, hO6⟩
  have O7 := own_base hO6 K0.size
  clear hO6
  have hL2 := uv_length_10 (n := ss.length) (by omega)
  refine ⟨_, _, rfl, rfl, ?_⟩
  have K8 := K0.trans K5 (U := none_) (fun i h1 h2 => h2) (fun i h1 h2 => by exact h2)
  clear K0
  clear K5
  refine Ops.regs 1 [(4, (Value.slice none 0 0)), (9, v3), (10, (Value.slice B ss.length d))] (j := 6) (by kernel_rfl) (by kernel_rfl) ?_
  obtain ⟨v9, w10, hr11, hO12, K13⟩ := OwnB.app (ty := 23) tyB O7 (hp.keep0 (by omega) K8) (by (try simp only at *); (try simp only [List.length_append] at *); (try simp only [List.length_cons] at *); (try simp only [List.length_nil] at *); omega) K8.size
  refine Ops.go (v := v9) (by kernel_rfl) (Runs.append (ts := #[23, 23]) (ty := 23) (vs := [v3, (Value.slice B ss.length d)]) (by kernel_rfl) hr11) (d := (some 11)) (by kernel_rfl) rfl ?_
  have K14 := Keeps.own2 K8 K13
  clear O7 K8 hr11 K13
  refine Ops.regs 1 [(4, v9)] (j := 8) (by kernel_rfl) (by kernel_rfl) ?_
  refine Ops.done (by kernel_rfl) ?_
  refine q_ret (by kernel_rfl) ?_
  refine ⟨v9, retv_tmp rfl rfl, ?_⟩
  have hfin : xs ++ uv ss.length ++ ss = xs ++ tv ss := by simp [tv]
  rw [hfin] at hO12
  exact ⟨_, rfl, K14, hO12⟩

theorem RBytesW_calls (w : World) (v : Value) (xs : List UInt8) (B : Option Addr) (d : Nat) (ss : List UInt8) (hv : RdB w v xs) (hp : RdB w (.slice B ss.length d) ss) (hs : ss.length ≤ 70368744173568) (hl : xs.length ≤ 70368744173568) : Calls Try.prog 64 ⟨[v, (Value.slice B ss.length d)]⟩ w (fun e w' => ∃ v', e = .returned v' ∧ Keeps none_ w w' ∧ OwnB w' w.heap.size 5 v' (xs ++ tv ss)) := by
  have K0 : Keeps none_ w w := Keeps.refl w
  refine q_calls Try.func64 (by kernel_rfl) (by kernel_rfl) ?_
  refine q_seq (by kernel_rfl) ?_
  refine q_region (by kernel_rfl) ?_
  refine Ops.regs 1 [(0, v), (1, (Value.slice B ss.length d)), (4, (Value.slice none 0 0))] (j := 1) (by kernel_rfl) (by kernel_rfl) ?_
  refine Ops.done (by kernel_rfl) ?_
  refine q_seq (by kernel_rfl) ?_
  refine q_region (by kernel_rfl) ?_
  refine Ops.regs 4 [(1, (Value.slice B ss.length d)), (4, (Value.slice none 0 0)), (6, v), (9, (Value.int IntKind.u64 (IntKind.u64.wrap (((ss.length : Nat) : Int)))))] (j := 4) (by kernel_rfl) (by kernel_rfl) ?_
  have e1 : IntKind.u64.wrap (((ss.length : Nat) : Int)) = ((ss.length : Nat) : Int) := wrap_u64 (by omega) (by omega)
  rw [e1]
  refine Ops.call (by kernel_rfl) (d := (some 10)) (by kernel_rfl) (RUint_calls _ v xs ss.length (hv.keep0 (by omega) K0) (by omega) (by (try simp only at *); (try simp only [List.length_append] at *); (try simp only [List.length_cons] at *); (try simp only [List.length_nil] at *); omega)) ?_
  rintro _ w4 ⟨v3, rfl, K5, hO6⟩
  have O7 := own_base hO6 K0.size
  clear hO6
  have hL2 := uv_length_10 (n := ss.length) (by omega)
  refine ⟨_, _, rfl, rfl, ?_⟩
  have K8 := K0.trans K5 (U := none_) (fun i h1 h2 => h2) (fun i h1 h2 => by exact h2)
  clear K0
  clear K5
  refine Ops.regs 1 [(1, (Value.slice B ss.length d)), (4, (Value.slice none 0 0)), (5, v3)] (j := 6) (by kernel_rfl) (by kernel_rfl) ?_
  refine Ops.done (by kernel_rfl) ?_
  refine q_seq (by kernel_rfl) ?_
  refine q_region (by kernel_rfl) ?_
  refine Ops.regs 2 [(4, (Value.slice none 0 0)), (5, v3), (11, v3), (12, (Value.slice B ss.length d))] (j := 2) (by kernel_rfl) (by kernel_rfl) ?_
  obtain ⟨v9, w10, hr11, hO12, K13⟩ := OwnB.app (ty := 23) tyB O7 (hp.keep0 (by omega) K8) (by (try simp only at *); (try simp only [List.length_append] at *); (try simp only [List.length_cons] at *); (try simp only [List.length_nil] at *); omega) K8.size
  refine Ops.go (v := v9) (by kernel_rfl) (Runs.append (ts := #[23, 23]) (ty := 23) (vs := [v3, (Value.slice B ss.length d)]) (by kernel_rfl) hr11) (d := (some 13)) (by kernel_rfl) rfl ?_
  have K14 := Keeps.own2 K8 K13
  clear O7 K8 hr11 K13
  refine Ops.regs 1 [(4, (Value.slice none 0 0)), (5, v9)] (j := 4) (by kernel_rfl) (by kernel_rfl) ?_
  refine Ops.done (by kernel_rfl) ?_
  refine q_seq (by kernel_rfl) ?_
  refine q_region (by kernel_rfl) ?_
  refine Ops.regs 2 [(4, v9)] (j := 2) (by kernel_rfl) (by kernel_rfl) ?_
  refine Ops.done (by kernel_rfl) ?_
  refine q_ret (by kernel_rfl) ?_
  refine ⟨v9, retv_tmp rfl rfl, ?_⟩
  have hfin : xs ++ uv ss.length ++ ss = xs ++ tv ss := by simp [tv]
  rw [hfin] at hO12
  exact ⟨_, rfl, K14, hO12⟩

theorem BoolW_calls (w : World) (v : Value) (xs : List UInt8) (t : Bool) (hv : RdB w v xs) (hl : xs.length ≤ 70368744173568) : Calls Try.prog 31 ⟨[v, (Value.bool t)]⟩ w (fun e w' => ∃ v', e = .returned v' ∧ Keeps none_ w w' ∧ OwnB w' w.heap.size 5 v' (xs ++ uv t.toNat)) := by
  have K0 : Keeps none_ w w := Keeps.refl w
  refine q_calls Try.func31 (by kernel_rfl) (by kernel_rfl) ?_
  refine q_seq (by kernel_rfl) ?_
  refine q_region (by kernel_rfl) ?_
  refine Ops.regs 1 [(0, v), (1, (Value.bool t)), (4, (Value.slice none 0 0))] (j := 1) (by kernel_rfl) (by kernel_rfl) ?_
  refine Ops.done (by kernel_rfl) ?_
  refine q_seq (by kernel_rfl) ?_
  refine q_seq (by kernel_rfl) ?_
  refine q_region (by kernel_rfl) ?_
  refine Ops.regs 1 [(0, v), (4, (Value.slice none 0 0)), (5, (Value.bool t))] (j := 1) (by kernel_rfl) (by kernel_rfl) ?_
  refine Ops.done (by kernel_rfl) ?_
  refine q_cond (o := .tmp 5) (b := t) (by kernel_rfl) rfl (fun h1 => ?_) (fun h1 => ?_)
  · rw [h1]
    have p2 : t = true := h1
    refine q_seq (by kernel_rfl) ?_
    refine q_region (by kernel_rfl) ?_
    refine Ops.regs 1 [(0, v), (4, (Value.slice none 0 0)), (6, v)] (j := 1) (by kernel_rfl) (by kernel_rfl) ?_
    refine Ops.call (by kernel_rfl) (d := (some 7)) (by kernel_rfl) (Uint_calls _ v xs 1 (hv.keep0 (by omega) K0) (by omega) (by (try simp only at *); (try simp only [List.length_append] at *); (try simp only [List.length_cons] at *); (try simp only [List.length_nil] at *); omega)) ?_
    rintro _ w5 ⟨v4, rfl, K6, hO7⟩
    have O8 := own_base hO7 K0.size
    clear hO7
    have hL3 := uv_length_10 (n := 1) (by omega)
    refine ⟨_, _, rfl, rfl, ?_⟩
    have K9 := K0.trans K6 (U := none_) (fun i h1 h2 => h2) (fun i h1 h2 => by exact h2)
    clear K0
    clear K6
    refine Ops.regs 1 [(0, v), (4, v4)] (j := 3) (by kernel_rfl) (by kernel_rfl) ?_
    refine Ops.done (by kernel_rfl) ?_
    refine q_ret (by kernel_rfl) ?_
    refine ⟨v4, retv_tmp rfl rfl, ?_⟩
    exact ⟨_, rfl, K9, O8⟩
  · rw [h1]
    have p10 : t = false := h1
    refine q_skip (by kernel_rfl) ?_
    refine q_seq (by kernel_rfl) ?_
    refine q_region (by kernel_rfl) ?_
    refine Ops.regs 1 [(4, (Value.slice none 0 0)), (8, v)] (j := 1) (by kernel_rfl) (by kernel_rfl) ?_
    refine Ops.call (by kernel_rfl) (d := (some 9)) (by kernel_rfl) (Uint_calls _ v xs 0 (hv.keep0 (by omega) K0) (by omega) (by (try simp only at *); (try simp only [List.length_append] at *); (try simp only [List.length_cons] at *); (try simp only [List.length_nil] at *); omega)) ?_
    rintro _ w13 ⟨v12, rfl, K14, hO15⟩
    have O16 := own_base hO15 K0.size
    clear hO15
    have hL11 := uv_length_10 (n := 0) (by omega)
    refine ⟨_, _, rfl, rfl, ?_⟩
    have K17 := K0.trans K14 (U := none_) (fun i h1 h2 => h2) (fun i h1 h2 => by exact h2)
    clear K0
    clear K14
    refine Ops.regs 1 [(4, v12)] (j := 3) (by kernel_rfl) (by kernel_rfl) ?_
    refine Ops.done (by kernel_rfl) ?_
    refine q_ret (by kernel_rfl) ?_
    refine ⟨v12, retv_tmp rfl rfl, ?_⟩
    exact ⟨_, rfl, K17, O16⟩

theorem RBoolW_calls (w : World) (v : Value) (xs : List UInt8) (t : Bool) (hv : RdB w v xs) (hl : xs.length ≤ 70368744173568) : Calls Try.prog 32 ⟨[v, (Value.bool t)]⟩ w (fun e w' => ∃ v', e = .returned v' ∧ Keeps none_ w w' ∧ OwnB w' w.heap.size 5 v' (xs ++ uv t.toNat)) := by
  have K0 : Keeps none_ w w := Keeps.refl w
  refine q_calls Try.func32 (by kernel_rfl) (by kernel_rfl) ?_
  refine q_seq (by kernel_rfl) ?_
  refine q_region (by kernel_rfl) ?_
  refine Ops.regs 1 [(0, v), (1, (Value.bool t)), (4, (Value.slice none 0 0))] (j := 1) (by kernel_rfl) (by kernel_rfl) ?_
  refine Ops.done (by kernel_rfl) ?_
  refine q_seq (by kernel_rfl) ?_
  refine q_seq (by kernel_rfl) ?_
  refine q_region (by kernel_rfl) ?_
  refine Ops.regs 1 [(0, v), (4, (Value.slice none 0 0)), (5, (Value.bool t))] (j := 1) (by kernel_rfl) (by kernel_rfl) ?_
  refine Ops.done (by kernel_rfl) ?_
  refine q_cond (o := .tmp 5) (b := t) (by kernel_rfl) rfl (fun h1 => ?_) (fun h1 => ?_)
  · rw [h1]
    have p2 : t = true := h1
    refine q_seq (by kernel_rfl) ?_
    refine q_region (by kernel_rfl) ?_
    refine Ops.regs 1 [(0, v), (4, (Value.slice none 0 0)), (6, v)] (j := 1) (by kernel_rfl) (by kernel_rfl) ?_
    refine Ops.call (by kernel_rfl) (d := (some 7)) (by kernel_rfl) (RUint_calls _ v xs 1 (hv.keep0 (by omega) K0) (by omega) (by (try simp only at *); (try simp only [List.length_append] at *); (try simp only [List.length_cons] at *); (try simp only [List.length_nil] at *); omega)) ?_
    rintro _ w5 ⟨v4, rfl, K6, hO7⟩
    have O8 := own_base hO7 K0.size
    clear hO7
    have hL3 := uv_length_10 (n := 1) (by omega)
    refine ⟨_, _, rfl, rfl, ?_⟩
    have K9 := K0.trans K6 (U := none_) (fun i h1 h2 => h2) (fun i h1 h2 => by exact h2)
    clear K0
    clear K6
    refine Ops.regs 1 [(0, v), (4, v4)] (j := 3) (by kernel_rfl) (by kernel_rfl) ?_
    refine Ops.done (by kernel_rfl) ?_
    refine q_ret (by kernel_rfl) ?_
    refine ⟨v4, retv_tmp rfl rfl, ?_⟩
    exact ⟨_, rfl, K9, O8⟩
  · rw [h1]
    have p10 : t = false := h1
    refine q_skip (by kernel_rfl) ?_
    refine q_seq (by kernel_rfl) ?_
    refine q_region (by kernel_rfl) ?_
    refine Ops.regs 1 [(4, (Value.slice none 0 0)), (8, v)] (j := 1) (by kernel_rfl) (by kernel_rfl) ?_
    refine Ops.call (by kernel_rfl) (d := (some 9)) (by kernel_rfl) (RUint_calls _ v xs 0 (hv.keep0 (by omega) K0) (by omega) (by (try simp only at *); (try simp only [List.length_append] at *); (try simp only [List.length_cons] at *); (try simp only [List.length_nil] at *); omega)) ?_
    rintro _ w13 ⟨v12, rfl, K14, hO15⟩
    have O16 := own_base hO15 K0.size
    clear hO15
    have hL11 := uv_length_10 (n := 0) (by omega)
    refine ⟨_, _, rfl, rfl, ?_⟩
    have K17 := K0.trans K14 (U := none_) (fun i h1 h2 => h2) (fun i h1 h2 => by exact h2)
    clear K0
    clear K14
    refine Ops.regs 1 [(4, v12)] (j := 3) (by kernel_rfl) (by kernel_rfl) ?_
    refine Ops.done (by kernel_rfl) ?_
    refine q_ret (by kernel_rfl) ?_
    refine ⟨v12, retv_tmp rfl rfl, ?_⟩
    exact ⟨_, rfl, K17, O16⟩

theorem At_calls (w : World) (b : Nat) (A : Option Addr) (c : Nat) (r : Rdr) (hok : r.Ok) (H0 : Has w b (rowL (rdrL A c r) 88)) (hR : RdO w A c r.bs) (hne : ∀ g o s, A = some ⟨g, o, s⟩ → g ≠ b) : Calls Try.prog 16 ⟨[(Value.pointer (some ⟨b, 0, none⟩))]⟩ w (fun e w' => e = .returned (i64 ((r.pos : Nat) : Int)) ∧ Keeps none_ w w') := by
  have hpos := hok.pos
  have hlen := hok.len
  have hsc := r.scan_le
  have hdl : (r.bs.drop r.pos).length = r.bs.length - r.pos := List.length_drop
  have hcap := hR.1.slice
  have Hb := H0.lt
  have K0 : Keeps none_ w w := Keeps.refl w
  refine q_calls Try.func16 (by kernel_rfl) (by kernel_rfl) ?_
  refine q_seq (by kernel_rfl) ?_
  refine q_region (by kernel_rfl) ?_
  refine Ops.regs 1 [(0, (Value.pointer (some ⟨b, 0, none⟩))), (2, (i64 0))] (j := 1) (by kernel_rfl) (by kernel_rfl) ?_
  refine Ops.done (by kernel_rfl) ?_
  refine q_seq (by kernel_rfl) ?_
  refine q_seq (by kernel_rfl) ?_
  refine q_region (by kernel_rfl) ?_
  refine Ops.regs 2 [(0, (Value.pointer (some ⟨b, 0, none⟩))), (2, (i64 0)), (4, (Value.bool false))] (j := 2) (by kernel_rfl) (by kernel_rfl) ?_
  refine Ops.done (by kernel_rfl) ?_
  refine q_else (o := .tmp 4) (by kernel_rfl) rfl ?_
  refine q_skip (by kernel_rfl) ?_
  refine q_seq (by kernel_rfl) ?_
  refine q_region (by kernel_rfl) ?_
  refine Ops.regs 3 [(2, (i64 0)), (7, (Value.pointer (some ⟨b, 1, none⟩)))] (j := 3) (by kernel_rfl) (by kernel_rfl) ?_
  refine Ops.go (v := (i64 ((r.pos : Nat) : Int))) (by kernel_rfl) (Runs.load (t := 3) (a := ⟨b, 1, none⟩) (by kernel_rfl) (H0.loads (by kernel_rfl))) (d := (some 8)) (by kernel_rfl) rfl ?_
  refine Ops.regs 1 [(2, (i64 ((r.pos : Nat) : Int)))] (j := 5) (by kernel_rfl) (by kernel_rfl) ?_
  refine Ops.done (by kernel_rfl) ?_
  refine q_ret (by kernel_rfl) ?_
  refine ⟨(i64 ((r.pos : Nat) : Int)), retv_tmp rfl rfl, ?_⟩
  exact ⟨rfl, K0⟩

theorem Frame_long (w : World) (A : Option Addr) (c : Nat) (bs : List UInt8) (hv : RdB w (.slice A bs.length c) bs) (hl : 65536 < bs.length) : Calls Try.prog 18 ⟨[(Value.slice A bs.length c)]⟩ w (fun e w' => e = .returned (.tuple #[.slice none 0 0, i64 3]) ∧ Keeps none_ w w') := by
  have K0 : Keeps none_ w w := Keeps.refl w
  refine q_calls Try.func18 (by kernel_rfl) (by kernel_rfl) ?_
  refine q_seq (by kernel_rfl) ?_
  refine q_region (by kernel_rfl) ?_
  refine Ops.regs 2 [(0, (Value.slice A bs.length c)), (2, (Value.slice none 0 0)), (3, (i64 0))] (j := 2) (by kernel_rfl) (by kernel_rfl) ?_
  refine Ops.done (by kernel_rfl) ?_
  refine q_seq (by kernel_rfl) ?_
  refine q_seq (by kernel_rfl) ?_
  refine q_region (by kernel_rfl) ?_
  refine Ops.regs 3 [(0, (Value.slice A bs.length c)), (2, (Value.slice none 0 0)), (3, (i64 0)), (8, (Value.bool (decide (((bs.length : Nat) : Int) > 65536))))] (j := 3) (by kernel_rfl) (by kernel_rfl) ?_
  refine Ops.done (by kernel_rfl) ?_
  have h1 : (decide (((bs.length : Nat) : Int) > 65536)) = true := decide_eq_true (by omega)
  rw [h1]
  refine q_then (o := .tmp 8) (by kernel_rfl) rfl ?_
  refine q_seq (by kernel_rfl) ?_
  refine q_region (by kernel_rfl) ?_
  refine Ops.regs 2 [(0, (Value.slice A bs.length c)), (2, (Value.slice none 0 0)), (3, (i64 3))] (j := 2) (by kernel_rfl) (by kernel_rfl) ?_
  refine Ops.done (by kernel_rfl) ?_
  refine q_ret (by kernel_rfl) ?_
  refine ⟨(Value.tuple #[(Value.slice none 0 0), (i64 3)]), retv_tmp2 rfl rfl rfl, ?_⟩
  exact ⟨rfl, K0⟩

theorem Frame_calls (w : World) (A : Option Addr) (c : Nat) (bs : List UInt8) (hv : RdB w (.slice A bs.length c) bs) (hl : bs.length ≤ 65536) : Calls Try.prog 18 ⟨[(Value.slice A bs.length c)]⟩ w (fun e w' => ∃ v', e = .returned (.tuple #[v', i64 0]) ∧ Keeps none_ w w' ∧ OwnB w' w.heap.size 5 v' (frameB bs)) := by
  have K0 : Keeps none_ w w := Keeps.refl w
  refine q_calls Try.func18 (by kernel_rfl) (by kernel_rfl) ?_
  refine q_seq (by kernel_rfl) ?_
  refine q_region (by kernel_rfl) ?_
  refine Ops.regs 2 [(0, (Value.slice A bs.length c)), (2, (Value.slice none 0 0)), (3, (i64 0))] (j := 2) (by kernel_rfl) (by kernel_rfl) ?_
  refine Ops.done (by kernel_rfl) ?_
  refine q_seq (by kernel_rfl) ?_
  refine q_seq (by kernel_rfl) ?_
  refine q_region (by kernel_rfl) ?_
  refine Ops.regs 3 [(0, (Value.slice A bs.length c)), (2, (Value.slice none 0 0)), (3, (i64 0)), (8, (Value.bool (decide (((bs.length : Nat) : Int) > 65536))))] (j := 3) (by kernel_rfl) (by kernel_rfl) ?_
  refine Ops.done (by kernel_rfl) ?_
  have h1 : (decide (((bs.length : Nat) : Int) > 65536)) = false := decide_eq_false (by omega)
  rw [h1]
  refine q_else (o := .tmp 8) (by kernel_rfl) rfl ?_
  refine q_skip (by kernel_rfl) ?_
  refine q_seq (by kernel_rfl) ?_
  refine q_region (by kernel_rfl) ?_
  refine Ops.regs 3 [(0, (Value.slice A bs.length c)), (2, (Value.slice none 0 0)), (3, (i64 0)), (11, (Value.int IntKind.u64 (IntKind.u64.wrap (((bs.length : Nat) : Int)))))] (j := 3) (by kernel_rfl) (by kernel_rfl) ?_
  have e2 : IntKind.u64.wrap (((bs.length : Nat) : Int)) = ((bs.length : Nat) : Int) := wrap_u64 (by omega) (by omega)
  rw [e2]
  refine Ops.call (by kernel_rfl) (d := (some 12)) (by kernel_rfl) (Uint_calls _ (Value.slice none 0 0) [] bs.length (Rd.nil _ _) (by omega) (by (try simp only at *); (try simp only [List.length_append] at *); (try simp only [List.length_cons] at *); (try simp only [List.length_nil] at *); omega)) ?_
  rintro _ w5 ⟨v4, rfl, K6, hO7⟩
  have O8 := own_base hO7 K0.size
  clear hO7
  have hL3 := uv_length_10 (n := bs.length) (by omega)
  refine ⟨_, _, rfl, rfl, ?_⟩
  have K9 := K0.trans K6 (U := none_) (fun i h1 h2 => h2) (fun i h1 h2 => by exact h2)
  clear K0
  clear K6
  refine Ops.regs 1 [(0, (Value.slice A bs.length c)), (2, (Value.slice none 0 0)), (3, (i64 0)), (4, v4)] (j := 5) (by kernel_rfl) (by kernel_rfl) ?_
  refine Ops.done (by kernel_rfl) ?_
  refine q_seq (by kernel_rfl) ?_
  refine q_region (by kernel_rfl) ?_
  refine Ops.regs 1 [(0, (Value.slice A bs.length c)), (2, (Value.slice none 0 0)), (3, (i64 0)), (4, v4), (13, (Value.slice A bs.length c))] (j := 1) (by kernel_rfl) (by kernel_rfl) ?_
  refine Ops.call (by kernel_rfl) (d := (some 14)) (by kernel_rfl) (Sum_calls _ (Value.slice A bs.length c) bs (hv.keep0 (by omega) K9) (by omega)) ?_
  rintro _ w10 ⟨rfl, K11⟩
  have hb12 := crcMore_lt bs (s := 0) (by omega)
  refine ⟨_, _, rfl, rfl, ?_⟩
  have K13 := K9.trans K11 (U := none_) (fun i h1 h2 => h2) (fun i h1 h2 => by exact h2)
  clear K9
  have F14 := own_keep0 O8 K11
  clear O8
  clear K11
  refine Ops.regs 1 [(0, (Value.slice A bs.length c)), (2, (Value.slice none 0 0)), (3, (i64 0)), (4, v4), (5, (Value.int IntKind.u32 ((crcMore 0 bs : Nat) : Int)))] (j := 3) (by kernel_rfl) (by kernel_rfl) ?_
  refine Ops.done (by kernel_rfl) ?_
  refine q_seq (by kernel_rfl) ?_
  refine q_seq (by kernel_rfl) ?_
  refine q_region (by kernel_rfl) ?_
  refine Ops.regs 1 [(0, (Value.slice A bs.length c)), (2, (Value.slice none 0 0)), (3, (i64 0)), (4, v4), (5, (Value.int IntKind.u32 ((crcMore 0 bs : Nat) : Int))), (15, (i64 0))] (j := 1) (by kernel_rfl) (by kernel_rfl) ?_
  refine Ops.done (by kernel_rfl) ?_
  refine q_block (id := 0) (by kernel_rfl) ?_
  refine q_roll 5 (by kernel_rfl) ?_
  refine roll_step ?_
  refine q_seq (by kernel_rfl) ?_
  refine q_region (by kernel_rfl) ?_
  refine Ops.regs 1 [(0, (Value.slice A bs.length c)), (2, (Value.slice none 0 0)), (3, (i64 0)), (4, v4), (5, (Value.int IntKind.u32 ((crcMore 0 bs : Nat) : Int))), (15, (i64 0)), (16, (Value.bool true))] (j := 1) (by kernel_rfl) (by kernel_rfl) ?_
  refine Ops.done (by kernel_rfl) ?_
  refine q_seq (by kernel_rfl) ?_
  refine q_then (o := .tmp 16) (by kernel_rfl) rfl ?_
  refine q_skip (by kernel_rfl) ?_
  refine q_seq (by kernel_rfl) ?_
  refine q_block (id := 1) (by kernel_rfl) ?_
  refine q_seq (by kernel_rfl) ?_
  refine q_region (by kernel_rfl) ?_
  refine Ops.regs 3 [(0, (Value.slice A bs.length c)), (2, (Value.slice none 0 0)), (3, (i64 0)), (4, v4), (5, (Value.int IntKind.u32 ((crcMore 0 bs : Nat) : Int))), (15, (i64 0)), (16, (Value.bool true)), (17, v4), (19, (Value.int IntKind.u8 (IntKind.u8.wrap ((crcMore 0 bs : Nat) : Int))))] (j := 3) (by kernel_rfl) (by kernel_rfl) ?_
  have e15 : IntKind.u8.wrap ((crcMore 0 bs : Nat) : Int) = (((crcMore 0 bs) % 256 : Nat) : Int) := u8_wrap (crcMore 0 bs)
  rw [e15]
  clear e15
  refine Ops.new (o := rowL [(Value.int IntKind.u8 (((crcMore 0 bs) % 256 : Nat) : Int))] 5) (V := fun b => (Value.slice (some ⟨b, 0, none⟩) 1 1)) (by kernel_rfl) (d := (some 20)) (by kernel_rfl) (fun b => rfl) (fun b16 w17 hb18 H19 K20 hs21 => ?_)
  have nb16 : w.heap.size ≤ b16 := by have := K13.size; omega
  have ob22 : ∀ i, (v4).ownBlock = some i → i < b16 := fun i hi => by have := (World.ownsRow.lt F14 i hi).2; omega
  have K23 := K13.trans K20 (U := none_) (fun i h1 h2 => h2) (fun i h1 h2 => by exact h2)
  clear K13
  have F24 := own_keep0 F14 K20
  clear F14
  clear K20 hs21
  obtain ⟨v25, w26, hr27, hO28, K29⟩ := OwnB.app (ty := 23) tyB F24 (lit1 (by omega) H19) (by (try simp only at *); (try simp only [List.length_append] at *); (try simp only [List.length_cons] at *); (try simp only [List.length_nil] at *); omega) K23.size
  refine Ops.go (v := v25) (by kernel_rfl) (Runs.append (ts := #[23, 23]) (ty := 23) (vs := [v4, (Value.slice (some ⟨b16, 0, none⟩) 1 1)]) (by kernel_rfl) hr27) (d := (some 21)) (by kernel_rfl) rfl ?_
  have K30 := Keeps.own2 K23 K29
  clear H19 F24 K23 hr27 K29
  refine Ops.regs 1 [(0, (Value.slice A bs.length c)), (2, (Value.slice none 0 0)), (3, (i64 0)), (4, v25), (5, (Value.int IntKind.u32 ((crcMore 0 bs : Nat) : Int))), (15, (i64 0)), (16, (Value.bool true))] (j := 6) (by kernel_rfl) (by kernel_rfl) ?_
  refine Ops.done (by kernel_rfl) ?_
  refine q_region (by kernel_rfl) ?_
  refine Ops.regs 2 [(0, (Value.slice A bs.length c)), (2, (Value.slice none 0 0)), (3, (i64 0)), (4, v25), (5, (Value.int IntKind.u32 ((crcMore 0 bs : Nat) : Int))), (15, (i64 0)), (16, (Value.bool true)), (23, (Value.int IntKind.u32 ((((crcMore 0 bs : Nat) : Int)).fdiv 256)))] (j := 2) (by kernel_rfl) (by kernel_rfl) ?_
  have e31 : (((crcMore 0 bs : Nat) : Int)).fdiv 256 = (((crcMore 0 bs) / 256 : Nat) : Int) := fdiv_nat (crcMore 0 bs) 256
  rw [e31]
  clear e31
  refine Ops.regs 1 [(0, (Value.slice A bs.length c)), (2, (Value.slice none 0 0)), (3, (i64 0)), (4, v25), (5, (Value.int IntKind.u32 (((crcMore 0 bs) / 256 : Nat) : Int))), (15, (i64 0)), (16, (Value.bool true))] (j := 3) (by kernel_rfl) (by kernel_rfl) ?_
  refine Ops.done (by kernel_rfl) ?_
  refine q_region (by kernel_rfl) ?_
  refine Ops.regs 2 [(0, (Value.slice A bs.length c)), (2, (Value.slice none 0 0)), (3, (i64 0)), (4, v25), (5, (Value.int IntKind.u32 (((crcMore 0 bs) / 256 : Nat) : Int))), (15, (i64 1)), (16, (Value.bool true))] (j := 2) (by kernel_rfl) (by kernel_rfl) ?_
  refine Ops.done (by kernel_rfl) ?_
  refine roll_step ?_
  refine q_seq (by kernel_rfl) ?_
  refine q_region (by kernel_rfl) ?_
  refine Ops.regs 1 [(0, (Value.slice A bs.length c)), (2, (Value.slice none 0 0)), (3, (i64 0)), (4, v25), (5, (Value.int IntKind.u32 (((crcMore 0 bs) / 256 : Nat) : Int))), (15, (i64 1)), (16, (Value.bool true))] (j := 1) (by kernel_rfl) (by kernel_rfl) ?_
  refine Ops.done (by kernel_rfl) ?_
  refine q_seq (by kernel_rfl) ?_
  refine q_then (o := .tmp 16) (by kernel_rfl) rfl ?_
  refine q_skip (by kernel_rfl) ?_
  refine q_seq (by kernel_rfl) ?_
  refine q_block (id := 1) (by kernel_rfl) ?_
  refine q_seq (by kernel_rfl) ?_
  refine q_region (by kernel_rfl) ?_
  refine Ops.regs 3 [(0, (Value.slice A bs.length c)), (2, (Value.slice none 0 0)), (3, (i64 0)), (4, v25), (5, (Value.int IntKind.u32 (((crcMore 0 bs) / 256 : Nat) : Int))), (15, (i64 1)), (16, (Value.bool true)), (17, v25), (19, (Value.int IntKind.u8 (IntKind.u8.wrap (((crcMore 0 bs) / 256 : Nat) : Int))))] (j := 3) (by kernel_rfl) (by kernel_rfl) ?_
  have e32 : IntKind.u8.wrap (((crcMore 0 bs) / 256 : Nat) : Int) = ((((crcMore 0 bs) / 256) % 256 : Nat) : Int) := u8_wrap ((crcMore 0 bs) / 256)
  rw [e32]
  clear e32
  refine Ops.new (o := rowL [(Value.int IntKind.u8 ((((crcMore 0 bs) / 256) % 256 : Nat) : Int))] 5) (V := fun b => (Value.slice (some ⟨b, 0, none⟩) 1 1)) (by kernel_rfl) (d := (some 20)) (by kernel_rfl) (fun b => rfl) (fun b33 w34 hb35 H36 K37 hs38 => ?_)
  have nb33 : w.heap.size ≤ b33 := by have := K30.size; omega
  have ob39 : ∀ i, (v25).ownBlock = some i → i < b33 := fun i hi => by have := (World.ownsRow.lt hO28 i hi).2; omega
  have K40 := K30.trans K37 (U := none_) (fun i h1 h2 => h2) (fun i h1 h2 => by exact h2)
  clear K30
  have F41 := own_keep0 hO28 K37
  clear hO28
  clear K37 hs38
  obtain ⟨v42, w43, hr44, hO45, K46⟩ := OwnB.app (ty := 23) tyB F41 (lit1 (by omega) H36) (by (try simp only at *); (try simp only [List.length_append] at *); (try simp only [List.length_cons] at *); (try simp only [List.length_nil] at *); omega) K40.size
  refine Ops.go (v := v42) (by kernel_rfl) (Runs.append (ts := #[23, 23]) (ty := 23) (vs := [v25, (Value.slice (some ⟨b33, 0, none⟩) 1 1)]) (by kernel_rfl) hr44) (d := (some 21)) (by kernel_rfl) rfl ?_
  have K47 := Keeps.own2 K40 K46
  clear H36 F41 K40 hr44 K46
  refine Ops.regs 1 [(0, (Value.slice A bs.length c)), (2, (Value.slice none 0 0)), (3, (i64 0)), (4, v42), (5, (Value.int IntKind.u32 (((crcMore 0 bs) / 256 : Nat) : Int))), (15, (i64 1)), (16, (Value.bool true))] (j := 6) (by kernel_rfl) (by kernel_rfl) ?_
  refine Ops.done (by kernel_rfl) ?_
  refine q_region (by kernel_rfl) ?_
  refine Ops.regs 2 [(0, (Value.slice A bs.length c)), (2, (Value.slice none 0 0)), (3, (i64 0)), (4, v42), (5, (Value.int IntKind.u32 (((crcMore 0 bs) / 256 : Nat) : Int))), (15, (i64 1)), (16, (Value.bool true)), (23, (Value.int IntKind.u32 (((((crcMore 0 bs) / 256 : Nat) : Int)).fdiv 256)))] (j := 2) (by kernel_rfl) (by kernel_rfl) ?_
  have e48 : ((((crcMore 0 bs) / 256 : Nat) : Int)).fdiv 256 = ((((crcMore 0 bs) / 256) / 256 : Nat) : Int) := fdiv_nat ((crcMore 0 bs) / 256) 256
  rw [e48]
  clear e48
  refine Ops.regs 1 [(0, (Value.slice A bs.length c)), (2, (Value.slice none 0 0)), (3, (i64 0)), (4, v42), (5, (Value.int IntKind.u32 ((((crcMore 0 bs) / 256) / 256 : Nat) : Int))), (15, (i64 1)), (16, (Value.bool true))] (j := 3) (by kernel_rfl) (by kernel_rfl) ?_
  refine Ops.done (by kernel_rfl) ?_
  refine q_region (by kernel_rfl) ?_
  refine Ops.regs 2 [(0, (Value.slice A bs.length c)), (2, (Value.slice none 0 0)), (3, (i64 0)), (4, v42), (5, (Value.int IntKind.u32 ((((crcMore 0 bs) / 256) / 256 : Nat) : Int))), (15, (i64 2)), (16, (Value.bool true))] (j := 2) (by kernel_rfl) (by kernel_rfl) ?_
  refine Ops.done (by kernel_rfl) ?_
  refine roll_step ?_
  refine q_seq (by kernel_rfl) ?_
  refine q_region (by kernel_rfl) ?_
  refine Ops.regs 1 [(0, (Value.slice A bs.length c)), (2, (Value.slice none 0 0)), (3, (i64 0)), (4, v42), (5, (Value.int IntKind.u32 ((((crcMore 0 bs) / 256) / 256 : Nat) : Int))), (15, (i64 2)), (16, (Value.bool true))] (j := 1) (by kernel_rfl) (by kernel_rfl) ?_
  refine Ops.done (by kernel_rfl) ?_
  refine q_seq (by kernel_rfl) ?_
  refine q_then (o := .tmp 16) (by kernel_rfl) rfl ?_
  refine q_skip (by kernel_rfl) ?_
  refine q_seq (by kernel_rfl) ?_
  refine q_block (id := 1) (by kernel_rfl) ?_
  refine q_seq (by kernel_rfl) ?_
  refine q_region (by kernel_rfl) ?_
  refine Ops.regs 3 [(0, (Value.slice A bs.length c)), (2, (Value.slice none 0 0)), (3, (i64 0)), (4, v42), (5, (Value.int IntKind.u32 ((((crcMore 0 bs) / 256) / 256 : Nat) : Int))), (15, (i64 2)), (16, (Value.bool true)), (17, v42), (19, (Value.int IntKind.u8 (IntKind.u8.wrap ((((crcMore 0 bs) / 256) / 256 : Nat) : Int))))] (j := 3) (by kernel_rfl) (by kernel_rfl) ?_
  have e49 : IntKind.u8.wrap ((((crcMore 0 bs) / 256) / 256 : Nat) : Int) = (((((crcMore 0 bs) / 256) / 256) % 256 : Nat) : Int) := u8_wrap (((crcMore 0 bs) / 256) / 256)
  rw [e49]
  clear e49
  refine Ops.new (o := rowL [(Value.int IntKind.u8 (((((crcMore 0 bs) / 256) / 256) % 256 : Nat) : Int))] 5) (V := fun b => (Value.slice (some ⟨b, 0, none⟩) 1 1)) (by kernel_rfl) (d := (some 20)) (by kernel_rfl) (fun b => rfl) (fun b50 w51 hb52 H53 K54 hs55 => ?_)
  have nb50 : w.heap.size ≤ b50 := by have := K47.size; omega
  have ob56 : ∀ i, (v42).ownBlock = some i → i < b50 := fun i hi => by have := (World.ownsRow.lt hO45 i hi).2; omega
  have K57 := K47.trans K54 (U := none_) (fun i h1 h2 => h2) (fun i h1 h2 => by exact h2)
  clear K47
  have F58 := own_keep0 hO45 K54
  clear hO45
  clear K54 hs55
  obtain ⟨v59, w60, hr61, hO62, K63⟩ := OwnB.app (ty := 23) tyB F58 (lit1 (by omega) H53) (by (try simp only at *); (try simp only [List.length_append] at *); (try simp only [List.length_cons] at *); (try simp only [List.length_nil] at *); omega) K57.size
  refine Ops.go (v := v59) (by kernel_rfl) (Runs.append (ts := #[23, 23]) (ty := 23) (vs := [v42, (Value.slice (some ⟨b50, 0, none⟩) 1 1)]) (by kernel_rfl) hr61) (d := (some 21)) (by kernel_rfl) rfl ?_
  have K64 := Keeps.own2 K57 K63
  clear H53 F58 K57 hr61 K63
  refine Ops.regs 1 [(0, (Value.slice A bs.length c)), (2, (Value.slice none 0 0)), (3, (i64 0)), (4, v59), (5, (Value.int IntKind.u32 ((((crcMore 0 bs) / 256) / 256 : Nat) : Int))), (15, (i64 2)), (16, (Value.bool true))] (j := 6) (by kernel_rfl) (by kernel_rfl) ?_
  refine Ops.done (by kernel_rfl) ?_
  refine q_region (by kernel_rfl) ?_
  refine Ops.regs 2 [(0, (Value.slice A bs.length c)), (2, (Value.slice none 0 0)), (3, (i64 0)), (4, v59), (5, (Value.int IntKind.u32 ((((crcMore 0 bs) / 256) / 256 : Nat) : Int))), (15, (i64 2)), (16, (Value.bool true)), (23, (Value.int IntKind.u32 ((((((crcMore 0 bs) / 256) / 256 : Nat) : Int)).fdiv 256)))] (j := 2) (by kernel_rfl) (by kernel_rfl) ?_
  have e65 : (((((crcMore 0 bs) / 256) / 256 : Nat) : Int)).fdiv 256 = (((((crcMore 0 bs) / 256) / 256) / 256 : Nat) : Int) := fdiv_nat (((crcMore 0 bs) / 256) / 256) 256
  rw [e65]
  clear e65
  refine Ops.regs 1 [(0, (Value.slice A bs.length c)), (2, (Value.slice none 0 0)), (3, (i64 0)), (4, v59), (5, (Value.int IntKind.u32 (((((crcMore 0 bs) / 256) / 256) / 256 : Nat) : Int))), (15, (i64 2)), (16, (Value.bool true))] (j := 3) (by kernel_rfl) (by kernel_rfl) ?_
  refine Ops.done (by kernel_rfl) ?_
  refine q_region (by kernel_rfl) ?_
  refine Ops.regs 2 [(0, (Value.slice A bs.length c)), (2, (Value.slice none 0 0)), (3, (i64 0)), (4, v59), (5, (Value.int IntKind.u32 (((((crcMore 0 bs) / 256) / 256) / 256 : Nat) : Int))), (15, (i64 3)), (16, (Value.bool true))] (j := 2) (by kernel_rfl) (by kernel_rfl) ?_
  refine Ops.done (by kernel_rfl) ?_
  refine roll_step ?_
  refine q_seq (by kernel_rfl) ?_
  refine q_region (by kernel_rfl) ?_
  refine Ops.regs 1 [(0, (Value.slice A bs.length c)), (2, (Value.slice none 0 0)), (3, (i64 0)), (4, v59), (5, (Value.int IntKind.u32 (((((crcMore 0 bs) / 256) / 256) / 256 : Nat) : Int))), (15, (i64 3)), (16, (Value.bool true))] (j := 1) (by kernel_rfl) (by kernel_rfl) ?_
  refine Ops.done (by kernel_rfl) ?_
  refine q_seq (by kernel_rfl) ?_
  refine q_then (o := .tmp 16) (by kernel_rfl) rfl ?_
  refine q_skip (by kernel_rfl) ?_
  refine q_seq (by kernel_rfl) ?_
  refine q_block (id := 1) (by kernel_rfl) ?_
  refine q_seq (by kernel_rfl) ?_
  refine q_region (by kernel_rfl) ?_
  refine Ops.regs 3 [(0, (Value.slice A bs.length c)), (2, (Value.slice none 0 0)), (3, (i64 0)), (4, v59), (5, (Value.int IntKind.u32 (((((crcMore 0 bs) / 256) / 256) / 256 : Nat) : Int))), (15, (i64 3)), (16, (Value.bool true)), (17, v59), (19, (Value.int IntKind.u8 (IntKind.u8.wrap (((((crcMore 0 bs) / 256) / 256) / 256 : Nat) : Int))))] (j := 3) (by kernel_rfl) (by kernel_rfl) ?_
  have e66 : IntKind.u8.wrap (((((crcMore 0 bs) / 256) / 256) / 256 : Nat) : Int) = ((((((crcMore 0 bs) / 256) / 256) / 256) % 256 : Nat) : Int) := u8_wrap ((((crcMore 0 bs) / 256) / 256) / 256)
  rw [e66]
  clear e66
  refine Ops.new (o := rowL [(Value.int IntKind.u8 ((((((crcMore 0 bs) / 256) / 256) / 256) % 256 : Nat) : Int))] 5) (V := fun b => (Value.slice (some ⟨b, 0, none⟩) 1 1)) (by kernel_rfl) (d := (some 20)) (by kernel_rfl) (fun b => rfl) (fun b67 w68 hb69 H70 K71 hs72 => ?_)
  have nb67 : w.heap.size ≤ b67 := by have := K64.size; omega
  have ob73 : ∀ i, (v59).ownBlock = some i → i < b67 := fun i hi => by have := (World.ownsRow.lt hO62 i hi).2; omega
  have K74 := K64.trans K71 (U := none_) (fun i h1 h2 => h2) (fun i h1 h2 => by exact h2)
  clear K64
  have F75 := own_keep0 hO62 K71
  clear hO62
  clear K71 hs72
  obtain ⟨v76, w77, hr78, hO79, K80⟩ := OwnB.app (ty := 23) tyB F75 (lit1 (by omega) H70) (by (try simp only at *); (try simp only [List.length_append] at *); (try simp only [List.length_cons] at *); (try simp only [List.length_nil] at *); omega) K74.size
  refine Ops.go (v := v76) (by kernel_rfl) (Runs.append (ts := #[23, 23]) (ty := 23) (vs := [v59, (Value.slice (some ⟨b67, 0, none⟩) 1 1)]) (by kernel_rfl) hr78) (d := (some 21)) (by kernel_rfl) rfl ?_
  have K81 := Keeps.own2 K74 K80
  clear H70 F75 K74 hr78 K80
  refine Ops.regs 1 [(0, (Value.slice A bs.length c)), (2, (Value.slice none 0 0)), (3, (i64 0)), (4, v76), (5, (Value.int IntKind.u32 (((((crcMore 0 bs) / 256) / 256) / 256 : Nat) : Int))), (15, (i64 3)), (16, (Value.bool true))] (j := 6) (by kernel_rfl) (by kernel_rfl) ?_
  refine Ops.done (by kernel_rfl) ?_
  refine q_region (by kernel_rfl) ?_
  refine Ops.regs 2 [(0, (Value.slice A bs.length c)), (2, (Value.slice none 0 0)), (3, (i64 0)), (4, v76), (5, (Value.int IntKind.u32 (((((crcMore 0 bs) / 256) / 256) / 256 : Nat) : Int))), (15, (i64 3)), (16, (Value.bool true)), (23, (Value.int IntKind.u32 (((((((crcMore 0 bs) / 256) / 256) / 256 : Nat) : Int)).fdiv 256)))] (j := 2) (by kernel_rfl) (by kernel_rfl) ?_
  have e82 : ((((((crcMore 0 bs) / 256) / 256) / 256 : Nat) : Int)).fdiv 256 = ((((((crcMore 0 bs) / 256) / 256) / 256) / 256 : Nat) : Int) := fdiv_nat ((((crcMore 0 bs) / 256) / 256) / 256) 256
  rw [e82]
  clear e82
  refine Ops.regs 1 [(0, (Value.slice A bs.length c)), (2, (Value.slice none 0 0)), (3, (i64 0)), (4, v76), (5, (Value.int IntKind.u32 ((((((crcMore 0 bs) / 256) / 256) / 256) / 256 : Nat) : Int))), (15, (i64 3)), (16, (Value.bool true))] (j := 3) (by kernel_rfl) (by kernel_rfl) ?_
  refine Ops.done (by kernel_rfl) ?_
  refine q_region (by kernel_rfl) ?_
  refine Ops.regs 2 [(0, (Value.slice A bs.length c)), (2, (Value.slice none 0 0)), (3, (i64 0)), (4, v76), (5, (Value.int IntKind.u32 ((((((crcMore 0 bs) / 256) / 256) / 256) / 256 : Nat) : Int))), (15, (i64 4)), (16, (Value.bool true))] (j := 2) (by kernel_rfl) (by kernel_rfl) ?_
  refine Ops.done (by kernel_rfl) ?_
  refine roll_step ?_
  refine q_seq (by kernel_rfl) ?_
  refine q_region (by kernel_rfl) ?_
  refine Ops.regs 1 [(0, (Value.slice A bs.length c)), (2, (Value.slice none 0 0)), (3, (i64 0)), (4, v76), (5, (Value.int IntKind.u32 ((((((crcMore 0 bs) / 256) / 256) / 256) / 256 : Nat) : Int))), (15, (i64 4)), (16, (Value.bool false))] (j := 1) (by kernel_rfl) (by kernel_rfl) ?_
  refine Ops.done (by kernel_rfl) ?_
  refine q_seq (by kernel_rfl) ?_
  refine q_else (o := .tmp 16) (by kernel_rfl) rfl ?_
  refine q_exit (id := 0) (by kernel_rfl) ?_
  refine q_seq (by kernel_rfl) ?_
  refine q_region (by kernel_rfl) ?_
  refine Ops.regs 2 [(2, (Value.slice none 0 0)), (3, (i64 0)), (25, v76), (26, (Value.slice A bs.length c))] (j := 2) (by kernel_rfl) (by kernel_rfl) ?_
  obtain ⟨v83, w84, hr85, hO86, K87⟩ := OwnB.app (ty := 23) tyB hO79 (hv.keep0 (by omega) K81) (by (try simp only at *); (try simp only [List.length_append] at *); (try simp only [List.length_cons] at *); (try simp only [List.length_nil] at *); omega) K81.size
  refine Ops.go (v := v83) (by kernel_rfl) (Runs.append (ts := #[23, 23]) (ty := 23) (vs := [v76, (Value.slice A bs.length c)]) (by kernel_rfl) hr85) (d := (some 27)) (by kernel_rfl) rfl ?_
  have K88 := Keeps.own2 K81 K87
  clear hO79 K81 hr85 K87
  refine Ops.regs 2 [(2, v83), (3, (i64 0))] (j := 5) (by kernel_rfl) (by kernel_rfl) ?_
  refine Ops.done (by kernel_rfl) ?_
  refine q_ret (by kernel_rfl) ?_
  refine ⟨(Value.tuple #[v83, (i64 0)]), retv_tmp2 rfl rfl rfl, ?_⟩
  have hfin : [] ++ uv bs.length ++ [byte ((crcMore 0 bs) % 256)] ++ [byte (((crcMore 0 bs) / 256) % 256)] ++ [byte ((((crcMore 0 bs) / 256) / 256) % 256)] ++ [byte (((((crcMore 0 bs) / 256) / 256) / 256) % 256)] ++ bs = frameB bs := by simp [frameB, fourB]
  rw [hfin] at hO86
  exact ⟨_, rfl, K88, hO86⟩

theorem scan0 : scanB [byte 0] = (0, 1, 0) := by kernel_rfl

theorem cut0_calls (w : World) (A : Option Addr) (c : Nat) (hv : RdB w (.slice A 1 c) [byte 0]) : Calls Try.prog 63 ⟨[(Value.slice A 1 c)]⟩ w (fun e w' => e = .returned (.tuple #[.slice none 0 0, i64 0, i64 10]) ∧ Keeps none_ w w') := by
  have K0 : Keeps none_ w w := Keeps.refl w
  refine q_calls Try.func63 (by kernel_rfl) (by kernel_rfl) ?_
  refine q_seq (by kernel_rfl) ?_
  refine q_region (by kernel_rfl) ?_
  refine Ops.regs 3 [(0, (Value.slice A 1 c)), (2, (Value.slice none 0 0)), (3, (i64 0)), (4, (i64 0))] (j := 3) (by kernel_rfl) (by kernel_rfl) ?_
  refine Ops.done (by kernel_rfl) ?_
  refine q_seq (by kernel_rfl) ?_
  refine q_region (by kernel_rfl) ?_
  refine Ops.regs 1 [(0, (Value.slice A 1 c)), (2, (Value.slice none 0 0)), (3, (i64 0)), (4, (i64 0)), (13, (Value.slice A 1 c))] (j := 1) (by kernel_rfl) (by kernel_rfl) ?_
  refine Ops.call (by kernel_rfl) (d := (some 14)) (by kernel_rfl) ((scan0 ▸ scan_calls _ A c [byte 0] (hv.keep0 (by omega) K0) (by decide))) ?_
  rintro _ w1 ⟨rfl, K2⟩
  refine ⟨_, _, rfl, rfl, ?_⟩
  have K3 := K0.trans K2 (U := none_) (fun i h1 h2 => h2) (fun i h1 h2 => by exact h2)
  clear K0
  clear K2
  refine Ops.regs 7 [(0, (Value.slice A 1 c)), (2, (Value.slice none 0 0)), (3, (i64 0)), (4, (i64 0)), (5, (Value.int IntKind.u64 0)), (6, (i64 1)), (7, (i64 0))] (j := 9) (by kernel_rfl) (by kernel_rfl) ?_
  refine Ops.done (by kernel_rfl) ?_
  refine q_seq (by kernel_rfl) ?_
  refine q_block (id := 0) (by kernel_rfl) ?_
  refine q_seq (by kernel_rfl) ?_
  refine q_region (by kernel_rfl) ?_
  refine Ops.regs 3 [(0, (Value.slice A 1 c)), (2, (Value.slice none 0 0)), (3, (i64 0)), (4, (i64 0)), (5, (Value.int IntKind.u64 0)), (6, (i64 1)), (7, (i64 0)), (18, (Value.bool false))] (j := 3) (by kernel_rfl) (by kernel_rfl) ?_
  refine Ops.done (by kernel_rfl) ?_
  refine q_else (o := .tmp 18) (by kernel_rfl) rfl ?_
  refine q_seq (by kernel_rfl) ?_
  refine q_region (by kernel_rfl) ?_
  refine Ops.regs 3 [(0, (Value.slice A 1 c)), (2, (Value.slice none 0 0)), (3, (i64 0)), (4, (i64 0)), (5, (Value.int IntKind.u64 0)), (6, (i64 1)), (22, (Value.bool false))] (j := 3) (by kernel_rfl) (by kernel_rfl) ?_
  refine Ops.done (by kernel_rfl) ?_
  refine q_else (o := .tmp 22) (by kernel_rfl) rfl ?_
  refine q_seq (by kernel_rfl) ?_
  refine q_region (by kernel_rfl) ?_
  refine Ops.regs 9 [(0, (Value.slice A 1 c)), (2, (Value.slice none 0 0)), (3, (i64 0)), (4, (i64 0)), (5, (Value.int IntKind.u64 0)), (6, (i64 1)), (25, (Value.bool true))] (j := 9) (by kernel_rfl) (by kernel_rfl) ?_
  refine Ops.done (by kernel_rfl) ?_
  refine q_then (o := .tmp 25) (by kernel_rfl) rfl ?_
  refine q_seq (by kernel_rfl) ?_
  refine q_region (by kernel_rfl) ?_
  refine Ops.regs 3 [(0, (Value.slice A 1 c)), (2, (Value.slice none 0 0)), (3, (i64 0)), (4, (i64 10)), (5, (Value.int IntKind.u64 0)), (6, (i64 1))] (j := 3) (by kernel_rfl) (by kernel_rfl) ?_
  refine Ops.done (by kernel_rfl) ?_
  refine q_ret (by kernel_rfl) ?_
  refine ⟨(Value.tuple #[(Value.slice none 0 0), (i64 0), (i64 10)]), retv_tmp3 rfl rfl rfl rfl, ?_⟩
  exact ⟨rfl, K3⟩

theorem Unframe0_calls (w : World) (A : Option Addr) (c : Nat) (hv : RdB w (.slice A 1 c) [byte 0]) : Calls Try.prog 49 ⟨[(Value.slice A 1 c)]⟩ w (fun e w' => e = .returned (.tuple #[.slice none 0 0, i64 10]) ∧ Keeps none_ w w') := by
  have K0 : Keeps none_ w w := Keeps.refl w
  refine q_calls Try.func49 (by kernel_rfl) (by kernel_rfl) ?_
  refine q_seq (by kernel_rfl) ?_
  refine q_region (by kernel_rfl) ?_
  refine Ops.regs 2 [(0, (Value.slice A 1 c)), (2, (Value.slice none 0 0)), (3, (i64 0))] (j := 2) (by kernel_rfl) (by kernel_rfl) ?_
  refine Ops.done (by kernel_rfl) ?_
  refine q_seq (by kernel_rfl) ?_
  refine q_region (by kernel_rfl) ?_
  refine Ops.regs 1 [(0, (Value.slice A 1 c)), (2, (Value.slice none 0 0)), (3, (i64 0)), (8, (Value.slice A 1 c))] (j := 1) (by kernel_rfl) (by kernel_rfl) ?_
  refine Ops.call (by kernel_rfl) (d := (some 9)) (by kernel_rfl) (cut0_calls _ A c (hv.keep0 (by omega) K0)) ?_
  rintro _ w1 ⟨rfl, K2⟩
  refine ⟨_, _, rfl, rfl, ?_⟩
  have K3 := K0.trans K2 (U := none_) (fun i h1 h2 => h2) (fun i h1 h2 => by exact h2)
  clear K0
  clear K2
  refine Ops.regs 7 [(0, (Value.slice A 1 c)), (2, (Value.slice none 0 0)), (3, (i64 0)), (4, (Value.slice none 0 0)), (5, (i64 0)), (6, (i64 10))] (j := 9) (by kernel_rfl) (by kernel_rfl) ?_
  refine Ops.done (by kernel_rfl) ?_
  refine q_seq (by kernel_rfl) ?_
  refine q_block (id := 0) (by kernel_rfl) ?_
  refine q_seq (by kernel_rfl) ?_
  refine q_region (by kernel_rfl) ?_
  refine Ops.regs 9 [(2, (Value.slice none 0 0)), (3, (i64 0)), (4, (Value.slice none 0 0)), (6, (i64 10)), (13, (Value.bool false))] (j := 9) (by kernel_rfl) (by kernel_rfl) ?_
  refine Ops.done (by kernel_rfl) ?_
  refine q_else (o := .tmp 13) (by kernel_rfl) rfl ?_
  refine q_seq (by kernel_rfl) ?_
  refine q_region (by kernel_rfl) ?_
  refine Ops.regs 3 [(2, (Value.slice none 0 0)), (3, (i64 0)), (4, (Value.slice none 0 0)), (6, (i64 10)), (22, (Value.bool true))] (j := 3) (by kernel_rfl) (by kernel_rfl) ?_
  refine Ops.done (by kernel_rfl) ?_
  refine q_then (o := .tmp 22) (by kernel_rfl) rfl ?_
  refine q_seq (by kernel_rfl) ?_
  refine q_region (by kernel_rfl) ?_
  refine Ops.regs 3 [(2, (Value.slice none 0 0)), (3, (i64 10)), (4, (Value.slice none 0 0))] (j := 3) (by kernel_rfl) (by kernel_rfl) ?_
  refine Ops.done (by kernel_rfl) ?_
  refine q_ret (by kernel_rfl) ?_
  refine ⟨(Value.tuple #[(Value.slice none 0 0), (i64 10)]), retv_tmp2 rfl rfl rfl, ?_⟩
  exact ⟨rfl, K3⟩

theorem known_calls (w : World)   : Calls Try.prog 17 ⟨[]⟩ w (fun e w' => e = .returned (.bool true) ∧ Keeps none_ w w') := by
  have K0 : Keeps none_ w w := Keeps.refl w
  refine q_calls Try.func17 (by kernel_rfl) (by kernel_rfl) ?_
  refine q_seq (by kernel_rfl) ?_
  refine q_region (by kernel_rfl) ?_
  refine Ops.regs 1 [(0, (Value.bool false))] (j := 1) (by kernel_rfl) (by kernel_rfl) ?_
  refine Ops.done (by kernel_rfl) ?_
  refine q_seq (by kernel_rfl) ?_
  refine q_region (by kernel_rfl) ?_
  refine Ops.new (o := rowL [(Value.int IntKind.u8 128), (Value.int IntKind.u8 0)] 5) (V := fun b => (Value.slice (some ⟨b, 0, none⟩) 2 2)) (by kernel_rfl) (d := (some 6)) (by kernel_rfl) (fun b => rfl) (fun b1 w2 hb3 H4 K5 hs6 => ?_)
  have nb1 : w.heap.size ≤ b1 := by have := K0.size; omega
  have K7 := K0.trans K5 (U := none_) (fun i h1 h2 => h2) (fun i h1 h2 => by exact h2)
  clear K0
  clear K5 hs6
  refine Ops.call (by kernel_rfl) (d := (some 7)) (by kernel_rfl) (NewReader_calls _ (Value.slice (some ⟨b1, 0, none⟩) 2 2) [byte 128, byte 0] (RdB.lit (xs := [byte 128, byte 0]) (show Has _ b1 (rowL (bv [byte 128, byte 0]) 5) from H4) (by first | decide | (simp [maxLen]; done))) (by first | omega | decide)) ?_
  rintro _ w12 ⟨b8, A9, c10, rfl, q11, K13, H14, hr15, hne16, hge17⟩
  have nb8 : w.heap.size ≤ b8 := by have := K7.size; omega
  have lb8b1 : b1 < b8 := by have := H4.lt; omega
  have ob19 : ∀ i o s, A9 = some ⟨i, o, s⟩ → i ≠ b1 := fun i o s hi => by have := hge17 i o s hi; have := H4.lt; omega
  have hok18 : Rdr.Ok (⟨[byte 128, byte 0], 0, 0⟩ : Rdr) := ⟨Nat.zero_le _, by show [byte 128, byte 0].length ≤ _; first | omega | decide⟩
  clear q11 hge17
  refine ⟨_, _, rfl, rfl, ?_⟩
  have K20 := K7.trans K13 (U := none_) (fun i h1 h2 => h2) (fun i h1 h2 => by exact h2)
  clear K7
  have H21 := H4.keep K13 (fun h => h)
  clear H4
  clear K13
  refine Ops.regs 1 [(0, (Value.bool false)), (1, (Value.pointer (some ⟨b8, 0, none⟩)))] (j := 3) (by kernel_rfl) (by kernel_rfl) ?_
  refine Ops.done (by kernel_rfl) ?_
  refine q_seq (by kernel_rfl) ?_
  refine q_region (by kernel_rfl) ?_
  refine Ops.regs 1 [(0, (Value.bool false)), (1, (Value.pointer (some ⟨b8, 0, none⟩))), (8, (Value.pointer (some ⟨b8, 0, none⟩)))] (j := 1) (by kernel_rfl) (by kernel_rfl) ?_
  refine Ops.call (by kernel_rfl) (d := (some 9)) (by kernel_rfl) (RdUint_calls _ b8 A9 c10 (⟨[byte 128, byte 0], 0, 0⟩ : Rdr) hok18 H14 hr15 hne16) ?_
  rintro _ w22 ⟨rfl, K23, H24⟩
  have hok25 := Rdr.Ok.uint hok18
  have hu26 := Rdr.uint_lt (⟨[byte 128, byte 0], 0, 0⟩ : Rdr)
  refine ⟨_, _, rfl, rfl, ?_⟩
  have K27 := K20.trans K23 (U := none_) (fun i h1 h2 => h2) (fun i h1 h2 => by have h2 : i = b8 := h2; exfalso; omega)
  clear K20
  have H28 := H21.keep K23 (by intro h; change b1 = b8 at h; omega)
  clear H21
  have F29 := RdO.keep hr15 K23 (fun i _ _ hi hs => by have hs : i = b8 := hs; have := hne16 i _ _ hi; omega)
  clear hr15
  clear K23
  have F30 : RdO w22 A9 c10 ((⟨[byte 128, byte 0], 0, 0⟩ : Rdr).uint.2).bs := by rw [Rdr.uint_bs]; exact F29
  clear F29
  refine Ops.done (by kernel_rfl) ?_
  refine q_seq (by kernel_rfl) ?_
  refine q_region (by kernel_rfl) ?_
  refine Ops.new (o := rowL [(Value.int IntKind.u8 0)] 5) (V := fun b => (Value.slice (some ⟨b, 0, none⟩) 1 1)) (by kernel_rfl) (d := (some 11)) (by kernel_rfl) (fun b => rfl) (fun b31 w32 hb33 H34 K35 hs36 => ?_)
  have lb31 : b8 < b31 := by have := H24.lt; omega
  have nb31 : w.heap.size ≤ b31 := by have := K27.size; omega
  have ob37 : ∀ i o s, A9 = some ⟨i, o, s⟩ → i ≠ b31 := fun i o s hi => by have := F30.2 i o s hi; omega
  have K38 := K27.trans K35 (U := none_) (fun i h1 h2 => h2) (fun i h1 h2 => by exact h2)
  clear K27
  have H39 := H28.keep K35 (fun h => h)
  clear H28
  have H40 := H24.keep K35 (fun h => h)
  clear H24
  have F41 := RdO.keep0 F30 K35
  clear F30
  clear K35 hs36
  refine Ops.call (by kernel_rfl) (d := (some 12)) (by kernel_rfl) (Unframe0_calls _ (some ⟨b31, 0, none⟩) 1 (RdB.lit (xs := [byte 0]) (show Has _ b31 (rowL (bv [byte 0]) 5) from H34) (by first | decide | (simp [maxLen]; done)))) ?_
  rintro _ w42 ⟨rfl, K43⟩
  refine ⟨_, _, rfl, rfl, ?_⟩
  have K44 := K38.trans K43 (U := none_) (fun i h1 h2 => h2) (fun i h1 h2 => by exact h2)
  clear K38
  have H45 := H39.keep K43 (fun h => h)
  clear H39
  have H46 := H40.keep K43 (fun h => h)
  clear H40
  have H47 := H34.keep K43 (fun h => h)
  clear H34
  have F48 := RdO.keep0 F41 K43
  clear F41
  clear K43
  refine Ops.regs 5 [(0, (Value.bool false)), (1, (Value.pointer (some ⟨b8, 0, none⟩))), (2, (Value.slice none 0 0)), (3, (i64 10))] (j := 7) (by kernel_rfl) (by kernel_rfl) ?_
  refine Ops.done (by kernel_rfl) ?_
  refine q_seq (by kernel_rfl) ?_
  refine q_region (by kernel_rfl) ?_
  refine Ops.new (o := rowL [(Value.int IntKind.u8 97)] 5) (V := fun b => (Value.slice (some ⟨b, 0, none⟩) 1 1)) (by kernel_rfl) (d := (some 16)) (by kernel_rfl) (fun b => rfl) (fun b49 w50 hb51 H52 K53 hs54 => ?_)
  have lb49 : b31 < b49 := by have := H47.lt; omega
  have nb49 : w.heap.size ≤ b49 := by have := K44.size; omega
  have ob55 : ∀ i o s, A9 = some ⟨i, o, s⟩ → i ≠ b49 := fun i o s hi => by have := F48.2 i o s hi; omega
  have K56 := K44.trans K53 (U := none_) (fun i h1 h2 => h2) (fun i h1 h2 => by exact h2)
  clear K44
  have H57 := H45.keep K53 (fun h => h)
  clear H45
  have H58 := H46.keep K53 (fun h => h)
  clear H46
  have H59 := H47.keep K53 (fun h => h)
  clear H47
  have F60 := RdO.keep0 F48 K53
  clear F48
  clear K53 hs54
  obtain ⟨w61, hr62, K63, F64⟩ := run_markB (t := 23) (e := 5) (bs := [byte 97]) (by kernel_rfl) (show Has _ b49 (rowL (bv [byte 97]) 5) from H52) (by decide)
  refine Ops.go (v := (Value.slice (some ⟨b49, 0, none⟩) 1 1)) (by kernel_rfl) (Runs.conv (by kernel_rfl) hr62) (d := (some 17)) (by kernel_rfl) rfl ?_
  clear H52
  have K65 := K56.trans K63 (U := none_) (fun i h1 h2 => h2) (fun i h1 h2 => by have h2 : i = b49 := h2; exfalso; omega)
  clear K56
  have H66 := H57.keep K63 (by intro h; change b1 = b49 at h; omega)
  clear H57
  have H67 := H58.keep K63 (by intro h; change b8 = b49 at h; omega)
  clear H58
  have H68 := H59.keep K63 (by intro h; change b31 = b49 at h; omega)
  clear H59
  have F69 := RdO.keep F60 K63 (fun i _ _ hi hs => by have hs : i = b49 := hs; have := ob55 i _ _ hi; omega)
  clear F60
  clear K63 hr62
  refine Ops.call (by kernel_rfl) (d := (some 18)) (by kernel_rfl) (Frame_calls _ (some ⟨b49, 0, none⟩) 1 [byte 97] F64 (by decide)) ?_
  rintro _ w71 ⟨v70, rfl, K72, hO73⟩
  have O74 := own_base hO73 K65.size
  obtain ⟨A75, c76, hf77⟩ := RdB.form (OwnB.rd O74)
  subst hf77
  clear hO73
  refine ⟨_, _, rfl, rfl, ?_⟩
  have K78 := K65.trans K72 (U := none_) (fun i h1 h2 => h2) (fun i h1 h2 => by exact h2)
  clear K65
  have H79 := H66.keep K72 (fun h => h)
  clear H66
  have H80 := H67.keep K72 (fun h => h)
  clear H67
  have H81 := H68.keep K72 (fun h => h)
  clear H68
  have F82 := RdO.keep0 F69 K72
  clear F69
  have F83 := (Rd.keep0 (by omega) F64 K72)
  clear F64
  clear K72
  refine Ops.regs 5 [(0, (Value.bool false)), (1, (Value.pointer (some ⟨b8, 0, none⟩))), (2, (Value.slice none 0 0)), (3, (i64 10)), (4, (Value.slice A75 ((frameB [byte 97]).length) c76)), (5, (i64 0))] (j := 8) (by kernel_rfl) (by kernel_rfl) ?_
  refine Ops.done (by kernel_rfl) ?_
  refine q_seq (by kernel_rfl) ?_
  refine q_region (by kernel_rfl) ?_
  refine Ops.call (by kernel_rfl) (d := (some 21)) (by kernel_rfl) (Uint_calls _ (Value.slice none 0 0) [] 300 (Rd.nil _ _) (by omega) (by (try simp only at *); (try simp only [List.length_append] at *); (try simp only [List.length_cons] at *); (try simp only [List.length_nil] at *); omega)) ?_
  rintro _ w86 ⟨v85, rfl, K87, hO88⟩
  have O89 := own_base hO88 K78.size
  clear hO88
  have hL84 := uv_length_10 (n := 300) (by omega)
  refine ⟨_, _, rfl, rfl, ?_⟩
  have K90 := K78.trans K87 (U := none_) (fun i h1 h2 => h2) (fun i h1 h2 => by exact h2)
  clear K78
  have H91 := H79.keep K87 (fun h => h)
  clear H79
  have H92 := H80.keep K87 (fun h => h)
  clear H80
  have H93 := H81.keep K87 (fun h => h)
  clear H81
  have F94 := RdO.keep0 F82 K87
  clear F82
  have F95 := (Rd.keep0 (by omega) F83 K87)
  clear F83
  have F96 := own_keep0 O74 K87
  clear O74
  clear K87
  refine Ops.go (v := (Value.string (str ([] ++ uv 300)))) (by kernel_rfl) (Runs.b2s (s := 23) (d := 9) (e := 5) (by kernel_rfl) (by kernel_rfl) (by kernel_rfl) (OwnB.rd O89)) (d := (some 22)) (by kernel_rfl) rfl ?_
  refine Ops.go (v := (Value.bool (([] ++ uv 300) == [172, 2]))) (by kernel_rfl) (Runs.streq (t := 9) (by kernel_rfl)) (d := (some 23)) (by kernel_rfl) rfl ?_
  refine Ops.regs 1 [(0, (Value.bool false)), (1, (Value.pointer (some ⟨b8, 0, none⟩))), (2, (Value.slice none 0 0)), (3, (i64 10)), (4, (Value.slice A75 ((frameB [byte 97]).length) c76)), (5, (i64 0)), (24, (Value.bool (([] ++ uv 300) == [172, 2])))] (j := 4) (by kernel_rfl) (by kernel_rfl) ?_
  have h97 : (([] ++ uv 300) == [172, 2]) = true := by first | kernel_rfl | (simp [uv, tv, iv, zz, byte, frameB, fourB]; done) | decide +kernel
  rw [h97]
  refine Ops.call (by kernel_rfl) (d := (some 25)) (by kernel_rfl) (Int_calls _ (Value.slice none 0 0) [] (-1) (Rd.nil _ _) (by omega) (by (try simp only at *); (try simp only [List.length_append] at *); (try simp only [List.length_cons] at *); (try simp only [List.length_nil] at *); omega)) ?_
  rintro _ w100 ⟨v99, rfl, K101, hO102⟩
  have O103 := own_base hO102 K90.size
  clear hO102
  have hL98 := iv_length_10 (n := (-1)) (by omega)
  refine ⟨_, _, rfl, rfl, ?_⟩
  have K104 := K90.trans K101 (U := none_) (fun i h1 h2 => h2) (fun i h1 h2 => by exact h2)
  clear K90
  have H105 := H91.keep K101 (fun h => h)
  clear H91
  have H106 := H92.keep K101 (fun h => h)
  clear H92
  have H107 := H93.keep K101 (fun h => h)
  clear H93
  have F108 := RdO.keep0 F94 K101
  clear F94
  have F109 := (Rd.keep0 (by omega) F95 K101)
  clear F95
  have F110 := own_keep0 F96 K101
  clear F96
  have F111 := own_keep0 O89 K101
  clear O89
  clear K101
  refine Ops.go (v := (Value.string (str ([] ++ iv (-1))))) (by kernel_rfl) (Runs.b2s (s := 23) (d := 9) (e := 5) (by kernel_rfl) (by kernel_rfl) (by kernel_rfl) (OwnB.rd O103)) (d := (some 26)) (by kernel_rfl) rfl ?_
  refine Ops.go (v := (Value.bool (([] ++ iv (-1)) == [1]))) (by kernel_rfl) (Runs.streq (t := 9) (by kernel_rfl)) (d := (some 27)) (by kernel_rfl) rfl ?_
  refine Ops.regs 2 [(0, (Value.bool false)), (1, (Value.pointer (some ⟨b8, 0, none⟩))), (2, (Value.slice none 0 0)), (3, (i64 10)), (4, (Value.slice A75 ((frameB [byte 97]).length) c76)), (5, (i64 0)), (29, (Value.bool (([] ++ iv (-1)) == [1])))] (j := 9) (by kernel_rfl) (by kernel_rfl) ?_
  have h112 : (([] ++ iv (-1)) == [1]) = true := by first | kernel_rfl | (simp [uv, tv, iv, zz, byte, frameB, fourB]; done) | decide +kernel
  rw [h112]
  refine Ops.call (by kernel_rfl) (d := (some 30)) (by kernel_rfl) (Text_calls _ (Value.slice none 0 0) [] [97, 98] (Rd.nil _ _) (by first | omega | decide) (by (try simp only at *); (try simp only [List.length_append] at *); (try simp only [List.length_cons] at *); (try simp only [List.length_nil] at *); omega)) ?_
  rintro _ w114 ⟨v113, rfl, K115, hO116⟩
  have O117 := own_base hO116 K104.size
  clear hO116
  refine ⟨_, _, rfl, rfl, ?_⟩
  have K118 := K104.trans K115 (U := none_) (fun i h1 h2 => h2) (fun i h1 h2 => by exact h2)
  clear K104
  have H119 := H105.keep K115 (fun h => h)
  clear H105
  have H120 := H106.keep K115 (fun h => h)
  clear H106
  have H121 := H107.keep K115 (fun h => h)
  clear H107
  have F122 := RdO.keep0 F108 K115
  clear F108
  have F123 := (Rd.keep0 (by omega) F109 K115)
  clear F109
  have F124 := own_keep0 F110 K115
  clear F110
  have F125 := own_keep0 F111 K115
  clear F111
  have F126 := own_keep0 O103 K115
  clear O103
  clear K115
  refine Ops.go (v := (Value.string (str ([] ++ tv [97, 98])))) (by kernel_rfl) (Runs.b2s (s := 23) (d := 9) (e := 5) (by kernel_rfl) (by kernel_rfl) (by kernel_rfl) (OwnB.rd O117)) (d := (some 31)) (by kernel_rfl) rfl ?_
  refine Ops.go (v := (Value.bool (([] ++ tv [97, 98]) == [2, 97, 98]))) (by kernel_rfl) (Runs.streq (t := 9) (by kernel_rfl)) (d := (some 32)) (by kernel_rfl) rfl ?_
  refine Ops.regs 2 [(0, (Value.bool false)), (1, (Value.pointer (some ⟨b8, 0, none⟩))), (2, (Value.slice none 0 0)), (3, (i64 10)), (4, (Value.slice A75 ((frameB [byte 97]).length) c76)), (5, (i64 0)), (34, (Value.bool (([] ++ tv [97, 98]) == [2, 97, 98])))] (j := 14) (by kernel_rfl) (by kernel_rfl) ?_
  have h127 : (([] ++ tv [97, 98]) == [2, 97, 98]) = true := by first | kernel_rfl | (simp [uv, tv, iv, zz, byte, frameB, fourB]; done) | decide +kernel
  rw [h127]
  refine Ops.regs 1 [(0, (Value.bool false)), (2, (Value.slice none 0 0)), (3, (i64 10)), (4, (Value.slice A75 ((frameB [byte 97]).length) c76)), (5, (i64 0)), (34, (Value.bool true)), (35, (Value.pointer (some ⟨b8, 0, none⟩)))] (j := 15) (by kernel_rfl) (by kernel_rfl) ?_
  refine Ops.call (by kernel_rfl) (d := (some 36)) (by kernel_rfl) (RdEnd_calls _ b8 A9 c10 ((⟨[byte 128, byte 0], 0, 0⟩ : Rdr).uint.2) hok25 H120 F122 hne16) ?_
  rintro _ w128 ⟨rfl, K129⟩
  refine ⟨_, _, rfl, rfl, ?_⟩
  have K130 := K118.trans K129 (U := none_) (fun i h1 h2 => h2) (fun i h1 h2 => by exact h2)
  clear K118
  have H131 := H119.keep K129 (fun h => h)
  clear H119
  have H132 := H120.keep K129 (fun h => h)
  clear H120
  have H133 := H121.keep K129 (fun h => h)
  clear H121
  have F134 := RdO.keep0 F122 K129
  clear F122
  have F135 := (Rd.keep0 (by omega) F123 K129)
  clear F123
  have F136 := own_keep0 F124 K129
  clear F124
  have F137 := own_keep0 F125 K129
  clear F125
  have F138 := own_keep0 F126 K129
  clear F126
  have F139 := own_keep0 O117 K129
  clear O117
  clear K129
  refine Ops.regs 3 [(0, (Value.bool false)), (2, (Value.slice none 0 0)), (3, (i64 10)), (4, (Value.slice A75 ((frameB [byte 97]).length) c76)), (5, (i64 0)), (39, (Value.bool ((((⟨[byte 128, byte 0], 0, 0⟩ : Rdr).uint.2).end_) == 11)))] (j := 19) (by kernel_rfl) (by kernel_rfl) ?_
  have h140 : ((((⟨[byte 128, byte 0], 0, 0⟩ : Rdr).uint.2).end_) == 11) = true := by first | kernel_rfl | (simp [uv, tv, iv, zz, byte, frameB, fourB]; done) | decide +kernel
  rw [h140]
  refine Ops.regs 14 [(0, (Value.bool false)), (5, (i64 0)), (53, (Value.bool ((((frameB [byte 97]).length : Nat) : Int) == 6)))] (j := 33) (by kernel_rfl) (by kernel_rfl) ?_
  have h141 : ((((frameB [byte 97]).length : Nat) : Int) == 6) = true := by first | kernel_rfl | (simp [uv, tv, iv, zz, byte, frameB, fourB]; done) | decide +kernel
  rw [h141]
  refine Ops.regs 4 [(0, (Value.bool true))] (j := 37) (by kernel_rfl) (by kernel_rfl) ?_
  refine Ops.done (by kernel_rfl) ?_
  refine q_ret (by kernel_rfl) ?_
  refine ⟨(Value.bool true), retv_tmp rfl rfl, ?_⟩
  exact ⟨rfl, K130⟩
end Go.Proofs.Ytnepjfnkaigakaa
