/- the reference's frames -/
import Derived.Test.YtnepjfnkaigakaaProg
import Derived.Test.YtnepjfnkaigakaaLS
import Derived.Test.YtnepjfnkaigakaaLR
import Derived.Test.YtnepjfnkaigakaaKC
set_option linter.unusedVariables false
namespace Go.Proofs.Ytnepjfnkaigakaa
open Go.Q Go.RowKit

theorem RStep_calls (w : World) (r : Nat) (x : UInt8) (hr : r < 4294967296) : Calls Try.prog 84 ⟨[(Value.int IntKind.u32 ((r : Nat) : Int)), (Value.int IntKind.u8 ((x.toNat : Nat) : Int))]⟩ w (fun e w' => e = .returned (.int .u32 ((crcByte r x : Nat) : Int)) ∧ Keeps none_ w w') := by
  have hx256 : x.toNat < 256 := x.toNat_lt
  have K0 : Keeps none_ w w := Keeps.refl w
  refine q_calls Try.func84 (by kernel_rfl) (by kernel_rfl) ?_
  refine q_seq (by kernel_rfl) ?_
  refine q_region (by kernel_rfl) ?_
  refine Ops.regs 1 [(0, (Value.int IntKind.u32 ((r : Nat) : Int))), (1, (Value.int IntKind.u8 ((x.toNat : Nat) : Int))), (4, (Value.int IntKind.u32 0))] (j := 1) (by kernel_rfl) (by kernel_rfl) ?_
  refine Ops.done (by kernel_rfl) ?_
  refine q_seq (by kernel_rfl) ?_
  refine q_seq (by kernel_rfl) ?_
  refine q_region (by kernel_rfl) ?_
  refine Ops.regs 1 [(0, (Value.int IntKind.u32 ((r : Nat) : Int))), (1, (Value.int IntKind.u8 ((x.toNat : Nat) : Int))), (4, (Value.int IntKind.u32 0)), (5, (i64 0))] (j := 1) (by kernel_rfl) (by kernel_rfl) ?_
  refine Ops.done (by kernel_rfl) ?_
  refine q_block (id := 0) (by kernel_rfl) ?_
  refine q_keep (R := [(0, (Value.int IntKind.u32 ((r : Nat) : Int))), (1, (Value.int IntKind.u8 ((x.toNat : Nat) : Int))), (4, (Value.int IntKind.u32 0)), (5, (i64 0))]) (by kernel_rfl) ?_
  refine q_loop (fun (gs : Nat × Nat) L (wx : World) => match gs with | (i, q) => L = [(0, (Value.int IntKind.u32 ((q : Nat) : Int))), (1, (Value.int IntKind.u8 ((x.toNat : Nat) : Int))), (4, (Value.int IntKind.u32 0)), (5, (i64 ((i : Nat) : Int)))] ∧ q ^^^ shr8 x.toNat i = shiftN i (r ^^^ x.toNat) ∧ q < 4294967296 ∧ i ≤ 8 ∧ Keeps none_ w wx) (fun (gs : Nat × Nat) => match gs with | (i, q) => 8 - i) (0, r) (by kernel_rfl) ⟨rfl, (by rw [shr8_zero]; rfl), hr, (by omega), K0⟩ ?_
  clear K0
  rintro ⟨i, q⟩ _ w1 ⟨rfl, hE, hq, hi, K2⟩
  have hs8 := shr8_le x.toNat i
  refine q_seq (by kernel_rfl) ?_
  refine q_seq (by kernel_rfl) ?_
  refine q_region (by kernel_rfl) ?_
  refine Ops.regs 2 [(0, (Value.int IntKind.u32 ((q : Nat) : Int))), (1, (Value.int IntKind.u8 ((x.toNat : Nat) : Int))), (4, (Value.int IntKind.u32 0)), (5, (i64 ((i : Nat) : Int))), (8, (Value.bool (decide (((i : Nat) : Int) < 8))))] (j := 2) (by kernel_rfl) (by kernel_rfl) ?_
  refine Ops.done (by kernel_rfl) ?_
  refine q_cond (o := .tmp 8) (b := (decide (((i : Nat) : Int) < 8))) (by kernel_rfl) rfl (fun h3 => ?_) (fun h3 => ?_)
  · rw [h3]
    have p4 : ((i : Nat) : Int) < 8 := of_decide_eq_true h3
    refine q_skip (by kernel_rfl) ?_
    refine q_seq (by kernel_rfl) ?_
    refine q_block (id := 1) (by kernel_rfl) ?_
    refine q_seq (by kernel_rfl) ?_
    refine q_region (by kernel_rfl) ?_
    refine Ops.regs 4 [(0, (Value.int IntKind.u32 ((q : Nat) : Int))), (1, (Value.int IntKind.u8 ((x.toNat : Nat) : Int))), (4, (Value.int IntKind.u32 0)), (5, (i64 ((i : Nat) : Int))), (8, (Value.bool true)), (11, (Value.int IntKind.u32 ((q : Nat) : Int))), (12, (Value.int IntKind.u8 ((x.toNat : Nat) : Int))), (14, (Value.int IntKind.u64 (IntKind.u64.wrap (((i : Nat) : Int)))))] (j := 4) (by kernel_rfl) (by kernel_rfl) ?_
    have e5 : IntKind.u64.wrap (((i : Nat) : Int)) = ((i : Nat) : Int) := wrap_u64 (by omega) (by omega)
    rw [e5]
    refine Ops.go (v := (Value.int IntKind.u8 ((shr8 x.toNat i : Nat) : Int))) (by kernel_rfl) (Runs.int (op := .shr) (t := 5) (by kernel_rfl) (run_shrv (k := IntKind.u64) (i := i) (s := ((i : Nat) : Int)) rfl (by omega))) (d := (some 15)) (by kernel_rfl) rfl ?_
    refine Ops.regs 1 [(0, (Value.int IntKind.u32 ((q : Nat) : Int))), (1, (Value.int IntKind.u8 ((x.toNat : Nat) : Int))), (4, (Value.int IntKind.u32 0)), (5, (i64 ((i : Nat) : Int))), (8, (Value.bool true)), (11, (Value.int IntKind.u32 ((q : Nat) : Int))), (16, (Value.int IntKind.u32 (IntKind.u32.wrap (((shr8 x.toNat i : Nat) : Int)))))] (j := 6) (by kernel_rfl) (by kernel_rfl) ?_
    have e6 : IntKind.u32.wrap (((shr8 x.toNat i : Nat) : Int)) = ((shr8 x.toNat i : Nat) : Int) := wrap_u32 (by omega) (by omega)
    rw [e6]
    have hb7 : q ^^^ (shr8 x.toNat i) < 4294967296 := xor32_lt (by omega) (by omega)
    refine Ops.go (v := (Value.int IntKind.u32 ((q ^^^ (shr8 x.toNat i) : Nat) : Int))) (by kernel_rfl) (Runs.int (op := .xor) (t := 91) (by kernel_rfl) (run_xor32 (a := q) (b := (shr8 x.toNat i)) (by omega) (by omega))) (d := (some 17)) (by kernel_rfl) rfl ?_
    have hb8 : (q ^^^ (shr8 x.toNat i)) &&& 1 < 4294967296 := and32_lt (by omega)
    refine Ops.go (v := (Value.int IntKind.u32 (((q ^^^ (shr8 x.toNat i)) &&& 1 : Nat) : Int))) (by kernel_rfl) (Runs.int (op := .and) (t := 91) (by kernel_rfl) (run_and32 (a := (q ^^^ (shr8 x.toNat i))) (b := 1) (by omega) (by omega))) (d := (some 18)) (by kernel_rfl) rfl ?_
    refine Ops.regs 1 [(0, (Value.int IntKind.u32 ((q : Nat) : Int))), (1, (Value.int IntKind.u8 ((x.toNat : Nat) : Int))), (4, (Value.int IntKind.u32 0)), (5, (i64 ((i : Nat) : Int))), (6, (Value.int IntKind.u32 (((q ^^^ (shr8 x.toNat i)) &&& 1 : Nat) : Int))), (8, (Value.bool true))] (j := 9) (by kernel_rfl) (by kernel_rfl) ?_
    refine Ops.done (by kernel_rfl) ?_
    refine q_seq (by kernel_rfl) ?_
    refine q_region (by kernel_rfl) ?_
    refine Ops.regs 2 [(0, (Value.int IntKind.u32 ((q : Nat) : Int))), (1, (Value.int IntKind.u8 ((x.toNat : Nat) : Int))), (4, (Value.int IntKind.u32 0)), (5, (i64 ((i : Nat) : Int))), (6, (Value.int IntKind.u32 (((q ^^^ (shr8 x.toNat i)) &&& 1 : Nat) : Int))), (8, (Value.bool true)), (20, (Value.int IntKind.u32 ((((q : Nat) : Int)).fdiv 2)))] (j := 2) (by kernel_rfl) (by kernel_rfl) ?_
    have e9 : (((q : Nat) : Int)).fdiv 2 = ((q / 2 : Nat) : Int) := fdiv_nat q 2
    rw [e9]
    clear e9
    refine Ops.regs 1 [(0, (Value.int IntKind.u32 ((q / 2 : Nat) : Int))), (1, (Value.int IntKind.u8 ((x.toNat : Nat) : Int))), (4, (Value.int IntKind.u32 0)), (5, (i64 ((i : Nat) : Int))), (6, (Value.int IntKind.u32 (((q ^^^ (shr8 x.toNat i)) &&& 1 : Nat) : Int))), (8, (Value.bool true))] (j := 3) (by kernel_rfl) (by kernel_rfl) ?_
    refine Ops.done (by kernel_rfl) ?_
    refine q_seq (by kernel_rfl) ?_
    refine q_region (by kernel_rfl) ?_
    refine Ops.regs 2 [(0, (Value.int IntKind.u32 ((q / 2 : Nat) : Int))), (1, (Value.int IntKind.u8 ((x.toNat : Nat) : Int))), (4, (Value.int IntKind.u32 0)), (5, (i64 ((i : Nat) : Int))), (6, (Value.int IntKind.u32 (((q ^^^ (shr8 x.toNat i)) &&& 1 : Nat) : Int))), (8, (Value.bool true)), (22, (Value.bool ((((q ^^^ (shr8 x.toNat i)) &&& 1 : Nat) : Int) == 1)))] (j := 2) (by kernel_rfl) (by kernel_rfl) ?_
    refine Ops.done (by kernel_rfl) ?_
    refine q_cond (o := .tmp 22) (b := ((((q ^^^ (shr8 x.toNat i)) &&& 1 : Nat) : Int) == 1)) (by kernel_rfl) rfl (fun h10 => ?_) (fun h10 => ?_)
    · rw [h10]
      have p11 : (((q ^^^ (shr8 x.toNat i)) &&& 1 : Nat) : Int) = 1 := of_beq_t h10
      refine q_region (by kernel_rfl) ?_
      refine Ops.regs 1 [(0, (Value.int IntKind.u32 ((q / 2 : Nat) : Int))), (1, (Value.int IntKind.u8 ((x.toNat : Nat) : Int))), (4, (Value.int IntKind.u32 0)), (5, (i64 ((i : Nat) : Int))), (6, (Value.int IntKind.u32 (((q ^^^ (shr8 x.toNat i)) &&& 1 : Nat) : Int))), (8, (Value.bool true)), (22, (Value.bool true)), (23, (Value.int IntKind.u32 ((q / 2 : Nat) : Int)))] (j := 1) (by kernel_rfl) (by kernel_rfl) ?_
      have hb12 : (q / 2) ^^^ 2197175160 < 4294967296 := xor32_lt (by omega) (by omega)
      refine Ops.go (v := (Value.int IntKind.u32 (((q / 2) ^^^ 2197175160 : Nat) : Int))) (by kernel_rfl) (Runs.int (op := .xor) (t := 91) (by kernel_rfl) (run_xor32 (a := (q / 2)) (b := 2197175160) (by omega) (by omega))) (d := (some 24)) (by kernel_rfl) rfl ?_
      refine Ops.regs 1 [(0, (Value.int IntKind.u32 (((q / 2) ^^^ 2197175160 : Nat) : Int))), (1, (Value.int IntKind.u8 ((x.toNat : Nat) : Int))), (4, (Value.int IntKind.u32 0)), (5, (i64 ((i : Nat) : Int))), (6, (Value.int IntKind.u32 (((q ^^^ (shr8 x.toNat i)) &&& 1 : Nat) : Int))), (8, (Value.bool true)), (22, (Value.bool true))] (j := 3) (by kernel_rfl) (by kernel_rfl) ?_
      refine Ops.done (by kernel_rfl) ?_
      refine q_region (by kernel_rfl) ?_
      refine Ops.regs 2 [(0, (Value.int IntKind.u32 (((q / 2) ^^^ 2197175160 : Nat) : Int))), (1, (Value.int IntKind.u8 ((x.toNat : Nat) : Int))), (4, (Value.int IntKind.u32 0)), (5, (i64 ((i : Nat) : Int))), (6, (Value.int IntKind.u32 (((q ^^^ (shr8 x.toNat i)) &&& 1 : Nat) : Int))), (8, (Value.bool true)), (10, (i64 (IntKind.i64.wrap (((i : Nat) : Int) + 1)))), (22, (Value.bool true))] (j := 2) (by kernel_rfl) (by kernel_rfl) ?_
      have e13 : IntKind.i64.wrap (((i : Nat) : Int) + 1) = ((i + 1 : Nat) : Int) := by rw [wrap_i64 (by omega) (by omega)]; omega
      rw [e13]
      clear e13
      refine Ops.regs 1 [(0, (Value.int IntKind.u32 (((q / 2) ^^^ 2197175160 : Nat) : Int))), (1, (Value.int IntKind.u8 ((x.toNat : Nat) : Int))), (4, (Value.int IntKind.u32 0)), (5, (i64 ((i + 1 : Nat) : Int))), (6, (Value.int IntKind.u32 (((q ^^^ (shr8 x.toNat i)) &&& 1 : Nat) : Int))), (8, (Value.bool true)), (22, (Value.bool true))] (j := 3) (by kernel_rfl) (by kernel_rfl) ?_
      refine Ops.keep (R := [(0, (Value.int IntKind.u32 (((q / 2) ^^^ 2197175160 : Nat) : Int))), (1, (Value.int IntKind.u8 ((x.toNat : Nat) : Int))), (4, (Value.int IntKind.u32 0)), (5, (i64 ((i + 1 : Nat) : Int)))]) (by kernel_rfl) ?_
      refine Ops.done (by kernel_rfl) ?_
      exact ⟨(i + 1, (q / 2) ^^^ 2197175160), ⟨rfl, (by rw [shr8_next, step_t p11, hE]; rfl), (by omega), (by omega), K2⟩, (show 8 - (i + 1) < 8 - i from by omega)⟩
    · rw [h10]
      have p14 : ¬ ((((q ^^^ (shr8 x.toNat i)) &&& 1 : Nat) : Int) = 1) := of_beq_f h10
      refine q_skip (by kernel_rfl) ?_
      refine q_region (by kernel_rfl) ?_
      refine Ops.regs 2 [(0, (Value.int IntKind.u32 ((q / 2 : Nat) : Int))), (1, (Value.int IntKind.u8 ((x.toNat : Nat) : Int))), (4, (Value.int IntKind.u32 0)), (5, (i64 ((i : Nat) : Int))), (6, (Value.int IntKind.u32 (((q ^^^ (shr8 x.toNat i)) &&& 1 : Nat) : Int))), (8, (Value.bool true)), (10, (i64 (IntKind.i64.wrap (((i : Nat) : Int) + 1)))), (22, (Value.bool false))] (j := 2) (by kernel_rfl) (by kernel_rfl) ?_
      have e15 : IntKind.i64.wrap (((i : Nat) : Int) + 1) = ((i + 1 : Nat) : Int) := by rw [wrap_i64 (by omega) (by omega)]; omega
      rw [e15]
      clear e15
      refine Ops.regs 1 [(0, (Value.int IntKind.u32 ((q / 2 : Nat) : Int))), (1, (Value.int IntKind.u8 ((x.toNat : Nat) : Int))), (4, (Value.int IntKind.u32 0)), (5, (i64 ((i + 1 : Nat) : Int))), (6, (Value.int IntKind.u32 (((q ^^^ (shr8 x.toNat i)) &&& 1 : Nat) : Int))), (8, (Value.bool true)), (22, (Value.bool false))] (j := 3) (by kernel_rfl) (by kernel_rfl) ?_
      refine Ops.keep (R := [(0, (Value.int IntKind.u32 ((q / 2 : Nat) : Int))), (1, (Value.int IntKind.u8 ((x.toNat : Nat) : Int))), (4, (Value.int IntKind.u32 0)), (5, (i64 ((i + 1 : Nat) : Int)))]) (by kernel_rfl) ?_
      refine Ops.done (by kernel_rfl) ?_
      exact ⟨(i + 1, q / 2), ⟨rfl, (by rw [shr8_next, step_f p14, hE]; rfl), (by omega), (by omega), K2⟩, (show 8 - (i + 1) < 8 - i from by omega)⟩
  · rw [h3]
    have p16 : ¬ (((i : Nat) : Int) < 8) := of_decide_eq_false h3
    refine q_exit (id := 0) (by kernel_rfl) ?_
    refine q_seq (by kernel_rfl) ?_
    refine q_region (by kernel_rfl) ?_
    refine Ops.regs 2 [(4, (Value.int IntKind.u32 ((q : Nat) : Int)))] (j := 2) (by kernel_rfl) (by kernel_rfl) ?_
    refine Ops.done (by kernel_rfl) ?_
    refine q_ret (by kernel_rfl) ?_
    refine ⟨(Value.int IntKind.u32 ((q : Nat) : Int)), retv_tmp rfl rfl, ?_⟩
    have e : q = crcByte r x := by have h8 : i = 8 := (by omega); subst h8; rw [shr8_end (by omega), Nat.xor_zero] at hE; exact hE
    exact ⟨by rw [e], K2⟩

theorem RMore_calls (w : World) (A : Option Addr) (c s : Nat) (bs : List UInt8) (hs : s < 4294967296) (hv : RdB w (.slice A bs.length c) bs) (hl : bs.length ≤ 140737488351232) : Calls Try.prog 83 ⟨[(Value.int IntKind.u32 ((s : Nat) : Int)), (Value.slice A bs.length c)]⟩ w (fun e w' => e = .returned (.int .u32 ((crcMore s bs : Nat) : Int)) ∧ Keeps none_ w w') := by
  have K0 : Keeps none_ w w := Keeps.refl w
  refine q_calls Try.func83 (by kernel_rfl) (by kernel_rfl) ?_
  refine q_seq (by kernel_rfl) ?_
  refine q_region (by kernel_rfl) ?_
  refine Ops.regs 1 [(0, (Value.int IntKind.u32 ((s : Nat) : Int))), (1, (Value.slice A bs.length c)), (4, (Value.int IntKind.u32 0))] (j := 1) (by kernel_rfl) (by kernel_rfl) ?_
  refine Ops.done (by kernel_rfl) ?_
  refine q_seq (by kernel_rfl) ?_
  refine q_region (by kernel_rfl) ?_
  refine Ops.regs 1 [(1, (Value.slice A bs.length c)), (4, (Value.int IntKind.u32 0)), (7, (Value.int IntKind.u32 ((s : Nat) : Int)))] (j := 1) (by kernel_rfl) (by kernel_rfl) ?_
  have hb1 : 4294967295 ^^^ s < 4294967296 := xor32_lt (by omega) (by omega)
  refine Ops.go (v := (Value.int IntKind.u32 ((4294967295 ^^^ s : Nat) : Int))) (by kernel_rfl) (Runs.un (op := .xor) (by kernel_rfl) (run_not32 (a := s) (by omega))) (d := (some 8)) (by kernel_rfl) rfl ?_
  refine Ops.regs 1 [(1, (Value.slice A bs.length c)), (4, (Value.int IntKind.u32 0)), (5, (Value.int IntKind.u32 ((4294967295 ^^^ s : Nat) : Int)))] (j := 3) (by kernel_rfl) (by kernel_rfl) ?_
  refine Ops.done (by kernel_rfl) ?_
  refine q_seq (by kernel_rfl) ?_
  refine q_seq (by kernel_rfl) ?_
  refine q_region (by kernel_rfl) ?_
  refine Ops.regs 1 [(1, (Value.slice A bs.length c)), (4, (Value.int IntKind.u32 0)), (5, (Value.int IntKind.u32 ((4294967295 ^^^ s : Nat) : Int))), (6, (i64 0))] (j := 1) (by kernel_rfl) (by kernel_rfl) ?_
  refine Ops.done (by kernel_rfl) ?_
  refine q_block (id := 0) (by kernel_rfl) ?_
  refine q_keep (R := [(1, (Value.slice A bs.length c)), (4, (Value.int IntKind.u32 0)), (5, (Value.int IntKind.u32 ((4294967295 ^^^ s : Nat) : Int))), (6, (i64 0))]) (by kernel_rfl) ?_
  refine q_loop (fun (gs : Nat × Nat) L (wx : World) => match gs with | (i, r) => L = [(1, (Value.slice A bs.length c)), (4, (Value.int IntKind.u32 0)), (5, (Value.int IntKind.u32 ((r : Nat) : Int))), (6, (i64 ((i : Nat) : Int)))] ∧ r = (bs.take i).foldl crcByte (4294967295 ^^^ s) ∧ r < 4294967296 ∧ i ≤ bs.length ∧ Keeps none_ w wx) (fun (gs : Nat × Nat) => match gs with | (i, r) => bs.length - i) (0, 4294967295 ^^^ s) (by kernel_rfl) ⟨rfl, rfl, (xor32_lt (by omega) hs), (by omega), K0⟩ ?_
  clear K0
  rintro ⟨i, r⟩ _ w2 ⟨rfl, hE, hr, hil, K3⟩
  refine q_seq (by kernel_rfl) ?_
  refine q_seq (by kernel_rfl) ?_
  refine q_region (by kernel_rfl) ?_
  refine Ops.regs 4 [(1, (Value.slice A bs.length c)), (4, (Value.int IntKind.u32 0)), (5, (Value.int IntKind.u32 ((r : Nat) : Int))), (6, (i64 ((i : Nat) : Int))), (12, (Value.bool (decide (((i : Nat) : Int) < ((bs.length : Nat) : Int)))))] (j := 4) (by kernel_rfl) (by kernel_rfl) ?_
  refine Ops.done (by kernel_rfl) ?_
  refine q_cond (o := .tmp 12) (b := (decide (((i : Nat) : Int) < ((bs.length : Nat) : Int)))) (by kernel_rfl) rfl (fun h4 => ?_) (fun h4 => ?_)
  · rw [h4]
    have p5 : ((i : Nat) : Int) < ((bs.length : Nat) : Int) := of_decide_eq_true h4
    obtain ⟨x, lb, lo, hx, hA, hLd⟩ := RdB.at (P := Try.prog) (t := 5) hv (k := i) (by kernel_rfl) (by omega)
    have hx256 : x.toNat < 256 := x.toNat_lt
    refine q_skip (by kernel_rfl) ?_
    refine q_seq (by kernel_rfl) ?_
    refine q_block (id := 1) (by kernel_rfl) ?_
    refine q_region (by kernel_rfl) ?_
    refine Ops.regs 3 [(1, (Value.slice A bs.length c)), (4, (Value.int IntKind.u32 0)), (5, (Value.int IntKind.u32 ((r : Nat) : Int))), (6, (i64 ((i : Nat) : Int))), (12, (Value.bool true)), (15, (Value.int IntKind.u32 ((r : Nat) : Int))), (16, (Value.slice A bs.length c)), (17, (i64 ((i : Nat) : Int)))] (j := 3) (by kernel_rfl) (by kernel_rfl) ?_
    refine Ops.go (by kernel_rfl) (Runs.ixSliceE (k := IntKind.i64) (t := 23) (len := bs.length) (cap := c) (s := 1) (off' := lo + i) (i := ((i : Nat) : Int)) hA (by kernel_rfl) (by kernel_rfl) (by omega) (by omega) (by omega)) (d := (some 18)) (by kernel_rfl) rfl ?_
    refine Ops.go (v := (Value.int IntKind.u8 ((x.toNat : Nat) : Int))) (by kernel_rfl) (Runs.load (t := 5) (a := ⟨lb, lo + i, none⟩) (by kernel_rfl) (hLd _ _ K3 (fun h => h))) (d := (some 19)) (by kernel_rfl) rfl ?_
    refine Ops.call (by kernel_rfl) (d := (some 20)) (by kernel_rfl) (RStep_calls _ r x (by omega)) ?_
    rintro _ w6 ⟨rfl, K7⟩
    refine ⟨_, _, rfl, rfl, ?_⟩
    replace K3 := K3.trans K7 (U := none_) (fun i h1 h2 => h2) (fun i h1 h2 => by exact h2)
    clear K7
    refine Ops.regs 1 [(1, (Value.slice A bs.length c)), (4, (Value.int IntKind.u32 0)), (5, (Value.int IntKind.u32 ((crcByte r x : Nat) : Int))), (6, (i64 ((i : Nat) : Int))), (12, (Value.bool true))] (j := 7) (by kernel_rfl) (by kernel_rfl) ?_
    refine Ops.done (by kernel_rfl) ?_
    refine q_region (by kernel_rfl) ?_
    refine Ops.regs 2 [(1, (Value.slice A bs.length c)), (4, (Value.int IntKind.u32 0)), (5, (Value.int IntKind.u32 ((crcByte r x : Nat) : Int))), (6, (i64 ((i : Nat) : Int))), (12, (Value.bool true)), (14, (i64 (IntKind.i64.wrap (((i : Nat) : Int) + 1))))] (j := 2) (by kernel_rfl) (by kernel_rfl) ?_
    have e8 : IntKind.i64.wrap (((i : Nat) : Int) + 1) = ((i + 1 : Nat) : Int) := by rw [wrap_i64 (by omega) (by omega)]; omega
    rw [e8]
    clear e8
    refine Ops.regs 1 [(1, (Value.slice A bs.length c)), (4, (Value.int IntKind.u32 0)), (5, (Value.int IntKind.u32 ((crcByte r x : Nat) : Int))), (6, (i64 ((i + 1 : Nat) : Int))), (12, (Value.bool true))] (j := 3) (by kernel_rfl) (by kernel_rfl) ?_
    refine Ops.keep (R := [(1, (Value.slice A bs.length c)), (4, (Value.int IntKind.u32 0)), (5, (Value.int IntKind.u32 ((crcByte r x : Nat) : Int))), (6, (i64 ((i + 1 : Nat) : Int)))]) (by kernel_rfl) ?_
    refine Ops.done (by kernel_rfl) ?_
    exact ⟨(i + 1, crcByte r x), ⟨rfl, (by rw [fold_take hx, ← hE]), (crcByte_lt x hr), (by omega), K3⟩, (show bs.length - (i + 1) < bs.length - i from by omega)⟩
  · rw [h4]
    have p9 : ¬ (((i : Nat) : Int) < ((bs.length : Nat) : Int)) := of_decide_eq_false h4
    refine q_exit (id := 0) (by kernel_rfl) ?_
    refine q_seq (by kernel_rfl) ?_
    refine q_region (by kernel_rfl) ?_
    refine Ops.regs 1 [(4, (Value.int IntKind.u32 0)), (21, (Value.int IntKind.u32 ((r : Nat) : Int)))] (j := 1) (by kernel_rfl) (by kernel_rfl) ?_
    have hb10 : 4294967295 ^^^ r < 4294967296 := xor32_lt (by omega) (by omega)
    refine Ops.go (v := (Value.int IntKind.u32 ((4294967295 ^^^ r : Nat) : Int))) (by kernel_rfl) (Runs.un (op := .xor) (by kernel_rfl) (run_not32 (a := r) (by omega))) (d := (some 22)) (by kernel_rfl) rfl ?_
    refine Ops.regs 1 [(4, (Value.int IntKind.u32 ((4294967295 ^^^ r : Nat) : Int)))] (j := 3) (by kernel_rfl) (by kernel_rfl) ?_
    refine Ops.done (by kernel_rfl) ?_
    refine q_ret (by kernel_rfl) ?_
    refine ⟨(Value.int IntKind.u32 ((4294967295 ^^^ r : Nat) : Int)), retv_tmp rfl rfl, ?_⟩
    have e : 4294967295 ^^^ r = crcMore s bs := by rw [hE, show i = bs.length from by omega, List.take_length]; rfl
    exact ⟨by rw [e], K3⟩

theorem RMore_any (w : World) (v : Value) (s : Nat) (bs : List UInt8) (hs : s < 4294967296) (hv : RdB w v bs) (hl : bs.length ≤ 140737488351232) : Calls Try.prog 83 ⟨[.int .u32 ((s : Nat) : Int), v]⟩ w (fun e w' => e = .returned (.int .u32 ((crcMore s bs : Nat) : Int)) ∧ Keeps none_ w w') := by
  obtain ⟨A, c, rfl⟩ := hv.form
  exact RMore_calls w A c s bs hs hv hl

theorem RSum_calls (w : World) (v : Value) (bs : List UInt8) (hv : RdB w v bs) (hl : bs.length ≤ 140737488351232) : Calls Try.prog 81 ⟨[v]⟩ w (fun e w' => e = .returned (.int .u32 ((crcMore 0 bs : Nat) : Int)) ∧ Keeps none_ w w') := by
  have K0 : Keeps none_ w w := Keeps.refl w
  refine q_calls Try.func81 (by kernel_rfl) (by kernel_rfl) ?_
  refine q_seq (by kernel_rfl) ?_
  refine q_region (by kernel_rfl) ?_
  refine Ops.regs 1 [(0, v), (2, (Value.int IntKind.u32 0))] (j := 1) (by kernel_rfl) (by kernel_rfl) ?_
  refine Ops.done (by kernel_rfl) ?_
  refine q_seq (by kernel_rfl) ?_
  refine q_region (by kernel_rfl) ?_
  refine Ops.regs 1 [(2, (Value.int IntKind.u32 0)), (3, v)] (j := 1) (by kernel_rfl) (by kernel_rfl) ?_
  refine Ops.call (by kernel_rfl) (d := (some 4)) (by kernel_rfl) (RMore_any _ v 0 bs (by omega) (hv.keep0 (by omega) K0) (by omega)) ?_
  rintro _ w1 ⟨rfl, K2⟩
  refine ⟨_, _, rfl, rfl, ?_⟩
  replace K0 := K0.trans K2 (U := none_) (fun i h1 h2 => h2) (fun i h1 h2 => by exact h2)
  clear K2
  refine Ops.regs 1 [(2, (Value.int IntKind.u32 ((crcMore 0 bs : Nat) : Int)))] (j := 3) (by kernel_rfl) (by kernel_rfl) ?_
  refine Ops.done (by kernel_rfl) ?_
  refine q_ret (by kernel_rfl) ?_
  refine ⟨(Value.int IntKind.u32 ((crcMore 0 bs : Nat) : Int)), retv_tmp rfl rfl, ?_⟩
  exact ⟨rfl, K0⟩

theorem four_calls (w : World) (s : Nat) (hs : s < 4294967296) : Calls Try.prog 80 ⟨[(Value.int IntKind.u32 ((s : Nat) : Int))]⟩ w (fun e w' => ∃ v', e = .returned v' ∧ Keeps none_ w w' ∧ RdB w' v' (fourB s)) := by
  have K0 : Keeps none_ w w := Keeps.refl w
  refine q_calls Try.func80 (by kernel_rfl) (by kernel_rfl) ?_
  refine q_seq (by kernel_rfl) ?_
  refine q_region (by kernel_rfl) ?_
  refine Ops.regs 1 [(0, (Value.int IntKind.u32 ((s : Nat) : Int))), (2, (Value.slice none 0 0))] (j := 1) (by kernel_rfl) (by kernel_rfl) ?_
  refine Ops.done (by kernel_rfl) ?_
  refine q_seq (by kernel_rfl) ?_
  refine q_region (by kernel_rfl) ?_
  refine Ops.regs 2 [(0, (Value.int IntKind.u32 ((s : Nat) : Int))), (2, (Value.slice none 0 0)), (4, (Value.int IntKind.u8 (IntKind.u8.wrap ((s : Nat) : Int))))] (j := 2) (by kernel_rfl) (by kernel_rfl) ?_
  have e1 : IntKind.u8.wrap ((s : Nat) : Int) = ((s % 256 : Nat) : Int) := u8_wrap s
  rw [e1]
  clear e1
  refine Ops.regs 2 [(0, (Value.int IntKind.u32 ((s : Nat) : Int))), (2, (Value.slice none 0 0)), (4, (Value.int IntKind.u8 ((s % 256 : Nat) : Int))), (6, (Value.int IntKind.u32 ((((s : Nat) : Int)).fdiv 256)))] (j := 4) (by kernel_rfl) (by kernel_rfl) ?_
  have e2 : (((s : Nat) : Int)).fdiv 256 = ((s / 256 : Nat) : Int) := fdiv_nat s 256
  rw [e2]
  clear e2
  refine Ops.regs 1 [(0, (Value.int IntKind.u32 ((s : Nat) : Int))), (2, (Value.slice none 0 0)), (4, (Value.int IntKind.u8 ((s % 256 : Nat) : Int))), (7, (Value.int IntKind.u8 (IntKind.u8.wrap ((s / 256 : Nat) : Int))))] (j := 5) (by kernel_rfl) (by kernel_rfl) ?_
  have e3 : IntKind.u8.wrap ((s / 256 : Nat) : Int) = (((s / 256) % 256 : Nat) : Int) := u8_wrap (s / 256)
  rw [e3]
  clear e3
  refine Ops.regs 2 [(0, (Value.int IntKind.u32 ((s : Nat) : Int))), (2, (Value.slice none 0 0)), (4, (Value.int IntKind.u8 ((s % 256 : Nat) : Int))), (7, (Value.int IntKind.u8 (((s / 256) % 256 : Nat) : Int))), (9, (Value.int IntKind.u32 ((((s : Nat) : Int)).fdiv 65536)))] (j := 7) (by kernel_rfl) (by kernel_rfl) ?_
  have e4 : (((s : Nat) : Int)).fdiv 65536 = ((s / 65536 : Nat) : Int) := fdiv_nat s 65536
  rw [e4]
  clear e4
  refine Ops.regs 1 [(0, (Value.int IntKind.u32 ((s : Nat) : Int))), (2, (Value.slice none 0 0)), (4, (Value.int IntKind.u8 ((s % 256 : Nat) : Int))), (7, (Value.int IntKind.u8 (((s / 256) % 256 : Nat) : Int))), (10, (Value.int IntKind.u8 (IntKind.u8.wrap ((s / 65536 : Nat) : Int))))] (j := 8) (by kernel_rfl) (by kernel_rfl) ?_
  have e5 : IntKind.u8.wrap ((s / 65536 : Nat) : Int) = (((s / 65536) % 256 : Nat) : Int) := u8_wrap (s / 65536)
  rw [e5]
  clear e5
  refine Ops.regs 2 [(2, (Value.slice none 0 0)), (4, (Value.int IntKind.u8 ((s % 256 : Nat) : Int))), (7, (Value.int IntKind.u8 (((s / 256) % 256 : Nat) : Int))), (10, (Value.int IntKind.u8 (((s / 65536) % 256 : Nat) : Int))), (12, (Value.int IntKind.u32 ((((s : Nat) : Int)).fdiv 16777216)))] (j := 10) (by kernel_rfl) (by kernel_rfl) ?_
  have e6 : (((s : Nat) : Int)).fdiv 16777216 = ((s / 16777216 : Nat) : Int) := fdiv_nat s 16777216
  rw [e6]
  clear e6
  refine Ops.regs 1 [(2, (Value.slice none 0 0)), (4, (Value.int IntKind.u8 ((s % 256 : Nat) : Int))), (7, (Value.int IntKind.u8 (((s / 256) % 256 : Nat) : Int))), (10, (Value.int IntKind.u8 (((s / 65536) % 256 : Nat) : Int))), (13, (Value.int IntKind.u8 (IntKind.u8.wrap ((s / 16777216 : Nat) : Int))))] (j := 11) (by kernel_rfl) (by kernel_rfl) ?_
  have e7 : IntKind.u8.wrap ((s / 16777216 : Nat) : Int) = (((s / 16777216) % 256 : Nat) : Int) := u8_wrap (s / 16777216)
  rw [e7]
  clear e7
  refine Ops.new (o := rowL [(Value.int IntKind.u8 ((s % 256 : Nat) : Int)), (Value.int IntKind.u8 (((s / 256) % 256 : Nat) : Int)), (Value.int IntKind.u8 (((s / 65536) % 256 : Nat) : Int)), (Value.int IntKind.u8 (((s / 16777216) % 256 : Nat) : Int))] 5) (V := fun b => (Value.slice (some ⟨b, 0, none⟩) 4 4)) (by kernel_rfl) (d := (some 14)) (by kernel_rfl) (fun b => rfl) (fun b8 w9 hb10 H11 K12 hs13 => ?_)
  have nb8 : w.heap.size ≤ b8 := by have := K0.size; omega
  replace K0 := K0.trans K12 (U := none_) (fun i h1 h2 => h2) (fun i h1 h2 => by exact h2)
  clear K12 hs13
  refine Ops.regs 1 [(2, (Value.slice (some ⟨b8, 0, none⟩) 4 4))] (j := 13) (by kernel_rfl) (by kernel_rfl) ?_
  refine Ops.done (by kernel_rfl) ?_
  refine q_ret (by kernel_rfl) ?_
  refine ⟨(Value.slice (some ⟨b8, 0, none⟩) 4 4), retv_tmp rfl rfl, ?_⟩
  have hf := lit4 (by omega) (by omega) (by omega) (by omega) H11
  rw [four_eq] at hf
  exact ⟨_, rfl, K0, hf⟩

set_option maxHeartbeats 4000000 in
theorem first_calls (w : World) (B : Option Addr) (bc : Nat) (bs : List UInt8) (hB : RdB w (.slice B bs.length bc) bs) (hbl : bs.length ≤ 140737488351232) : Calls Try.prog 76 ⟨[(Value.slice B bs.length bc)]⟩ w (fun e w' => ∃ v1 v2, e = .returned (.tuple #[v1, v2, i64 (firstB bs).2.2]) ∧ Keeps none_ w w' ∧ (∀ W, RdB W (.slice B bs.length bc) bs → RdB W v1 (firstB bs).1) ∧ (∀ W, RdB W (.slice B bs.length bc) bs → RdB W v2 (firstB bs).2.1)) := by
  have hsb := scanB_le bs
  have hbc := hB.slice
  have K0 : Keeps none_ w w := Keeps.refl w
  refine q_calls Try.func76 (by kernel_rfl) (by kernel_rfl) ?_
  refine q_seq (by kernel_rfl) ?_
  refine q_region (by kernel_rfl) ?_
  refine Ops.regs 3 [(0, (Value.slice B bs.length bc)), (2, (Value.slice none 0 0)), (3, (Value.slice none 0 0)), (4, (i64 0))] (j := 3) (by kernel_rfl) (by kernel_rfl) ?_
  refine Ops.done (by kernel_rfl) ?_
  refine q_seq (by kernel_rfl) ?_
  refine q_region (by kernel_rfl) ?_
  refine Ops.regs 1 [(0, (Value.slice B bs.length bc)), (2, (Value.slice none 0 0)), (3, (Value.slice none 0 0)), (4, (i64 0)), (10, (Value.slice B bs.length bc))] (j := 1) (by kernel_rfl) (by kernel_rfl) ?_
  refine Ops.call (by kernel_rfl) (d := (some 11)) (by kernel_rfl) (Of_calls _ (Value.slice B bs.length bc) bs (hB.keep0 (by omega) K0) (by first | omega | decide)) ?_
  rintro _ w5 ⟨b1, A2, c3, rfl, q4, K6, H7, hr8, hne9, hge10⟩
  have nb1 : w.heap.size ≤ b1 := by have := K0.size; omega
  have hok11 : Rdr.Ok (⟨bs, 0, 0⟩ : Rdr) := ⟨Nat.zero_le _, by show bs.length ≤ _; first | omega | decide⟩
  clear q4 hge10
  refine ⟨_, _, rfl, rfl, ?_⟩
  replace K0 := K0.trans K6 (U := none_) (fun i h1 h2 => h2) (fun i h1 h2 => by exact h2)
  clear K6
  refine Ops.regs 1 [(0, (Value.slice B bs.length bc)), (2, (Value.slice none 0 0)), (3, (Value.slice none 0 0)), (4, (i64 0)), (5, (ptr b1))] (j := 3) (by kernel_rfl) (by kernel_rfl) ?_
  refine Ops.done (by kernel_rfl) ?_
  refine q_seq (by kernel_rfl) ?_
  refine q_region (by kernel_rfl) ?_
  refine Ops.regs 1 [(0, (Value.slice B bs.length bc)), (2, (Value.slice none 0 0)), (3, (Value.slice none 0 0)), (4, (i64 0)), (5, (ptr b1)), (12, (ptr b1))] (j := 1) (by kernel_rfl) (by kernel_rfl) ?_
  refine Ops.call (by kernel_rfl) (d := (some 13)) (by kernel_rfl) (RRUint_calls _ b1 A2 c3 (⟨bs, 0, 0⟩ : Rdr) hok11 H7 hr8 hne9 ) ?_
  rintro _ w12 ⟨rfl, K13, H14⟩
  have hok15 : ((⟨bs, 0, 0⟩ : Rdr).uint).2.Ok := Rdr.Ok.uint hok11
  have hu16 := Rdr.uint_lt (⟨bs, 0, 0⟩ : Rdr)
  have hfu := first_uint bs
  have hfw := hfu.1
  have hfn := hfu.2
  clear hfu
  refine ⟨_, _, rfl, rfl, ?_⟩
  replace K0 := K0.trans K13 (U := none_) (fun i h1 h2 => h2) (fun i h1 h2 => by have h2 : i = b1 := h2; exfalso; omega)
  replace hr8 := RdO.keep hr8 K13 (fun i _ _ hi hs => by have hs : i = b1 := hs; have := hne9 i _ _ hi; omega)
  clear K13
  have F17 : RdO w12 A2 c3 ((⟨bs, 0, 0⟩ : Rdr).uint).2.bs := by rw [Rdr.uint_bs]; exact hr8
  clear hr8
  refine Ops.regs 1 [(0, (Value.slice B bs.length bc)), (2, (Value.slice none 0 0)), (3, (Value.slice none 0 0)), (4, (i64 0)), (5, (ptr b1)), (6, (Value.int IntKind.u64 ((((⟨bs, 0, 0⟩ : Rdr).uint).1 : Nat) : Int)))] (j := 3) (by kernel_rfl) (by kernel_rfl) ?_
  refine Ops.done (by kernel_rfl) ?_
  refine q_seq (by kernel_rfl) ?_
  refine q_seq (by kernel_rfl) ?_
  refine q_region (by kernel_rfl) ?_
  refine Ops.regs 3 [(0, (Value.slice B bs.length bc)), (2, (Value.slice none 0 0)), (3, (Value.slice none 0 0)), (4, (i64 0)), (5, (ptr b1)), (6, (Value.int IntKind.u64 ((((⟨bs, 0, 0⟩ : Rdr).uint).1 : Nat) : Int))), (16, (Value.pointer (some ⟨b1, 2, none⟩)))] (j := 3) (by kernel_rfl) (by kernel_rfl) ?_
  refine Ops.go (v := (i64 ((((⟨bs, 0, 0⟩ : Rdr).uint).2).why))) (by kernel_rfl) (Runs.load (t := 28) (a := ⟨b1, 2, none⟩) (by kernel_rfl) (H14.loads (by kernel_rfl))) (d := (some 17)) (by kernel_rfl) rfl ?_
  refine Ops.regs 1 [(0, (Value.slice B bs.length bc)), (2, (Value.slice none 0 0)), (3, (Value.slice none 0 0)), (4, (i64 0)), (5, (ptr b1)), (6, (Value.int IntKind.u64 ((((⟨bs, 0, 0⟩ : Rdr).uint).1 : Nat) : Int))), (18, (Value.bool (((((⟨bs, 0, 0⟩ : Rdr).uint).2).why) != 0)))] (j := 5) (by kernel_rfl) (by kernel_rfl) ?_
  refine Ops.done (by kernel_rfl) ?_
  refine q_cond (o := .tmp 18) (b := (((((⟨bs, 0, 0⟩ : Rdr).uint).2).why) != 0)) (by kernel_rfl) rfl (fun h18 => ?_) (fun h18 => ?_)
  · rw [h18]
    have p19 : ¬ ((((⟨bs, 0, 0⟩ : Rdr).uint).2).why = 0) := of_bne_t h18
    refine q_seq (by kernel_rfl) ?_
    refine q_draw (fun wz => Keeps none_ w12 wz) 7 (by kernel_rfl) (by kernel_rfl) (by kernel_rfl) (fun w20 K21 _ _ => ⟨K21, ?_⟩)
    replace K0 := K0.trans K21 (U := none_) (fun i h1 h2 => h2) (fun i h1 h2 => by exact h2)
    replace H14 := H14.keep K21 (fun h => h)
    replace F17 := RdO.keep0 F17 K21
    refine Dr.strong (S' := (fun wz => Keeps none_ w20 wz)) (Keeps.refl w20) (fun wz hx => K21.trans hx (fun i _ h => h) (fun _ _ h => h)) ?_
    clear K21
    refine Dr.takes (fuel' := 4) (is' := [2, 1, 0]) [0, 1, 2] [(0, (Value.slice B bs.length bc)), (2, (Value.slice none 0 0)), (3, (Value.slice none 0 0)), (4, (i64 0)), (5, (ptr b1)), (6, (Value.int IntKind.u64 ((((⟨bs, 0, 0⟩ : Rdr).uint).1 : Nat) : Int))), (21, (Value.pointer (some ⟨b1, 2, none⟩)))] (by kernel_rfl) rfl (by kernel_rfl) ?_
    refine Dr.take (i := 3) (v := (i64 ((((⟨bs, 0, 0⟩ : Rdr).uint).2).why))) (by kernel_rfl) (by kernel_rfl) (fun wz hS => Runs.load (t := 28) (a := ⟨b1, 2, none⟩) (by kernel_rfl) ((H14.keep hS (fun h => h)).loads (by kernel_rfl))) (d := (some 22)) (by kernel_rfl) rfl ?_
    refine Dr.takes (fuel' := 0) (is' := [6, 5, 4, 3, 2, 1, 0]) [4, 5, 6] [(0, (Value.slice B bs.length bc)), (2, (Value.slice none 0 0)), (3, (Value.slice none 0 0)), (4, (i64 ((((⟨bs, 0, 0⟩ : Rdr).uint).2).why))), (5, (ptr b1)), (6, (Value.int IntKind.u64 ((((⟨bs, 0, 0⟩ : Rdr).uint).1 : Nat) : Int)))] (by kernel_rfl) rfl (by kernel_rfl) ?_
    refine Dr.done (by kernel_rfl) ?_
    refine q_ret (by kernel_rfl) ?_
    refine ⟨(Value.tuple #[(Value.slice none 0 0), (Value.slice none 0 0), (i64 ((((⟨bs, 0, 0⟩ : Rdr).uint).2).why))]), retv_tmp3 rfl rfl rfl rfl, ?_⟩
    have e : firstB bs = ([], [], (((⟨bs, 0, 0⟩ : Rdr).uint).2).why) := by unfold firstB; first | (rw [if_pos (by omega), hfw]; done) | (rw [if_neg (by omega), if_pos (by omega)]; done) | (rw [if_neg (by omega), if_neg (by omega), if_pos (by omega)]; done)
    exact ⟨_, _, by rw [e], K0, by rw [e]; exact (fun W h => Rd.nil _ _), by rw [e]; exact (fun W h => Rd.nil _ _)⟩
  · rw [h18]
    have p22 : (((⟨bs, 0, 0⟩ : Rdr).uint).2).why = 0 := of_bne_f h18
    have hfp := (hfn (by omega)).2
    have hf1 := (hfn (by omega)).1
    refine q_skip (by kernel_rfl) ?_
    refine q_seq (by kernel_rfl) ?_
    refine q_seq (by kernel_rfl) ?_
    refine q_region (by kernel_rfl) ?_
    refine Ops.regs 2 [(0, (Value.slice B bs.length bc)), (2, (Value.slice none 0 0)), (3, (Value.slice none 0 0)), (4, (i64 0)), (5, (ptr b1)), (6, (Value.int IntKind.u64 ((((⟨bs, 0, 0⟩ : Rdr).uint).1 : Nat) : Int))), (24, (Value.bool (decide (((((⟨bs, 0, 0⟩ : Rdr).uint).1 : Nat) : Int) > 65536))))] (j := 2) (by kernel_rfl) (by kernel_rfl) ?_
    refine Ops.done (by kernel_rfl) ?_
    refine q_cond (o := .tmp 24) (b := (decide (((((⟨bs, 0, 0⟩ : Rdr).uint).1 : Nat) : Int) > 65536))) (by kernel_rfl) rfl (fun h23 => ?_) (fun h23 => ?_)
    · rw [h23]
      have p24 : ((((⟨bs, 0, 0⟩ : Rdr).uint).1 : Nat) : Int) > 65536 := of_decide_eq_true h23
      refine q_seq (by kernel_rfl) ?_
      refine q_region (by kernel_rfl) ?_
      refine Ops.regs 3 [(0, (Value.slice B bs.length bc)), (2, (Value.slice none 0 0)), (3, (Value.slice none 0 0)), (4, (i64 3)), (5, (ptr b1)), (6, (Value.int IntKind.u64 ((((⟨bs, 0, 0⟩ : Rdr).uint).1 : Nat) : Int)))] (j := 3) (by kernel_rfl) (by kernel_rfl) ?_
      refine Ops.done (by kernel_rfl) ?_
      refine q_ret (by kernel_rfl) ?_
      refine ⟨(Value.tuple #[(Value.slice none 0 0), (Value.slice none 0 0), (i64 3)]), retv_tmp3 rfl rfl rfl rfl, ?_⟩
      have e : firstB bs = ([], [], 3) := by unfold firstB; first | (rw [if_pos (by omega), hfw]; done) | (rw [if_neg (by omega), if_pos (by omega)]; done) | (rw [if_neg (by omega), if_neg (by omega), if_pos (by omega)]; done)
      exact ⟨_, _, by rw [e], K0, by rw [e]; exact (fun W h => Rd.nil _ _), by rw [e]; exact (fun W h => Rd.nil _ _)⟩
    · rw [h23]
      have p25 : ¬ (((((⟨bs, 0, 0⟩ : Rdr).uint).1 : Nat) : Int) > 65536) := of_decide_eq_false h23
      refine q_skip (by kernel_rfl) ?_
      refine q_seq (by kernel_rfl) ?_
      refine q_seq (by kernel_rfl) ?_
      refine q_region (by kernel_rfl) ?_
      refine Ops.regs 5 [(0, (Value.slice B bs.length bc)), (2, (Value.slice none 0 0)), (3, (Value.slice none 0 0)), (4, (i64 0)), (5, (ptr b1)), (6, (Value.int IntKind.u64 ((((⟨bs, 0, 0⟩ : Rdr).uint).1 : Nat) : Int))), (26, (i64 ((bs.length : Nat) : Int))), (29, (Value.pointer (some ⟨b1, 1, none⟩)))] (j := 5) (by kernel_rfl) (by kernel_rfl) ?_
      refine Ops.go (v := (i64 (((((⟨bs, 0, 0⟩ : Rdr).uint).2).pos : Nat) : Int))) (by kernel_rfl) (Runs.load (t := 3) (a := ⟨b1, 1, none⟩) (by kernel_rfl) (H14.loads (by kernel_rfl))) (d := (some 30)) (by kernel_rfl) rfl ?_
      refine Ops.regs 1 [(0, (Value.slice B bs.length bc)), (2, (Value.slice none 0 0)), (3, (Value.slice none 0 0)), (4, (i64 0)), (5, (ptr b1)), (6, (Value.int IntKind.u64 ((((⟨bs, 0, 0⟩ : Rdr).uint).1 : Nat) : Int))), (31, (i64 (IntKind.i64.wrap (((bs.length : Nat) : Int) - (((((⟨bs, 0, 0⟩ : Rdr).uint).2).pos : Nat) : Int)))))] (j := 7) (by kernel_rfl) (by kernel_rfl) ?_
      have e26 : IntKind.i64.wrap (((bs.length : Nat) : Int) - (((((⟨bs, 0, 0⟩ : Rdr).uint).2).pos : Nat) : Int)) = ((bs.length : Nat) : Int) - (((((⟨bs, 0, 0⟩ : Rdr).uint).2).pos : Nat) : Int) := wrap_i64 (by omega) (by omega)
      rw [e26]
      refine Ops.regs 2 [(0, (Value.slice B bs.length bc)), (2, (Value.slice none 0 0)), (3, (Value.slice none 0 0)), (4, (i64 0)), (5, (ptr b1)), (6, (Value.int IntKind.u64 ((((⟨bs, 0, 0⟩ : Rdr).uint).1 : Nat) : Int))), (33, (Value.bool (decide (((bs.length : Nat) : Int) - (((((⟨bs, 0, 0⟩ : Rdr).uint).2).pos : Nat) : Int) < 4))))] (j := 9) (by kernel_rfl) (by kernel_rfl) ?_
      refine Ops.split (decide (((bs.length : Nat) : Int) - (((((⟨bs, 0, 0⟩ : Rdr).uint).2).pos : Nat) : Int) < 4)) (fun h27 => ?_) (fun h27 => ?_)
      · rw [h27]
        have p28 : ((bs.length : Nat) : Int) - (((((⟨bs, 0, 0⟩ : Rdr).uint).2).pos : Nat) : Int) < 4 := of_decide_eq_true h27
        refine Ops.regs 12 [(0, (Value.slice B bs.length bc)), (2, (Value.slice none 0 0)), (3, (Value.slice none 0 0)), (4, (i64 0)), (5, (ptr b1)), (6, (Value.int IntKind.u64 ((((⟨bs, 0, 0⟩ : Rdr).uint).1 : Nat) : Int))), (45, (Value.bool true))] (j := 21) (by kernel_rfl) (by kernel_rfl) ?_
        refine Ops.done (by kernel_rfl) ?_
        refine q_then (o := .tmp 45) (by kernel_rfl) rfl ?_
        refine q_seq (by kernel_rfl) ?_
        refine q_region (by kernel_rfl) ?_
        refine Ops.regs 3 [(0, (Value.slice B bs.length bc)), (2, (Value.slice none 0 0)), (3, (Value.slice none 0 0)), (4, (i64 10)), (5, (ptr b1)), (6, (Value.int IntKind.u64 ((((⟨bs, 0, 0⟩ : Rdr).uint).1 : Nat) : Int)))] (j := 3) (by kernel_rfl) (by kernel_rfl) ?_
        refine Ops.done (by kernel_rfl) ?_
        refine q_ret (by kernel_rfl) ?_
        refine ⟨(Value.tuple #[(Value.slice none 0 0), (Value.slice none 0 0), (i64 10)]), retv_tmp3 rfl rfl rfl rfl, ?_⟩
        have e : firstB bs = ([], [], 10) := by unfold firstB; first | (rw [if_pos (by omega), hfw]; done) | (rw [if_neg (by omega), if_pos (by omega)]; done) | (rw [if_neg (by omega), if_neg (by omega), if_pos (by omega)]; done)
        exact ⟨_, _, by rw [e], K0, by rw [e]; exact (fun W h => Rd.nil _ _), by rw [e]; exact (fun W h => Rd.nil _ _)⟩
      · rw [h27]
        have p29 : ¬ (((bs.length : Nat) : Int) - (((((⟨bs, 0, 0⟩ : Rdr).uint).2).pos : Nat) : Int) < 4) := of_decide_eq_false h27
        refine Ops.regs 5 [(0, (Value.slice B bs.length bc)), (2, (Value.slice none 0 0)), (3, (Value.slice none 0 0)), (4, (i64 0)), (5, (ptr b1)), (6, (Value.int IntKind.u64 ((((⟨bs, 0, 0⟩ : Rdr).uint).1 : Nat) : Int))), (33, (Value.bool false)), (35, (i64 ((bs.length : Nat) : Int))), (38, (Value.pointer (some ⟨b1, 1, none⟩)))] (j := 14) (by kernel_rfl) (by kernel_rfl) ?_
        refine Ops.go (v := (i64 (((((⟨bs, 0, 0⟩ : Rdr).uint).2).pos : Nat) : Int))) (by kernel_rfl) (Runs.load (t := 3) (a := ⟨b1, 1, none⟩) (by kernel_rfl) (H14.loads (by kernel_rfl))) (d := (some 39)) (by kernel_rfl) rfl ?_
        refine Ops.regs 1 [(0, (Value.slice B bs.length bc)), (2, (Value.slice none 0 0)), (3, (Value.slice none 0 0)), (4, (i64 0)), (5, (ptr b1)), (6, (Value.int IntKind.u64 ((((⟨bs, 0, 0⟩ : Rdr).uint).1 : Nat) : Int))), (33, (Value.bool false)), (40, (i64 (IntKind.i64.wrap (((bs.length : Nat) : Int) - (((((⟨bs, 0, 0⟩ : Rdr).uint).2).pos : Nat) : Int)))))] (j := 16) (by kernel_rfl) (by kernel_rfl) ?_
        have e30 : IntKind.i64.wrap (((bs.length : Nat) : Int) - (((((⟨bs, 0, 0⟩ : Rdr).uint).2).pos : Nat) : Int)) = ((bs.length : Nat) : Int) - (((((⟨bs, 0, 0⟩ : Rdr).uint).2).pos : Nat) : Int) := wrap_i64 (by omega) (by omega)
        rw [e30]
        refine Ops.regs 1 [(0, (Value.slice B bs.length bc)), (2, (Value.slice none 0 0)), (3, (Value.slice none 0 0)), (4, (i64 0)), (5, (ptr b1)), (6, (Value.int IntKind.u64 ((((⟨bs, 0, 0⟩ : Rdr).uint).1 : Nat) : Int))), (33, (Value.bool false)), (41, (i64 (IntKind.i64.wrap ((((bs.length : Nat) : Int) - (((((⟨bs, 0, 0⟩ : Rdr).uint).2).pos : Nat) : Int)) - 4))))] (j := 17) (by kernel_rfl) (by kernel_rfl) ?_
        have e31 : IntKind.i64.wrap ((((bs.length : Nat) : Int) - (((((⟨bs, 0, 0⟩ : Rdr).uint).2).pos : Nat) : Int)) - 4) = (((bs.length : Nat) : Int) - (((((⟨bs, 0, 0⟩ : Rdr).uint).2).pos : Nat) : Int)) - 4 := wrap_i64 (by omega) (by omega)
        rw [e31]
        refine Ops.regs 1 [(0, (Value.slice B bs.length bc)), (2, (Value.slice none 0 0)), (3, (Value.slice none 0 0)), (4, (i64 0)), (5, (ptr b1)), (6, (Value.int IntKind.u64 ((((⟨bs, 0, 0⟩ : Rdr).uint).1 : Nat) : Int))), (33, (Value.bool false)), (42, (Value.int IntKind.u64 (IntKind.u64.wrap ((((bs.length : Nat) : Int) - (((((⟨bs, 0, 0⟩ : Rdr).uint).2).pos : Nat) : Int)) - 4))))] (j := 18) (by kernel_rfl) (by kernel_rfl) ?_
        have e32 : IntKind.u64.wrap ((((bs.length : Nat) : Int) - (((((⟨bs, 0, 0⟩ : Rdr).uint).2).pos : Nat) : Int)) - 4) = (((bs.length : Nat) : Int) - (((((⟨bs, 0, 0⟩ : Rdr).uint).2).pos : Nat) : Int)) - 4 := wrap_u64 (by omega) (by omega)
        rw [e32]
        refine Ops.regs 3 [(0, (Value.slice B bs.length bc)), (2, (Value.slice none 0 0)), (3, (Value.slice none 0 0)), (4, (i64 0)), (5, (ptr b1)), (6, (Value.int IntKind.u64 ((((⟨bs, 0, 0⟩ : Rdr).uint).1 : Nat) : Int))), (45, (Value.bool (decide ((((bs.length : Nat) : Int) - (((((⟨bs, 0, 0⟩ : Rdr).uint).2).pos : Nat) : Int)) - 4 < ((((⟨bs, 0, 0⟩ : Rdr).uint).1 : Nat) : Int)))))] (j := 21) (by kernel_rfl) (by kernel_rfl) ?_
        refine Ops.done (by kernel_rfl) ?_
        refine q_cond (o := .tmp 45) (b := (decide ((((bs.length : Nat) : Int) - (((((⟨bs, 0, 0⟩ : Rdr).uint).2).pos : Nat) : Int)) - 4 < ((((⟨bs, 0, 0⟩ : Rdr).uint).1 : Nat) : Int)))) (by kernel_rfl) rfl (fun h33 => ?_) (fun h33 => ?_)
        · rw [h33]
          have p34 : (((bs.length : Nat) : Int) - (((((⟨bs, 0, 0⟩ : Rdr).uint).2).pos : Nat) : Int)) - 4 < ((((⟨bs, 0, 0⟩ : Rdr).uint).1 : Nat) : Int) := of_decide_eq_true h33
          refine q_seq (by kernel_rfl) ?_
          refine q_region (by kernel_rfl) ?_
          refine Ops.regs 3 [(0, (Value.slice B bs.length bc)), (2, (Value.slice none 0 0)), (3, (Value.slice none 0 0)), (4, (i64 10)), (5, (ptr b1)), (6, (Value.int IntKind.u64 ((((⟨bs, 0, 0⟩ : Rdr).uint).1 : Nat) : Int)))] (j := 3) (by kernel_rfl) (by kernel_rfl) ?_
          refine Ops.done (by kernel_rfl) ?_
          refine q_ret (by kernel_rfl) ?_
          refine ⟨(Value.tuple #[(Value.slice none 0 0), (Value.slice none 0 0), (i64 10)]), retv_tmp3 rfl rfl rfl rfl, ?_⟩
          have e : firstB bs = ([], [], 10) := by unfold firstB; first | (rw [if_pos (by omega), hfw]; done) | (rw [if_neg (by omega), if_pos (by omega)]; done) | (rw [if_neg (by omega), if_neg (by omega), if_pos (by omega)]; done)
          exact ⟨_, _, by rw [e], K0, by rw [e]; exact (fun W h => Rd.nil _ _), by rw [e]; exact (fun W h => Rd.nil _ _)⟩
        · rw [h33]
          have p35 : ¬ ((((bs.length : Nat) : Int) - (((((⟨bs, 0, 0⟩ : Rdr).uint).2).pos : Nat) : Int)) - 4 < ((((⟨bs, 0, 0⟩ : Rdr).uint).1 : Nat) : Int)) := of_decide_eq_false h33
          refine q_skip (by kernel_rfl) ?_
          refine q_seq (by kernel_rfl) ?_
          refine q_draw (fun wz => Keeps none_ w12 wz) 12 (by kernel_rfl) (by kernel_rfl) (by kernel_rfl) (fun w36 K37 _ _ => ⟨K37, ?_⟩)
          replace K0 := K0.trans K37 (U := none_) (fun i h1 h2 => h2) (fun i h1 h2 => by exact h2)
          replace H14 := H14.keep K37 (fun h => h)
          replace F17 := RdO.keep0 F17 K37
          refine Dr.strong (S' := (fun wz => Keeps none_ w36 wz)) (Keeps.refl w36) (fun wz hx => K37.trans hx (fun i _ h => h) (fun _ _ h => h)) ?_
          clear K37
          refine Dr.takes (fuel' := 8) (is' := [3, 2, 1, 0]) [0, 1, 2, 3] [(0, (Value.slice B bs.length bc)), (2, (Value.slice none 0 0)), (3, (Value.slice none 0 0)), (4, (i64 0)), (5, (ptr b1)), (6, (Value.int IntKind.u64 ((((⟨bs, 0, 0⟩ : Rdr).uint).1 : Nat) : Int))), (46, (Value.slice B bs.length bc)), (49, (Value.pointer (some ⟨b1, 1, none⟩)))] (by kernel_rfl) rfl (by kernel_rfl) ?_
          refine Dr.take (i := 4) (v := (i64 (((((⟨bs, 0, 0⟩ : Rdr).uint).2).pos : Nat) : Int))) (by kernel_rfl) (by kernel_rfl) (fun wz hS => Runs.load (t := 3) (a := ⟨b1, 1, none⟩) (by kernel_rfl) ((H14.keep hS (fun h => h)).loads (by kernel_rfl))) (d := (some 50)) (by kernel_rfl) rfl ?_
          refine Dr.takes (fuel' := 4) (is' := [7, 6, 5, 4, 3, 2, 1, 0]) [5, 6, 7] [(0, (Value.slice B bs.length bc)), (2, (Value.slice none 0 0)), (3, (Value.slice none 0 0)), (4, (i64 0)), (5, (ptr b1)), (6, (Value.int IntKind.u64 ((((⟨bs, 0, 0⟩ : Rdr).uint).1 : Nat) : Int))), (46, (Value.slice B bs.length bc)), (50, (i64 (((((⟨bs, 0, 0⟩ : Rdr).uint).2).pos : Nat) : Int))), (53, (Value.pointer (some ⟨b1, 1, none⟩)))] (by kernel_rfl) rfl (by kernel_rfl) ?_
          refine Dr.take (i := 8) (v := (i64 (((((⟨bs, 0, 0⟩ : Rdr).uint).2).pos : Nat) : Int))) (by kernel_rfl) (by kernel_rfl) (fun wz hS => Runs.load (t := 3) (a := ⟨b1, 1, none⟩) (by kernel_rfl) ((H14.keep hS (fun h => h)).loads (by kernel_rfl))) (d := (some 54)) (by kernel_rfl) rfl ?_
          refine Dr.takes (fuel' := 2) (is' := [9, 8, 7, 6, 5, 4, 3, 2, 1, 0]) [9] [(0, (Value.slice B bs.length bc)), (2, (Value.slice none 0 0)), (3, (Value.slice none 0 0)), (4, (i64 0)), (5, (ptr b1)), (6, (Value.int IntKind.u64 ((((⟨bs, 0, 0⟩ : Rdr).uint).1 : Nat) : Int))), (46, (Value.slice B bs.length bc)), (50, (i64 (((((⟨bs, 0, 0⟩ : Rdr).uint).2).pos : Nat) : Int))), (55, (i64 (IntKind.i64.wrap ((((((⟨bs, 0, 0⟩ : Rdr).uint).2).pos : Nat) : Int) + 4))))] (by kernel_rfl) rfl (by kernel_rfl) ?_
          have e38 : IntKind.i64.wrap ((((((⟨bs, 0, 0⟩ : Rdr).uint).2).pos : Nat) : Int) + 4) = ((((((⟨bs, 0, 0⟩ : Rdr).uint).2).pos) + 4 : Nat) : Int) := by rw [wrap_i64 (by omega) (by omega)]; omega
          rw [e38]
          clear e38
          have hslF39 := RdB.slice (hB.keep0 (by omega) K0)
          have F39 := RdB.cutlh (hB.keep0 (by omega) K0) ((((⟨bs, 0, 0⟩ : Rdr).uint).2).pos) (((((⟨bs, 0, 0⟩ : Rdr).uint).2).pos) + 4) (by omega) (by omega)
          have hlF39 : ((bs.drop ((((⟨bs, 0, 0⟩ : Rdr).uint).2).pos)).take ((((((⟨bs, 0, 0⟩ : Rdr).uint).2).pos) + 4) - ((((⟨bs, 0, 0⟩ : Rdr).uint).2).pos))).length = (((((⟨bs, 0, 0⟩ : Rdr).uint).2).pos) + 4) - ((((⟨bs, 0, 0⟩ : Rdr).uint).2).pos) := by rw [List.length_take, List.length_drop]; omega
          refine Dr.take (i := 10) (v := (Value.slice (if bc = (((⟨bs, 0, 0⟩ : Rdr).uint).2).pos then B else Option.map (fun q => Addr.add q (((((⟨bs, 0, 0⟩ : Rdr).uint).2).pos) * 1)) B) ((((((⟨bs, 0, 0⟩ : Rdr).uint).2).pos) + 4) - ((((⟨bs, 0, 0⟩ : Rdr).uint).2).pos)) (bc - ((((⟨bs, 0, 0⟩ : Rdr).uint).2).pos)))) (by kernel_rfl) (by kernel_rfl) (fun wz hS => Runs.slice (by kernel_rfl) (run_cut (sz := 1) (t := 23) (A := B) (n := bs.length) (c := bc) ((((⟨bs, 0, 0⟩ : Rdr).uint).2).pos) (((((⟨bs, 0, 0⟩ : Rdr).uint).2).pos) + 4) bc (lo := some (i64 (((((⟨bs, 0, 0⟩ : Rdr).uint).2).pos : Nat) : Int))) (hi := some (i64 ((((((⟨bs, 0, 0⟩ : Rdr).uint).2).pos) + 4 : Nat) : Int))) (mx := none) tyB.slice (by kernel_rfl) (.inr ⟨_, rfl⟩) (.inr ⟨_, rfl⟩) (.inl ⟨rfl, rfl⟩) (by omega) (by omega) (by omega))) (d := (some 56)) (by kernel_rfl) rfl ?_
          refine Dr.takes (fuel' := 0) (is' := [11, 10, 9, 8, 7, 6, 5, 4, 3, 2, 1, 0]) [11] [(0, (Value.slice B bs.length bc)), (2, (Value.slice none 0 0)), (3, (Value.slice none 0 0)), (4, (i64 0)), (5, (ptr b1)), (6, (Value.int IntKind.u64 ((((⟨bs, 0, 0⟩ : Rdr).uint).1 : Nat) : Int))), (7, (Value.slice (if bc = (((⟨bs, 0, 0⟩ : Rdr).uint).2).pos then B else Option.map (fun q => Addr.add q (((((⟨bs, 0, 0⟩ : Rdr).uint).2).pos) * 1)) B) ((((((⟨bs, 0, 0⟩ : Rdr).uint).2).pos) + 4) - ((((⟨bs, 0, 0⟩ : Rdr).uint).2).pos)) (bc - ((((⟨bs, 0, 0⟩ : Rdr).uint).2).pos))))] (by kernel_rfl) rfl (by kernel_rfl) ?_
          refine Dr.done (by kernel_rfl) ?_
          refine q_seq (by kernel_rfl) ?_
          refine q_draw (fun wz => Keeps none_ w36 wz) 16 (by kernel_rfl) (by kernel_rfl) (by kernel_rfl) (fun w40 K41 _ _ => ⟨K41, ?_⟩)
          replace K0 := K0.trans K41 (U := none_) (fun i h1 h2 => h2) (fun i h1 h2 => by exact h2)
          replace H14 := H14.keep K41 (fun h => h)
          replace F17 := RdO.keep0 F17 K41
          replace F39 := (Rd.keep0 (by omega) F39 K41)
          refine Dr.strong (S' := (fun wz => Keeps none_ w40 wz)) (Keeps.refl w40) (fun wz hx => K41.trans hx (fun i _ h => h) (fun _ _ h => h)) ?_
          clear K41
          refine Dr.takes (fuel' := 12) (is' := [3, 2, 1, 0]) [0, 1, 2, 3] [(0, (Value.slice B bs.length bc)), (2, (Value.slice none 0 0)), (3, (Value.slice none 0 0)), (4, (i64 0)), (5, (ptr b1)), (6, (Value.int IntKind.u64 ((((⟨bs, 0, 0⟩ : Rdr).uint).1 : Nat) : Int))), (7, (Value.slice (if bc = (((⟨bs, 0, 0⟩ : Rdr).uint).2).pos then B else Option.map (fun q => Addr.add q (((((⟨bs, 0, 0⟩ : Rdr).uint).2).pos) * 1)) B) ((((((⟨bs, 0, 0⟩ : Rdr).uint).2).pos) + 4) - ((((⟨bs, 0, 0⟩ : Rdr).uint).2).pos)) (bc - ((((⟨bs, 0, 0⟩ : Rdr).uint).2).pos)))), (57, (Value.slice B bs.length bc)), (60, (Value.pointer (some ⟨b1, 1, none⟩)))] (by kernel_rfl) rfl (by kernel_rfl) ?_
          refine Dr.take (i := 4) (v := (i64 (((((⟨bs, 0, 0⟩ : Rdr).uint).2).pos : Nat) : Int))) (by kernel_rfl) (by kernel_rfl) (fun wz hS => Runs.load (t := 3) (a := ⟨b1, 1, none⟩) (by kernel_rfl) ((H14.keep hS (fun h => h)).loads (by kernel_rfl))) (d := (some 61)) (by kernel_rfl) rfl ?_
          refine Dr.takes (fuel' := 10) (is' := [5, 4, 3, 2, 1, 0]) [5] [(0, (Value.slice B bs.length bc)), (2, (Value.slice none 0 0)), (3, (Value.slice none 0 0)), (4, (i64 0)), (5, (ptr b1)), (6, (Value.int IntKind.u64 ((((⟨bs, 0, 0⟩ : Rdr).uint).1 : Nat) : Int))), (7, (Value.slice (if bc = (((⟨bs, 0, 0⟩ : Rdr).uint).2).pos then B else Option.map (fun q => Addr.add q (((((⟨bs, 0, 0⟩ : Rdr).uint).2).pos) * 1)) B) ((((((⟨bs, 0, 0⟩ : Rdr).uint).2).pos) + 4) - ((((⟨bs, 0, 0⟩ : Rdr).uint).2).pos)) (bc - ((((⟨bs, 0, 0⟩ : Rdr).uint).2).pos)))), (57, (Value.slice B bs.length bc)), (62, (i64 (IntKind.i64.wrap ((((((⟨bs, 0, 0⟩ : Rdr).uint).2).pos : Nat) : Int) + 4))))] (by kernel_rfl) rfl (by kernel_rfl) ?_
          have e42 : IntKind.i64.wrap ((((((⟨bs, 0, 0⟩ : Rdr).uint).2).pos : Nat) : Int) + 4) = ((((((⟨bs, 0, 0⟩ : Rdr).uint).2).pos) + 4 : Nat) : Int) := by rw [wrap_i64 (by omega) (by omega)]; omega
          rw [e42]
          clear e42
          refine Dr.takes (fuel' := 7) (is' := [8, 7, 6, 5, 4, 3, 2, 1, 0]) [6, 7, 8] [(0, (Value.slice B bs.length bc)), (2, (Value.slice none 0 0)), (3, (Value.slice none 0 0)), (4, (i64 0)), (5, (ptr b1)), (6, (Value.int IntKind.u64 ((((⟨bs, 0, 0⟩ : Rdr).uint).1 : Nat) : Int))), (7, (Value.slice (if bc = (((⟨bs, 0, 0⟩ : Rdr).uint).2).pos then B else Option.map (fun q => Addr.add q (((((⟨bs, 0, 0⟩ : Rdr).uint).2).pos) * 1)) B) ((((((⟨bs, 0, 0⟩ : Rdr).uint).2).pos) + 4) - ((((⟨bs, 0, 0⟩ : Rdr).uint).2).pos)) (bc - ((((⟨bs, 0, 0⟩ : Rdr).uint).2).pos)))), (57, (Value.slice B bs.length bc)), (62, (i64 ((((((⟨bs, 0, 0⟩ : Rdr).uint).2).pos) + 4 : Nat) : Int))), (65, (Value.pointer (some ⟨b1, 1, none⟩)))] (by kernel_rfl) rfl (by kernel_rfl) ?_
          refine Dr.take (i := 9) (v := (i64 (((((⟨bs, 0, 0⟩ : Rdr).uint).2).pos : Nat) : Int))) (by kernel_rfl) (by kernel_rfl) (fun wz hS => Runs.load (t := 3) (a := ⟨b1, 1, none⟩) (by kernel_rfl) ((H14.keep hS (fun h => h)).loads (by kernel_rfl))) (d := (some 66)) (by kernel_rfl) rfl ?_
          refine Dr.takes (fuel' := 5) (is' := [10, 9, 8, 7, 6, 5, 4, 3, 2, 1, 0]) [10] [(0, (Value.slice B bs.length bc)), (2, (Value.slice none 0 0)), (3, (Value.slice none 0 0)), (4, (i64 0)), (5, (ptr b1)), (6, (Value.int IntKind.u64 ((((⟨bs, 0, 0⟩ : Rdr).uint).1 : Nat) : Int))), (7, (Value.slice (if bc = (((⟨bs, 0, 0⟩ : Rdr).uint).2).pos then B else Option.map (fun q => Addr.add q (((((⟨bs, 0, 0⟩ : Rdr).uint).2).pos) * 1)) B) ((((((⟨bs, 0, 0⟩ : Rdr).uint).2).pos) + 4) - ((((⟨bs, 0, 0⟩ : Rdr).uint).2).pos)) (bc - ((((⟨bs, 0, 0⟩ : Rdr).uint).2).pos)))), (57, (Value.slice B bs.length bc)), (62, (i64 ((((((⟨bs, 0, 0⟩ : Rdr).uint).2).pos) + 4 : Nat) : Int))), (67, (i64 (IntKind.i64.wrap ((((((⟨bs, 0, 0⟩ : Rdr).uint).2).pos : Nat) : Int) + 4))))] (by kernel_rfl) rfl (by kernel_rfl) ?_
          have e43 : IntKind.i64.wrap ((((((⟨bs, 0, 0⟩ : Rdr).uint).2).pos : Nat) : Int) + 4) = ((((((⟨bs, 0, 0⟩ : Rdr).uint).2).pos) + 4 : Nat) : Int) := by rw [wrap_i64 (by omega) (by omega)]; omega
          rw [e43]
          clear e43
          refine Dr.takes (fuel' := 3) (is' := [12, 11, 10, 9, 8, 7, 6, 5, 4, 3, 2, 1, 0]) [11, 12] [(0, (Value.slice B bs.length bc)), (2, (Value.slice none 0 0)), (3, (Value.slice none 0 0)), (4, (i64 0)), (5, (ptr b1)), (6, (Value.int IntKind.u64 ((((⟨bs, 0, 0⟩ : Rdr).uint).1 : Nat) : Int))), (7, (Value.slice (if bc = (((⟨bs, 0, 0⟩ : Rdr).uint).2).pos then B else Option.map (fun q => Addr.add q (((((⟨bs, 0, 0⟩ : Rdr).uint).2).pos) * 1)) B) ((((((⟨bs, 0, 0⟩ : Rdr).uint).2).pos) + 4) - ((((⟨bs, 0, 0⟩ : Rdr).uint).2).pos)) (bc - ((((⟨bs, 0, 0⟩ : Rdr).uint).2).pos)))), (57, (Value.slice B bs.length bc)), (62, (i64 ((((((⟨bs, 0, 0⟩ : Rdr).uint).2).pos) + 4 : Nat) : Int))), (67, (i64 ((((((⟨bs, 0, 0⟩ : Rdr).uint).2).pos) + 4 : Nat) : Int))), (69, (i64 (IntKind.i64.wrap (((((⟨bs, 0, 0⟩ : Rdr).uint).1 : Nat) : Int)))))] (by kernel_rfl) rfl (by kernel_rfl) ?_
          have e44 : IntKind.i64.wrap (((((⟨bs, 0, 0⟩ : Rdr).uint).1 : Nat) : Int)) = ((((⟨bs, 0, 0⟩ : Rdr).uint).1 : Nat) : Int) := wrap_i64 (by omega) (by omega)
          rw [e44]
          refine Dr.takes (fuel' := 2) (is' := [13, 12, 11, 10, 9, 8, 7, 6, 5, 4, 3, 2, 1, 0]) [13] [(0, (Value.slice B bs.length bc)), (2, (Value.slice none 0 0)), (3, (Value.slice none 0 0)), (4, (i64 0)), (5, (ptr b1)), (6, (Value.int IntKind.u64 ((((⟨bs, 0, 0⟩ : Rdr).uint).1 : Nat) : Int))), (7, (Value.slice (if bc = (((⟨bs, 0, 0⟩ : Rdr).uint).2).pos then B else Option.map (fun q => Addr.add q (((((⟨bs, 0, 0⟩ : Rdr).uint).2).pos) * 1)) B) ((((((⟨bs, 0, 0⟩ : Rdr).uint).2).pos) + 4) - ((((⟨bs, 0, 0⟩ : Rdr).uint).2).pos)) (bc - ((((⟨bs, 0, 0⟩ : Rdr).uint).2).pos)))), (57, (Value.slice B bs.length bc)), (62, (i64 ((((((⟨bs, 0, 0⟩ : Rdr).uint).2).pos) + 4 : Nat) : Int))), (70, (i64 (IntKind.i64.wrap (((((((⟨bs, 0, 0⟩ : Rdr).uint).2).pos) + 4 : Nat) : Int) + ((((⟨bs, 0, 0⟩ : Rdr).uint).1 : Nat) : Int)))))] (by kernel_rfl) rfl (by kernel_rfl) ?_
          have e45 : IntKind.i64.wrap (((((((⟨bs, 0, 0⟩ : Rdr).uint).2).pos) + 4 : Nat) : Int) + ((((⟨bs, 0, 0⟩ : Rdr).uint).1 : Nat) : Int)) = (((((((⟨bs, 0, 0⟩ : Rdr).uint).2).pos) + 4) + (((⟨bs, 0, 0⟩ : Rdr).uint).1) : Nat) : Int) := by rw [wrap_i64 (by omega) (by omega)]; omega
          rw [e45]
          clear e45
          have hslF46 := RdB.slice (hB.keep0 (by omega) K0)
          have F46 := RdB.cutlh (hB.keep0 (by omega) K0) (((((⟨bs, 0, 0⟩ : Rdr).uint).2).pos) + 4) ((((((⟨bs, 0, 0⟩ : Rdr).uint).2).pos) + 4) + (((⟨bs, 0, 0⟩ : Rdr).uint).1)) (by omega) (by omega)
          have hlF46 : ((bs.drop (((((⟨bs, 0, 0⟩ : Rdr).uint).2).pos) + 4)).take (((((((⟨bs, 0, 0⟩ : Rdr).uint).2).pos) + 4) + (((⟨bs, 0, 0⟩ : Rdr).uint).1)) - (((((⟨bs, 0, 0⟩ : Rdr).uint).2).pos) + 4))).length = ((((((⟨bs, 0, 0⟩ : Rdr).uint).2).pos) + 4) + (((⟨bs, 0, 0⟩ : Rdr).uint).1)) - (((((⟨bs, 0, 0⟩ : Rdr).uint).2).pos) + 4) := by rw [List.length_take, List.length_drop]; omega
          refine Dr.take (i := 14) (v := (Value.slice (if bc = ((((⟨bs, 0, 0⟩ : Rdr).uint).2).pos) + 4 then B else Option.map (fun q => Addr.add q ((((((⟨bs, 0, 0⟩ : Rdr).uint).2).pos) + 4) * 1)) B) (((((((⟨bs, 0, 0⟩ : Rdr).uint).2).pos) + 4) + (((⟨bs, 0, 0⟩ : Rdr).uint).1)) - (((((⟨bs, 0, 0⟩ : Rdr).uint).2).pos) + 4)) (bc - (((((⟨bs, 0, 0⟩ : Rdr).uint).2).pos) + 4)))) (by kernel_rfl) (by kernel_rfl) (fun wz hS => Runs.slice (by kernel_rfl) (run_cut (sz := 1) (t := 23) (A := B) (n := bs.length) (c := bc) (((((⟨bs, 0, 0⟩ : Rdr).uint).2).pos) + 4) ((((((⟨bs, 0, 0⟩ : Rdr).uint).2).pos) + 4) + (((⟨bs, 0, 0⟩ : Rdr).uint).1)) bc (lo := some (i64 ((((((⟨bs, 0, 0⟩ : Rdr).uint).2).pos) + 4 : Nat) : Int))) (hi := some (i64 (((((((⟨bs, 0, 0⟩ : Rdr).uint).2).pos) + 4) + (((⟨bs, 0, 0⟩ : Rdr).uint).1) : Nat) : Int))) (mx := none) tyB.slice (by kernel_rfl) (.inr ⟨_, rfl⟩) (.inr ⟨_, rfl⟩) (.inl ⟨rfl, rfl⟩) (by omega) (by omega) (by omega))) (d := (some 71)) (by kernel_rfl) rfl ?_
          refine Dr.takes (fuel' := 0) (is' := [15, 14, 13, 12, 11, 10, 9, 8, 7, 6, 5, 4, 3, 2, 1, 0]) [15] [(0, (Value.slice B bs.length bc)), (2, (Value.slice none 0 0)), (3, (Value.slice none 0 0)), (4, (i64 0)), (5, (ptr b1)), (6, (Value.int IntKind.u64 ((((⟨bs, 0, 0⟩ : Rdr).uint).1 : Nat) : Int))), (7, (Value.slice (if bc = (((⟨bs, 0, 0⟩ : Rdr).uint).2).pos then B else Option.map (fun q => Addr.add q (((((⟨bs, 0, 0⟩ : Rdr).uint).2).pos) * 1)) B) ((((((⟨bs, 0, 0⟩ : Rdr).uint).2).pos) + 4) - ((((⟨bs, 0, 0⟩ : Rdr).uint).2).pos)) (bc - ((((⟨bs, 0, 0⟩ : Rdr).uint).2).pos)))), (8, (Value.slice (if bc = ((((⟨bs, 0, 0⟩ : Rdr).uint).2).pos) + 4 then B else Option.map (fun q => Addr.add q ((((((⟨bs, 0, 0⟩ : Rdr).uint).2).pos) + 4) * 1)) B) (((((((⟨bs, 0, 0⟩ : Rdr).uint).2).pos) + 4) + (((⟨bs, 0, 0⟩ : Rdr).uint).1)) - (((((⟨bs, 0, 0⟩ : Rdr).uint).2).pos) + 4)) (bc - (((((⟨bs, 0, 0⟩ : Rdr).uint).2).pos) + 4))))] (by kernel_rfl) rfl (by kernel_rfl) ?_
          refine Dr.done (by kernel_rfl) ?_
          refine q_seq (by kernel_rfl) ?_
          refine q_region (by kernel_rfl) ?_
          refine Ops.regs 4 [(2, (Value.slice none 0 0)), (3, (Value.slice none 0 0)), (4, (i64 0)), (6, (Value.int IntKind.u64 ((((⟨bs, 0, 0⟩ : Rdr).uint).1 : Nat) : Int))), (7, (Value.slice (if bc = (((⟨bs, 0, 0⟩ : Rdr).uint).2).pos then B else Option.map (fun q => Addr.add q (((((⟨bs, 0, 0⟩ : Rdr).uint).2).pos) * 1)) B) ((((((⟨bs, 0, 0⟩ : Rdr).uint).2).pos) + 4) - ((((⟨bs, 0, 0⟩ : Rdr).uint).2).pos)) (bc - ((((⟨bs, 0, 0⟩ : Rdr).uint).2).pos)))), (8, (Value.slice (if bc = ((((⟨bs, 0, 0⟩ : Rdr).uint).2).pos) + 4 then B else Option.map (fun q => Addr.add q ((((((⟨bs, 0, 0⟩ : Rdr).uint).2).pos) + 4) * 1)) B) (((((((⟨bs, 0, 0⟩ : Rdr).uint).2).pos) + 4) + (((⟨bs, 0, 0⟩ : Rdr).uint).1)) - (((((⟨bs, 0, 0⟩ : Rdr).uint).2).pos) + 4)) (bc - (((((⟨bs, 0, 0⟩ : Rdr).uint).2).pos) + 4)))), (72, (Value.slice B bs.length bc)), (75, (Value.pointer (some ⟨b1, 1, none⟩)))] (j := 4) (by kernel_rfl) (by kernel_rfl) ?_
          refine Ops.go (v := (i64 (((((⟨bs, 0, 0⟩ : Rdr).uint).2).pos : Nat) : Int))) (by kernel_rfl) (Runs.load (t := 3) (a := ⟨b1, 1, none⟩) (by kernel_rfl) (H14.loads (by kernel_rfl))) (d := (some 76)) (by kernel_rfl) rfl ?_
          refine Ops.regs 1 [(2, (Value.slice none 0 0)), (3, (Value.slice none 0 0)), (4, (i64 0)), (6, (Value.int IntKind.u64 ((((⟨bs, 0, 0⟩ : Rdr).uint).1 : Nat) : Int))), (7, (Value.slice (if bc = (((⟨bs, 0, 0⟩ : Rdr).uint).2).pos then B else Option.map (fun q => Addr.add q (((((⟨bs, 0, 0⟩ : Rdr).uint).2).pos) * 1)) B) ((((((⟨bs, 0, 0⟩ : Rdr).uint).2).pos) + 4) - ((((⟨bs, 0, 0⟩ : Rdr).uint).2).pos)) (bc - ((((⟨bs, 0, 0⟩ : Rdr).uint).2).pos)))), (8, (Value.slice (if bc = ((((⟨bs, 0, 0⟩ : Rdr).uint).2).pos) + 4 then B else Option.map (fun q => Addr.add q ((((((⟨bs, 0, 0⟩ : Rdr).uint).2).pos) + 4) * 1)) B) (((((((⟨bs, 0, 0⟩ : Rdr).uint).2).pos) + 4) + (((⟨bs, 0, 0⟩ : Rdr).uint).1)) - (((((⟨bs, 0, 0⟩ : Rdr).uint).2).pos) + 4)) (bc - (((((⟨bs, 0, 0⟩ : Rdr).uint).2).pos) + 4)))), (72, (Value.slice B bs.length bc)), (77, (i64 (IntKind.i64.wrap ((((((⟨bs, 0, 0⟩ : Rdr).uint).2).pos : Nat) : Int) + 4))))] (j := 6) (by kernel_rfl) (by kernel_rfl) ?_
          have e47 : IntKind.i64.wrap ((((((⟨bs, 0, 0⟩ : Rdr).uint).2).pos : Nat) : Int) + 4) = ((((((⟨bs, 0, 0⟩ : Rdr).uint).2).pos) + 4 : Nat) : Int) := by rw [wrap_i64 (by omega) (by omega)]; omega
          rw [e47]
          clear e47
          refine Ops.regs 2 [(2, (Value.slice none 0 0)), (3, (Value.slice none 0 0)), (4, (i64 0)), (7, (Value.slice (if bc = (((⟨bs, 0, 0⟩ : Rdr).uint).2).pos then B else Option.map (fun q => Addr.add q (((((⟨bs, 0, 0⟩ : Rdr).uint).2).pos) * 1)) B) ((((((⟨bs, 0, 0⟩ : Rdr).uint).2).pos) + 4) - ((((⟨bs, 0, 0⟩ : Rdr).uint).2).pos)) (bc - ((((⟨bs, 0, 0⟩ : Rdr).uint).2).pos)))), (8, (Value.slice (if bc = ((((⟨bs, 0, 0⟩ : Rdr).uint).2).pos) + 4 then B else Option.map (fun q => Addr.add q ((((((⟨bs, 0, 0⟩ : Rdr).uint).2).pos) + 4) * 1)) B) (((((((⟨bs, 0, 0⟩ : Rdr).uint).2).pos) + 4) + (((⟨bs, 0, 0⟩ : Rdr).uint).1)) - (((((⟨bs, 0, 0⟩ : Rdr).uint).2).pos) + 4)) (bc - (((((⟨bs, 0, 0⟩ : Rdr).uint).2).pos) + 4)))), (72, (Value.slice B bs.length bc)), (77, (i64 ((((((⟨bs, 0, 0⟩ : Rdr).uint).2).pos) + 4 : Nat) : Int))), (79, (i64 (IntKind.i64.wrap (((((⟨bs, 0, 0⟩ : Rdr).uint).1 : Nat) : Int)))))] (j := 8) (by kernel_rfl) (by kernel_rfl) ?_
          have e48 : IntKind.i64.wrap (((((⟨bs, 0, 0⟩ : Rdr).uint).1 : Nat) : Int)) = ((((⟨bs, 0, 0⟩ : Rdr).uint).1 : Nat) : Int) := wrap_i64 (by omega) (by omega)
          rw [e48]
          refine Ops.regs 1 [(2, (Value.slice none 0 0)), (3, (Value.slice none 0 0)), (4, (i64 0)), (7, (Value.slice (if bc = (((⟨bs, 0, 0⟩ : Rdr).uint).2).pos then B else Option.map (fun q => Addr.add q (((((⟨bs, 0, 0⟩ : Rdr).uint).2).pos) * 1)) B) ((((((⟨bs, 0, 0⟩ : Rdr).uint).2).pos) + 4) - ((((⟨bs, 0, 0⟩ : Rdr).uint).2).pos)) (bc - ((((⟨bs, 0, 0⟩ : Rdr).uint).2).pos)))), (8, (Value.slice (if bc = ((((⟨bs, 0, 0⟩ : Rdr).uint).2).pos) + 4 then B else Option.map (fun q => Addr.add q ((((((⟨bs, 0, 0⟩ : Rdr).uint).2).pos) + 4) * 1)) B) (((((((⟨bs, 0, 0⟩ : Rdr).uint).2).pos) + 4) + (((⟨bs, 0, 0⟩ : Rdr).uint).1)) - (((((⟨bs, 0, 0⟩ : Rdr).uint).2).pos) + 4)) (bc - (((((⟨bs, 0, 0⟩ : Rdr).uint).2).pos) + 4)))), (72, (Value.slice B bs.length bc)), (80, (i64 (IntKind.i64.wrap (((((((⟨bs, 0, 0⟩ : Rdr).uint).2).pos) + 4 : Nat) : Int) + ((((⟨bs, 0, 0⟩ : Rdr).uint).1 : Nat) : Int)))))] (j := 9) (by kernel_rfl) (by kernel_rfl) ?_
          have e49 : IntKind.i64.wrap (((((((⟨bs, 0, 0⟩ : Rdr).uint).2).pos) + 4 : Nat) : Int) + ((((⟨bs, 0, 0⟩ : Rdr).uint).1 : Nat) : Int)) = (((((((⟨bs, 0, 0⟩ : Rdr).uint).2).pos) + 4) + (((⟨bs, 0, 0⟩ : Rdr).uint).1) : Nat) : Int) := by rw [wrap_i64 (by omega) (by omega)]; omega
          rw [e49]
          clear e49
          refine Ops.go (v := (Value.slice (if bc = (((((⟨bs, 0, 0⟩ : Rdr).uint).2).pos) + 4) + (((⟨bs, 0, 0⟩ : Rdr).uint).1) then B else Option.map (fun q => Addr.add q (((((((⟨bs, 0, 0⟩ : Rdr).uint).2).pos) + 4) + (((⟨bs, 0, 0⟩ : Rdr).uint).1)) * 1)) B) (bs.length - ((((((⟨bs, 0, 0⟩ : Rdr).uint).2).pos) + 4) + (((⟨bs, 0, 0⟩ : Rdr).uint).1))) (bc - ((((((⟨bs, 0, 0⟩ : Rdr).uint).2).pos) + 4) + (((⟨bs, 0, 0⟩ : Rdr).uint).1))))) (by kernel_rfl) (Runs.slice (by kernel_rfl) (run_cut (sz := 1) (t := 23) (A := B) (n := bs.length) (c := bc) ((((((⟨bs, 0, 0⟩ : Rdr).uint).2).pos) + 4) + (((⟨bs, 0, 0⟩ : Rdr).uint).1)) bs.length bc (lo := some (i64 (((((((⟨bs, 0, 0⟩ : Rdr).uint).2).pos) + 4) + (((⟨bs, 0, 0⟩ : Rdr).uint).1) : Nat) : Int))) (hi := none) (mx := none) tyB.slice (by kernel_rfl) (.inr ⟨_, rfl⟩) (.inl ⟨rfl, rfl, rfl⟩) (.inl ⟨rfl, rfl⟩) (by omega) (by omega) (by omega))) (d := (some 81)) (by kernel_rfl) rfl ?_
          refine Ops.regs 1 [(2, (Value.slice none 0 0)), (3, (Value.slice none 0 0)), (4, (i64 0)), (7, (Value.slice (if bc = (((⟨bs, 0, 0⟩ : Rdr).uint).2).pos then B else Option.map (fun q => Addr.add q (((((⟨bs, 0, 0⟩ : Rdr).uint).2).pos) * 1)) B) ((((((⟨bs, 0, 0⟩ : Rdr).uint).2).pos) + 4) - ((((⟨bs, 0, 0⟩ : Rdr).uint).2).pos)) (bc - ((((⟨bs, 0, 0⟩ : Rdr).uint).2).pos)))), (8, (Value.slice (if bc = ((((⟨bs, 0, 0⟩ : Rdr).uint).2).pos) + 4 then B else Option.map (fun q => Addr.add q ((((((⟨bs, 0, 0⟩ : Rdr).uint).2).pos) + 4) * 1)) B) (((((((⟨bs, 0, 0⟩ : Rdr).uint).2).pos) + 4) + (((⟨bs, 0, 0⟩ : Rdr).uint).1)) - (((((⟨bs, 0, 0⟩ : Rdr).uint).2).pos) + 4)) (bc - (((((⟨bs, 0, 0⟩ : Rdr).uint).2).pos) + 4)))), (9, (Value.slice (if bc = (((((⟨bs, 0, 0⟩ : Rdr).uint).2).pos) + 4) + (((⟨bs, 0, 0⟩ : Rdr).uint).1) then B else Option.map (fun q => Addr.add q (((((((⟨bs, 0, 0⟩ : Rdr).uint).2).pos) + 4) + (((⟨bs, 0, 0⟩ : Rdr).uint).1)) * 1)) B) (bs.length - ((((((⟨bs, 0, 0⟩ : Rdr).uint).2).pos) + 4) + (((⟨bs, 0, 0⟩ : Rdr).uint).1))) (bc - ((((((⟨bs, 0, 0⟩ : Rdr).uint).2).pos) + 4) + (((⟨bs, 0, 0⟩ : Rdr).uint).1)))))] (j := 11) (by kernel_rfl) (by kernel_rfl) ?_
          refine Ops.done (by kernel_rfl) ?_
          refine q_seq (by kernel_rfl) ?_
          refine q_seq (by kernel_rfl) ?_
          refine q_draw (fun wz => Keeps none_ w40 wz) 7 (by kernel_rfl) (by kernel_rfl) (by kernel_rfl) (fun w50 K51 _ _ => ⟨K51, ?_⟩)
          replace K0 := K0.trans K51 (U := none_) (fun i h1 h2 => h2) (fun i h1 h2 => by exact h2)
          replace H14 := H14.keep K51 (fun h => h)
          replace F17 := RdO.keep0 F17 K51
          replace F39 := (Rd.keep0 (by omega) F39 K51)
          replace F46 := (Rd.keep0 (by omega) F46 K51)
          refine Dr.strong (S' := (fun wz => Keeps none_ w50 wz)) (Keeps.refl w50) (fun wz hx => K51.trans hx (fun i _ h => h) (fun _ _ h => h)) ?_
          clear K51
          refine Dr.takes (fuel' := 6) (is' := [0]) [0] [(2, (Value.slice none 0 0)), (3, (Value.slice none 0 0)), (4, (i64 0)), (8, (Value.slice (if bc = ((((⟨bs, 0, 0⟩ : Rdr).uint).2).pos) + 4 then B else Option.map (fun q => Addr.add q ((((((⟨bs, 0, 0⟩ : Rdr).uint).2).pos) + 4) * 1)) B) (((((((⟨bs, 0, 0⟩ : Rdr).uint).2).pos) + 4) + (((⟨bs, 0, 0⟩ : Rdr).uint).1)) - (((((⟨bs, 0, 0⟩ : Rdr).uint).2).pos) + 4)) (bc - (((((⟨bs, 0, 0⟩ : Rdr).uint).2).pos) + 4)))), (9, (Value.slice (if bc = (((((⟨bs, 0, 0⟩ : Rdr).uint).2).pos) + 4) + (((⟨bs, 0, 0⟩ : Rdr).uint).1) then B else Option.map (fun q => Addr.add q (((((((⟨bs, 0, 0⟩ : Rdr).uint).2).pos) + 4) + (((⟨bs, 0, 0⟩ : Rdr).uint).1)) * 1)) B) (bs.length - ((((((⟨bs, 0, 0⟩ : Rdr).uint).2).pos) + 4) + (((⟨bs, 0, 0⟩ : Rdr).uint).1))) (bc - ((((((⟨bs, 0, 0⟩ : Rdr).uint).2).pos) + 4) + (((⟨bs, 0, 0⟩ : Rdr).uint).1))))), (82, (Value.slice (if bc = (((⟨bs, 0, 0⟩ : Rdr).uint).2).pos then B else Option.map (fun q => Addr.add q (((((⟨bs, 0, 0⟩ : Rdr).uint).2).pos) * 1)) B) ((((((⟨bs, 0, 0⟩ : Rdr).uint).2).pos) + 4) - ((((⟨bs, 0, 0⟩ : Rdr).uint).2).pos)) (bc - ((((⟨bs, 0, 0⟩ : Rdr).uint).2).pos))))] (by kernel_rfl) rfl (by kernel_rfl) ?_
          refine Dr.take (i := 1) (v := (Value.string (str ((bs.drop ((((⟨bs, 0, 0⟩ : Rdr).uint).2).pos)).take ((((((⟨bs, 0, 0⟩ : Rdr).uint).2).pos) + 4) - ((((⟨bs, 0, 0⟩ : Rdr).uint).2).pos)))))) (by kernel_rfl) (by kernel_rfl) (fun wz hS => Runs.b2s (s := 23) (d := 9) (e := 5) (by kernel_rfl) (by kernel_rfl) (by kernel_rfl) (Rd.keep0 (by omega) F39 hS)) (d := (some 83)) (by kernel_rfl) rfl ?_
          refine Dr.takes (fuel' := 4) (is' := [2, 1, 0]) [2] [(2, (Value.slice none 0 0)), (3, (Value.slice none 0 0)), (4, (i64 0)), (8, (Value.slice (if bc = ((((⟨bs, 0, 0⟩ : Rdr).uint).2).pos) + 4 then B else Option.map (fun q => Addr.add q ((((((⟨bs, 0, 0⟩ : Rdr).uint).2).pos) + 4) * 1)) B) (((((((⟨bs, 0, 0⟩ : Rdr).uint).2).pos) + 4) + (((⟨bs, 0, 0⟩ : Rdr).uint).1)) - (((((⟨bs, 0, 0⟩ : Rdr).uint).2).pos) + 4)) (bc - (((((⟨bs, 0, 0⟩ : Rdr).uint).2).pos) + 4)))), (9, (Value.slice (if bc = (((((⟨bs, 0, 0⟩ : Rdr).uint).2).pos) + 4) + (((⟨bs, 0, 0⟩ : Rdr).uint).1) then B else Option.map (fun q => Addr.add q (((((((⟨bs, 0, 0⟩ : Rdr).uint).2).pos) + 4) + (((⟨bs, 0, 0⟩ : Rdr).uint).1)) * 1)) B) (bs.length - ((((((⟨bs, 0, 0⟩ : Rdr).uint).2).pos) + 4) + (((⟨bs, 0, 0⟩ : Rdr).uint).1))) (bc - ((((((⟨bs, 0, 0⟩ : Rdr).uint).2).pos) + 4) + (((⟨bs, 0, 0⟩ : Rdr).uint).1))))), (83, (Value.string (str ((bs.drop ((((⟨bs, 0, 0⟩ : Rdr).uint).2).pos)).take ((((((⟨bs, 0, 0⟩ : Rdr).uint).2).pos) + 4) - ((((⟨bs, 0, 0⟩ : Rdr).uint).2).pos)))))), (84, (Value.slice (if bc = ((((⟨bs, 0, 0⟩ : Rdr).uint).2).pos) + 4 then B else Option.map (fun q => Addr.add q ((((((⟨bs, 0, 0⟩ : Rdr).uint).2).pos) + 4) * 1)) B) (((((((⟨bs, 0, 0⟩ : Rdr).uint).2).pos) + 4) + (((⟨bs, 0, 0⟩ : Rdr).uint).1)) - (((((⟨bs, 0, 0⟩ : Rdr).uint).2).pos) + 4)) (bc - (((((⟨bs, 0, 0⟩ : Rdr).uint).2).pos) + 4))))] (by kernel_rfl) rfl (by kernel_rfl) ?_
          refine Dr.call (i := 3) (by kernel_rfl) (by kernel_rfl) (d := (some 85)) (by kernel_rfl) (fun _ => RSum_calls _ (Value.slice (if bc = ((((⟨bs, 0, 0⟩ : Rdr).uint).2).pos) + 4 then B else Option.map (fun q => Addr.add q ((((((⟨bs, 0, 0⟩ : Rdr).uint).2).pos) + 4) * 1)) B) (((((((⟨bs, 0, 0⟩ : Rdr).uint).2).pos) + 4) + (((⟨bs, 0, 0⟩ : Rdr).uint).1)) - (((((⟨bs, 0, 0⟩ : Rdr).uint).2).pos) + 4)) (bc - (((((⟨bs, 0, 0⟩ : Rdr).uint).2).pos) + 4))) ((bs.drop (((((⟨bs, 0, 0⟩ : Rdr).uint).2).pos) + 4)).take (((((((⟨bs, 0, 0⟩ : Rdr).uint).2).pos) + 4) + (((⟨bs, 0, 0⟩ : Rdr).uint).1)) - (((((⟨bs, 0, 0⟩ : Rdr).uint).2).pos) + 4))) F46 (by omega)) ?_
          rintro _ w52 ⟨rfl, K53⟩
          have hb54 := crcMore_lt ((bs.drop (((((⟨bs, 0, 0⟩ : Rdr).uint).2).pos) + 4)).take (((((((⟨bs, 0, 0⟩ : Rdr).uint).2).pos) + 4) + (((⟨bs, 0, 0⟩ : Rdr).uint).1)) - (((((⟨bs, 0, 0⟩ : Rdr).uint).2).pos) + 4))) (s := 0) (by omega)
          replace K0 := K0.trans K53 (U := none_) (fun i h1 h2 => h2) (fun i h1 h2 => by exact h2)
          replace H14 := H14.keep K53 (fun h => h)
          replace F17 := RdO.keep0 F17 K53
          replace F39 := (Rd.keep0 (by omega) F39 K53)
          replace F46 := (Rd.keep0 (by omega) F46 K53)
          refine ⟨_, _, rfl, rfl, K53, ?_⟩
          refine Dr.strong (S' := (fun wz => Keeps none_ w52 wz)) (Keeps.refl w52) (fun wz hx => K53.trans hx (fun i _ h => h) (fun _ _ h => h)) ?_
          clear K53
          refine Dr.call (i := 4) (by kernel_rfl) (by kernel_rfl) (d := (some 86)) (by kernel_rfl) (fun _ => four_calls _ (crcMore 0 ((bs.drop (((((⟨bs, 0, 0⟩ : Rdr).uint).2).pos) + 4)).take (((((((⟨bs, 0, 0⟩ : Rdr).uint).2).pos) + 4) + (((⟨bs, 0, 0⟩ : Rdr).uint).1)) - (((((⟨bs, 0, 0⟩ : Rdr).uint).2).pos) + 4)))) (by omega)) ?_
          rintro _ w56 ⟨v55, rfl, K57, F58⟩
          replace K0 := K0.trans K57 (U := none_) (fun i h1 h2 => h2) (fun i h1 h2 => by exact h2)
          replace H14 := H14.keep K57 (fun h => h)
          replace F17 := RdO.keep0 F17 K57
          replace F39 := (Rd.keep0 (by omega) F39 K57)
          replace F46 := (Rd.keep0 (by omega) F46 K57)
          refine ⟨_, _, rfl, rfl, K57, ?_⟩
          refine Dr.strong (S' := (fun wz => Keeps none_ w56 wz)) (Keeps.refl w56) (fun wz hx => K57.trans hx (fun i _ h => h) (fun _ _ h => h)) ?_
          clear K57
          refine Dr.take (i := 5) (v := (Value.string (str (fourB (crcMore 0 ((bs.drop (((((⟨bs, 0, 0⟩ : Rdr).uint).2).pos) + 4)).take (((((((⟨bs, 0, 0⟩ : Rdr).uint).2).pos) + 4) + (((⟨bs, 0, 0⟩ : Rdr).uint).1)) - (((((⟨bs, 0, 0⟩ : Rdr).uint).2).pos) + 4)))))))) (by kernel_rfl) (by kernel_rfl) (fun wz hS => Runs.b2s (s := 23) (d := 9) (e := 5) (by kernel_rfl) (by kernel_rfl) (by kernel_rfl) (Rd.keep0 (by omega) F58 hS)) (d := (some 87)) (by kernel_rfl) rfl ?_
          refine Dr.take (i := 6) (v := (Value.bool (!(((bs.drop ((((⟨bs, 0, 0⟩ : Rdr).uint).2).pos)).take ((((((⟨bs, 0, 0⟩ : Rdr).uint).2).pos) + 4) - ((((⟨bs, 0, 0⟩ : Rdr).uint).2).pos))) == (fourB (crcMore 0 ((bs.drop (((((⟨bs, 0, 0⟩ : Rdr).uint).2).pos) + 4)).take (((((((⟨bs, 0, 0⟩ : Rdr).uint).2).pos) + 4) + (((⟨bs, 0, 0⟩ : Rdr).uint).1)) - (((((⟨bs, 0, 0⟩ : Rdr).uint).2).pos) + 4))))))))) (by kernel_rfl) (by kernel_rfl) (fun wz hS => Runs.strne (t := 9) (by kernel_rfl)) (d := (some 88)) (by kernel_rfl) rfl ?_
          refine Dr.done (by kernel_rfl) ?_
          refine q_cond (o := .tmp 88) (b := (!(((bs.drop ((((⟨bs, 0, 0⟩ : Rdr).uint).2).pos)).take ((((((⟨bs, 0, 0⟩ : Rdr).uint).2).pos) + 4) - ((((⟨bs, 0, 0⟩ : Rdr).uint).2).pos))) == (fourB (crcMore 0 ((bs.drop (((((⟨bs, 0, 0⟩ : Rdr).uint).2).pos) + 4)).take (((((((⟨bs, 0, 0⟩ : Rdr).uint).2).pos) + 4) + (((⟨bs, 0, 0⟩ : Rdr).uint).1)) - (((((⟨bs, 0, 0⟩ : Rdr).uint).2).pos) + 4)))))))) (by kernel_rfl) rfl (fun h59 => ?_) (fun h59 => ?_)
          · rw [h59]
            have p60 : (((bs.drop ((((⟨bs, 0, 0⟩ : Rdr).uint).2).pos)).take ((((((⟨bs, 0, 0⟩ : Rdr).uint).2).pos) + 4) - ((((⟨bs, 0, 0⟩ : Rdr).uint).2).pos))) == (fourB (crcMore 0 ((bs.drop (((((⟨bs, 0, 0⟩ : Rdr).uint).2).pos) + 4)).take (((((((⟨bs, 0, 0⟩ : Rdr).uint).2).pos) + 4) + (((⟨bs, 0, 0⟩ : Rdr).uint).1)) - (((((⟨bs, 0, 0⟩ : Rdr).uint).2).pos) + 4)))))) = false := (bnot_true h59)
            refine q_seq (by kernel_rfl) ?_
            refine q_region (by kernel_rfl) ?_
            refine Ops.regs 5 [(2, (Value.slice (if bc = ((((⟨bs, 0, 0⟩ : Rdr).uint).2).pos) + 4 then B else Option.map (fun q => Addr.add q ((((((⟨bs, 0, 0⟩ : Rdr).uint).2).pos) + 4) * 1)) B) (((((((⟨bs, 0, 0⟩ : Rdr).uint).2).pos) + 4) + (((⟨bs, 0, 0⟩ : Rdr).uint).1)) - (((((⟨bs, 0, 0⟩ : Rdr).uint).2).pos) + 4)) (bc - (((((⟨bs, 0, 0⟩ : Rdr).uint).2).pos) + 4)))), (3, (Value.slice (if bc = (((((⟨bs, 0, 0⟩ : Rdr).uint).2).pos) + 4) + (((⟨bs, 0, 0⟩ : Rdr).uint).1) then B else Option.map (fun q => Addr.add q (((((((⟨bs, 0, 0⟩ : Rdr).uint).2).pos) + 4) + (((⟨bs, 0, 0⟩ : Rdr).uint).1)) * 1)) B) (bs.length - ((((((⟨bs, 0, 0⟩ : Rdr).uint).2).pos) + 4) + (((⟨bs, 0, 0⟩ : Rdr).uint).1))) (bc - ((((((⟨bs, 0, 0⟩ : Rdr).uint).2).pos) + 4) + (((⟨bs, 0, 0⟩ : Rdr).uint).1))))), (4, (i64 12)), (8, (Value.slice (if bc = ((((⟨bs, 0, 0⟩ : Rdr).uint).2).pos) + 4 then B else Option.map (fun q => Addr.add q ((((((⟨bs, 0, 0⟩ : Rdr).uint).2).pos) + 4) * 1)) B) (((((((⟨bs, 0, 0⟩ : Rdr).uint).2).pos) + 4) + (((⟨bs, 0, 0⟩ : Rdr).uint).1)) - (((((⟨bs, 0, 0⟩ : Rdr).uint).2).pos) + 4)) (bc - (((((⟨bs, 0, 0⟩ : Rdr).uint).2).pos) + 4)))), (9, (Value.slice (if bc = (((((⟨bs, 0, 0⟩ : Rdr).uint).2).pos) + 4) + (((⟨bs, 0, 0⟩ : Rdr).uint).1) then B else Option.map (fun q => Addr.add q (((((((⟨bs, 0, 0⟩ : Rdr).uint).2).pos) + 4) + (((⟨bs, 0, 0⟩ : Rdr).uint).1)) * 1)) B) (bs.length - ((((((⟨bs, 0, 0⟩ : Rdr).uint).2).pos) + 4) + (((⟨bs, 0, 0⟩ : Rdr).uint).1))) (bc - ((((((⟨bs, 0, 0⟩ : Rdr).uint).2).pos) + 4) + (((⟨bs, 0, 0⟩ : Rdr).uint).1)))))] (j := 5) (by kernel_rfl) (by kernel_rfl) ?_
            refine Ops.done (by kernel_rfl) ?_
            refine q_ret (by kernel_rfl) ?_
            refine ⟨(Value.tuple #[(Value.slice (if bc = ((((⟨bs, 0, 0⟩ : Rdr).uint).2).pos) + 4 then B else Option.map (fun q => Addr.add q ((((((⟨bs, 0, 0⟩ : Rdr).uint).2).pos) + 4) * 1)) B) (((((((⟨bs, 0, 0⟩ : Rdr).uint).2).pos) + 4) + (((⟨bs, 0, 0⟩ : Rdr).uint).1)) - (((((⟨bs, 0, 0⟩ : Rdr).uint).2).pos) + 4)) (bc - (((((⟨bs, 0, 0⟩ : Rdr).uint).2).pos) + 4))), (Value.slice (if bc = (((((⟨bs, 0, 0⟩ : Rdr).uint).2).pos) + 4) + (((⟨bs, 0, 0⟩ : Rdr).uint).1) then B else Option.map (fun q => Addr.add q (((((((⟨bs, 0, 0⟩ : Rdr).uint).2).pos) + 4) + (((⟨bs, 0, 0⟩ : Rdr).uint).1)) * 1)) B) (bs.length - ((((((⟨bs, 0, 0⟩ : Rdr).uint).2).pos) + 4) + (((⟨bs, 0, 0⟩ : Rdr).uint).1))) (bc - ((((((⟨bs, 0, 0⟩ : Rdr).uint).2).pos) + 4) + (((⟨bs, 0, 0⟩ : Rdr).uint).1)))), (i64 12)]), retv_tmp3 rfl rfl rfl rfl, ?_⟩
            have hq : (((bs.drop ((((⟨bs, 0, 0⟩ : Rdr).uint).2).pos)).take ((((((⟨bs, 0, 0⟩ : Rdr).uint).2).pos) + 4) - ((((⟨bs, 0, 0⟩ : Rdr).uint).2).pos))) == (fourB (crcMore 0 ((bs.drop (((((⟨bs, 0, 0⟩ : Rdr).uint).2).pos) + 4)).take (((((((⟨bs, 0, 0⟩ : Rdr).uint).2).pos) + 4) + (((⟨bs, 0, 0⟩ : Rdr).uint).1)) - (((((⟨bs, 0, 0⟩ : Rdr).uint).2).pos) + 4)))))) = false := (bnot_true h59)
            rw [hfp, hf1, Nat.add_sub_cancel_left, Nat.add_sub_cancel_left] at hq
            have e : firstB bs = ((bs.drop (((((⟨bs, 0, 0⟩ : Rdr).uint).2).pos) + 4)).take (((((((⟨bs, 0, 0⟩ : Rdr).uint).2).pos) + 4) + (((⟨bs, 0, 0⟩ : Rdr).uint).1)) - (((((⟨bs, 0, 0⟩ : Rdr).uint).2).pos) + 4)), bs.drop ((((((⟨bs, 0, 0⟩ : Rdr).uint).2).pos) + 4) + (((⟨bs, 0, 0⟩ : Rdr).uint).1)), 12) := by unfold firstB; rw [if_neg (by omega), if_neg (by omega), if_neg (by omega), hfp, hf1, Nat.add_sub_cancel_left]; rw [if_neg (fun q => by rw [q] at hq; simp at hq)]
            exact ⟨_, _, by rw [e], K0, by rw [e]; exact (fun W h => RdB.cutlh h (((((⟨bs, 0, 0⟩ : Rdr).uint).2).pos) + 4) ((((((⟨bs, 0, 0⟩ : Rdr).uint).2).pos) + 4) + (((⟨bs, 0, 0⟩ : Rdr).uint).1)) (by omega) (by omega)), by rw [e]; exact (fun W h => RdB.drop (l := ((((((⟨bs, 0, 0⟩ : Rdr).uint).2).pos) + 4) + (((⟨bs, 0, 0⟩ : Rdr).uint).1))) h (by omega))⟩
          · rw [h59]
            have p61 : (((bs.drop ((((⟨bs, 0, 0⟩ : Rdr).uint).2).pos)).take ((((((⟨bs, 0, 0⟩ : Rdr).uint).2).pos) + 4) - ((((⟨bs, 0, 0⟩ : Rdr).uint).2).pos))) == (fourB (crcMore 0 ((bs.drop (((((⟨bs, 0, 0⟩ : Rdr).uint).2).pos) + 4)).take (((((((⟨bs, 0, 0⟩ : Rdr).uint).2).pos) + 4) + (((⟨bs, 0, 0⟩ : Rdr).uint).1)) - (((((⟨bs, 0, 0⟩ : Rdr).uint).2).pos) + 4)))))) = true := (bnot_false h59)
            refine q_skip (by kernel_rfl) ?_
            refine q_seq (by kernel_rfl) ?_
            refine q_region (by kernel_rfl) ?_
            refine Ops.regs 5 [(2, (Value.slice (if bc = ((((⟨bs, 0, 0⟩ : Rdr).uint).2).pos) + 4 then B else Option.map (fun q => Addr.add q ((((((⟨bs, 0, 0⟩ : Rdr).uint).2).pos) + 4) * 1)) B) (((((((⟨bs, 0, 0⟩ : Rdr).uint).2).pos) + 4) + (((⟨bs, 0, 0⟩ : Rdr).uint).1)) - (((((⟨bs, 0, 0⟩ : Rdr).uint).2).pos) + 4)) (bc - (((((⟨bs, 0, 0⟩ : Rdr).uint).2).pos) + 4)))), (3, (Value.slice (if bc = (((((⟨bs, 0, 0⟩ : Rdr).uint).2).pos) + 4) + (((⟨bs, 0, 0⟩ : Rdr).uint).1) then B else Option.map (fun q => Addr.add q (((((((⟨bs, 0, 0⟩ : Rdr).uint).2).pos) + 4) + (((⟨bs, 0, 0⟩ : Rdr).uint).1)) * 1)) B) (bs.length - ((((((⟨bs, 0, 0⟩ : Rdr).uint).2).pos) + 4) + (((⟨bs, 0, 0⟩ : Rdr).uint).1))) (bc - ((((((⟨bs, 0, 0⟩ : Rdr).uint).2).pos) + 4) + (((⟨bs, 0, 0⟩ : Rdr).uint).1))))), (4, (i64 0))] (j := 5) (by kernel_rfl) (by kernel_rfl) ?_
            refine Ops.done (by kernel_rfl) ?_
            refine q_ret (by kernel_rfl) ?_
            refine ⟨(Value.tuple #[(Value.slice (if bc = ((((⟨bs, 0, 0⟩ : Rdr).uint).2).pos) + 4 then B else Option.map (fun q => Addr.add q ((((((⟨bs, 0, 0⟩ : Rdr).uint).2).pos) + 4) * 1)) B) (((((((⟨bs, 0, 0⟩ : Rdr).uint).2).pos) + 4) + (((⟨bs, 0, 0⟩ : Rdr).uint).1)) - (((((⟨bs, 0, 0⟩ : Rdr).uint).2).pos) + 4)) (bc - (((((⟨bs, 0, 0⟩ : Rdr).uint).2).pos) + 4))), (Value.slice (if bc = (((((⟨bs, 0, 0⟩ : Rdr).uint).2).pos) + 4) + (((⟨bs, 0, 0⟩ : Rdr).uint).1) then B else Option.map (fun q => Addr.add q (((((((⟨bs, 0, 0⟩ : Rdr).uint).2).pos) + 4) + (((⟨bs, 0, 0⟩ : Rdr).uint).1)) * 1)) B) (bs.length - ((((((⟨bs, 0, 0⟩ : Rdr).uint).2).pos) + 4) + (((⟨bs, 0, 0⟩ : Rdr).uint).1))) (bc - ((((((⟨bs, 0, 0⟩ : Rdr).uint).2).pos) + 4) + (((⟨bs, 0, 0⟩ : Rdr).uint).1)))), (i64 0)]), retv_tmp3 rfl rfl rfl rfl, ?_⟩
            have hq : (((bs.drop ((((⟨bs, 0, 0⟩ : Rdr).uint).2).pos)).take ((((((⟨bs, 0, 0⟩ : Rdr).uint).2).pos) + 4) - ((((⟨bs, 0, 0⟩ : Rdr).uint).2).pos))) == (fourB (crcMore 0 ((bs.drop (((((⟨bs, 0, 0⟩ : Rdr).uint).2).pos) + 4)).take (((((((⟨bs, 0, 0⟩ : Rdr).uint).2).pos) + 4) + (((⟨bs, 0, 0⟩ : Rdr).uint).1)) - (((((⟨bs, 0, 0⟩ : Rdr).uint).2).pos) + 4)))))) = true := (bnot_false h59)
            rw [hfp, hf1, Nat.add_sub_cancel_left, Nat.add_sub_cancel_left] at hq
            have e : firstB bs = ((bs.drop (((((⟨bs, 0, 0⟩ : Rdr).uint).2).pos) + 4)).take (((((((⟨bs, 0, 0⟩ : Rdr).uint).2).pos) + 4) + (((⟨bs, 0, 0⟩ : Rdr).uint).1)) - (((((⟨bs, 0, 0⟩ : Rdr).uint).2).pos) + 4)), bs.drop ((((((⟨bs, 0, 0⟩ : Rdr).uint).2).pos) + 4) + (((⟨bs, 0, 0⟩ : Rdr).uint).1)), 0) := by unfold firstB; rw [if_neg (by omega), if_neg (by omega), if_neg (by omega), hfp, hf1, Nat.add_sub_cancel_left]; rw [if_pos (by simpa using hq)]
            exact ⟨_, _, by rw [e], K0, by rw [e]; exact (fun W h => RdB.cutlh h (((((⟨bs, 0, 0⟩ : Rdr).uint).2).pos) + 4) ((((((⟨bs, 0, 0⟩ : Rdr).uint).2).pos) + 4) + (((⟨bs, 0, 0⟩ : Rdr).uint).1)) (by omega) (by omega)), by rw [e]; exact (fun W h => RdB.drop (l := ((((((⟨bs, 0, 0⟩ : Rdr).uint).2).pos) + 4) + (((⟨bs, 0, 0⟩ : Rdr).uint).1))) h (by omega))⟩

theorem RUnframe_calls (w : World) (B : Option Addr) (bc : Nat) (bs : List UInt8) (hB : RdB w (.slice B bs.length bc) bs) (hbl : bs.length ≤ 140737488351232) : Calls Try.prog 50 ⟨[(Value.slice B bs.length bc)]⟩ w (fun e w' => ∃ v', e = .returned (.tuple #[v', i64 (unframeB bs).2]) ∧ Keeps none_ w w' ∧ OwnB w' w.heap.size 5 v' (unframeB bs).1) := by
  have hbc := hB.slice
  have K0 : Keeps none_ w w := Keeps.refl w
  refine q_calls Try.func50 (by kernel_rfl) (by kernel_rfl) ?_
  refine q_seq (by kernel_rfl) ?_
  refine q_region (by kernel_rfl) ?_
  refine Ops.regs 2 [(0, (Value.slice B bs.length bc)), (2, (Value.slice none 0 0)), (3, (i64 0))] (j := 2) (by kernel_rfl) (by kernel_rfl) ?_
  refine Ops.done (by kernel_rfl) ?_
  refine q_seq (by kernel_rfl) ?_
  refine q_region (by kernel_rfl) ?_
  refine Ops.regs 1 [(2, (Value.slice none 0 0)), (3, (i64 0)), (9, (Value.slice B bs.length bc))] (j := 1) (by kernel_rfl) (by kernel_rfl) ?_
  refine Ops.call (by kernel_rfl) (d := (some 10)) (by kernel_rfl) (first_calls _ B bc bs (hB.keep0 (by omega) K0) (by omega)) ?_
  rintro _ w3 ⟨v1, v2, rfl, K4, hq5, hq6⟩
  have F11 := hq5 _ (Rd.keep0 (by omega) (hB.keep0 (by omega) K0) K4)
  have F12 := hq6 _ (Rd.keep0 (by omega) (hB.keep0 (by omega) K0) K4)
  obtain ⟨A7, c8, hf13⟩ := RdB.form F11
  subst hf13
  obtain ⟨A9, c10, hf14⟩ := RdB.form F12
  subst hf14
  have hsF11 := RdB.slice F11
  have hsF12 := RdB.slice F12
  have hlF11 := first_le bs
  unfold maxLen at hsF11 hsF12
  refine ⟨_, _, rfl, rfl, ?_⟩
  replace K0 := K0.trans K4 (U := none_) (fun i h1 h2 => h2) (fun i h1 h2 => by exact h2)
  clear K4
  refine Ops.regs 7 [(2, (Value.slice none 0 0)), (3, (i64 0)), (4, (Value.slice A7 ((firstB bs).1.length) c8)), (5, (Value.slice A9 ((firstB bs).2.1.length) c10)), (6, (i64 ((firstB bs).2.2)))] (j := 9) (by kernel_rfl) (by kernel_rfl) ?_
  refine Ops.done (by kernel_rfl) ?_
  refine q_seq (by kernel_rfl) ?_
  refine q_seq (by kernel_rfl) ?_
  refine q_region (by kernel_rfl) ?_
  refine Ops.regs 3 [(2, (Value.slice none 0 0)), (3, (i64 0)), (4, (Value.slice A7 ((firstB bs).1.length) c8)), (5, (Value.slice A9 ((firstB bs).2.1.length) c10)), (6, (i64 ((firstB bs).2.2))), (16, (Value.bool (((firstB bs).2.2) != 0)))] (j := 3) (by kernel_rfl) (by kernel_rfl) ?_
  refine Ops.split (((firstB bs).2.2) != 0) (fun h15 => ?_) (fun h15 => ?_)
  · rw [h15]
    have p16 : ¬ ((firstB bs).2.2 = 0) := of_bne_t h15
    refine Ops.regs 3 [(2, (Value.slice none 0 0)), (3, (i64 0)), (4, (Value.slice A7 ((firstB bs).1.length) c8)), (5, (Value.slice A9 ((firstB bs).2.1.length) c10)), (6, (i64 ((firstB bs).2.2))), (19, (Value.bool (((firstB bs).2.2) != 12)))] (j := 6) (by kernel_rfl) (by kernel_rfl) ?_
    refine Ops.done (by kernel_rfl) ?_
    refine q_cond (o := .tmp 19) (b := (((firstB bs).2.2) != 12)) (by kernel_rfl) rfl (fun h17 => ?_) (fun h17 => ?_)
    · rw [h17]
      have p18 : ¬ ((firstB bs).2.2 = 12) := of_bne_t h17
      refine q_seq (by kernel_rfl) ?_
      refine q_region (by kernel_rfl) ?_
      refine Ops.regs 3 [(2, (Value.slice none 0 0)), (3, (i64 ((firstB bs).2.2))), (4, (Value.slice A7 ((firstB bs).1.length) c8)), (5, (Value.slice A9 ((firstB bs).2.1.length) c10)), (6, (i64 ((firstB bs).2.2)))] (j := 3) (by kernel_rfl) (by kernel_rfl) ?_
      refine Ops.done (by kernel_rfl) ?_
      refine q_ret (by kernel_rfl) ?_
      refine ⟨(Value.tuple #[(Value.slice none 0 0), (i64 ((firstB bs).2.2))]), retv_tmp2 rfl rfl rfl, ?_⟩
      have e : unframeB bs = ([], (firstB bs).2.2) := by first | (exact unframe_a (by omega) (by omega)) | (rw [unframe_c (by omega) (by omega)]; congr 1; omega)
      exact ⟨_, by (rw [e]; try rfl), K0, by rw [e]; exact (World.ownsRow_nil _ _ _ _)⟩
    · rw [h17]
      have p19 : (firstB bs).2.2 = 12 := of_bne_f h17
      refine q_skip (by kernel_rfl) ?_
      refine q_seq (by kernel_rfl) ?_
      refine q_seq (by kernel_rfl) ?_
      refine q_region (by kernel_rfl) ?_
      refine Ops.regs 3 [(2, (Value.slice none 0 0)), (3, (i64 0)), (4, (Value.slice A7 ((firstB bs).1.length) c8)), (6, (i64 ((firstB bs).2.2))), (23, (Value.bool (decide ((((firstB bs).2.1.length : Nat) : Int) > 0))))] (j := 3) (by kernel_rfl) (by kernel_rfl) ?_
      refine Ops.done (by kernel_rfl) ?_
      refine q_cond (o := .tmp 23) (b := (decide ((((firstB bs).2.1.length : Nat) : Int) > 0))) (by kernel_rfl) rfl (fun h20 => ?_) (fun h20 => ?_)
      · rw [h20]
        have p21 : (((firstB bs).2.1.length : Nat) : Int) > 0 := of_decide_eq_true h20
        refine q_seq (by kernel_rfl) ?_
        refine q_region (by kernel_rfl) ?_
        refine Ops.regs 2 [(2, (Value.slice none 0 0)), (3, (i64 11)), (4, (Value.slice A7 ((firstB bs).1.length) c8)), (6, (i64 ((firstB bs).2.2)))] (j := 2) (by kernel_rfl) (by kernel_rfl) ?_
        refine Ops.done (by kernel_rfl) ?_
        refine q_ret (by kernel_rfl) ?_
        refine ⟨(Value.tuple #[(Value.slice none 0 0), (i64 11)]), retv_tmp2 rfl rfl rfl, ?_⟩
        have e : unframeB bs = ([], 11) := unframe_b (by omega) (by omega)
        exact ⟨_, by (rw [e]; try rfl), K0, by rw [e]; exact (World.ownsRow_nil _ _ _ _)⟩
      · rw [h20]
        have p22 : ¬ ((((firstB bs).2.1.length : Nat) : Int) > 0) := of_decide_eq_false h20
        refine q_skip (by kernel_rfl) ?_
        refine q_seq (by kernel_rfl) ?_
        refine q_seq (by kernel_rfl) ?_
        refine q_region (by kernel_rfl) ?_
        refine Ops.regs 2 [(2, (Value.slice none 0 0)), (3, (i64 0)), (4, (Value.slice A7 ((firstB bs).1.length) c8)), (6, (i64 ((firstB bs).2.2))), (25, (Value.bool (((firstB bs).2.2) != 0)))] (j := 2) (by kernel_rfl) (by kernel_rfl) ?_
        refine Ops.done (by kernel_rfl) ?_
        rw [h15]
        refine q_then (o := .tmp 25) (by kernel_rfl) rfl ?_
        refine q_seq (by kernel_rfl) ?_
        refine q_region (by kernel_rfl) ?_
        refine Ops.regs 3 [(2, (Value.slice none 0 0)), (3, (i64 ((firstB bs).2.2))), (4, (Value.slice A7 ((firstB bs).1.length) c8))] (j := 3) (by kernel_rfl) (by kernel_rfl) ?_
        refine Ops.done (by kernel_rfl) ?_
        refine q_ret (by kernel_rfl) ?_
        refine ⟨(Value.tuple #[(Value.slice none 0 0), (i64 ((firstB bs).2.2))]), retv_tmp2 rfl rfl rfl, ?_⟩
        have e : unframeB bs = ([], (firstB bs).2.2) := by first | (exact unframe_a (by omega) (by omega)) | (rw [unframe_c (by omega) (by omega)]; congr 1; omega)
        exact ⟨_, by (rw [e]; try rfl), K0, by rw [e]; exact (World.ownsRow_nil _ _ _ _)⟩
  · rw [h15]
    have p23 : (firstB bs).2.2 = 0 := of_bne_f h15
    refine Ops.regs 3 [(2, (Value.slice none 0 0)), (3, (i64 0)), (4, (Value.slice A7 ((firstB bs).1.length) c8)), (5, (Value.slice A9 ((firstB bs).2.1.length) c10)), (6, (i64 ((firstB bs).2.2))), (19, (Value.bool false))] (j := 6) (by kernel_rfl) (by kernel_rfl) ?_
    refine Ops.done (by kernel_rfl) ?_
    refine q_else (o := .tmp 19) (by kernel_rfl) rfl ?_
    refine q_skip (by kernel_rfl) ?_
    refine q_seq (by kernel_rfl) ?_
    refine q_seq (by kernel_rfl) ?_
    refine q_region (by kernel_rfl) ?_
    refine Ops.regs 3 [(2, (Value.slice none 0 0)), (3, (i64 0)), (4, (Value.slice A7 ((firstB bs).1.length) c8)), (6, (i64 ((firstB bs).2.2))), (23, (Value.bool (decide ((((firstB bs).2.1.length : Nat) : Int) > 0))))] (j := 3) (by kernel_rfl) (by kernel_rfl) ?_
    refine Ops.done (by kernel_rfl) ?_
    refine q_cond (o := .tmp 23) (b := (decide ((((firstB bs).2.1.length : Nat) : Int) > 0))) (by kernel_rfl) rfl (fun h24 => ?_) (fun h24 => ?_)
    · rw [h24]
      have p25 : (((firstB bs).2.1.length : Nat) : Int) > 0 := of_decide_eq_true h24
      refine q_seq (by kernel_rfl) ?_
      refine q_region (by kernel_rfl) ?_
      refine Ops.regs 2 [(2, (Value.slice none 0 0)), (3, (i64 11)), (4, (Value.slice A7 ((firstB bs).1.length) c8)), (6, (i64 ((firstB bs).2.2)))] (j := 2) (by kernel_rfl) (by kernel_rfl) ?_
      refine Ops.done (by kernel_rfl) ?_
      refine q_ret (by kernel_rfl) ?_
      refine ⟨(Value.tuple #[(Value.slice none 0 0), (i64 11)]), retv_tmp2 rfl rfl rfl, ?_⟩
      have e : unframeB bs = ([], 11) := unframe_b (by omega) (by omega)
      exact ⟨_, by (rw [e]; try rfl), K0, by rw [e]; exact (World.ownsRow_nil _ _ _ _)⟩
    · rw [h24]
      have p26 : ¬ ((((firstB bs).2.1.length : Nat) : Int) > 0) := of_decide_eq_false h24
      refine q_skip (by kernel_rfl) ?_
      refine q_seq (by kernel_rfl) ?_
      refine q_seq (by kernel_rfl) ?_
      refine q_region (by kernel_rfl) ?_
      refine Ops.regs 2 [(2, (Value.slice none 0 0)), (3, (i64 0)), (4, (Value.slice A7 ((firstB bs).1.length) c8)), (6, (i64 ((firstB bs).2.2))), (25, (Value.bool (((firstB bs).2.2) != 0)))] (j := 2) (by kernel_rfl) (by kernel_rfl) ?_
      refine Ops.done (by kernel_rfl) ?_
      rw [h15]
      refine q_else (o := .tmp 25) (by kernel_rfl) rfl ?_
      refine q_skip (by kernel_rfl) ?_
      refine q_seq (by kernel_rfl) ?_
      refine q_region (by kernel_rfl) ?_
      refine Ops.regs 1 [(2, (Value.slice none 0 0)), (3, (i64 0)), (4, (Value.slice A7 ((firstB bs).1.length) c8)), (7, (Value.slice none 0 0))] (j := 1) (by kernel_rfl) (by kernel_rfl) ?_
      refine Ops.done (by kernel_rfl) ?_
      refine q_seq (by kernel_rfl) ?_
      refine q_region (by kernel_rfl) ?_
      refine Ops.regs 2 [(2, (Value.slice none 0 0)), (3, (i64 0)), (7, (Value.slice none 0 0)), (27, (Value.slice none 0 0)), (28, (Value.slice A7 ((firstB bs).1.length) c8))] (j := 2) (by kernel_rfl) (by kernel_rfl) ?_
      obtain ⟨v27, w28, hr29, hO30, hK31⟩ := OwnB.app (ty := 23) (base := w3.heap.size) tyB (show OwnB w3 w3.heap.size 5 (.slice none 0 0) [] from World.ownsRow_nil _ _ _ _) F11 (by simp only [List.length_nil]; omega) (Nat.le_refl _)
      have hO32 : OwnB w28 _ 5 v27 ((firstB bs).1) := hO30
      have K34 := Keeps.new hK31
      have O33 := own_base hO32 K0.size
      refine Ops.go (v := v27) (by kernel_rfl) (Runs.append (ts := #[23, 23]) (ty := 23) (vs := [(Value.slice none 0 0), (Value.slice A7 ((firstB bs).1.length) c8)]) (by kernel_rfl) hr29) (d := (some 29)) (by kernel_rfl) rfl ?_
      replace K0 := K0.trans K34 (U := none_) (fun i h1 h2 => h2) (fun i h1 h2 => by exact h2)
      replace F11 := (Rd.keep0 (by omega) F11 K34)
      replace F12 := (Rd.keep0 (by omega) F12 K34)
      clear K34 hr29 hK31 hO30 hO32
      refine Ops.regs 1 [(2, (Value.slice none 0 0)), (3, (i64 0)), (7, v27)] (j := 4) (by kernel_rfl) (by kernel_rfl) ?_
      refine Ops.done (by kernel_rfl) ?_
      refine q_seq (by kernel_rfl) ?_
      refine q_region (by kernel_rfl) ?_
      refine Ops.regs 3 [(2, v27), (3, (i64 0))] (j := 3) (by kernel_rfl) (by kernel_rfl) ?_
      refine Ops.done (by kernel_rfl) ?_
      refine q_ret (by kernel_rfl) ?_
      refine ⟨(Value.tuple #[v27, (i64 0)]), retv_tmp2 rfl rfl rfl, ?_⟩
      have e : unframeB bs = ((firstB bs).1, 0) := unframe_d (by omega) (by omega)
      exact ⟨_, by (rw [e]; try rfl), K0, by rw [e]; exact O33⟩
theorem tyP : ElemTy Try.prog 33 23 1 24 := elemTy (by kernel_rfl)

set_option maxHeartbeats 4000000 in
theorem RFrames_calls (w : World) (B : Option Addr) (bc : Nat) (bs : List UInt8) (hB : RdB w (.slice B bs.length bc) bs) (hbl : bs.length ≤ 5000000000000) : Calls Try.prog 54 ⟨[(Value.slice B bs.length bc)]⟩ w (fun e w' => ∃ (l : List PartP) (V : Option Addr) (c : Nat), e = .returned (.slice V l.length c) ∧ Keeps none_ w w' ∧ OwnT w' w.heap.size 23 1 PartP.cells (.slice V l.length c) l ∧ PartsOwn 5 w' w.heap.size l ∧ l.map PartP.data = framesB bs) := by
  have K0 : Keeps none_ w w := Keeps.refl w
  refine q_calls Try.func54 (by kernel_rfl) (by kernel_rfl) ?_
  refine q_seq (by kernel_rfl) ?_
  refine q_region (by kernel_rfl) ?_
  refine Ops.regs 1 [(0, (Value.slice B bs.length bc)), (2, (Value.slice none 0 0))] (j := 1) (by kernel_rfl) (by kernel_rfl) ?_
  refine Ops.done (by kernel_rfl) ?_
  refine q_seq (by kernel_rfl) ?_
  refine q_region (by kernel_rfl) ?_
  refine Ops.regs 1 [(0, (Value.slice B bs.length bc)), (2, (Value.slice none 0 0)), (3, (Value.slice none 0 0))] (j := 1) (by kernel_rfl) (by kernel_rfl) ?_
  refine Ops.done (by kernel_rfl) ?_
  refine q_seq (by kernel_rfl) ?_
  refine q_block (id := 0) (by kernel_rfl) ?_
  refine q_keep (R := [(0, (Value.slice B bs.length bc)), (2, (Value.slice none 0 0)), (3, (Value.slice none 0 0))]) (by kernel_rfl) ?_
  refine q_loop (fun (gs : (Option Addr) × Nat × (List PartP) × (Option Addr) × Nat × (List UInt8)) L (wx : World) => match gs with | (VA, vc, l, A, c, rest) => L = [(0, (Value.slice A rest.length c)), (2, (Value.slice none 0 0)), (3, (Value.slice VA l.length vc))] ∧ OwnT wx w.heap.size 23 1 PartP.cells (Value.slice VA l.length vc) l ∧ PartsOwn 5 wx w.heap.size l ∧ RdB w (.slice A rest.length c) rest ∧ l.map PartP.data ++ framesB rest = framesB bs ∧ rest.length ≤ bs.length ∧ Keeps none_ w wx) (fun (gs : (Option Addr) × Nat × (List PartP) × (Option Addr) × Nat × (List UInt8)) => match gs with | (VA, vc, l, A, c, rest) => rest.length) (none, 0, [], B, bc, bs) (by kernel_rfl) ⟨rfl, (OwnT.nil _ _ _ _ _), (PartsOwn.nil _ _ _), hB, rfl, Nat.le_refl _, K0⟩ ?_
  clear K0
  rintro ⟨VA, vc, l, A, c, rest⟩ _ w1 ⟨rfl, hOV, hP, hR, hE, hle, K2⟩
  have hPV := PartsOwn.apart hP hOV (by decide)
  have hcap := hR.slice
  have hll := congrArg List.length hE
  rw [List.length_append, List.length_map] at hll
  have hfl := frames_le bs
  refine q_seq (by kernel_rfl) ?_
  refine q_seq (by kernel_rfl) ?_
  refine q_region (by kernel_rfl) ?_
  refine Ops.regs 3 [(0, (Value.slice A rest.length c)), (2, (Value.slice none 0 0)), (3, (Value.slice VA l.length vc)), (10, (Value.bool (decide (((rest.length : Nat) : Int) > 0))))] (j := 3) (by kernel_rfl) (by kernel_rfl) ?_
  refine Ops.done (by kernel_rfl) ?_
  refine q_cond (o := .tmp 10) (b := (decide (((rest.length : Nat) : Int) > 0))) (by kernel_rfl) rfl (fun h3 => ?_) (fun h3 => ?_)
  · rw [h3]
    have p4 : ((rest.length : Nat) : Int) > 0 := of_decide_eq_true h3
    refine q_skip (by kernel_rfl) ?_
    refine q_block (id := 1) (by kernel_rfl) ?_
    refine q_seq (by kernel_rfl) ?_
    refine q_region (by kernel_rfl) ?_
    refine Ops.regs 1 [(0, (Value.slice A rest.length c)), (2, (Value.slice none 0 0)), (3, (Value.slice VA l.length vc)), (10, (Value.bool true)), (12, (Value.slice A rest.length c))] (j := 1) (by kernel_rfl) (by kernel_rfl) ?_
    refine Ops.call (by kernel_rfl) (d := (some 13)) (by kernel_rfl) (first_calls _ A c rest (hR.keep0 (by omega) K2) (by omega)) ?_
    rintro _ w7 ⟨v5, v6, rfl, K8, hq9, hq10⟩
    have F15 := hq9 _ (Rd.keep0 (by omega) (hR.keep0 (by omega) K2) K8)
    have F16 := hq10 _ (Rd.keep0 (by omega) (hR.keep0 (by omega) K2) K8)
    obtain ⟨A11, c12, hf17⟩ := RdB.form F15
    subst hf17
    obtain ⟨A13, c14, hf18⟩ := RdB.form F16
    subst hf18
    have hsF15 := RdB.slice F15
    have hsF16 := RdB.slice F16
    have hlF15 := first_le rest
    unfold maxLen at hsF15 hsF16
    refine ⟨_, _, rfl, rfl, ?_⟩
    replace K2 := K2.trans K8 (U := none_) (fun i h1 h2 => h2) (fun i h1 h2 => by exact h2)
    replace hOV := own_keep0 hOV K8
    replace hP := hP.keep K8
    clear K8
    refine Ops.regs 7 [(0, (Value.slice A rest.length c)), (2, (Value.slice none 0 0)), (3, (Value.slice VA l.length vc)), (4, (Value.slice A11 ((firstB rest).1.length) c12)), (5, (Value.slice A13 ((firstB rest).2.1.length) c14)), (6, (i64 ((firstB rest).2.2))), (10, (Value.bool true))] (j := 9) (by kernel_rfl) (by kernel_rfl) ?_
    refine Ops.done (by kernel_rfl) ?_
    refine q_seq (by kernel_rfl) ?_
    refine q_seq (by kernel_rfl) ?_
    refine q_region (by kernel_rfl) ?_
    refine Ops.regs 2 [(0, (Value.slice A rest.length c)), (2, (Value.slice none 0 0)), (3, (Value.slice VA l.length vc)), (4, (Value.slice A11 ((firstB rest).1.length) c12)), (5, (Value.slice A13 ((firstB rest).2.1.length) c14)), (6, (i64 ((firstB rest).2.2))), (10, (Value.bool true)), (18, (Value.bool (((firstB rest).2.2) != 0)))] (j := 2) (by kernel_rfl) (by kernel_rfl) ?_
    refine Ops.done (by kernel_rfl) ?_
    refine q_cond (o := .tmp 18) (b := (((firstB rest).2.2) != 0)) (by kernel_rfl) rfl (fun h19 => ?_) (fun h19 => ?_)
    · rw [h19]
      have p20 : ¬ ((firstB rest).2.2 = 0) := of_bne_t h19
      refine q_exit (id := 0) (by kernel_rfl) ?_
      refine q_seq (by kernel_rfl) ?_
      refine q_region (by kernel_rfl) ?_
      refine Ops.regs 2 [(2, (Value.slice VA l.length vc))] (j := 2) (by kernel_rfl) (by kernel_rfl) ?_
      refine Ops.done (by kernel_rfl) ?_
      refine q_ret (by kernel_rfl) ?_
      refine ⟨(Value.slice VA l.length vc), retv_tmp rfl rfl, ?_⟩
      have hz := frames_stop (bs := rest) (by omega)
      rw [hz, List.append_nil] at hE
      exact ⟨l, _, _, rfl, K2, hOV, hP, hE⟩
    · rw [h19]
      have p21 : (firstB rest).2.2 = 0 := of_bne_f h19
      have hff := frames_first (bs := rest) (by omega) (by omega)
      have hffl := congrArg List.length hff.1
      rw [List.length_cons] at hffl
      refine q_skip (by kernel_rfl) ?_
      refine q_seq (by kernel_rfl) ?_
      refine q_region (by kernel_rfl) ?_
      refine Ops.regs 1 [(0, (Value.slice A rest.length c)), (2, (Value.slice none 0 0)), (3, (Value.slice VA l.length vc)), (4, (Value.slice A11 ((firstB rest).1.length) c12)), (5, (Value.slice A13 ((firstB rest).2.1.length) c14)), (6, (i64 ((firstB rest).2.2))), (7, (Value.slice none 0 0)), (10, (Value.bool true)), (18, (Value.bool false))] (j := 1) (by kernel_rfl) (by kernel_rfl) ?_
      refine Ops.done (by kernel_rfl) ?_
      refine q_seq (by kernel_rfl) ?_
      refine q_region (by kernel_rfl) ?_
      refine Ops.regs 2 [(0, (Value.slice A rest.length c)), (2, (Value.slice none 0 0)), (3, (Value.slice VA l.length vc)), (4, (Value.slice A11 ((firstB rest).1.length) c12)), (5, (Value.slice A13 ((firstB rest).2.1.length) c14)), (6, (i64 ((firstB rest).2.2))), (7, (Value.slice none 0 0)), (10, (Value.bool true)), (18, (Value.bool false)), (19, (Value.slice none 0 0)), (20, (Value.slice A11 ((firstB rest).1.length) c12))] (j := 2) (by kernel_rfl) (by kernel_rfl) ?_
      obtain ⟨v22, w23, hr24, hO25, hK26⟩ := OwnB.app (ty := 23) (base := w7.heap.size) tyB (show OwnB w7 w7.heap.size 5 (.slice none 0 0) [] from World.ownsRow_nil _ _ _ _) F15 (by simp only [List.length_nil]; omega) (Nat.le_refl _)
      have hO27 : OwnB w23 _ 5 v22 ((firstB rest).1) := hO25
      have oo30 : ∀ i, ((Value.slice VA l.length vc)).ownBlock = some i → (v22).ownBlock = some i → False := fun i hi hs => by have := (World.ownsRow.lt hO27 i hs).1; have := (World.ownsRow.lt hOV i hi).2; omega
      have oo31 : ∀ i, (v22).ownBlock = some i → ((Value.slice VA l.length vc)).ownBlock = some i → False := fun i hi hs => oo30 i hs hi
      have K29 := Keeps.new hK26
      have O28 := own_base hO27 K2.size
      refine Ops.go (v := v22) (by kernel_rfl) (Runs.append (ts := #[23, 23]) (ty := 23) (vs := [(Value.slice none 0 0), (Value.slice A11 ((firstB rest).1.length) c12)]) (by kernel_rfl) hr24) (d := (some 21)) (by kernel_rfl) rfl ?_
      replace K2 := K2.trans K29 (U := none_) (fun i h1 h2 => h2) (fun i h1 h2 => by exact h2)
      replace hOV := own_keep0 hOV K29
      replace hP := hP.keep K29
      replace F15 := (Rd.keep0 (by omega) F15 K29)
      replace F16 := (Rd.keep0 (by omega) F16 K29)
      clear K29 hr24 hK26 hO25 hO27
      obtain ⟨A32, c33, hf34⟩ := RdB.form (OwnB.rd O28)
      subst hf34
      refine Ops.regs 1 [(0, (Value.slice A rest.length c)), (2, (Value.slice none 0 0)), (3, (Value.slice VA l.length vc)), (4, (Value.slice A11 ((firstB rest).1.length) c12)), (5, (Value.slice A13 ((firstB rest).2.1.length) c14)), (6, (i64 ((firstB rest).2.2))), (7, (Value.slice A32 (((firstB rest).1).length) c33)), (10, (Value.bool true)), (18, (Value.bool false))] (j := 4) (by kernel_rfl) (by kernel_rfl) ?_
      refine Ops.done (by kernel_rfl) ?_
      refine q_seq (by kernel_rfl) ?_
      refine q_region (by kernel_rfl) ?_
      refine Ops.regs 2 [(0, (Value.slice A rest.length c)), (2, (Value.slice none 0 0)), (3, (Value.slice VA l.length vc)), (4, (Value.slice A11 ((firstB rest).1.length) c12)), (5, (Value.slice A13 ((firstB rest).2.1.length) c14)), (6, (i64 ((firstB rest).2.2))), (7, (Value.slice A32 (((firstB rest).1).length) c33)), (10, (Value.bool true)), (18, (Value.bool false)), (22, (Value.slice VA l.length vc)), (23, (Value.slice A32 (((firstB rest).1).length) c33))] (j := 2) (by kernel_rfl) (by kernel_rfl) ?_
      refine Ops.new (o := rowL [(Value.slice A32 (((firstB rest).1).length) c33)] 23) (V := fun b => (Value.slice (some ⟨b, 0, none⟩) 1 1)) (by kernel_rfl) (d := (some 24)) (by kernel_rfl) (fun b => rfl) (fun b35 w36 hb37 H38 K39 hs40 => ?_)
      have nb35 : w.heap.size ≤ b35 := by have := K2.size; omega
      have ob41 : ∀ i, ((Value.slice VA l.length vc)).ownBlock = some i → i < b35 := fun i hi => by have := (World.ownsRow.lt hOV i hi).2; omega
      have op42 : ∀ x ∈ (l), ∀ i, (Value.slice x.A x.data.length x.c).ownBlock = some i → i < b35 := fun x hx i hi => by have := (World.ownsRow.lt (hP x hx) i hi).2; omega
      have ob43 : ∀ i, ((Value.slice A32 (((firstB rest).1).length) c33)).ownBlock = some i → i < b35 := fun i hi => by have := (World.ownsRow.lt O28 i hi).2; omega
      replace K2 := K2.trans K39 (U := none_) (fun i h1 h2 => h2) (fun i h1 h2 => by exact h2)
      replace hOV := own_keep0 hOV K39
      replace hP := hP.keep K39
      replace F15 := (Rd.keep0 (by omega) F15 K39)
      replace F16 := (Rd.keep0 (by omega) F16 K39)
      replace O28 := own_keep0 O28 K39
      clear K39 hs40
      obtain ⟨v44, w45, hr46, hO47, hK48, hg49⟩ := OwnT.app (ty := 33) PartP.two PartP.one tyP hOV (show RdT _ 1 PartP.cells _ [(⟨A32, c33, (firstB rest).1⟩ : PartP)] from Rd.lit H38 (n := 1) rfl (by decide)) (by simp only [List.length_cons, List.length_nil]; omega) (by simp only [List.length_cons, List.length_nil]; omega) K2.size
      obtain ⟨A51, c52, rfl⟩ := RdT.form PartP.two (by decide) (OwnT.rd hO47)
      have ob53 : ∀ i, ((Value.slice A51 ((l ++ [(⟨A32, c33, (firstB rest).1⟩ : PartP)]).length) c52)).ownBlock = some i → i ≠ b35 := fun i hi => by rcases hg49 i hi with h | h; (have := ob41 i h; omega); (have := H38.lt; omega)
      have oo54 : ∀ i, ((Value.slice A32 (((firstB rest).1).length) c33)).ownBlock = some i → ((Value.slice A51 ((l ++ [(⟨A32, c33, (firstB rest).1⟩ : PartP)]).length) c52)).ownBlock = some i → False := fun i hi hs => by rcases hg49 i hs with h | h; (exact oo31 i hi h); (have := (World.ownsRow.lt O28 i hi).2; omega)
      have oo55 : ∀ i, ((Value.slice A51 ((l ++ [(⟨A32, c33, (firstB rest).1⟩ : PartP)]).length) c52)).ownBlock = some i → ((Value.slice A32 (((firstB rest).1).length) c33)).ownBlock = some i → False := fun i hi hs => oo54 i hs hi
      have K50 := hK48
      refine Ops.go (v := (Value.slice A51 ((l ++ [(⟨A32, c33, (firstB rest).1⟩ : PartP)]).length) c52)) (by kernel_rfl) (Runs.append (ts := #[33, 33]) (ty := 33) (vs := [(Value.slice VA l.length vc), (Value.slice (some ⟨b35, 0, none⟩) 1 1)]) (by kernel_rfl) hr46) (d := (some 25)) (by kernel_rfl) rfl ?_
      replace K2 := K2.trans K50 (U := none_) (fun i h1 h2 => h2) (fun i h1 h2 => by have h2 : ((Value.slice VA l.length vc)).ownBlock = some i := h2; exfalso; have := (World.ownsRow.lt hOV i h2).1; omega)
      replace H38 := H38.keep K50 (by intro h; change ((Value.slice VA l.length vc)).ownBlock = some b35 at h; have := ob41 b35 h; omega)
      clear hOV
      replace hP := PartsOwn.keep2 hP K50 (fun x hx i hi hs => by have hs : ((Value.slice VA l.length vc)).ownBlock = some i := hs; exact hPV x hx i hi hs)
      clear F15
      clear F16
      replace O28 := own_keep O28 K50 (fun i hi hs => by have hs : ((Value.slice VA l.length vc)).ownBlock = some i := hs; exact oo31 i hi hs)
      have hP56 : PartsOwn 5 w45 w.heap.size (l ++ [(⟨A32, c33, (firstB rest).1⟩ : PartP)]) := PartsOwn.add (x := (⟨A32, c33, (firstB rest).1⟩ : PartP)) hP O28
      clear hP
      clear K50 hr46 hK48 hg49
      refine Ops.regs 1 [(0, (Value.slice A rest.length c)), (2, (Value.slice none 0 0)), (3, (Value.slice A51 ((l ++ [(⟨A32, c33, (firstB rest).1⟩ : PartP)]).length) c52)), (4, (Value.slice A11 ((firstB rest).1.length) c12)), (5, (Value.slice A13 ((firstB rest).2.1.length) c14)), (6, (i64 ((firstB rest).2.2))), (7, (Value.slice A32 (((firstB rest).1).length) c33)), (10, (Value.bool true)), (18, (Value.bool false))] (j := 5) (by kernel_rfl) (by kernel_rfl) ?_
      refine Ops.done (by kernel_rfl) ?_
      refine q_region (by kernel_rfl) ?_
      refine Ops.regs 2 [(0, (Value.slice A13 ((firstB rest).2.1.length) c14)), (2, (Value.slice none 0 0)), (3, (Value.slice A51 ((l ++ [(⟨A32, c33, (firstB rest).1⟩ : PartP)]).length) c52)), (4, (Value.slice A11 ((firstB rest).1.length) c12)), (5, (Value.slice A13 ((firstB rest).2.1.length) c14)), (6, (i64 ((firstB rest).2.2))), (7, (Value.slice A32 (((firstB rest).1).length) c33)), (10, (Value.bool true)), (18, (Value.bool false))] (j := 2) (by kernel_rfl) (by kernel_rfl) ?_
      refine Ops.keep (R := [(0, (Value.slice A13 (((firstB rest).2.1).length) c14)), (2, (Value.slice none 0 0)), (3, (Value.slice A51 ((l ++ [(⟨A32, c33, (firstB rest).1⟩ : PartP)]).length) c52))]) (by kernel_rfl) ?_
      refine Ops.done (by kernel_rfl) ?_
      exact ⟨(A51, c52, l ++ [(⟨A32, c33, (firstB rest).1⟩ : PartP)], A13, c14, (firstB rest).2.1), ⟨rfl, hO47, hP56, (hq10 _ hR), (by rw [← hE, hff.1, List.map_append, List.append_assoc]; rfl), (by omega), K2⟩, (show ((firstB rest).2.1).length < rest.length from by omega)⟩
  · rw [h3]
    have p57 : ¬ (((rest.length : Nat) : Int) > 0) := of_decide_eq_false h3
    refine q_exit (id := 0) (by kernel_rfl) ?_
    refine q_seq (by kernel_rfl) ?_
    refine q_region (by kernel_rfl) ?_
    refine Ops.regs 2 [(2, (Value.slice VA l.length vc))] (j := 2) (by kernel_rfl) (by kernel_rfl) ?_
    refine Ops.done (by kernel_rfl) ?_
    refine q_ret (by kernel_rfl) ?_
    refine ⟨(Value.slice VA l.length vc), retv_tmp rfl rfl, ?_⟩
    have hz := frames_stop (bs := rest) (by omega)
    rw [hz, List.append_nil] at hE
    exact ⟨l, _, _, rfl, K2, hOV, hP, hE⟩
end Go.Proofs.Ytnepjfnkaigakaa
