/- codec: sums, frames; the fixed calls -/
import Derived.Test.YtnepjfnkaigakaaProg
import Derived.Test.YtnepjfnkaigakaaKA
set_option linter.unusedVariables false
namespace Go.Proofs.Ytnepjfnkaigakaa
open Go.Q Go.RowKit

theorem Text_calls (w : World) (v : Value) (xs : List UInt8) (ss : List UInt8) (hv : RdB w v xs) (hs : ss.length ≤ 70368744173568) (hl : xs.length ≤ 70368744173568) : Calls Try.prog 30 ⟨[v, (Value.string (str ss))]⟩ w (fun e w' => ∃ v', e = .returned v' ∧ Keeps none_ w w' ∧ OwnB w' w.heap.size 5 v' (xs ++ tv ss)) := by
  have K0 : Keeps none_ w w := Keeps.refl w
  refine q_calls Try.func30 (by kernel_rfl) (by kernel_rfl) ?_
  refine q_seq (by kernel_rfl) ?_
  refine q_region (by kernel_rfl) ?_
  refine Ops.regs 1 [(0, v), (1, (Value.string (str ss))), (4, (Value.slice none 0 0))] (j := 1) (by kernel_rfl) (by kernel_rfl) ?_
  refine Ops.done (by kernel_rfl) ?_
  refine q_seq (by kernel_rfl) ?_
  refine q_region (by kernel_rfl) ?_
  refine Ops.regs 4 [(1, (Value.string (str ss))), (4, (Value.slice none 0 0)), (5, v), (8, (Value.int IntKind.u64 (IntKind.u64.wrap (((ss.length : Nat) : Int)))))] (j := 4) (by kernel_rfl) (by kernel_rfl) ?_
  have e1 : IntKind.u64.wrap (((ss.length : Nat) : Int)) = ((ss.length : Nat) : Int) := wrap_u64 (by omega) (by omega)
  rw [e1]
  refine Ops.call (by kernel_rfl) (d := (some 9)) (by kernel_rfl) (Uint_calls _ v xs ss.length (hv.keep0 (by omega) K0) (by omega) (by (try simp only at *); (try simp only [List.length_append] at *); (try simp only [List.length_cons] at *); (try simp only [List.length_nil] at *); omega)) ?_
  rintro _ w4 ⟨v3, rfl, K5, hO6⟩
  have O7 := own_base hO6 K0.size
  clear hO6
  have hL2 := uv_length_10 (n := ss.length) (by omega)
  refine ⟨_, _, rfl, rfl, ?_⟩
  replace K0 := K0.trans K5 (U := none_) (fun i h1 h2 => h2) (fun i h1 h2 => by exact h2)
  clear K5
  refine Ops.regs 1 [(4, (Value.slice none 0 0)), (9, v3), (10, (Value.string (str ss)))] (j := 6) (by kernel_rfl) (by kernel_rfl) ?_
  obtain ⟨v8, w9, hr10, hO11, K12⟩ := OwnB.appS (t := 23) (u := 9) (ty := 23) (ys := ss) (by kernel_rfl) O7 (by (try simp only at *); (try simp only [List.length_append] at *); (try simp only [List.length_cons] at *); (try simp only [List.length_nil] at *); omega) K0.size
  refine Ops.go (v := v8) (by kernel_rfl) (Runs.append (ts := #[23, 9]) (ty := 23) (vs := [v3, (Value.string (str ss))]) (by kernel_rfl) hr10) (d := (some 11)) (by kernel_rfl) rfl ?_
  have K13 := Keeps.own2 K0 K12
  clear O7 K0 hr10 K12
  refine Ops.regs 1 [(4, v8)] (j := 8) (by kernel_rfl) (by kernel_rfl) ?_
  refine Ops.done (by kernel_rfl) ?_
  refine q_ret (by kernel_rfl) ?_
  refine ⟨v8, retv_tmp rfl rfl, ?_⟩
  have hfin : xs ++ uv ss.length ++ ss = xs ++ tv ss := by simp [tv]
  rw [hfin] at hO11
  exact ⟨_, rfl, K13, hO11⟩

theorem shifted_calls (w : World) (r : Nat) (hr : r < 4294967296) : Calls Try.prog 82 ⟨[(Value.int IntKind.u32 ((r : Nat) : Int))]⟩ w (fun e w' => e = .returned (.int .u32 ((shiftB r : Nat) : Int)) ∧ w = w') := by
  refine q_calls Try.func82 (by kernel_rfl) (by kernel_rfl) ?_
  refine q_seq (by kernel_rfl) ?_
  refine q_region (by kernel_rfl) ?_
  refine Ops.regs 1 [(0, (Value.int IntKind.u32 ((r : Nat) : Int))), (2, (Value.int IntKind.u32 0))] (j := 1) (by kernel_rfl) (by kernel_rfl) ?_
  refine Ops.done (by kernel_rfl) ?_
  refine q_seq (by kernel_rfl) ?_
  refine q_region (by kernel_rfl) ?_
  refine Ops.regs 2 [(0, (Value.int IntKind.u32 ((r : Nat) : Int))), (2, (Value.int IntKind.u32 0)), (4, (Value.int IntKind.u32 ((((r : Nat) : Int)).fdiv 2)))] (j := 2) (by kernel_rfl) (by kernel_rfl) ?_
  have e1 : (((r : Nat) : Int)).fdiv 2 = ((r / 2 : Nat) : Int) := fdiv_nat r 2
  rw [e1]
  clear e1
  refine Ops.regs 1 [(2, (Value.int IntKind.u32 0)), (4, (Value.int IntKind.u32 ((r / 2 : Nat) : Int))), (5, (Value.int IntKind.u32 ((r : Nat) : Int)))] (j := 3) (by kernel_rfl) (by kernel_rfl) ?_
  have hb2 : r &&& 1 < 4294967296 := and32_lt (by omega)
  refine Ops.go (v := (Value.int IntKind.u32 ((r &&& 1 : Nat) : Int))) (by kernel_rfl) (Runs.int (op := .and) (t := 91) (by kernel_rfl) (run_and32 (a := r) (b := 1) (by omega) (by omega))) (d := (some 6)) (by kernel_rfl) rfl ?_
  have hb3 := neg32_lt (r &&& 1)
  refine Ops.go (v := (Value.int IntKind.u32 ((neg32 (r &&& 1) : Nat) : Int))) (by kernel_rfl) (Runs.un (op := .neg) (by kernel_rfl) (run_neg32 (a := (r &&& 1)) (by omega))) (d := (some 7)) (by kernel_rfl) rfl ?_
  have hb4 : 2197175160 &&& (neg32 (r &&& 1)) < 4294967296 := and32_lt (by omega)
  refine Ops.go (v := (Value.int IntKind.u32 ((2197175160 &&& (neg32 (r &&& 1)) : Nat) : Int))) (by kernel_rfl) (Runs.int (op := .and) (t := 91) (by kernel_rfl) (run_and32 (a := 2197175160) (b := (neg32 (r &&& 1))) (by omega) (by omega))) (d := (some 8)) (by kernel_rfl) rfl ?_
  have hb5 : (r / 2) ^^^ (2197175160 &&& (neg32 (r &&& 1))) < 4294967296 := xor32_lt (by omega) (by omega)
  refine Ops.go (v := (Value.int IntKind.u32 (((r / 2) ^^^ (2197175160 &&& (neg32 (r &&& 1))) : Nat) : Int))) (by kernel_rfl) (Runs.int (op := .xor) (t := 91) (by kernel_rfl) (run_xor32 (a := (r / 2)) (b := (2197175160 &&& (neg32 (r &&& 1)))) (by omega) (by omega))) (d := (some 9)) (by kernel_rfl) rfl ?_
  refine Ops.regs 1 [(2, (Value.int IntKind.u32 (((r / 2) ^^^ (2197175160 &&& (neg32 (r &&& 1))) : Nat) : Int)))] (j := 8) (by kernel_rfl) (by kernel_rfl) ?_
  refine Ops.done (by kernel_rfl) ?_
  refine q_ret (by kernel_rfl) ?_
  refine ⟨(Value.int IntKind.u32 (((r / 2) ^^^ (2197175160 &&& (neg32 (r &&& 1))) : Nat) : Int)), retv_tmp rfl rfl, ?_⟩
  exact ⟨rfl, rfl⟩

theorem More_calls (w : World) (A : Option Addr) (c s : Nat) (bs : List UInt8) (hs : s < 4294967296) (hv : RdB w (.slice A bs.length c) bs) (hl : bs.length ≤ 140737488351232) : Calls Try.prog 79 ⟨[(Value.int IntKind.u32 ((s : Nat) : Int)), (Value.slice A bs.length c)]⟩ w (fun e w' => e = .returned (.int .u32 ((crcMore s bs : Nat) : Int)) ∧ Keeps none_ w w') := by
  have K0 : Keeps none_ w w := Keeps.refl w
  refine q_calls Try.func79 (by kernel_rfl) (by kernel_rfl) ?_
  refine q_seq (by kernel_rfl) ?_
  refine q_region (by kernel_rfl) ?_
  refine Ops.regs 1 [(0, (Value.int IntKind.u32 ((s : Nat) : Int))), (1, (Value.slice A bs.length c)), (4, (Value.int IntKind.u32 0))] (j := 1) (by kernel_rfl) (by kernel_rfl) ?_
  refine Ops.done (by kernel_rfl) ?_
  refine q_seq (by kernel_rfl) ?_
  refine q_region (by kernel_rfl) ?_
  refine Ops.regs 1 [(1, (Value.slice A bs.length c)), (4, (Value.int IntKind.u32 0)), (8, (Value.int IntKind.u32 ((s : Nat) : Int)))] (j := 1) (by kernel_rfl) (by kernel_rfl) ?_
  have hb1 : 4294967295 ^^^ s < 4294967296 := xor32_lt (by omega) (by omega)
  refine Ops.go (v := (Value.int IntKind.u32 ((4294967295 ^^^ s : Nat) : Int))) (by kernel_rfl) (Runs.un (op := .xor) (by kernel_rfl) (run_not32 (a := s) (by omega))) (d := (some 9)) (by kernel_rfl) rfl ?_
  refine Ops.regs 1 [(1, (Value.slice A bs.length c)), (4, (Value.int IntKind.u32 0)), (5, (Value.int IntKind.u32 ((4294967295 ^^^ s : Nat) : Int)))] (j := 3) (by kernel_rfl) (by kernel_rfl) ?_
  refine Ops.done (by kernel_rfl) ?_
  refine q_seq (by kernel_rfl) ?_
  refine q_seq (by kernel_rfl) ?_
  refine q_region (by kernel_rfl) ?_
  refine Ops.regs 3 [(4, (Value.int IntKind.u32 0)), (5, (Value.int IntKind.u32 ((4294967295 ^^^ s : Nat) : Int))), (10, (Value.slice A bs.length c)), (11, (i64 ((bs.length : Nat) : Int))), (12, (i64 0))] (j := 3) (by kernel_rfl) (by kernel_rfl) ?_
  refine Ops.done (by kernel_rfl) ?_
  refine q_block (id := 0) (by kernel_rfl) ?_
  refine q_keep (R := [(4, (Value.int IntKind.u32 0)), (5, (Value.int IntKind.u32 ((4294967295 ^^^ s : Nat) : Int))), (10, (Value.slice A bs.length c)), (11, (i64 ((bs.length : Nat) : Int))), (12, (i64 0))]) (by kernel_rfl) ?_
  refine q_loop (fun (gs : Nat × Nat) L (wx : World) => match gs with | (i, r) => L = [(4, (Value.int IntKind.u32 0)), (5, (Value.int IntKind.u32 ((r : Nat) : Int))), (10, (Value.slice A bs.length c)), (11, (i64 ((bs.length : Nat) : Int))), (12, (i64 ((i : Nat) : Int)))] ∧ r = (bs.take i).foldl crcByte (4294967295 ^^^ s) ∧ r < 4294967296 ∧ i ≤ bs.length ∧ Keeps none_ w wx) (fun (gs : Nat × Nat) => match gs with | (i, r) => bs.length - i) (0, 4294967295 ^^^ s) (by kernel_rfl) ⟨rfl, rfl, (xor32_lt (by omega) hs), (by omega), K0⟩ ?_
  clear K0
  rintro ⟨i, r⟩ _ w2 ⟨rfl, hE, hr, hil, K3⟩
  refine q_seq (by kernel_rfl) ?_
  refine q_region (by kernel_rfl) ?_
  refine Ops.regs 1 [(4, (Value.int IntKind.u32 0)), (5, (Value.int IntKind.u32 ((r : Nat) : Int))), (10, (Value.slice A bs.length c)), (11, (i64 ((bs.length : Nat) : Int))), (12, (i64 ((i : Nat) : Int))), (13, (Value.bool (decide (((i : Nat) : Int) < ((bs.length : Nat) : Int)))))] (j := 1) (by kernel_rfl) (by kernel_rfl) ?_
  refine Ops.done (by kernel_rfl) ?_
  refine q_seq (by kernel_rfl) ?_
  refine q_cond (o := .tmp 13) (b := (decide (((i : Nat) : Int) < ((bs.length : Nat) : Int)))) (by kernel_rfl) rfl (fun h4 => ?_) (fun h4 => ?_)
  · rw [h4]
    have p5 : ((i : Nat) : Int) < ((bs.length : Nat) : Int) := of_decide_eq_true h4
    obtain ⟨x, lb, lo, hx, hA, hLd⟩ := RdB.at (P := Try.prog) (t := 5) hv (k := i) (by kernel_rfl) (by omega)
    have hx256 : x.toNat < 256 := x.toNat_lt
    refine q_skip (by kernel_rfl) ?_
    refine q_seq (by kernel_rfl) ?_
    refine q_block (id := 1) (by kernel_rfl) ?_
    refine q_seq (by kernel_rfl) ?_
    refine q_region (by kernel_rfl) ?_
    refine Ops.go (by kernel_rfl) (Runs.ixSliceE (k := IntKind.i64) (t := 23) (len := bs.length) (cap := c) (s := 1) (off' := lo + i) (i := ((i : Nat) : Int)) hA (by kernel_rfl) (by kernel_rfl) (by omega) (by omega) (by omega)) (d := (some 14)) (by kernel_rfl) rfl ?_
    refine Ops.go (v := (Value.int IntKind.u8 ((x.toNat : Nat) : Int))) (by kernel_rfl) (Runs.load (t := 5) (a := ⟨lb, lo + i, none⟩) (by kernel_rfl) (hLd _ _ K3 (fun h => h))) (d := (some 15)) (by kernel_rfl) rfl ?_
    refine Ops.regs 1 [(4, (Value.int IntKind.u32 0)), (5, (Value.int IntKind.u32 ((r : Nat) : Int))), (7, (Value.int IntKind.u8 ((x.toNat : Nat) : Int))), (10, (Value.slice A bs.length c)), (11, (i64 ((bs.length : Nat) : Int))), (12, (i64 ((i : Nat) : Int))), (13, (Value.bool true))] (j := 3) (by kernel_rfl) (by kernel_rfl) ?_
    refine Ops.done (by kernel_rfl) ?_
    refine q_seq (by kernel_rfl) ?_
    refine q_region (by kernel_rfl) ?_
    refine Ops.regs 3 [(4, (Value.int IntKind.u32 0)), (5, (Value.int IntKind.u32 ((r : Nat) : Int))), (7, (Value.int IntKind.u8 ((x.toNat : Nat) : Int))), (10, (Value.slice A bs.length c)), (11, (i64 ((bs.length : Nat) : Int))), (12, (i64 ((i : Nat) : Int))), (13, (Value.bool true)), (16, (Value.int IntKind.u32 ((r : Nat) : Int))), (18, (Value.int IntKind.u32 (IntKind.u32.wrap (((x.toNat : Nat) : Int)))))] (j := 3) (by kernel_rfl) (by kernel_rfl) ?_
    have e6 : IntKind.u32.wrap (((x.toNat : Nat) : Int)) = ((x.toNat : Nat) : Int) := wrap_u32 (by omega) (by omega)
    rw [e6]
    have hb7 : r ^^^ x.toNat < 4294967296 := xor32_lt (by omega) (by omega)
    refine Ops.go (v := (Value.int IntKind.u32 ((r ^^^ x.toNat : Nat) : Int))) (by kernel_rfl) (Runs.int (op := .xor) (t := 91) (by kernel_rfl) (run_xor32 (a := r) (b := x.toNat) (by omega) (by omega))) (d := (some 19)) (by kernel_rfl) rfl ?_
    refine Ops.regs 1 [(4, (Value.int IntKind.u32 0)), (5, (Value.int IntKind.u32 ((r ^^^ x.toNat : Nat) : Int))), (7, (Value.int IntKind.u8 ((x.toNat : Nat) : Int))), (10, (Value.slice A bs.length c)), (11, (i64 ((bs.length : Nat) : Int))), (12, (i64 ((i : Nat) : Int))), (13, (Value.bool true))] (j := 5) (by kernel_rfl) (by kernel_rfl) ?_
    refine Ops.done (by kernel_rfl) ?_
    refine q_seq (by kernel_rfl) ?_
    refine q_region (by kernel_rfl) ?_
    refine Ops.regs 1 [(4, (Value.int IntKind.u32 0)), (5, (Value.int IntKind.u32 ((r ^^^ x.toNat : Nat) : Int))), (7, (Value.int IntKind.u8 ((x.toNat : Nat) : Int))), (10, (Value.slice A bs.length c)), (11, (i64 ((bs.length : Nat) : Int))), (12, (i64 ((i : Nat) : Int))), (13, (Value.bool true)), (20, (i64 0))] (j := 1) (by kernel_rfl) (by kernel_rfl) ?_
    refine Ops.done (by kernel_rfl) ?_
    refine q_block (id := 2) (by kernel_rfl) ?_
    refine q_keep (R := [(4, (Value.int IntKind.u32 0)), (5, (Value.int IntKind.u32 ((r ^^^ x.toNat : Nat) : Int))), (7, (Value.int IntKind.u8 ((x.toNat : Nat) : Int))), (10, (Value.slice A bs.length c)), (11, (i64 ((bs.length : Nat) : Int))), (12, (i64 ((i : Nat) : Int))), (13, (Value.bool true)), (20, (i64 0))]) (by kernel_rfl) ?_
    refine q_loop (fun (gs : Nat × Nat) L (wx : World) => match gs with | (k, q) => L = [(4, (Value.int IntKind.u32 0)), (5, (Value.int IntKind.u32 ((q : Nat) : Int))), (7, (Value.int IntKind.u8 ((x.toNat : Nat) : Int))), (10, (Value.slice A bs.length c)), (11, (i64 ((bs.length : Nat) : Int))), (12, (i64 ((i : Nat) : Int))), (13, (Value.bool true)), (20, (i64 ((k : Nat) : Int)))] ∧ q = shiftN k (r ^^^ x.toNat) ∧ q < 4294967296 ∧ k ≤ 8 ∧ Keeps none_ w wx) (fun (gs : Nat × Nat) => match gs with | (k, q) => 8 - k) (0, r ^^^ x.toNat) (by kernel_rfl) ⟨rfl, rfl, (xor32_lt hr (by omega)), (by omega), K3⟩ ?_
    clear K3
    rintro ⟨k, q⟩ _ w8 ⟨rfl, hq, hq2, hk, K9⟩
    refine q_seq (by kernel_rfl) ?_
    refine q_region (by kernel_rfl) ?_
    refine Ops.regs 1 [(4, (Value.int IntKind.u32 0)), (5, (Value.int IntKind.u32 ((q : Nat) : Int))), (7, (Value.int IntKind.u8 ((x.toNat : Nat) : Int))), (10, (Value.slice A bs.length c)), (11, (i64 ((bs.length : Nat) : Int))), (12, (i64 ((i : Nat) : Int))), (13, (Value.bool true)), (20, (i64 ((k : Nat) : Int))), (21, (Value.bool (decide (((k : Nat) : Int) < 8))))] (j := 1) (by kernel_rfl) (by kernel_rfl) ?_
    refine Ops.done (by kernel_rfl) ?_
    refine q_seq (by kernel_rfl) ?_
    refine q_cond (o := .tmp 21) (b := (decide (((k : Nat) : Int) < 8))) (by kernel_rfl) rfl (fun h10 => ?_) (fun h10 => ?_)
    · rw [h10]
      have p11 : ((k : Nat) : Int) < 8 := of_decide_eq_true h10
      refine q_skip (by kernel_rfl) ?_
      refine q_seq (by kernel_rfl) ?_
      refine q_block (id := 3) (by kernel_rfl) ?_
      refine q_region (by kernel_rfl) ?_
      refine Ops.regs 1 [(4, (Value.int IntKind.u32 0)), (5, (Value.int IntKind.u32 ((q : Nat) : Int))), (7, (Value.int IntKind.u8 ((x.toNat : Nat) : Int))), (10, (Value.slice A bs.length c)), (11, (i64 ((bs.length : Nat) : Int))), (12, (i64 ((i : Nat) : Int))), (13, (Value.bool true)), (20, (i64 ((k : Nat) : Int))), (21, (Value.bool true)), (22, (Value.int IntKind.u32 ((q : Nat) : Int)))] (j := 1) (by kernel_rfl) (by kernel_rfl) ?_
      refine Ops.call (by kernel_rfl) (d := (some 23)) (by kernel_rfl) (shifted_calls _ q (by omega)) ?_
      rintro _ _ ⟨rfl, rfl⟩
      refine ⟨_, _, rfl, rfl, ?_⟩
      refine Ops.regs 1 [(4, (Value.int IntKind.u32 0)), (5, (Value.int IntKind.u32 ((shiftB q : Nat) : Int))), (7, (Value.int IntKind.u8 ((x.toNat : Nat) : Int))), (10, (Value.slice A bs.length c)), (11, (i64 ((bs.length : Nat) : Int))), (12, (i64 ((i : Nat) : Int))), (13, (Value.bool true)), (20, (i64 ((k : Nat) : Int))), (21, (Value.bool true))] (j := 3) (by kernel_rfl) (by kernel_rfl) ?_
      refine Ops.done (by kernel_rfl) ?_
      refine q_region (by kernel_rfl) ?_
      refine Ops.regs 1 [(4, (Value.int IntKind.u32 0)), (5, (Value.int IntKind.u32 ((shiftB q : Nat) : Int))), (7, (Value.int IntKind.u8 ((x.toNat : Nat) : Int))), (10, (Value.slice A bs.length c)), (11, (i64 ((bs.length : Nat) : Int))), (12, (i64 ((i : Nat) : Int))), (13, (Value.bool true)), (20, (i64 ((k : Nat) : Int))), (21, (Value.bool true)), (24, (i64 (IntKind.i64.wrap (((k : Nat) : Int) + 1))))] (j := 1) (by kernel_rfl) (by kernel_rfl) ?_
      have e12 : IntKind.i64.wrap (((k : Nat) : Int) + 1) = ((k + 1 : Nat) : Int) := by rw [wrap_i64 (by omega) (by omega)]; omega
      rw [e12]
      clear e12
      refine Ops.regs 1 [(4, (Value.int IntKind.u32 0)), (5, (Value.int IntKind.u32 ((shiftB q : Nat) : Int))), (7, (Value.int IntKind.u8 ((x.toNat : Nat) : Int))), (10, (Value.slice A bs.length c)), (11, (i64 ((bs.length : Nat) : Int))), (12, (i64 ((i : Nat) : Int))), (13, (Value.bool true)), (20, (i64 ((k + 1 : Nat) : Int))), (21, (Value.bool true))] (j := 2) (by kernel_rfl) (by kernel_rfl) ?_
      refine Ops.keep (R := [(4, (Value.int IntKind.u32 0)), (5, (Value.int IntKind.u32 ((shiftB q : Nat) : Int))), (7, (Value.int IntKind.u8 ((x.toNat : Nat) : Int))), (10, (Value.slice A bs.length c)), (11, (i64 ((bs.length : Nat) : Int))), (12, (i64 ((i : Nat) : Int))), (13, (Value.bool true)), (20, (i64 ((k + 1 : Nat) : Int)))]) (by kernel_rfl) ?_
      refine Ops.done (by kernel_rfl) ?_
      exact ⟨(k + 1, shiftB q), ⟨rfl, (by rw [hq]; rfl), (shiftB_lt hq2), (by omega), K9⟩, (show 8 - (k + 1) < 8 - k from by omega)⟩
    · rw [h10]
      have p13 : ¬ (((k : Nat) : Int) < 8) := of_decide_eq_false h10
      refine q_exit (id := 2) (by kernel_rfl) ?_
      refine q_region (by kernel_rfl) ?_
      refine Ops.regs 1 [(4, (Value.int IntKind.u32 0)), (5, (Value.int IntKind.u32 ((q : Nat) : Int))), (7, (Value.int IntKind.u8 ((x.toNat : Nat) : Int))), (10, (Value.slice A bs.length c)), (11, (i64 ((bs.length : Nat) : Int))), (12, (i64 ((i : Nat) : Int))), (13, (Value.bool true)), (20, (i64 ((k : Nat) : Int))), (21, (Value.bool false)), (25, (i64 (IntKind.i64.wrap (((i : Nat) : Int) + 1))))] (j := 1) (by kernel_rfl) (by kernel_rfl) ?_
      have e14 : IntKind.i64.wrap (((i : Nat) : Int) + 1) = ((i + 1 : Nat) : Int) := by rw [wrap_i64 (by omega) (by omega)]; omega
      rw [e14]
      clear e14
      refine Ops.regs 1 [(4, (Value.int IntKind.u32 0)), (5, (Value.int IntKind.u32 ((q : Nat) : Int))), (7, (Value.int IntKind.u8 ((x.toNat : Nat) : Int))), (10, (Value.slice A bs.length c)), (11, (i64 ((bs.length : Nat) : Int))), (12, (i64 ((i + 1 : Nat) : Int))), (13, (Value.bool true)), (20, (i64 ((k : Nat) : Int))), (21, (Value.bool false))] (j := 2) (by kernel_rfl) (by kernel_rfl) ?_
      refine Ops.keep (R := [(4, (Value.int IntKind.u32 0)), (5, (Value.int IntKind.u32 ((q : Nat) : Int))), (10, (Value.slice A bs.length c)), (11, (i64 ((bs.length : Nat) : Int))), (12, (i64 ((i + 1 : Nat) : Int)))]) (by kernel_rfl) ?_
      refine Ops.done (by kernel_rfl) ?_
      exact ⟨(i + 1, q), ⟨rfl, (by rw [fold_take hx, ← hE, hq, show k = 8 from by omega]; rfl), hq2, (by omega), K9⟩, (show bs.length - (i + 1) < bs.length - i from by omega)⟩
  · rw [h4]
    have p15 : ¬ (((i : Nat) : Int) < ((bs.length : Nat) : Int)) := of_decide_eq_false h4
    refine q_exit (id := 0) (by kernel_rfl) ?_
    refine q_seq (by kernel_rfl) ?_
    refine q_region (by kernel_rfl) ?_
    refine Ops.regs 1 [(4, (Value.int IntKind.u32 0)), (26, (Value.int IntKind.u32 ((r : Nat) : Int)))] (j := 1) (by kernel_rfl) (by kernel_rfl) ?_
    have hb16 : 4294967295 ^^^ r < 4294967296 := xor32_lt (by omega) (by omega)
    refine Ops.go (v := (Value.int IntKind.u32 ((4294967295 ^^^ r : Nat) : Int))) (by kernel_rfl) (Runs.un (op := .xor) (by kernel_rfl) (run_not32 (a := r) (by omega))) (d := (some 27)) (by kernel_rfl) rfl ?_
    refine Ops.regs 1 [(4, (Value.int IntKind.u32 ((4294967295 ^^^ r : Nat) : Int)))] (j := 3) (by kernel_rfl) (by kernel_rfl) ?_
    refine Ops.done (by kernel_rfl) ?_
    refine q_ret (by kernel_rfl) ?_
    refine ⟨(Value.int IntKind.u32 ((4294967295 ^^^ r : Nat) : Int)), retv_tmp rfl rfl, ?_⟩
    have e : 4294967295 ^^^ r = crcMore s bs := by rw [hE, show i = bs.length from by omega, List.take_length]; rfl
    exact ⟨by rw [e], K3⟩

theorem More_any (w : World) (v : Value) (s : Nat) (bs : List UInt8) (hs : s < 4294967296) (hv : RdB w v bs) (hl : bs.length ≤ 140737488351232) : Calls Try.prog 79 ⟨[.int .u32 ((s : Nat) : Int), v]⟩ w (fun e w' => e = .returned (.int .u32 ((crcMore s bs : Nat) : Int)) ∧ Keeps none_ w w') := by
  obtain ⟨A, c, rfl⟩ := hv.form
  exact More_calls w A c s bs hs hv hl

theorem Sum_calls (w : World) (v : Value) (bs : List UInt8) (hv : RdB w v bs) (hl : bs.length ≤ 140737488351232) : Calls Try.prog 61 ⟨[v]⟩ w (fun e w' => e = .returned (.int .u32 ((crcMore 0 bs : Nat) : Int)) ∧ Keeps none_ w w') := by
  have K0 : Keeps none_ w w := Keeps.refl w
  refine q_calls Try.func61 (by kernel_rfl) (by kernel_rfl) ?_
  refine q_seq (by kernel_rfl) ?_
  refine q_region (by kernel_rfl) ?_
  refine Ops.regs 1 [(0, v), (2, (Value.int IntKind.u32 0))] (j := 1) (by kernel_rfl) (by kernel_rfl) ?_
  refine Ops.done (by kernel_rfl) ?_
  refine q_seq (by kernel_rfl) ?_
  refine q_region (by kernel_rfl) ?_
  refine Ops.regs 1 [(2, (Value.int IntKind.u32 0)), (3, v)] (j := 1) (by kernel_rfl) (by kernel_rfl) ?_
  refine Ops.call (by kernel_rfl) (d := (some 4)) (by kernel_rfl) (More_any _ v 0 bs (by omega) (hv.keep0 (by omega) K0) (by omega)) ?_
  rintro _ w1 ⟨rfl, K2⟩
  refine ⟨_, _, rfl, rfl, ?_⟩
  replace K0 := K0.trans K2 (U := none_) (fun i h1 h2 => h2) (fun i h1 h2 => by exact h2)
  clear K2
  refine Ops.regs 1 [(2, (Value.int IntKind.u32 ((crcMore 0 bs : Nat) : Int)))] (j := 3) (by kernel_rfl) (by kernel_rfl) ?_
  refine Ops.done (by kernel_rfl) ?_
  refine q_ret (by kernel_rfl) ?_
  refine ⟨(Value.int IntKind.u32 ((crcMore 0 bs : Nat) : Int)), retv_tmp rfl rfl, ?_⟩
  exact ⟨rfl, K0⟩

theorem At_calls (w : World) (b : Nat) (A : Option Addr) (c : Nat) (r : Rdr) (hok : r.Ok) (H0 : Has w b (rowL (rdrL A c r) 88)) (hR : RdO w A c r.bs) (hne : ∀ g o s, A = some ⟨g, o, s⟩ → g ≠ b) : Calls Try.prog 16 ⟨[(ptr b)]⟩ w (fun e w' => e = .returned (i64 ((r.pos : Nat) : Int)) ∧ Keeps none_ w w') := by
  have hpos := hok.pos
  have hlen := hok.len
  have hsc := r.scan_le
  have hdl : (r.bs.drop r.pos).length = r.bs.length - r.pos := List.length_drop
  have hcap := hR.1.slice
  have Hb := H0.lt
  have K0 : Keeps none_ w w := Keeps.refl w
  refine q_calls Try.func16 (by kernel_rfl) (by kernel_rfl) ?_
  refine q_seq (by kernel_rfl) ?_
  refine q_region (by kernel_rfl) ?_
  refine Ops.regs 1 [(0, (ptr b)), (2, (i64 0))] (j := 1) (by kernel_rfl) (by kernel_rfl) ?_
  refine Ops.done (by kernel_rfl) ?_
  refine q_seq (by kernel_rfl) ?_
  refine q_seq (by kernel_rfl) ?_
  refine q_region (by kernel_rfl) ?_
  refine Ops.regs 2 [(0, (ptr b)), (2, (i64 0)), (4, (Value.bool false))] (j := 2) (by kernel_rfl) (by kernel_rfl) ?_
  refine Ops.done (by kernel_rfl) ?_
  refine q_else (o := .tmp 4) (by kernel_rfl) rfl ?_
  refine q_skip (by kernel_rfl) ?_
  refine q_seq (by kernel_rfl) ?_
  refine q_region (by kernel_rfl) ?_
  refine Ops.regs 3 [(2, (i64 0)), (7, (Value.pointer (some ⟨b, 1, none⟩)))] (j := 3) (by kernel_rfl) (by kernel_rfl) ?_
  refine Ops.go (v := (i64 ((r.pos : Nat) : Int))) (by kernel_rfl) (Runs.load (t := 3) (a := ⟨b, 1, none⟩) (by kernel_rfl) (H0.loads (by kernel_rfl))) (d := (some 8)) (by kernel_rfl) rfl ?_
  refine Ops.regs 1 [(2, (i64 ((r.pos : Nat) : Int)))] (j := 5) (by kernel_rfl) (by kernel_rfl) ?_
  refine Ops.done (by kernel_rfl) ?_
  refine q_ret (by kernel_rfl) ?_
  refine ⟨(i64 ((r.pos : Nat) : Int)), retv_tmp rfl rfl, ?_⟩
  exact ⟨rfl, K0⟩

theorem Frame_long (w : World) (A : Option Addr) (c : Nat) (bs : List UInt8) (hv : RdB w (.slice A bs.length c) bs) (hl : 65536 < bs.length) : Calls Try.prog 18 ⟨[(Value.slice A bs.length c)]⟩ w (fun e w' => e = .returned (.tuple #[.slice none 0 0, i64 3]) ∧ Keeps none_ w w') := by
  have K0 : Keeps none_ w w := Keeps.refl w
  refine q_calls Try.func18 (by kernel_rfl) (by kernel_rfl) ?_
  refine q_seq (by kernel_rfl) ?_
  refine q_region (by kernel_rfl) ?_
  refine Ops.regs 2 [(0, (Value.slice A bs.length c)), (2, (Value.slice none 0 0)), (3, (i64 0))] (j := 2) (by kernel_rfl) (by kernel_rfl) ?_
  refine Ops.done (by kernel_rfl) ?_
  refine q_seq (by kernel_rfl) ?_
  refine q_seq (by kernel_rfl) ?_
  refine q_region (by kernel_rfl) ?_
  refine Ops.regs 3 [(0, (Value.slice A bs.length c)), (2, (Value.slice none 0 0)), (3, (i64 0)), (8, (Value.bool (decide (((bs.length : Nat) : Int) > 65536))))] (j := 3) (by kernel_rfl) (by kernel_rfl) ?_
  refine Ops.done (by kernel_rfl) ?_
  have h1 : (decide (((bs.length : Nat) : Int) > 65536)) = true := decide_eq_true (by omega)
  rw [h1]
  refine q_then (o := .tmp 8) (by kernel_rfl) rfl ?_
  refine q_seq (by kernel_rfl) ?_
  refine q_region (by kernel_rfl) ?_
  refine Ops.regs 2 [(0, (Value.slice A bs.length c)), (2, (Value.slice none 0 0)), (3, (i64 3))] (j := 2) (by kernel_rfl) (by kernel_rfl) ?_
  refine Ops.done (by kernel_rfl) ?_
  refine q_ret (by kernel_rfl) ?_
  refine ⟨(Value.tuple #[(Value.slice none 0 0), (i64 3)]), retv_tmp2 rfl rfl rfl, ?_⟩
  exact ⟨rfl, K0⟩

theorem Frame_calls (w : World) (A : Option Addr) (c : Nat) (bs : List UInt8) (hv : RdB w (.slice A bs.length c) bs) (hl : bs.length ≤ 65536) : Calls Try.prog 18 ⟨[(Value.slice A bs.length c)]⟩ w (fun e w' => ∃ v', e = .returned (.tuple #[v', i64 0]) ∧ Keeps none_ w w' ∧ OwnB w' w.heap.size 5 v' (frameB bs)) := by
  have K0 : Keeps none_ w w := Keeps.refl w
  refine q_calls Try.func18 (by kernel_rfl) (by kernel_rfl) ?_
  refine q_seq (by kernel_rfl) ?_
  refine q_region (by kernel_rfl) ?_
  refine Ops.regs 2 [(0, (Value.slice A bs.length c)), (2, (Value.slice none 0 0)), (3, (i64 0))] (j := 2) (by kernel_rfl) (by kernel_rfl) ?_
  refine Ops.done (by kernel_rfl) ?_
  refine q_seq (by kernel_rfl) ?_
  refine q_seq (by kernel_rfl) ?_
  refine q_region (by kernel_rfl) ?_
  refine Ops.regs 3 [(0, (Value.slice A bs.length c)), (2, (Value.slice none 0 0)), (3, (i64 0)), (8, (Value.bool (decide (((bs.length : Nat) : Int) > 65536))))] (j := 3) (by kernel_rfl) (by kernel_rfl) ?_
  refine Ops.done (by kernel_rfl) ?_
  have h1 : (decide (((bs.length : Nat) : Int) > 65536)) = false := decide_eq_false (by omega)
  rw [h1]
  refine q_else (o := .tmp 8) (by kernel_rfl) rfl ?_
  refine q_skip (by kernel_rfl) ?_
  refine q_seq (by kernel_rfl) ?_
  refine q_region (by kernel_rfl) ?_
  refine Ops.regs 3 [(0, (Value.slice A bs.length c)), (2, (Value.slice none 0 0)), (3, (i64 0)), (11, (Value.int IntKind.u64 (IntKind.u64.wrap (((bs.length : Nat) : Int)))))] (j := 3) (by kernel_rfl) (by kernel_rfl) ?_
  have e2 : IntKind.u64.wrap (((bs.length : Nat) : Int)) = ((bs.length : Nat) : Int) := wrap_u64 (by omega) (by omega)
  rw [e2]
  refine Ops.call (by kernel_rfl) (d := (some 12)) (by kernel_rfl) (Uint_calls _ (Value.slice none 0 0) [] bs.length (Rd.nil _ _) (by omega) (by (try simp only at *); (try simp only [List.length_append] at *); (try simp only [List.length_cons] at *); (try simp only [List.length_nil] at *); omega)) ?_
  rintro _ w5 ⟨v4, rfl, K6, hO7⟩
  have O8 := own_base hO7 K0.size
  clear hO7
  have hL3 := uv_length_10 (n := bs.length) (by omega)
  refine ⟨_, _, rfl, rfl, ?_⟩
  replace K0 := K0.trans K6 (U := none_) (fun i h1 h2 => h2) (fun i h1 h2 => by exact h2)
  clear K6
  refine Ops.regs 1 [(0, (Value.slice A bs.length c)), (2, (Value.slice none 0 0)), (3, (i64 0)), (4, v4)] (j := 5) (by kernel_rfl) (by kernel_rfl) ?_
  refine Ops.done (by kernel_rfl) ?_
  refine q_seq (by kernel_rfl) ?_
  refine q_region (by kernel_rfl) ?_
  refine Ops.regs 1 [(0, (Value.slice A bs.length c)), (2, (Value.slice none 0 0)), (3, (i64 0)), (4, v4), (13, (Value.slice A bs.length c))] (j := 1) (by kernel_rfl) (by kernel_rfl) ?_
  refine Ops.call (by kernel_rfl) (d := (some 14)) (by kernel_rfl) (Sum_calls _ (Value.slice A bs.length c) bs (hv.keep0 (by omega) K0) (by omega)) ?_
  rintro _ w9 ⟨rfl, K10⟩
  have hb11 := crcMore_lt bs (s := 0) (by omega)
  refine ⟨_, _, rfl, rfl, ?_⟩
  replace K0 := K0.trans K10 (U := none_) (fun i h1 h2 => h2) (fun i h1 h2 => by exact h2)
  replace O8 := own_keep0 O8 K10
  clear K10
  refine Ops.regs 1 [(0, (Value.slice A bs.length c)), (2, (Value.slice none 0 0)), (3, (i64 0)), (4, v4), (5, (Value.int IntKind.u32 ((crcMore 0 bs : Nat) : Int)))] (j := 3) (by kernel_rfl) (by kernel_rfl) ?_
  refine Ops.done (by kernel_rfl) ?_
  refine q_seq (by kernel_rfl) ?_
  refine q_seq (by kernel_rfl) ?_
  refine q_region (by kernel_rfl) ?_
  refine Ops.regs 1 [(0, (Value.slice A bs.length c)), (2, (Value.slice none 0 0)), (3, (i64 0)), (4, v4), (5, (Value.int IntKind.u32 ((crcMore 0 bs : Nat) : Int))), (15, (i64 0))] (j := 1) (by kernel_rfl) (by kernel_rfl) ?_
  refine Ops.done (by kernel_rfl) ?_
  refine q_block (id := 0) (by kernel_rfl) ?_
  refine q_roll 5 (by kernel_rfl) ?_
  refine roll_step ?_
  refine q_seq (by kernel_rfl) ?_
  refine q_region (by kernel_rfl) ?_
  refine Ops.regs 1 [(0, (Value.slice A bs.length c)), (2, (Value.slice none 0 0)), (3, (i64 0)), (4, v4), (5, (Value.int IntKind.u32 ((crcMore 0 bs : Nat) : Int))), (15, (i64 0)), (16, (Value.bool true))] (j := 1) (by kernel_rfl) (by kernel_rfl) ?_
  refine Ops.done (by kernel_rfl) ?_
  refine q_seq (by kernel_rfl) ?_
  refine q_then (o := .tmp 16) (by kernel_rfl) rfl ?_
  refine q_skip (by kernel_rfl) ?_
  refine q_seq (by kernel_rfl) ?_
  refine q_block (id := 1) (by kernel_rfl) ?_
  refine q_seq (by kernel_rfl) ?_
  refine q_region (by kernel_rfl) ?_
  refine Ops.regs 3 [(0, (Value.slice A bs.length c)), (2, (Value.slice none 0 0)), (3, (i64 0)), (4, v4), (5, (Value.int IntKind.u32 ((crcMore 0 bs : Nat) : Int))), (15, (i64 0)), (16, (Value.bool true)), (17, v4), (19, (Value.int IntKind.u8 (IntKind.u8.wrap ((crcMore 0 bs : Nat) : Int))))] (j := 3) (by kernel_rfl) (by kernel_rfl) ?_
  have e12 : IntKind.u8.wrap ((crcMore 0 bs : Nat) : Int) = (((crcMore 0 bs) % 256 : Nat) : Int) := u8_wrap (crcMore 0 bs)
  rw [e12]
  clear e12
  refine Ops.new (o := rowL [(Value.int IntKind.u8 (((crcMore 0 bs) % 256 : Nat) : Int))] 5) (V := fun b => (Value.slice (some ⟨b, 0, none⟩) 1 1)) (by kernel_rfl) (d := (some 20)) (by kernel_rfl) (fun b => rfl) (fun b13 w14 hb15 H16 K17 hs18 => ?_)
  have nb13 : w.heap.size ≤ b13 := by have := K0.size; omega
  have ob19 : ∀ i, (v4).ownBlock = some i → i < b13 := fun i hi => by have := (World.ownsRow.lt O8 i hi).2; omega
  replace K0 := K0.trans K17 (U := none_) (fun i h1 h2 => h2) (fun i h1 h2 => by exact h2)
  replace O8 := own_keep0 O8 K17
  clear K17 hs18
  obtain ⟨v20, w21, hr22, hO23, K24⟩ := OwnB.app (ty := 23) tyB O8 (lit1 (by omega) H16) (by (try simp only at *); (try simp only [List.length_append] at *); (try simp only [List.length_cons] at *); (try simp only [List.length_nil] at *); omega) K0.size
  refine Ops.go (v := v20) (by kernel_rfl) (Runs.append (ts := #[23, 23]) (ty := 23) (vs := [v4, (Value.slice (some ⟨b13, 0, none⟩) 1 1)]) (by kernel_rfl) hr22) (d := (some 21)) (by kernel_rfl) rfl ?_
  have K25 := Keeps.own2 K0 K24
  clear H16 O8 K0 hr22 K24
  refine Ops.regs 1 [(0, (Value.slice A bs.length c)), (2, (Value.slice none 0 0)), (3, (i64 0)), (4, v20), (5, (Value.int IntKind.u32 ((crcMore 0 bs : Nat) : Int))), (15, (i64 0)), (16, (Value.bool true))] (j := 6) (by kernel_rfl) (by kernel_rfl) ?_
  refine Ops.done (by kernel_rfl) ?_
  refine q_region (by kernel_rfl) ?_
  refine Ops.regs 2 [(0, (Value.slice A bs.length c)), (2, (Value.slice none 0 0)), (3, (i64 0)), (4, v20), (5, (Value.int IntKind.u32 ((crcMore 0 bs : Nat) : Int))), (15, (i64 0)), (16, (Value.bool true)), (23, (Value.int IntKind.u32 ((((crcMore 0 bs : Nat) : Int)).fdiv 256)))] (j := 2) (by kernel_rfl) (by kernel_rfl) ?_
  have e26 : (((crcMore 0 bs : Nat) : Int)).fdiv 256 = (((crcMore 0 bs) / 256 : Nat) : Int) := fdiv_nat (crcMore 0 bs) 256
  rw [e26]
  clear e26
  refine Ops.regs 1 [(0, (Value.slice A bs.length c)), (2, (Value.slice none 0 0)), (3, (i64 0)), (4, v20), (5, (Value.int IntKind.u32 (((crcMore 0 bs) / 256 : Nat) : Int))), (15, (i64 0)), (16, (Value.bool true))] (j := 3) (by kernel_rfl) (by kernel_rfl) ?_
  refine Ops.done (by kernel_rfl) ?_
  refine q_region (by kernel_rfl) ?_
  refine Ops.regs 2 [(0, (Value.slice A bs.length c)), (2, (Value.slice none 0 0)), (3, (i64 0)), (4, v20), (5, (Value.int IntKind.u32 (((crcMore 0 bs) / 256 : Nat) : Int))), (15, (i64 1)), (16, (Value.bool true))] (j := 2) (by kernel_rfl) (by kernel_rfl) ?_
  refine Ops.done (by kernel_rfl) ?_
  refine roll_step ?_
  refine q_seq (by kernel_rfl) ?_
  refine q_region (by kernel_rfl) ?_
  refine Ops.regs 1 [(0, (Value.slice A bs.length c)), (2, (Value.slice none 0 0)), (3, (i64 0)), (4, v20), (5, (Value.int IntKind.u32 (((crcMore 0 bs) / 256 : Nat) : Int))), (15, (i64 1)), (16, (Value.bool true))] (j := 1) (by kernel_rfl) (by kernel_rfl) ?_
  refine Ops.done (by kernel_rfl) ?_
  refine q_seq (by kernel_rfl) ?_
  refine q_then (o := .tmp 16) (by kernel_rfl) rfl ?_
  refine q_skip (by kernel_rfl) ?_
  refine q_seq (by kernel_rfl) ?_
  refine q_block (id := 1) (by kernel_rfl) ?_
  refine q_seq (by kernel_rfl) ?_
  refine q_region (by kernel_rfl) ?_
  refine Ops.regs 3 [(0, (Value.slice A bs.length c)), (2, (Value.slice none 0 0)), (3, (i64 0)), (4, v20), (5, (Value.int IntKind.u32 (((crcMore 0 bs) / 256 : Nat) : Int))), (15, (i64 1)), (16, (Value.bool true)), (17, v20), (19, (Value.int IntKind.u8 (IntKind.u8.wrap (((crcMore 0 bs) / 256 : Nat) : Int))))] (j := 3) (by kernel_rfl) (by kernel_rfl) ?_
  have e27 : IntKind.u8.wrap (((crcMore 0 bs) / 256 : Nat) : Int) = ((((crcMore 0 bs) / 256) % 256 : Nat) : Int) := u8_wrap ((crcMore 0 bs) / 256)
  rw [e27]
  clear e27
  refine Ops.new (o := rowL [(Value.int IntKind.u8 ((((crcMore 0 bs) / 256) % 256 : Nat) : Int))] 5) (V := fun b => (Value.slice (some ⟨b, 0, none⟩) 1 1)) (by kernel_rfl) (d := (some 20)) (by kernel_rfl) (fun b => rfl) (fun b28 w29 hb30 H31 K32 hs33 => ?_)
  have nb28 : w.heap.size ≤ b28 := by have := K25.size; omega
  have ob34 : ∀ i, (v20).ownBlock = some i → i < b28 := fun i hi => by have := (World.ownsRow.lt hO23 i hi).2; omega
  replace K25 := K25.trans K32 (U := none_) (fun i h1 h2 => h2) (fun i h1 h2 => by exact h2)
  replace hO23 := own_keep0 hO23 K32
  clear K32 hs33
  obtain ⟨v35, w36, hr37, hO38, K39⟩ := OwnB.app (ty := 23) tyB hO23 (lit1 (by omega) H31) (by (try simp only at *); (try simp only [List.length_append] at *); (try simp only [List.length_cons] at *); (try simp only [List.length_nil] at *); omega) K25.size
  refine Ops.go (v := v35) (by kernel_rfl) (Runs.append (ts := #[23, 23]) (ty := 23) (vs := [v20, (Value.slice (some ⟨b28, 0, none⟩) 1 1)]) (by kernel_rfl) hr37) (d := (some 21)) (by kernel_rfl) rfl ?_
  have K40 := Keeps.own2 K25 K39
  clear H31 hO23 K25 hr37 K39
  refine Ops.regs 1 [(0, (Value.slice A bs.length c)), (2, (Value.slice none 0 0)), (3, (i64 0)), (4, v35), (5, (Value.int IntKind.u32 (((crcMore 0 bs) / 256 : Nat) : Int))), (15, (i64 1)), (16, (Value.bool true))] (j := 6) (by kernel_rfl) (by kernel_rfl) ?_
  refine Ops.done (by kernel_rfl) ?_
  refine q_region (by kernel_rfl) ?_
  refine Ops.regs 2 [(0, (Value.slice A bs.length c)), (2, (Value.slice none 0 0)), (3, (i64 0)), (4, v35), (5, (Value.int IntKind.u32 (((crcMore 0 bs) / 256 : Nat) : Int))), (15, (i64 1)), (16, (Value.bool true)), (23, (Value.int IntKind.u32 (((((crcMore 0 bs) / 256 : Nat) : Int)).fdiv 256)))] (j := 2) (by kernel_rfl) (by kernel_rfl) ?_
  have e41 : ((((crcMore 0 bs) / 256 : Nat) : Int)).fdiv 256 = ((((crcMore 0 bs) / 256) / 256 : Nat) : Int) := fdiv_nat ((crcMore 0 bs) / 256) 256
  rw [e41]
  clear e41
  refine Ops.regs 1 [(0, (Value.slice A bs.length c)), (2, (Value.slice none 0 0)), (3, (i64 0)), (4, v35), (5, (Value.int IntKind.u32 ((((crcMore 0 bs) / 256) / 256 : Nat) : Int))), (15, (i64 1)), (16, (Value.bool true))] (j := 3) (by kernel_rfl) (by kernel_rfl) ?_
  refine Ops.done (by kernel_rfl) ?_
  refine q_region (by kernel_rfl) ?_
  refine Ops.regs 2 [(0, (Value.slice A bs.length c)), (2, (Value.slice none 0 0)), (3, (i64 0)), (4, v35), (5, (Value.int IntKind.u32 ((((crcMore 0 bs) / 256) / 256 : Nat) : Int))), (15, (i64 2)), (16, (Value.bool true))] (j := 2) (by kernel_rfl) (by kernel_rfl) ?_
  refine Ops.done (by kernel_rfl) ?_
  refine roll_step ?_
  refine q_seq (by kernel_rfl) ?_
  refine q_region (by kernel_rfl) ?_
  refine Ops.regs 1 [(0, (Value.slice A bs.length c)), (2, (Value.slice none 0 0)), (3, (i64 0)), (4, v35), (5, (Value.int IntKind.u32 ((((crcMore 0 bs) / 256) / 256 : Nat) : Int))), (15, (i64 2)), (16, (Value.bool true))] (j := 1) (by kernel_rfl) (by kernel_rfl) ?_
  refine Ops.done (by kernel_rfl) ?_
  refine q_seq (by kernel_rfl) ?_
  refine q_then (o := .tmp 16) (by kernel_rfl) rfl ?_
  refine q_skip (by kernel_rfl) ?_
  refine q_seq (by kernel_rfl) ?_
  refine q_block (id := 1) (by kernel_rfl) ?_
  refine q_seq (by kernel_rfl) ?_
  refine q_region (by kernel_rfl) ?_
  refine Ops.regs 3 [(0, (Value.slice A bs.length c)), (2, (Value.slice none 0 0)), (3, (i64 0)), (4, v35), (5, (Value.int IntKind.u32 ((((crcMore 0 bs) / 256) / 256 : Nat) : Int))), (15, (i64 2)), (16, (Value.bool true)), (17, v35), (19, (Value.int IntKind.u8 (IntKind.u8.wrap ((((crcMore 0 bs) / 256) / 256 : Nat) : Int))))] (j := 3) (by kernel_rfl) (by kernel_rfl) ?_
  have e42 : IntKind.u8.wrap ((((crcMore 0 bs) / 256) / 256 : Nat) : Int) = (((((crcMore 0 bs) / 256) / 256) % 256 : Nat) : Int) := u8_wrap (((crcMore 0 bs) / 256) / 256)
  rw [e42]
  clear e42
  refine Ops.new (o := rowL [(Value.int IntKind.u8 (((((crcMore 0 bs) / 256) / 256) % 256 : Nat) : Int))] 5) (V := fun b => (Value.slice (some ⟨b, 0, none⟩) 1 1)) (by kernel_rfl) (d := (some 20)) (by kernel_rfl) (fun b => rfl) (fun b43 w44 hb45 H46 K47 hs48 => ?_)
  have nb43 : w.heap.size ≤ b43 := by have := K40.size; omega
  have ob49 : ∀ i, (v35).ownBlock = some i → i < b43 := fun i hi => by have := (World.ownsRow.lt hO38 i hi).2; omega
  replace K40 := K40.trans K47 (U := none_) (fun i h1 h2 => h2) (fun i h1 h2 => by exact h2)
  replace hO38 := own_keep0 hO38 K47
  clear K47 hs48
  obtain ⟨v50, w51, hr52, hO53, K54⟩ := OwnB.app (ty := 23) tyB hO38 (lit1 (by omega) H46) (by (try simp only at *); (try simp only [List.length_append] at *); (try simp only [List.length_cons] at *); (try simp only [List.length_nil] at *); omega) K40.size
  refine Ops.go (v := v50) (by kernel_rfl) (Runs.append (ts := #[23, 23]) (ty := 23) (vs := [v35, (Value.slice (some ⟨b43, 0, none⟩) 1 1)]) (by kernel_rfl) hr52) (d := (some 21)) (by kernel_rfl) rfl ?_
  have K55 := Keeps.own2 K40 K54
  clear H46 hO38 K40 hr52 K54
  refine Ops.regs 1 [(0, (Value.slice A bs.length c)), (2, (Value.slice none 0 0)), (3, (i64 0)), (4, v50), (5, (Value.int IntKind.u32 ((((crcMore 0 bs) / 256) / 256 : Nat) : Int))), (15, (i64 2)), (16, (Value.bool true))] (j := 6) (by kernel_rfl) (by kernel_rfl) ?_
  refine Ops.done (by kernel_rfl) ?_
  refine q_region (by kernel_rfl) ?_
  refine Ops.regs 2 [(0, (Value.slice A bs.length c)), (2, (Value.slice none 0 0)), (3, (i64 0)), (4, v50), (5, (Value.int IntKind.u32 ((((crcMore 0 bs) / 256) / 256 : Nat) : Int))), (15, (i64 2)), (16, (Value.bool true)), (23, (Value.int IntKind.u32 ((((((crcMore 0 bs) / 256) / 256 : Nat) : Int)).fdiv 256)))] (j := 2) (by kernel_rfl) (by kernel_rfl) ?_
  have e56 : (((((crcMore 0 bs) / 256) / 256 : Nat) : Int)).fdiv 256 = (((((crcMore 0 bs) / 256) / 256) / 256 : Nat) : Int) := fdiv_nat (((crcMore 0 bs) / 256) / 256) 256
  rw [e56]
  clear e56
  refine Ops.regs 1 [(0, (Value.slice A bs.length c)), (2, (Value.slice none 0 0)), (3, (i64 0)), (4, v50), (5, (Value.int IntKind.u32 (((((crcMore 0 bs) / 256) / 256) / 256 : Nat) : Int))), (15, (i64 2)), (16, (Value.bool true))] (j := 3) (by kernel_rfl) (by kernel_rfl) ?_
  refine Ops.done (by kernel_rfl) ?_
  refine q_region (by kernel_rfl) ?_
  refine Ops.regs 2 [(0, (Value.slice A bs.length c)), (2, (Value.slice none 0 0)), (3, (i64 0)), (4, v50), (5, (Value.int IntKind.u32 (((((crcMore 0 bs) / 256) / 256) / 256 : Nat) : Int))), (15, (i64 3)), (16, (Value.bool true))] (j := 2) (by kernel_rfl) (by kernel_rfl) ?_
  refine Ops.done (by kernel_rfl) ?_
  refine roll_step ?_
  refine q_seq (by kernel_rfl) ?_
  refine q_region (by kernel_rfl) ?_
  refine Ops.regs 1 [(0, (Value.slice A bs.length c)), (2, (Value.slice none 0 0)), (3, (i64 0)), (4, v50), (5, (Value.int IntKind.u32 (((((crcMore 0 bs) / 256) / 256) / 256 : Nat) : Int))), (15, (i64 3)), (16, (Value.bool true))] (j := 1) (by kernel_rfl) (by kernel_rfl) ?_
  refine Ops.done (by kernel_rfl) ?_
  refine q_seq (by kernel_rfl) ?_
  refine q_then (o := .tmp 16) (by kernel_rfl) rfl ?_
  refine q_skip (by kernel_rfl) ?_
  refine q_seq (by kernel_rfl) ?_
  refine q_block (id := 1) (by kernel_rfl) ?_
  refine q_seq (by kernel_rfl) ?_
  refine q_region (by kernel_rfl) ?_
  refine Ops.regs 3 [(0, (Value.slice A bs.length c)), (2, (Value.slice none 0 0)), (3, (i64 0)), (4, v50), (5, (Value.int IntKind.u32 (((((crcMore 0 bs) / 256) / 256) / 256 : Nat) : Int))), (15, (i64 3)), (16, (Value.bool true)), (17, v50), (19, (Value.int IntKind.u8 (IntKind.u8.wrap (((((crcMore 0 bs) / 256) / 256) / 256 : Nat) : Int))))] (j := 3) (by kernel_rfl) (by kernel_rfl) ?_
  have e57 : IntKind.u8.wrap (((((crcMore 0 bs) / 256) / 256) / 256 : Nat) : Int) = ((((((crcMore 0 bs) / 256) / 256) / 256) % 256 : Nat) : Int) := u8_wrap ((((crcMore 0 bs) / 256) / 256) / 256)
  rw [e57]
  clear e57
  refine Ops.new (o := rowL [(Value.int IntKind.u8 ((((((crcMore 0 bs) / 256) / 256) / 256) % 256 : Nat) : Int))] 5) (V := fun b => (Value.slice (some ⟨b, 0, none⟩) 1 1)) (by kernel_rfl) (d := (some 20)) (by kernel_rfl) (fun b => rfl) (fun b58 w59 hb60 H61 K62 hs63 => ?_)
  have nb58 : w.heap.size ≤ b58 := by have := K55.size; omega
  have ob64 : ∀ i, (v50).ownBlock = some i → i < b58 := fun i hi => by have := (World.ownsRow.lt hO53 i hi).2; omega
  replace K55 := K55.trans K62 (U := none_) (fun i h1 h2 => h2) (fun i h1 h2 => by exact h2)
  replace hO53 := own_keep0 hO53 K62
  clear K62 hs63
  obtain ⟨v65, w66, hr67, hO68, K69⟩ := OwnB.app (ty := 23) tyB hO53 (lit1 (by omega) H61) (by (try simp only at *); (try simp only [List.length_append] at *); (try simp only [List.length_cons] at *); (try simp only [List.length_nil] at *); omega) K55.size
  refine Ops.go (v := v65) (by kernel_rfl) (Runs.append (ts := #[23, 23]) (ty := 23) (vs := [v50, (Value.slice (some ⟨b58, 0, none⟩) 1 1)]) (by kernel_rfl) hr67) (d := (some 21)) (by kernel_rfl) rfl ?_
  have K70 := Keeps.own2 K55 K69
  clear H61 hO53 K55 hr67 K69
  refine Ops.regs 1 [(0, (Value.slice A bs.length c)), (2, (Value.slice none 0 0)), (3, (i64 0)), (4, v65), (5, (Value.int IntKind.u32 (((((crcMore 0 bs) / 256) / 256) / 256 : Nat) : Int))), (15, (i64 3)), (16, (Value.bool true))] (j := 6) (by kernel_rfl) (by kernel_rfl) ?_
  refine Ops.done (by kernel_rfl) ?_
  refine q_region (by kernel_rfl) ?_
  refine Ops.regs 2 [(0, (Value.slice A bs.length c)), (2, (Value.slice none 0 0)), (3, (i64 0)), (4, v65), (5, (Value.int IntKind.u32 (((((crcMore 0 bs) / 256) / 256) / 256 : Nat) : Int))), (15, (i64 3)), (16, (Value.bool true)), (23, (Value.int IntKind.u32 (((((((crcMore 0 bs) / 256) / 256) / 256 : Nat) : Int)).fdiv 256)))] (j := 2) (by kernel_rfl) (by kernel_rfl) ?_
  have e71 : ((((((crcMore 0 bs) / 256) / 256) / 256 : Nat) : Int)).fdiv 256 = ((((((crcMore 0 bs) / 256) / 256) / 256) / 256 : Nat) : Int) := fdiv_nat ((((crcMore 0 bs) / 256) / 256) / 256) 256
  rw [e71]
  clear e71
  refine Ops.regs 1 [(0, (Value.slice A bs.length c)), (2, (Value.slice none 0 0)), (3, (i64 0)), (4, v65), (5, (Value.int IntKind.u32 ((((((crcMore 0 bs) / 256) / 256) / 256) / 256 : Nat) : Int))), (15, (i64 3)), (16, (Value.bool true))] (j := 3) (by kernel_rfl) (by kernel_rfl) ?_
  refine Ops.done (by kernel_rfl) ?_
  refine q_region (by kernel_rfl) ?_
  refine Ops.regs 2 [(0, (Value.slice A bs.length c)), (2, (Value.slice none 0 0)), (3, (i64 0)), (4, v65), (5, (Value.int IntKind.u32 ((((((crcMore 0 bs) / 256) / 256) / 256) / 256 : Nat) : Int))), (15, (i64 4)), (16, (Value.bool true))] (j := 2) (by kernel_rfl) (by kernel_rfl) ?_
  refine Ops.done (by kernel_rfl) ?_
  refine roll_step ?_
  refine q_seq (by kernel_rfl) ?_
  refine q_region (by kernel_rfl) ?_
  refine Ops.regs 1 [(0, (Value.slice A bs.length c)), (2, (Value.slice none 0 0)), (3, (i64 0)), (4, v65), (5, (Value.int IntKind.u32 ((((((crcMore 0 bs) / 256) / 256) / 256) / 256 : Nat) : Int))), (15, (i64 4)), (16, (Value.bool false))] (j := 1) (by kernel_rfl) (by kernel_rfl) ?_
  refine Ops.done (by kernel_rfl) ?_
  refine q_seq (by kernel_rfl) ?_
  refine q_else (o := .tmp 16) (by kernel_rfl) rfl ?_
  refine q_exit (id := 0) (by kernel_rfl) ?_
  refine q_seq (by kernel_rfl) ?_
  refine q_region (by kernel_rfl) ?_
  refine Ops.regs 2 [(2, (Value.slice none 0 0)), (3, (i64 0)), (25, v65), (26, (Value.slice A bs.length c))] (j := 2) (by kernel_rfl) (by kernel_rfl) ?_
  obtain ⟨v72, w73, hr74, hO75, K76⟩ := OwnB.app (ty := 23) tyB hO68 (hv.keep0 (by omega) K70) (by (try simp only at *); (try simp only [List.length_append] at *); (try simp only [List.length_cons] at *); (try simp only [List.length_nil] at *); omega) K70.size
  refine Ops.go (v := v72) (by kernel_rfl) (Runs.append (ts := #[23, 23]) (ty := 23) (vs := [v65, (Value.slice A bs.length c)]) (by kernel_rfl) hr74) (d := (some 27)) (by kernel_rfl) rfl ?_
  have K77 := Keeps.own2 K70 K76
  clear hO68 K70 hr74 K76
  refine Ops.regs 2 [(2, v72), (3, (i64 0))] (j := 5) (by kernel_rfl) (by kernel_rfl) ?_
  refine Ops.done (by kernel_rfl) ?_
  refine q_ret (by kernel_rfl) ?_
  refine ⟨(Value.tuple #[v72, (i64 0)]), retv_tmp2 rfl rfl rfl, ?_⟩
  have hfin : [] ++ uv bs.length ++ [byte ((crcMore 0 bs) % 256)] ++ [byte (((crcMore 0 bs) / 256) % 256)] ++ [byte ((((crcMore 0 bs) / 256) / 256) % 256)] ++ [byte (((((crcMore 0 bs) / 256) / 256) / 256) % 256)] ++ bs = frameB bs := by simp [frameB, fourB]
  rw [hfin] at hO75
  exact ⟨_, rfl, K77, hO75⟩

theorem scan0 : scanB [byte 0] = (0, 1, 0) := by kernel_rfl

theorem cut0_calls (w : World) (A : Option Addr) (c : Nat) (hv : RdB w (.slice A 1 c) [byte 0]) : Calls Try.prog 63 ⟨[(Value.slice A 1 c)]⟩ w (fun e w' => e = .returned (.tuple #[.slice none 0 0, i64 0, i64 10]) ∧ Keeps none_ w w') := by
  have K0 : Keeps none_ w w := Keeps.refl w
  refine q_calls Try.func63 (by kernel_rfl) (by kernel_rfl) ?_
  refine q_seq (by kernel_rfl) ?_
  refine q_region (by kernel_rfl) ?_
  refine Ops.regs 3 [(0, (Value.slice A 1 c)), (2, (Value.slice none 0 0)), (3, (i64 0)), (4, (i64 0))] (j := 3) (by kernel_rfl) (by kernel_rfl) ?_
  refine Ops.done (by kernel_rfl) ?_
  refine q_seq (by kernel_rfl) ?_
  refine q_region (by kernel_rfl) ?_
  refine Ops.regs 1 [(0, (Value.slice A 1 c)), (2, (Value.slice none 0 0)), (3, (i64 0)), (4, (i64 0)), (13, (Value.slice A 1 c))] (j := 1) (by kernel_rfl) (by kernel_rfl) ?_
  refine Ops.call (by kernel_rfl) (d := (some 14)) (by kernel_rfl) ((scan0 ▸ scan_calls _ A c [byte 0] (hv.keep0 (by omega) K0) (by decide))) ?_
  rintro _ w1 ⟨rfl, K2⟩
  refine ⟨_, _, rfl, rfl, ?_⟩
  replace K0 := K0.trans K2 (U := none_) (fun i h1 h2 => h2) (fun i h1 h2 => by exact h2)
  clear K2
  refine Ops.regs 7 [(0, (Value.slice A 1 c)), (2, (Value.slice none 0 0)), (3, (i64 0)), (4, (i64 0)), (5, (Value.int IntKind.u64 0)), (6, (i64 1)), (7, (i64 0))] (j := 9) (by kernel_rfl) (by kernel_rfl) ?_
  refine Ops.done (by kernel_rfl) ?_
  refine q_seq (by kernel_rfl) ?_
  refine q_block (id := 0) (by kernel_rfl) ?_
  refine q_seq (by kernel_rfl) ?_
  refine q_region (by kernel_rfl) ?_
  refine Ops.regs 3 [(0, (Value.slice A 1 c)), (2, (Value.slice none 0 0)), (3, (i64 0)), (4, (i64 0)), (5, (Value.int IntKind.u64 0)), (6, (i64 1)), (7, (i64 0)), (18, (Value.bool false))] (j := 3) (by kernel_rfl) (by kernel_rfl) ?_
  refine Ops.done (by kernel_rfl) ?_
  refine q_else (o := .tmp 18) (by kernel_rfl) rfl ?_
  refine q_seq (by kernel_rfl) ?_
  refine q_region (by kernel_rfl) ?_
  refine Ops.regs 3 [(0, (Value.slice A 1 c)), (2, (Value.slice none 0 0)), (3, (i64 0)), (4, (i64 0)), (5, (Value.int IntKind.u64 0)), (6, (i64 1)), (22, (Value.bool false))] (j := 3) (by kernel_rfl) (by kernel_rfl) ?_
  refine Ops.done (by kernel_rfl) ?_
  refine q_else (o := .tmp 22) (by kernel_rfl) rfl ?_
  refine q_seq (by kernel_rfl) ?_
  refine q_region (by kernel_rfl) ?_
  refine Ops.regs 9 [(0, (Value.slice A 1 c)), (2, (Value.slice none 0 0)), (3, (i64 0)), (4, (i64 0)), (5, (Value.int IntKind.u64 0)), (6, (i64 1)), (25, (Value.bool true))] (j := 9) (by kernel_rfl) (by kernel_rfl) ?_
  refine Ops.done (by kernel_rfl) ?_
  refine q_then (o := .tmp 25) (by kernel_rfl) rfl ?_
  refine q_seq (by kernel_rfl) ?_
  refine q_region (by kernel_rfl) ?_
  refine Ops.regs 3 [(0, (Value.slice A 1 c)), (2, (Value.slice none 0 0)), (3, (i64 0)), (4, (i64 10)), (5, (Value.int IntKind.u64 0)), (6, (i64 1))] (j := 3) (by kernel_rfl) (by kernel_rfl) ?_
  refine Ops.done (by kernel_rfl) ?_
  refine q_ret (by kernel_rfl) ?_
  refine ⟨(Value.tuple #[(Value.slice none 0 0), (i64 0), (i64 10)]), retv_tmp3 rfl rfl rfl rfl, ?_⟩
  exact ⟨rfl, K0⟩

theorem Unframe0_calls (w : World) (A : Option Addr) (c : Nat) (hv : RdB w (.slice A 1 c) [byte 0]) : Calls Try.prog 49 ⟨[(Value.slice A 1 c)]⟩ w (fun e w' => e = .returned (.tuple #[.slice none 0 0, i64 10]) ∧ Keeps none_ w w') := by
  have K0 : Keeps none_ w w := Keeps.refl w
  refine q_calls Try.func49 (by kernel_rfl) (by kernel_rfl) ?_
  refine q_seq (by kernel_rfl) ?_
  refine q_region (by kernel_rfl) ?_
  refine Ops.regs 2 [(0, (Value.slice A 1 c)), (2, (Value.slice none 0 0)), (3, (i64 0))] (j := 2) (by kernel_rfl) (by kernel_rfl) ?_
  refine Ops.done (by kernel_rfl) ?_
  refine q_seq (by kernel_rfl) ?_
  refine q_region (by kernel_rfl) ?_
  refine Ops.regs 1 [(0, (Value.slice A 1 c)), (2, (Value.slice none 0 0)), (3, (i64 0)), (8, (Value.slice A 1 c))] (j := 1) (by kernel_rfl) (by kernel_rfl) ?_
  refine Ops.call (by kernel_rfl) (d := (some 9)) (by kernel_rfl) (cut0_calls _ A c (hv.keep0 (by omega) K0)) ?_
  rintro _ w1 ⟨rfl, K2⟩
  refine ⟨_, _, rfl, rfl, ?_⟩
  replace K0 := K0.trans K2 (U := none_) (fun i h1 h2 => h2) (fun i h1 h2 => by exact h2)
  clear K2
  refine Ops.regs 7 [(0, (Value.slice A 1 c)), (2, (Value.slice none 0 0)), (3, (i64 0)), (4, (Value.slice none 0 0)), (5, (i64 0)), (6, (i64 10))] (j := 9) (by kernel_rfl) (by kernel_rfl) ?_
  refine Ops.done (by kernel_rfl) ?_
  refine q_seq (by kernel_rfl) ?_
  refine q_block (id := 0) (by kernel_rfl) ?_
  refine q_seq (by kernel_rfl) ?_
  refine q_region (by kernel_rfl) ?_
  refine Ops.regs 9 [(2, (Value.slice none 0 0)), (3, (i64 0)), (4, (Value.slice none 0 0)), (6, (i64 10)), (13, (Value.bool false))] (j := 9) (by kernel_rfl) (by kernel_rfl) ?_
  refine Ops.done (by kernel_rfl) ?_
  refine q_else (o := .tmp 13) (by kernel_rfl) rfl ?_
  refine q_seq (by kernel_rfl) ?_
  refine q_region (by kernel_rfl) ?_
  refine Ops.regs 3 [(2, (Value.slice none 0 0)), (3, (i64 0)), (4, (Value.slice none 0 0)), (6, (i64 10)), (22, (Value.bool true))] (j := 3) (by kernel_rfl) (by kernel_rfl) ?_
  refine Ops.done (by kernel_rfl) ?_
  refine q_then (o := .tmp 22) (by kernel_rfl) rfl ?_
  refine q_seq (by kernel_rfl) ?_
  refine q_region (by kernel_rfl) ?_
  refine Ops.regs 3 [(2, (Value.slice none 0 0)), (3, (i64 10)), (4, (Value.slice none 0 0))] (j := 3) (by kernel_rfl) (by kernel_rfl) ?_
  refine Ops.done (by kernel_rfl) ?_
  refine q_ret (by kernel_rfl) ?_
  refine ⟨(Value.tuple #[(Value.slice none 0 0), (i64 10)]), retv_tmp2 rfl rfl rfl, ?_⟩
  exact ⟨rfl, K0⟩

theorem known_calls (w : World)   : Calls Try.prog 17 ⟨[]⟩ w (fun e w' => e = .returned (.bool true) ∧ Keeps none_ w w') := by
  have K0 : Keeps none_ w w := Keeps.refl w
  refine q_calls Try.func17 (by kernel_rfl) (by kernel_rfl) ?_
  refine q_seq (by kernel_rfl) ?_
  refine q_region (by kernel_rfl) ?_
  refine Ops.regs 1 [(0, (Value.bool false))] (j := 1) (by kernel_rfl) (by kernel_rfl) ?_
  refine Ops.done (by kernel_rfl) ?_
  refine q_seq (by kernel_rfl) ?_
  refine q_region (by kernel_rfl) ?_
  refine Ops.new (o := rowL [(Value.int IntKind.u8 128), (Value.int IntKind.u8 0)] 5) (V := fun b => (Value.slice (some ⟨b, 0, none⟩) 2 2)) (by kernel_rfl) (d := (some 6)) (by kernel_rfl) (fun b => rfl) (fun b1 w2 hb3 H4 K5 hs6 => ?_)
  have nb1 : w.heap.size ≤ b1 := by have := K0.size; omega
  replace K0 := K0.trans K5 (U := none_) (fun i h1 h2 => h2) (fun i h1 h2 => by exact h2)
  clear K5 hs6
  refine Ops.call (by kernel_rfl) (d := (some 7)) (by kernel_rfl) (NewReader_calls _ (Value.slice (some ⟨b1, 0, none⟩) 2 2) [byte 128, byte 0] (RdB.lit (xs := [byte 128, byte 0]) (show Has _ b1 (rowL (bv [byte 128, byte 0]) 5) from H4) (by first | decide | (simp [maxLen]; done))) (by first | omega | decide)) ?_
  rintro _ w11 ⟨b7, A8, c9, rfl, q10, K12, H13, hr14, hne15, hge16⟩
  have nb7 : w.heap.size ≤ b7 := by have := K0.size; omega
  have lb7b1 : b1 < b7 := by have := H4.lt; omega
  have ob18 : ∀ i o s, A8 = some ⟨i, o, s⟩ → i ≠ b1 := fun i o s hi => by have := hge16 i o s hi; have := H4.lt; omega
  have hok17 : Rdr.Ok (⟨[byte 128, byte 0], 0, 0⟩ : Rdr) := ⟨Nat.zero_le _, by show [byte 128, byte 0].length ≤ _; first | omega | decide⟩
  clear q10 hge16
  refine ⟨_, _, rfl, rfl, ?_⟩
  replace K0 := K0.trans K12 (U := none_) (fun i h1 h2 => h2) (fun i h1 h2 => by exact h2)
  replace H4 := H4.keep K12 (fun h => h)
  clear K12
  refine Ops.regs 1 [(0, (Value.bool false)), (1, (ptr b7))] (j := 3) (by kernel_rfl) (by kernel_rfl) ?_
  refine Ops.done (by kernel_rfl) ?_
  refine q_seq (by kernel_rfl) ?_
  refine q_region (by kernel_rfl) ?_
  refine Ops.regs 1 [(0, (Value.bool false)), (1, (ptr b7)), (8, (ptr b7))] (j := 1) (by kernel_rfl) (by kernel_rfl) ?_
  refine Ops.call (by kernel_rfl) (d := (some 9)) (by kernel_rfl) (RdUint_calls _ b7 A8 c9 (⟨[byte 128, byte 0], 0, 0⟩ : Rdr) hok17 H13 hr14 hne15) ?_
  rintro _ w19 ⟨rfl, K20, H21⟩
  have hok22 := Rdr.Ok.uint hok17
  have hu23 := Rdr.uint_lt (⟨[byte 128, byte 0], 0, 0⟩ : Rdr)
  refine ⟨_, _, rfl, rfl, ?_⟩
  replace K0 := K0.trans K20 (U := none_) (fun i h1 h2 => h2) (fun i h1 h2 => by have h2 : i = b7 := h2; exfalso; omega)
  replace H4 := H4.keep K20 (by intro h; change b1 = b7 at h; omega)
  replace hr14 := RdO.keep hr14 K20 (fun i _ _ hi hs => by have hs : i = b7 := hs; have := hne15 i _ _ hi; omega)
  clear K20
  have F24 : RdO w19 A8 c9 ((⟨[byte 128, byte 0], 0, 0⟩ : Rdr).uint.2).bs := by rw [Rdr.uint_bs]; exact hr14
  clear hr14
  refine Ops.done (by kernel_rfl) ?_
  refine q_seq (by kernel_rfl) ?_
  refine q_region (by kernel_rfl) ?_
  refine Ops.new (o := rowL [(Value.int IntKind.u8 0)] 5) (V := fun b => (Value.slice (some ⟨b, 0, none⟩) 1 1)) (by kernel_rfl) (d := (some 11)) (by kernel_rfl) (fun b => rfl) (fun b25 w26 hb27 H28 K29 hs30 => ?_)
  have lb25 : b7 < b25 := by have := H21.lt; omega
  have nb25 : w.heap.size ≤ b25 := by have := K0.size; omega
  have ob31 : ∀ i o s, A8 = some ⟨i, o, s⟩ → i ≠ b25 := fun i o s hi => by have := F24.2 i o s hi; omega
  replace K0 := K0.trans K29 (U := none_) (fun i h1 h2 => h2) (fun i h1 h2 => by exact h2)
  replace H4 := H4.keep K29 (fun h => h)
  replace H21 := H21.keep K29 (fun h => h)
  replace F24 := RdO.keep0 F24 K29
  clear K29 hs30
  refine Ops.call (by kernel_rfl) (d := (some 12)) (by kernel_rfl) (Unframe0_calls _ (some ⟨b25, 0, none⟩) 1 (RdB.lit (xs := [byte 0]) (show Has _ b25 (rowL (bv [byte 0]) 5) from H28) (by first | decide | (simp [maxLen]; done)))) ?_
  rintro _ w32 ⟨rfl, K33⟩
  refine ⟨_, _, rfl, rfl, ?_⟩
  replace K0 := K0.trans K33 (U := none_) (fun i h1 h2 => h2) (fun i h1 h2 => by exact h2)
  replace H4 := H4.keep K33 (fun h => h)
  replace H21 := H21.keep K33 (fun h => h)
  replace H28 := H28.keep K33 (fun h => h)
  replace F24 := RdO.keep0 F24 K33
  clear K33
  refine Ops.regs 5 [(0, (Value.bool false)), (1, (ptr b7)), (2, (Value.slice none 0 0)), (3, (i64 10))] (j := 7) (by kernel_rfl) (by kernel_rfl) ?_
  refine Ops.done (by kernel_rfl) ?_
  refine q_seq (by kernel_rfl) ?_
  refine q_region (by kernel_rfl) ?_
  refine Ops.new (o := rowL [(Value.int IntKind.u8 97)] 5) (V := fun b => (Value.slice (some ⟨b, 0, none⟩) 1 1)) (by kernel_rfl) (d := (some 16)) (by kernel_rfl) (fun b => rfl) (fun b34 w35 hb36 H37 K38 hs39 => ?_)
  have lb34 : b25 < b34 := by have := H28.lt; omega
  have nb34 : w.heap.size ≤ b34 := by have := K0.size; omega
  have ob40 : ∀ i o s, A8 = some ⟨i, o, s⟩ → i ≠ b34 := fun i o s hi => by have := F24.2 i o s hi; omega
  replace K0 := K0.trans K38 (U := none_) (fun i h1 h2 => h2) (fun i h1 h2 => by exact h2)
  replace H4 := H4.keep K38 (fun h => h)
  replace H21 := H21.keep K38 (fun h => h)
  replace H28 := H28.keep K38 (fun h => h)
  replace F24 := RdO.keep0 F24 K38
  clear K38 hs39
  obtain ⟨w41, hr42, K43, F44⟩ := run_markB (t := 23) (e := 5) (bs := [byte 97]) (by kernel_rfl) (show Has _ b34 (rowL (bv [byte 97]) 5) from H37) (by decide)
  refine Ops.go (v := (Value.slice (some ⟨b34, 0, none⟩) 1 1)) (by kernel_rfl) (Runs.conv (by kernel_rfl) hr42) (d := (some 17)) (by kernel_rfl) rfl ?_
  clear H37
  replace K0 := K0.trans K43 (U := none_) (fun i h1 h2 => h2) (fun i h1 h2 => by have h2 : i = b34 := h2; exfalso; omega)
  replace H4 := H4.keep K43 (by intro h; change b1 = b34 at h; omega)
  replace H21 := H21.keep K43 (by intro h; change b7 = b34 at h; omega)
  replace H28 := H28.keep K43 (by intro h; change b25 = b34 at h; omega)
  replace F24 := RdO.keep F24 K43 (fun i _ _ hi hs => by have hs : i = b34 := hs; have := ob40 i _ _ hi; omega)
  clear K43 hr42
  refine Ops.call (by kernel_rfl) (d := (some 18)) (by kernel_rfl) (Frame_calls _ (some ⟨b34, 0, none⟩) 1 [byte 97] F44 (by decide)) ?_
  rintro _ w46 ⟨v45, rfl, K47, hO48⟩
  have O49 := own_base hO48 K0.size
  obtain ⟨A50, c51, hf52⟩ := RdB.form (OwnB.rd O49)
  subst hf52
  clear hO48
  refine ⟨_, _, rfl, rfl, ?_⟩
  replace K0 := K0.trans K47 (U := none_) (fun i h1 h2 => h2) (fun i h1 h2 => by exact h2)
  replace H4 := H4.keep K47 (fun h => h)
  replace H21 := H21.keep K47 (fun h => h)
  replace H28 := H28.keep K47 (fun h => h)
  replace F24 := RdO.keep0 F24 K47
  replace F44 := (Rd.keep0 (by omega) F44 K47)
  clear K47
  refine Ops.regs 5 [(0, (Value.bool false)), (1, (ptr b7)), (2, (Value.slice none 0 0)), (3, (i64 10)), (4, (Value.slice A50 ((frameB [byte 97]).length) c51)), (5, (i64 0))] (j := 8) (by kernel_rfl) (by kernel_rfl) ?_
  refine Ops.done (by kernel_rfl) ?_
  refine q_seq (by kernel_rfl) ?_
  refine q_region (by kernel_rfl) ?_
  refine Ops.call (by kernel_rfl) (d := (some 21)) (by kernel_rfl) (Uint_calls _ (Value.slice none 0 0) [] 300 (Rd.nil _ _) (by omega) (by (try simp only at *); (try simp only [List.length_append] at *); (try simp only [List.length_cons] at *); (try simp only [List.length_nil] at *); omega)) ?_
  rintro _ w55 ⟨v54, rfl, K56, hO57⟩
  have O58 := own_base hO57 K0.size
  clear hO57
  have hL53 := uv_length_10 (n := 300) (by omega)
  refine ⟨_, _, rfl, rfl, ?_⟩
  replace K0 := K0.trans K56 (U := none_) (fun i h1 h2 => h2) (fun i h1 h2 => by exact h2)
  replace H4 := H4.keep K56 (fun h => h)
  replace H21 := H21.keep K56 (fun h => h)
  replace H28 := H28.keep K56 (fun h => h)
  replace F24 := RdO.keep0 F24 K56
  replace F44 := (Rd.keep0 (by omega) F44 K56)
  replace O49 := own_keep0 O49 K56
  clear K56
  refine Ops.go (v := (Value.string (str ([] ++ uv 300)))) (by kernel_rfl) (Runs.b2s (s := 23) (d := 9) (e := 5) (by kernel_rfl) (by kernel_rfl) (by kernel_rfl) (OwnB.rd O58)) (d := (some 22)) (by kernel_rfl) rfl ?_
  refine Ops.go (v := (Value.bool (([] ++ uv 300) == [172, 2]))) (by kernel_rfl) (Runs.streq (t := 9) (by kernel_rfl)) (d := (some 23)) (by kernel_rfl) rfl ?_
  refine Ops.regs 1 [(0, (Value.bool false)), (1, (ptr b7)), (2, (Value.slice none 0 0)), (3, (i64 10)), (4, (Value.slice A50 ((frameB [byte 97]).length) c51)), (5, (i64 0)), (24, (Value.bool (([] ++ uv 300) == [172, 2])))] (j := 4) (by kernel_rfl) (by kernel_rfl) ?_
  have h59 : (([] ++ uv 300) == [172, 2]) = true := by first | kernel_rfl | (simp [uv, tv, iv, zz, byte, frameB, fourB]; done) | decide +kernel
  rw [h59]
  refine Ops.call (by kernel_rfl) (d := (some 25)) (by kernel_rfl) (Int_calls _ (Value.slice none 0 0) [] (-1) (Rd.nil _ _) (by omega) (by (try simp only at *); (try simp only [List.length_append] at *); (try simp only [List.length_cons] at *); (try simp only [List.length_nil] at *); omega)) ?_
  rintro _ w62 ⟨v61, rfl, K63, hO64⟩
  have O65 := own_base hO64 K0.size
  clear hO64
  have hL60 := iv_length_10 (n := (-1)) (by omega)
  refine ⟨_, _, rfl, rfl, ?_⟩
  replace K0 := K0.trans K63 (U := none_) (fun i h1 h2 => h2) (fun i h1 h2 => by exact h2)
  replace H4 := H4.keep K63 (fun h => h)
  replace H21 := H21.keep K63 (fun h => h)
  replace H28 := H28.keep K63 (fun h => h)
  replace F24 := RdO.keep0 F24 K63
  replace F44 := (Rd.keep0 (by omega) F44 K63)
  replace O49 := own_keep0 O49 K63
  replace O58 := own_keep0 O58 K63
  clear K63
  refine Ops.go (v := (Value.string (str ([] ++ iv (-1))))) (by kernel_rfl) (Runs.b2s (s := 23) (d := 9) (e := 5) (by kernel_rfl) (by kernel_rfl) (by kernel_rfl) (OwnB.rd O65)) (d := (some 26)) (by kernel_rfl) rfl ?_
  refine Ops.go (v := (Value.bool (([] ++ iv (-1)) == [1]))) (by kernel_rfl) (Runs.streq (t := 9) (by kernel_rfl)) (d := (some 27)) (by kernel_rfl) rfl ?_
  refine Ops.regs 2 [(0, (Value.bool false)), (1, (ptr b7)), (2, (Value.slice none 0 0)), (3, (i64 10)), (4, (Value.slice A50 ((frameB [byte 97]).length) c51)), (5, (i64 0)), (29, (Value.bool (([] ++ iv (-1)) == [1])))] (j := 9) (by kernel_rfl) (by kernel_rfl) ?_
  have h66 : (([] ++ iv (-1)) == [1]) = true := by first | kernel_rfl | (simp [uv, tv, iv, zz, byte, frameB, fourB]; done) | decide +kernel
  rw [h66]
  refine Ops.call (by kernel_rfl) (d := (some 30)) (by kernel_rfl) (Text_calls _ (Value.slice none 0 0) [] [97, 98] (Rd.nil _ _) (by first | omega | decide) (by (try simp only at *); (try simp only [List.length_append] at *); (try simp only [List.length_cons] at *); (try simp only [List.length_nil] at *); omega)) ?_
  rintro _ w68 ⟨v67, rfl, K69, hO70⟩
  have O71 := own_base hO70 K0.size
  clear hO70
  refine ⟨_, _, rfl, rfl, ?_⟩
  replace K0 := K0.trans K69 (U := none_) (fun i h1 h2 => h2) (fun i h1 h2 => by exact h2)
  replace H4 := H4.keep K69 (fun h => h)
  replace H21 := H21.keep K69 (fun h => h)
  replace H28 := H28.keep K69 (fun h => h)
  replace F24 := RdO.keep0 F24 K69
  replace F44 := (Rd.keep0 (by omega) F44 K69)
  replace O49 := own_keep0 O49 K69
  replace O58 := own_keep0 O58 K69
  replace O65 := own_keep0 O65 K69
  clear K69
  refine Ops.go (v := (Value.string (str ([] ++ tv [97, 98])))) (by kernel_rfl) (Runs.b2s (s := 23) (d := 9) (e := 5) (by kernel_rfl) (by kernel_rfl) (by kernel_rfl) (OwnB.rd O71)) (d := (some 31)) (by kernel_rfl) rfl ?_
  refine Ops.go (v := (Value.bool (([] ++ tv [97, 98]) == [2, 97, 98]))) (by kernel_rfl) (Runs.streq (t := 9) (by kernel_rfl)) (d := (some 32)) (by kernel_rfl) rfl ?_
  refine Ops.regs 2 [(0, (Value.bool false)), (1, (ptr b7)), (2, (Value.slice none 0 0)), (3, (i64 10)), (4, (Value.slice A50 ((frameB [byte 97]).length) c51)), (5, (i64 0)), (34, (Value.bool (([] ++ tv [97, 98]) == [2, 97, 98])))] (j := 14) (by kernel_rfl) (by kernel_rfl) ?_
  have h72 : (([] ++ tv [97, 98]) == [2, 97, 98]) = true := by first | kernel_rfl | (simp [uv, tv, iv, zz, byte, frameB, fourB]; done) | decide +kernel
  rw [h72]
  refine Ops.regs 1 [(0, (Value.bool false)), (2, (Value.slice none 0 0)), (3, (i64 10)), (4, (Value.slice A50 ((frameB [byte 97]).length) c51)), (5, (i64 0)), (34, (Value.bool true)), (35, (ptr b7))] (j := 15) (by kernel_rfl) (by kernel_rfl) ?_
  refine Ops.call (by kernel_rfl) (d := (some 36)) (by kernel_rfl) (RdEnd_calls _ b7 A8 c9 ((⟨[byte 128, byte 0], 0, 0⟩ : Rdr).uint.2) hok22 H21 F24 hne15) ?_
  rintro _ w73 ⟨rfl, K74⟩
  refine ⟨_, _, rfl, rfl, ?_⟩
  replace K0 := K0.trans K74 (U := none_) (fun i h1 h2 => h2) (fun i h1 h2 => by exact h2)
  replace H4 := H4.keep K74 (fun h => h)
  replace H21 := H21.keep K74 (fun h => h)
  replace H28 := H28.keep K74 (fun h => h)
  replace F24 := RdO.keep0 F24 K74
  replace F44 := (Rd.keep0 (by omega) F44 K74)
  replace O49 := own_keep0 O49 K74
  replace O58 := own_keep0 O58 K74
  replace O65 := own_keep0 O65 K74
  replace O71 := own_keep0 O71 K74
  clear K74
  refine Ops.regs 3 [(0, (Value.bool false)), (2, (Value.slice none 0 0)), (3, (i64 10)), (4, (Value.slice A50 ((frameB [byte 97]).length) c51)), (5, (i64 0)), (39, (Value.bool ((((⟨[byte 128, byte 0], 0, 0⟩ : Rdr).uint.2).end_) == 11)))] (j := 19) (by kernel_rfl) (by kernel_rfl) ?_
  have h75 : ((((⟨[byte 128, byte 0], 0, 0⟩ : Rdr).uint.2).end_) == 11) = true := by first | kernel_rfl | (simp [uv, tv, iv, zz, byte, frameB, fourB]; done) | decide +kernel
  rw [h75]
  refine Ops.regs 14 [(0, (Value.bool false)), (5, (i64 0)), (53, (Value.bool ((((frameB [byte 97]).length : Nat) : Int) == 6)))] (j := 33) (by kernel_rfl) (by kernel_rfl) ?_
  have h76 : ((((frameB [byte 97]).length : Nat) : Int) == 6) = true := by first | kernel_rfl | (simp [uv, tv, iv, zz, byte, frameB, fourB]; done) | decide +kernel
  rw [h76]
  refine Ops.regs 4 [(0, (Value.bool true))] (j := 37) (by kernel_rfl) (by kernel_rfl) ?_
  refine Ops.done (by kernel_rfl) ?_
  refine q_ret (by kernel_rfl) ?_
  refine ⟨(Value.bool true), retv_tmp rfl rfl, ?_⟩
  exact ⟨rfl, K0⟩
end Go.Proofs.Ytnepjfnkaigakaa
