/- codec: signed numbers -/
import Derived.Test.YtnepjfnkaigakaaProg
import Derived.Test.YtnepjfnkaigakaaLibInts
import Derived.Test.YtnepjfnkaigakaaK1
set_option linter.unusedVariables false
namespace Go.Proofs.Ytnepjfnkaigakaa
open Go.Q Go.RowKit

theorem Int_calls (w : World) (v : Value) (xs : List UInt8) (n : Int) (hv : RdB w v xs) (hn : -9223372036854775808 ≤ n ∧ n ≤ 9223372036854775807) (hl : xs.length ≤ 140737488351232) : Calls Try.prog 26 ⟨[v, (i64 n)]⟩ w (fun e w' => ∃ v', e = .returned v' ∧ Keeps none_ w w' ∧ OwnB w' w.heap.size 5 v' (xs ++ iv n)) := by
  have hz := zz_lt hn
  have hz1 := zz_neg n
  have hz2 := zz_pos n
  have K0 : Keeps none_ w w := Keeps.refl w
  refine q_calls Try.func26 (by kernel_rfl) (by kernel_rfl) ?_
  refine q_seq (by kernel_rfl) ?_
  refine q_region (by kernel_rfl) ?_
  refine Ops.regs 1 [(0, v), (1, (i64 n)), (4, (Value.slice none 0 0))] (j := 1) (by kernel_rfl) (by kernel_rfl) ?_
  refine Ops.done (by kernel_rfl) ?_
  refine q_seq (by kernel_rfl) ?_
  refine q_region (by kernel_rfl) ?_
  refine Ops.regs 7 [(4, (Value.slice none 0 0)), (5, v), (8, (Value.int IntKind.u64 (IntKind.u64.wrap ((IntKind.u64.wrap n) * 2)))), (11, (Value.int IntKind.u64 (IntKind.u64.wrap ((n).fdiv 9223372036854775808))))] (j := 7) (by kernel_rfl) (by kernel_rfl) ?_
  refine Ops.go (v := (Value.int IntKind.u64 ((zz n : Nat) : Int))) (by kernel_rfl) (Runs.int (op := .xor) (t := 22) (by kernel_rfl) (run_zigzag hn)) (d := (some 12)) (by kernel_rfl) rfl ?_
  refine Ops.call (by kernel_rfl) (d := (some 13)) (by kernel_rfl) (Uint_calls _ v xs (zz n) (hv.keep0 (by omega) K0) (by omega) (by (try simp only at *); (try simp only [List.length_append] at *); (try simp only [List.length_cons] at *); (try simp only [List.length_nil] at *); omega)) ?_
  rintro _ w3 ⟨v2, rfl, K4, hO5⟩
  have O6 := own_base hO5 K0.size
  clear hO5
  have hL1 := uv_length_10 (n := zz n) (by omega)
  refine ⟨_, _, rfl, rfl, ?_⟩
  have K7 := K0.trans K4 (U := none_) (fun i h1 h2 => h2) (fun i h1 h2 => by exact h2)
  clear K0
  clear K4
  refine Ops.regs 1 [(4, v2)] (j := 10) (by kernel_rfl) (by kernel_rfl) ?_
  refine Ops.done (by kernel_rfl) ?_
  refine q_ret (by kernel_rfl) ?_
  refine ⟨v2, retv_tmp rfl rfl, ?_⟩
  exact ⟨_, rfl, K7, O6⟩

theorem RInt_calls (w : World) (v : Value) (xs : List UInt8) (n : Int) (hv : RdB w v xs) (hn : -9223372036854775808 ≤ n ∧ n ≤ 9223372036854775807) (hl : xs.length ≤ 140737488351232) : Calls Try.prog 27 ⟨[v, (i64 n)]⟩ w (fun e w' => ∃ v', e = .returned v' ∧ Keeps none_ w w' ∧ OwnB w' w.heap.size 5 v' (xs ++ iv n)) := by
  have hz := zz_lt hn
  have hz1 := zz_neg n
  have hz2 := zz_pos n
  have K0 : Keeps none_ w w := Keeps.refl w
  refine q_calls Try.func27 (by kernel_rfl) (by kernel_rfl) ?_
  refine q_seq (by kernel_rfl) ?_
  refine q_region (by kernel_rfl) ?_
  refine Ops.regs 1 [(0, v), (1, (i64 n)), (4, (Value.slice none 0 0))] (j := 1) (by kernel_rfl) (by kernel_rfl) ?_
  refine Ops.done (by kernel_rfl) ?_
  refine q_seq (by kernel_rfl) ?_
  refine q_seq (by kernel_rfl) ?_
  refine q_region (by kernel_rfl) ?_
  refine Ops.regs 2 [(0, v), (1, (i64 n)), (4, (Value.slice none 0 0)), (6, (Value.bool (decide (n < 0))))] (j := 2) (by kernel_rfl) (by kernel_rfl) ?_
  refine Ops.done (by kernel_rfl) ?_
  refine q_cond (o := .tmp 6) (b := (decide (n < 0))) (by kernel_rfl) rfl (fun h1 => ?_) (fun h1 => ?_)
  · rw [h1]
    have p2 : n < 0 := of_decide_eq_true h1
    refine q_seq (by kernel_rfl) ?_
    refine q_region (by kernel_rfl) ?_
    refine Ops.regs 3 [(0, v), (1, (i64 n)), (4, (Value.slice none 0 0)), (7, v), (9, (i64 (IntKind.i64.wrap (n + 1))))] (j := 3) (by kernel_rfl) (by kernel_rfl) ?_
    have e3 : IntKind.i64.wrap (n + 1) = n + 1 := wrap_i64 (by omega) (by omega)
    rw [e3]
    refine Ops.regs 1 [(0, v), (1, (i64 n)), (4, (Value.slice none 0 0)), (7, v), (10, (i64 (IntKind.i64.wrap (0 - (n + 1)))))] (j := 4) (by kernel_rfl) (by kernel_rfl) ?_
    have e4 : IntKind.i64.wrap (0 - (n + 1)) = 0 - (n + 1) := wrap_i64 (by omega) (by omega)
    rw [e4]
    refine Ops.regs 1 [(0, v), (1, (i64 n)), (4, (Value.slice none 0 0)), (7, v), (11, (Value.int IntKind.u64 (IntKind.u64.wrap (0 - (n + 1)))))] (j := 5) (by kernel_rfl) (by kernel_rfl) ?_
    have e5 : IntKind.u64.wrap (0 - (n + 1)) = 0 - (n + 1) := wrap_u64 (by omega) (by omega)
    rw [e5]
    refine Ops.regs 1 [(0, v), (1, (i64 n)), (4, (Value.slice none 0 0)), (7, v), (12, (Value.int IntKind.u64 (IntKind.u64.wrap (2 * (0 - (n + 1))))))] (j := 6) (by kernel_rfl) (by kernel_rfl) ?_
    have e6 : IntKind.u64.wrap (2 * (0 - (n + 1))) = 2 * (0 - (n + 1)) := wrap_u64 (by omega) (by omega)
    rw [e6]
    refine Ops.regs 1 [(0, v), (1, (i64 n)), (4, (Value.slice none 0 0)), (7, v), (13, (Value.int IntKind.u64 (IntKind.u64.wrap ((2 * (0 - (n + 1))) + 1))))] (j := 7) (by kernel_rfl) (by kernel_rfl) ?_
    have e7 : IntKind.u64.wrap ((2 * (0 - (n + 1))) + 1) = ((zz n : Nat) : Int) := by rw [wrap_u64 (by omega) (by omega)]; omega
    rw [e7]
    refine Ops.call (by kernel_rfl) (d := (some 14)) (by kernel_rfl) (RUint_calls _ v xs (zz n) (hv.keep0 (by omega) K0) (by omega) (by (try simp only at *); (try simp only [List.length_append] at *); (try simp only [List.length_cons] at *); (try simp only [List.length_nil] at *); omega)) ?_
    rintro _ w10 ⟨v9, rfl, K11, hO12⟩
    have O13 := own_base hO12 K0.size
    clear hO12
    have hL8 := uv_length_10 (n := zz n) (by omega)
    refine ⟨_, _, rfl, rfl, ?_⟩
    have K14 := K0.trans K11 (U := none_) (fun i h1 h2 => h2) (fun i h1 h2 => by exact h2)
    clear K0
    clear K11
    refine Ops.regs 1 [(0, v), (1, (i64 n)), (4, v9)] (j := 9) (by kernel_rfl) (by kernel_rfl) ?_
    refine Ops.done (by kernel_rfl) ?_
    refine q_ret (by kernel_rfl) ?_
    refine ⟨v9, retv_tmp rfl rfl, ?_⟩
    exact ⟨_, rfl, K14, O13⟩
  · rw [h1]
    have p15 : ¬ (n < 0) := of_decide_eq_false h1
    refine q_skip (by kernel_rfl) ?_
    refine q_seq (by kernel_rfl) ?_
    refine q_region (by kernel_rfl) ?_
    refine Ops.regs 3 [(4, (Value.slice none 0 0)), (15, v), (17, (Value.int IntKind.u64 (IntKind.u64.wrap (n))))] (j := 3) (by kernel_rfl) (by kernel_rfl) ?_
    have e16 : IntKind.u64.wrap (n) = n := wrap_u64 (by omega) (by omega)
    rw [e16]
    refine Ops.regs 1 [(4, (Value.slice none 0 0)), (15, v), (18, (Value.int IntKind.u64 (IntKind.u64.wrap (2 * n))))] (j := 4) (by kernel_rfl) (by kernel_rfl) ?_
    have e17 : IntKind.u64.wrap (2 * n) = ((zz n : Nat) : Int) := by rw [wrap_u64 (by omega) (by omega)]; omega
    rw [e17]
    refine Ops.call (by kernel_rfl) (d := (some 19)) (by kernel_rfl) (RUint_calls _ v xs (zz n) (hv.keep0 (by omega) K0) (by omega) (by (try simp only at *); (try simp only [List.length_append] at *); (try simp only [List.length_cons] at *); (try simp only [List.length_nil] at *); omega)) ?_
    rintro _ w20 ⟨v19, rfl, K21, hO22⟩
    have O23 := own_base hO22 K0.size
    clear hO22
    have hL18 := uv_length_10 (n := zz n) (by omega)
    refine ⟨_, _, rfl, rfl, ?_⟩
    have K24 := K0.trans K21 (U := none_) (fun i h1 h2 => h2) (fun i h1 h2 => by exact h2)
    clear K0
    clear K21
    refine Ops.regs 1 [(4, v19)] (j := 6) (by kernel_rfl) (by kernel_rfl) ?_
    refine Ops.done (by kernel_rfl) ?_
    refine q_ret (by kernel_rfl) ?_
    refine ⟨v19, retv_tmp rfl rfl, ?_⟩
    exact ⟨_, rfl, K24, O23⟩
end Go.Proofs.Ytnepjfnkaigakaa
