/- What the claim stands on, part 8: rules of the walk, contracts of the functions, plain laws. -/
import Derived.Test.YtooginpgclcldaaGreatDoorLoads4
import Derived.Lib.ConvBytes
import Derived.Test.YtooginpgclcldaaGreatDoorProg
import Derived.Test.YtooginpgclcldaaGreatDoorLoads7
set_option linter.unusedVariables false
namespace Go.Q
open Go.RowKit

/-- A text turned into bytes. -/
theorem run_s2b {P : Program} {w : World} {src dst e : TypeId} {ss : List UInt8} (hs : isStr? P src = true) (hd : sliceOf? P dst = some e) (hl : ss.length ≤ 140737488351232) :
    ∃ A c w', (convert src dst (.string (str ss))).run P w = .ok (.slice A ss.length c) w' ∧ Keeps none_ w w' ∧ RdB w' (.slice A ss.length c) ss ∧ ∀ b o s, A = some ⟨b, o, s⟩ → w.heap.size ≤ b := by
  unfold isStr? at hs
  unfold sliceOf? at hd
  cases hu : P.underlying src with
  | none => rw [hu] at hs; cases hs
  | some u =>
    cases hv : P.underlying dst with
    | none => rw [hv] at hd; cases hd
    | some d =>
      rw [hv] at hd
      cases d with
      | slice e' =>
        simp only at hd
        cases he : P.underlying e' with
        | none => rw [he] at hd; cases hd
        | some x =>
          rw [he] at hd
          cases x with
          | int k =>
            cases k with
            | u8 =>
              simp only [Option.some.injEq] at hd
              subst hd
              have hr := Lib.run_convert_string_bytes (P := P) w src dst e' (str ss) hu hv he
              rw [str_size] at hr
              have hmx : ss.length ≤ maxLen := by unfold maxLen; omega
              refine ⟨_, _, _, hr, ⟨rfl, rfl, rfl, by rw [Lib.bytesWorld_size]; omega, fun i hi _ => Lib.bytesWorld_at_old w e' _ i hi⟩, ?_, fun b o s h => by injection h with h; injection h with h; omega⟩
              refine ⟨_, _, _, rfl, by simp [bv_length], grownCap_ge w _ 0 e', grownCap_le_maxLen w _ 0 e' hmx, fun h0 => ⟨_, 0, rfl, fun j u hj => ?_⟩⟩
              have hj' : j < ss.length := by have := (List.getElem?_eq_some_iff.1 hj).1; rwa [bv_length] at this
              rw [Nat.zero_add, Lib.bytesWorld_cell w e' (str ss) j (by rw [str_size]; exact hj')]
              have e1 : (str ss).data.toList = ss := by simp [str]
              rw [e1]
              simp only [bv, List.getElem?_map] at hj
              rw [List.getElem?_eq_getElem hj'] at hj
              simp only [Option.map_some, Option.some.injEq] at hj
              rw [← hj, List.getD_eq_getElem?_getD, List.getElem?_eq_getElem hj']
              rfl
            | _ => cases hd
          | _ => cases hd
      | _ => cases hd
/-! ### operations and answers as bytes -/
structure Opm.Ok (o : Opm) : Prop where
  kind : -9223372036854775808 ≤ o.kind ∧ o.kind ≤ 9223372036854775807
  amount : -9223372036854775808 ≤ o.amount ∧ o.amount ≤ 9223372036854775807
  slot : -9223372036854775808 ≤ o.slot ∧ o.slot ≤ 9223372036854775807
  shard : -9223372036854775808 ≤ o.shard ∧ o.shard ≤ 9223372036854775807
def opv (o : Opm) : List UInt8 := iv o.kind ++ (tv o.frm ++ (tv o.to ++ (iv o.amount ++ (tv o.key ++ (iv o.slot ++ iv o.shard)))))
def rowsv : List RowM → List UInt8
  | [] => []
  | x :: l => tv x.name ++ (iv x.amount ++ rowsv l)
structure ReplyM.Ok (p : ReplyM) : Prop where
  why : -9223372036854775808 ≤ p.why ∧ p.why ≤ 9223372036854775807
  amount : -9223372036854775808 ≤ p.amount ∧ p.amount ≤ 9223372036854775807
  rows : ∀ x ∈ p.rows, -9223372036854775808 ≤ x.amount ∧ x.amount ≤ 9223372036854775807
def rpv (p : ReplyM) : List UInt8 := iv p.why ++ (iv p.amount ++ (uv p.rows.length ++ rowsv p.rows))
theorem tv_ge (s : List UInt8) : s.length ≤ (tv s).length := by unfold tv; rw [List.length_append]; omega
theorem tv_le {s : List UInt8} (h : s.length < 18446744073709551616) : (tv s).length ≤ s.length + 10 := by
  have := uv_length_10 h
  unfold tv; rw [List.length_append]; omega
theorem iv_pos (n : Int) : 0 < (iv n).length := uv_pos _
/-! ### what is written is read -/
theorem drop_next {b x rest : List UInt8} {k : Nat} (h : b.drop k = x ++ rest) : b.drop (k + x.length) = rest := by
  rw [← List.drop_drop, h, List.drop_left]
theorem drop_len {b x rest : List UInt8} {k : Nat} (h : b.drop k = x ++ rest) (hx : 0 < x.length) : k + x.length + rest.length = b.length := by
  have := congrArg List.length h
  rw [List.length_drop, List.length_append] at this
  omega
theorem uint_at {b rest : List UInt8} {k n : Nat} (h : b.drop k = uv n ++ rest) (hn : n < 18446744073709551616) : (⟨b, k, 0⟩ : Rdr).uint = (n, ⟨b, k + (uv n).length, 0⟩) := by
  have hs : scanB ((⟨b, k, 0⟩ : Rdr).bs.drop (⟨b, k, 0⟩ : Rdr).pos) = (n, (uv n).length, 0) := by
    show scanB (b.drop k) = _
    rw [h]; exact scanB_uv rest hn
  exact uint_good rfl hs
theorem int_at {b rest : List UInt8} {k : Nat} {n : Int} (h : b.drop k = iv n ++ rest) (hn : -9223372036854775808 ≤ n ∧ n ≤ 9223372036854775807) : (⟨b, k, 0⟩ : Rdr).int = (n, ⟨b, k + (iv n).length, 0⟩) := by
  have hu := uint_at (n := zz n) h (zz_lt hn)
  unfold Rdr.int
  rw [hu]
  simp only [unzz_zz, iv]
theorem sized_at {b rest : List UInt8} {k n : Nat} {m : Int} (h : b.drop k = uv n ++ rest) (hn : n < 18446744073709551616) (hm : ((n : Nat) : Int) ≤ m) (hr : n ≤ rest.length) : (⟨b, k, 0⟩ : Rdr).sized m = (n, ⟨b, k + (uv n).length, 0⟩) := by
  have hu := uint_at h hn
  have hl := drop_len h (uv_pos n)
  unfold Rdr.sized
  rw [hu, if_neg (by simp), if_neg (by simp), if_neg (by simp only; omega), if_neg (by simp only; omega)]
theorem bytes_at {b s rest : List UInt8} {k : Nat} (h : b.drop k = tv s ++ rest) (hs : s.length ≤ 65536) : (⟨b, k, 0⟩ : Rdr).bytes = (s, ⟨b, k + (tv s).length, 0⟩) := by
  have h' : b.drop k = uv s.length ++ (s ++ rest) := by rw [h, tv, List.append_assoc]
  have hz := sized_at (m := 65536) h' (by omega) (by omega) (by rw [List.length_append]; omega)
  have hd := drop_next h'
  unfold Rdr.bytes
  rw [hz, if_neg (by simp)]
  simp only [hd]
  rw [List.take_left, tv, List.length_append, Nat.add_assoc]
end Go.Q
namespace Go.Q
end Go.Q
namespace Go.Q
end Go.Q
namespace Go.Q
end Go.Q
namespace Go.Q
open Go.RowKit
/-- A byte, its bits from i on. -/
def shr8 (c i : Nat) : Nat := c / 2 ^ i
theorem shr8_le (c i : Nat) : shr8 c i ≤ c := Nat.div_le_self _ _
theorem shr8_zero (c : Nat) : shr8 c 0 = c := by simp [shr8]
theorem shr8_next (c i : Nat) : shr8 c (i + 1) = shr8 c i / 2 := by unfold shr8; rw [Nat.pow_succ, Nat.div_div_eq_div_mul]
theorem shr8_end {c : Nat} (h : c < 256) : shr8 c 8 = 0 := by unfold shr8; exact Nat.div_eq_of_lt (by omega)
theorem run_shrv {P : Program} {w : World} {t : TypeId} {k : IntKind} {c i : Nat} {s : Int} (hs : s = (i : Int)) (hi : i ≤ 8) : (binOp .shr t (.int .u8 ((c : Nat) : Int)) (.int k s)).run P w = .ok (.int .u8 ((shr8 c i : Nat) : Int)) w := by
  have h1 : ¬ s < 0 := by omega
  have h2 : min s.toNat IntKind.u8.bits = i := by
    have : IntKind.u8.bits = 8 := rfl
    rw [this]; omega
  simp only [binOp, Op.shift, h1, if_false, h2]
  have e : ((c : Nat) : Int).fdiv (2 ^ i) = ((shr8 c i : Nat) : Int) := by
    unfold shr8
    rw [Int.fdiv_eq_ediv_of_nonneg _ (by exact Int.pow_nonneg (by decide))]
    simp
  rw [e]
  rfl
theorem and_one (a : Nat) : a &&& 1 = a % 2 := Nat.and_one_is_mod a
theorem step_t {r s : Nat} (h : ((((r ^^^ s) &&& 1 : Nat)) : Int) = 1) : (r / 2 ^^^ 2197175160) ^^^ (s / 2) = shiftB (r ^^^ s) := by
  have h1 : (r ^^^ s) &&& 1 = 1 := by omega
  unfold shiftB
  rw [h1, show (2197175160 &&& neg32 1) = 2197175160 from by decide, Nat.xor_div_two, Nat.xor_assoc, Nat.xor_assoc, Nat.xor_comm 2197175160]
theorem step_f {r s : Nat} (h : ¬ ((((r ^^^ s) &&& 1 : Nat)) : Int) = 1) : (r / 2) ^^^ (s / 2) = shiftB (r ^^^ s) := by
  have h1 : (r ^^^ s) &&& 1 = 0 := by rw [and_one] at h ⊢; omega
  unfold shiftB
  rw [h1, show (2197175160 &&& neg32 0) = 0 from by decide, Nat.xor_div_two, Nat.xor_zero]
end Go.Q
namespace Go.Proofs.YtooginpgclcldaaGreatDoor
open Go.Q Go.RowKit

theorem RStep_calls (w : World) (r : Nat) (x : UInt8) (hr : r < 4294967296) : Calls Tryz.prog 126 ⟨[(Value.int IntKind.u32 ((r : Nat) : Int)), (Value.int IntKind.u8 ((x.toNat : Nat) : Int))]⟩ w (fun e w' => e = .returned (.int .u32 ((crcByte r x : Nat) : Int)) ∧ Keeps none_ w w') := by
 have hx256 : x.toNat < 256 := x.toNat_lt
 have K0 : Keeps none_ w w := Keeps.refl w
 refine q_calls Tryz.func126 (by kernel_rfl) (by kernel_rfl) ?_
 refine qs ?_
 refine qg ?_
 refine og 1 [(0, (Value.int IntKind.u32 ((r : Nat) : Int))), (1, (Value.int IntKind.u8 ((x.toNat : Nat) : Int))), (4, (Value.int IntKind.u32 0))] 1 ?_
 refine od ?_
 refine qs ?_
 refine qs ?_
 refine qg ?_
 refine og 1 [(0, (Value.int IntKind.u32 ((r : Nat) : Int))), (1, (Value.int IntKind.u8 ((x.toNat : Nat) : Int))), (4, (Value.int IntKind.u32 0)), (5, (i64 0))] 1 ?_
 refine od ?_
 refine q_block (id := 0) (by kernel_rfl) ?_
 refine q_keep (R := [(0, (Value.int IntKind.u32 ((r : Nat) : Int))), (1, (Value.int IntKind.u8 ((x.toNat : Nat) : Int))), (4, (Value.int IntKind.u32 0)), (5, (i64 0))]) (by kernel_rfl) ?_
 refine q_loop (fun (gs : Nat × Nat) L (wx : World) => match gs with | (i, q) => L = [(0, (Value.int IntKind.u32 ((q : Nat) : Int))), (1, (Value.int IntKind.u8 ((x.toNat : Nat) : Int))), (4, (Value.int IntKind.u32 0)), (5, (i64 ((i : Nat) : Int)))] ∧ q ^^^ shr8 x.toNat i = shiftN i (r ^^^ x.toNat) ∧ q < 4294967296 ∧ i ≤ 8 ∧ Keeps none_ w wx) (fun (gs : Nat × Nat) => match gs with | (i, q) => 8 - i) (0, r) (by kernel_rfl) ⟨rfl, (by rw [shr8_zero]; rfl), hr, (by omega), K0⟩ ?_
 clear K0
 rintro ⟨i, q⟩ _ w1 ⟨rfl, hE, hq, hi, K2⟩
 have hs8 := shr8_le x.toNat i
 refine qs ?_
 refine qs ?_
 refine qg ?_
 refine og 2 [(0, (Value.int IntKind.u32 ((q : Nat) : Int))), (1, (Value.int IntKind.u8 ((x.toNat : Nat) : Int))), (4, (Value.int IntKind.u32 0)), (5, (i64 ((i : Nat) : Int))), (8, (Value.bool (decide (((i : Nat) : Int) < 8))))] 2 ?_
 refine od ?_
 refine q_cond (o := .tmp 8) (b := (decide (((i : Nat) : Int) < 8))) (by kernel_rfl) rfl (fun h3 => ?_) (fun h3 => ?_)
 ·rw [h3]
  have p4 : ((i : Nat) : Int) < 8 := of_decide_eq_true h3
  refine q_skip (by kernel_rfl) ?_
  refine qs ?_
  refine q_block (id := 1) (by kernel_rfl) ?_
  refine qs ?_
  refine qg ?_
  refine og 4 [(0, (Value.int IntKind.u32 ((q : Nat) : Int))), (1, (Value.int IntKind.u8 ((x.toNat : Nat) : Int))), (4, (Value.int IntKind.u32 0)), (5, (i64 ((i : Nat) : Int))), (8, (Value.bool true)), (11, (Value.int IntKind.u32 ((q : Nat) : Int))), (12, (Value.int IntKind.u8 ((x.toNat : Nat) : Int))), (14, (Value.int IntKind.u64 (IntKind.u64.wrap (((i : Nat) : Int)))))] 4 ?_
  have e5 : IntKind.u64.wrap (((i : Nat) : Int)) = ((i : Nat) : Int) := wrap_u64 (by omega) (by omega)
  rw [e5]
  refine Ops.go (v := (Value.int IntKind.u8 ((shr8 x.toNat i : Nat) : Int))) (by kernel_rfl) (Runs.int (op := .shr) (t := 5) (by kernel_rfl) (run_shrv (k := IntKind.u64) (i := i) (s := ((i : Nat) : Int)) rfl (by omega))) (d := (some 15)) (by kernel_rfl) rfl ?_
  refine og 1 [(0, (Value.int IntKind.u32 ((q : Nat) : Int))), (1, (Value.int IntKind.u8 ((x.toNat : Nat) : Int))), (4, (Value.int IntKind.u32 0)), (5, (i64 ((i : Nat) : Int))), (8, (Value.bool true)), (11, (Value.int IntKind.u32 ((q : Nat) : Int))), (16, (Value.int IntKind.u32 (IntKind.u32.wrap (((shr8 x.toNat i : Nat) : Int)))))] 6 ?_
  have e6 : IntKind.u32.wrap (((shr8 x.toNat i : Nat) : Int)) = ((shr8 x.toNat i : Nat) : Int) := wrap_u32 (by omega) (by omega)
  rw [e6]
  have hb7 : q ^^^ (shr8 x.toNat i) < 4294967296 := xor32_lt (by omega) (by omega)
  refine Ops.go (v := (Value.int IntKind.u32 ((q ^^^ (shr8 x.toNat i) : Nat) : Int))) (by kernel_rfl) (Runs.int (op := .xor) (t := 114) (by kernel_rfl) (run_xor32 (a := q) (b := (shr8 x.toNat i)) (by omega) (by omega))) (d := (some 17)) (by kernel_rfl) rfl ?_
  have hb8 : (q ^^^ (shr8 x.toNat i)) &&& 1 < 4294967296 := and32_lt (by omega)
  refine Ops.go (v := (Value.int IntKind.u32 (((q ^^^ (shr8 x.toNat i)) &&& 1 : Nat) : Int))) (by kernel_rfl) (Runs.int (op := .and) (t := 114) (by kernel_rfl) (run_and32 (a := (q ^^^ (shr8 x.toNat i))) (b := 1) (by omega) (by omega))) (d := (some 18)) (by kernel_rfl) rfl ?_
  refine og 1 [(0, (Value.int IntKind.u32 ((q : Nat) : Int))), (1, (Value.int IntKind.u8 ((x.toNat : Nat) : Int))), (4, (Value.int IntKind.u32 0)), (5, (i64 ((i : Nat) : Int))), (6, (Value.int IntKind.u32 (((q ^^^ (shr8 x.toNat i)) &&& 1 : Nat) : Int))), (8, (Value.bool true))] 9 ?_
  refine od ?_
  refine qs ?_
  refine qg ?_
  refine og 2 [(0, (Value.int IntKind.u32 ((q : Nat) : Int))), (1, (Value.int IntKind.u8 ((x.toNat : Nat) : Int))), (4, (Value.int IntKind.u32 0)), (5, (i64 ((i : Nat) : Int))), (6, (Value.int IntKind.u32 (((q ^^^ (shr8 x.toNat i)) &&& 1 : Nat) : Int))), (8, (Value.bool true)), (20, (Value.int IntKind.u32 ((((q : Nat) : Int)).fdiv 2)))] 2 ?_
  have e9 : (((q : Nat) : Int)).fdiv 2 = ((q / 2 : Nat) : Int) := fdiv_nat q 2
  rw [e9]
  clear e9
  refine og 1 [(0, (Value.int IntKind.u32 ((q / 2 : Nat) : Int))), (1, (Value.int IntKind.u8 ((x.toNat : Nat) : Int))), (4, (Value.int IntKind.u32 0)), (5, (i64 ((i : Nat) : Int))), (6, (Value.int IntKind.u32 (((q ^^^ (shr8 x.toNat i)) &&& 1 : Nat) : Int))), (8, (Value.bool true))] 3 ?_
  refine od ?_
  refine qs ?_
  refine qg ?_
  refine og 2 [(0, (Value.int IntKind.u32 ((q / 2 : Nat) : Int))), (1, (Value.int IntKind.u8 ((x.toNat : Nat) : Int))), (4, (Value.int IntKind.u32 0)), (5, (i64 ((i : Nat) : Int))), (6, (Value.int IntKind.u32 (((q ^^^ (shr8 x.toNat i)) &&& 1 : Nat) : Int))), (8, (Value.bool true)), (22, (Value.bool ((((q ^^^ (shr8 x.toNat i)) &&& 1 : Nat) : Int) == 1)))] 2 ?_
  refine od ?_
  refine q_cond (o := .tmp 22) (b := ((((q ^^^ (shr8 x.toNat i)) &&& 1 : Nat) : Int) == 1)) (by kernel_rfl) rfl (fun h10 => ?_) (fun h10 => ?_)
  ·rw [h10]
   have p11 : (((q ^^^ (shr8 x.toNat i)) &&& 1 : Nat) : Int) = 1 := of_beq_t h10
   refine qg ?_
   refine og 1 [(0, (Value.int IntKind.u32 ((q / 2 : Nat) : Int))), (1, (Value.int IntKind.u8 ((x.toNat : Nat) : Int))), (4, (Value.int IntKind.u32 0)), (5, (i64 ((i : Nat) : Int))), (6, (Value.int IntKind.u32 (((q ^^^ (shr8 x.toNat i)) &&& 1 : Nat) : Int))), (8, (Value.bool true)), (22, (Value.bool true)), (23, (Value.int IntKind.u32 ((q / 2 : Nat) : Int)))] 1 ?_
   have hb12 : (q / 2) ^^^ 2197175160 < 4294967296 := xor32_lt (by omega) (by omega)
   refine Ops.go (v := (Value.int IntKind.u32 (((q / 2) ^^^ 2197175160 : Nat) : Int))) (by kernel_rfl) (Runs.int (op := .xor) (t := 114) (by kernel_rfl) (run_xor32 (a := (q / 2)) (b := 2197175160) (by omega) (by omega))) (d := (some 24)) (by kernel_rfl) rfl ?_
   refine og 1 [(0, (Value.int IntKind.u32 (((q / 2) ^^^ 2197175160 : Nat) : Int))), (1, (Value.int IntKind.u8 ((x.toNat : Nat) : Int))), (4, (Value.int IntKind.u32 0)), (5, (i64 ((i : Nat) : Int))), (6, (Value.int IntKind.u32 (((q ^^^ (shr8 x.toNat i)) &&& 1 : Nat) : Int))), (8, (Value.bool true)), (22, (Value.bool true))] 3 ?_
   refine od ?_
   refine qg ?_
   refine og 2 [(0, (Value.int IntKind.u32 (((q / 2) ^^^ 2197175160 : Nat) : Int))), (1, (Value.int IntKind.u8 ((x.toNat : Nat) : Int))), (4, (Value.int IntKind.u32 0)), (5, (i64 ((i : Nat) : Int))), (6, (Value.int IntKind.u32 (((q ^^^ (shr8 x.toNat i)) &&& 1 : Nat) : Int))), (8, (Value.bool true)), (10, (i64 (IntKind.i64.wrap (((i : Nat) : Int) + 1)))), (22, (Value.bool true))] 2 ?_
   have e13 : IntKind.i64.wrap (((i : Nat) : Int) + 1) = ((i + 1 : Nat) : Int) := by rw [wrap_i64 (by omega) (by omega)]; omega
   rw [e13]
   clear e13
   refine og 1 [(0, (Value.int IntKind.u32 (((q / 2) ^^^ 2197175160 : Nat) : Int))), (1, (Value.int IntKind.u8 ((x.toNat : Nat) : Int))), (4, (Value.int IntKind.u32 0)), (5, (i64 ((i + 1 : Nat) : Int))), (6, (Value.int IntKind.u32 (((q ^^^ (shr8 x.toNat i)) &&& 1 : Nat) : Int))), (8, (Value.bool true)), (22, (Value.bool true))] 3 ?_
   refine Ops.keep (R := [(0, (Value.int IntKind.u32 (((q / 2) ^^^ 2197175160 : Nat) : Int))), (1, (Value.int IntKind.u8 ((x.toNat : Nat) : Int))), (4, (Value.int IntKind.u32 0)), (5, (i64 ((i + 1 : Nat) : Int)))]) (by kernel_rfl) ?_
   refine od ?_
   exact ⟨(i + 1, (q / 2) ^^^ 2197175160), ⟨rfl, (by rw [shr8_next, step_t p11, hE]; rfl), (by omega), (by omega), K2⟩, (show 8 - (i + 1) < 8 - i from by omega)⟩
  ·rw [h10]
   have p14 : ¬ ((((q ^^^ (shr8 x.toNat i)) &&& 1 : Nat) : Int) = 1) := of_beq_f h10
   refine q_skip (by kernel_rfl) ?_
   refine qg ?_
   refine og 2 [(0, (Value.int IntKind.u32 ((q / 2 : Nat) : Int))), (1, (Value.int IntKind.u8 ((x.toNat : Nat) : Int))), (4, (Value.int IntKind.u32 0)), (5, (i64 ((i : Nat) : Int))), (6, (Value.int IntKind.u32 (((q ^^^ (shr8 x.toNat i)) &&& 1 : Nat) : Int))), (8, (Value.bool true)), (10, (i64 (IntKind.i64.wrap (((i : Nat) : Int) + 1)))), (22, (Value.bool false))] 2 ?_
   have e15 : IntKind.i64.wrap (((i : Nat) : Int) + 1) = ((i + 1 : Nat) : Int) := by rw [wrap_i64 (by omega) (by omega)]; omega
   rw [e15]
   clear e15
   refine og 1 [(0, (Value.int IntKind.u32 ((q / 2 : Nat) : Int))), (1, (Value.int IntKind.u8 ((x.toNat : Nat) : Int))), (4, (Value.int IntKind.u32 0)), (5, (i64 ((i + 1 : Nat) : Int))), (6, (Value.int IntKind.u32 (((q ^^^ (shr8 x.toNat i)) &&& 1 : Nat) : Int))), (8, (Value.bool true)), (22, (Value.bool false))] 3 ?_
   refine Ops.keep (R := [(0, (Value.int IntKind.u32 ((q / 2 : Nat) : Int))), (1, (Value.int IntKind.u8 ((x.toNat : Nat) : Int))), (4, (Value.int IntKind.u32 0)), (5, (i64 ((i + 1 : Nat) : Int)))]) (by kernel_rfl) ?_
   refine od ?_
   exact ⟨(i + 1, q / 2), ⟨rfl, (by rw [shr8_next, step_f p14, hE]; rfl), (by omega), (by omega), K2⟩, (show 8 - (i + 1) < 8 - i from by omega)⟩
 ·rw [h3]
  have p16 : ¬ (((i : Nat) : Int) < 8) := of_decide_eq_false h3
  refine q_exit (id := 0) (by kernel_rfl) ?_
  refine qs ?_
  refine qg ?_
  refine og 2 [(4, (Value.int IntKind.u32 ((q : Nat) : Int)))] 2 ?_
  refine od ?_
  refine q_ret (by kernel_rfl) ?_
  refine ⟨(Value.int IntKind.u32 ((q : Nat) : Int)), retv_tmp rfl rfl, ?_⟩
  have e : q = crcByte r x := by have h8 : i = 8 := (by omega); subst h8; rw [shr8_end (by omega), Nat.xor_zero] at hE; exact hE
  exact ⟨by rw [e], K2⟩

theorem RMore_calls (w : World) (A : Option Addr) (c s : Nat) (bs : List UInt8) (hs : s < 4294967296) (hv : RdB w (.slice A bs.length c) bs) (hl : bs.length ≤ 140737488351232) : Calls Tryz.prog 108 ⟨[(Value.int IntKind.u32 ((s : Nat) : Int)), (Value.slice A bs.length c)]⟩ w (fun e w' => e = .returned (.int .u32 ((crcMore s bs : Nat) : Int)) ∧ Keeps none_ w w') := by
 have K0 : Keeps none_ w w := Keeps.refl w
 refine q_calls Tryz.func108 (by kernel_rfl) (by kernel_rfl) ?_
 refine qs ?_
 refine qg ?_
 refine og 1 [(0, (Value.int IntKind.u32 ((s : Nat) : Int))), (1, (Value.slice A bs.length c)), (4, (Value.int IntKind.u32 0))] 1 ?_
 refine od ?_
 refine qs ?_
 refine qg ?_
 refine og 1 [(1, (Value.slice A bs.length c)), (4, (Value.int IntKind.u32 0)), (7, (Value.int IntKind.u32 ((s : Nat) : Int)))] 1 ?_
 have hb1 : 4294967295 ^^^ s < 4294967296 := xor32_lt (by omega) (by omega)
 refine Ops.go (v := (Value.int IntKind.u32 ((4294967295 ^^^ s : Nat) : Int))) (by kernel_rfl) (Runs.un (op := .xor) (by kernel_rfl) (run_not32 (a := s) (by omega))) (d := (some 8)) (by kernel_rfl) rfl ?_
 refine og 1 [(1, (Value.slice A bs.length c)), (4, (Value.int IntKind.u32 0)), (5, (Value.int IntKind.u32 ((4294967295 ^^^ s : Nat) : Int)))] 3 ?_
 refine od ?_
 refine qs ?_
 refine qs ?_
 refine qg ?_
 refine og 1 [(1, (Value.slice A bs.length c)), (4, (Value.int IntKind.u32 0)), (5, (Value.int IntKind.u32 ((4294967295 ^^^ s : Nat) : Int))), (6, (i64 0))] 1 ?_
 refine od ?_
 refine q_block (id := 0) (by kernel_rfl) ?_
 refine q_keep (R := [(1, (Value.slice A bs.length c)), (4, (Value.int IntKind.u32 0)), (5, (Value.int IntKind.u32 ((4294967295 ^^^ s : Nat) : Int))), (6, (i64 0))]) (by kernel_rfl) ?_
 refine q_loop (fun (gs : Nat × Nat) L (wx : World) => match gs with | (i, r) => L = [(1, (Value.slice A bs.length c)), (4, (Value.int IntKind.u32 0)), (5, (Value.int IntKind.u32 ((r : Nat) : Int))), (6, (i64 ((i : Nat) : Int)))] ∧ r = (bs.take i).foldl crcByte (4294967295 ^^^ s) ∧ r < 4294967296 ∧ i ≤ bs.length ∧ Keeps none_ w wx) (fun (gs : Nat × Nat) => match gs with | (i, r) => bs.length - i) (0, 4294967295 ^^^ s) (by kernel_rfl) ⟨rfl, rfl, (xor32_lt (by omega) hs), (by omega), K0⟩ ?_
 clear K0
 rintro ⟨i, r⟩ _ w2 ⟨rfl, hE, hr, hil, K3⟩
 refine qs ?_
 refine qs ?_
 refine qg ?_
 refine og 4 [(1, (Value.slice A bs.length c)), (4, (Value.int IntKind.u32 0)), (5, (Value.int IntKind.u32 ((r : Nat) : Int))), (6, (i64 ((i : Nat) : Int))), (12, (Value.bool (decide (((i : Nat) : Int) < ((bs.length : Nat) : Int)))))] 4 ?_
 refine od ?_
 refine q_cond (o := .tmp 12) (b := (decide (((i : Nat) : Int) < ((bs.length : Nat) : Int)))) (by kernel_rfl) rfl (fun h4 => ?_) (fun h4 => ?_)
 ·rw [h4]
  have p5 : ((i : Nat) : Int) < ((bs.length : Nat) : Int) := of_decide_eq_true h4
  obtain ⟨x, lb, lo, hx, hA, hLd⟩ := RdB.at (P := Tryz.prog) (t := 5) hv (k := i) (by kernel_rfl) (by omega)
  have hx256 : x.toNat < 256 := x.toNat_lt
  refine q_skip (by kernel_rfl) ?_
  refine qs ?_
  refine q_block (id := 1) (by kernel_rfl) ?_
  refine qg ?_
  refine og 3 [(1, (Value.slice A bs.length c)), (4, (Value.int IntKind.u32 0)), (5, (Value.int IntKind.u32 ((r : Nat) : Int))), (6, (i64 ((i : Nat) : Int))), (12, (Value.bool true)), (15, (Value.int IntKind.u32 ((r : Nat) : Int))), (16, (Value.slice A bs.length c)), (17, (i64 ((i : Nat) : Int)))] 3 ?_
  refine Ops.go (by kernel_rfl) (Runs.ixSliceE (k := IntKind.i64) (t := 22) (len := bs.length) (cap := c) (s := 1) (off' := lo + i) (i := ((i : Nat) : Int)) hA (by kernel_rfl) (by kernel_rfl) (by omega) (by omega) (by omega)) (d := (some 18)) (by kernel_rfl) rfl ?_
  refine Ops.go (v := (Value.int IntKind.u8 ((x.toNat : Nat) : Int))) (by kernel_rfl) (Runs.load (t := 5) (a := ⟨lb, lo + i, none⟩) (by kernel_rfl) (hLd _ _ K3 (fun h => h))) (d := (some 19)) (by kernel_rfl) rfl ?_
  refine Ops.call (by kernel_rfl) (d := (some 20)) (by kernel_rfl) (RStep_calls _ r x (by omega)) ?_
  rintro _ w6 ⟨rfl, K7⟩
  refine ⟨_, _, rfl, rfl, ?_⟩
  replace K3 := K3.trans K7 (U := none_) (fun i h1 h2 => h2) (fun i h1 h2 => by exact h2)
  clear K7
  refine og 1 [(1, (Value.slice A bs.length c)), (4, (Value.int IntKind.u32 0)), (5, (Value.int IntKind.u32 ((crcByte r x : Nat) : Int))), (6, (i64 ((i : Nat) : Int))), (12, (Value.bool true))] 7 ?_
  refine od ?_
  refine qg ?_
  refine og 2 [(1, (Value.slice A bs.length c)), (4, (Value.int IntKind.u32 0)), (5, (Value.int IntKind.u32 ((crcByte r x : Nat) : Int))), (6, (i64 ((i : Nat) : Int))), (12, (Value.bool true)), (14, (i64 (IntKind.i64.wrap (((i : Nat) : Int) + 1))))] 2 ?_
  have e8 : IntKind.i64.wrap (((i : Nat) : Int) + 1) = ((i + 1 : Nat) : Int) := by rw [wrap_i64 (by omega) (by omega)]; omega
  rw [e8]
  clear e8
  refine og 1 [(1, (Value.slice A bs.length c)), (4, (Value.int IntKind.u32 0)), (5, (Value.int IntKind.u32 ((crcByte r x : Nat) : Int))), (6, (i64 ((i + 1 : Nat) : Int))), (12, (Value.bool true))] 3 ?_
  refine Ops.keep (R := [(1, (Value.slice A bs.length c)), (4, (Value.int IntKind.u32 0)), (5, (Value.int IntKind.u32 ((crcByte r x : Nat) : Int))), (6, (i64 ((i + 1 : Nat) : Int)))]) (by kernel_rfl) ?_
  refine od ?_
  exact ⟨(i + 1, crcByte r x), ⟨rfl, (by rw [fold_take hx, ← hE]), (crcByte_lt x hr), (by omega), K3⟩, (show bs.length - (i + 1) < bs.length - i from by omega)⟩
 ·rw [h4]
  have p9 : ¬ (((i : Nat) : Int) < ((bs.length : Nat) : Int)) := of_decide_eq_false h4
  refine q_exit (id := 0) (by kernel_rfl) ?_
  refine qs ?_
  refine qg ?_
  refine og 1 [(4, (Value.int IntKind.u32 0)), (21, (Value.int IntKind.u32 ((r : Nat) : Int)))] 1 ?_
  have hb10 : 4294967295 ^^^ r < 4294967296 := xor32_lt (by omega) (by omega)
  refine Ops.go (v := (Value.int IntKind.u32 ((4294967295 ^^^ r : Nat) : Int))) (by kernel_rfl) (Runs.un (op := .xor) (by kernel_rfl) (run_not32 (a := r) (by omega))) (d := (some 22)) (by kernel_rfl) rfl ?_
  refine og 1 [(4, (Value.int IntKind.u32 ((4294967295 ^^^ r : Nat) : Int)))] 3 ?_
  refine od ?_
  refine q_ret (by kernel_rfl) ?_
  refine ⟨(Value.int IntKind.u32 ((4294967295 ^^^ r : Nat) : Int)), retv_tmp rfl rfl, ?_⟩
  have e : 4294967295 ^^^ r = crcMore s bs := by rw [hE, show i = bs.length from by omega, List.take_length]; rfl
  exact ⟨by rw [e], K3⟩

theorem RMore_any (w : World) (v : Value) (s : Nat) (bs : List UInt8) (hs : s < 4294967296) (hv : RdB w v bs) (hl : bs.length ≤ 140737488351232) : Calls Tryz.prog 108 ⟨[.int .u32 ((s : Nat) : Int), v]⟩ w (fun e w' => e = .returned (.int .u32 ((crcMore s bs : Nat) : Int)) ∧ Keeps none_ w w') := by
 obtain ⟨A, c, rfl⟩ := hv.form
 exact RMore_calls w A c s bs hs hv hl

theorem RSum_calls (w : World) (v : Value) (bs : List UInt8) (hv : RdB w v bs) (hl : bs.length ≤ 140737488351232) : Calls Tryz.prog 92 ⟨[v]⟩ w (fun e w' => e = .returned (.int .u32 ((crcMore 0 bs : Nat) : Int)) ∧ Keeps none_ w w') := by
 have K0 : Keeps none_ w w := Keeps.refl w
 refine q_calls Tryz.func92 (by kernel_rfl) (by kernel_rfl) ?_
 refine qs ?_
 refine qg ?_
 refine og 1 [(0, v), (2, (Value.int IntKind.u32 0))] 1 ?_
 refine od ?_
 refine qs ?_
 refine qg ?_
 refine og 1 [(2, (Value.int IntKind.u32 0)), (3, v)] 1 ?_
 refine Ops.call (by kernel_rfl) (d := (some 4)) (by kernel_rfl) (RMore_any _ v 0 bs (by omega) (hv.keep0 (by omega) K0) (by omega)) ?_
 rintro _ w1 ⟨rfl, K2⟩
 refine ⟨_, _, rfl, rfl, ?_⟩
 replace K0 := K0.t0 K2
 clear K2
 refine og 1 [(2, (Value.int IntKind.u32 ((crcMore 0 bs : Nat) : Int)))] 3 ?_
 refine od ?_
 refine q_ret (by kernel_rfl) ?_
 refine ⟨(Value.int IntKind.u32 ((crcMore 0 bs : Nat) : Int)), retv_tmp rfl rfl, ?_⟩
 exact ⟨rfl, K0⟩

theorem RSlot_calls (w : World) (n : List UInt8) (hn : n.length ≤ 140737488351232) : Calls Tryz.prog 76 ⟨[(Value.string (str n))]⟩ w (fun e w' => e = .returned (i64 ((slotB n : Nat) : Int)) ∧ Keeps none_ w w') := by
 have K0 : Keeps none_ w w := Keeps.refl w
 refine q_calls Tryz.func76 (by kernel_rfl) (by kernel_rfl) ?_
 refine qs ?_
 refine qg ?_
 refine og 1 [(0, (Value.string (str n))), (2, (i64 0))] 1 ?_
 refine od ?_
 refine qs ?_
 refine qg ?_
 refine og 1 [(2, (i64 0)), (3, (Value.string (str n)))] 1 ?_
 obtain ⟨A1, c2, w3, hr4, K5, F6, hge7⟩ := run_s2b (P := Tryz.prog) (w := w) (src := 9) (dst := 22) (e := 5) (ss := n) (by kernel_rfl) (by kernel_rfl) (by first | omega | decide)
 refine Ops.go (v := (Value.slice A1 n.length c2)) (by kernel_rfl) (Runs.conv (by kernel_rfl) hr4) (d := (some 4)) (by kernel_rfl) rfl ?_
 replace K0 := K0.t0 K5
 clear K5 hr4 hge7
 refine Ops.call (by kernel_rfl) (d := (some 5)) (by kernel_rfl) (RSum_calls _ (Value.slice A1 n.length c2) n F6 (by omega)) ?_
 rintro _ w8 ⟨rfl, K9⟩
 have hb10 := crcMore_lt n (s := 0) (by omega)
 refine ⟨_, _, rfl, rfl, ?_⟩
 replace K0 := K0.t0 K9
 replace F6 := (Rd.keep0 (by omega) F6 K9)
 clear K9
 refine og 1 [(2, (i64 0)), (6, (Value.int IntKind.u32 ((((crcMore 0 n : Nat) : Int)).tmod 16)))] 4 ?_
 have e11 : (((crcMore 0 n : Nat) : Int)).tmod 16 = (((crcMore 0 n) % 16 : Nat) : Int) := tmod_nat (crcMore 0 n) 16
 rw [e11]
 clear e11
 refine og 1 [(2, (i64 0)), (7, (i64 (IntKind.i64.wrap ((((crcMore 0 n) % 16 : Nat) : Int)))))] 5 ?_
 have e12 : IntKind.i64.wrap ((((crcMore 0 n) % 16 : Nat) : Int)) = (((crcMore 0 n) % 16 : Nat) : Int) := wrap_i64 (by omega) (by omega)
 rw [e12]
 refine og 1 [(2, (i64 (((crcMore 0 n) % 16 : Nat) : Int)))] 6 ?_
 refine od ?_
 refine q_ret (by kernel_rfl) ?_
 refine ⟨(i64 (((crcMore 0 n) % 16 : Nat) : Int)), retv_tmp rfl rfl, ?_⟩
 exact ⟨rfl, K0⟩
end Go.Proofs.YtooginpgclcldaaGreatDoor
namespace Go.Q
def heldB (O : List UInt8) : Nat := if O = [] then 0 else 1
def heldL (l : List (List UInt8 × AccV)) : Nat := (l.map fun x => heldB x.2.2).sum
theorem heldB_le (O : List UInt8) : heldB O ≤ 1 := by unfold heldB; split <;> omega
theorem heldL_next (l : List (List UInt8 × AccV)) (x : List UInt8 × AccV) : heldL (l ++ [x]) = heldL l + heldB x.2.2 := by simp [heldL]
theorem heldL_le : ∀ (l : List (List UInt8 × AccV)), heldL l ≤ l.length
  | [] => Nat.le_refl _
  | x :: l => by
    have h1 := heldL_le l
    have h2 := heldB_le x.2.2
    have : heldL (x :: l) = heldB x.2.2 + heldL l := by simp [heldL]
    rw [this, List.length_cons]
    omega
theorem heldL_perm {l k : List (List UInt8 × AccV)} (h : l.Perm k) : heldL l = heldL k := by
  unfold heldL
  exact (h.map _).sum_nat
theorem heldL_accs : ∀ (S : List AccM), heldL (S.map AccM.pair) = heldN S
  | [] => rfl
  | a :: S => by
    have e : heldL ((a :: S).map AccM.pair) = heldB a.own + heldL (S.map AccM.pair) := by simp [heldL, AccM.pair]
    rw [e, heldL_accs S]
    unfold heldN heldB
    by_cases h : a.own = []
    · rw [if_pos h, List.filter_cons_of_neg (by simp [h])]; omega
    · rw [if_neg h, List.filter_cons_of_pos (by simp [h]), List.length_cons]; omega
theorem heldL_book {m all : List (List UInt8 × AccV)} {S : List AccM} (h : Book m S) (hp : all.Perm m) : heldL all = heldN S := by
  rw [← heldL_accs S]
  exact heldL_perm (hp.trans h.perm.symm)
theorem aggB_held (A : Int) (O : List UInt8) : aggB [i64 A, .string (str O)] [i64 A, .string ByteArray.empty] = true ↔ O = [] := by
  rw [show ByteArray.empty = str [] from rfl]
  simp only [aggB, Bool.and_eq_true, cellB_str_iff, cellB_int_iff, and_true, true_and]
theorem held_f {A : Int} {O : List UInt8} (h : aggB [i64 A, .string (str O)] [i64 A, .string ByteArray.empty] = true) : heldB O = 0 := by
  unfold heldB; rw [if_pos ((aggB_held A O).1 h)]
theorem held_t {A : Int} {O : List UInt8} (h : aggB [i64 A, .string (str O)] [i64 A, .string ByteArray.empty] = false) : heldB O = 1 := by
  unfold heldB
  rw [if_neg fun e => by rw [(aggB_held A O).2 e] at h; cases h]
end Go.Q
