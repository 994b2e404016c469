/- Readers: what is left, signed numbers. -/
import Derived.Test.YtnepjfnkaigakaaLibRead
set_option linter.unusedVariables false
namespace Go.Q
open Go.RowKit

theorem RdB.drop {w : World} {A : Option Addr} {c l : Nat} {bs : List UInt8} (h : RdB w (.slice A bs.length c) bs) (hl : l ≤ bs.length) :
    RdB w (.slice (if c = l then A else A.map (·.add (l * 1))) (bs.length - l) (c - l)) (bs.drop l) := by
  have hs := h.slice
  have := Rd.cut h l bs.length c hl (by omega) (Nat.le_refl _) (Nat.le_refl _)
  have e : ((bv bs).drop (l * 1)).take ((bs.length - l) * 1) = bv (bs.drop l) := by
    simp only [bv, Nat.mul_one, List.map_drop]
    exact List.take_of_length_le (by simp)
  rw [e] at this
  exact this
theorem Rdr.scan_le (r : Rdr) : (scanB (r.bs.drop r.pos)).1 < 18446744073709551616 ∧ (scanB (r.bs.drop r.pos)).2.1 ≤ (r.bs.drop r.pos).length := by
  have hb := scanA_bound (r.bs.drop r.pos) 0 0 (by omega) (p7_pos 0)
  rw [Nat.zero_add] at hb
  exact hb
theorem run_and1 {P : Program} {w : World} {t : TypeId} {n : Nat} (h : n < 18446744073709551616) : (binOp .and t (.int .u64 ((n : Nat) : Int)) (.int .u64 1)).run P w = .ok (.int .u64 ((n % 2 : Nat) : Int)) w := by
  have e1 : (BitVec.ofInt 64 ((n : Nat) : Int)).toNat = n := by simp; omega
  have e2 : (BitVec.ofInt 64 (1 : Int)).toNat = 1 := by decide
  have e3 : n &&& 1 = n % 2 := by simp
  have key : ((BitVec.ofInt IntKind.u64.bits ((n : Nat) : Int)) &&& (BitVec.ofInt IntKind.u64.bits (1 : Int))).toNat = n % 2 := by
    show ((BitVec.ofInt 64 ((n : Nat) : Int)) &&& (BitVec.ofInt 64 (1 : Int))).toNat = _
    rw [BitVec.toNat_and, e1, e2, e3]
  simp only [binOp, ne_eq, not_true, if_false, Op.intBits]
  rw [key, wrap_u64 (by omega) (by omega)]
  rfl
theorem wrap_i64_nat {x : Nat} (h : x < 18446744073709551616) : IntKind.i64.wrap ((x : Nat) : Int) = if x < 9223372036854775808 then ((x : Nat) : Int) else ((x : Nat) : Int) - 18446744073709551616 := by
  have e : (2 : Int) ^ IntKind.i64.bits = 18446744073709551616 := by decide
  have e1 : (2 : Int) ^ (IntKind.i64.bits - 1) = 9223372036854775808 := by decide
  unfold IntKind.wrap
  simp only [e, e1, IntKind.signed, Bool.true_and, decide_eq_true_eq]
  split <;> split <;> omega
theorem run_unzz {P : Program} {w : World} {t : TypeId} {n : Nat} (h : n < 18446744073709551616) :
    (binOp .xor t (.int .i64 ((n / 2 : Nat) : Int)) (.int .i64 (0 - ((n % 2 : Nat) : Int)))).run P w = .ok (.int .i64 (unzz n)) w := by
  simp only [binOp, ne_eq, not_true, if_false, Op.intBits]
  have h2 : n % 2 = 0 ∨ n % 2 = 1 := by omega
  rcases h2 with h2 | h2
  · have key : (BitVec.ofInt IntKind.i64.bits ((n / 2 : Nat) : Int) ^^^ BitVec.ofInt IntKind.i64.bits (0 - ((n % 2 : Nat) : Int))).toNat = n / 2 := by
      show (BitVec.ofInt 64 ((n / 2 : Nat) : Int) ^^^ BitVec.ofInt 64 (0 - ((n % 2 : Nat) : Int))).toNat = _
      rw [h2, show BitVec.ofInt 64 (0 - ((0 : Nat) : Int)) = 0#64 from by decide, BitVec.xor_zero]
      simp only [BitVec.toNat_ofInt]; omega
    rw [key, wrap_i64_nat (by omega), if_pos (by omega)]
    unfold unzz
    rw [if_neg (by omega)]
    rfl
  · have key : (BitVec.ofInt IntKind.i64.bits ((n / 2 : Nat) : Int) ^^^ BitVec.ofInt IntKind.i64.bits (0 - ((n % 2 : Nat) : Int))).toNat = 18446744073709551615 - n / 2 := by
      show (BitVec.ofInt 64 ((n / 2 : Nat) : Int) ^^^ BitVec.ofInt 64 (0 - ((n % 2 : Nat) : Int))).toNat = _
      rw [h2, show BitVec.ofInt 64 (0 - ((1 : Nat) : Int)) = BitVec.allOnes 64 from by decide, BitVec.xor_allOnes, BitVec.toNat_not]
      simp only [BitVec.toNat_ofInt]; omega
    rw [key, wrap_i64_nat (by omega), if_neg (by omega)]
    unfold unzz
    rw [if_pos h2]
    have : (((18446744073709551615 - n / 2 : Nat) : Nat) : Int) - 18446744073709551616 = -((n / 2 : Nat) : Int) - 1 := by omega
    rw [this]
    rfl
theorem unzz_zz (n : Int) : unzz (zz n) = n := by unfold unzz zz; split <;> split <;> omega
theorem unzz_range {n : Nat} (h : n < 18446744073709551616) : -9223372036854775808 ≤ unzz n ∧ unzz n ≤ 9223372036854775807 := by unfold unzz; split <;> omega
theorem unzz_odd {n : Nat} (h : n % 2 = 1) : unzz n = 0 - ((n / 2 : Nat) : Int) - 1 := by unfold unzz; rw [if_pos h]; omega
theorem unzz_even {n : Nat} (h : ¬ n % 2 = 1) : unzz n = ((n / 2 : Nat) : Int) := by unfold unzz; rw [if_neg h]
theorem Rdr.Ok.int {r : Rdr} (h : r.Ok) : r.int.2.Ok := h.uint
theorem Rdr.int_bs (r : Rdr) : r.int.2.bs = r.bs := r.uint_bs
theorem Rdr.int_range (r : Rdr) : -9223372036854775808 ≤ r.int.1 ∧ r.int.1 ≤ 9223372036854775807 := unzz_range r.uint_lt
theorem Keeps.new {w w' : World} (k : Keeps (fun i => w.heap.size ≤ i) w w') : Keeps none_ w w' := ⟨k.os, k.tape, k.output, k.size, fun i hi _ => k.blk i hi (by omega)⟩
theorem uint_stay {r : Rdr} (h : r.why ≠ 0) : r.uint = (0, ⟨r.bs, r.pos, r.why⟩) := by unfold Rdr.uint; rw [if_pos h]
theorem uint_bad {r : Rdr} {n s : Nat} {y : Int} (h : r.why = 0) (e : scanB (r.bs.drop r.pos) = (n, s, y)) (hy : y ≠ 0) : r.uint = (0, ⟨r.bs, r.pos, y⟩) := by
  unfold Rdr.uint; rw [if_neg (by omega), e, if_pos hy]
theorem uint_good {r : Rdr} {n s : Nat} (h : r.why = 0) (e : scanB (r.bs.drop r.pos) = (n, s, 0)) : r.uint = (n, ⟨r.bs, r.pos + s, r.why⟩) := by
  unfold Rdr.uint; rw [if_neg (by omega), e, if_neg (by simp)]
theorem rdo_nil (w : World) : RdO w none 0 [] := ⟨Rd.nil w 1, fun _ _ _ h => by cases h⟩
end Go.Q
