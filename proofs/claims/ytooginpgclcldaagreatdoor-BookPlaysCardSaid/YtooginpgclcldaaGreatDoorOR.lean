/- The reference's sum, bit by bit (as in LS, alone). -/
import Derived.Test.YtooginpgclcldaaGreatDoorLC
set_option linter.unusedVariables false
namespace Go.Q
open Go.RowKit
/-- A byte, its bits from i on. -/
def shr8 (c i : Nat) : Nat := c / 2 ^ i
theorem shr8_le (c i : Nat) : shr8 c i ≤ c := Nat.div_le_self _ _
theorem shr8_zero (c : Nat) : shr8 c 0 = c := by simp [shr8]
theorem shr8_next (c i : Nat) : shr8 c (i + 1) = shr8 c i / 2 := by unfold shr8; rw [Nat.pow_succ, Nat.div_div_eq_div_mul]
theorem shr8_end {c : Nat} (h : c < 256) : shr8 c 8 = 0 := by unfold shr8; exact Nat.div_eq_of_lt (by omega)
theorem run_shrv {P : Program} {w : World} {t : TypeId} {k : IntKind} {c i : Nat} {s : Int} (hs : s = (i : Int)) (hi : i ≤ 8) : (binOp .shr t (.int .u8 ((c : Nat) : Int)) (.int k s)).run P w = .ok (.int .u8 ((shr8 c i : Nat) : Int)) w := by
  have h1 : ¬ s < 0 := by omega
  have h2 : min s.toNat IntKind.u8.bits = i := by
    have : IntKind.u8.bits = 8 := rfl
    rw [this]; omega
  simp only [binOp, Op.shift, h1, if_false, h2]
  have e : ((c : Nat) : Int).fdiv (2 ^ i) = ((shr8 c i : Nat) : Int) := by
    unfold shr8
    rw [Int.fdiv_eq_ediv_of_nonneg _ (by exact Int.pow_nonneg (by decide))]
    simp
  rw [e]
  rfl
theorem and_one (a : Nat) : a &&& 1 = a % 2 := Nat.and_one_is_mod a
theorem step_t {r s : Nat} (h : ((((r ^^^ s) &&& 1 : Nat)) : Int) = 1) : (r / 2 ^^^ 2197175160) ^^^ (s / 2) = shiftB (r ^^^ s) := by
  have h1 : (r ^^^ s) &&& 1 = 1 := by omega
  unfold shiftB
  rw [h1, show (2197175160 &&& neg32 1) = 2197175160 from by decide, Nat.xor_div_two, Nat.xor_assoc, Nat.xor_assoc, Nat.xor_comm 2197175160]
theorem step_f {r s : Nat} (h : ¬ ((((r ^^^ s) &&& 1 : Nat)) : Int) = 1) : (r / 2) ^^^ (s / 2) = shiftB (r ^^^ s) := by
  have h1 : (r ^^^ s) &&& 1 = 0 := by rw [and_one] at h ⊢; omega
  unfold shiftB
  rw [h1, show (2197175160 &&& neg32 0) = 0 from by decide, Nat.xor_div_two, Nat.xor_zero]
end Go.Q
