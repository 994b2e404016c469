/- Slots: the accounts of all slots are all accounts. -/
import Derived.Test.YtooginpgclcldaaGreatDoorOF
set_option linter.unusedVariables false
namespace Go.Q
def cntS (S : List AccM) (k : Nat) : Nat := (S.filter fun a => decide (slotB a.name < k)).length
def restS (S : List AccM) (k : Nat) : List AccM := S.filter fun a => decide (k ≤ slotB a.name)
theorem inSlot_nat (k : Nat) (a : AccM) : inSlot ((k : Nat) : Int) a = decide (slotB a.name = k) := by
  unfold inSlot
  exact decide_eq_decide.2 (by omega)
theorem cntS_zero (S : List AccM) : cntS S 0 = 0 := by simp [cntS]
theorem cntS_next (S : List AccM) (k : Nat) : cntS S (k + 1) = cntS S k + (rowsS S ((k : Nat) : Int)).length := by
  unfold cntS rowsS
  rw [List.length_map]
  induction S with
  | nil => rfl
  | cons a S ih =>
    rw [List.filter_cons, List.filter_cons, List.filter_cons, inSlot_nat]
    rcases Nat.lt_trichotomy (slotB a.name) k with h | h | h
    · rw [if_pos (by simp; omega), if_pos (by simp; omega), if_neg (by simp; omega)]; simp only [List.length_cons]; omega
    · rw [if_pos (by simp; omega), if_neg (by simp; omega), if_pos (by simp; omega)]; simp only [List.length_cons]; omega
    · rw [if_neg (by simp; omega), if_neg (by simp; omega), if_neg (by simp; omega)]; exact ih
theorem slotB_lt (s : List UInt8) : slotB s < 16 := Nat.mod_lt _ (by decide)
theorem cntS_all (S : List AccM) : cntS S 16 = S.length := by
  unfold cntS
  rw [List.filter_eq_self.2 fun a _ => decide_eq_true (slotB_lt a.name)]
theorem cntS_le (S : List AccM) (k : Nat) : cntS S k ≤ S.length := List.length_filter_le _ _
theorem restS_zero (S : List AccM) : restS S 0 = S := List.filter_eq_self.2 fun a _ => decide_eq_true (Nat.zero_le _)
theorem restS_next (S : List AccM) (k : Nat) : dropS (restS S k) ((k : Nat) : Int) = restS S (k + 1) := by
  unfold dropS restS
  rw [if_neg (by omega), List.filter_filter]
  refine List.filter_congr fun a _ => ?_
  rw [inSlot_nat]
  by_cases h : slotB a.name = k
  · rw [decide_eq_true h, decide_eq_false (show ¬ k + 1 ≤ slotB a.name by omega)]; rfl
  · rw [decide_eq_false h, Bool.not_false, Bool.true_and]; exact decide_eq_decide.2 (by omega)
theorem restS_end (S : List AccM) : restS S 16 = [] := List.filter_eq_nil_iff.2 fun a _ => by have := slotB_lt a.name; simp; omega
theorem row_slot {S : List AccM} {k : Nat} {r : RowM} (hr : r ∈ rowsS S ((k : Nat) : Int)) : slotB r.name = k := by
  obtain ⟨a, ha, rfl⟩ := List.mem_map.1 hr
  have h := (List.mem_filter.1 ha).2
  rw [inSlot_nat] at h
  exact of_decide_eq_true h
theorem dropN_nat (S : List AccM) (k : Nat) : dropN S ((k : Nat) : Int) = (rowsS S ((k : Nat) : Int)).length := by
  unfold dropN
  rw [if_neg (by omega)]
end Go.Q
