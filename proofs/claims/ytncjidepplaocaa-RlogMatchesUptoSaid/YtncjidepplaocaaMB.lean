/- What is told of logs: the laws. -/
import Derived.Test.YtncjidepplaocaaLZ
set_option linter.unusedVariables false
namespace Go.Q
theorem getD_take {ks : Ks} {k i : Nat} (h : i < k) : (ks.take k).getD i (0, []) = ks.getD i (0, []) := by
  rw [List.getD_eq_getElem?_getD, List.getD_eq_getElem?_getD, List.getElem?_take, if_pos h]
theorem getD_drop (ks : Ks) (k i : Nat) : (ks.drop k).getD i (0, []) = ks.getD (k + i) (0, []) := by
  rw [List.getD_eq_getElem?_getD, List.getD_eq_getElem?_getD, List.getElem?_drop]
theorem lastK_eq (base old : Int) (ks : Ks) : lastK base old ks = if ks.length = 0 then old else (ks.getD (ks.length - 1) (0, [])).1 := by
  unfold lastK termK
  rw [if_neg (by omega)]
  by_cases h : ks.length = 0
  · rw [if_pos (by omega), if_pos h]
  · rw [if_neg (by omega), if_neg h, show (base + (ks.length : Int) - base - 1).toNat = ks.length - 1 by omega]
/-- What rises, rises on behind each of its places. -/
theorem rising_on : ∀ (ks : Ks) (t : Int) (k : Nat), risingK t ks = true → risingK (if k = 0 ∨ ks.length = 0 then t else (ks.getD (min k ks.length - 1) (0, [])).1) (ks.drop k) = true
  | [], t, k, h => by simp [risingK]
  | x :: l, t, 0, h => by simpa using h
  | x :: l, t, k + 1, h => by
    unfold risingK at h
    split at h
    · cases h
    · have := rising_on l x.1 k h
      rw [List.drop_succ_cons, if_neg (by simp)]
      by_cases hk : k = 0 ∨ l.length = 0
      · rw [if_pos hk] at this
        rcases hk with hk | hk
        · subst hk
          simpa using this
        · have hl : l = [] := List.eq_nil_of_length_eq_zero hk
          subst hl
          simp [risingK]
      · rw [if_neg hk] at this
        have e : min (k + 1) (x :: l).length - 1 = (min k l.length - 1) + 1 := by rw [List.length_cons]; omega
        rw [e]
        simpa using this
theorem part_all {base : Int} {ks : Ks} (h : ks.length ≤ 99) : partK base ks (base + 1) 99 = ks := by
  unfold partK
  by_cases h0 : ks.length = 0
  · rw [if_pos (by omega), List.eq_nil_of_length_eq_zero h0]
  · rw [if_neg (by omega), show (base + 1 - base - 1).toNat = 0 by omega, List.drop_zero]
    exact List.take_of_length_le (by simpa using h)
theorem part_rest {base n : Int} {ks : Ks} {k : Nat} (hn : n = base + (k : Int) + 1) (hk : k ≤ ks.length) (h : ks.length ≤ 99) : partK base ks n 99 = ks.drop k := by
  unfold partK
  by_cases h0 : k = ks.length
  · rw [if_pos (by omega), h0, List.drop_length]
  · rw [if_neg (by omega), show (n - base - 1).toNat = k by omega]
    exact List.take_of_length_le (by rw [List.length_drop]; show _ ≤ 99; omega)
theorem cuts_law {ks : Ks} {n : Int} {k : Nat} (h : newE 0 0 ks = 0) (hl : ks.length ≤ 60) (hn : n = 0 + (k : Int) + 1) (hk : k ≤ ks.length) : appE 0 0 (ks.take k) (partK 0 ks n 99) = 0 ∧ ks.take k ++ partK 0 ks n 99 = ks := by
  rw [part_rest hn hk (by omega), List.take_append_drop]
  refine ⟨?_, rfl⟩
  have hr := rising_on ks 0 k (newE_ok h).2.2
  unfold appE
  rw [if_neg (by rw [List.length_take, List.length_drop]; omega), if_pos]
  rw [lastK_eq]
  have e : (ks.take k).length = min k ks.length := List.length_take ..
  rw [e]
  by_cases h0 : k = 0 ∨ ks.length = 0
  · rw [if_pos h0] at hr
    rw [if_pos (by omega)]
    exact hr
  · rw [if_neg h0] at hr
    rw [if_neg (by omega), getD_take (by omega)]
    exact hr
theorem termK_compact {ks : Ks} {n k : Int} {j : Nat} (hn : n = 0 + (j : Int)) (hj : j ≤ ks.length) (h1 : n ≤ k) (h2 : k ≤ 0 + (ks.length : Int)) : termK n (termK 0 0 ks n).1 (ks.drop j) k = termK 0 0 ks k := by
  by_cases hk : k = n
  · subst hk
    rw [termK_base]
    exact Prod.ext rfl (termK_ok (by omega)).symm
  · unfold termK
    rw [if_neg (by rw [List.length_drop]; omega), if_neg hk, if_neg (by omega), if_neg (by omega), getD_drop, show j + (k - n - 1).toNat = (k - 0 - 1).toNat by omega]
theorem partK_compact {ks : Ks} {n k most : Int} {j : Nat} (hn : n = 0 + (j : Int)) (hj : j ≤ ks.length) (h1 : n ≤ k) : partK n (ks.drop j) (k + 1) most = partK 0 ks (k + 1) most := by
  unfold partK
  rw [List.length_drop]
  by_cases h : most < 1 ∨ k + 1 ≤ n ∨ n + ((ks.length - j : Nat) : Int) < k + 1
  · rw [if_pos h, if_pos (by omega)]
  · rw [if_neg h, if_neg (by omega), List.drop_drop, show j + (k + 1 - n - 1).toNat = (k + 1 - 0 - 1).toNat by omega]
theorem lastK_compact {ks : Ks} {n : Int} {j : Nat} (hn : n = 0 + (j : Int)) (hj : j ≤ ks.length) : lastK n (termK 0 0 ks n).1 (ks.drop j) = lastK 0 0 ks := by
  unfold lastK
  rw [List.length_drop, show n + ((ks.length - j : Nat) : Int) = 0 + (ks.length : Int) by omega, termK_compact hn hj (by omega) (by omega)]
end Go.Q
