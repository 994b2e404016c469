/- Accounts: laws on what calls make of a book. -/
import Derived.Test.YtooginpgclcldaaDoorOC
set_option linter.unusedVariables false
namespace Go.Q
/-- Two accounts. -/
abbrev twoS (a b : Int) : List AccM := [⟨[97], a, []⟩, ⟨[98], b, []⟩]
theorem two_put {a b : Int} (h1 : putE [] [97] a = 0) (h2 : putE (putS [] [97] a) [98] b = 0) : putS (putS [] [97] a) [98] b = twoS a b ∧ 0 ≤ a ∧ 0 ≤ b := by
  refine ⟨?_, (putE_zero h1).2.1, (putE_zero h2).2.1⟩
  have e1 : putS [] [97] a = [⟨[97], a, []⟩] := by unfold putS; rw [if_pos h1]; rfl
  rw [e1] at h2 ⊢
  unfold putS
  rw [if_pos h2]
  rfl
theorem two_bad1 {a : Int} (h : putE [] [97] a ≠ 0) : a < 0 := by
  unfold putE at h
  rw [if_neg (by decide)] at h
  split at h
  · assumption
  · exact absurd rfl h
theorem two_bad2 {a b : Int} (h1 : putE [] [97] a = 0) (h : putE (putS [] [97] a) [98] b ≠ 0) : b < 0 := by
  have e1 : putS [] [97] a = [⟨[97], a, []⟩] := by unfold putS; rw [if_pos h1]; rfl
  rw [e1] at h
  unfold putE at h
  rw [if_neg (by decide)] at h
  split at h
  · assumption
  · exact absurd rfl h
theorem two_get (a b : Int) : getS (twoS a b) [97] = some ⟨[97], a, []⟩ ∧ getS (twoS a b) [98] = some ⟨[98], b, []⟩ := ⟨rfl, rfl⟩
theorem two_take {a b n : Int} : (chgE (takeF n) (twoS a b) [97] = 0 → (1 ≤ n ∧ n ≤ a) ∧ chgS (takeF n) (twoS a b) [97] = twoS (a - n) b) ∧
    (chgE (takeF n) (twoS a b) [97] ≠ 0 → (chgE (takeF n) (twoS a b) [97] = 47 ∧ n < 1 ∨ chgE (takeF n) (twoS a b) [97] = 42 ∧ 1 ≤ n ∧ a < n) ∧ chgS (takeF n) (twoS a b) [97] = twoS a b) := by
  unfold chgE chgS
  rw [(two_get a b).1]
  simp only [takeF]
  by_cases h1 : n < 1
  · rw [if_pos h1]
    exact ⟨fun h => (by simp at h), fun _ => ⟨.inl ⟨rfl, h1⟩, rfl⟩⟩
  · rw [if_neg h1]
    by_cases h2 : a < n
    · rw [if_pos h2]
      exact ⟨fun h => (by simp at h), fun _ => ⟨.inr ⟨rfl, by omega, h2⟩, rfl⟩⟩
    · rw [if_neg h2]
      exact ⟨fun _ => ⟨by omega, rfl⟩, fun h => absurd rfl h⟩
theorem two_add {a b n : Int} (hn : 1 ≤ n) : (chgE (addF n) (twoS a b) [98] = 0 → b ≤ 9223372036854775807 - n ∧ chgS (addF n) (twoS a b) [98] = twoS a (b + n)) ∧
    (chgE (addF n) (twoS a b) [98] ≠ 0 → (chgE (addF n) (twoS a b) [98] = 43 ∧ 9223372036854775807 - n < b) ∧ chgS (addF n) (twoS a b) [98] = twoS a b) := by
  unfold chgE chgS
  rw [(two_get a b).2]
  simp only [addF]
  rw [if_neg (by omega)]
  by_cases h2 : 9223372036854775807 - n < b
  · rw [if_pos h2]
    exact ⟨fun h => (by simp at h), fun _ => ⟨⟨rfl, h2⟩, rfl⟩⟩
  · rw [if_neg h2]
    exact ⟨fun _ => ⟨by omega, rfl⟩, fun h => absurd rfl h⟩
theorem two_back {a b n : Int} (hn : 1 ≤ n) (ha : a ≤ 9223372036854775807 - n) : chgE (addF n) (twoS a b) [97] = 0 ∧ chgS (addF n) (twoS a b) [97] = twoS (a + n) b := by
  unfold chgE chgS
  rw [(two_get a b).1]
  simp only [addF]
  rw [if_neg (by omega), if_neg (by omega)]
  exact ⟨rfl, rfl⟩
end Go.Q
