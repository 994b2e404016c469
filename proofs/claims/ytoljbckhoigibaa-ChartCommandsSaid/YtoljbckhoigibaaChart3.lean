/- A new chart. -/
import Derived.Test.YtoljbckhoigibaaChart2
namespace Go.Q
open Go.RowKit

def ownk (s : Int) (k : Nat) : List Int := (List.range 16).map fun i => if i < k then 1 + ((i : Nat) : Int).tmod s else 0
theorem ownk_length (s : Int) (k : Nat) : (ownk s k).length = 16 := by simp [ownk]
theorem ownk_succ (s : Int) (k : Nat) (hk : k < 16) : (ownk s k).set k (1 + ((k : Nat) : Int).tmod s) = ownk s (k + 1) := by
  apply List.ext_getElem?
  intro j
  rw [List.getElem?_set]
  by_cases hj : k = j
  · subst hj
    simp [ownk, hk]
  · simp only [hj, if_false]
    rcases Nat.lt_or_ge j 16 with h | h
    · simp only [ownk, List.getElem?_map, List.getElem?_range h, Option.map_some]
      by_cases h1 : j < k
      · rw [if_pos h1, if_pos (by omega)]
      · rw [if_neg h1, if_neg (by omega)]
    · simp [ownk, h]
def newCh (s : Int) (k : Nat) : Ch := { shards := s, owner := ownk s k, epoch := List.replicate 16 0, began := 0, ms := 0, mf := 0, mt := 0, me := 0, mp := 0, mn := 0, audit := 0, phase := 0 }
theorem newCh_succ (s : Int) (k : Nat) (hk : k < 16) : { newCh s k with owner := (newCh s k).owner.set k (1 + ((k : Nat) : Int).tmod s) } = newCh s (k + 1) := by
  have := ownk_succ s k hk
  simp only [newCh]
  rw [this]
theorem newCh_ok (s : Int) (k : Nat) : (newCh s k).Ok := ⟨ownk_length s k, by simp [newCh]⟩
theorem newCh_inv (s : Int) (h0 : 1 ≤ s) (h1 : s ≤ 3) : (newCh s 16).Inv := by
  refine ⟨newCh_ok s 16, ⟨h0, h1⟩, fun k hk => ?_, fun k hk => ?_, by simp [newCh], by simp [newCh], by simp [newCh], by simp [newCh], by simp [newCh], by simp [newCh], by simp [newCh], by simp [newCh]⟩
  · have e : (newCh s 16).owner.getD k 0 = 1 + ((k : Nat) : Int).tmod s := by
      simp [newCh, ownk, List.getD_eq_getElem?_getD, hk]
    rw [e]
    have h2 := Int.tmod_nonneg s (show (0 : Int) ≤ (k : Int) by omega)
    have h3 := Int.tmod_lt_of_pos (k : Int) (show (0 : Int) < s by omega)
    show _ ∧ _ ≤ s
    omega
  · have e : (newCh s 16).epoch.getD k 0 = 0 := by
      show (List.replicate 16 (0 : Int)).getD k 0 = 0
      rw [List.getD_eq_getElem?_getD, List.getElem?_replicate]
      split <;> rfl
    rw [e]
    simp [newCh]
end Go.Q
