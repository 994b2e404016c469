/- How many accounts are held. -/
import Derived.Test.YtooginpgclcldaaGreatDoorOB
set_option linter.unusedVariables false
namespace Go.Q
def heldB (O : List UInt8) : Nat := if O = [] then 0 else 1
def heldL (l : List (List UInt8 × AccV)) : Nat := (l.map fun x => heldB x.2.2).sum
theorem heldB_le (O : List UInt8) : heldB O ≤ 1 := by unfold heldB; split <;> omega
theorem heldL_next (l : List (List UInt8 × AccV)) (x : List UInt8 × AccV) : heldL (l ++ [x]) = heldL l + heldB x.2.2 := by simp [heldL]
theorem heldL_le : ∀ (l : List (List UInt8 × AccV)), heldL l ≤ l.length
  | [] => Nat.le_refl _
  | x :: l => by
    have h1 := heldL_le l
    have h2 := heldB_le x.2.2
    have : heldL (x :: l) = heldB x.2.2 + heldL l := by simp [heldL]
    rw [this, List.length_cons]
    omega
theorem heldL_perm {l k : List (List UInt8 × AccV)} (h : l.Perm k) : heldL l = heldL k := by
  unfold heldL
  exact (h.map _).sum_nat
theorem heldL_accs : ∀ (S : List AccM), heldL (S.map AccM.pair) = heldN S
  | [] => rfl
  | a :: S => by
    have e : heldL ((a :: S).map AccM.pair) = heldB a.own + heldL (S.map AccM.pair) := by simp [heldL, AccM.pair]
    rw [e, heldL_accs S]
    unfold heldN heldB
    by_cases h : a.own = []
    · rw [if_pos h, List.filter_cons_of_neg (by simp [h])]; omega
    · rw [if_neg h, List.filter_cons_of_pos (by simp [h]), List.length_cons]; omega
theorem heldL_book {m all : List (List UInt8 × AccV)} {S : List AccM} (h : Book m S) (hp : all.Perm m) : heldL all = heldN S := by
  rw [← heldL_accs S]
  exact heldL_perm (hp.trans h.perm.symm)
theorem aggB_held (A : Int) (O : List UInt8) : aggB [i64 A, .string (str O)] [i64 A, .string ByteArray.empty] = true ↔ O = [] := by
  rw [show ByteArray.empty = str [] from rfl]
  simp only [aggB, Bool.and_eq_true, cellB_str_iff, cellB_int_iff, and_true, true_and]
theorem held_f {A : Int} {O : List UInt8} (h : aggB [i64 A, .string (str O)] [i64 A, .string ByteArray.empty] = true) : heldB O = 0 := by
  unfold heldB; rw [if_pos ((aggB_held A O).1 h)]
theorem held_t {A : Int} {O : List UInt8} (h : aggB [i64 A, .string (str O)] [i64 A, .string ByteArray.empty] = false) : heldB O = 1 := by
  unfold heldB
  rw [if_neg fun e => by rw [(aggB_held A O).2 e] at h; cases h]
end Go.Q
