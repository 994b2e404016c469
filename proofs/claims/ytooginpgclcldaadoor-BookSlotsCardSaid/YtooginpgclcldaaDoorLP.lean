/- Frames one behind the other. -/
import Derived.Test.YtooginpgclcldaaDoorLJ
set_option linter.unusedVariables false
namespace Go.Q
open Go.RowKit

/-- The frames that bytes begin with, at most N of them. -/
def framesN : Nat → List UInt8 → List (List UInt8)
  | 0, _ => []
  | N + 1, bs => if bs.length = 0 ∨ (cutB bs).2.2 ≠ 0 then [] else (cutB bs).1 :: framesN N (bs.drop (cutB bs).2.1)
def framesB (bs : List UInt8) : List (List UInt8) := framesN bs.length bs
theorem cut_pos {bs : List UInt8} (h : (cutB bs).2.2 = 0) : 4 ≤ (cutB bs).2.1 ∧ (cutB bs).2.1 ≤ bs.length := by
  unfold cutB at h ⊢
  by_cases h1 : (scanB bs).2.2 ≠ 0
  · rw [if_pos h1] at h; exact absurd h h1
  · rw [if_neg h1] at h ⊢
    by_cases h2 : 65536 < (scanB bs).1
    · rw [if_pos h2] at h; cases h
    · rw [if_neg h2] at h ⊢
      by_cases h3 : bs.length < (scanB bs).2.1 + 4 + (scanB bs).1
      · rw [if_pos h3] at h; cases h
      · rw [if_neg h3] at h ⊢
        split at h
        · cases h
        · rename_i h4
          rw [if_neg h4]
          simp only
          omega
theorem framesN_more : ∀ (N M : Nat) (bs : List UInt8), bs.length ≤ N → bs.length ≤ M → framesN N bs = framesN M bs
  | 0, 0, bs, _, _ => rfl
  | 0, M + 1, bs, h, _ => by unfold framesN; rw [if_pos (.inl (by omega))]
  | N + 1, 0, bs, _, h => by unfold framesN; rw [if_pos (.inl (by omega))]
  | N + 1, M + 1, bs, h1, h2 => by
    unfold framesN
    split
    · rfl
    · rename_i hc
      have hp := cut_pos (bs := bs) (Classical.byContradiction fun q => hc (.inr q))
      rw [framesN_more N M _ (by rw [List.length_drop]; omega) (by rw [List.length_drop]; omega)]
theorem frames_nil {bs : List UInt8} (h : bs.length = 0 ∨ (cutB bs).2.2 ≠ 0) : framesB bs = [] := by
  unfold framesB
  cases bs.length with
  | zero => rfl
  | succ N => unfold framesN; rw [if_pos h]
theorem frames_cons {bs : List UInt8} (h : bs.length ≠ 0) (h2 : (cutB bs).2.2 = 0) : framesB bs = (cutB bs).1 :: framesB (bs.drop (cutB bs).2.1) := by
  have hp := cut_pos h2
  unfold framesB
  cases hl : bs.length with
  | zero => exact absurd hl h
  | succ N =>
    rw [framesN, if_neg (by rw [hl]; simp [h2])]
    rw [framesN_more N (bs.drop (cutB bs).2.1).length _ (by rw [List.length_drop]; omega) (Nat.le_refl _)]
theorem cut_short {p : List UInt8} {k : Nat} (hp : p.length ≤ 65536) (hk : k < (frameB p).length) : (cutB ((frameB p).take k)).2.2 ≠ 0 := by
  intro h
  have hu := unframe_short hp hk
  unfold unframeB at hu
  split at hu
  · have := congrArg Prod.snd hu; simp at this
  · rw [if_neg (by rw [h]; simp)] at hu
    have := congrArg Prod.snd hu; simp at this
/-- How many of the texts' frames end at or ahead of 'cut'. -/
def fitN : List (List UInt8) → Nat → Nat
  | [], _ => 0
  | p :: l, cut => if (frameB p).length ≤ cut then fitN l (cut - (frameB p).length) + 1 else 0
theorem frames_take : ∀ (l : List (List UInt8)) (cut : Nat), (∀ p ∈ l, p.length ≤ 65536) → framesB ((l.flatMap frameB).take cut) = l.take (fitN l cut)
  | [], cut, h => by rw [frames_nil (.inl (by simp))]; rfl
  | p :: l, cut, h => by
    have hp := h p (by simp)
    have hl := frame_len p
    rw [List.flatMap_cons]
    unfold fitN
    by_cases hc : (frameB p).length ≤ cut
    · rw [if_pos hc, List.take_append, List.take_of_length_le hc]
      have hf := frame_cut (rest := (l.flatMap frameB).take (cut - (frameB p).length)) hp
      have hn : (frameB p ++ (l.flatMap frameB).take (cut - (frameB p).length)).length ≠ 0 := by rw [List.length_append]; omega
      rw [frames_cons hn (by rw [hf]), hf]
      simp only
      rw [← hl, List.drop_left, frames_take l _ (fun q hq => h q (by simp [hq])), List.take_succ_cons]
    · rw [if_neg hc, List.take_append_of_le_length (by omega), frames_nil (.inr (cut_short hp (by omega)))]
      rfl
end Go.Q
