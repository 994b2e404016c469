/- Owners and epochs before and behind a command. -/
import Derived.Test.YtoljbckhoigibaaChart5
namespace Go.Q
open Go.RowKit

def fillk (f : Nat → Int) (k : Nat) : List Int := (List.range 16).map fun i => if i < k then f i else 0
theorem fillk_length (f : Nat → Int) (k : Nat) : (fillk f k).length = 16 := by simp [fillk]
theorem fillk_succ (f : Nat → Int) (k : Nat) (hk : k < 16) : (fillk f k).set k (f k) = fillk f (k + 1) := by
  apply List.ext_getElem?
  intro j
  rw [List.getElem?_set]
  by_cases hj : k = j
  · subst hj
    simp [fillk, hk]
  · simp only [hj, if_false]
    rcases Nat.lt_or_ge j 16 with h | h
    · simp only [fillk, List.getElem?_map, List.getElem?_range h, Option.map_some]
      by_cases h1 : j < k
      · rw [if_pos h1, if_pos (by omega)]
      · rw [if_neg h1, if_neg (by omega)]
    · simp [fillk, h]
theorem fillk_get (f : Nat → Int) (k : Nat) (hk : k < 16) : (fillk f 16).getD k 0 = f k := by
  simp [fillk, List.getD_eq_getElem?_getD, hk]

theorem do_shards (c : Ch) (x : Cmd) : (c.do_ x).2.shards = c.shards := by
  unfold Ch.do_ Ch.doMove Ch.doStep Ch.doAudit Ch.doCut Ch.doThawed
  repeat' split
  all_goals rfl

theorem at_own {c : Ch} {k : Nat} (hk : k < 16) : c.ownerAt ((k : Nat) : Int) = c.owner.getD k 0 := by
  rw [ownerAt_in ⟨by omega, by omega⟩]; simp
theorem at_ep {c : Ch} {k : Nat} (hk : k < 16) : c.epochAt ((k : Nat) : Int) = c.epoch.getD k 0 := by
  rw [epochAt_in ⟨by omega, by omega⟩]; simp

theorem do_own {c : Ch} (h : c.Inv) (x : Cmd) (k : Nat) (hk : k < 16) :
    ((c.do_ x).2.owner.getD k 0 = c.owner.getD k 0 ∧ (c.do_ x).2.epoch.getD k 0 = c.epoch.getD k 0) ∨
    ((c.do_ x).2.owner.getD k 0 ≠ c.owner.getD k 0 ∧ (c.do_ x).2.epoch.getD k 0 = c.epoch.getD k 0 + 1) := by
  unfold Ch.do_
  split
  · left; unfold Ch.doMove; repeat' split
    all_goals exact ⟨rfl, rfl⟩
  · split
    · unfold Ch.doStep
      split
      · exact .inl ⟨rfl, rfl⟩
      · rename_i h1
        simp only [not_or, Decidable.not_not, ne_eq] at h1
        have hm1 := h.m1 h1.1
        split
        · exact .inl ⟨rfl, rfl⟩
        · split
          · rename_i h2 h3
            have hm2 := h.m2 (.inr h3)
            have hmb := h.mb
            by_cases hkk : c.ms.toNat = k
            · right
              subst hkk
              simp only
              rw [getD_set_eq _ _ _ (by rw [h.ok.o]; exact hk), getD_set_eq _ _ _ (by rw [h.ok.e]; exact hk)]
              omega
            · left
              simp only
              exact ⟨getD_set_ne _ _ _ _ hkk, getD_set_ne _ _ _ _ hkk⟩
          · exact .inl ⟨rfl, rfl⟩
    · left
      unfold Ch.doAudit Ch.doCut Ch.doThawed
      repeat' split
      all_goals exact ⟨rfl, rfl⟩

theorem do_twice {c : Ch} (x : Cmd) (h0 : (c.do_ x).1.why = 0) (h1 : 2 ≤ x.kind) (h2 : x.kind ≠ 3) : ((c.do_ x).2.do_ x).1.why = 5 := by
  by_cases k2 : x.kind = 2
  · have e : ∀ c' : Ch, c'.do_ x = c'.doStep x := fun c' => by unfold Ch.do_; rw [if_neg (by omega), if_pos k2]
    rw [e] at h0
    rw [e, e]
    unfold Ch.doStep at h0 ⊢
    by_cases q1 : c.mp = 0 ∨ c.mn ≠ x.n ∨ c.mp ≠ x.phase
    · rw [if_pos q1] at h0; simp at h0
    · rw [if_neg q1] at h0 ⊢
      by_cases q2 : c.mp = 1
      · rw [if_pos q2, if_pos (.inr (.inr (by simp only; omega)))]
      · rw [if_neg q2]
        by_cases q3 : c.mp = 2
        · rw [if_pos q3, if_pos (.inr (.inr (by simp only; omega)))]
        · rw [if_neg q3, if_pos (.inl rfl)]
  · by_cases k4 : x.kind = 4
    · have e : ∀ c' : Ch, c'.do_ x = c'.doCut x := fun c' => by unfold Ch.do_; rw [if_neg (by omega), if_neg k2, if_neg h2, if_pos k4]
      rw [e] at h0
      rw [e, e]
      unfold Ch.doCut at h0 ⊢
      by_cases q : c.phase = 1 ∧ c.audit = x.n
      · rw [if_pos q, if_neg (by simp)]
      · rw [if_neg q] at h0; simp at h0
    · by_cases k5 : x.kind = 5
      · have e : ∀ c' : Ch, c'.do_ x = c'.doThawed x := fun c' => by unfold Ch.do_; rw [if_neg (by omega), if_neg k2, if_neg h2, if_neg k4, if_pos k5]
        rw [e] at h0
        rw [e, e]
        unfold Ch.doThawed at h0 ⊢
        by_cases q : c.phase = 2 ∧ c.audit = x.n
        · rw [if_pos q, if_neg (by simp)]
        · rw [if_neg q] at h0; simp at h0
      · exfalso
        unfold Ch.do_ at h0
        rw [if_neg (by omega), if_neg k2, if_neg h2, if_neg k4, if_neg k5] at h0
        simp at h0
end Go.Q
