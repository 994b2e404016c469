/- A move from its begin to its end. -/
import Derived.Test.YtoljbckhoigibaaChart3
namespace Go.Q
open Go.RowKit

theorem ownerAt_in {c : Ch} {s : Int} (h : 0 ≤ s ∧ s < 16) : c.ownerAt s = c.owner.getD s.toNat 0 := by
  unfold Ch.ownerAt; rw [if_pos ((there_iff s).2 h)]
theorem epochAt_in {c : Ch} {s : Int} (h : 0 ≤ s ∧ s < 16) : c.epochAt s = c.epoch.getD s.toNat 0 := by
  unfold Ch.epochAt; rw [if_pos ((there_iff s).2 h)]
theorem zeros_getD (k : Nat) : (List.replicate 16 (0 : Int)).getD k 0 = 0 := by
  rw [List.getD_eq_getElem?_getD, List.getElem?_replicate]
  split <;> rfl
theorem getD_set_eq (l : List Int) (k : Nat) (x : Int) (h : k < l.length) : (l.set k x).getD k 0 = x := by
  simp [List.getD_eq_getElem?_getD, h]
theorem getD_set_ne (l : List Int) (k j : Nat) (x : Int) (h : k ≠ j) : (l.set k x).getD j 0 = l.getD j 0 := by
  simp [List.getD_eq_getElem?_getD, h]

def mv1 (s slot to p : Int) : Ch := { newCh s 16 with began := 1, ms := slot, mf := (newCh s 16).ownerAt slot, mt := to, me := 1, mp := p, mn := 1 }
def mv3 (s slot to : Int) : Ch := { mv1 s slot to 3 with owner := (newCh s 16).owner.set slot.toNat to, epoch := (newCh s 16).epoch.set slot.toNat 1 }
def mv4 (s slot to : Int) : Ch := { newCh s 16 with began := 1, owner := (newCh s 16).owner.set slot.toNat to, epoch := (newCh s 16).epoch.set slot.toNat 1 }

section
variable {s slot to : Int} (hs : 0 ≤ slot ∧ slot < 16) (ht : 1 ≤ to ∧ to ≤ s)
include hs ht in
theorem do_same (he : (newCh s 16).ownerAt slot = to) : (newCh s 16).do_ ⟨1, slot, to, 0, 0⟩ = (⟨0, false, 0⟩, newCh s 16) := by
  rw [ownerAt_in hs] at he
  unfold Ch.do_
  rw [if_pos rfl]
  unfold Ch.doMove
  rw [if_neg (by rintro (h | h); · exact (there_not _).1 h hs
                 · have h : to < 1 ∨ s < to := h
                   omega), if_neg (by simp [Ch.busy, newCh]), if_pos he]
include hs ht in
theorem do_other (hn : (newCh s 16).ownerAt slot ≠ to) : (newCh s 16).do_ ⟨1, slot, to, 0, 0⟩ = (⟨0, true, 1⟩, mv1 s slot to 1) := by
  have ho := ownerAt_in (c := newCh s 16) hs
  unfold Ch.do_
  rw [if_pos rfl]
  unfold Ch.doMove
  rw [if_neg (by rintro (h | h); · exact (there_not _).1 h hs
                 · have h : to < 1 ∨ s < to := h
                   omega), if_neg (by simp [Ch.busy, newCh]), if_neg (by rw [← ho]; exact hn)]
  have hz : (newCh s 16).epoch.getD slot.toNat 0 = 0 := zeros_getD _
  simp only [hz]
  rw [← ho]
  rfl
theorem busy_audit {c : Ch} (hb : c.mp ≠ 0) : c.do_ ⟨3, 0, 0, 0, 0⟩ = (⟨50, false, 0⟩, c) := by
  simp [Ch.do_, Ch.doAudit, Ch.busy, hb]
theorem busy_move {c : Ch} {x : Int} (hb : c.mp ≠ 0) (hs : 0 ≤ slot ∧ slot < 16) (hx : 1 ≤ x ∧ x ≤ c.shards) : c.do_ ⟨1, slot, x, 0, 0⟩ = (⟨50, false, 0⟩, c) := by
  unfold Ch.do_
  rw [if_pos rfl]
  unfold Ch.doMove
  rw [if_neg (by rintro (h | h); · exact (there_not _).1 h hs
                 · have h : x < 1 ∨ c.shards < x := h
                   omega), if_pos (.inl hb)]
theorem step_1 : (mv1 s slot to 1).do_ ⟨2, 0, 0, 1, 1⟩ = (⟨0, false, 1⟩, mv1 s slot to 2) := rfl
theorem step_2 : (mv1 s slot to 2).do_ ⟨2, 0, 0, 1, 2⟩ = (⟨0, false, 1⟩, mv3 s slot to) := rfl
theorem step_3 : (mv3 s slot to).do_ ⟨2, 0, 0, 1, 3⟩ = (⟨0, false, 1⟩, mv4 s slot to) := rfl
theorem mv4_audit : (mv4 s slot to).do_ ⟨3, 0, 0, 0, 0⟩ = (⟨0, true, 2⟩, { mv4 s slot to with began := 2, audit := 2, phase := 1 }) := rfl
include hs in
theorem mv4_owner : (mv4 s slot to).ownerAt slot = to := by
  rw [ownerAt_in hs]
  exact getD_set_eq _ _ _ (by simp [newCh, ownk_length]; omega)
include hs in
theorem mv4_epoch : (mv4 s slot to).epochAt slot = 1 := by
  rw [epochAt_in hs]
  exact getD_set_eq _ _ _ (by simp [newCh]; omega)
include hs in
theorem mv4_epoch_ne {i : Int} (hi : 0 ≤ i ∧ i < 16) (h : i ≠ slot) : (mv4 s slot to).epochAt i = 0 := by
  rw [epochAt_in hi]
  have : (mv4 s slot to).epoch.getD i.toNat 0 = (List.replicate 16 (0 : Int)).getD i.toNat 0 := getD_set_ne _ _ _ _ (by omega)
  rw [this, zeros_getD]
theorem own_range (h0 : 1 ≤ s) (h1 : s ≤ 3) (hs : 0 ≤ slot ∧ slot < 16) : 1 ≤ (newCh s 16).ownerAt slot ∧ (newCh s 16).ownerAt slot ≤ s := by
  rw [ownerAt_in hs]
  exact (newCh_inv s h0 h1).own _ (by omega)
end
end Go.Q
