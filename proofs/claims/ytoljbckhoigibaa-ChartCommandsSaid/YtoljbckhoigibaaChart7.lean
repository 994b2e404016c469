/- The reference's chart; a chart's bytes. -/
import Derived.Test.YtoljbckhoigibaaChart6
import Derived.Test.YtoljbckhoigibaaLibPeel
set_option linter.unusedVariables false
namespace Go.Q
open Go.RowKit

def rchL (c : Ch) (go co ge ce : Nat) : List Value :=
  [i64 c.shards, .slice (some ⟨go, 0, none⟩) 16 co, .slice (some ⟨ge, 0, none⟩) 16 ce, i64 c.began, i64 c.ms, i64 c.mf, i64 c.mt, i64 c.me, i64 c.mp, i64 c.mn, i64 c.audit, i64 c.phase]

def imgk (c : Ch) : Nat → List UInt8
  | 0 => ivs [c.shards]
  | k + 1 => imgk c k ++ ivs [c.owner.getD k 0, c.epoch.getD k 0]
def Ch.image (c : Ch) : List UInt8 := imgk c 16 ++ ivs [c.began, c.ms, c.mf, c.mt, c.me, c.mp, c.mn, c.audit, c.phase]

theorem Ch.Inv.small {c : Ch} (h : c.Inv) : (0 ≤ c.ms ∧ c.ms ≤ 16) ∧ (0 ≤ c.mf ∧ c.mf ≤ 3) ∧ (0 ≤ c.mt ∧ c.mt ≤ 3) ∧ (0 ≤ c.me ∧ c.me ≤ 1152921504606846976) ∧ (0 ≤ c.mp ∧ c.mp ≤ 3) ∧ (0 ≤ c.mn ∧ c.mn ≤ 1152921504606846976) ∧ (0 ≤ c.audit ∧ c.audit ≤ 1152921504606846976) ∧ (0 ≤ c.phase ∧ c.phase ≤ 2) := by
  have hs := h.sh
  have hb := h.bg
  have hmb := h.mb
  have hp := h.ph
  by_cases hm : c.mp = 0
  · have h0 := h.m0 hm
    by_cases hq : c.phase = 0
    · have := h.a0 hq; omega
    · have := h.a1 hq; omega
  · have h1 := h.m1 hm
    by_cases hq : c.phase = 0
    · have := h.a0 hq; omega
    · have := h.a1 hq; omega
theorem ownl_new (s : Int) : ownl s 16 = (newCh s 16).owner := by simp [ownl, newCh, ownk, List.range_succ]

section
variable {c : Ch} {x : Cmd}
theorem do1_bad (hk : x.kind = 1) (h : ¬ (0 ≤ x.slot ∧ x.slot < 16) ∨ x.shard < 1 ∨ c.shards < x.shard) : c.do_ x = (⟨1, false, 0⟩, c) := by
  unfold Ch.do_ Ch.doMove; rw [if_pos hk, if_pos (by rw [there_not]; exact h)]
theorem do1_busy (hk : x.kind = 1) (h : (0 ≤ x.slot ∧ x.slot < 16) ∧ 1 ≤ x.shard ∧ x.shard ≤ c.shards) (hb : c.busy) : c.do_ x = (⟨50, false, 0⟩, c) := by
  unfold Ch.do_ Ch.doMove; rw [if_pos hk, if_neg (by rw [there_not]; omega), if_pos hb]
theorem do1_same (hk : x.kind = 1) (h : (0 ≤ x.slot ∧ x.slot < 16) ∧ 1 ≤ x.shard ∧ x.shard ≤ c.shards) (hb : ¬ c.busy) (hs : c.owner.getD x.slot.toNat 0 = x.shard) : c.do_ x = (⟨0, false, 0⟩, c) := by
  unfold Ch.do_ Ch.doMove; rw [if_pos hk, if_neg (by rw [there_not]; omega), if_neg hb, if_pos hs]
theorem do1_go (hk : x.kind = 1) (h : (0 ≤ x.slot ∧ x.slot < 16) ∧ 1 ≤ x.shard ∧ x.shard ≤ c.shards) (hb : ¬ c.busy) (hs : ¬ c.owner.getD x.slot.toNat 0 = x.shard) : c.do_ x = (⟨0, true, c.began + 1⟩, { c with began := c.began + 1, ms := x.slot, mf := c.owner.getD x.slot.toNat 0, mt := x.shard, me := c.epoch.getD x.slot.toNat 0 + 1, mp := 1, mn := c.began + 1 }) := by
  unfold Ch.do_ Ch.doMove; rw [if_pos hk, if_neg (by rw [there_not]; omega), if_neg hb, if_neg hs]
theorem do2_bad (hk : x.kind = 2) (h : c.mp = 0 ∨ c.mn ≠ x.n ∨ c.mp ≠ x.phase) : c.do_ x = (⟨5, false, 0⟩, c) := by
  unfold Ch.do_ Ch.doStep; rw [if_neg (by omega), if_pos hk, if_pos h]
theorem do2_1 (hk : x.kind = 2) (h : ¬ (c.mp = 0 ∨ c.mn ≠ x.n ∨ c.mp ≠ x.phase)) (hm : c.mp = 1) : c.do_ x = (⟨0, false, c.mn⟩, { c with mp := c.mp + 1 }) := by
  unfold Ch.do_ Ch.doStep; rw [if_neg (by omega), if_pos hk, if_neg h, if_pos hm, show c.mn = x.n from by omega, hm]; rfl
theorem do2_2 (hk : x.kind = 2) (h : ¬ (c.mp = 0 ∨ c.mn ≠ x.n ∨ c.mp ≠ x.phase)) (hm : c.mp = 2) : c.do_ x = (⟨0, false, c.mn⟩, { c with mp := c.mp + 1, owner := c.owner.set c.ms.toNat c.mt, epoch := c.epoch.set c.ms.toNat c.me }) := by
  unfold Ch.do_ Ch.doStep; rw [if_neg (by omega), if_pos hk, if_neg h, if_neg (by omega), if_pos hm, show c.mn = x.n from by omega, hm]; rfl
theorem do2_3 (hk : x.kind = 2) (h : ¬ (c.mp = 0 ∨ c.mn ≠ x.n ∨ c.mp ≠ x.phase)) (hm : ¬ c.mp = 1) (hm2 : ¬ c.mp = 2) : c.do_ x = (⟨0, false, c.mn⟩, { c with ms := 0, mf := 0, mt := 0, me := 0, mp := 0, mn := 0 }) := by
  unfold Ch.do_ Ch.doStep; rw [if_neg (by omega), if_pos hk, if_neg h, if_neg hm, if_neg hm2, show c.mn = x.n from by omega]
theorem do3_busy (hk : x.kind = 3) (hb : c.busy) : c.do_ x = (⟨50, false, 0⟩, c) := by
  unfold Ch.do_ Ch.doAudit; rw [if_neg (by omega), if_neg (by omega), if_pos hk, if_pos hb]
theorem do3_go (hk : x.kind = 3) (hb : ¬ c.busy) : c.do_ x = (⟨0, true, c.began + 1⟩, { c with began := c.began + 1, audit := c.began + 1, phase := 1 }) := by
  unfold Ch.do_ Ch.doAudit; rw [if_neg (by omega), if_neg (by omega), if_pos hk, if_neg hb]
theorem do4_bad (hk : x.kind = 4) (h : ¬ (c.phase = 1 ∧ c.audit = x.n)) : c.do_ x = (⟨5, false, 0⟩, c) := by
  unfold Ch.do_ Ch.doCut; rw [if_neg (by omega), if_neg (by omega), if_neg (by omega), if_pos hk, if_neg h]
theorem do4_go (hk : x.kind = 4) (h : c.phase = 1 ∧ c.audit = x.n) : c.do_ x = (⟨0, false, x.n⟩, { c with phase := 2 }) := by
  unfold Ch.do_ Ch.doCut; rw [if_neg (by omega), if_neg (by omega), if_neg (by omega), if_pos hk, if_pos h]
theorem do5_bad (hk : x.kind = 5) (h : ¬ (c.phase = 2 ∧ c.audit = x.n)) : c.do_ x = (⟨5, false, 0⟩, c) := by
  unfold Ch.do_ Ch.doThawed; rw [if_neg (by omega), if_neg (by omega), if_neg (by omega), if_neg (by omega), if_pos hk, if_neg h]
theorem do5_go (hk : x.kind = 5) (h : c.phase = 2 ∧ c.audit = x.n) : c.do_ x = (⟨0, false, x.n⟩, { c with audit := 0, phase := 0 }) := by
  unfold Ch.do_ Ch.doThawed; rw [if_neg (by omega), if_neg (by omega), if_neg (by omega), if_neg (by omega), if_pos hk, if_pos h]
theorem do_none (hk : ¬ x.kind = 1 ∧ ¬ x.kind = 2 ∧ ¬ x.kind = 3 ∧ ¬ x.kind = 4 ∧ ¬ x.kind = 5) : c.do_ x = (⟨1, false, 0⟩, c) := by
  unfold Ch.do_; rw [if_neg (by omega), if_neg (by omega), if_neg (by omega), if_neg (by omega), if_neg (by omega)]
end
end Go.Q
