/- What a chart's commands do, as plain functions; what always holds of a chart. -/
import Derived.Test.YtoljbckhoigibaaChart1
namespace Go.Q
open Go.RowKit

structure Cmd where
  kind : Int
  slot : Int
  shard : Int
  n : Int
  phase : Int
structure Res where
  why : Int
  wait : Bool
  n : Int
def Res.v (r : Res) : Value := agg [i64 r.why, .bool r.wait, i64 r.n]
def Cmd.v (x : Cmd) : Value := agg [i64 x.kind, i64 x.slot, i64 x.shard, i64 x.n, i64 x.phase]

def there (slot : Int) : Bool := decide (0 ≤ slot) && decide (slot < 16)
def Ch.busy (c : Ch) : Prop := c.mp ≠ 0 ∨ c.phase ≠ 0 ∨ 1152921504606846976 ≤ c.began
instance (c : Ch) : Decidable c.busy := by unfold Ch.busy; infer_instance
def Ch.ownerAt (c : Ch) (slot : Int) : Int := if there slot = true then c.owner.getD slot.toNat 0 else 0
def Ch.epochAt (c : Ch) (slot : Int) : Int := if there slot = true then c.epoch.getD slot.toNat 0 else 0
def Ch.begin_ (c : Ch) : Int × Ch := if c.busy then (0, c) else (c.began + 1, { c with began := c.began + 1 })
def Ch.doMove (c : Ch) (x : Cmd) : Res × Ch :=
  if there x.slot = false ∨ x.shard < 1 ∨ c.shards < x.shard then (⟨1, false, 0⟩, c)
  else if c.busy then (⟨50, false, 0⟩, c)
  else if c.owner.getD x.slot.toNat 0 = x.shard then (⟨0, false, 0⟩, c)
  else (⟨0, true, c.began + 1⟩, { c with began := c.began + 1, ms := x.slot, mf := c.owner.getD x.slot.toNat 0, mt := x.shard, me := c.epoch.getD x.slot.toNat 0 + 1, mp := 1, mn := c.began + 1 })
def Ch.doStep (c : Ch) (x : Cmd) : Res × Ch :=
  if c.mp = 0 ∨ c.mn ≠ x.n ∨ c.mp ≠ x.phase then (⟨5, false, 0⟩, c)
  else if c.mp = 1 then (⟨0, false, x.n⟩, { c with mp := 2 })
  else if c.mp = 2 then (⟨0, false, x.n⟩, { c with mp := 3, owner := c.owner.set c.ms.toNat c.mt, epoch := c.epoch.set c.ms.toNat c.me })
  else (⟨0, false, x.n⟩, { c with ms := 0, mf := 0, mt := 0, me := 0, mp := 0, mn := 0 })
def Ch.doAudit (c : Ch) : Res × Ch :=
  if c.busy then (⟨50, false, 0⟩, c) else (⟨0, true, c.began + 1⟩, { c with began := c.began + 1, audit := c.began + 1, phase := 1 })
def Ch.doCut (c : Ch) (x : Cmd) : Res × Ch :=
  if c.phase = 1 ∧ c.audit = x.n then (⟨0, false, x.n⟩, { c with phase := 2 }) else (⟨5, false, 0⟩, c)
def Ch.doThawed (c : Ch) (x : Cmd) : Res × Ch :=
  if c.phase = 2 ∧ c.audit = x.n then (⟨0, false, x.n⟩, { c with audit := 0, phase := 0 }) else (⟨5, false, 0⟩, c)
def Ch.do_ (c : Ch) (x : Cmd) : Res × Ch :=
  if x.kind = 1 then c.doMove x else if x.kind = 2 then c.doStep x else if x.kind = 3 then c.doAudit else if x.kind = 4 then c.doCut x else if x.kind = 5 then c.doThawed x else (⟨1, false, 0⟩, c)

/-- What always holds of a chart. -/
structure Ch.Inv (c : Ch) : Prop where
  ok : c.Ok
  sh : 1 ≤ c.shards ∧ c.shards ≤ 3
  own : ∀ k, k < 16 → 1 ≤ c.owner.getD k 0 ∧ c.owner.getD k 0 ≤ c.shards
  ep : ∀ k, k < 16 → 0 ≤ c.epoch.getD k 0 ∧ c.epoch.getD k 0 ≤ c.began
  bg : 0 ≤ c.began ∧ c.began ≤ 1152921504606846976
  ph : 0 ≤ c.phase ∧ c.phase ≤ 2
  a0 : c.phase = 0 → c.audit = 0
  a1 : c.phase ≠ 0 → 1 ≤ c.audit ∧ c.audit ≤ c.began
  m0 : c.mp = 0 → c.ms = 0 ∧ c.mf = 0 ∧ c.mt = 0 ∧ c.me = 0 ∧ c.mn = 0
  mb : 0 ≤ c.mp ∧ c.mp ≤ 3 ∧ 0 ≤ c.ms ∧ c.ms < 16
  m1 : c.mp ≠ 0 → c.phase = 0 ∧ 1 ≤ c.mt ∧ c.mt ≤ c.shards ∧ 1 ≤ c.mf ∧ c.mf ≤ c.shards ∧ c.mf ≠ c.mt ∧ 1 ≤ c.mn ∧ c.mn ≤ c.began ∧ 0 ≤ c.me ∧ c.me ≤ c.began
  m2 : c.mp = 1 ∨ c.mp = 2 → c.owner.getD c.ms.toNat 0 = c.mf ∧ c.me = c.epoch.getD c.ms.toNat 0 + 1

theorem Ch.Inv.begin_bd {c : Ch} (h : c.Inv) : 0 ≤ c.begin_.2.began ∧ c.begin_.2.began ≤ 1152921504606846976 := by
  have hb := h.bg
  unfold Ch.begin_
  split
  · exact hb
  · rename_i hq
    simp only [Ch.busy, not_or] at hq
    simp only
    omega

theorem there_iff (s : Int) : there s = true ↔ 0 ≤ s ∧ s < 16 := by simp [there]
theorem there_not (s : Int) : there s = false ↔ ¬ (0 ≤ s ∧ s < 16) := by rw [← there_iff]; cases there s <;> simp

theorem Ch.Inv.doMove {c : Ch} (h : c.Inv) (x : Cmd) : (c.doMove x).2.Inv := by
  unfold Ch.doMove
  split
  · exact h
  · rename_i h1
    split
    · exact h
    · rename_i h2
      split
      · exact h
      · rename_i h3
        simp only [not_or, there_not, Decidable.not_not, Ch.busy] at h1 h2
        obtain ⟨⟨h1a, h1b⟩, h1c, h1d⟩ := h1
        obtain ⟨h2a, h2b, h2c⟩ := h2
        have hk : x.slot.toNat < 16 := by omega
        have ho := h.own _ hk
        have he := h.ep _ hk
        have hb := h.bg
        refine ⟨⟨h.ok.o, h.ok.e⟩, h.sh, h.own, fun k hk => ⟨(h.ep k hk).1, ?_⟩, ⟨by simp only; omega, by simp only; omega⟩, h.ph, h.a0, ?_, ?_, ?_, ?_, ?_⟩
        · have := (h.ep k hk).2; simp only; omega
        · intro hp; exact absurd h2b hp
        · intro hp; simp at hp
        · simp only; omega
        · intro _; simp only; refine ⟨h2b, ?_⟩; omega
        · intro _; simp

theorem Ch.Inv.doStep {c : Ch} (h : c.Inv) (x : Cmd) : (c.doStep x).2.Inv := by
  unfold Ch.doStep
  split
  · exact h
  · rename_i h1
    simp only [not_or, Decidable.not_not, ne_eq] at h1
    obtain ⟨h1a, h1b, h1c⟩ := h1
    have hm1 := h.m1 h1a
    have hmb := h.mb
    split
    · rename_i h2
      have hm2 := h.m2 (.inl h2)
      refine ⟨⟨h.ok.o, h.ok.e⟩, h.sh, h.own, h.ep, h.bg, h.ph, h.a0, h.a1, fun hp => by simp at hp, ?_, fun _ => hm1, fun _ => hm2⟩
      simp only; omega
    · split
      · rename_i h2 h3
        have hm2 := h.m2 (.inr h3)
        have hlo : c.ms.toNat < c.owner.length := by rw [h.ok.o]; omega
        have hle : c.ms.toNat < c.epoch.length := by rw [h.ok.e]; omega
        refine ⟨⟨by simp [h.ok.o], by simp [h.ok.e]⟩, h.sh, fun k hk => ?_, fun k hk => ?_, h.bg, h.ph, h.a0, h.a1, fun hp => by simp at hp, ?_, fun _ => hm1, fun hp => by simp at hp⟩
        · simp only [List.getD_eq_getElem?_getD, List.getElem?_set]
          split
          · simp; omega
          · have := h.own k hk; simpa [List.getD_eq_getElem?_getD] using this
        · simp only [List.getD_eq_getElem?_getD, List.getElem?_set]
          split
          · simp; omega
          · have := h.ep k hk; simpa [List.getD_eq_getElem?_getD] using this
        · simp only; omega
      · refine ⟨⟨h.ok.o, h.ok.e⟩, h.sh, h.own, h.ep, h.bg, h.ph, h.a0, h.a1, fun _ => by simp, by simp, fun hp => by simp at hp, fun hp => by simp at hp⟩

theorem Ch.Inv.doAudit {c : Ch} (h : c.Inv) : c.doAudit.2.Inv := by
  unfold Ch.doAudit
  split
  · exact h
  · rename_i h2
    simp only [not_or, Ch.busy, ne_eq, Decidable.not_not] at h2
    obtain ⟨h2a, h2b, h2c⟩ := h2
    have hb := h.bg
    refine ⟨⟨h.ok.o, h.ok.e⟩, h.sh, h.own, fun k hk => ⟨(h.ep k hk).1, ?_⟩, ⟨by simp only; omega, by simp only; omega⟩, by simp, fun hp => by simp at hp, fun _ => by simp only; omega, h.m0, h.mb, fun hp => absurd h2a hp, fun hp => by simp only at hp; omega⟩
    have := (h.ep k hk).2; simp only; omega

theorem Ch.Inv.doCut {c : Ch} (h : c.Inv) (x : Cmd) : (c.doCut x).2.Inv := by
  unfold Ch.doCut
  split
  · rename_i h1
    exact ⟨⟨h.ok.o, h.ok.e⟩, h.sh, h.own, h.ep, h.bg, by simp, fun hp => by simp at hp, fun _ => h.a1 (by omega), h.m0, h.mb, fun hp => by have := h.m1 hp; omega, h.m2⟩
  · exact h

theorem Ch.Inv.doThawed {c : Ch} (h : c.Inv) (x : Cmd) : (c.doThawed x).2.Inv := by
  unfold Ch.doThawed
  split
  · rename_i h1
    exact ⟨⟨h.ok.o, h.ok.e⟩, h.sh, h.own, h.ep, h.bg, by simp, fun _ => by simp, fun hp => by simp at hp, h.m0, h.mb, fun hp => by have := h.m1 hp; omega, h.m2⟩
  · exact h

theorem Ch.Inv.do_ {c : Ch} (h : c.Inv) (x : Cmd) : (c.do_ x).2.Inv := by
  unfold Ch.do_
  split
  · exact h.doMove x
  · split
    · exact h.doStep x
    · split
      · exact h.doAudit
      · split
        · exact h.doCut x
        · split
          · exact h.doThawed x
          · exact h
end Go.Q
