/- Audits, step by step; commands that come in. -/
import Derived.Test.YtoljbckhoigibaaChart4
import Derived.Test.YtoljbckhoigibaaQ7
namespace Go.Q
open Go.RowKit Go.Deep

instance : Inhabited Cmd := ⟨⟨0, 0, 0, 0, 0⟩⟩
def Cmd.l (x : Cmd) : List Value := [i64 x.kind, i64 x.slot, i64 x.shard, i64 x.n, i64 x.phase]

def I64 (n : Int) : Prop := -9223372036854775808 ≤ n ∧ n ≤ 9223372036854775807
structure Cmd.Good (x : Cmd) : Prop where
  kind : I64 x.kind
  slot : I64 x.slot
  shard : I64 x.shard
  n : I64 x.n
  phase : I64 x.phase
theorem dec_cmd {H : Type} {enc : TypeId × Value → H} {P : Program} {w : World} {base : Nat} {spare : Nat → Bool} {held : Bool} {e : TypeId} {fs : Array Field} (he : P.underlying e = some (.struct fs)) (hone : oneCellFields P fs = true)
    (hk : intFields P fs .i64 = true) (hC : P.cellsOf e = fs.size) (h5 : fs.size = 5) (m : Nat) (cs : List Value) (y : DataW H × List MemPlace) (_ : cs.length = 5) (h : DataW.trod enc P w base spare held m e cs = some y) :
    ∃ x : Cmd, x.Good ∧ x.v.cells.toList = cs := by
  obtain ⟨ns, hl, rfl, hw⟩ := trod_ints he hone (intFields_spec hk) hC h
  rw [h5] at hl
  match ns, hl with
  | [a, b, c, d, e], _ =>
    exact ⟨⟨a, b, c, d, e⟩, ⟨wf_i64 (hw a (by simp)), wf_i64 (hw b (by simp)), wf_i64 (hw c (by simp)), wf_i64 (hw d (by simp)), wf_i64 (hw e (by simp))⟩, rfl⟩

def aud (c : Ch) : Ch := { c with began := c.began + 1, audit := c.began + 1, phase := 1 }
def aud2 (c : Ch) : Ch := { c with began := c.began + 1, audit := c.began + 1, phase := 2 }
def aud3 (c : Ch) : Ch := { c with began := c.began + 1, audit := 0, phase := 0 }

theorem aud_no {c : Ch} (h : (c.do_ ⟨3, 0, 0, 0, 0⟩).1.wait = false) : (c.do_ ⟨3, 0, 0, 0, 0⟩).1.why = 50 := by
  simp only [Ch.do_, Ch.doAudit] at h ⊢
  by_cases hb : c.busy <;> simp_all
theorem aud_yes {c : Ch} (h : (c.do_ ⟨3, 0, 0, 0, 0⟩).1.wait = true) : c.do_ ⟨3, 0, 0, 0, 0⟩ = (⟨0, true, c.began + 1⟩, aud c) ∧ c.mp = 0 ∧ c.began < 1152921504606846976 := by
  simp only [Ch.do_, Ch.doAudit] at h ⊢
  by_cases hb : c.busy
  · simp [hb] at h
  · simp only [Ch.busy, not_or, ne_eq, Decidable.not_not] at hb
    simp [aud, Ch.busy, hb]
    omega
theorem aud_thaw {c : Ch} {n : Int} : (aud c).do_ ⟨5, 0, 0, n, 0⟩ = (⟨5, false, 0⟩, aud c) := by simp [Ch.do_, Ch.doThawed, aud]
theorem aud_move {c : Ch} (hi : (aud c).Inv) : (aud c).do_ ⟨1, 0, 1, 0, 0⟩ = (⟨50, false, 0⟩, aud c) := by
  have := hi.sh
  unfold Ch.do_
  rw [if_pos rfl]
  unfold Ch.doMove
  rw [if_neg (by rintro (h | h)
                 · exact (there_not _).1 h ⟨Int.le_refl _, by decide⟩
                 · have h : (1 : Int) < 1 ∨ (aud c).shards < 1 := h
                   omega), if_pos (.inr (.inl (by simp [aud])))]
theorem aud_cut {c : Ch} : (aud c).do_ ⟨4, 0, 0, c.began + 1, 0⟩ = (⟨0, false, c.began + 1⟩, aud2 c) := by simp [Ch.do_, Ch.doCut, aud, aud2]
theorem aud2_cut {c : Ch} {n : Int} : (aud2 c).do_ ⟨4, 0, 0, n, 0⟩ = (⟨5, false, 0⟩, aud2 c) := by simp [Ch.do_, Ch.doCut, aud2]
theorem aud2_audit {c : Ch} : (aud2 c).do_ ⟨3, 0, 0, 0, 0⟩ = (⟨50, false, 0⟩, aud2 c) := by simp [Ch.do_, Ch.doAudit, Ch.busy, aud2]
theorem aud2_thaw {c : Ch} : (aud2 c).do_ ⟨5, 0, 0, c.began + 1, 0⟩ = (⟨0, false, c.began + 1⟩, aud3 c) := by simp [Ch.do_, Ch.doThawed, aud2, aud3]
theorem aud3_audit {c : Ch} (hm : c.mp = 0) (hb : c.began + 1 < 1152921504606846976) : (aud3 c).do_ ⟨3, 0, 0, 0, 0⟩ = (⟨0, true, c.began + 1 + 1⟩, { aud3 c with began := c.began + 1 + 1, audit := c.began + 1 + 1, phase := 1 }) := by
  simp [Ch.do_, Ch.doAudit, Ch.busy, aud3, hm]
  omega

theorem do_began (c : Ch) (x : Cmd) : (c.do_ x).2.began ≤ c.began + 1 := by
  unfold Ch.do_ Ch.doMove Ch.doStep Ch.doAudit Ch.doCut Ch.doThawed
  repeat' split
  all_goals (simp only; omega)
theorem aud_cases (c : Ch) : (c.do_ ⟨3, 0, 0, 0, 0⟩).1.wait = false ∨ (c.do_ ⟨3, 0, 0, 0, 0⟩).1.wait = true := by cases (c.do_ ⟨3, 0, 0, 0, 0⟩).1.wait <;> simp
end Go.Q
