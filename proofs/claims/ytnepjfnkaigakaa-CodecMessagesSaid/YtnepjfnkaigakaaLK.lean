/- Messages that are read: as they were written; cut; with a byte more. -/
import Derived.Test.YtnepjfnkaigakaaLJ
set_option linter.unusedVariables false
namespace Go.Q
open Go.RowKit

theorem ents_at : ∀ {l : List EntP} {b rest : List UInt8} {k : Nat}, b.drop k = entsv l ++ rest → EntsOk l → (∀ x ∈ l, x.cmd.length ≤ 65536) →
    Rdr.ents l.length (⟨b, k, 0⟩ : Rdr) = (l.map EntP.key, ⟨b, k + (entsv l).length, 0⟩)
  | [], b, rest, k, h, _, _ => rfl
  | x :: l, b, rest, k, h, hr, hn => by
    have e : entsv (x :: l) ++ rest = iv x.term ++ (tv x.cmd ++ (entsv l ++ rest)) := by simp only [entsv, List.append_assoc]
    rw [e] at h
    have a1 := int_at h (hr x (by simp))
    have d1 := drop_next h
    have a2 := bytes_at d1 (hn x (by simp))
    have d2 := drop_next d1
    have a3 := ents_at d2 (fun y hy => hr y (by simp [hy])) (fun y hy => hn y (by simp [hy]))
    rw [List.length_cons, Rdr.ents_succ rfl, a1]; simp only
    rw [a2]; simp only
    rw [a3]
    simp only [List.map_cons, EntP.key, entsv, List.length_append, Prod.mk.injEq, true_and, Rdr.mk.injEq, and_true]
    omega
theorem entsv_ge : ∀ (l : List EntP), l.length ≤ (entsv l).length
  | [] => Nat.le_refl _
  | x :: l => by
    have h := entsv_ge l
    have h1 := iv_pos x.term
    simp only [entsv, List.length_append, List.length_cons]
    omega
structure MsgAt (b : List UInt8) (m : MsgP) : Prop where
  ints : (⟨b, 0, 0⟩ : Rdr).mints = m.ints
  ok : (⟨b, 0, 0⟩ : Rdr).mok.1 = m.ok
  ents : (⟨b, 0, 0⟩ : Rdr).ments.1 = m.entries.map EntP.key
  data : (⟨b, 0, 0⟩ : Rdr).mdata = (m.data, ⟨b, (msgv m).length, 0⟩)
theorem msg_at {b rest : List UInt8} {m : MsgP} (h : b = msgv m ++ rest) (ho : m.Ok) (hf : m.Fits) : MsgAt b m := by
  have h : b.drop 0 = iv m.kind ++ (iv m.group ++ (iv m.frm ++ (iv m.to ++ (iv m.term ++ (iv m.index ++ (iv m.logTerm ++ (iv m.commit ++ (uv m.ok.toNat ++ (uv m.entries.length ++ (entsv m.entries ++ (tv m.data ++ rest))))))))))) := by
    rw [List.drop_zero, h]; simp only [msgv, headv, List.append_assoc]
  have a0 := int_at h ho.kind
  have d0 := drop_next h
  have a1 := int_at d0 ho.group
  have d1 := drop_next d0
  have a2 := int_at d1 ho.frm
  have d2 := drop_next d1
  have a3 := int_at d2 ho.to
  have d3 := drop_next d2
  have a4 := int_at d3 ho.term
  have d4 := drop_next d3
  have a5 := int_at d4 ho.index
  have d5 := drop_next d4
  have a6 := int_at d5 ho.logTerm
  have d6 := drop_next d5
  have a7 := int_at d6 ho.commit
  have d7 := drop_next d6
  have a8 := bool_at d7
  have d8 := drop_next d7
  have hc := hf.count
  have hge := entsv_ge m.entries
  have a9 := sized_at (m := 4096) d8 (by omega) (by omega) (by rw [List.length_append]; omega)
  have d9 := drop_next d8
  have a10 := ents_at d9 ho.ents hf.cmds
  have d10 := drop_next d9
  have a11 := bytes_at d10 hf.data
  have n1 : Rdr.nth 1 (⟨b, 0, 0⟩ : Rdr) = _ := congrArg Prod.snd a0
  have n2 : Rdr.nth 2 (⟨b, 0, 0⟩ : Rdr) = _ := (congrArg (fun r => (Rdr.int r).2) n1).trans (congrArg Prod.snd a1)
  have n3 : Rdr.nth 3 (⟨b, 0, 0⟩ : Rdr) = _ := (congrArg (fun r => (Rdr.int r).2) n2).trans (congrArg Prod.snd a2)
  have n4 : Rdr.nth 4 (⟨b, 0, 0⟩ : Rdr) = _ := (congrArg (fun r => (Rdr.int r).2) n3).trans (congrArg Prod.snd a3)
  have n5 : Rdr.nth 5 (⟨b, 0, 0⟩ : Rdr) = _ := (congrArg (fun r => (Rdr.int r).2) n4).trans (congrArg Prod.snd a4)
  have n6 : Rdr.nth 6 (⟨b, 0, 0⟩ : Rdr) = _ := (congrArg (fun r => (Rdr.int r).2) n5).trans (congrArg Prod.snd a5)
  have n7 : Rdr.nth 7 (⟨b, 0, 0⟩ : Rdr) = _ := (congrArg (fun r => (Rdr.int r).2) n6).trans (congrArg Prod.snd a6)
  have n8 : Rdr.nth 8 (⟨b, 0, 0⟩ : Rdr) = _ := (congrArg (fun r => (Rdr.int r).2) n7).trans (congrArg Prod.snd a7)
  simp only at n1 n2 n3 n4 n5 n6 n7 n8
  have hok : (⟨b, 0, 0⟩ : Rdr).mok = _ := (congrArg Rdr.bool_ n8).trans a8
  have hcn : (⟨b, 0, 0⟩ : Rdr).mcnt = _ := (congrArg (fun r : Bool × Rdr => r.2.sized 4096) hok).trans a9
  have hme : (⟨b, 0, 0⟩ : Rdr).ments = _ := (congrArg (fun r : Nat × Rdr => Rdr.ents r.1 r.2) hcn).trans a10
  have hmd : (⟨b, 0, 0⟩ : Rdr).mdata = _ := (congrArg (fun r : List (Int × List UInt8) × Rdr => r.2.bytes) hme).trans a11
  refine ⟨?_, by rw [hok], by rw [hme], ?_⟩
  · have i0 : (⟨b, 0, 0⟩ : Rdr).mint 0 = _ := congrArg Prod.fst a0
    have i1 : (⟨b, 0, 0⟩ : Rdr).mint 1 = _ := (congrArg (fun r => (Rdr.int r).1) n1).trans (congrArg Prod.fst a1)
    have i2 : (⟨b, 0, 0⟩ : Rdr).mint 2 = _ := (congrArg (fun r => (Rdr.int r).1) n2).trans (congrArg Prod.fst a2)
    have i3 : (⟨b, 0, 0⟩ : Rdr).mint 3 = _ := (congrArg (fun r => (Rdr.int r).1) n3).trans (congrArg Prod.fst a3)
    have i4 : (⟨b, 0, 0⟩ : Rdr).mint 4 = _ := (congrArg (fun r => (Rdr.int r).1) n4).trans (congrArg Prod.fst a4)
    have i5 : (⟨b, 0, 0⟩ : Rdr).mint 5 = _ := (congrArg (fun r => (Rdr.int r).1) n5).trans (congrArg Prod.fst a5)
    have i6 : (⟨b, 0, 0⟩ : Rdr).mint 6 = _ := (congrArg (fun r => (Rdr.int r).1) n6).trans (congrArg Prod.fst a6)
    have i7 : (⟨b, 0, 0⟩ : Rdr).mint 7 = _ := (congrArg (fun r => (Rdr.int r).1) n7).trans (congrArg Prod.fst a7)
    unfold Rdr.mints MsgP.ints
    rw [i0, i1, i2, i3, i4, i5, i6, i7]
  · rw [hmd, msgv_len]
    unfold headv
    simp only [List.length_append, Prod.mk.injEq, Rdr.mk.injEq, true_and, and_true]
    omega
/-- What the program takes as a message. -/
def MsgP.fit (m : MsgP) : Prop := (1 ≤ m.kind ∧ m.kind ≤ 6) ∧ (0 ≤ m.group ∧ m.group ≤ 3) ∧ (0 ≤ m.frm ∧ m.frm ≤ 4) ∧ (0 ≤ m.to ∧ m.to ≤ 4)
instance (m : MsgP) : Decidable m.fit := by unfold MsgP.fit; infer_instance
theorem unmsg_msg {m : MsgP} (ho : m.Ok) (hf : m.Fits) : unmsgB (msgv m) = if m.fit then (m.core, 0) else (MsgC.zero, 1) := by
  have h := msg_at (List.append_nil _).symm ho hf
  have hs := hf.size
  have hi := h.ints
  unfold Rdr.mints MsgP.ints at hi
  simp only [List.cons.injEq] at hi
  have hfit : (⟨msgv m, 0, 0⟩ : Rdr).mfit ↔ m.fit := by unfold Rdr.mfit MsgP.fit; rw [hi.1, hi.2.1, hi.2.2.1, hi.2.2.2.1]
  unfold unmsgB
  rw [if_neg (by omega), h.data, if_neg (by rw [end_at rfl]; simp)]
  by_cases hh : m.fit
  · rw [if_pos (hfit.2 hh), if_pos hh, h.ints, h.ok, h.ents]; rfl
  · rw [if_neg (fun q => hh (hfit.1 q)), if_neg hh]
theorem unmsg_more {m : MsgP} {x : UInt8} (ho : m.Ok) (hf : m.Fits) : (unmsgB (msgv m ++ [x])).2 ≠ 0 := by
  have h := msg_at (rest := [x]) rfl ho hf
  unfold unmsgB
  rw [h.data]
  have he : (⟨msgv m ++ [x], (msgv m).length, 0⟩ : Rdr).end_ = 11 := by unfold Rdr.end_; rw [if_pos ⟨rfl, by simp⟩]
  split
  · simp
  · rw [he, if_pos (by simp)]; simp
end Go.Q
namespace Go.Q
/-! ### bytes that are cut: each read gives the same, or an error that stays -/
structure Rdr.Pre (B s : List UInt8) (r q : Rdr) : Prop where
  bs : r.bs = B
  qs : q.bs = B ++ s
  why : r.why = 0
  qhy : q.why = 0
  pos : r.pos = q.pos
  le : r.pos ≤ B.length
def Rdr.Rel (B s : List UInt8) (r q : Rdr) : Prop := r.why ≠ 0 ∨ Rdr.Pre B s r q
theorem scanA_pre (s : List UInt8) : ∀ (bs : List UInt8) (i n : Nat), (scanA bs i n).2.2 = 0 → scanA (bs ++ s) i n = scanA bs i n
  | [], i, n, h => by rw [scanA_nil] at h; simp at h
  | c :: cs, i, n, h => by
    rw [List.cons_append]
    by_cases h1 : (i = 9 ∧ 1 < c.toNat) ∨ (0 < i ∧ c.toNat = 0)
    · rw [scanA_bad h1, scanA_bad h1]
    · by_cases h2 : c.toNat < 128
      · rw [scanA_end h1 h2, scanA_end h1 h2]
      · rw [scanA_more h1 h2] at h
        rw [scanA_more h1 h2, scanA_more h1 h2]
        exact scanA_pre s cs _ _ h
variable {B s : List UInt8} {r q : Rdr}
theorem Rdr.Pre.drop (h : Rdr.Pre B s r q) : q.bs.drop q.pos = r.bs.drop r.pos ++ s := by
  rw [h.qs, h.bs, ← h.pos, List.drop_append_of_le_length h.le]
theorem Rdr.Pre.uint (h : Rdr.Pre B s r q) : r.uint.2.why ≠ 0 ∨ (r.uint.1 = q.uint.1 ∧ Rdr.Pre B s r.uint.2 q.uint.2) := by
  by_cases h0 : (scanB (r.bs.drop r.pos)).2.2 = 0
  · right
    have e : scanB (q.bs.drop q.pos) = scanB (r.bs.drop r.pos) := by rw [h.drop]; exact scanA_pre s _ 0 0 h0
    have hb := (scanB_le (r.bs.drop r.pos)).2
    rw [List.length_drop, h.bs] at hb
    have hle := h.le
    have e1 : r.uint = ((scanB (r.bs.drop r.pos)).1, { r with pos := r.pos + (scanB (r.bs.drop r.pos)).2.1 }) := by unfold Rdr.uint; rw [if_neg (by rw [h.why]; simp), if_neg (by rw [h0]; simp)]
    have e2 : q.uint = ((scanB (r.bs.drop r.pos)).1, { q with pos := q.pos + (scanB (r.bs.drop r.pos)).2.1 }) := by unfold Rdr.uint; rw [if_neg (by rw [h.qhy]; simp), e, if_neg (by rw [h0]; simp)]
    rw [e1, e2]
    refine ⟨rfl, ⟨h.bs, h.qs, h.why, h.qhy, by simp only [h.pos], ?_⟩⟩
    simp only
    rw [h.bs] at *
    omega
  · left
    have e1 : r.uint = (0, { r with why := (scanB (r.bs.drop r.pos)).2.2 }) := by unfold Rdr.uint; rw [if_neg (by rw [h.why]; simp), if_pos h0]
    rw [e1]; exact h0
theorem Rdr.Rel.int (h : Rdr.Rel B s r q) : Rdr.Rel B s r.int.2 q.int.2 := by
  rcases h with h | h
  · left; rw [(Rdr.goes_int r).why h]; exact h
  · rcases h.uint with h1 | ⟨_, h1⟩
    · exact .inl h1
    · exact .inr h1
theorem Rdr.Pre.sized (h : Rdr.Pre B s r q) (m : Int) : (r.sized m).2.why ≠ 0 ∨ ((r.sized m).1 = (q.sized m).1 ∧ Rdr.Pre B s (r.sized m).2 (q.sized m).2 ∧ (r.sized m).2.pos + (r.sized m).1 ≤ B.length) := by
  have hr0 := h.why
  have hq0 := h.qhy
  rcases h.uint with h1 | ⟨h1, h2⟩
  · left
    unfold Rdr.sized
    rw [if_neg (by omega), if_pos h1]; exact h1
  · have w1 := h2.why
    have w2 := h2.qhy
    by_cases c1 : m < 0 ∨ m < ((r.uint.1 : Nat) : Int)
    · left; unfold Rdr.sized; rw [if_neg (by omega), if_neg (by omega), if_pos c1]; simp
    · by_cases c2 : r.bs.length - r.uint.2.pos < r.uint.1
      · left; unfold Rdr.sized; rw [if_neg (by omega), if_neg (by omega), if_neg c1, if_pos c2]; simp
      · right
        have hb := congrArg List.length h.bs
        have hq := congrArg List.length h.qs
        rw [List.length_append] at hq
        have hp := h2.pos
        have hle := h2.le
        have e1 : r.sized m = r.uint := by unfold Rdr.sized; rw [if_neg (by omega), if_neg (by omega), if_neg c1, if_neg c2]
        have e2 : q.sized m = q.uint := by unfold Rdr.sized; rw [if_neg (by omega), if_neg (by omega), if_neg (by rw [← h1]; exact c1), if_neg (by omega)]
        rw [e1, e2]
        exact ⟨h1, h2, by omega⟩
theorem Rdr.Rel.bytes (h : Rdr.Rel B s r q) : Rdr.Rel B s r.bytes.2 q.bytes.2 := by
  rcases h with h | h
  · left; rw [(Rdr.goes_bytes r).why h]; exact h
  · rcases h.sized 65536 with h1 | ⟨h1, h2, h3⟩
    · left; unfold Rdr.bytes; rw [if_pos h1]; exact h1
    · right
      have w1 := h2.why
      have w2 := h2.qhy
      have e1 : r.bytes.2 = ⟨r.bs, (r.sized 65536).2.pos + (r.sized 65536).1, (r.sized 65536).2.why⟩ := by unfold Rdr.bytes; rw [if_neg (by omega)]
      have e2 : q.bytes.2 = ⟨q.bs, (q.sized 65536).2.pos + (q.sized 65536).1, (q.sized 65536).2.why⟩ := by unfold Rdr.bytes; rw [if_neg (by omega)]
      rw [e1, e2]
      exact ⟨h.bs, h.qs, w1, w2, by rw [h2.pos, h1], h3⟩
theorem Rdr.Rel.bool_ (h : Rdr.Rel B s r q) : Rdr.Rel B s r.bool_.2 q.bool_.2 := by
  rcases h with h | h
  · left; rw [(Rdr.goes_bool r).why h]; exact h
  · have hd := h.drop
    have hr0 := h.why
    have hq0 := h.qhy
    cases hx : r.bs.drop r.pos with
    | nil => left; unfold Rdr.bool_; rw [if_neg (by omega), hx]; simp
    | cons c cs =>
      rw [hx, List.cons_append] at hd
      have hl := congrArg List.length hx
      rw [List.length_drop, List.length_cons, h.bs] at hl
      by_cases h1 : 1 < c.toNat
      · left; unfold Rdr.bool_; rw [if_neg (by omega), hx]; simp only; rw [if_pos h1]; simp
      · right
        have e1 : r.bool_.2 = ⟨r.bs, r.pos + 1, r.why⟩ := by unfold Rdr.bool_; rw [if_neg (by omega), hx]; simp only; rw [if_neg h1]
        have e2 : q.bool_.2 = ⟨q.bs, q.pos + 1, q.why⟩ := by unfold Rdr.bool_; rw [if_neg (by omega), hd]; simp only; rw [if_neg h1]
        rw [e1, e2]
        exact ⟨h.bs, h.qs, h.why, h.qhy, by rw [h.pos], by simp only; omega⟩
theorem Rdr.Rel.nth : ∀ (n : Nat) {r q : Rdr}, Rdr.Rel B s r q → Rdr.Rel B s (Rdr.nth n r) (Rdr.nth n q)
  | 0, r, q, h => h
  | n + 1, r, q, h => (Rdr.Rel.nth n h).int
theorem Rdr.Rel.ents : ∀ (n : Nat) {r q : Rdr}, Rdr.Rel B s r q → Rdr.Rel B s (Rdr.ents n r).2 (Rdr.ents n q).2
  | 0, r, q, h => h
  | n + 1, r, q, h => by
    by_cases h0 : r.why = 0
    · rcases h with h | h
      · exact absurd h0 h
      · rw [Rdr.ents_succ h0, Rdr.ents_succ h.qhy]
        exact Rdr.Rel.ents n (Rdr.Rel.bytes (Rdr.Rel.int (.inr h)))
    · left
      unfold Rdr.ents
      rw [if_pos h0]; exact h0
theorem Rdr.ents_why {n : Nat} (h : r.why ≠ 0) : (Rdr.ents n r).2.why ≠ 0 := by
  cases n with
  | zero => exact h
  | succ n => unfold Rdr.ents; rw [if_pos h]; exact h
theorem Rdr.Rel.mdata (h : Rdr.Rel B s r q) : Rdr.Rel B s r.mdata.2 q.mdata.2 := by
  have h1 : Rdr.Rel B s r.mok.2 q.mok.2 := (h.nth 8).bool_
  refine Rdr.Rel.bytes ?_
  rcases h1 with h1 | h1
  · left
    refine Rdr.ents_why ?_
    show (r.mok.2.sized 4096).2.why ≠ 0
    rw [(Rdr.goes_sized _ _).why h1]; exact h1
  · rcases h1.sized 4096 with h2 | ⟨h2, h3, _⟩
    · exact .inl (Rdr.ents_why h2)
    · show Rdr.Rel B s (Rdr.ents (r.mok.2.sized 4096).1 (r.mok.2.sized 4096).2).2 (Rdr.ents (q.mok.2.sized 4096).1 (q.mok.2.sized 4096).2).2
      rw [← h2]
      exact Rdr.Rel.ents _ (.inr h3)
theorem unmsg_cut {m : MsgP} {k : Nat} (ho : m.Ok) (hf : m.Fits) (hk : k < (msgv m).length) : (unmsgB ((msgv m).take k)).2 ≠ 0 := by
  have h := msg_at (List.append_nil _).symm ho hf
  have hr : Rdr.Rel ((msgv m).take k) ((msgv m).drop k) ⟨(msgv m).take k, 0, 0⟩ ⟨msgv m, 0, 0⟩ := .inr ⟨rfl, (List.take_append_drop _ _).symm, rfl, rfl, rfl, Nat.zero_le _⟩
  have hne : (⟨(msgv m).take k, 0, 0⟩ : Rdr).mdata.2.end_ ≠ 0 := by
    rcases hr.mdata with h1 | h1
    · unfold Rdr.end_
      split
      · simp
      · exact h1
    · have hp := h1.pos
      have hle := h1.le
      rw [h.data] at hp
      simp only at hp
      rw [List.length_take] at hle
      omega
  unfold unmsgB
  split
  · simp
  · first
    | exact hne
    | rw [if_pos hne]; exact hne
end Go.Q
namespace Go.Q
theorem fits_core {x m : MsgP} (h : x.core = m.core) (hf : m.Fits) : x.Fits := by
  have hs := MsgP.same_core.2 h
  have hl := congrArg List.length hs.ents
  simp only [List.length_map] at hl
  refine ⟨by have := hf.count; omega, by rw [hs.data]; exact hf.data, fun y hy => ?_, by rw [msgv_same hs]; exact hf.size⟩
  have hk : y.key ∈ m.entries.map EntP.key := by rw [← hs.ents]; exact List.mem_map.2 ⟨y, hy, rfl⟩
  obtain ⟨z, hz, he⟩ := List.mem_map.1 hk
  have hc : z.cmd = y.cmd := congrArg Prod.snd he
  rw [← hc]
  exact hf.cmds z hz
theorem msgv_pos (m : MsgP) : 0 < (msgv m).length := by
  have h := iv_pos m.kind
  rw [msgv_len]
  unfold headv
  rw [List.length_append]
  omega
theorem unmsg_two {m : MsgP} {x : MsgC} {f : Int} (ho : m.Ok) (hf : m.Fits) (h : (x, f) = unmsgB (msgv m)) : (f = 0 ∨ f = 1) ∧ (f = 0 → x = m.core) := by
  rw [unmsg_msg ho hf] at h
  by_cases hh : m.fit
  · rw [if_pos hh] at h
    exact ⟨.inl (congrArg Prod.snd h), fun _ => congrArg Prod.fst h⟩
  · rw [if_neg hh] at h
    have h1 : f = 1 := congrArg Prod.snd h
    exact ⟨.inr h1, fun h0 => by omega⟩
end Go.Q
namespace Go.Q
theorem wf_u8 {n : Int} (h : (Lit.int .u8 n).wf = true) : ∃ z : UInt8, n = ((z.toNat : Nat) : Int) := by
  have h2 : 0 ≤ n ∧ n < 256 := by
    simp only [Lit.wf, Bool.and_eq_true, decide_eq_true_eq] at h
    have e1 : IntKind.u8.min = 0 := by decide
    have e2 : IntKind.u8.max = 255 := by decide
    rw [e1, e2] at h
    omega
  refine ⟨UInt8.ofNat n.toNat, ?_⟩
  rw [UInt8.toNat_ofNat']
  omega
end Go.Q
