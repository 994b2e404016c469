/- What is read was written so; letters that are read. -/
import Derived.Test.YtlnidnadpdpciaaLU
set_option linter.unusedVariables false
namespace Go.Q
open Go.RowKit

/-- r2 is r behind the bytes x. -/
def Rdr.Ate (r : Rdr) (x : List UInt8) (r2 : Rdr) : Prop := r2.bs = r.bs ∧ r.bs.drop r.pos = x ++ r2.bs.drop r2.pos
theorem Rdr.Ate.trans {r r2 r3 : Rdr} {x y : List UInt8} (h : r.Ate x r2) (k : r2.Ate y r3) : r.Ate (x ++ y) r3 := ⟨k.1.trans h.1, by rw [h.2, k.2, List.append_assoc]⟩
theorem Rdr.Goes.ok {r r2 : Rdr} (h : r.Goes r2) (h0 : r2.why = 0) : r.why = 0 := Classical.byContradiction fun q => by have := h.why q; omega
theorem byte_self {c : UInt8} {n : Nat} (h : n = c.toNat) : byte n = c := by
  have := c.toNat_lt
  exact UInt8.toNat_inj.1 (by rw [byte_toNat n (by omega), h])
theorem scanA_canon : ∀ (bs : List UInt8) (i n m e : Nat), i ≤ 9 → n < p7 i → scanA bs i n = (m, e, 0) → ∃ v, m = n + v * p7 i ∧ (0 < i → v ≠ 0) ∧ e = i + (uv v).length ∧ bs = uv v ++ bs.drop (e - i)
  | [], i, n, m, e, _, _, h => by rw [scanA_nil] at h; simp at h
  | c :: cs, i, n, m, e, hi, hn, h => by
    have hc := c.toNat_lt
    by_cases hb : (i = 9 ∧ 1 < c.toNat) ∨ (0 < i ∧ c.toNat = 0)
    · rw [scanA_bad hb] at h; simp at h
    · by_cases h1 : c.toNat < 128
      · rw [scanA_end hb h1] at h
        simp only [Prod.mk.injEq, and_true] at h
        refine ⟨c.toNat, by rw [← h.1, Nat.mod_eq_of_lt h1], fun _ => by omega, by rw [uv_lt h1]; simp; omega, ?_⟩
        rw [uv_lt h1, byte_self rfl, ← h.2, Nat.add_sub_cancel_left]
        rfl
      · rw [scanA_more hb h1] at h
        have hr := scan_round (c := c) hi hn hb
        obtain ⟨v, hm, hv, he, hbs⟩ := scanA_canon cs (i + 1) _ m e (by omega) (hr.2.2 h1) h
        have hv0 := hv (by omega)
        have hg : 128 ≤ c.toNat % 128 + 128 * v := by omega
        refine ⟨c.toNat % 128 + 128 * v, ?_, fun _ => by omega, ?_, ?_⟩
        · rw [hm, p7_succ, Nat.add_mul, Nat.add_assoc, Nat.mul_comm 128 v, Nat.mul_assoc]
        · rw [uv_ge hg, show (c.toNat % 128 + 128 * v) / 128 = v from by omega, List.length_cons, he]; omega
        · rw [uv_ge hg, show (c.toNat % 128 + 128 * v) / 128 = v from by omega, byte_self (show (c.toNat % 128 + 128 * v) % 128 + 128 = c.toNat from by omega), List.cons_append]
          have : e - i = (e - (i + 1)) + 1 := by omega
          rw [this, List.drop_succ_cons, ← hbs]
theorem uint_canon {r : Rdr} (h : r.uint.2.why = 0) : r.why = 0 ∧ r.Ate (uv r.uint.1) r.uint.2 ∧ r.pos < r.uint.2.pos := by
  have h0 := r.goes_uint.ok h
  refine ⟨h0, ?_⟩
  unfold Rdr.uint at h ⊢
  rw [if_neg (by omega)] at h ⊢
  by_cases hs : (scanB (r.bs.drop r.pos)).2.2 ≠ 0
  · rw [if_pos hs] at h; exact absurd h hs
  · rw [if_neg hs]
    obtain ⟨v, hm, _, he, hb⟩ := scanA_canon (r.bs.drop r.pos) 0 0 (scanB (r.bs.drop r.pos)).1 (scanB (r.bs.drop r.pos)).2.1 (by omega) (p7_pos 0) (Prod.ext rfl (Prod.ext rfl (Classical.not_not.1 hs)))
    have hm2 : (scanB (r.bs.drop r.pos)).1 = v := by rw [hm]; simp [p7]
    have hp := uv_pos v
    simp only
    rw [hm2]
    refine ⟨⟨rfl, ?_⟩, by omega⟩
    rw [Nat.sub_zero, List.drop_drop] at hb
    exact hb
theorem zz_unzz {n : Nat} : zz (unzz n) = n := by unfold zz unzz; split <;> split <;> omega
theorem int_canon {r : Rdr} (h : r.int.2.why = 0) : r.why = 0 ∧ r.Ate (iv r.int.1) r.int.2 := by
  obtain ⟨h0, ha, _⟩ := uint_canon (r := r) h
  refine ⟨h0, ?_⟩
  unfold Rdr.int iv
  rw [zz_unzz]
  exact ha
theorem sized_canon {r : Rdr} {m : Int} (h : (r.sized m).2.why = 0) : r.why = 0 ∧ r.Ate (uv (r.sized m).1) (r.sized m).2 ∧ (r.sized m).1 ≤ r.bs.length - (r.sized m).2.pos := by
  have h0 := (r.goes_sized m).ok h
  refine ⟨h0, ?_⟩
  unfold Rdr.sized at h ⊢
  rw [if_neg (by omega)] at h ⊢
  by_cases h1 : r.uint.2.why ≠ 0
  · rw [if_pos h1] at h; exact absurd h h1
  · rw [if_neg h1] at h ⊢
    by_cases h2 : m < 0 ∨ m < ((r.uint.1 : Nat) : Int)
    · rw [if_pos h2] at h; cases h
    · rw [if_neg h2] at h ⊢
      by_cases h3 : r.bs.length - r.uint.2.pos < r.uint.1
      · rw [if_pos h3] at h; cases h
      · rw [if_neg h3] at h ⊢
        exact ⟨(uint_canon h).2.1, by omega⟩
theorem bytes_canon {r : Rdr} (h : r.bytes.2.why = 0) : r.why = 0 ∧ r.Ate (tv r.bytes.1) r.bytes.2 ∧ r.bytes.1.length ≤ 65536 := by
  have h0 := r.goes_bytes.ok h
  have hm := Rdr.sized_most r 65536
  have hb := r.sized_bs 65536
  unfold Rdr.bytes at h ⊢
  by_cases h1 : (r.sized 65536).2.why ≠ 0
  · rw [if_pos h1] at h; exact absurd h h1
  · rw [if_neg h1]
    obtain ⟨_, ha, hl⟩ := sized_canon (r := r) (m := 65536) (Classical.not_not.1 h1)
    have hlen : ((r.bs.drop (r.sized 65536).2.pos).take (r.sized 65536).1).length = (r.sized 65536).1 := by rw [List.length_take, List.length_drop]; omega
    simp only
    refine ⟨h0, ⟨rfl, ?_⟩, by rw [hlen]; omega⟩
    unfold tv
    rw [hlen, ha.2, hb, List.append_assoc, ← List.drop_drop, List.take_append_drop]
theorem op_canon {r : Rdr} (h : r.op.2.why = 0) : r.why = 0 ∧ r.Ate (opv r.op.1) r.op.2 ∧ r.op.1.frm.length ≤ 65536 ∧ r.op.1.to.length ≤ 65536 ∧ r.op.1.key.length ≤ 65536 := by
  have e : r.op.2 = r.int.2.bytes.2.bytes.2.int.2.bytes.2.int.2.int.2 := rfl
  rw [e] at h ⊢
  obtain ⟨h6, a7⟩ := int_canon h
  obtain ⟨h5, a6⟩ := int_canon h6
  obtain ⟨h4, a5, l5⟩ := bytes_canon h5
  obtain ⟨h3, a4⟩ := int_canon h4
  obtain ⟨h2, a3, l3⟩ := bytes_canon h3
  obtain ⟨h1, a2, l2⟩ := bytes_canon h2
  obtain ⟨h0, a1⟩ := int_canon h1
  exact ⟨h0, a1.trans (a2.trans (a3.trans (a4.trans (a5.trans (a6.trans a7))))), l2, l3, l5⟩
theorem rows_goes : ∀ (n : Nat) (r : Rdr), r.Goes (Rdr.rows n r).2
  | 0, r => ⟨rfl, Nat.le_refl _, fun _ => rfl, fun _ => rfl⟩
  | n + 1, r => by
    have h1 := r.goes_bytes
    have h2 := r.bytes.2.goes_int
    have h3 := rows_goes n r.bytes.2.int.2
    refine ⟨?_, ?_, fun q => ?_, fun q => ?_⟩
    · show (Rdr.rows n r.bytes.2.int.2).2.bs = _; rw [h3.bs, h2.bs, h1.bs]
    · show _ ≤ (Rdr.rows n r.bytes.2.int.2).2.pos; have := h1.mono; have := h2.mono; have := h3.mono; omega
    · have q1 : r.bytes.2.why ≠ 0 := by rw [h1.why q]; exact q
      have q2 : r.bytes.2.int.2.why ≠ 0 := by rw [h2.why q1]; exact q1
      show (Rdr.rows n r.bytes.2.int.2).2.pos = _
      rw [h3.pos q2, h2.pos q1, h1.pos q]
    · have q1 : r.bytes.2.why ≠ 0 := by rw [h1.why q]; exact q
      have q2 : r.bytes.2.int.2.why ≠ 0 := by rw [h2.why q1]; exact q1
      show (Rdr.rows n r.bytes.2.int.2).2.why = _
      rw [h3.why q2, h2.why q1, h1.why q]
theorem rows_canon : ∀ {n : Nat} {r : Rdr}, (Rdr.rows n r).2.why = 0 → r.why = 0 ∧ r.Ate (rowsv (Rdr.rows n r).1) (Rdr.rows n r).2 ∧ (Rdr.rows n r).1.length = n ∧ ∀ x ∈ (Rdr.rows n r).1, x.name.length ≤ 65536
  | 0, r, h => ⟨h, ⟨rfl, rfl⟩, rfl, fun x hx => by cases hx⟩
  | n + 1, r, h => by
    obtain ⟨h2, a3, l3, n3⟩ := rows_canon (n := n) (r := r.bytes.2.int.2) h
    obtain ⟨h1, a2⟩ := int_canon h2
    obtain ⟨h0, a1, l1⟩ := bytes_canon h1
    refine ⟨h0, a1.trans (a2.trans a3), by show (Rdr.rows n r.bytes.2.int.2).1.length + 1 = _; rw [l3], fun x hx => ?_⟩
    rcases List.mem_cons.1 hx with rfl | hx
    · exact l1
    · exact n3 x hx
theorem reply_canon {r : Rdr} (h : r.reply.2.why = 0) : r.why = 0 ∧ r.Ate (rpv r.reply.1) r.reply.2 ∧ r.reply.1.rows.length ≤ 600 ∧ ∀ x ∈ r.reply.1.rows, x.name.length ≤ 65536 := by
  have e : r.reply.2 = (Rdr.rows r.rhead.1 r.rhead.2).2 := rfl
  rw [e] at h ⊢
  obtain ⟨h3, a4, l4, n4⟩ := rows_canon h
  have hm := Rdr.sized_most r.int.2.int.2 600
  obtain ⟨h2, a3, _⟩ := sized_canon (r := r.int.2.int.2) (m := 600) h3
  obtain ⟨h1, a2⟩ := int_canon h2
  obtain ⟨h0, a1⟩ := int_canon h1
  have hl : r.reply.1.rows.length = r.rhead.1 := l4
  refine ⟨h0, ?_, ?_, n4⟩
  · have hall := a1.trans (a2.trans (a3.trans a4))
    unfold rpv
    rw [hl]
    exact hall
  · rw [hl]
    show (r.int.2.int.2.sized 600).1 ≤ 600
    omega
theorem end_canon {r : Rdr} (hk : r.Ok) (h : r.end_ = 0) : r.why = 0 ∧ r.bs.drop r.pos = [] := by
  have hp := hk.pos
  unfold Rdr.end_ at h
  split at h
  · cases h
  · rename_i q
    exact ⟨h, List.drop_eq_nil_of_le (by omega)⟩

/-! ### letters that are read -/
def opZ : Opm := ⟨0, [], [], 0, [], 0, 0⟩
def repZ : ReplyM := ⟨0, 0, []⟩
def LetP.zero : LetP := ⟨0, 0, 0, opZ, repZ, []⟩
/-- What stands behind a letter's kind, read. -/
def letR (k : Int) (r : Rdr) : LetP × Rdr :=
  if k = 1 then (⟨k, 0, 0, opZ, repZ, r.bytes.1⟩, r.bytes.2)
  else if k = 2 then (⟨k, r.int.1, 0, r.int.2.op.1, repZ, []⟩, r.int.2.op.2)
  else if k = 3 then (⟨k, r.int.1, 0, opZ, r.int.2.reply.1, []⟩, r.int.2.reply.2)
  else if k = 4 then (⟨k, r.int.1, 0, opZ, repZ, r.int.2.bytes.1⟩, r.int.2.bytes.2)
  else (⟨k, r.int.1, r.int.2.int.1, opZ, repZ, r.int.2.int.2.bytes.1⟩, r.int.2.int.2.bytes.2)
/-- Bytes as a letter, and the error. -/
def unpackB (bs : List UInt8) : LetP × Int :=
  if 1048576 < bs.length then (LetP.zero, 3)
  else if (⟨bs, 0, 0⟩ : Rdr).int.2.why ≠ 0 then (LetP.zero, (⟨bs, 0, 0⟩ : Rdr).int.2.why)
  else if (⟨bs, 0, 0⟩ : Rdr).int.1 < 1 ∨ 5 < (⟨bs, 0, 0⟩ : Rdr).int.1 then (LetP.zero, 1)
  else if (letR (⟨bs, 0, 0⟩ : Rdr).int.1 (⟨bs, 0, 0⟩ : Rdr).int.2).2.end_ ≠ 0 then (LetP.zero, (letR (⟨bs, 0, 0⟩ : Rdr).int.1 (⟨bs, 0, 0⟩ : Rdr).int.2).2.end_)
  else ((letR (⟨bs, 0, 0⟩ : Rdr).int.1 (⟨bs, 0, 0⟩ : Rdr).int.2).1, 0)
theorem int_start (bs : List UInt8) : ((⟨bs, 0, 0⟩ : Rdr).int.2.why ≠ 0 → (⟨bs, 0, 0⟩ : Rdr).int.2.pos = 0) ∧ ((⟨bs, 0, 0⟩ : Rdr).int.2.why = 0 → 0 < (⟨bs, 0, 0⟩ : Rdr).int.2.pos) := by
  refine ⟨fun h => ?_, fun h => (uint_canon (r := ⟨bs, 0, 0⟩) h).2.2⟩
  have e : (⟨bs, 0, 0⟩ : Rdr).int.2 = (⟨bs, 0, 0⟩ : Rdr).uint.2 := rfl
  rw [e] at h ⊢
  unfold Rdr.uint at h ⊢
  rw [if_neg (by simp)] at h ⊢
  by_cases hs : (scanB ((⟨bs, 0, 0⟩ : Rdr).bs.drop (⟨bs, 0, 0⟩ : Rdr).pos)).2.2 ≠ 0
  · rw [if_pos hs]
  · rw [if_neg hs] at h; exact absurd rfl h
theorem letR_canon {k : Int} {r : Rdr} (hk : 1 ≤ k ∧ k ≤ 5) (h : (letR k r).2.why = 0) : ∃ x, r.Ate x (letR k r).2 ∧ iv k ++ x = letv (letR k r).1 ∧ (letR k r).1.Fits := by
  unfold letR at h ⊢
  by_cases k1 : k = 1
  · subst k1
    simp only [if_true] at h ⊢
    obtain ⟨_, a, l⟩ := bytes_canon h
    exact ⟨_, a, by simp [letv], by simp [LetP.Fits]; exact l⟩
  · by_cases k2 : k = 2
    · subst k2
      simp only [if_neg k1, if_true] at h ⊢
      obtain ⟨h1, a2, l1, l2, l3⟩ := op_canon h
      obtain ⟨_, a1⟩ := int_canon h1
      exact ⟨_, a1.trans a2, by simp [letv], by simp [LetP.Fits]; exact ⟨l1, l2, l3⟩⟩
    · by_cases k3 : k = 3
      · subst k3
        simp only [if_neg k1, if_neg k2, if_true] at h ⊢
        obtain ⟨h1, a2, l1, l2⟩ := reply_canon h
        obtain ⟨_, a1⟩ := int_canon h1
        exact ⟨_, a1.trans a2, by simp [letv], by simp [LetP.Fits]; exact ⟨l1, l2⟩⟩
      · by_cases k4 : k = 4
        · subst k4
          simp only [if_neg k1, if_neg k2, if_neg k3, if_true] at h ⊢
          obtain ⟨h1, a2, l⟩ := bytes_canon h
          obtain ⟨_, a1⟩ := int_canon h1
          exact ⟨_, a1.trans a2, by simp [letv], by simp [LetP.Fits]; exact l⟩
        · have k5 : k = 5 := by omega
          subst k5
          simp only [if_neg k1, if_neg k2, if_neg k3, if_neg k4] at h ⊢
          obtain ⟨h2, a3, l⟩ := bytes_canon h
          obtain ⟨h1, a2⟩ := int_canon h2
          obtain ⟨_, a1⟩ := int_canon h1
          exact ⟨_, a1.trans (a2.trans a3), by simp [letv], by simp [LetP.Fits]; exact l⟩
theorem letR_Ok {k : Int} {r : Rdr} (h : r.Ok) : (letR k r).2.Ok := by
  unfold letR
  split
  · exact h.bytes
  · split
    · exact h.int.op
    · split
      · exact h.int.reply
      · split
        · exact h.int.bytes
        · exact h.int.int.bytes
theorem letR_bs (k : Int) (r : Rdr) : (letR k r).2.bs = r.bs := by
  unfold letR
  split
  · exact r.bytes_bs
  · split
    · exact (Rdr.op_bs _).trans r.int_bs
    · split
      · exact (Rdr.reply_bs _).trans r.int_bs
      · split
        · exact (Rdr.bytes_bs _).trans r.int_bs
        · exact (Rdr.bytes_bs _).trans ((Rdr.int_bs _).trans r.int_bs)
theorem letR_kind (k : Int) (r : Rdr) : (letR k r).1.kind = k := by unfold letR; split; rfl; split; rfl; split; rfl; split <;> rfl
theorem pack_unpack {bs : List UInt8} (h : (unpackB bs).2 = 0) : packB (unpackB bs).1 = (bs, 0) := by
  unfold unpackB at h ⊢
  by_cases h1 : 1048576 < bs.length
  · rw [if_pos h1] at h; cases h
  · rw [if_neg h1] at h ⊢
    by_cases h2 : (⟨bs, 0, 0⟩ : Rdr).int.2.why ≠ 0
    · rw [if_pos h2] at h; exact absurd h h2
    · rw [if_neg h2] at h ⊢
      by_cases h3 : (⟨bs, 0, 0⟩ : Rdr).int.1 < 1 ∨ 5 < (⟨bs, 0, 0⟩ : Rdr).int.1
      · rw [if_pos h3] at h; cases h
      · rw [if_neg h3] at h ⊢
        by_cases h4 : (letR (⟨bs, 0, 0⟩ : Rdr).int.1 (⟨bs, 0, 0⟩ : Rdr).int.2).2.end_ ≠ 0
        · rw [if_pos h4] at h; exact absurd h h4
        · rw [if_neg h4]
          have h0k : (⟨bs, 0, 0⟩ : Rdr).Ok := ⟨Nat.zero_le _, by show bs.length ≤ _; omega⟩
          obtain ⟨hw, hd⟩ := end_canon (letR_Ok h0k.int) (Classical.not_not.1 h4)
          obtain ⟨x, ha, hx, hf⟩ := letR_canon (k := (⟨bs, 0, 0⟩ : Rdr).int.1) (by omega) hw
          obtain ⟨_, a0⟩ := int_canon (r := ⟨bs, 0, 0⟩) (Classical.not_not.1 h2)
          have hall := (a0.trans ha).2
          rw [hd, hx, List.append_nil] at hall
          have hbs : bs = letv (letR (⟨bs, 0, 0⟩ : Rdr).int.1 (⟨bs, 0, 0⟩ : Rdr).int.2).1 := hall
          have hkd := letR_kind (⟨bs, 0, 0⟩ : Rdr).int.1 (⟨bs, 0, 0⟩ : Rdr).int.2
          unfold packB
          simp only
          rw [hkd, if_neg (by omega), if_neg (not_not_intro hf), ← hbs, if_neg h1]
theorem unpack_pack {x : LetP} (hx : x.Ok) (h : (packB x).2 = 0) : unpackB (packB x).1 = (x.just, 0) := by
  obtain ⟨k1, k5, hf, e, hl⟩ := packB_ok h
  rw [e]
  have hil := iv_length_10 hx.n
  obtain ⟨y, hy⟩ : ∃ y, letv x = iv x.kind ++ y := ⟨_, rfl⟩
  have hi : (⟨letv x, 0, 0⟩ : Rdr).int = (x.kind, ⟨letv x, (iv x.kind).length, 0⟩) := by
    have := int_at (b := letv x) (rest := y) (k := 0) (by rw [List.drop_zero]; exact hy) hx.kind
    rwa [Nat.zero_add] at this
  have hd : (letv x).drop (iv x.kind).length = y := by rw [hy, List.drop_left]
  have hlen : (letv x).length = (iv x.kind).length + y.length := by rw [hy, List.length_append]
  unfold unpackB
  rw [if_neg (by omega), hi]
  simp only
  rw [if_neg (by simp), if_neg (by omega)]
  have hR : letR x.kind ⟨letv x, (iv x.kind).length, 0⟩ = (x.just, ⟨letv x, (letv x).length, 0⟩) := by
    unfold letv at hy
    have hy := List.append_cancel_left hy
    unfold letR LetP.just
    by_cases q1 : x.kind = 1
    · rw [if_neg (by omega), if_neg (by omega), if_neg (by omega), if_neg (by omega)] at hy
      have hb := let_body hf (by omega) (by omega)
      have a := bytes_at (b := letv x) (s := x.body) (rest := []) (k := (iv x.kind).length) (by rw [hd, ← hy, List.append_nil]) hb
      rw [if_pos q1, a, hlen, ← hy]
      simp [q1, opZ, repZ]
    · by_cases q2 : x.kind = 2
      · rw [if_pos q2] at hy
        obtain ⟨l1, l2, l3⟩ := hf.1 q2
        have a1 := int_at (b := letv x) (rest := opv x.op) (k := (iv x.kind).length) (by rw [hd, ← hy]) hx.n
        have d1 := drop_next (b := letv x) (x := iv x.n) (rest := opv x.op) (k := (iv x.kind).length) (by rw [hd, ← hy])
        have a2 := op_at (rest := []) (by rw [d1, List.append_nil]) hx.op l1 l2 l3
        rw [if_neg q1, if_pos q2, a1]
        simp only
        rw [a2, hlen, ← hy]
        simp [q2, repZ]
        omega
      · by_cases q3 : x.kind = 3
        · rw [if_neg q2, if_pos q3] at hy
          obtain ⟨l1, l2⟩ := hf.2.1 q3
          have a1 := int_at (b := letv x) (rest := rpv x.rep) (k := (iv x.kind).length) (by rw [hd, ← hy]) hx.n
          have d1 := drop_next (b := letv x) (x := iv x.n) (rest := rpv x.rep) (k := (iv x.kind).length) (by rw [hd, ← hy])
          have a2 := reply_at (rest := []) (by rw [d1, List.append_nil]) hx.rep l1 l2
          rw [if_neg q1, if_neg q2, if_pos q3, a1]
          simp only
          rw [a2, hlen, ← hy]
          simp [q3, opZ]
          omega
        · have hb := let_body hf q2 q3
          by_cases q4 : x.kind = 4
          · rw [if_neg q2, if_neg q3, if_neg (by omega), if_pos q4] at hy
            have a1 := int_at (b := letv x) (rest := tv x.body) (k := (iv x.kind).length) (by rw [hd, ← hy]) hx.n
            have d1 := drop_next (b := letv x) (x := iv x.n) (rest := tv x.body) (k := (iv x.kind).length) (by rw [hd, ← hy])
            have a2 := bytes_at (s := x.body) (rest := []) (by rw [d1, List.append_nil]) hb
            rw [if_neg q1, if_neg q2, if_neg q3, if_pos q4, a1]
            simp only
            rw [a2, hlen, ← hy]
            simp [q4, opZ, repZ]
            omega
          · have q5 : x.kind = 5 := by omega
            rw [if_neg q2, if_neg q3, if_pos q5] at hy
            have a1 := int_at (b := letv x) (rest := iv x.group ++ tv x.body) (k := (iv x.kind).length) (by rw [hd, ← hy]) hx.n
            have d1 := drop_next (b := letv x) (x := iv x.n) (rest := iv x.group ++ tv x.body) (k := (iv x.kind).length) (by rw [hd, ← hy])
            have a2 := int_at d1 hx.group
            have d2 := drop_next d1
            have a3 := bytes_at (s := x.body) (rest := []) (by rw [d2, List.append_nil]) hb
            rw [if_neg q1, if_neg q2, if_neg q3, if_neg q4, a1]
            simp only
            rw [a2]
            simp only
            rw [a3, hlen, ← hy]
            simp [q5, opZ, repZ]
            omega
  rw [hR]
  simp only
  rw [if_neg (by rw [end_at rfl]; simp)]
theorem rows_range : ∀ (n : Nat) (r : Rdr), ∀ x ∈ (Rdr.rows n r).1, -9223372036854775808 ≤ x.amount ∧ x.amount ≤ 9223372036854775807
  | 0, r, x, hx => by cases hx
  | n + 1, r, x, hx => by
    rcases List.mem_cons.1 hx with rfl | hx
    · exact Rdr.int_range _
    · exact rows_range n _ x hx
theorem Rdr.reply_Ok (r : Rdr) : r.reply.1.Ok := ⟨Rdr.int_range _, Rdr.int_range _, rows_range _ _⟩
theorem unpack_Ok {bs : List UInt8} : (unpackB bs).1.Ok := by
  have z : LetP.zero.Ok := ⟨by decide, by decide, by decide, ⟨by decide, by decide, by decide, by decide⟩, ⟨by decide, by decide, fun r hr => by cases hr⟩⟩
  unfold unpackB
  split
  · exact z
  · split
    · exact z
    · split
      · exact z
      · split
        · exact z
        · have hz0 : -9223372036854775808 ≤ (0 : Int) ∧ (0 : Int) ≤ 9223372036854775807 := by decide
          have ho : opZ.Ok := ⟨by decide, by decide, by decide, by decide⟩
          have hp : repZ.Ok := ⟨by decide, by decide, fun r hr => by cases hr⟩
          unfold letR
          split
          · exact ⟨Rdr.int_range _, hz0, hz0, ho, hp⟩
          · split
            · exact ⟨Rdr.int_range _, Rdr.int_range _, hz0, ⟨Rdr.int_range _, Rdr.int_range _, Rdr.int_range _, Rdr.int_range _⟩, hp⟩
            · split
              · exact ⟨Rdr.int_range _, Rdr.int_range _, hz0, ho, Rdr.reply_Ok _⟩
              · split
                · exact ⟨Rdr.int_range _, Rdr.int_range _, hz0, ho, hp⟩
                · exact ⟨Rdr.int_range _, Rdr.int_range _, Rdr.int_range _, ho, hp⟩
end Go.Q
