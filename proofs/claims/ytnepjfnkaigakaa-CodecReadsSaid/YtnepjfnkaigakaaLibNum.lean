/- Numbers as bytes: how many, which, and what is cut of them. -/
import Derived.Test.YtnepjfnkaigakaaLibBack
set_option linter.unusedVariables false
namespace Go.Q

theorem uv_len_lt {n : Nat} (h : n < 128) : (uv n).length = 1 := by rw [uv_lt h]; rfl
theorem uv_len_ge {n : Nat} (h : 128 ≤ n) : (uv n).length = 1 + (uv (n / 128)).length := by rw [uv_ge h, List.length_cons]; omega
theorem uv_mono : ∀ (b a : Nat), a ≤ b → (uv a).length ≤ (uv b).length := by
  intro b
  induction b using Nat.strongRecOn with
  | _ b ih =>
    intro a h
    rcases Nat.lt_or_ge a 128 with h1 | h1
    · rw [uv_len_lt h1]; exact uv_pos b
    · rw [uv_len_ge h1, uv_len_ge (n := b) (by omega)]
      have := ih (b / 128) (by omega) (a / 128) (by omega)
      omega
theorem scanA_short : ∀ (m i k n : Nat), i < (uv m).length → (k = 0 ∨ 0 < m) → m * p7 k < 18446744073709551616 → k ≤ 9 → (scanA ((uv m).take i) k n).2 = (0, 10) := by
  intro m
  induction m using Nat.strongRecOn with
  | _ m ih =>
    intro i k n hi h0 hm hk
    cases i with
    | zero => rfl
    | succ i =>
      rcases Nat.lt_or_ge m 128 with h | h
      · rw [uv_len_lt h] at hi; omega
      · have h9 : k = 9 → m ≤ 1 := by
          intro hq
          subst hq
          rw [p7_9] at hm
          omega
        rw [uv_len_ge h] at hi
        rw [uv_ge h, List.take_succ_cons]
        have hb : (byte (m % 128 + 128)).toNat = m % 128 + 128 := byte_toNat _ (by omega)
        have e : m * p7 k = m % 128 * p7 k + m / 128 * (128 * p7 k) := by
          conv => lhs; rw [show m = m % 128 + m / 128 * 128 from by omega, Nat.add_mul, Nat.mul_assoc]
        rw [scanA_more (by rw [hb]; omega) (by rw [hb]; omega)]
        exact ih (m / 128) (by omega) i (k + 1) _ (by omega) (.inr (by omega)) (by rw [p7_succ]; omega) (by omega)
theorem uint_short {m i : Nat} (hm : m < 18446744073709551616) (hi : i < (uv m).length) : (⟨(uv m).take i, 0, 0⟩ : Rdr).uint = (0, ⟨(uv m).take i, 0, 10⟩) := by
  have e1 : p7 0 = 1 := rfl
  have h := scanA_short m i 0 0 hi (.inl rfl) (by rw [e1]; omega) (by omega)
  refine uint_bad (n := (scanB ((uv m).take i)).1) (s := 0) rfl ?_ (by decide)
  exact Prod.ext rfl h
theorem uv_inj {a b : Nat} (ha : a < 18446744073709551616) (hb : b < 18446744073709551616) (h : uv a = uv b) : a = b := by
  have h1 := scanB_uv [] ha
  have h2 := scanB_uv [] hb
  rw [h] at h1
  rw [h1] at h2
  injection h2
theorem uv_beq {a b : Nat} (ha : a < 18446744073709551616) (hb : b < 18446744073709551616) (h : a ≠ b) : (uv a == uv b) = false := by
  simp only [beq_eq_false_iff_ne, ne_eq]
  exact fun hq => h (uv_inj ha hb hq)
theorem RdB.take {w : World} {A : Option Addr} {c k : Nat} {bs : List UInt8} (h : RdB w (.slice A bs.length c) bs) (hk : k ≤ bs.length) : RdB w (.slice A k c) (bs.take k) := by
  obtain ⟨A', n', c', he, hl, hc, hm, hx⟩ := h
  injection he with e1 e2 e3
  subst e1; subst e2; subst e3
  refine ⟨A, k, c, rfl, by simp [bv_length]; omega, by omega, hm, fun h0 => ?_⟩
  obtain ⟨b, off, hA, hcell⟩ := hx (by omega)
  refine ⟨b, off, hA, fun j u hu => hcell j u ?_⟩
  have e : bv (bs.take k) = (bv bs).take k := by simp [bv, List.map_take]
  rw [e, List.getElem?_take] at hu
  split at hu
  · exact hu
  · cases hu
theorem wf_u64 {n : Int} (h : (Lit.int .u64 n).wf = true) : 0 ≤ n ∧ n < 18446744073709551616 := by
  simp only [Lit.wf, Bool.and_eq_true, decide_eq_true_eq] at h
  have e1 : IntKind.u64.min = 0 := by decide
  have e2 : IntKind.u64.max = 18446744073709551615 := by decide
  rw [e1, e2] at h
  omega
end Go.Q
