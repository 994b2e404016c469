/- Numbers that are written and read again; bytes that come in. -/
import Derived.Test.YtnepjfnkaigakaaLibRead2
import Derived.Test.YtnepjfnkaigakaaQ7
set_option linter.unusedVariables false
namespace Go.Q
open Go.ChangeShapes Go.WideShapes Go.ChangeAt Go.RowKit Go.Deep

theorem scanA_uv : ∀ (m i n : Nat) (rest : List UInt8), m * p7 i < 18446744073709551616 → i ≤ 9 → (i = 0 ∨ 0 < m) → scanA (uv m ++ rest) i n = (n + m * p7 i, i + (uv m).length, 0) := by
  intro m
  induction m using Nat.strongRecOn with
  | _ m ih =>
    intro i n rest hm hi h0
    have h9 : i = 9 → m ≤ 1 := by
      intro h
      subst h
      rw [p7_9] at hm
      omega
    rcases Nat.lt_or_ge m 128 with h | h
    · rw [uv_lt h]
      have hb : (byte m).toNat = m := byte_toNat m (by omega)
      have hc : ¬ ((i = 9 ∧ 1 < (byte m).toNat) ∨ (0 < i ∧ (byte m).toNat = 0)) := by rw [hb]; omega
      show scanA (byte m :: rest) i n = _
      rw [scanA_end hc (by rw [hb]; exact h), hb, Nat.mod_eq_of_lt h]
      rfl
    · rw [uv_ge h]
      have hb : (byte (m % 128 + 128)).toNat = m % 128 + 128 := byte_toNat _ (by omega)
      have hc : ¬ ((i = 9 ∧ 1 < (byte (m % 128 + 128)).toNat) ∨ (0 < i ∧ (byte (m % 128 + 128)).toNat = 0)) := by rw [hb]; omega
      have e : m * p7 i = m % 128 * p7 i + m / 128 * (128 * p7 i) := by
        conv => lhs; rw [show m = m % 128 + m / 128 * 128 from by omega, Nat.add_mul, Nat.mul_assoc]
      show scanA (byte (m % 128 + 128) :: (uv (m / 128) ++ rest)) i n = _
      rw [scanA_more hc (by rw [hb]; omega), hb, Nat.add_mod_right, Nat.mod_mod, ih (m / 128) (by omega) (i + 1) _ rest (by rw [p7_succ]; omega) (by omega) (.inr (by omega)), p7_succ, e, List.length_cons]
      refine Prod.ext (by simp only; omega) (Prod.ext (by simp only; omega) rfl)
theorem scanB_uv {m : Nat} (rest : List UInt8) (hm : m < 18446744073709551616) : scanB (uv m ++ rest) = (m, (uv m).length, 0) := by
  have e1 : p7 0 = 1 := rfl
  have := scanA_uv m 0 0 rest (by rw [e1]; omega) (by omega) (.inl rfl)
  rw [e1] at this
  simpa [scanB] using this
theorem int_iv {pre rest : List UInt8} {a : Int} (h : -9223372036854775808 ≤ a ∧ a ≤ 9223372036854775807) : (⟨pre ++ (iv a ++ rest), pre.length, 0⟩ : Rdr).int = (a, ⟨pre ++ (iv a ++ rest), (pre ++ iv a).length, 0⟩) := by
  have hs : scanB ((pre ++ (iv a ++ rest)).drop pre.length) = (zz a, (iv a).length, 0) := by
    rw [List.drop_left]; exact scanB_uv rest (zz_lt h)
  have hu := uint_good (r := ⟨pre ++ (iv a ++ rest), pre.length, 0⟩) rfl hs
  unfold Rdr.int
  rw [hu]
  simp only [unzz_zz, List.length_append]

/-- Bytes that come in. -/
theorem open_bytes {H : Type} {enc : TypeId × Value → H} {P : Program} {w : World} {base : Nat} {spare : Nat → Bool} {held : Bool} {t e : TypeId} {v : Value} {d : DataW H} {ps : List MemPlace} (ht : P.underlying t = some (.slice e)) (he : P.underlying e = some (.int .u8)) (hC : P.cellsOf e = 1)
    (hv : Value.okWide P w .any 0 t v) (h : DataW.Trod enc P w base spare held t v d ps) : ∃ bs : List UInt8, RdB w v bs := by
  obtain ⟨A, n, c, l, rfl, hnc, hcm, hl, _, hel⟩ := open_elems (f := fun x : UInt8 => Value.int .u8 ((x.toNat : Nat) : Int)) (Good := fun _ => True) (sz := 1) ht hC (by decide) hv h (by
    intro m cs y hlen htr
    match cs, hlen with
    | [z], _ =>
      obtain ⟨k, hk, _, hw⟩ := DataW.trod_int he htr
      simp only [List.cons.injEq, and_true] at hk
      subst hk
      simp only [Lit.wf, Bool.and_eq_true, decide_eq_true_eq] at hw
      have e1 : IntKind.u8.min = 0 := by decide
      have e2 : IntKind.u8.max = 255 := by decide
      rw [e1, e2] at hw
      refine ⟨UInt8.ofNat k.toNat, trivial, ?_⟩
      have : ((UInt8.ofNat k.toNat).toNat : Int) = k := by simp; omega
      show [Value.int .u8 (((UInt8.ofNat k.toNat).toNat : Nat) : Int)] = [Value.int .u8 k]
      rw [this])
  refine ⟨l, A, n, c, rfl, by simp [bv_length, hl], hnc, hcm, fun h0 => ?_⟩
  obtain ⟨b, off, hA, hc⟩ := hel.2 h0
  refine ⟨b, off, hA, fun j u hu => ?_⟩
  have := hc j u (by simpa [bv] using hu) 0 u (by
    have hu2 := hu
    simp only [bv, List.getElem?_map, Option.map_eq_some_iff] at hu2
    obtain ⟨z, _, rfl⟩ := hu2
    rfl)
  simpa using this
end Go.Q
