/- Numbers that are read out of bytes; scopes without a jump. -/
import Derived.Test.YtnepjfnkaigakaaLibPeel
import Derived.Scope
set_option linter.unusedVariables false
namespace Go.Q
open Go.RowKit

/-! ### scopes and labels -/

def isScope : Code → Bool | .scope _ => true | _ => false
def isLabel : Code → Bool | .label _ => true | _ => false
def nogo (Q : Exit → Loc → World → Prop) : Exit → Loc → World → Prop
  | .goto _, _, _ => False
  | e, L, w => Q e L w
section
variable {P : Program} {n : Nat} {Q : Exit → Loc → World → Prop} {L : Loc} {w : World} {f : Func} {p : List Nat}
theorem q_scope (hc : isScope (cd f p) = true) (h : wp P n (cd f (0 :: p)) (nogo Q) L w) : wp P n (cd f p) Q L w := by
  intro a ha
  have h1 := h a ha
  simp only [cd] at h1
  cases e : cd f p with
  | scope x =>
    rw [e] at h1
    simp only [sub] at h1
    refine Go.wp_scope_straight (Go.wp_mono h1 fun ex a' w' hq => ?_)
    obtain ⟨L', r, q⟩ := hq
    cases ex with
    | goto l => exact q.elim
    | _ => exact ⟨L', r, q⟩
  | _ => rw [e] at hc; cases hc
theorem q_label (hc : isLabel (cd f p) = true) (h : Q .normal L w) : wp P n (cd f p) Q L w := by
  intro a ha
  cases e : cd f p with
  | label l => exact Go.wp_label ⟨L, ha, h⟩
  | _ => rw [e] at hc; cases hc
end

/-! ### sevens of bits -/

def p7 (i : Nat) : Nat := 128 ^ i
theorem p7_eq (i : Nat) : p7 i = 2 ^ (7 * i) := by unfold p7; rw [show (128 : Nat) = 2 ^ 7 from rfl, ← Nat.pow_mul]
theorem p7_succ (i : Nat) : p7 (i + 1) = 128 * p7 i := by unfold p7; rw [Nat.pow_succ, Nat.mul_comm]
theorem p7_pos (i : Nat) : 0 < p7 i := Nat.pow_pos (by decide)
theorem p7_9 : p7 9 = 9223372036854775808 := by decide
theorem p7_le {i : Nat} (h : i ≤ 9) : p7 i ≤ 9223372036854775808 := by rw [← p7_9]; exact Nat.pow_le_pow_right (by decide) h
theorem p7_le8 {i : Nat} (h : i ≤ 8) : p7 i ≤ 72057594037927936 := by
  have : p7 8 = 72057594037927936 := by decide
  rw [← this]; exact Nat.pow_le_pow_right (by decide) h

theorem run_and127 {P : Program} {w : World} {t : TypeId} {n : Nat} (h : n < 256) : (binOp .and t (.int .u8 ((n : Nat) : Int)) (.int .u8 127)).run P w = .ok (.int .u8 ((n % 128 : Nat) : Int)) w := by
  have e1 : (BitVec.ofInt 8 ((n : Nat) : Int)).toNat = n := by simp; omega
  have e2 : (BitVec.ofInt 8 (127 : Int)).toNat = 127 := by decide
  have e3 : n &&& 127 = n % 128 := by
    have := Nat.and_two_pow_sub_one_eq_mod n 7
    simpa using this
  have key : ((BitVec.ofInt IntKind.u8.bits ((n : Nat) : Int)) &&& (BitVec.ofInt IntKind.u8.bits (127 : Int))).toNat = n % 128 := by
    show ((BitVec.ofInt 8 ((n : Nat) : Int)) &&& (BitVec.ofInt 8 (127 : Int))).toNat = _
    rw [BitVec.toNat_and, e1, e2, e3]
  simp only [binOp, ne_eq, not_true, if_false, Op.intBits]
  rw [key, wrap_u8 (by omega) (by omega)]
  rfl
theorem run_shl7 {P : Program} {w : World} {t : TypeId} {k : IntKind} {x i : Nat} {s : Int} (hs : s = 7 * (i : Int)) (hi : i ≤ 9) (h : x * p7 i < 18446744073709551616) : (binOp .shl t (.int .u64 ((x : Nat) : Int)) (.int k s)).run P w = .ok (.int .u64 ((x * p7 i : Nat) : Int)) w := by
  have h1 : ¬ s < 0 := by omega
  have h2 : min s.toNat IntKind.u64.bits = 7 * i := by
    have : IntKind.u64.bits = 64 := rfl
    rw [this]; omega
  simp only [binOp, Op.shift, h1, if_false, h2]
  have e : ((x : Nat) : Int) * 2 ^ (7 * i) = ((x * p7 i : Nat) : Int) := by rw [p7_eq]; simp
  rw [e, wrap_u64 (by omega) (by omega)]
  rfl
theorem run_or7 {P : Program} {w : World} {t : TypeId} {n x i : Nat} (hn : n < p7 i) (h : n + x * p7 i < 18446744073709551616) : (binOp .or t (.int .u64 ((n : Nat) : Int)) (.int .u64 ((x * p7 i : Nat) : Int))).run P w = .ok (.int .u64 ((n + x * p7 i : Nat) : Int)) w := by
  have e1 : (BitVec.ofInt 64 ((n : Nat) : Int)).toNat = n := by simp; omega
  have e2 : (BitVec.ofInt 64 ((x * p7 i : Nat) : Int)).toNat = x * p7 i := by
    simp only [BitVec.toNat_ofInt]; omega
  have e3 : n ||| x * p7 i = n + x * p7 i := by
    have h1 := Nat.two_pow_add_eq_or_of_lt (i := 7 * i) (b := n) (by rw [← p7_eq]; exact hn) x
    rw [← p7_eq] at h1
    rw [Nat.or_comm, Nat.mul_comm, ← h1, Nat.add_comm]
  have key : ((BitVec.ofInt IntKind.u64.bits ((n : Nat) : Int)) ||| (BitVec.ofInt IntKind.u64.bits ((x * p7 i : Nat) : Int))).toNat = n + x * p7 i := by
    show ((BitVec.ofInt 64 ((n : Nat) : Int)) ||| (BitVec.ofInt 64 ((x * p7 i : Nat) : Int))).toNat = _
    rw [BitVec.toNat_or, e1, e2, e3]
  simp only [binOp, ne_eq, not_true, if_false, Op.intBits]
  rw [key, wrap_u64 (by omega) (by omega)]
  rfl

/-! ### the model -/

/-- What a number's bytes tell: the number, how many bytes, the error. -/
def scanA : List UInt8 → Nat → Nat → Nat × Nat × Int
  | [], _, n => (n, 0, 10)
  | c :: cs, i, n => if (i = 9 ∧ 1 < c.toNat) ∨ (0 < i ∧ c.toNat = 0) then (n, 0, 11) else if c.toNat < 128 then (n + c.toNat % 128 * p7 i, i + 1, 0) else scanA cs (i + 1) (n + c.toNat % 128 * p7 i)
theorem scanA_nil (i n : Nat) : scanA [] i n = (n, 0, 10) := rfl
theorem scanA_bad {c : UInt8} {cs : List UInt8} {i n : Nat} (h : (i = 9 ∧ 1 < c.toNat) ∨ (0 < i ∧ c.toNat = 0)) : scanA (c :: cs) i n = (n, 0, 11) := by unfold scanA; rw [if_pos h]
theorem scanA_end {c : UInt8} {cs : List UInt8} {i n : Nat} (h : ¬ ((i = 9 ∧ 1 < c.toNat) ∨ (0 < i ∧ c.toNat = 0))) (h2 : c.toNat < 128) : scanA (c :: cs) i n = (n + c.toNat % 128 * p7 i, i + 1, 0) := by unfold scanA; rw [if_neg h, if_pos h2]
theorem scanA_more {c : UInt8} {cs : List UInt8} {i n : Nat} (h : ¬ ((i = 9 ∧ 1 < c.toNat) ∨ (0 < i ∧ c.toNat = 0))) (h2 : ¬ c.toNat < 128) : scanA (c :: cs) i n = scanA cs (i + 1) (n + c.toNat % 128 * p7 i) := by rw [scanA, if_neg h, if_neg h2]
def scanB (bs : List UInt8) : Nat × Nat × Int := scanA bs 0 0
theorem scanA_bound : ∀ (bs : List UInt8) (i n : Nat), i ≤ 9 → n < p7 i → (scanA bs i n).1 < 18446744073709551616 ∧ (scanA bs i n).2.1 ≤ i + bs.length
  | [], i, n, hi, hn => by
    rw [scanA_nil]
    have := p7_le hi
    simp only [List.length_nil]; omega
  | c :: cs, i, n, hi, hn => by
    have hp := p7_le hi
    by_cases h : (i = 9 ∧ 1 < c.toNat) ∨ (0 < i ∧ c.toNat = 0)
    · rw [scanA_bad h]; simp only [List.length_cons]; omega
    · have hb : n + c.toNat % 128 * p7 i < 18446744073709551616 := by
        by_cases h9 : i = 9
        · have hc : c.toNat % 128 ≤ 1 := by omega
          have := Nat.mul_le_mul_right (p7 i) hc
          omega
        · have h8 := p7_le8 (i := i) (by omega)
          have hc : c.toNat % 128 ≤ 127 := by omega
          have := Nat.mul_le_mul_right (p7 i) hc
          omega
      by_cases h2 : c.toNat < 128
      · rw [scanA_end h h2]; simp only [List.length_cons]; omega
      · have hc : c.toNat % 128 ≤ 127 := by omega
        have hm := Nat.mul_le_mul_right (p7 i) hc
        have := scanA_bound cs (i + 1) (n + c.toNat % 128 * p7 i) (by omega) (by rw [p7_succ]; omega)
        rw [scanA_more h h2]
        simp only [List.length_cons]; omega
theorem scan_round {n i : Nat} {c : UInt8} (hi : i ≤ 9) (hn : n < p7 i) (h : ¬ ((i = 9 ∧ 1 < c.toNat) ∨ (0 < i ∧ c.toNat = 0))) : c.toNat % 128 * p7 i < 18446744073709551616 ∧ n + c.toNat % 128 * p7 i < 18446744073709551616 ∧ (¬ c.toNat < 128 → n + c.toNat % 128 * p7 i < p7 (i + 1)) := by
  have hp := p7_le hi
  have hc : c.toNat % 128 ≤ 127 := by omega
  have hm := Nat.mul_le_mul_right (p7 i) hc
  rw [p7_succ]
  by_cases h9 : i = 9
  · have hc : c.toNat % 128 ≤ 1 := by omega
    have := Nat.mul_le_mul_right (p7 i) hc
    omega
  · have h8 := p7_le8 (i := i) (by omega)
    omega

/-- A reader. -/
structure Rdr where
  bs : List UInt8
  pos : Nat
  why : Int
def Rdr.uint (r : Rdr) : Nat × Rdr :=
  if r.why ≠ 0 then (0, r)
  else if (scanB (r.bs.drop r.pos)).2.2 ≠ 0 then (0, { r with why := (scanB (r.bs.drop r.pos)).2.2 })
  else ((scanB (r.bs.drop r.pos)).1, { r with pos := r.pos + (scanB (r.bs.drop r.pos)).2.1 })
def rdrL (A : Option Addr) (c : Nat) (r : Rdr) : List Value := [.slice A r.bs.length c, i64 r.pos, i64 r.why]
structure Rdr.Ok (r : Rdr) : Prop where
  pos : r.pos ≤ r.bs.length
  len : r.bs.length ≤ 140737488351232
theorem Rdr.Ok.uint {r : Rdr} (h : r.Ok) : r.uint.2.Ok := by
  have hp := h.pos
  have hb := scanA_bound (r.bs.drop r.pos) 0 0 (by omega) (p7_pos 0)
  unfold Rdr.uint
  split
  · exact h
  · split
    · exact ⟨h.pos, h.len⟩
    · refine ⟨?_, h.len⟩
      have h2 := hb.2
      rw [List.length_drop] at h2
      simp only [scanB]
      omega
theorem Rdr.uint_bs (r : Rdr) : r.uint.2.bs = r.bs := by unfold Rdr.uint; (repeat' split) <;> rfl
theorem Rdr.uint_lt (r : Rdr) : r.uint.1 < 18446744073709551616 := by
  have hb := scanA_bound (r.bs.drop r.pos) 0 0 (by omega) (p7_pos 0)
  unfold Rdr.uint
  split
  · simp
  · split
    · simp
    · exact hb.1
/-- A signed number out of a folded one. -/
def unzz (n : Nat) : Int := if n % 2 = 1 then -((n / 2 : Nat) : Int) - 1 else ((n / 2 : Nat) : Int)
def Rdr.int (r : Rdr) : Int × Rdr := (unzz r.uint.1, r.uint.2)
def Rdr.end_ (r : Rdr) : Int := if r.why = 0 ∧ r.pos < r.bs.length then 11 else r.why

theorem RdB.at {P : Program} {t : TypeId} {w : World} {A : Option Addr} {n c k : Nat} {bs : List UInt8} (h : RdB w (.slice A n c) bs) (ht : isAgg? P t = some false) (hk : k < bs.length) :
    ∃ (x : UInt8) (b off : Nat), bs.drop k = x :: bs.drop (k + 1) ∧ A = some ⟨b, off, none⟩ ∧ ∀ (S : Nat → Prop) (w' : World), Keeps S w w' → ¬ S b → Loads P w' t ⟨b, off + k, none⟩ (.int .u8 ((x.toNat : Nat) : Int)) := by
  obtain ⟨A', n', c', he, hl, hc, hm, hx⟩ := h
  injection he with e1 e2 e3
  subst e1; subst e2; subst e3
  have hn : bs.length = n := by simpa [bv_length] using hl
  obtain ⟨b, off, rfl, hcell⟩ := hx (by omega)
  refine ⟨bs[k], b, off, List.drop_eq_getElem_cons hk, rfl, fun S w' K hS => loads_one ht (K.cell (hcell k _ ?_) hS)⟩
  simp [bv, hk]

/-- A slice of bytes that is read, whose block is there. -/
def RdO (w : World) (A : Option Addr) (c : Nat) (bs : List UInt8) : Prop := RdB w (.slice A bs.length c) bs ∧ ∀ b off sp, A = some ⟨b, off, sp⟩ → b < w.heap.size
theorem RdO.keep {S : Nat → Prop} {w w' : World} {A : Option Addr} {c : Nat} {bs : List UInt8} (h : RdO w A c bs) (k : Keeps S w w') (hS : ∀ b off sp, A = some ⟨b, off, sp⟩ → ¬ S b) : RdO w' A c bs := by
  refine ⟨Rd.keep (by omega) h.1 k fun b hb => ?_, fun b off sp hA => Nat.lt_of_lt_of_le (h.2 b off sp hA) k.size⟩
  cases A with
  | none => cases hb
  | some a =>
    simp only [Value.ownBlock, Option.some.injEq] at hb
    subst hb
    exact hS a.block a.off a.spot rfl
theorem RdO.keep0 {w w' : World} {A : Option Addr} {c : Nat} {bs : List UInt8} (h : RdO w A c bs) (k : Keeps none_ w w') : RdO w' A c bs := h.keep k fun _ _ _ _ h => h
theorem OwnB.rdo {w : World} {base e : Nat} {v : Value} {bs : List UInt8} (h : OwnB w base e v bs) : ∃ A c, v = .slice A bs.length c ∧ RdO w A c bs ∧ ∀ b off sp, A = some ⟨b, off, sp⟩ → base ≤ b := by
  obtain ⟨A, c, rfl⟩ := h.rd.form
  exact ⟨A, c, rfl, ⟨h.rd, fun b off sp hA => (World.ownsRow.lt h b (by rw [hA]; rfl)).2⟩, fun b off sp hA => (World.ownsRow.lt h b (by rw [hA]; rfl)).1⟩
theorem own_empty {w : World} {base e b : Nat} (H : Has w b (rowL [] e)) (hb : base ≤ b) : OwnB w base e (.slice (some ⟨b, 0, none⟩) 0 0) [] :=
  ⟨by simp [bv], .inr ⟨b, 0, #[], rfl, hb, H, Nat.le_refl _, Nat.zero_le _, by simp, by simp [bv]⟩⟩
theorem RdB.none_nil {w : World} {n c : Nat} {xs : List UInt8} (h : RdB w (.slice none n c) xs) : xs = [] := by
  obtain ⟨A, n', c', he, hl, _, _, hx⟩ := h
  injection he with e1 e2 e3
  subst e1; subst e2
  rcases Nat.eq_zero_or_pos n with h0 | h0
  · subst h0
    exact List.eq_nil_of_length_eq_zero (by simpa [bv_length] using hl)
  · obtain ⟨b, off, hn, _⟩ := hx h0
    cases hn
end Go.Q
