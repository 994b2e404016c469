/- Bytes; numbers as bytes (base 128, low part first; signed ones folded). -/
import Derived.Test.YtnepjfnkaigakaaLibApp
set_option linter.unusedVariables false
namespace Go.Q
open Go.RowKit

/-- Bytes as cells. -/
def bv (xs : List UInt8) : List Value := xs.map fun c => Value.int IntKind.u8 (c.toNat : Int)
theorem bv_length (xs : List UInt8) : (bv xs).length = xs.length := by simp [bv]
theorem bv_append (xs ys : List UInt8) : bv (xs ++ ys) = bv xs ++ bv ys := by simp [bv]
theorem bv_one (xs : List UInt8) : oneCells (bv xs) = true := by
  induction xs with
  | nil => rfl
  | cons x xs ih => simpa [bv, oneCells, Value.oneCell'] using ih
theorem bv_inj {xs ys : List UInt8} (h : bv xs = bv ys) : xs = ys := by
  induction xs generalizing ys with
  | nil => cases ys with
    | nil => rfl
    | cons y ys => simp [bv] at h
  | cons x xs ih =>
    cases ys with
    | nil => simp [bv] at h
    | cons y ys =>
      simp only [bv, List.map_cons, List.cons.injEq, Value.int.injEq, true_and] at h
      have h1 : x = y := UInt8.toNat_inj.1 (by have := h.1; omega)
      rw [h1, ih h.2]

/-- A byte of a number. -/
abbrev byte (n : Nat) : UInt8 := UInt8.ofNat n
theorem byte_toNat (n : Nat) (h : n < 256) : (byte n).toNat = n := by simp [byte]; omega

/-- A number's bytes. -/
def uv (n : Nat) : List UInt8 := if n < 128 then [byte n] else byte (n % 128 + 128) :: uv (n / 128)
termination_by n
decreasing_by omega

theorem uv_lt {n : Nat} (h : n < 128) : uv n = [byte n] := by rw [uv, if_pos h]
theorem uv_ge {n : Nat} (h : 128 ≤ n) : uv n = byte (n % 128 + 128) :: uv (n / 128) := by rw [uv, if_neg (by omega)]
theorem uv_pos (n : Nat) : 0 < (uv n).length := by rw [uv]; split <;> simp
theorem uv_length_le : ∀ (k n : Nat), n < 128 ^ k → 0 < k → (uv n).length ≤ k
  | 0, n, _, h => absurd h (Nat.lt_irrefl 0)
  | k + 1, n, h, _ => by
    rcases Nat.lt_or_ge n 128 with h1 | h1
    · rw [uv_lt h1]; simp
    · rw [uv_ge h1]
      cases k with
      | zero => simp at h; omega
      | succ k =>
        have := uv_length_le (k + 1) (n / 128) (by rw [Nat.pow_succ] at h; omega) (by omega)
        simp only [List.length_cons]; omega
theorem uv_length_10 {n : Nat} (h : n < 18446744073709551616) : (uv n).length ≤ 10 :=
  uv_length_le 10 n (Nat.lt_of_lt_of_le h (by decide)) (by omega)

/-- A signed number folded. -/
def zz (n : Int) : Nat := if n < 0 then (2 * (-(n + 1)) + 1).toNat else (2 * n).toNat
def iv (n : Int) : List UInt8 := uv (zz n)
theorem zz_lt {n : Int} (h : -9223372036854775808 ≤ n ∧ n ≤ 9223372036854775807) : zz n < 18446744073709551616 := by unfold zz; split <;> omega
theorem iv_length_10 {n : Int} (h : -9223372036854775808 ≤ n ∧ n ≤ 9223372036854775807) : (iv n).length ≤ 10 := uv_length_10 (zz_lt h)

/-- The slice v reads as the bytes xs. -/
abbrev RdB (w : World) (v : Value) (xs : List UInt8) : Prop := Rd w 1 v (bv xs)
abbrev OwnB (w : World) (base : Nat) (e : TypeId) (v : Value) (xs : List UInt8) : Prop := w.ownsRow base e 1 v xs.length (bv xs)

theorem OwnB.rd {w : World} {base e : Nat} {v : Value} {xs : List UInt8} (h : OwnB w base e v xs) : RdB w v xs := Rd.of_own h
theorem RdB.lit {w : World} {b : Nat} {xs : List UInt8} {E : TypeId} (h : Has w b (rowL (bv xs) E)) (hm : xs.length ≤ maxLen) : RdB w (.slice (some ⟨b, 0, none⟩) xs.length xs.length) xs :=
  Rd.lit h (by simp [bv_length]) hm
theorem RdB.slice {w : World} {A : Option Addr} {n c : Nat} {xs : List UInt8} (h : RdB w (.slice A n c) xs) : xs.length = n ∧ n ≤ c ∧ c ≤ maxLen := by
  obtain ⟨A', n', c', he, hl, hc, hm, _⟩ := h
  injection he with _ h2 h3
  subst h2; subst h3
  exact ⟨by simpa [bv_length] using hl, hc, hm⟩
theorem RdB.form {w : World} {v : Value} {xs : List UInt8} (h : RdB w v xs) : ∃ A c, v = .slice A xs.length c := by
  obtain ⟨A, n, c, rfl, hl, _⟩ := h
  exact ⟨A, c, by rw [show xs.length = n by simpa [bv_length] using hl]⟩
/-- Its cut to its length: no room behind. -/
theorem RdB.clip {w : World} {A : Option Addr} {n c : Nat} {xs : List UInt8} (h : RdB w (.slice A n c) xs) : RdB w (.slice A n n) xs := by
  obtain ⟨A', n', c', he, hl, hc, hm, hx⟩ := h
  injection he with h1 h2 h3
  subst h1; subst h2; subst h3
  exact ⟨A, n, n, rfl, hl, Nat.le_refl _, Nat.le_trans hc hm, hx⟩

/-- What a writer holds while it writes: a slice without room, or an own row. -/
def Wr (w : World) (base : Nat) (e : TypeId) (v : Value) (xs : List UInt8) : Prop := (∃ A, v = .slice A xs.length xs.length ∧ RdB w v xs) ∨ OwnB w base e v xs

theorem Wr.nil (w : World) (base : Nat) (e : TypeId) : Wr w base e (.slice none 0 0) [] := .inl ⟨none, rfl, Rd.nil w 1⟩
theorem Wr.rd {w : World} {base e : Nat} {v : Value} {xs : List UInt8} (h : Wr w base e v xs) : RdB w v xs := by
  rcases h with ⟨A, rfl, h⟩ | h
  · exact h
  · exact h.rd
theorem Wr.keep0 {w w' : World} {base e : Nat} {v : Value} {xs : List UInt8} (h : Wr w base e v xs) (k : Keeps none_ w w') : Wr w' base e v xs := by
  rcases h with ⟨A, rfl, h⟩ | h
  · exact .inl ⟨A, rfl, h.keep0 (by omega) k⟩
  · exact .inr (own_keep0 h k)

/-- A writer takes more bytes: it holds an own row then. -/
theorem Wr.app {P : Program} {w : World} {t ty e base : Nat} {v x : Value} {xs ys : List UInt8} (T : ElemTy P t e 1 1) (h : Wr w base e v xs) (hx : RdB w x ys) (h0 : 0 < ys.length) (hl : xs.length + ys.length ≤ 140737488355328) (hbase : base ≤ w.heap.size) :
    ∃ v' w', (Builtin.append_ #[t, t] ty #[v, x]).run P w = .ok v' w' ∧ OwnB w' base e v' (xs ++ ys) ∧ Keeps (fun i => base ≤ i) w w' := by
  have hm : xs.length + ys.length ≤ maxLen := by simp only [maxLen]; omega
  rcases h with ⟨A, rfl, h⟩ | h
  · obtain ⟨v', w', hr, ho, hk⟩ := app_clip (ty := ty) T h hx (m := ys.length) (by simp [bv_length]) h0 (by omega) hm
    refine ⟨v', w', hr, ?_, hk.mono fun _ _ h => h.elim⟩
    unfold OwnB
    rw [List.length_append, bv_append]
    exact own_base ho hbase
  · obtain ⟨v', w', hr, ho, hk⟩ := app_own (ty := ty) T h hx (m := ys.length) (by simp [bv_length]) (bv_one ys) (by omega) hm hbase
    refine ⟨v', w', hr, ?_, hk⟩
    unfold OwnB
    rw [List.length_append, bv_append]
    exact ho

theorem OwnB.app {P : Program} {w : World} {t ty e base : Nat} {v x : Value} {xs ys : List UInt8} (T : ElemTy P t e 1 1) (h : OwnB w base e v xs) (hx : RdB w x ys) (hl : xs.length + ys.length ≤ 140737488355328) (hbase : base ≤ w.heap.size) :
    ∃ v' w', (Builtin.append_ #[t, t] ty #[v, x]).run P w = .ok v' w' ∧ OwnB w' base e v' (xs ++ ys) ∧ Keeps (fun i => base ≤ i) w w' := by
  have hm : xs.length + ys.length ≤ maxLen := by simp only [maxLen]; omega
  obtain ⟨v', w', hr, ho, hk⟩ := app_own (ty := ty) T h hx (m := ys.length) (by simp [bv_length]) (bv_one ys) (by omega) hm hbase
  refine ⟨v', w', hr, ?_, hk⟩
  unfold OwnB
  rw [List.length_append, bv_append]
  exact ho

/-! ### the numbers' operations as the machine has them -/

theorem u8_wrap (m : Nat) : IntKind.u8.wrap ((m : Nat) : Int) = ((m % 256 : Nat) : Int) := by
  have e : (2 : Int) ^ IntKind.u8.bits = 256 := by decide
  unfold IntKind.wrap
  simp only [e, IntKind.signed, Bool.false_and, Bool.false_eq_true, if_false]
  omega
theorem fdiv_nat (m d : Nat) : ((m : Nat) : Int).fdiv ((d : Nat) : Int) = ((m / d : Nat) : Int) := by
  rw [Int.fdiv_eq_ediv_of_nonneg _ (by omega)]; rfl
theorem or128 (n : Nat) (h : n < 256) : n ||| 128 = n % 128 + 128 := by
  have : ∀ m : Fin 256, m.val ||| 128 = m.val % 128 + 128 := by decide +kernel
  exact this ⟨n, h⟩
theorem run_or128 {P : Program} {w : World} {t : TypeId} {n : Nat} (h : n < 256) : (binOp .or t (.int .u8 ((n : Nat) : Int)) (.int .u8 128)).run P w = .ok (.int .u8 ((n % 128 + 128 : Nat) : Int)) w := by
  have e1 : (BitVec.ofInt 8 ((n : Nat) : Int)).toNat = n := by simp; omega
  have e2 : (BitVec.ofInt 8 (128 : Int)).toNat = 128 := by decide
  have key : ((BitVec.ofInt IntKind.u8.bits ((n : Nat) : Int)) ||| (BitVec.ofInt IntKind.u8.bits (128 : Int))).toNat = n % 128 + 128 := by
    show ((BitVec.ofInt 8 ((n : Nat) : Int)) ||| (BitVec.ofInt 8 (128 : Int))).toNat = _
    rw [BitVec.toNat_or, e1, e2, or128 n h]
  simp only [binOp, ne_eq, not_true, if_false, Op.intBits]
  rw [key, wrap_u8 (by omega) (by omega)]
  rfl
/-- The folding of a signed number. -/
theorem run_zigzag {P : Program} {w : World} {t : TypeId} {n : Int} (h : -9223372036854775808 ≤ n ∧ n ≤ 9223372036854775807) :
    (binOp .xor t (.int .u64 (IntKind.u64.wrap (IntKind.u64.wrap n * 2))) (.int .u64 (IntKind.u64.wrap (n.fdiv 9223372036854775808)))).run P w = .ok (.int .u64 ((zz n : Nat) : Int)) w := by
  have e64 : (2 : Int) ^ IntKind.u64.bits = 18446744073709551616 := by decide
  have hw : ∀ x : Int, IntKind.u64.wrap x = x % 18446744073709551616 := fun x => by
    unfold IntKind.wrap
    simp only [e64, IntKind.signed, Bool.false_and, Bool.false_eq_true, if_false]
  have hd : n.fdiv 9223372036854775808 = if n < 0 then -1 else 0 := by
    rw [Int.fdiv_eq_ediv_of_nonneg _ (by omega)]
    split <;> omega
  simp only [binOp, ne_eq, not_true, if_false, Op.intBits]
  have hA : IntKind.u64.wrap (IntKind.u64.wrap n * 2) = n % 18446744073709551616 * 2 % 18446744073709551616 := by rw [hw n, hw]
  rw [hA, hd]
  have key : (BitVec.ofInt IntKind.u64.bits (n % 18446744073709551616 * 2 % 18446744073709551616) ^^^ BitVec.ofInt IntKind.u64.bits (IntKind.u64.wrap (if n < 0 then -1 else 0))).toNat = zz n := by
    show (BitVec.ofInt 64 (n % 18446744073709551616 * 2 % 18446744073709551616) ^^^ BitVec.ofInt 64 (IntKind.u64.wrap (if n < 0 then -1 else 0))).toNat = zz n
    unfold zz
    split
    · rename_i hn
      have e1 : IntKind.u64.wrap (-1) = 18446744073709551615 := by decide
      have e2 : BitVec.ofInt 64 (18446744073709551615 : Int) = BitVec.allOnes 64 := by decide
      rw [e1, e2, BitVec.xor_allOnes, BitVec.toNat_not]
      simp only [BitVec.toNat_ofInt]
      omega
    · rename_i hn
      have e1 : IntKind.u64.wrap 0 = 0 := by decide
      have e2 : BitVec.ofInt 64 (0 : Int) = 0#64 := by decide
      rw [e1, e2, BitVec.xor_zero]
      simp only [BitVec.toNat_ofInt]
      omega
  rw [key, wrap_u64 (by omega) (by have := zz_lt h; omega)]
  rfl

theorem tmod_nat (m d : Nat) : ((m : Nat) : Int).tmod ((d : Nat) : Int) = ((m % d : Nat) : Int) := by
  rw [Int.tmod_eq_emod_of_nonneg (by omega)]; rfl
theorem tdiv_nat (m d : Nat) : ((m : Nat) : Int).tdiv ((d : Nat) : Int) = ((m / d : Nat) : Int) := by
  rw [Int.tdiv_eq_ediv_of_nonneg (by omega)]; rfl
theorem lit1 {w : World} {b : Nat} {E : TypeId} {m : Nat} (hm : m < 256) (H : Has w b (rowL [Value.int IntKind.u8 ((m : Nat) : Int)] E)) : RdB w (.slice (some ⟨b, 0, none⟩) 1 1) [byte m] := by
  have e : [Value.int IntKind.u8 ((m : Nat) : Int)] = bv [byte m] := by simp [bv, byte_toNat m hm]
  rw [e] at H
  exact RdB.lit H (by simp [maxLen])
theorem Keeps.own2 {w wk w' : World} (K : Keeps none_ w wk) (hK : Keeps (fun i => w.heap.size ≤ i) wk w') : Keeps none_ w w' :=
  K.trans hK (fun _ _ h => h) (fun i h1 h2 => absurd h2 (by omega))

/-! ### cuts -/

def sl? (L : Loc) (o : Oper) : Option (TypeId × Value × Option Value × Option Value × Option Value) :=
  match o.op with
  | .slice t x lo hi mx => some (t, ev L x, lo.map (ev L), hi.map (ev L), mx.map (ev L))
  | _ => none

theorem Runs.slice {P : Program} {L : Loc} {o : Oper} {w : World} {t : TypeId} {x v : Value} {lo hi mx : Option Value} (h : sl? L o = some (t, x, lo, hi, mx)) (hr : (Instr.sliceAt t x lo hi mx).run P w = .ok v w) : Runs P L o w v w := by
  unfold sl? at h
  cases ho : o.op with
  | slice t' x' lo' hi' mx' =>
    rw [ho] at h
    simp only [Option.some.injEq, Prod.mk.injEq] at h
    obtain ⟨rfl, rfl, rfl, rfl, rfl⟩ := h
    unfold Runs execOp
    simp only [ho, Sem.run_bind, hr, Result.andThen_ok, Sem.run_pure]
  | _ => rw [ho] at h; cases h

/-- A cut of a slice: from l to h, with room up to m. -/
theorem run_cut {P : Program} {w : World} {t e : TypeId} {sz n c : Nat} {A : Option Addr} {lo hi mx : Option Value} (l h m : Nat) (ht : P.underlying t = some (.slice e)) (hs : size? P e = some sz)
    (hlo : lo = none ∧ l = 0 ∨ ∃ k, lo = some (.int k ((l : Nat) : Int))) (hhi : hi = none ∧ h = n ∧ mx = none ∨ ∃ k, hi = some (.int k ((h : Nat) : Int))) (hmx : mx = none ∧ m = c ∨ ∃ k, mx = some (.int k ((m : Nat) : Int)))
    (h1 : l ≤ h) (h2 : h ≤ m) (h3 : m ≤ c) : (Instr.sliceAt t (.slice A n c) lo hi mx).run P w = .ok (.slice (if m = l then A else A.map (·.add (l * sz))) (h - l) (m - l)) w := by
  have hb : ∀ (k : IntKind) (x y : Nat) (code : BoundsCode), x ≤ y → (Instr.sliceBound (.int k ((x : Nat) : Int)) y code).run P w = .ok x w := by
    intro k x y code hxy
    simp [Instr.sliceBound, asIntOf, hxy]
  unfold Instr.sliceAt Instr.slice Instr.sliceBounds
  simp only [Sem.run_bind, run_underlying ht, Result.andThen_ok]
  rcases hlo with ⟨rfl, rfl⟩ | ⟨kl, rfl⟩ <;> rcases hmx with ⟨rfl, rfl⟩ | ⟨km, rfl⟩ <;> rcases hhi with ⟨rfl, rfl, hq⟩ | ⟨kh, rfl⟩ <;> first | (cases hq; done) | skip
  all_goals simp [Sem.run_bind, hb _ _ _ _ h1, hb _ _ _ _ h2, hb _ _ _ _ h3, run_size hs, Sem.run_pure]

theorem Rd.cut {w : World} {sz n c : Nat} {A : Option Addr} {xs : List Value} (hr : Rd w sz (.slice A n c) xs) (l h m : Nat) (h1 : l ≤ h) (h2 : h ≤ m) (h3 : m ≤ c) (h4 : h ≤ n) :
    Rd w sz (.slice (if m = l then A else A.map (·.add (l * sz))) (h - l) (m - l)) ((xs.drop (l * sz)).take ((h - l) * sz)) := by
  obtain ⟨A', n', c', he, hl, hc, hm, hx⟩ := hr
  injection he with e1 e2 e3
  subst e1; subst e2; subst e3
  refine ⟨_, _, _, rfl, ?_, by omega, by omega, fun h0 => ?_⟩
  · rw [List.length_take, List.length_drop, hl, ← Nat.sub_mul]
    exact Nat.min_eq_left (Nat.mul_le_mul_right _ (by omega))
  · obtain ⟨b, off, rfl, hcell⟩ := hx (by omega)
    rw [if_neg (by omega)]
    refine ⟨b, off + l * sz, by simp [add_plain], fun j u hu => ?_⟩
    rw [List.getElem?_take] at hu
    split at hu
    · rw [List.getElem?_drop] at hu
      rw [Nat.add_assoc]
      exact hcell _ _ hu
    · cases hu
end Go.Q
