/- Sums of bytes: their bits, and what they are. -/
import Derived.Test.YtnepjfnkaigakaaLibRead2
set_option linter.unusedVariables false
namespace Go.Q
open Go.RowKit

def un? (L : Loc) (o : Oper) : Option (UnOp × Value) :=
  match o.op with
  | .unOp op _ x => some (op, ev L x)
  | _ => none
theorem Runs.un {P : Program} {L : Loc} {o : Oper} {w : World} {op : UnOp} {x v : Value} (h : un? L o = some (op, x)) (hr : (Op.unary op x).run P w = .ok v w) : Runs P L o w v w := by
  unfold un? at h
  cases ho : o.op with
  | unOp op' t x' =>
    rw [ho] at h
    simp only [Option.some.injEq, Prod.mk.injEq] at h
    obtain ⟨rfl, hx⟩ := h
    unfold Runs execOp
    simp only [ho, hx, Sem.run_bind, hr, Result.andThen_ok, Sem.run_pure]
  | _ => rw [ho] at h; cases h

theorem bv32 {n : Nat} (h : n < 4294967296) : (BitVec.ofInt 32 ((n : Nat) : Int)).toNat = n := by simp; omega
theorem xor32_lt {a b : Nat} (ha : a < 4294967296) (hb : b < 4294967296) : a ^^^ b < 4294967296 := Nat.xor_lt_two_pow (n := 32) ha hb
theorem and32_lt {a b : Nat} (ha : a < 4294967296) : a &&& b < 4294967296 := Nat.lt_of_le_of_lt Nat.and_le_left ha
theorem or32_lt {a b : Nat} (ha : a < 4294967296) (hb : b < 4294967296) : a ||| b < 4294967296 := Nat.or_lt_two_pow (n := 32) ha hb
theorem run_xor32 {P : Program} {w : World} {t : TypeId} {a b : Nat} (ha : a < 4294967296) (hb : b < 4294967296) : (binOp .xor t (.int .u32 ((a : Nat) : Int)) (.int .u32 ((b : Nat) : Int))).run P w = .ok (.int .u32 ((a ^^^ b : Nat) : Int)) w := by
  have key : ((BitVec.ofInt IntKind.u32.bits ((a : Nat) : Int)) ^^^ (BitVec.ofInt IntKind.u32.bits ((b : Nat) : Int))).toNat = a ^^^ b := by
    show ((BitVec.ofInt 32 ((a : Nat) : Int)) ^^^ (BitVec.ofInt 32 ((b : Nat) : Int))).toNat = _
    rw [BitVec.toNat_xor, bv32 ha, bv32 hb]
  have hl := xor32_lt ha hb
  simp only [binOp, ne_eq, not_true, if_false, Op.intBits]
  rw [key, wrap_u32 (by omega) (by omega)]
  rfl
theorem run_and32 {P : Program} {w : World} {t : TypeId} {a b : Nat} (ha : a < 4294967296) (hb : b < 4294967296) : (binOp .and t (.int .u32 ((a : Nat) : Int)) (.int .u32 ((b : Nat) : Int))).run P w = .ok (.int .u32 ((a &&& b : Nat) : Int)) w := by
  have key : ((BitVec.ofInt IntKind.u32.bits ((a : Nat) : Int)) &&& (BitVec.ofInt IntKind.u32.bits ((b : Nat) : Int))).toNat = a &&& b := by
    show ((BitVec.ofInt 32 ((a : Nat) : Int)) &&& (BitVec.ofInt 32 ((b : Nat) : Int))).toNat = _
    rw [BitVec.toNat_and, bv32 ha, bv32 hb]
  have hl := and32_lt (b := b) ha
  simp only [binOp, ne_eq, not_true, if_false, Op.intBits]
  rw [key, wrap_u32 (by omega) (by omega)]
  rfl
theorem run_or32 {P : Program} {w : World} {t : TypeId} {a b : Nat} (ha : a < 4294967296) (hb : b < 4294967296) : (binOp .or t (.int .u32 ((a : Nat) : Int)) (.int .u32 ((b : Nat) : Int))).run P w = .ok (.int .u32 ((a ||| b : Nat) : Int)) w := by
  have key : ((BitVec.ofInt IntKind.u32.bits ((a : Nat) : Int)) ||| (BitVec.ofInt IntKind.u32.bits ((b : Nat) : Int))).toNat = a ||| b := by
    show ((BitVec.ofInt 32 ((a : Nat) : Int)) ||| (BitVec.ofInt 32 ((b : Nat) : Int))).toNat = _
    rw [BitVec.toNat_or, bv32 ha, bv32 hb]
  have hl := or32_lt ha hb
  simp only [binOp, ne_eq, not_true, if_false, Op.intBits]
  rw [key, wrap_u32 (by omega) (by omega)]
  rfl
theorem run_not32 {P : Program} {w : World} {a : Nat} (ha : a < 4294967296) : (Op.unary .xor (.int .u32 ((a : Nat) : Int))).run P w = .ok (.int .u32 ((4294967295 ^^^ a : Nat) : Int)) w := by
  have h := run_xor32 (P := P) (w := w) (t := 0) (a := 4294967295) (b := a) (by omega) ha
  simp only [binOp, ne_eq, not_true, if_false] at h
  exact h
def neg32 (a : Nat) : Nat := (4294967296 - a) % 4294967296
theorem neg32_lt (a : Nat) : neg32 a < 4294967296 := Nat.mod_lt _ (by omega)
theorem run_neg32 {P : Program} {w : World} {a : Nat} (ha : a < 4294967296) : (Op.unary .neg (.int .u32 ((a : Nat) : Int))).run P w = .ok (.int .u32 ((neg32 a : Nat) : Int)) w := by
  have e : IntKind.u32.wrap (0 - ((a : Nat) : Int)) = ((neg32 a : Nat) : Int) := by
    have e2 : (2 : Int) ^ IntKind.u32.bits = 4294967296 := by decide
    unfold IntKind.wrap neg32
    simp only [e2, IntKind.signed, Bool.false_and, Bool.false_eq_true, if_false]
    omega
  simp only [Op.unary, Op.intArith]
  rw [e]
  rfl

/-- The register behind a bit, behind a byte, behind bytes. -/
def shiftB (r : Nat) : Nat := (r / 2) ^^^ (2197175160 &&& neg32 (r &&& 1))
theorem shiftB_lt {r : Nat} (h : r < 4294967296) : shiftB r < 4294967296 := xor32_lt (by omega) (and32_lt (by omega))
def shiftN : Nat → Nat → Nat
  | 0, r => r
  | k + 1, r => shiftB (shiftN k r)
theorem shiftN_lt {k r : Nat} (h : r < 4294967296) : shiftN k r < 4294967296 := by
  induction k with
  | zero => exact h
  | succ k ih => exact shiftB_lt ih
def crcByte (r : Nat) (c : UInt8) : Nat := shiftN 8 (r ^^^ c.toNat)
theorem crcByte_lt {r : Nat} (c : UInt8) (h : r < 4294967296) : crcByte r c < 4294967296 := shiftN_lt (xor32_lt h (by have : c.toNat < 256 := c.toNat_lt; omega))
def crcMore (s : Nat) (bs : List UInt8) : Nat := 4294967295 ^^^ bs.foldl crcByte (4294967295 ^^^ s)
theorem fold_lt (bs : List UInt8) : ∀ {r : Nat}, r < 4294967296 → bs.foldl crcByte r < 4294967296 := by
  induction bs with
  | nil => intro r h; exact h
  | cons c bs ih => intro r h; exact ih (crcByte_lt c h)
theorem crcMore_lt {s : Nat} (bs : List UInt8) (h : s < 4294967296) : crcMore s bs < 4294967296 := xor32_lt (by omega) (fold_lt bs (xor32_lt (by omega) h))
theorem fold_take {bs : List UInt8} {i : Nat} {x : UInt8} {r : Nat} (h : bs.drop i = x :: bs.drop (i + 1)) : (bs.take (i + 1)).foldl crcByte r = crcByte ((bs.take i).foldl crcByte r) x := by
  have hi : bs[i]? = some x := by rw [← List.head?_drop, h]; rfl
  obtain ⟨hl, hx⟩ := List.getElem?_eq_some_iff.1 hi
  rw [List.take_succ_eq_append_getElem hl, List.foldl_append, hx]
  rfl

/-- A sum as four bytes, the low one first; a frame. -/
def fourB (s : Nat) : List UInt8 := [byte (s % 256), byte (s / 256 % 256), byte (s / 256 / 256 % 256), byte (s / 256 / 256 / 256 % 256)]
def frameB (bs : List UInt8) : List UInt8 := uv bs.length ++ (fourB (crcMore 0 bs) ++ bs)
end Go.Q
