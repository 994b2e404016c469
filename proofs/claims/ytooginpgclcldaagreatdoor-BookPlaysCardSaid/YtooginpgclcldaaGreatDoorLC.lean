/- Numbers, sums, texts, arguments, rows. -/
import Derived.Test.YtooginpgclcldaaGreatDoorLB
import Derived.Test.YtooginpgclcldaaGreatDoorLA
import Derived.Lib.AppendStr
import Derived.SizedLaws
set_option linter.unusedVariables false
namespace Go.Q
open Go.ChangeShapes Go.WideShapes Go.ChangeAt Go.RowKit Go.Deep

theorem scanA_uv : ∀ (m i n : Nat) (rest : List UInt8), m * p7 i < 18446744073709551616 → i ≤ 9 → (i = 0 ∨ 0 < m) → scanA (uv m ++ rest) i n = (n + m * p7 i, i + (uv m).length, 0) := by
  intro m
  induction m using Nat.strongRecOn with
  | _ m ih =>
    intro i n rest hm hi h0
    have h9 : i = 9 → m ≤ 1 := by
      intro h
      subst h
      rw [p7_9] at hm
      omega
    rcases Nat.lt_or_ge m 128 with h | h
    · rw [uv_lt h]
      have hb : (byte m).toNat = m := byte_toNat m (by omega)
      have hc : ¬ ((i = 9 ∧ 1 < (byte m).toNat) ∨ (0 < i ∧ (byte m).toNat = 0)) := by rw [hb]; omega
      show scanA (byte m :: rest) i n = _
      rw [scanA_end hc (by rw [hb]; exact h), hb, Nat.mod_eq_of_lt h]
      rfl
    · rw [uv_ge h]
      have hb : (byte (m % 128 + 128)).toNat = m % 128 + 128 := byte_toNat _ (by omega)
      have hc : ¬ ((i = 9 ∧ 1 < (byte (m % 128 + 128)).toNat) ∨ (0 < i ∧ (byte (m % 128 + 128)).toNat = 0)) := by rw [hb]; omega
      have e : m * p7 i = m % 128 * p7 i + m / 128 * (128 * p7 i) := by
        conv => lhs; rw [show m = m % 128 + m / 128 * 128 from by omega, Nat.add_mul, Nat.mul_assoc]
      show scanA (byte (m % 128 + 128) :: (uv (m / 128) ++ rest)) i n = _
      rw [scanA_more hc (by rw [hb]; omega), hb, Nat.add_mod_right, Nat.mod_mod, ih (m / 128) (by omega) (i + 1) _ rest (by rw [p7_succ]; omega) (by omega) (.inr (by omega)), p7_succ, e, List.length_cons]
      refine Prod.ext (by simp only; omega) (Prod.ext (by simp only; omega) rfl)
theorem scanB_uv {m : Nat} (rest : List UInt8) (hm : m < 18446744073709551616) : scanB (uv m ++ rest) = (m, (uv m).length, 0) := by
  have e1 : p7 0 = 1 := rfl
  have := scanA_uv m 0 0 rest (by rw [e1]; omega) (by omega) (.inl rfl)
  rw [e1] at this
  simpa [scanB] using this
theorem int_iv {pre rest : List UInt8} {a : Int} (h : -9223372036854775808 ≤ a ∧ a ≤ 9223372036854775807) : (⟨pre ++ (iv a ++ rest), pre.length, 0⟩ : Rdr).int = (a, ⟨pre ++ (iv a ++ rest), (pre ++ iv a).length, 0⟩) := by
  have hs : scanB ((pre ++ (iv a ++ rest)).drop pre.length) = (zz a, (iv a).length, 0) := by
    rw [List.drop_left]; exact scanB_uv rest (zz_lt h)
  have hu := uint_good (r := ⟨pre ++ (iv a ++ rest), pre.length, 0⟩) rfl hs
  unfold Rdr.int
  rw [hu]
  simp only [unzz_zz, List.length_append]

/-- Bytes that come in. -/
theorem open_bytes {H : Type} {enc : TypeId × Value → H} {P : Program} {w : World} {base : Nat} {spare : Nat → Bool} {held : Bool} {t e : TypeId} {v : Value} {d : DataW H} {ps : List MemPlace} (ht : P.underlying t = some (.slice e)) (he : P.underlying e = some (.int .u8)) (hC : P.cellsOf e = 1)
    (hv : Value.okWide P w .any 0 t v) (h : DataW.Trod enc P w base spare held t v d ps) : ∃ bs : List UInt8, RdB w v bs := by
  obtain ⟨A, n, c, l, rfl, hnc, hcm, hl, _, hel⟩ := open_elems (f := fun x : UInt8 => Value.int .u8 ((x.toNat : Nat) : Int)) (Good := fun _ => True) (sz := 1) ht hC (by decide) hv h (by
    intro m cs y hlen htr
    match cs, hlen with
    | [z], _ =>
      obtain ⟨k, hk, _, hw⟩ := DataW.trod_int he htr
      simp only [List.cons.injEq, and_true] at hk
      subst hk
      simp only [Lit.wf, Bool.and_eq_true, decide_eq_true_eq] at hw
      have e1 : IntKind.u8.min = 0 := by decide
      have e2 : IntKind.u8.max = 255 := by decide
      rw [e1, e2] at hw
      refine ⟨UInt8.ofNat k.toNat, trivial, ?_⟩
      have : ((UInt8.ofNat k.toNat).toNat : Int) = k := by simp; omega
      show [Value.int .u8 (((UInt8.ofNat k.toNat).toNat : Nat) : Int)] = [Value.int .u8 k]
      rw [this])
  refine ⟨l, A, n, c, rfl, by simp [bv_length, hl], hnc, hcm, fun h0 => ?_⟩
  obtain ⟨b, off, hA, hc⟩ := hel.2 h0
  refine ⟨b, off, hA, fun j u hu => ?_⟩
  have := hc j u (by simpa [bv] using hu) 0 u (by
    have hu2 := hu
    simp only [bv, List.getElem?_map, Option.map_eq_some_iff] at hu2
    obtain ⟨z, _, rfl⟩ := hu2
    rfl)
  simpa using this
end Go.Q
namespace Go.Q
open Go.RowKit

def un? (L : Loc) (o : Oper) : Option (UnOp × Value) :=
  match o.op with
  | .unOp op _ x => some (op, ev L x)
  | _ => none
theorem Runs.un {P : Program} {L : Loc} {o : Oper} {w : World} {op : UnOp} {x v : Value} (h : un? L o = some (op, x)) (hr : (Op.unary op x).run P w = .ok v w) : Runs P L o w v w := by
  unfold un? at h
  cases ho : o.op with
  | unOp op' t x' =>
    rw [ho] at h
    simp only [Option.some.injEq, Prod.mk.injEq] at h
    obtain ⟨rfl, hx⟩ := h
    unfold Runs execOp
    simp only [ho, hx, Sem.run_bind, hr, Result.andThen_ok, Sem.run_pure]
  | _ => rw [ho] at h; cases h

theorem bv32 {n : Nat} (h : n < 4294967296) : (BitVec.ofInt 32 ((n : Nat) : Int)).toNat = n := by simp; omega
theorem xor32_lt {a b : Nat} (ha : a < 4294967296) (hb : b < 4294967296) : a ^^^ b < 4294967296 := Nat.xor_lt_two_pow (n := 32) ha hb
theorem and32_lt {a b : Nat} (ha : a < 4294967296) : a &&& b < 4294967296 := Nat.lt_of_le_of_lt Nat.and_le_left ha
theorem or32_lt {a b : Nat} (ha : a < 4294967296) (hb : b < 4294967296) : a ||| b < 4294967296 := Nat.or_lt_two_pow (n := 32) ha hb
theorem run_xor32 {P : Program} {w : World} {t : TypeId} {a b : Nat} (ha : a < 4294967296) (hb : b < 4294967296) : (binOp .xor t (.int .u32 ((a : Nat) : Int)) (.int .u32 ((b : Nat) : Int))).run P w = .ok (.int .u32 ((a ^^^ b : Nat) : Int)) w := by
  have key : ((BitVec.ofInt IntKind.u32.bits ((a : Nat) : Int)) ^^^ (BitVec.ofInt IntKind.u32.bits ((b : Nat) : Int))).toNat = a ^^^ b := by
    show ((BitVec.ofInt 32 ((a : Nat) : Int)) ^^^ (BitVec.ofInt 32 ((b : Nat) : Int))).toNat = _
    rw [BitVec.toNat_xor, bv32 ha, bv32 hb]
  have hl := xor32_lt ha hb
  simp only [binOp, ne_eq, not_true, if_false, Op.intBits]
  rw [key, wrap_u32 (by omega) (by omega)]
  rfl
theorem run_and32 {P : Program} {w : World} {t : TypeId} {a b : Nat} (ha : a < 4294967296) (hb : b < 4294967296) : (binOp .and t (.int .u32 ((a : Nat) : Int)) (.int .u32 ((b : Nat) : Int))).run P w = .ok (.int .u32 ((a &&& b : Nat) : Int)) w := by
  have key : ((BitVec.ofInt IntKind.u32.bits ((a : Nat) : Int)) &&& (BitVec.ofInt IntKind.u32.bits ((b : Nat) : Int))).toNat = a &&& b := by
    show ((BitVec.ofInt 32 ((a : Nat) : Int)) &&& (BitVec.ofInt 32 ((b : Nat) : Int))).toNat = _
    rw [BitVec.toNat_and, bv32 ha, bv32 hb]
  have hl := and32_lt (b := b) ha
  simp only [binOp, ne_eq, not_true, if_false, Op.intBits]
  rw [key, wrap_u32 (by omega) (by omega)]
  rfl
theorem run_or32 {P : Program} {w : World} {t : TypeId} {a b : Nat} (ha : a < 4294967296) (hb : b < 4294967296) : (binOp .or t (.int .u32 ((a : Nat) : Int)) (.int .u32 ((b : Nat) : Int))).run P w = .ok (.int .u32 ((a ||| b : Nat) : Int)) w := by
  have key : ((BitVec.ofInt IntKind.u32.bits ((a : Nat) : Int)) ||| (BitVec.ofInt IntKind.u32.bits ((b : Nat) : Int))).toNat = a ||| b := by
    show ((BitVec.ofInt 32 ((a : Nat) : Int)) ||| (BitVec.ofInt 32 ((b : Nat) : Int))).toNat = _
    rw [BitVec.toNat_or, bv32 ha, bv32 hb]
  have hl := or32_lt ha hb
  simp only [binOp, ne_eq, not_true, if_false, Op.intBits]
  rw [key, wrap_u32 (by omega) (by omega)]
  rfl
theorem run_not32 {P : Program} {w : World} {a : Nat} (ha : a < 4294967296) : (Op.unary .xor (.int .u32 ((a : Nat) : Int))).run P w = .ok (.int .u32 ((4294967295 ^^^ a : Nat) : Int)) w := by
  have h := run_xor32 (P := P) (w := w) (t := 0) (a := 4294967295) (b := a) (by omega) ha
  simp only [binOp, ne_eq, not_true, if_false] at h
  exact h
def neg32 (a : Nat) : Nat := (4294967296 - a) % 4294967296
theorem neg32_lt (a : Nat) : neg32 a < 4294967296 := Nat.mod_lt _ (by omega)
theorem run_neg32 {P : Program} {w : World} {a : Nat} (ha : a < 4294967296) : (Op.unary .neg (.int .u32 ((a : Nat) : Int))).run P w = .ok (.int .u32 ((neg32 a : Nat) : Int)) w := by
  have e : IntKind.u32.wrap (0 - ((a : Nat) : Int)) = ((neg32 a : Nat) : Int) := by
    have e2 : (2 : Int) ^ IntKind.u32.bits = 4294967296 := by decide
    unfold IntKind.wrap neg32
    simp only [e2, IntKind.signed, Bool.false_and, Bool.false_eq_true, if_false]
    omega
  simp only [Op.unary, Op.intArith]
  rw [e]
  rfl

/-- The register behind a bit, behind a byte, behind bytes. -/
def shiftB (r : Nat) : Nat := (r / 2) ^^^ (2197175160 &&& neg32 (r &&& 1))
theorem shiftB_lt {r : Nat} (h : r < 4294967296) : shiftB r < 4294967296 := xor32_lt (by omega) (and32_lt (by omega))
def shiftN : Nat → Nat → Nat
  | 0, r => r
  | k + 1, r => shiftB (shiftN k r)
theorem shiftN_lt {k r : Nat} (h : r < 4294967296) : shiftN k r < 4294967296 := by
  induction k with
  | zero => exact h
  | succ k ih => exact shiftB_lt ih
def crcByte (r : Nat) (c : UInt8) : Nat := shiftN 8 (r ^^^ c.toNat)
theorem crcByte_lt {r : Nat} (c : UInt8) (h : r < 4294967296) : crcByte r c < 4294967296 := shiftN_lt (xor32_lt h (by have : c.toNat < 256 := c.toNat_lt; omega))
def crcMore (s : Nat) (bs : List UInt8) : Nat := 4294967295 ^^^ bs.foldl crcByte (4294967295 ^^^ s)
theorem fold_lt (bs : List UInt8) : ∀ {r : Nat}, r < 4294967296 → bs.foldl crcByte r < 4294967296 := by
  induction bs with
  | nil => intro r h; exact h
  | cons c bs ih => intro r h; exact ih (crcByte_lt c h)
theorem crcMore_lt {s : Nat} (bs : List UInt8) (h : s < 4294967296) : crcMore s bs < 4294967296 := xor32_lt (by omega) (fold_lt bs (xor32_lt (by omega) h))
theorem fold_take {bs : List UInt8} {i : Nat} {x : UInt8} {r : Nat} (h : bs.drop i = x :: bs.drop (i + 1)) : (bs.take (i + 1)).foldl crcByte r = crcByte ((bs.take i).foldl crcByte r) x := by
  have hi : bs[i]? = some x := by rw [← List.head?_drop, h]; rfl
  obtain ⟨hl, hx⟩ := List.getElem?_eq_some_iff.1 hi
  rw [List.take_succ_eq_append_getElem hl, List.foldl_append, hx]
  rfl

/-- A sum as four bytes, the low one first; a frame. -/
def fourB (s : Nat) : List UInt8 := [byte (s % 256), byte (s / 256 % 256), byte (s / 256 / 256 % 256), byte (s / 256 / 256 / 256 % 256)]
def frameB (bs : List UInt8) : List UInt8 := uv bs.length ++ (fourB (crcMore 0 bs) ++ bs)
end Go.Q
namespace Go.Q
open Go.RowKit Go.Lib

theorem strCells_bv (xs : List UInt8) : strCells (str xs) = bv xs := by
  simp [strCells, str, bv]

def u8Ty? (P : Program) (t u : TypeId) : Option TypeId :=
  match P.underlying t, P.underlying u with
  | some (.slice e), some .string => match P.info? e with
    | some i => match i.zero with
      | some (.int .u8 0) => bif Nat.beq i.size 1 && Nat.beq i.bytes 1 then some e else none
      | _ => none
    | none => none
  | _, _ => none

theorem OwnB.appS {P : Program} {w : World} {t u ty e base : Nat} {v : Value} {xs ys : List UInt8} (T : u8Ty? P t u = some e) (h : OwnB w base e v xs) (hl : xs.length + ys.length ≤ 140737488355328) (hbase : base ≤ w.heap.size) :
    ∃ v' w', (Builtin.append_ #[t, u] ty #[v, .string (str ys)]).run P w = .ok v' w' ∧ OwnB w' base e v' (xs ++ ys) ∧ Keeps (fun i => base ≤ i) w w' := by
  unfold u8Ty? at T
  split at T
  · rename_i e' ht hu
    split at T
    · rename_i i hi
      split at T
      · rename_i hz
        cases hb : (Nat.beq i.size 1 && Nat.beq i.bytes 1) with
        | false => rw [hb] at T; cases T
        | true =>
          rw [hb] at T
          simp only [cond_true, Option.some.injEq] at T
          subst T
          simp only [Bool.and_eq_true] at hb
          have hm : xs.length + ys.length ≤ maxLen := by simp only [maxLen]; omega
          obtain ⟨v', w', hr, ho, hg, _⟩ := run_append_own_string (P := P) w base t u ty e' i ht hu hi hz (Nat.eq_of_beq_eq_true hb.1) (Nat.eq_of_beq_eq_true hb.2) v xs.length (bv xs) h (str ys) (by rw [str_size]; exact hm) (by rw [str_size]; exact hl) hbase
          refine ⟨v', w', hr, ?_, (Keeps.of_grown hg).mono fun j hj hS => (h.lt j hS.symm).1⟩
          rw [strCells_bv, str_size] at ho
          unfold OwnB
          rw [List.length_append, bv_append]
          exact ho
      · cases T
    · cases T
  · cases T
/-- How many, then they. -/
def tv (ss : List UInt8) : List UInt8 := uv ss.length ++ ss

/-- A fresh row of bytes is marked: it still reads as it did. -/
theorem run_mark {P : Program} {w : World} {t e : TypeId} {b n c : Nat} {xs : List Value} {E : TypeId} (ht : P.underlying t = some (.slice e)) (he : P.underlying e = some (.int .u8)) (H : Has w b (rowL xs E)) :
    ∃ w', (convert t t (.slice (some ⟨b, 0, none⟩) n c)).run P w = .ok (.slice (some ⟨b, 0, none⟩) n c) w' ∧ Keeps (fun i => i = b) w w' ∧ ∀ j, w'.cell? ⟨b, j, none⟩ = xs[j]? := by
  have hsh : w.shape? b = some (E, xs.length) := by
    unfold Has at H
    simp [World.shape?, H]
  refine ⟨w.freeze ⟨b, xs.length, none⟩ 1, ?_, ⟨rfl, rfl, rfl, by simp [World.freeze], fun i hi hn => ?_⟩, fun j => ?_⟩
  · simp [convert, run_underlying ht, run_underlying he, markStringish, Sem.run_bind, hsh]
  · simp only [World.freeze, Nat.one_ne_zero, if_false]
    rw [Array.getElem?_modify, if_neg (fun h => hn h.symm)]
  · unfold Has at H
    have e : (w.freeze ⟨b, xs.length, none⟩ 1).heap[b]? = some (.cells ⟨xs⟩ E (xs.length, xs.length + 1)) := by
      simp only [World.freeze, Nat.one_ne_zero, if_false]
      rw [Array.getElem?_modify, if_pos rfl, H]
      simp [rowL]
    unfold World.cell?
    rw [e]
    simp
theorem run_markB {P : Program} {w : World} {t e : TypeId} {b : Nat} {bs : List UInt8} {E : TypeId} (ht : sliceOf? P t = some e) (H : Has w b (rowL (bv bs) E)) (hm : bs.length ≤ maxLen) :
    ∃ w', (convert t t (.slice (some ⟨b, 0, none⟩) bs.length bs.length)).run P w = .ok (.slice (some ⟨b, 0, none⟩) bs.length bs.length) w' ∧ Keeps (fun i => i = b) w w' ∧ RdB w' (.slice (some ⟨b, 0, none⟩) bs.length bs.length) bs := by
  unfold sliceOf? at ht
  split at ht
  · rename_i e' h1
    split at ht
    · rename_i h2
      obtain ⟨w', hr, hk, hc⟩ := run_mark (n := bs.length) (c := bs.length) h1 h2 H
      exact ⟨w', hr, hk, _, _, _, rfl, by simp [bv_length], Nat.le_refl _, hm, fun _ => ⟨b, 0, rfl, fun j u hu => by rw [Nat.zero_add, hc]; exact hu⟩⟩
    · cases ht
  · cases ht
end Go.Q
namespace Go.Q

theorem uv_len_lt {n : Nat} (h : n < 128) : (uv n).length = 1 := by rw [uv_lt h]; rfl
theorem uv_len_ge {n : Nat} (h : 128 ≤ n) : (uv n).length = 1 + (uv (n / 128)).length := by rw [uv_ge h, List.length_cons]; omega
theorem uv_mono : ∀ (b a : Nat), a ≤ b → (uv a).length ≤ (uv b).length := by
  intro b
  induction b using Nat.strongRecOn with
  | _ b ih =>
    intro a h
    rcases Nat.lt_or_ge a 128 with h1 | h1
    · rw [uv_len_lt h1]; exact uv_pos b
    · rw [uv_len_ge h1, uv_len_ge (n := b) (by omega)]
      have := ih (b / 128) (by omega) (a / 128) (by omega)
      omega
theorem scanA_short : ∀ (m i k n : Nat), i < (uv m).length → (k = 0 ∨ 0 < m) → m * p7 k < 18446744073709551616 → k ≤ 9 → (scanA ((uv m).take i) k n).2 = (0, 10) := by
  intro m
  induction m using Nat.strongRecOn with
  | _ m ih =>
    intro i k n hi h0 hm hk
    cases i with
    | zero => rfl
    | succ i =>
      rcases Nat.lt_or_ge m 128 with h | h
      · rw [uv_len_lt h] at hi; omega
      · have h9 : k = 9 → m ≤ 1 := by
          intro hq
          subst hq
          rw [p7_9] at hm
          omega
        rw [uv_len_ge h] at hi
        rw [uv_ge h, List.take_succ_cons]
        have hb : (byte (m % 128 + 128)).toNat = m % 128 + 128 := byte_toNat _ (by omega)
        have e : m * p7 k = m % 128 * p7 k + m / 128 * (128 * p7 k) := by
          conv => lhs; rw [show m = m % 128 + m / 128 * 128 from by omega, Nat.add_mul, Nat.mul_assoc]
        rw [scanA_more (by rw [hb]; omega) (by rw [hb]; omega)]
        exact ih (m / 128) (by omega) i (k + 1) _ (by omega) (.inr (by omega)) (by rw [p7_succ]; omega) (by omega)
theorem uint_short {m i : Nat} (hm : m < 18446744073709551616) (hi : i < (uv m).length) : (⟨(uv m).take i, 0, 0⟩ : Rdr).uint = (0, ⟨(uv m).take i, 0, 10⟩) := by
  have e1 : p7 0 = 1 := rfl
  have h := scanA_short m i 0 0 hi (.inl rfl) (by rw [e1]; omega) (by omega)
  refine uint_bad (n := (scanB ((uv m).take i)).1) (s := 0) rfl ?_ (by decide)
  exact Prod.ext rfl h
theorem uv_inj {a b : Nat} (ha : a < 18446744073709551616) (hb : b < 18446744073709551616) (h : uv a = uv b) : a = b := by
  have h1 := scanB_uv [] ha
  have h2 := scanB_uv [] hb
  rw [h] at h1
  rw [h1] at h2
  injection h2
theorem uv_beq {a b : Nat} (ha : a < 18446744073709551616) (hb : b < 18446744073709551616) (h : a ≠ b) : (uv a == uv b) = false := by
  simp only [beq_eq_false_iff_ne, ne_eq]
  exact fun hq => h (uv_inj ha hb hq)
theorem RdB.take {w : World} {A : Option Addr} {c k : Nat} {bs : List UInt8} (h : RdB w (.slice A bs.length c) bs) (hk : k ≤ bs.length) : RdB w (.slice A k c) (bs.take k) := by
  obtain ⟨A', n', c', he, hl, hc, hm, hx⟩ := h
  injection he with e1 e2 e3
  subst e1; subst e2; subst e3
  refine ⟨A, k, c, rfl, by simp [bv_length]; omega, by omega, hm, fun h0 => ?_⟩
  obtain ⟨b, off, hA, hcell⟩ := hx (by omega)
  refine ⟨b, off, hA, fun j u hu => hcell j u ?_⟩
  have e : bv (bs.take k) = (bv bs).take k := by simp [bv, List.map_take]
  rw [e, List.getElem?_take] at hu
  split at hu
  · exact hu
  · cases hu
theorem wf_u64 {n : Int} (h : (Lit.int .u64 n).wf = true) : 0 ≤ n ∧ n < 18446744073709551616 := by
  simp only [Lit.wf, Bool.and_eq_true, decide_eq_true_eq] at h
  have e1 : IntKind.u64.min = 0 := by decide
  have e2 : IntKind.u64.max = 18446744073709551615 := by decide
  rw [e1, e2] at h
  omega
end Go.Q
namespace Go.Q
open Go.RowKit

section
variable {P : Program} {w : World} {t ty e sz bytes n base : Nat} {xs ys : List Value} {v : Value}

theorem own_app2 (T : ElemTy P t e sz bytes) (hown : w.ownsRow base e sz v n xs) {x : Value} {m : Nat} (hx : Rd w sz x ys) (hm : ys.length = m * sz) (h1 : oneCells ys = true)
    (hb : (n + m) * bytes ≤ 140737488355328) (hl : n + m ≤ maxLen) (hbase : base ≤ w.heap.size) :
    ∃ v' w', (Builtin.append_ #[t, t] ty #[v, x]).run P w = .ok v' w' ∧ w'.ownsRow base e sz v' (n + m) (xs ++ ys) ∧ Keeps (fun i => v.ownBlock = some i) w w' ∧
      ∀ i, v'.ownBlock = some i → v.ownBlock = some i ∨ w.heap.size ≤ i := by
  rcases Nat.eq_zero_or_pos m with h0 | h0
  · subst h0
    have e0 : ys = [] := List.eq_nil_of_length_eq_zero (by omega)
    subst e0
    obtain ⟨A, k, c, rfl, hk, _⟩ := hx
    have hk0 : k = 0 := by
      have : 0 = k * sz := by simpa using hk
      rcases Nat.mul_eq_zero.1 this.symm with h | h
      · exact h
      · have := T.pos; omega
    subst hk0
    refine ⟨v, w, app_nil_src T hown c A, by simpa using hown, (Keeps.refl w).mono fun _ _ h => h.elim, fun i hi => .inl hi⟩
  · have hc := hown
    obtain ⟨hlen, hc⟩ := hc
    rcases hc with ⟨rfl, rfl⟩ | ⟨g, cap, cur, rfl, hg, hcell, hnc, hcm, hsize, htake⟩
    · have e0 : xs = [] := List.eq_nil_of_length_eq_zero (by omega)
      subst e0
      obtain ⟨g', cap', rest', w', hr, H, f1, f2, f3, K, hgg⟩ := app_row0 (ty := ty) T hx hm h0 (by simpa using hb) (by omega)
      refine ⟨_, w', hr, ⟨by simpa using hm, .inr ⟨g', cap', _, by simp, by omega, H, by omega, f3, by simpa using f1, ?_⟩⟩, K.mono fun _ _ h => h.elim, fun i hi => .inr ?_⟩
      · simp only [Nat.zero_add, List.nil_append]
        show (ys ++ rest').take (m * sz) = ys
        rw [← hm, List.take_left]
      · simp only [Value.ownBlock, Option.some.injEq] at hi
        omega
    · have hsz : cur.toList.length = cap * sz := by simpa using hsize
      have hle : n * sz ≤ cap * sz := Nat.mul_le_mul_right _ hnc
      have hH : Has w g (rowL (xs ++ cur.toList.drop (n * sz)) e) := by
        unfold Has rowL
        rw [← htake, List.take_append_drop]
        exact hcell
      obtain ⟨g', cap', rest', w', hr, H, f1, f2, f3, K, hgg⟩ := app_row (ty := ty) (n := n) (cap := cap) T hH (by rw [← htake, List.length_take]; omega) (by rw [hlen, List.length_drop]; omega) hnc hcm hx hm h0 h1 hb hl
      refine ⟨_, w', hr, ⟨by rw [List.length_append, hlen, hm, Nat.add_mul], .inr ⟨g', cap', _, rfl, ?_, H, f2, f3, by simpa [Nat.add_assoc] using f1, ?_⟩⟩, K.mono fun i _ h => by subst h; rfl, fun i hi => ?_⟩
      · rcases hgg with h | h <;> omega
      · have e : (xs ++ ys).length = (n + m) * sz := by rw [List.length_append, hlen, hm, Nat.add_mul]
        show ((xs ++ ys) ++ rest').take ((n + m) * sz) = xs ++ ys
        rw [← e, List.take_left]
      · simp only [Value.ownBlock, Option.some.injEq] at hi ⊢
        rcases hgg with h | h
        · exact .inl (by omega)
        · exact .inr (by omega)
end

theorem OwnB.app2 {P : Program} {w : World} {t ty e base : Nat} {v x : Value} {xs ys : List UInt8} (T : ElemTy P t e 1 1) (h : OwnB w base e v xs) (hx : RdB w x ys) (hl : xs.length + ys.length ≤ 140737488355328) (hbase : base ≤ w.heap.size) :
    ∃ v' w', (Builtin.append_ #[t, t] ty #[v, x]).run P w = .ok v' w' ∧ OwnB w' base e v' (xs ++ ys) ∧ Keeps (fun i => v.ownBlock = some i) w w' ∧ ∀ i, v'.ownBlock = some i → v.ownBlock = some i ∨ w.heap.size ≤ i := by
  have hm : xs.length + ys.length ≤ maxLen := by simp only [maxLen]; omega
  obtain ⟨v', w', hr, ho, hk, hg⟩ := own_app2 (ty := ty) T h hx (m := ys.length) (by simp [bv_length]) (bv_one ys) (by omega) hm hbase
  refine ⟨v', w', hr, ?_, hk, hg⟩
  unfold OwnB
  rw [List.length_append, bv_append]
  exact ho

theorem left_ne {A A2 : Option Addr} {n c b : Nat} (h : ∀ g o s, A2 = some ⟨g, o, s⟩ → ∃ o2 s2, A = some ⟨g, o2, s2⟩) (ne : ∀ g o s, A = some ⟨g, o, s⟩ → g ≠ b) :
    ∀ i, (Value.slice A2 n c).ownBlock = some i → i ≠ b := by
  intro i hi
  cases A2 with
  | none => cases hi
  | some a =>
    simp only [Value.ownBlock, Option.some.injEq] at hi
    obtain ⟨o2, s2, hA⟩ := h a.block a.off a.spot rfl
    have := ne _ _ _ hA
    omega
theorem own_lt_ne {w : World} {base e b : Nat} {v : Value} {xs : List UInt8} (h : OwnB w base e v xs) (hb : b < base) : ∀ i, v.ownBlock = some i → i ≠ b := fun i hi => by
  have := (World.ownsRow.lt h i hi).1; omega
theorem cut_ne {A : Option Addr} {n c n2 c2 b : Nat} (h : ∀ i, (Value.slice A n c).ownBlock = some i → i ≠ b) : ∀ i, (Value.slice A n2 c2).ownBlock = some i → i ≠ b := fun i hi => h i (by cases A <;> exact hi)

theorem RdB.addr {w : World} {A : Option Addr} {n c : Nat} {bs : List UInt8} (h : RdB w (.slice A n c) bs) (h0 : 0 < bs.length) : ∃ b o, A = some ⟨b, o, none⟩ := by
  obtain ⟨A', n', c', he, hl, hc, hm, hx⟩ := h
  injection he with e1 e2 e3
  subst e1; subst e2; subst e3
  have hn : bs.length = n := by simpa [bv_length] using hl
  obtain ⟨b, off, rfl, _⟩ := hx (by omega)
  exact ⟨b, off, rfl⟩
theorem RdB.ld {P : Program} {t : TypeId} {w : World} {A : Option Addr} {n c k b off : Nat} {bs : List UInt8} {x : UInt8} (h : RdB w (.slice A n c) bs) (ht : isAgg? P t = some false) (hA : A = some ⟨b, off, none⟩) (hx : bs[k]? = some x) :
    Loads P w t ⟨b, off + k, none⟩ (.int .u8 ((x.toNat : Nat) : Int)) := by
  have hk := (List.getElem?_eq_some_iff.1 hx).1
  obtain ⟨y, b', off', hd, hA', hL⟩ := RdB.at (P := P) (t := t) h ht hk
  rw [hA] at hA'
  injection hA' with e
  injection e with e1 e2 e3
  subst e1; subst e2
  have : y = x := by
    have h1 : (bs.drop k)[0]? = some y := by rw [hd]; rfl
    rw [List.getElem?_drop, Nat.add_zero, hx] at h1
    exact (Option.some.inj h1).symm
  subst this
  exact hL none_ w (Keeps.refl w) fun h => h

/-! ### readers -/
theorem Rdr.Ok.sized {r : Rdr} (h : r.Ok) (m : Int) : (r.sized m).2.Ok := by
  have h1 := h.pos
  have h2 := h.len
  have h3 := h.uint
  unfold Rdr.sized
  (repeat' split) <;> first | exact h | exact h3 | exact ⟨h1, h2⟩
theorem Rdr.sized_le {r : Rdr} (h : r.Ok) (m : Int) (hw : (r.sized m).2.why = 0) : (r.sized m).2.pos + (r.sized m).1 ≤ r.bs.length := by
  have h3 := h.uint.pos
  rw [r.uint_bs] at h3
  unfold Rdr.sized at hw ⊢
  split
  · rw [if_pos ‹_›] at hw; exact absurd hw ‹_›
  · rw [if_neg ‹_›] at hw
    split
    · rw [if_pos ‹_›] at hw; exact absurd hw ‹_›
    · rw [if_neg ‹_›] at hw
      split
      · rw [if_pos ‹_›] at hw; simp at hw
      · rw [if_neg ‹_›] at hw
        split
        · rw [if_pos ‹_›] at hw; simp at hw
        · omega
theorem Rdr.sized_lt (r : Rdr) (m : Int) : (r.sized m).1 < 18446744073709551616 := by
  have h := r.uint_lt
  unfold Rdr.sized
  (repeat' split) <;> first | exact h | (show (0 : Nat) < _; omega)
theorem Rdr.Ok.bytes {r : Rdr} (h : r.Ok) : r.bytes.2.Ok := by
  have h1 := h.sized 65536
  have h2 := h.len
  unfold Rdr.bytes
  split
  · exact h1
  · refine ⟨?_, h2⟩
    have h3 := Rdr.sized_le h 65536 (by omega)
    exact h3
theorem Rdr.Ok.bool_ {r : Rdr} (h : r.Ok) : r.bool_.2.Ok := by
  have h1 := h.pos
  have h2 := h.len
  unfold Rdr.bool_
  split
  · exact h
  · split
    · exact ⟨h1, h2⟩
    · split
      · exact ⟨h1, h2⟩
      · refine ⟨?_, h2⟩
        have := congrArg List.length ‹r.bs.drop r.pos = _›
        simp only [List.length_drop, List.length_cons] at this
        show r.pos + 1 ≤ r.bs.length
        omega
theorem Rdr.bytes_le {r : Rdr} (h : r.Ok) : r.bytes.1.length ≤ 140737488351232 := by
  have := h.len
  unfold Rdr.bytes
  split
  · simp
  · simp only [List.length_take, List.length_drop]; omega
end Go.Q
namespace Go.Q
open Go.RowKit

/-- An operation. -/
structure Opm where
  kind : Int
  frm : List UInt8
  to : List UInt8
  amount : Int
  key : List UInt8
  slot : Int
  shard : Int
def Opm.cells (o : Opm) : List Value := [i64 o.kind, .string (str o.frm), .string (str o.to), i64 o.amount, .string (str o.key), i64 o.slot, i64 o.shard]
def Rdr.op (r : Rdr) : Opm × Rdr :=
  (⟨r.int.1, r.int.2.bytes.1, r.int.2.bytes.2.bytes.1, r.int.2.bytes.2.bytes.2.int.1, r.int.2.bytes.2.bytes.2.int.2.bytes.1, r.int.2.bytes.2.bytes.2.int.2.bytes.2.int.1, r.int.2.bytes.2.bytes.2.int.2.bytes.2.int.2.int.1⟩,
    r.int.2.bytes.2.bytes.2.int.2.bytes.2.int.2.int.2)
theorem Rdr.Ok.op {r : Rdr} (h : r.Ok) : r.op.2.Ok := h.int.bytes.bytes.int.bytes.int.int
theorem Rdr.op_bs (r : Rdr) : r.op.2.bs = r.bs := by
  show r.int.2.bytes.2.bytes.2.int.2.bytes.2.int.2.int.2.bs = r.bs
  rw [Rdr.int_bs, Rdr.int_bs, Rdr.bytes_bs, Rdr.int_bs, Rdr.bytes_bs, Rdr.bytes_bs, Rdr.int_bs]

/-! ### once there is an error, it stays -/
theorem Rdr.uint_err {r : Rdr} (h : r.why ≠ 0) : r.uint = (0, r) := by unfold Rdr.uint; rw [if_pos h]
theorem Rdr.int_err {r : Rdr} (h : r.why ≠ 0) : r.int.2 = r := by unfold Rdr.int; rw [Rdr.uint_err h]
theorem Rdr.sized_err {r : Rdr} (h : r.why ≠ 0) (m : Int) : (r.sized m) = (0, r) := by unfold Rdr.sized; rw [if_pos h]
theorem Rdr.bytes_err {r : Rdr} (h : r.why ≠ 0) : r.bytes = ([], r) := by unfold Rdr.bytes; rw [Rdr.sized_err h, if_pos h]
theorem Rdr.bool_err {r : Rdr} (h : r.why ≠ 0) : r.bool_ = (false, r) := by unfold Rdr.bool_; rw [if_pos h]
theorem Rdr.op_err {r : Rdr} (h : r.why ≠ 0) : r.op.2 = r := by
  show r.int.2.bytes.2.bytes.2.int.2.bytes.2.int.2.int.2 = r
  rw [Rdr.int_err h, Rdr.bytes_err h]
  show r.bytes.2.int.2.bytes.2.int.2.int.2 = r
  rw [Rdr.bytes_err h]
  show r.int.2.bytes.2.int.2.int.2 = r
  rw [Rdr.int_err h, Rdr.bytes_err h]
  show r.int.2.int.2 = r
  rw [Rdr.int_err h, Rdr.int_err h]

/-! ### a reader never goes back -/
theorem Rdr.uint_mono (r : Rdr) : r.pos ≤ r.uint.2.pos := by
  unfold Rdr.uint
  (repeat' split) <;> simp
theorem Rdr.int_mono (r : Rdr) : r.pos ≤ r.int.2.pos := r.uint_mono
theorem Rdr.sized_mono (r : Rdr) (m : Int) : r.pos ≤ (r.sized m).2.pos := by
  have := r.uint_mono
  unfold Rdr.sized
  (repeat' split) <;> first | exact Nat.le_refl _ | exact this
theorem Rdr.bytes_mono (r : Rdr) : r.pos ≤ r.bytes.2.pos := by
  have := r.sized_mono 65536
  unfold Rdr.bytes
  split
  · exact this
  · show r.pos ≤ (r.sized 65536).2.pos + _; omega
theorem Rdr.bool_mono (r : Rdr) : r.pos ≤ r.bool_.2.pos := by
  unfold Rdr.bool_
  (repeat' split) <;> simp
theorem Rdr.op_mono (r : Rdr) : r.pos ≤ r.op.2.pos := by
  show r.pos ≤ r.int.2.bytes.2.bytes.2.int.2.bytes.2.int.2.int.2.pos
  exact Nat.le_trans r.int_mono (Nat.le_trans (Rdr.bytes_mono _) (Nat.le_trans (Rdr.bytes_mono _) (Nat.le_trans (Rdr.int_mono _) (Nat.le_trans (Rdr.bytes_mono _) (Nat.le_trans (Rdr.int_mono _) (Rdr.int_mono _))))))

/-- Bytes out of the middle of a slice. -/
theorem RdB.cutlh {w : World} {A : Option Addr} {n c : Nat} {bs : List UInt8} (h : RdB w (.slice A n c) bs) (l k : Nat) (h1 : l ≤ k) (h2 : k ≤ n) :
    RdB w (.slice (if c = l then A else Option.map (fun q => Addr.add q (l * 1)) A) (k - l) (c - l)) ((bs.drop l).take (k - l)) := by
  have hs := h.slice
  have := Rd.cut h l k c h1 (by omega) (Nat.le_refl _) h2
  have e : ((bv bs).drop (l * 1)).take ((k - l) * 1) = bv ((bs.drop l).take (k - l)) := by
    simp only [bv, Nat.mul_one, List.map_drop, List.map_take]
  rw [e] at this
  exact this
end Go.Q
namespace Go.Q
/-! ### what a reader's methods have in common -/
structure Rdr.Goes (r r' : Rdr) : Prop where
  bs : r'.bs = r.bs
  mono : r.pos ≤ r'.pos
  pos : r.why ≠ 0 → r'.pos = r.pos
  why : r.why ≠ 0 → r'.why = r.why
theorem Rdr.goes_of {r r' : Rdr} (h1 : r'.bs = r.bs) (h2 : r.pos ≤ r'.pos) (h3 : r.why ≠ 0 → r' = r) : r.Goes r' := ⟨h1, h2, fun h => by rw [h3 h], fun h => by rw [h3 h]⟩
theorem Rdr.goes_uint (r : Rdr) : r.Goes r.uint.2 := goes_of r.uint_bs r.uint_mono fun h => by rw [Rdr.uint_err h]
theorem Rdr.goes_int (r : Rdr) : r.Goes r.int.2 := goes_of r.int_bs r.int_mono fun h => by rw [Rdr.int_err h]
theorem Rdr.goes_sized (r : Rdr) (m : Int) : r.Goes (r.sized m).2 := goes_of (r.sized_bs m) (r.sized_mono m) fun h => by rw [Rdr.sized_err h]
theorem Rdr.goes_bytes (r : Rdr) : r.Goes r.bytes.2 := goes_of r.bytes_bs r.bytes_mono fun h => by rw [Rdr.bytes_err h]
theorem Rdr.goes_bool (r : Rdr) : r.Goes r.bool_.2 := goes_of r.bool_bs r.bool_mono fun h => by rw [Rdr.bool_err h]
theorem Rdr.goes_op (r : Rdr) : r.Goes r.op.2 := goes_of r.op_bs r.op_mono fun h => Rdr.op_err h
theorem Rdr.end_spec (r : Rdr) : (r.why = 0 → r.end_ = 0 ∨ r.end_ = 11) ∧ (r.why ≠ 0 → r.end_ = r.why) := by
  unfold Rdr.end_
  constructor
  · intro h; split
    · exact .inr rfl
    · exact .inl h
  · intro h; rw [if_neg (fun q => h q.1)]

def cnt (a k : Int) : Int := if a.tmod k < 0 then a.tmod k + k else a.tmod k
theorem tmod_range (a : Int) {k : Int} (hk : 0 < k) : -k < a.tmod k ∧ a.tmod k < k := by
  have h1 := Int.tmod_lt_of_pos a hk
  have h2 := Int.tmod_lt_of_pos (-a) hk
  rw [Int.neg_tmod] at h2
  omega
theorem cnt_range (a : Int) {k : Int} (hk : 0 < k) : 0 ≤ cnt a k ∧ cnt a k < k := by
  have := tmod_range a hk
  unfold cnt
  split <;> omega
end Go.Q
namespace Go.Q
open Go.ChangeShapes Go.WideShapes Go.ChangeAt Go.RowKit Go.Deep

section
variable {H : Type} {enc : TypeId × Value → H} {P : Program} {w : World} {base : Nat} {spare : Nat → Bool} {held : Bool}

/-- A slice that comes in: its cells, element by element. -/
theorem open_rows {t e : TypeId} {sz : Nat} {v : Value} {d : DataW H} {ps : List MemPlace} (R : List Value → Prop) (ht : P.underlying t = some (.slice e)) (hC : P.cellsOf e = sz) (hsz : 0 < sz)
    (hv : ∃ A n c, v = .slice A n c) {fuel : Nat} (h : DataW.trod enc P w base spare held fuel t [v] = some (d, ps))
    (dec : ∀ (m : Nat) (cs : List Value) (y : DataW H × List MemPlace), cs.length = sz → DataW.trod enc P w base spare held m e cs = some y → R cs) :
    ∃ css : List (List Value), Rd w sz v css.flatten ∧ (∀ cs ∈ css, cs.length = sz ∧ R cs) ∧ (css = [] ∨ ∃ el sp, d = .slice el sp ∧ el.length = css.length) ∧ ∃ A c, v = .slice A css.length c := by
  obtain ⟨A, n, cap, rfl⟩ := hv
  rcases open_slice ht h with ⟨hcs, _⟩ | ⟨a, len, cap', m, k, D, Pl, hcs, hb, hl, hm, hmm, hxx, hi⟩
  · simp only [List.cons.injEq, and_true, Value.slice.injEq] at hcs
    obtain ⟨rfl, rfl, rfl⟩ := hcs
    exact ⟨[], Rd.nil w sz, by simp, .inl rfl, none, 0, rfl⟩
  · simp only [List.cons.injEq, and_true, Value.slice.injEq] at hcs
    obtain ⟨rfl, rfl, rfl⟩ := hcs
    have hlm : n ≤ m := by rw [hmm]; split <;> omega
    have h1 : ∀ i, i < n → ∃ cs : List Value, cs.length = sz ∧ R cs ∧ ∀ j u, cs[j]? = some u → w.cell? (a.add (i * sz + j)) = some u := by
      intro i hin
      obtain ⟨cs, hc, htr⟩ := hi i (by omega)
      rw [hC] at hc
      obtain ⟨_, hlen, hcell⟩ := World.cells?_some hc
      refine ⟨cs, hlen, dec _ cs _ hlen htr, fun j u hu => ?_⟩
      have hj : j < sz := by rw [← hlen]; exact (List.getElem?_eq_some_iff.1 hu).1
      rw [← Go.Deep.add_add, hcell j hj, hu]
    obtain ⟨g, hg⟩ := choose_lt h1
    have hfl : ∀ k, k ≤ n → (((List.range k).map g).flatten).length = k * sz := by
      intro k
      induction k with
      | zero => simp
      | succ k ih =>
        intro hk
        rw [List.range_succ, List.map_append, List.flatten_append, List.length_append, ih (by omega)]
        simp only [List.map_cons, List.map_nil, List.flatten_cons, List.flatten_nil, List.append_nil]
        rw [(hg k (by omega)).1, Nat.add_mul, Nat.one_mul]
    have hat : ∀ k, k ≤ n → ∀ j u, (((List.range k).map g).flatten)[j]? = some u → ∃ i, i < k ∧ i * sz ≤ j ∧ (g i)[j - i * sz]? = some u := by
      intro k
      induction k with
      | zero => intro _ j u hu; simp at hu
      | succ k ih =>
        intro hk j u hu
        rw [List.range_succ, List.map_append, List.flatten_append] at hu
        simp only [List.map_cons, List.map_nil, List.flatten_cons, List.flatten_nil, List.append_nil] at hu
        rw [List.getElem?_append, hfl k (by omega)] at hu
        split at hu
        · obtain ⟨i, h1, h2, h3⟩ := ih (by omega) j u hu
          exact ⟨i, by omega, h2, h3⟩
        · exact ⟨k, by omega, by omega, hu⟩
    refine ⟨(List.range n).map g, ⟨some a, n, cap, rfl, hfl n (Nat.le_refl _), hl, hm, fun h0 => ?_⟩, ?_, ?_, ?_⟩
    · have hspot : a.spot = none := by
        obtain ⟨cs, hc, htr⟩ := hi 0 (by omega)
        rw [hC] at hc
        obtain ⟨_, hlen, hcell⟩ := World.cells?_some hc
        have h2 := hcell 0 hsz
        have h3 : (0 * sz) = 0 := by simp
        rw [h3] at h2
        have h4 : cs[0]? = some (cs[0]'(by omega)) := List.getElem?_eq_getElem (by omega)
        rw [h4] at h2
        have h5 : (a.add 0).add 0 = a := by simp [Addr.add]
        rw [h5] at h2
        unfold World.cell? at h2
        split at h2
        · split at h2
          · cases h2
          · rename_i hns; simpa using hns
        · cases h2
      obtain ⟨b, off, spot⟩ := a
      simp only at hspot
      subst hspot
      refine ⟨b, off, rfl, fun j u hu => ?_⟩
      obtain ⟨i, h1, h2, h3⟩ := hat n (Nat.le_refl _) j u hu
      have := (hg i h1).2.2 _ u h3
      rw [add_plain] at this
      rw [show off + j = off + (i * sz + (j - i * sz)) from by omega]
      exact this
    · intro cs hcs
      obtain ⟨i, hi, rfl⟩ := List.mem_map.1 hcs
      have := hg i (List.mem_range.1 hi)
      exact ⟨this.1, this.2.1⟩
    · right
      simp only [Prod.mk.injEq] at hxx
      exact ⟨_, _, hxx.1, by simp⟩
    · exact ⟨some a, cap, by simp⟩
theorem slice_form {t e : TypeId} {v : Value} (ht : P.underlying t = some (.slice e)) (hv : Value.okWide P w .any 0 t v) : ∃ A n c, v = .slice A n c := by
  obtain ⟨A, n, c, h⟩ := okWide_slice ht hv
  exact ⟨A, n, c, h⟩

theorem dec_byte {e : TypeId} (he : P.underlying e = some (.int .u8)) {m : Nat} {cs : List Value} {y : DataW H × List MemPlace} (hlen : cs.length = 1) (htr : DataW.trod enc P w base spare held m e cs = some y) :
    ∃ x : UInt8, cs = [.int .u8 ((x.toNat : Nat) : Int)] := by
  match cs, hlen with
  | [z], _ =>
    obtain ⟨k, hk, _, hw⟩ := DataW.trod_int he htr
    simp only [List.cons.injEq, and_true] at hk
    subst hk
    simp only [Lit.wf, Bool.and_eq_true, decide_eq_true_eq] at hw
    have e1 : IntKind.u8.min = 0 := by decide
    have e2 : IntKind.u8.max = 255 := by decide
    rw [e1, e2] at hw
    refine ⟨UInt8.ofNat k.toNat, ?_⟩
    have : ((UInt8.ofNat k.toNat).toNat : Int) = k := by simp; omega
    rw [this]
theorem dec_i64 {e : TypeId} (he : P.underlying e = some (.int .i64)) {m : Nat} {cs : List Value} {y : DataW H × List MemPlace} (hlen : cs.length = 1) (htr : DataW.trod enc P w base spare held m e cs = some y) :
    ∃ x : Int, cs = [i64 x] ∧ -9223372036854775808 ≤ x ∧ x ≤ 9223372036854775807 := by
  match cs, hlen with
  | [z], _ =>
    obtain ⟨k, hk, _, hw⟩ := DataW.trod_int he htr
    simp only [List.cons.injEq, and_true] at hk
    subst hk
    exact ⟨k, rfl, wf_i64 hw⟩

theorem flat_bytes : ∀ {css : List (List Value)}, (∀ cs ∈ css, ∃ x : UInt8, cs = [.int .u8 ((x.toNat : Nat) : Int)]) → ∃ bs : List UInt8, css.flatten = bv bs ∧ bs.length = css.length
  | [], _ => ⟨[], rfl, rfl⟩
  | cs :: css, h => by
    obtain ⟨x, rfl⟩ := h cs (by simp)
    obtain ⟨bs, hb, hl⟩ := flat_bytes (css := css) fun c hc => h c (by simp [hc])
    exact ⟨x :: bs, by rw [List.flatten_cons, hb]; rfl, by simp [hl]⟩
theorem flat_ints : ∀ {css : List (List Value)}, (∀ cs ∈ css, ∃ x : Int, cs = [i64 x] ∧ -9223372036854775808 ≤ x ∧ x ≤ 9223372036854775807) →
    ∃ l : List Int, css.flatten = ints l ∧ l.length = css.length ∧ ∀ x ∈ l, -9223372036854775808 ≤ x ∧ x ≤ 9223372036854775807
  | [], _ => ⟨[], rfl, rfl, by simp⟩
  | cs :: css, h => by
    obtain ⟨x, rfl, hx⟩ := h cs (by simp)
    obtain ⟨l, hb, hl, hr⟩ := flat_ints (css := css) fun c hc => h c (by simp [hc])
    refine ⟨x :: l, by rw [List.flatten_cons, hb]; rfl, by simp [hl], fun y hy => ?_⟩
    rcases List.mem_cons.1 hy with rfl | hy
    · exact hx
    · exact hr y hy

theorem open_bytes_in {t e : TypeId} {v : Value} {d : DataW H} {ps : List MemPlace} {fuel : Nat} (ht : P.underlying t = some (.slice e)) (he : P.underlying e = some (.int .u8)) (hC : P.cellsOf e = 1)
    (hv : ∃ A n c, v = .slice A n c) (h : DataW.trod enc P w base spare held fuel t [v] = some (d, ps)) : ∃ bs : List UInt8, RdB w v bs ∧ (bs.length = 0 ∨ ∃ el sp, d = .slice el sp ∧ el.length = bs.length) := by
  obtain ⟨css, hr, hc, hd, _⟩ := open_rows (fun cs => ∃ x : UInt8, cs = [.int .u8 ((x.toNat : Nat) : Int)]) ht hC (by decide) hv h fun m cs y hl htr => dec_byte he hl htr
  obtain ⟨bs, hb, hl⟩ := flat_bytes fun cs hcs => (hc cs hcs).2
  refine ⟨bs, by unfold RdB; rw [← hb]; exact hr, ?_⟩
  rcases hd with rfl | ⟨el, sp, h1, h2⟩
  · exact .inl (by simpa using hl)
  · exact .inr ⟨el, sp, h1, by omega⟩
theorem trod_fuel {t : TypeId} {v : Value} {d : DataW H} {ps : List MemPlace} (h : DataW.Trod enc P w base spare held t v d ps) (hv : ∃ A n c, v = .slice A n c) : ∃ fuel, DataW.trod enc P w base spare held fuel t [v] = some (d, ps) := by
  obtain ⟨A, n, c, rfl⟩ := hv
  obtain ⟨fuel, hf⟩ := h
  exact ⟨fuel, by simpa [Value.cells] using hf⟩
/-- Bytes that come in, with their size. -/
theorem open_bytes2 {t e : TypeId} {v : Value} {d : DataW H} {ps : List MemPlace} (ht : P.underlying t = some (.slice e)) (he : P.underlying e = some (.int .u8)) (hC : P.cellsOf e = 1)
    (hv : Value.okWide P w .any 0 t v) (h : DataW.Trod enc P w base spare held t v d ps) : ∃ bs : List UInt8, RdB w v bs ∧ (bs.length = 0 ∨ ∃ el sp, d = .slice el sp ∧ el.length = bs.length) := by
  have hf := slice_form ht hv
  obtain ⟨fuel, h⟩ := trod_fuel h hf
  exact open_bytes_in ht he hC hf h
/-- Numbers that come in. -/
theorem open_ints {t e : TypeId} {v : Value} {d : DataW H} {ps : List MemPlace} (ht : P.underlying t = some (.slice e)) (he : P.underlying e = some (.int .i64)) (hC : P.cellsOf e = 1)
    (hv : Value.okWide P w .any 0 t v) (h : DataW.Trod enc P w base spare held t v d ps) : ∃ l : List Int, (∃ A c, v = .slice A l.length c) ∧ Rd w 1 v (ints l) ∧ (∀ x ∈ l, -9223372036854775808 ≤ x ∧ x ≤ 9223372036854775807) := by
  have hf := slice_form ht hv
  obtain ⟨fuel, h⟩ := trod_fuel h hf
  obtain ⟨css, hr, hc, hd, A, c, hA⟩ := open_rows (fun cs => ∃ x : Int, cs = [i64 x] ∧ -9223372036854775808 ≤ x ∧ x ≤ 9223372036854775807) ht hC (by decide) hf h fun m cs y hl htr => dec_i64 he hl htr
  obtain ⟨l, hb, hl, hrg⟩ := flat_ints fun cs hcs => (hc cs hcs).2
  exact ⟨l, ⟨A, c, by rw [hA, hl]⟩, by rw [← hb]; exact hr, hrg⟩
/-- The size of a slice that comes in. -/
theorem size_in {ts : List TypeId} {ds : List (DataW H)} (hz : (DataW.weightsEach P ts ds).all (· ≤ reachBytes) = true) {j : Nat} {t e : TypeId} {d : DataW H} {n sz : Nat} (ht : ts[j]? = some t) (hd : ds[j]? = some d)
    (hu : P.underlying t = some (.slice e)) (hb : P.bytesOf e = sz) (h : n = 0 ∨ ∃ el sp, d = .slice el sp ∧ el.length = n) : n * sz ≤ 140737488351232 := by
  rcases h with rfl | ⟨el, sp, rfl, rfl⟩
  · simp
  · have := sized_slice hz ht hd hu
    rw [hb] at this
    have e : reachBytes = 140737488351232 := by decide
    rw [e, Nat.add_mul] at this
    omega
end

/-! ### reading rows -/
theorem Rd.addr {w : World} {sz n c : Nat} {A : Option Addr} {xs : List Value} (h : Rd w sz (.slice A n c) xs) (h0 : 0 < n) : ∃ b o, A = some ⟨b, o, none⟩ := by
  obtain ⟨A', n', c', he, hl, hc, hm, hx⟩ := h
  injection he with e1 e2 e3
  subst e1; subst e2; subst e3
  obtain ⟨b, off, rfl, _⟩ := hx h0
  exact ⟨b, off, rfl⟩
theorem Rd.len {w : World} {sz n c : Nat} {A : Option Addr} {xs : List Value} (h : Rd w sz (.slice A n c) xs) : xs.length = n * sz ∧ n ≤ c ∧ c ≤ maxLen := by
  obtain ⟨A', n', c', he, hl, hc, hm, hx⟩ := h
  injection he with e1 e2 e3
  subst e1; subst e2; subst e3
  exact ⟨hl, hc, hm⟩
theorem Rd.cell {w : World} {sz n c b off k : Nat} {A : Option Addr} {xs : List Value} {u : Value} (h : Rd w sz (.slice A n c) xs) (hA : A = some ⟨b, off, none⟩) (hx : xs[k]? = some u) : w.cell? ⟨b, off + k, none⟩ = some u := by
  have hk := (List.getElem?_eq_some_iff.1 hx).1
  obtain ⟨A', n', c', he, hl, hc, hm, hcell⟩ := h
  injection he with e1 e2 e3
  subst e1; subst e2; subst e3
  have h0 : 0 < n := by
    rcases Nat.eq_zero_or_pos n with h | h
    · subst h; simp at hl; subst hl; simp at hk
    · exact h
  obtain ⟨b', off', hA', hc'⟩ := hcell h0
  rw [hA] at hA'
  injection hA' with e
  injection e with e1 e2 e3
  subst e1; subst e2
  exact hc' k u hx
theorem Rd.ld1 {P : Program} {t : TypeId} {w : World} {sz n c b off k : Nat} {A : Option Addr} {xs : List Value} {u : Value} (h : Rd w sz (.slice A n c) xs) (ht : isAgg? P t = some false) (hA : A = some ⟨b, off, none⟩) (hx : xs[k]? = some u) :
    Loads P w t ⟨b, off + k, none⟩ u := loads_one ht (h.cell hA hx)
theorem Rd.ldN {P : Program} {t : TypeId} {w : World} {sz n c b off k : Nat} {A : Option Addr} {xs : List Value} {vs : List Value} (h : Rd w sz (.slice A n c) xs) (ht : isAgg? P t = some true) (hs : size? P t = some vs.length) (hA : A = some ⟨b, off, none⟩)
    (hx : ∀ j u, vs[j]? = some u → xs[k + j]? = some u) : Loads P w t ⟨b, off + k, none⟩ (agg vs) := by
  refine loads_agg ht hs fun j u hu => ?_
  rw [add_plain, Nat.add_assoc]
  exact h.cell hA (hx j u hu)
end Go.Q
namespace Go.Q
open Go.RowKit

section
variable {α : Type} {f : α → List Value} {P : Program} {w : World} {t ty e sz bytes base : Nat} {v : Value} {l : List α}

abbrev OwnT (w : World) (base e sz : Nat) (f : α → List Value) (v : Value) (l : List α) : Prop := w.ownsRow base e sz v l.length (l.flatMap f)
abbrev RdT (w : World) (sz : Nat) (f : α → List Value) (v : Value) (l : List α) : Prop := Rd w sz v (l.flatMap f)
theorem flat_len (hf : ∀ x, (f x).length = sz) : ∀ l : List α, (l.flatMap f).length = l.length * sz
  | [] => by simp
  | x :: l => by rw [List.flatMap_cons, List.length_append, hf, flat_len hf l, List.length_cons, Nat.add_mul, Nat.one_mul, Nat.add_comm]
theorem one_append : ∀ {xs ys : List Value}, oneCells xs = true → oneCells ys = true → oneCells (xs ++ ys) = true
  | [], ys, _, h => h
  | x :: xs, ys, h, k => by
    simp only [oneCells, Bool.and_eq_true] at h
    simp only [List.cons_append, oneCells, Bool.and_eq_true]
    exact ⟨h.1, one_append h.2 k⟩
theorem flat_one (h1 : ∀ x, oneCells (f x) = true) : ∀ l : List α, oneCells (l.flatMap f) = true
  | [] => rfl
  | x :: l => by rw [List.flatMap_cons]; exact one_append (h1 x) (flat_one h1 l)
theorem flat_at (hf : ∀ x, (f x).length = sz) : ∀ {l : List α} {k : Nat} {x : α}, l[k]? = some x → ∀ j u, (f x)[j]? = some u → (l.flatMap f)[k * sz + j]? = some u
  | [], k, x, h, _, _, _ => by simp at h
  | y :: l, 0, x, h, j, u, hu => by
    simp only [List.getElem?_cons_zero, Option.some.injEq] at h
    subst h
    rw [List.flatMap_cons, Nat.zero_mul, Nat.zero_add, List.getElem?_append_left (List.getElem?_eq_some_iff.1 hu).1]
    exact hu
  | y :: l, k + 1, x, h, j, u, hu => by
    simp only [List.getElem?_cons_succ] at h
    rw [List.flatMap_cons, List.getElem?_append_right (by rw [hf, Nat.add_mul]; omega), hf, show (k + 1) * sz + j - sz = k * sz + j from by rw [Nat.add_mul]; omega]
    exact flat_at hf h j u hu
theorem OwnT.nil (w : World) (base e sz : Nat) (f : α → List Value) : OwnT w base e sz f (.slice none 0 0) [] := World.ownsRow_nil _ _ _ _
theorem OwnT.rd (h : OwnT w base e sz f v l) : RdT w sz f v l := Rd.of_own h
theorem OwnT.app (hf : ∀ x, (f x).length = sz) (h1 : ∀ x, oneCells (f x) = true) (T : ElemTy P t e sz bytes) (h : OwnT w base e sz f v l) {x : Value} {ys : List α} (hx : RdT w sz f x ys)
    (hb : (l.length + ys.length) * bytes ≤ 140737488355328) (hl : l.length + ys.length ≤ 140737488355328) (hbase : base ≤ w.heap.size) :
    ∃ v' w', (Builtin.append_ #[t, t] ty #[v, x]).run P w = .ok v' w' ∧ OwnT w' base e sz f v' (l ++ ys) ∧ Keeps (fun i => v.ownBlock = some i) w w' ∧ ∀ i, v'.ownBlock = some i → v.ownBlock = some i ∨ w.heap.size ≤ i := by
  have hm : l.length + ys.length ≤ maxLen := by simp only [maxLen]; omega
  obtain ⟨v', w', hr, ho, hk, hg⟩ := own_app2 (ty := ty) T h hx (m := ys.length) (flat_len hf ys) (flat_one h1 ys) hb hm hbase
  refine ⟨v', w', hr, ?_, hk, hg⟩
  unfold OwnT
  rw [List.length_append, List.flatMap_append]
  exact ho
theorem RdT.len {n c : Nat} {A : Option Addr} (hf : ∀ x, (f x).length = sz) (h0 : 0 < sz) (h : RdT w sz f (.slice A n c) l) : l.length = n ∧ n ≤ c ∧ c ≤ maxLen := by
  obtain ⟨h1, h2, h3⟩ := Rd.len h
  rw [flat_len hf] at h1
  exact ⟨Nat.eq_of_mul_eq_mul_right h0 h1, h2, h3⟩
theorem RdT.form (hf : ∀ x, (f x).length = sz) (h0 : 0 < sz) (h : RdT w sz f v l) : ∃ A c, v = .slice A l.length c := by
  have h' := h
  obtain ⟨A, n, c, rfl, _⟩ := h
  exact ⟨A, c, by rw [(RdT.len hf h0 h').1]⟩
theorem RdT.ld {A : Option Addr} {n c k b off : Nat} {x : α} (hf : ∀ x, (f x).length = sz) (h : RdT w sz f (.slice A n c) l) (ht : isAgg? P t = some true) (hs : size? P t = some sz) (hA : A = some ⟨b, off, none⟩) (hx : l[k]? = some x) :
    Loads P w t ⟨b, off + k * sz, none⟩ (agg (f x)) := by
  rw [← hf x] at hs
  exact Rd.ldN h ht hs hA fun j u hu => flat_at hf hx j u hu
theorem RdT.ldf {A : Option Addr} {n c k b off o : Nat} {x : α} {u : Value} (hf : ∀ x, (f x).length = sz) (h : RdT w sz f (.slice A n c) l) (ht : isAgg? P t = some false) (hA : A = some ⟨b, off, none⟩) (hx : l[k]? = some x) (hu : (f x)[o]? = some u) :
    Loads P w t ⟨b, off + k * sz + o, none⟩ u := by
  rw [Nat.add_assoc]
  exact Rd.ld1 h ht hA (flat_at hf hx o u hu)
end

/-! ### rows of accounts -/
structure RowM where
  name : List UInt8
  amount : Int
def RowM.cells (x : RowM) : List Value := [.string (str x.name), i64 x.amount]
theorem RowM.two (x : RowM) : x.cells.length = 2 := rfl
theorem RowM.one (x : RowM) : oneCells x.cells = true := rfl
abbrev OwnR (w : World) (base e : Nat) (v : Value) (l : List RowM) : Prop := OwnT w base e 2 RowM.cells v l
abbrev RdR (w : World) (v : Value) (l : List RowM) : Prop := RdT w 2 RowM.cells v l

/-- An answer. -/
structure ReplyM where
  why : Int
  amount : Int
  rows : List RowM
def Rdr.rows : Nat → Rdr → List RowM × Rdr
  | 0, r => ([], r)
  | n + 1, r => (⟨r.bytes.1, r.bytes.2.int.1⟩ :: (Rdr.rows n r.bytes.2.int.2).1, (Rdr.rows n r.bytes.2.int.2).2)
def Rdr.rhead (r : Rdr) : Nat × Rdr := r.int.2.int.2.sized 600
def Rdr.reply (r : Rdr) : ReplyM × Rdr := (⟨r.int.1, r.int.2.int.1, (Rdr.rows r.rhead.1 r.rhead.2).1⟩, (Rdr.rows r.rhead.1 r.rhead.2).2)
theorem Rdr.rows_bs : ∀ (n : Nat) (r : Rdr), (Rdr.rows n r).2.bs = r.bs
  | 0, r => rfl
  | n + 1, r => by show (Rdr.rows n r.bytes.2.int.2).2.bs = r.bs; rw [Rdr.rows_bs n, Rdr.int_bs, Rdr.bytes_bs]
theorem Rdr.Ok.rows : ∀ (n : Nat) {r : Rdr}, r.Ok → (Rdr.rows n r).2.Ok
  | 0, r, h => h
  | n + 1, r, h => Rdr.Ok.rows n h.bytes.int
theorem Rdr.reply_bs (r : Rdr) : r.reply.2.bs = r.bs := by
  show (Rdr.rows r.rhead.1 r.rhead.2).2.bs = r.bs
  rw [Rdr.rows_bs]; show (r.int.2.int.2.sized 600).2.bs = r.bs; rw [Rdr.sized_bs, Rdr.int_bs, Rdr.int_bs]
theorem Rdr.Ok.reply {r : Rdr} (h : r.Ok) : r.reply.2.Ok := Rdr.Ok.rows _ (h.int.int.sized 600)
theorem Rdr.rows_len : ∀ (n : Nat) (r : Rdr), (Rdr.rows n r).1.length = n
  | 0, r => rfl
  | n + 1, r => by show ((Rdr.rows n r.bytes.2.int.2).1).length + 1 = n + 1; rw [Rdr.rows_len n]
theorem Rdr.sized_most (r : Rdr) (m : Int) : (r.sized m).1 = 0 ∨ (((r.sized m).1 : Nat) : Int) ≤ m := by
  unfold Rdr.sized
  split
  · exact .inl rfl
  · split
    · exact .inl rfl
    · split
      · exact .inl rfl
      · split
        · exact .inl rfl
        · right; omega
theorem Rdr.rhead_le (r : Rdr) : r.rhead.1 ≤ 600 := by
  have := Rdr.sized_most r.int.2.int.2 600
  show (r.int.2.int.2.sized 600).1 ≤ 600
  omega
theorem Rdr.rows_err : ∀ (n : Nat) {r : Rdr}, r.why ≠ 0 → (Rdr.rows n r).2 = r
  | 0, r, _ => rfl
  | n + 1, r, h => by
    show (Rdr.rows n r.bytes.2.int.2).2 = r
    rw [Rdr.bytes_err h]
    show (Rdr.rows n r.int.2).2 = r
    rw [Rdr.int_err h]
    exact Rdr.rows_err n h
theorem Rdr.reply_err {r : Rdr} (h : r.why ≠ 0) : r.reply.2 = r := by
  show (Rdr.rows (r.int.2.int.2.sized 600).1 (r.int.2.int.2.sized 600).2).2 = r
  rw [Rdr.int_err h, Rdr.int_err h, Rdr.sized_err h]
  exact Rdr.rows_err _ h
theorem Rdr.rows_next {N i : Nat} {R R0 : Rdr} {l : List RowM} (hE : l ++ (Rdr.rows (N - i) R).1 = (Rdr.rows N R0).1) (hF : (Rdr.rows (N - i) R).2 = (Rdr.rows N R0).2) (hi : i < N) :
    (l ++ [⟨R.bytes.1, R.bytes.2.int.1⟩]) ++ (Rdr.rows (N - (i + 1)) R.bytes.2.int.2).1 = (Rdr.rows N R0).1 ∧ (Rdr.rows (N - (i + 1)) R.bytes.2.int.2).2 = (Rdr.rows N R0).2 := by
  have e : N - i = (N - (i + 1)) + 1 := by omega
  rw [e] at hE hF
  refine ⟨?_, hF⟩
  rw [← hE, List.append_assoc]
  rfl
theorem Rdr.rows_done {N i : Nat} {R R0 : Rdr} {l : List RowM} (hE : l ++ (Rdr.rows (N - i) R).1 = (Rdr.rows N R0).1) (hF : (Rdr.rows (N - i) R).2 = (Rdr.rows N R0).2) (hi : ¬ i < N) : (Rdr.rows N R0).1 = l ∧ (Rdr.rows N R0).2 = R := by
  have e : N - i = 0 := by omega
  rw [e] at hE hF
  exact ⟨by rw [← hE]; exact List.append_nil l, hF.symm⟩
end Go.Q
namespace Go.Q
open Go.RowKit

section
variable {P : Program} {n : Nat} {os : Array Oper} {K : Loc → World → Prop} {L L' : Loc} {w : World} {i j : Nat} {d di dj : Option Tmp} {S : World → Prop} {fuel : Nat} {is : List Nat}

theorem Dr.callStep {f : Nat} {args : Array Value} {R : Ending → World → Prop} (hc : call? P os L i = some (f, args)) (hd : dst? os i = some d) (C : Calls P f args w R)
    (h : ∀ e w', R e w' → ∃ v L', e = .returned v ∧ setL n d v L = some L' ∧ S w' ∧ Dr P n os S fuel (i :: is) K L' w') {a : Act} (ha : Rep n a L) :
    wpOp P os (drPost n K) i (fun a' w' => S w' ∧ wpAnyH P .any os (drPost n K) S fuel (marks os.size (i :: is)) a' w') a w := by
  unfold call? at hc
  cases h0 : at? os L i with
  | none => rw [h0] at hc; cases hc
  | some o =>
    rw [h0] at hc
    simp only at hc
    cases hx : next? P L o with
    | none => rw [hx] at hc; cases hc
    | some x =>
      rw [hx] at hc
      cases x with
      | enter f' args' =>
        simp only [Option.some.injEq, Prod.mk.injEq] at hc
        obtain ⟨rfl, rfl⟩ := hc
        obtain ⟨ho, hw, _, _⟩ := at?_spec h0
        have hd' : o.dst = d := by simpa [dst?, ho] using hd
        unfold wpOp
        simp only [ho, wants_wanted ha hw, if_true, Oper.wp, next?_run ha hx, Oper.upon]
        refine .inl (Calls.mono C fun e w' he => ?_)
        obtain ⟨v, L', rfl, hs, hS', hn⟩ := h e w' he
        exact ⟨hS', hn hS' _ (ha.setL (by rw [hd']; exact hs))⟩
      | _ => cases hc

/-- A load and a call are ready: whichever comes first, the call leaves what is loaded. -/
theorem Dr.load_call {t : TypeId} {a : Addr} {v : Value} {f : Nat} {args : Array Value} {R : Ending → World → Prop} {L1 : Loc} {l : List Nat}
    (hr : Region.ready .any os (marks os.size is) = l) (hl2 : l = [i, j] ∨ l = [j, i]) (hij : Region.ready .any os (marks os.size (i :: is)) = [j]) (hji : Region.ready .any os (marks os.size (j :: is)) = [i]) (hm : marks os.size (i :: j :: is) = marks os.size (j :: i :: is))
    (hi0 : okAt os L i = true) (hld : ld? L (opn os i) = some (t, a)) (hdi : dst? os i = some di) (hsi : setL n di v L = some L1)
    (hc1 : call? P os L1 j = some (f, args)) (hc0 : call? P os L j = some (f, args)) (hdj : dst? os j = some dj)
    (hl : Loads P w t a v) (hS : S w) (C : Calls P f args w R)
    (h : ∀ e w', R e w' → ∃ u Rl L2, e = .returned u ∧ Loads P w' t a v ∧ S w' ∧ (match setL n dj u L1 with | some Lx => restrict Lx (Rl.map Prod.fst) | none => none) = some Rl ∧
      setL n dj u L = some L2 ∧ okAt os L2 i = true ∧ ld? L2 (opn os i) = some (t, a) ∧ (match setL n di v L2 with | some Lx => restrict Lx (Rl.map Prod.fst) | none => none) = some Rl ∧ Dr P n os S fuel (j :: i :: is) K Rl w') : Dr P n os S (fuel + 2) is K L w := by
  intro hS0 act ha
  refine wpAnyH_all hr (by rcases hl2 with rfl | rfl <;> simp) fun q hq => ?_
  have hq : q = i ∨ q = j := by rcases hl2 with rfl | rfl <;> simp at hq <;> omega
  rcases hq with rfl | rfl
  · refine Dr.opStep hi0 (Runs.load hld hl) hdi hsi hS ?_ ha
    refine Dr.call hij hc1 hdj (fun _ => C) fun e w' he => ?_
    obtain ⟨u, Rl, L2, rfl, h1, h2, h3, h4, h5, h6, h7, h8⟩ := h e w' he
    cases hx : setL n dj u L1 with
    | none => rw [hx] at h3; cases h3
    | some Lx =>
      rw [hx] at h3
      exact ⟨u, Lx, rfl, hx, h2, Dr.keep h3 h8⟩
  · refine Dr.callStep hc0 hdj C (fun e w' he => ?_) ha
    obtain ⟨u, Rl, L2, rfl, h1, h2, h3, h4, h5, h6, h7, h8⟩ := h e w' he
    refine ⟨u, L2, rfl, h4, h2, ?_⟩
    cases hx : setL n di v L2 with
    | none => rw [hx] at h7; cases h7
    | some Lx =>
      rw [hx] at h7
      refine Dr.go hji h5 (Runs.load h6 h1) hdi hx h2 (Dr.keep h7 ?_)
      unfold Dr at h8 ⊢
      rw [hm]
      exact h8

/-- The load i floats: the rest goes on with it and without it. L: without, L1: with what it loads. -/
def DrB (P : Program) (n : Nat) (os : Array Oper) (S : World → Prop) (fuel : Nat) (is : List Nat) (i : Nat) (K : Loc → World → Prop) (L L1 : Loc) (w : World) : Prop :=
  Dr P n os S (fuel + 1) is K L w ∧ Dr P n os S fuel (i :: is) K L1 w
theorem Dr.swap {is' : List Nat} (hm : marks os.size is = marks os.size is') (h : Dr P n os S fuel is K L w) : Dr P n os S fuel is' K L w := by
  unfold Dr at h ⊢
  rw [← hm]
  exact h
theorem Dr.float (L1 : Loc) (i : Nat) (h : DrB P n os S fuel is i K L L1 w) : Dr P n os S (fuel + 1) is K L w := h.1
theorem DrB.call {t : TypeId} {a : Addr} {v : Value} {f : Nat} {args : Array Value} {R : Ending → World → Prop} {L1 : Loc} {l : List Nat}
    (hr : Region.ready .any os (marks os.size is) = l) (hl2 : l = [i, j] ∨ l = [j, i]) (hij : Region.ready .any os (marks os.size (i :: is)) = [j]) (hm : marks os.size (i :: j :: is) = marks os.size (j :: i :: is))
    (hi0 : okAt os L i = true) (hld : ld? L (opn os i) = some (t, a)) (hdi : dst? os i = some di) (hsi : (match setL n di v L with | some Lx => restrict Lx (L1.map Prod.fst) | none => none) = some L1)
    (hc1 : call? P os L1 j = some (f, args)) (hc0 : call? P os L j = some (f, args)) (hdj : dst? os j = some dj)
    (hl : Loads P w t a v) (hS : S w) (C : Calls P f args w R)
    (h : ∀ e w', R e w' → ∃ u La Lb, e = .returned u ∧ S w' ∧ setL n dj u L = some La ∧ setL n dj u L1 = some Lb ∧ DrB P n os S fuel (j :: is) i K La Lb w') : DrB P n os S (fuel + 1) is i K L L1 w := by
  have h2 : Dr P n os S (fuel + 1) (i :: is) K L1 w := Dr.call hij hc1 hdj (fun _ => C) fun e w' he => by
    obtain ⟨u, La, Lb, rfl, h2, h3, h4, h5⟩ := h e w' he
    exact ⟨u, Lb, rfl, h4, h2, Dr.swap hm h5.2⟩
  refine ⟨?_, h2⟩
  intro hS0 act ha
  refine wpAnyH_all hr (by rcases hl2 with rfl | rfl <;> simp) fun q hq => ?_
  have hq : q = i ∨ q = j := by rcases hl2 with rfl | rfl <;> simp at hq <;> omega
  rcases hq with rfl | rfl
  · cases hx : setL n di v L with
    | none => rw [hx] at hsi; cases hsi
    | some Lx =>
      rw [hx] at hsi
      exact Dr.opStep hi0 (Runs.load hld hl) hdi hx hS (Dr.keep hsi h2) ha
  · refine Dr.callStep hc0 hdj C (fun e w' he => ?_) ha
    obtain ⟨u, La, Lb, rfl, h2, h3, h4, h5⟩ := h e w' he
    exact ⟨u, La, rfl, h3, h2, h5.1⟩
theorem DrB.new {t : TypeId} {a : Addr} {v : Value} {o : Obj} {V : Nat → Value} {L1 : Loc} {La Lb : Nat → Loc} {l : List Nat}
    (hr : Region.ready .any os (marks os.size is) = l) (hl2 : l = [i, j] ∨ l = [j, i]) (hij : Region.ready .any os (marks os.size (i :: is)) = [j]) (hm : marks os.size (i :: j :: is) = marks os.size (j :: i :: is))
    (hi0 : okAt os L i = true) (hld : ld? L (opn os i) = some (t, a)) (hdi : dst? os i = some di) (hsi : (match setL n di v L with | some Lx => restrict Lx (L1.map Prod.fst) | none => none) = some L1)
    (hn1 : newAt? P os L1 j = some (o, fun b => some (V b))) (hn0 : newAt? P os L j = some (o, fun b => some (V b))) (hdj : dst? os j = some dj) (hsj0 : ∀ b, setL n dj (V b) L = some (La b)) (hsj1 : ∀ b, setL n dj (V b) L1 = some (Lb b))
    (hl : Loads P w t a v) (hS : S w)
    (h : ∀ b w', b = w.heap.size → Has w' b o → Keeps none_ w w' → w'.heap.size = b + 1 → S w' ∧ DrB P n os S fuel (j :: is) i K (La b) (Lb b) w') : DrB P n os S (fuel + 1) is i K L L1 w := by
  obtain ⟨hS2, hD⟩ := h w.heap.size (w.alloc o) rfl (Has.new w o) (Keeps.alloc w o) (by simp)
  have h2 : Dr P n os S (fuel + 1) (i :: is) K L1 w := by
    obtain ⟨h1, h2⟩ := Runs.new (w := w) hn1
    exact Dr.go hij h1 h2 hdj (hsj1 _) hS2 (Dr.swap hm hD.2)
  refine ⟨?_, h2⟩
  intro hS0 act ha
  refine wpAnyH_all hr (by rcases hl2 with rfl | rfl <;> simp) fun q hq => ?_
  have hq : q = i ∨ q = j := by rcases hl2 with rfl | rfl <;> simp at hq <;> omega
  rcases hq with rfl | rfl
  · cases hx : setL n di v L with
    | none => rw [hx] at hsi; cases hsi
    | some Lx =>
      rw [hx] at hsi
      exact Dr.opStep hi0 (Runs.load hld hl) hdi hx hS (Dr.keep hsi h2) ha
  · obtain ⟨h1, h3⟩ := Runs.new (w := w) hn0
    exact Dr.opStep h1 h3 hdj (hsj0 _) hS2 hD.1 ha
theorem DrB.takes {L1 : Loc} {fuel' : Nat} {is' : List Nat} (todo : List Nat) (Ra Rb : Loc) (hf : Nat.beq (fuel' + todo.length) fuel = true) (hi : todo.reverse ++ is = is') (hm : marks os.size (todo.reverse ++ (i :: is)) = marks os.size (i :: is'))
    (ha : (match Q.takes P n os todo is L with | some L1 => restrict L1 (Ra.map Prod.fst) | none => none) = some Ra) (hb : (match Q.takes P n os todo (i :: is) L1 with | some L1 => restrict L1 (Rb.map Prod.fst) | none => none) = some Rb)
    (h : DrB P n os S fuel' is' i K Ra Rb w) : DrB P n os S fuel is i K L L1 w :=
  ⟨Dr.takes (fuel' := fuel' + 1) todo Ra (Nat.beq_eq ▸ (by have := Nat.eq_of_beq_eq_true hf; omega)) hi ha h.1, Dr.takes todo Rb hf rfl hb (Dr.swap hm.symm h.2)⟩
theorem DrB.end_ {t : TypeId} {a : Addr} {v : Value} {L1 R : Loc} (hr : Region.ready .any os (marks os.size is) = [i]) (hi0 : okAt os L i = true) (hld : ld? L (opn os i) = some (t, a)) (hdi : dst? os i = some di)
    (hsi : (match setL n di v L with | some Lx => restrict Lx (R.map Prod.fst) | none => none) = some R) (hs2 : restrict L1 (R.map Prod.fst) = some R) (hl : Loads P w t a v) (hS : S w) (h : Dr P n os S fuel (i :: is) K R w) : DrB P n os S fuel is i K L L1 w := by
  refine ⟨?_, Dr.keep hs2 h⟩
  cases hx : setL n di v L with
  | none => rw [hx] at hsi; cases hsi
  | some Lx =>
    rw [hx] at hsi
    exact Dr.go hr hi0 (Runs.load hld hl) hdi hx hS (Dr.keep hsi h)
theorem DrB.strong {S' : World → Prop} {L1 : Loc} (hS' : S' w) (hS : ∀ w, S' w → S w) (h : DrB P n os S' fuel is i K L L1 w) : DrB P n os S fuel is i K L L1 w := ⟨Dr.strong hS' hS h.1, Dr.strong hS' hS h.2⟩
theorem DrB.keep {L1 R R1 : Loc} (hs : restrict L (R.map Prod.fst) = some R) (hs1 : restrict L1 (R1.map Prod.fst) = some R1) (h : DrB P n os S fuel is i K R R1 w) : DrB P n os S fuel is i K L L1 w := ⟨Dr.keep hs h.1, Dr.keep hs1 h.2⟩
end
end Go.Q
namespace Go.Q
open Go.RowKit

theorem app_any {P : Program} {w : World} {t ty e bytes n cap g m : Nat} {cs ys : List Value} {x : Value} (T : ElemTy P t e 1 bytes) (h : Has w g (rowL cs e)) (hl : cs.length = cap) (hnc : n ≤ cap) (hcm : cap ≤ maxLen) (hr : Rd w 1 x ys) (hm : ys.length = m) (h0 : 0 < m)
    (h1 : oneCells ys = true) (hb : (n + m) * bytes ≤ 140737488355328) (hm2 : n + m ≤ maxLen) :
    ∃ g' cap' cs' w', (Builtin.append_ #[t, t] ty #[.slice (some ⟨g, 0, none⟩) n cap, x]).run P w = .ok (.slice (some ⟨g', 0, none⟩) (n + m) cap') w' ∧ Has w' g' (rowL cs' e) ∧ cs'.length = cap' ∧ n + m ≤ cap' ∧ cap' ≤ maxLen ∧ Keeps (fun i => i = g) w w' ∧ (g' = g ∨ g' = w.heap.size) := by
  obtain ⟨g', cap', rest', w', hrun, H, f1, f2, f3, K, hg⟩ := app_row (ty := ty) T (xs := cs.take n) (rest := cs.drop n) (cap := cap) (n := n) (by rw [List.take_append_drop]; exact h) (by simp; omega) (by simp; omega) hnc hcm hr (m := m) (by omega) h0 h1 hb hm2
  exact ⟨g', cap', _, w', hrun, H, by rw [List.length_append]; omega, f2, f3, K, hg⟩
theorem own_cases {w : World} {base e : Nat} {v : Value} {xs : List UInt8} (h : OwnB w base e v xs) :
    v = .slice none 0 0 ∨ ∃ g cap cs, v = .slice (some ⟨g, 0, none⟩) xs.length cap ∧ base ≤ g ∧ Has w g (rowL cs e) ∧ xs.length ≤ cap ∧ cap ≤ maxLen ∧ cs.length = cap := by
  rcases h.2 with ⟨hv, hn⟩ | ⟨g, cap, cur, rfl, hb, hg, h1, h2, h3, _⟩
  · exact .inl hv
  · exact .inr ⟨g, cap, cur.toList, rfl, hb, by unfold Has; rw [hg], h1, h2, by simpa using h3⟩
/-- The first ones of an own row, the others standing behind them as room. -/
theorem OwnB.cut {w : World} {base e n c : Nat} {A : Option Addr} {xs ys : List UInt8} (h : OwnB w base e (.slice A n c) (xs ++ ys)) (h0 : 0 < ys.length) : OwnB w base e (.slice A xs.length c) xs := by
  obtain ⟨hl, h⟩ := h
  refine ⟨by simp [bv_length], ?_⟩
  rcases h with ⟨_, hn⟩ | ⟨g, cap, cur, hv, hb, hg, h1, h2, h3, h4⟩
  · rw [List.length_append] at hn; omega
  · injection hv with e1 e2 e3
    subst e1; subst e3
    have hle : xs.length ≤ (xs ++ ys).length := by rw [List.length_append]; omega
    refine .inr ⟨g, c, cur, rfl, hb, hg, by omega, h2, h3, ?_⟩
    have : cur.toList.take (xs.length * 1) = (cur.toList.take ((xs ++ ys).length * 1)).take (xs.length * 1) := by rw [List.take_take, Nat.min_eq_left (by omega)]
    rw [this, h4, bv_append, Nat.mul_one, ← bv_length xs, List.take_left]
theorem OwnB.cut_len {w : World} {base e n c : Nat} {A : Option Addr} {xs : List UInt8} (h : OwnB w base e (.slice A n c) xs) : n = xs.length := (OwnB.rd h).slice.1.symm

theorem cellB_str_iff (a b : List UInt8) : cellB (.string (str a)) (.string (str b)) = true ↔ a = b := by
  show ((str a).toList == (str b).toList) = true ↔ _
  rw [str_toList, str_toList, beq_iff_eq]
theorem cellB_int_iff (k : IntKind) (a b : Int) : cellB (.int k a) (.int k b) = true ↔ a = b := by
  show (a == b) = true ↔ _
  rw [beq_iff_eq]
theorem aggB_row (x y : RowM) : aggB [.string (str x.name), i64 x.amount] [.string (str y.name), i64 y.amount] = true ↔ x = y := by
  cases x; cases y
  simp only [aggB, Bool.and_eq_true, cellB_str_iff, cellB_int_iff, RowM.mk.injEq, and_true]
theorem aggB_row_f {x y : RowM} (h : aggB [.string (str x.name), i64 x.amount] [.string (str y.name), i64 y.amount] = false) : x ≠ y := fun e => by
  rw [(aggB_row x y).2 e] at h; cases h
theorem take_eq_succ {α : Type} {a b : List α} {i : Nat} {x : α} (h : a.take i = b.take i) (ha : a[i]? = some x) (hb : b[i]? = some x) : a.take (i + 1) = b.take (i + 1) := by
  have la := (List.getElem?_eq_some_iff.1 ha)
  have lb := (List.getElem?_eq_some_iff.1 hb)
  obtain ⟨ha1, ha2⟩ := la
  obtain ⟨hb1, hb2⟩ := lb
  rw [List.take_succ_eq_append_getElem ha1, List.take_succ_eq_append_getElem hb1, h, ha2, hb2]
theorem take_all_eq {α : Type} {a b : List α} {i : Nat} (h : a.take i = b.take i) (ha : a.length = i) (hb : b.length = i) : a = b := by
  rw [List.take_of_length_le (by omega), List.take_of_length_le (by omega)] at h; exact h
theorem getElem_ne {α : Type} {a b : List α} {i : Nat} {x y : α} (ha : a[i]? = some x) (hb : b[i]? = some y) (h : x ≠ y) : a ≠ b := fun e => by
  subst e; rw [ha] at hb; exact h (Option.some.inj hb)
theorem RdT.open {α : Type} {f : α → List Value} {w : World} {sz n c k : Nat} {A : Option Addr} {l : List α} (h : RdT w sz f (.slice A n c) l) (hl : l.length = n) (hk : k < n) : ∃ b o x, A = some ⟨b, o, none⟩ ∧ l[k]? = some x := by
  obtain ⟨b, o, hA⟩ := Rd.addr h (by omega)
  exact ⟨b, o, l[k], hA, List.getElem?_eq_getElem (by omega)⟩
end Go.Q
namespace Go.Q
/-- A read of CodecReads. -/
def Rdr.step (r : Rdr) (kind most : Int) : Rdr :=
  if kind.tmod 8 = 0 then r.uint.2 else if kind.tmod 8 = 1 then r.int.2 else if kind.tmod 8 = 2 then r.bytes.2 else if kind.tmod 8 = 3 then r.bytes.2
  else if kind.tmod 8 = 4 then r.bool_.2 else if kind.tmod 8 = 5 then (r.sized most).2 else if kind.tmod 8 = 6 then r.op.2 else r.reply.2
theorem Rdr.step_bs (r : Rdr) (k m : Int) : (r.step k m).bs = r.bs := by
  unfold Rdr.step
  (repeat' split) <;> first | exact r.uint_bs | exact r.int_bs | exact r.bytes_bs | exact r.bool_bs | exact r.sized_bs m | exact r.op_bs | exact r.reply_bs
theorem Rdr.Ok.step {r : Rdr} (h : r.Ok) (k m : Int) : (r.step k m).Ok := by
  unfold Rdr.step
  (repeat' split) <;> first | exact h.uint | exact h.bytes | exact h.bool_ | exact h.sized m | exact h.op | exact h.reply
end Go.Q
