/- What the claim stands on, part 4: rules of the walk, contracts of the functions, plain laws. -/
import Derived.Test.YtnbcghbgeiocbaaDoorKHRecords2
import Derived.Test.YtnbcghbgeiocbaaDoorKHRecords1
import Derived.Lib.AppendStr
import Derived.SizedLaws
import Derived.Test.YtnbcghbgeiocbaaDoorKHRecords3
set_option linter.unusedVariables false
namespace Go.Q
open Go.ChangeShapes Go.WideShapes Go.ChangeAt Go.RowKit Go.Deep
theorem scanA_uv : ∀ (m i n : Nat) (rest : List UInt8), m * p7 i < 18446744073709551616 → i ≤ 9 → (i = 0 ∨ 0 < m) → scanA (uv m ++ rest) i n = (n + m * p7 i, i + (uv m).length, 0) := by
 intro m
 induction m using Nat.strongRecOn with
 | _ m ih =>
  intro i n rest hm hi h0
  have h9 : i = 9 → m ≤ 1 := by
   intro h
   subst h
   rw [p7_9] at hm
   omega
  rcases Nat.lt_or_ge m 128 with h | h
  ·rw [uv_lt h]
   have hb : (byte m).toNat = m := byte_toNat m (by omega)
   have hc : ¬ ((i = 9 ∧ 1 < (byte m).toNat) ∨ (0 < i ∧ (byte m).toNat = 0)) := by rw [hb]; omega
   show scanA (byte m :: rest) i n = _
   rw [scanA_end hc (by rw [hb]; exact h), hb, Nat.mod_eq_of_lt h]
   rfl
  ·rw [uv_ge h]
   have hb : (byte (m % 128 + 128)).toNat = m % 128 + 128 := byte_toNat _ (by omega)
   have hc : ¬ ((i = 9 ∧ 1 < (byte (m % 128 + 128)).toNat) ∨ (0 < i ∧ (byte (m % 128 + 128)).toNat = 0)) := by rw [hb]; omega
   have e : m * p7 i = m % 128 * p7 i + m / 128 * (128 * p7 i) := by
    conv => lhs; rw [show m = m % 128 + m / 128 * 128 from by omega, Nat.add_mul, Nat.mul_assoc]
   show scanA (byte (m % 128 + 128) :: (uv (m / 128) ++ rest)) i n = _
   rw [scanA_more hc (by rw [hb]; omega), hb, Nat.add_mod_right, Nat.mod_mod, ih (m / 128) (by omega) (i + 1) _ rest (by rw [p7_succ]; omega) (by omega) (.inr (by omega)), p7_succ, e, List.length_cons]
   refine Prod.ext (by simp only; omega) (Prod.ext (by simp only; omega) rfl)
theorem scanB_uv {m : Nat} (rest : List UInt8) (hm : m < 18446744073709551616) : scanB (uv m ++ rest) = (m, (uv m).length, 0) := by
 have e1 : p7 0 = 1 := rfl
 have := scanA_uv m 0 0 rest (by rw [e1]; omega) (by omega) (.inl rfl)
 rw [e1] at this
 simpa [scanB] using this
end Go.Q
namespace Go.Q
open Go.RowKit
def un? (L : Loc) (o : Oper) : Option (UnOp × Value) :=
 match o.op with
 | .unOp op _ x => some (op, ev L x)
 | _ => none
theorem Runs.un {P : Program} {L : Loc} {o : Oper} {w : World} {op : UnOp} {x v : Value} (h : un? L o = some (op, x)) (hr : (Op.unary op x).run P w = .ok v w) : Runs P L o w v w := by
 unfold un? at h
 cases ho : o.op with
 | unOp op' t x' =>
  rw [ho] at h
  simp only [Option.some.injEq, Prod.mk.injEq] at h
  obtain ⟨rfl, hx⟩ := h
  unfold Runs execOp
  simp only [ho, hx, Sem.run_bind, hr, Result.andThen_ok, Sem.run_pure]
 | _ => rw [ho] at h; cases h
theorem xor32_lt {a b : Nat} (ha : a < 4294967296) (hb : b < 4294967296) : a ^^^ b < 4294967296 := Nat.xor_lt_two_pow (n := 32) ha hb
theorem and32_lt {a b : Nat} (ha : a < 4294967296) : a &&& b < 4294967296 := Nat.lt_of_le_of_lt Nat.and_le_left ha
def neg32 (a : Nat) : Nat := (4294967296 - a) % 4294967296
def shiftB (r : Nat) : Nat := (r / 2) ^^^ (2197175160 &&& neg32 (r &&& 1))
theorem shiftB_lt {r : Nat} (h : r < 4294967296) : shiftB r < 4294967296 := xor32_lt (by omega) (and32_lt (by omega))
def shiftN : Nat → Nat → Nat
 | 0, r => r
 | k + 1, r => shiftB (shiftN k r)
theorem shiftN_lt {k r : Nat} (h : r < 4294967296) : shiftN k r < 4294967296 := by
 induction k with
 | zero => exact h
 | succ k ih => exact shiftB_lt ih
def crcByte (r : Nat) (c : UInt8) : Nat := shiftN 8 (r ^^^ c.toNat)
theorem crcByte_lt {r : Nat} (c : UInt8) (h : r < 4294967296) : crcByte r c < 4294967296 := shiftN_lt (xor32_lt h (by have : c.toNat < 256 := c.toNat_lt; omega))
def crcMore (s : Nat) (bs : List UInt8) : Nat := 4294967295 ^^^ bs.foldl crcByte (4294967295 ^^^ s)
theorem fold_lt (bs : List UInt8) : ∀ {r : Nat}, r < 4294967296 → bs.foldl crcByte r < 4294967296 := by
 induction bs with
 | nil => intro r h; exact h
 | cons c bs ih => intro r h; exact ih (crcByte_lt c h)
theorem crcMore_lt {s : Nat} (bs : List UInt8) (h : s < 4294967296) : crcMore s bs < 4294967296 := xor32_lt (by omega) (fold_lt bs (xor32_lt (by omega) h))
def fourB (s : Nat) : List UInt8 := [byte (s % 256), byte (s / 256 % 256), byte (s / 256 / 256 % 256), byte (s / 256 / 256 / 256 % 256)]
def frameB (bs : List UInt8) : List UInt8 := uv bs.length ++ (fourB (crcMore 0 bs) ++ bs)
end Go.Q
namespace Go.Q
open Go.RowKit Go.Lib
def u8Ty? (P : Program) (t u : TypeId) : Option TypeId :=
 match P.underlying t, P.underlying u with
 | some (.slice e), some .string => match P.info? e with
  | some i => match i.zero with
   | some (.int .u8 0) => bif Nat.beq i.size 1 && Nat.beq i.bytes 1 then some e else none
   | _ => none
  | none => none
 | _, _ => none
def tv (ss : List UInt8) : List UInt8 := uv ss.length ++ ss
end Go.Q
namespace Go.Q
theorem uv_len_lt {n : Nat} (h : n < 128) : (uv n).length = 1 := by rw [uv_lt h]; rfl
theorem uv_len_ge {n : Nat} (h : 128 ≤ n) : (uv n).length = 1 + (uv (n / 128)).length := by rw [uv_ge h, List.length_cons]; omega
theorem scanA_short : ∀ (m i k n : Nat), i < (uv m).length → (k = 0 ∨ 0 < m) → m * p7 k < 18446744073709551616 → k ≤ 9 → (scanA ((uv m).take i) k n).2 = (0, 10) := by
 intro m
 induction m using Nat.strongRecOn with
 | _ m ih =>
  intro i k n hi h0 hm hk
  cases i with
  | zero => rfl
  | succ i =>
   rcases Nat.lt_or_ge m 128 with h | h
   ·rw [uv_len_lt h] at hi; omega
   ·have h9 : k = 9 → m ≤ 1 := by
     intro hq
     subst hq
     rw [p7_9] at hm
     omega
    rw [uv_len_ge h] at hi
    rw [uv_ge h, List.take_succ_cons]
    have hb : (byte (m % 128 + 128)).toNat = m % 128 + 128 := byte_toNat _ (by omega)
    have e : m * p7 k = m % 128 * p7 k + m / 128 * (128 * p7 k) := by
     conv => lhs; rw [show m = m % 128 + m / 128 * 128 from by omega, Nat.add_mul, Nat.mul_assoc]
    rw [scanA_more (by rw [hb]; omega) (by rw [hb]; omega)]
    exact ih (m / 128) (by omega) i (k + 1) _ (by omega) (.inr (by omega)) (by rw [p7_succ]; omega) (by omega)
theorem RdB.take {w : World} {A : Option Addr} {c k : Nat} {bs : List UInt8} (h : RdB w (.slice A bs.length c) bs) (hk : k ≤ bs.length) : RdB w (.slice A k c) (bs.take k) := by
 obtain ⟨A', n', c', he, hl, hc, hm, hx⟩ := h
 injection he with e1 e2 e3
 subst e1; subst e2; subst e3
 refine ⟨A, k, c, rfl, by simp [bv_length]; omega, by omega, hm, fun h0 => ?_⟩
 obtain ⟨b, off, hA, hcell⟩ := hx (by omega)
 refine ⟨b, off, hA, fun j u hu => hcell j u ?_⟩
 have e : bv (bs.take k) = (bv bs).take k := by simp [bv, List.map_take]
 rw [e, List.getElem?_take] at hu
 split at hu
 ·exact hu
 ·cases hu
end Go.Q
namespace Go.Q
open Go.RowKit
section
variable {P : Program} {w : World} {t ty e sz bytes n base : Nat} {xs ys : List Value} {v : Value}
theorem own_app2 (T : ElemTy P t e sz bytes) (hown : w.ownsRow base e sz v n xs) {x : Value} {m : Nat} (hx : Rd w sz x ys) (hm : ys.length = m * sz) (h1 : oneCells ys = true)
  (hb : (n + m) * bytes ≤ 140737488355328) (hl : n + m ≤ maxLen) (hbase : base ≤ w.heap.size) :
  ∃ v' w', (Builtin.append_ #[t, t] ty #[v, x]).run P w = .ok v' w' ∧ w'.ownsRow base e sz v' (n + m) (xs ++ ys) ∧ Keeps (fun i => v.ownBlock = some i) w w' ∧
   ∀ i, v'.ownBlock = some i → v.ownBlock = some i ∨ w.heap.size ≤ i := by
 rcases Nat.eq_zero_or_pos m with h0 | h0
 ·subst h0
  have e0 : ys = [] := List.eq_nil_of_length_eq_zero (by omega)
  subst e0
  obtain ⟨A, k, c, rfl, hk, _⟩ := hx
  have hk0 : k = 0 := by
   have : 0 = k * sz := by simpa using hk
   rcases Nat.mul_eq_zero.1 this.symm with h | h
   ·exact h
   ·have := T.pos; omega
  subst hk0
  refine ⟨v, w, app_nil_src T hown c A, by simpa using hown, (Keeps.refl w).mono fun _ _ h => h.elim, fun i hi => .inl hi⟩
 ·have hc := hown
  obtain ⟨hlen, hc⟩ := hc
  rcases hc with ⟨rfl, rfl⟩ | ⟨g, cap, cur, rfl, hg, hcell, hnc, hcm, hsize, htake⟩
  ·have e0 : xs = [] := List.eq_nil_of_length_eq_zero (by omega)
   subst e0
   obtain ⟨g', cap', rest', w', hr, H, f1, f2, f3, K, hgg⟩ := app_row0 (ty := ty) T hx hm h0 (by simpa using hb) (by omega)
   refine ⟨_, w', hr, ⟨by simpa using hm, .inr ⟨g', cap', _, by simp, by omega, H, by omega, f3, by simpa using f1, ?_⟩⟩, K.mono fun _ _ h => h.elim, fun i hi => .inr ?_⟩
   ·simp only [Nat.zero_add, List.nil_append]
    show (ys ++ rest').take (m * sz) = ys
    rw [← hm, List.take_left]
   ·simp only [Value.ownBlock, Option.some.injEq] at hi
    omega
  ·have hsz : cur.toList.length = cap * sz := by simpa using hsize
   have hle : n * sz ≤ cap * sz := Nat.mul_le_mul_right _ hnc
   have hH : Has w g (rowL (xs ++ cur.toList.drop (n * sz)) e) := by
    unfold Has rowL
    rw [← htake, List.take_append_drop]
    exact hcell
   obtain ⟨g', cap', rest', w', hr, H, f1, f2, f3, K, hgg⟩ := app_row (ty := ty) (n := n) (cap := cap) T hH (by rw [← htake, List.length_take]; omega) (by rw [hlen, List.length_drop]; omega) hnc hcm hx hm h0 h1 hb hl
   refine ⟨_, w', hr, ⟨by rw [List.length_append, hlen, hm, Nat.add_mul], .inr ⟨g', cap', _, rfl, ?_, H, f2, f3, by simpa [Nat.add_assoc] using f1, ?_⟩⟩, K.mono fun i _ h => by subst h; rfl, fun i hi => ?_⟩
   ·rcases hgg with h | h <;> omega
   ·have e : (xs ++ ys).length = (n + m) * sz := by rw [List.length_append, hlen, hm, Nat.add_mul]
    show ((xs ++ ys) ++ rest').take ((n + m) * sz) = xs ++ ys
    rw [← e, List.take_left]
   ·simp only [Value.ownBlock, Option.some.injEq] at hi ⊢
    rcases hgg with h | h
    ·exact .inl (by omega)
    ·exact .inr (by omega)
end
theorem RdB.addr {w : World} {A : Option Addr} {n c : Nat} {bs : List UInt8} (h : RdB w (.slice A n c) bs) (h0 : 0 < bs.length) : ∃ b o, A = some ⟨b, o, none⟩ := by
 obtain ⟨A', n', c', he, hl, hc, hm, hx⟩ := h
 injection he with e1 e2 e3
 subst e1; subst e2; subst e3
 have hn : bs.length = n := by simpa [bv_length] using hl
 obtain ⟨b, off, rfl, _⟩ := hx (by omega)
 exact ⟨b, off, rfl⟩
theorem RdB.ld {P : Program} {t : TypeId} {w : World} {A : Option Addr} {n c k b off : Nat} {bs : List UInt8} {x : UInt8} (h : RdB w (.slice A n c) bs) (ht : isAgg? P t = some false) (hA : A = some ⟨b, off, none⟩) (hx : bs[k]? = some x) :
  Loads P w t ⟨b, off + k, none⟩ (.int .u8 ((x.toNat : Nat) : Int)) := by
 have hk := (List.getElem?_eq_some_iff.1 hx).1
 obtain ⟨y, b', off', hd, hA', hL⟩ := RdB.at (P := P) (t := t) h ht hk
 rw [hA] at hA'
 injection hA' with e
 injection e with e1 e2 e3
 subst e1; subst e2
 have : y = x := by
  have h1 : (bs.drop k)[0]? = some y := by rw [hd]; rfl
  rw [List.getElem?_drop, Nat.add_zero, hx] at h1
  exact (Option.some.inj h1).symm
 subst this
 exact hL none_ w (Keeps.refl w) fun h => h
theorem Rdr.Ok.sized {r : Rdr} (h : r.Ok) (m : Int) : (r.sized m).2.Ok := by
 have h1 := h.pos
 have h2 := h.len
 have h3 := h.uint
 unfold Rdr.sized
 (repeat' split) <;> first | exact h | exact h3 | exact ⟨h1, h2⟩
theorem Rdr.sized_le {r : Rdr} (h : r.Ok) (m : Int) (hw : (r.sized m).2.why = 0) : (r.sized m).2.pos + (r.sized m).1 ≤ r.bs.length := by
 have h3 := h.uint.pos
 rw [r.uint_bs] at h3
 unfold Rdr.sized at hw ⊢
 split
 ·rw [if_pos ‹_›] at hw; exact absurd hw ‹_›
 ·rw [if_neg ‹_›] at hw
  split
  ·rw [if_pos ‹_›] at hw; exact absurd hw ‹_›
  ·rw [if_neg ‹_›] at hw
   split
   ·rw [if_pos ‹_›] at hw; simp at hw
   ·rw [if_neg ‹_›] at hw
    split
    ·rw [if_pos ‹_›] at hw; simp at hw
    ·omega
theorem Rdr.Ok.bytes {r : Rdr} (h : r.Ok) : r.bytes.2.Ok := by
 have h1 := h.sized 65536
 have h2 := h.len
 unfold Rdr.bytes
 split
 ·exact h1
 ·refine ⟨?_, h2⟩
  have h3 := Rdr.sized_le h 65536 (by omega)
  exact h3
theorem Rdr.Ok.bool_ {r : Rdr} (h : r.Ok) : r.bool_.2.Ok := by
 have h1 := h.pos
 have h2 := h.len
 unfold Rdr.bool_
 split
 ·exact h
 ·split
  ·exact ⟨h1, h2⟩
  ·split
   ·exact ⟨h1, h2⟩
   ·refine ⟨?_, h2⟩
    have := congrArg List.length ‹r.bs.drop r.pos = _›
    simp only [List.length_drop, List.length_cons] at this
    show r.pos + 1 ≤ r.bs.length
    omega
end Go.Q
namespace Go.Q
open Go.RowKit
structure Opm where
 kind : Int
 frm : List UInt8
 to : List UInt8
 amount : Int
 key : List UInt8
 slot : Int
 shard : Int
def Opm.cells (o : Opm) : List Value := [i64 o.kind, .string (str o.frm), .string (str o.to), i64 o.amount, .string (str o.key), i64 o.slot, i64 o.shard]
def Rdr.op (r : Rdr) : Opm × Rdr :=
 (⟨r.int.1, r.int.2.bytes.1, r.int.2.bytes.2.bytes.1, r.int.2.bytes.2.bytes.2.int.1, r.int.2.bytes.2.bytes.2.int.2.bytes.1, r.int.2.bytes.2.bytes.2.int.2.bytes.2.int.1, r.int.2.bytes.2.bytes.2.int.2.bytes.2.int.2.int.1⟩,
  r.int.2.bytes.2.bytes.2.int.2.bytes.2.int.2.int.2)
theorem Rdr.Ok.op {r : Rdr} (h : r.Ok) : r.op.2.Ok := h.int.bytes.bytes.int.bytes.int.int
end Go.Q
namespace Go.Q
structure Rdr.Goes (r r' : Rdr) : Prop where
 bs : r'.bs = r.bs
 mono : r.pos ≤ r'.pos
 pos : r.why ≠ 0 → r'.pos = r.pos
 why : r.why ≠ 0 → r'.why = r.why
def cnt (a k : Int) : Int := if a.tmod k < 0 then a.tmod k + k else a.tmod k
end Go.Q
namespace Go.Q
open Go.ChangeShapes Go.WideShapes Go.ChangeAt Go.RowKit Go.Deep
section
variable {H : Type} {enc : TypeId × Value → H} {P : Program} {w : World} {base : Nat} {spare : Nat → Bool} {held : Bool}
theorem open_rows {t e : TypeId} {sz : Nat} {v : Value} {d : DataW H} {ps : List MemPlace} (R : List Value → Prop) (ht : P.underlying t = some (.slice e)) (hC : P.cellsOf e = sz) (hsz : 0 < sz)
  (hv : ∃ A n c, v = .slice A n c) {fuel : Nat} (h : DataW.trod enc P w base spare held fuel t [v] = some (d, ps))
  (dec : ∀ (m : Nat) (cs : List Value) (y : DataW H × List MemPlace), cs.length = sz → DataW.trod enc P w base spare held m e cs = some y → R cs) :
  ∃ css : List (List Value), Rd w sz v css.flatten ∧ (∀ cs ∈ css, cs.length = sz ∧ R cs) ∧ (css = [] ∨ ∃ el sp, d = .slice el sp ∧ el.length = css.length) ∧ ∃ A c, v = .slice A css.length c := by
 obtain ⟨A, n, cap, rfl⟩ := hv
 rcases open_slice ht h with ⟨hcs, _⟩ | ⟨a, len, cap', m, k, D, Pl, hcs, hb, hl, hm, hmm, hxx, hi⟩
 ·simp only [List.cons.injEq, and_true, Value.slice.injEq] at hcs
  obtain ⟨rfl, rfl, rfl⟩ := hcs
  exact ⟨[], Rd.nil w sz, by simp, .inl rfl, none, 0, rfl⟩
 ·simp only [List.cons.injEq, and_true, Value.slice.injEq] at hcs
  obtain ⟨rfl, rfl, rfl⟩ := hcs
  have hlm : n ≤ m := by rw [hmm]; split <;> omega
  have h1 : ∀ i, i < n → ∃ cs : List Value, cs.length = sz ∧ R cs ∧ ∀ j u, cs[j]? = some u → w.cell? (a.add (i * sz + j)) = some u := by
   intro i hin
   obtain ⟨cs, hc, htr⟩ := hi i (by omega)
   rw [hC] at hc
   obtain ⟨_, hlen, hcell⟩ := World.cells?_some hc
   refine ⟨cs, hlen, dec _ cs _ hlen htr, fun j u hu => ?_⟩
   have hj : j < sz := by rw [← hlen]; exact (List.getElem?_eq_some_iff.1 hu).1
   rw [← Go.Deep.add_add, hcell j hj, hu]
  obtain ⟨g, hg⟩ := choose_lt h1
  have hfl : ∀ k, k ≤ n → (((List.range k).map g).flatten).length = k * sz := by
   intro k
   induction k with
   | zero => simp
   | succ k ih =>
    intro hk
    rw [List.range_succ, List.map_append, List.flatten_append, List.length_append, ih (by omega)]
    simp only [List.map_cons, List.map_nil, List.flatten_cons, List.flatten_nil, List.append_nil]
    rw [(hg k (by omega)).1, Nat.add_mul, Nat.one_mul]
  have hat : ∀ k, k ≤ n → ∀ j u, (((List.range k).map g).flatten)[j]? = some u → ∃ i, i < k ∧ i * sz ≤ j ∧ (g i)[j - i * sz]? = some u := by
   intro k
   induction k with
   | zero => intro _ j u hu; simp at hu
   | succ k ih =>
    intro hk j u hu
    rw [List.range_succ, List.map_append, List.flatten_append] at hu
    simp only [List.map_cons, List.map_nil, List.flatten_cons, List.flatten_nil, List.append_nil] at hu
    rw [List.getElem?_append, hfl k (by omega)] at hu
    split at hu
    ·obtain ⟨i, h1, h2, h3⟩ := ih (by omega) j u hu
     exact ⟨i, by omega, h2, h3⟩
    ·exact ⟨k, by omega, by omega, hu⟩
  refine ⟨(List.range n).map g, ⟨some a, n, cap, rfl, hfl n (Nat.le_refl _), hl, hm, fun h0 => ?_⟩, ?_, ?_, ?_⟩
  ·have hspot : a.spot = none := by
    obtain ⟨cs, hc, htr⟩ := hi 0 (by omega)
    rw [hC] at hc
    obtain ⟨_, hlen, hcell⟩ := World.cells?_some hc
    have h2 := hcell 0 hsz
    have h3 : (0 * sz) = 0 := by simp
    rw [h3] at h2
    have h4 : cs[0]? = some (cs[0]'(by omega)) := List.getElem?_eq_getElem (by omega)
    rw [h4] at h2
    have h5 : (a.add 0).add 0 = a := by simp [Addr.add]
    rw [h5] at h2
    unfold World.cell? at h2
    split at h2
    ·split at h2
     ·cases h2
     ·rename_i hns; simpa using hns
    ·cases h2
   obtain ⟨b, off, spot⟩ := a
   simp only at hspot
   subst hspot
   refine ⟨b, off, rfl, fun j u hu => ?_⟩
   obtain ⟨i, h1, h2, h3⟩ := hat n (Nat.le_refl _) j u hu
   have := (hg i h1).2.2 _ u h3
   rw [add_plain] at this
   rw [show off + j = off + (i * sz + (j - i * sz)) from by omega]
   exact this
  ·intro cs hcs
   obtain ⟨i, hi, rfl⟩ := List.mem_map.1 hcs
   have := hg i (List.mem_range.1 hi)
   exact ⟨this.1, this.2.1⟩
  ·right
   simp only [Prod.mk.injEq] at hxx
   exact ⟨_, _, hxx.1, by simp⟩
  ·exact ⟨some a, cap, by simp⟩
theorem slice_form {t e : TypeId} {v : Value} (ht : P.underlying t = some (.slice e)) (hv : Value.okWide P w .any 0 t v) : ∃ A n c, v = .slice A n c := by
 obtain ⟨A, n, c, h⟩ := okWide_slice ht hv
 exact ⟨A, n, c, h⟩
theorem trod_fuel {t : TypeId} {v : Value} {d : DataW H} {ps : List MemPlace} (h : DataW.Trod enc P w base spare held t v d ps) (hv : ∃ A n c, v = .slice A n c) : ∃ fuel, DataW.trod enc P w base spare held fuel t [v] = some (d, ps) := by
 obtain ⟨A, n, c, rfl⟩ := hv
 obtain ⟨fuel, hf⟩ := h
 exact ⟨fuel, by simpa [Value.cells] using hf⟩
end
theorem Rd.addr {w : World} {sz n c : Nat} {A : Option Addr} {xs : List Value} (h : Rd w sz (.slice A n c) xs) (h0 : 0 < n) : ∃ b o, A = some ⟨b, o, none⟩ := by
 obtain ⟨A', n', c', he, hl, hc, hm, hx⟩ := h
 injection he with e1 e2 e3
 subst e1; subst e2; subst e3
 obtain ⟨b, off, rfl, _⟩ := hx h0
 exact ⟨b, off, rfl⟩
theorem Rd.len {w : World} {sz n c : Nat} {A : Option Addr} {xs : List Value} (h : Rd w sz (.slice A n c) xs) : xs.length = n * sz ∧ n ≤ c ∧ c ≤ maxLen := by
 obtain ⟨A', n', c', he, hl, hc, hm, hx⟩ := h
 injection he with e1 e2 e3
 subst e1; subst e2; subst e3
 exact ⟨hl, hc, hm⟩
theorem Rd.cell {w : World} {sz n c b off k : Nat} {A : Option Addr} {xs : List Value} {u : Value} (h : Rd w sz (.slice A n c) xs) (hA : A = some ⟨b, off, none⟩) (hx : xs[k]? = some u) : w.cell? ⟨b, off + k, none⟩ = some u := by
 have hk := (List.getElem?_eq_some_iff.1 hx).1
 obtain ⟨A', n', c', he, hl, hc, hm, hcell⟩ := h
 injection he with e1 e2 e3
 subst e1; subst e2; subst e3
 have h0 : 0 < n := by
  rcases Nat.eq_zero_or_pos n with h | h
  ·subst h; simp at hl; subst hl; simp at hk
  ·exact h
 obtain ⟨b', off', hA', hc'⟩ := hcell h0
 rw [hA] at hA'
 injection hA' with e
 injection e with e1 e2 e3
 subst e1; subst e2
 exact hc' k u hx
theorem Rd.ld1 {P : Program} {t : TypeId} {w : World} {sz n c b off k : Nat} {A : Option Addr} {xs : List Value} {u : Value} (h : Rd w sz (.slice A n c) xs) (ht : isAgg? P t = some false) (hA : A = some ⟨b, off, none⟩) (hx : xs[k]? = some u) :
  Loads P w t ⟨b, off + k, none⟩ u := loads_one ht (h.cell hA hx)
theorem Rd.ldN {P : Program} {t : TypeId} {w : World} {sz n c b off k : Nat} {A : Option Addr} {xs : List Value} {vs : List Value} (h : Rd w sz (.slice A n c) xs) (ht : isAgg? P t = some true) (hs : size? P t = some vs.length) (hA : A = some ⟨b, off, none⟩)
  (hx : ∀ j u, vs[j]? = some u → xs[k + j]? = some u) : Loads P w t ⟨b, off + k, none⟩ (agg vs) := by
 refine loads_agg ht hs fun j u hu => ?_
 rw [add_plain, Nat.add_assoc]
 exact h.cell hA (hx j u hu)
end Go.Q
namespace Go.Q
open Go.RowKit
section
variable {α : Type} {f : α → List Value} {P : Program} {w : World} {t ty e sz bytes base : Nat} {v : Value} {l : List α}
abbrev OwnT (w : World) (base e sz : Nat) (f : α → List Value) (v : Value) (l : List α) : Prop := w.ownsRow base e sz v l.length (l.flatMap f)
abbrev RdT (w : World) (sz : Nat) (f : α → List Value) (v : Value) (l : List α) : Prop := Rd w sz v (l.flatMap f)
theorem flat_len (hf : ∀ x, (f x).length = sz) : ∀ l : List α, (l.flatMap f).length = l.length * sz
 | [] => by simp
 | x :: l => by rw [List.flatMap_cons, List.length_append, hf, flat_len hf l, List.length_cons, Nat.add_mul, Nat.one_mul, Nat.add_comm]
theorem one_append : ∀ {xs ys : List Value}, oneCells xs = true → oneCells ys = true → oneCells (xs ++ ys) = true
 | [], ys, _, h => h
 | x :: xs, ys, h, k => by
  simp only [oneCells, Bool.and_eq_true] at h
  simp only [List.cons_append, oneCells, Bool.and_eq_true]
  exact ⟨h.1, one_append h.2 k⟩
theorem flat_one (h1 : ∀ x, oneCells (f x) = true) : ∀ l : List α, oneCells (l.flatMap f) = true
 | [] => rfl
 | x :: l => by rw [List.flatMap_cons]; exact one_append (h1 x) (flat_one h1 l)
theorem flat_at (hf : ∀ x, (f x).length = sz) : ∀ {l : List α} {k : Nat} {x : α}, l[k]? = some x → ∀ j u, (f x)[j]? = some u → (l.flatMap f)[k * sz + j]? = some u
 | [], k, x, h, _, _, _ => by simp at h
 | y :: l, 0, x, h, j, u, hu => by
  simp only [List.getElem?_cons_zero, Option.some.injEq] at h
  subst h
  rw [List.flatMap_cons, Nat.zero_mul, Nat.zero_add, List.getElem?_append_left (List.getElem?_eq_some_iff.1 hu).1]
  exact hu
 | y :: l, k + 1, x, h, j, u, hu => by
  simp only [List.getElem?_cons_succ] at h
  rw [List.flatMap_cons, List.getElem?_append_right (by rw [hf, Nat.add_mul]; omega), hf, show (k + 1) * sz + j - sz = k * sz + j from by rw [Nat.add_mul]; omega]
  exact flat_at hf h j u hu
theorem OwnT.nil (w : World) (base e sz : Nat) (f : α → List Value) : OwnT w base e sz f (.slice none 0 0) [] := World.ownsRow_nil _ _ _ _
theorem OwnT.rd (h : OwnT w base e sz f v l) : RdT w sz f v l := Rd.of_own h
theorem OwnT.app (hf : ∀ x, (f x).length = sz) (h1 : ∀ x, oneCells (f x) = true) (T : ElemTy P t e sz bytes) (h : OwnT w base e sz f v l) {x : Value} {ys : List α} (hx : RdT w sz f x ys)
  (hb : (l.length + ys.length) * bytes ≤ 140737488355328) (hl : l.length + ys.length ≤ 140737488355328) (hbase : base ≤ w.heap.size) :
  ∃ v' w', (Builtin.append_ #[t, t] ty #[v, x]).run P w = .ok v' w' ∧ OwnT w' base e sz f v' (l ++ ys) ∧ Keeps (fun i => v.ownBlock = some i) w w' ∧ ∀ i, v'.ownBlock = some i → v.ownBlock = some i ∨ w.heap.size ≤ i := by
 have hm : l.length + ys.length ≤ maxLen := by simp only [maxLen]; omega
 obtain ⟨v', w', hr, ho, hk, hg⟩ := own_app2 (ty := ty) T h hx (m := ys.length) (flat_len hf ys) (flat_one h1 ys) hb hm hbase
 refine ⟨v', w', hr, ?_, hk, hg⟩
 unfold OwnT
 rw [List.length_append, List.flatMap_append]
 exact ho
theorem RdT.len {n c : Nat} {A : Option Addr} (hf : ∀ x, (f x).length = sz) (h0 : 0 < sz) (h : RdT w sz f (.slice A n c) l) : l.length = n ∧ n ≤ c ∧ c ≤ maxLen := by
 obtain ⟨h1, h2, h3⟩ := Rd.len h
 rw [flat_len hf] at h1
 exact ⟨Nat.eq_of_mul_eq_mul_right h0 h1, h2, h3⟩
theorem RdT.form (hf : ∀ x, (f x).length = sz) (h0 : 0 < sz) (h : RdT w sz f v l) : ∃ A c, v = .slice A l.length c := by
 have h' := h
 obtain ⟨A, n, c, rfl, _⟩ := h
 exact ⟨A, c, by rw [(RdT.len hf h0 h').1]⟩
theorem RdT.ld {A : Option Addr} {n c k b off : Nat} {x : α} (hf : ∀ x, (f x).length = sz) (h : RdT w sz f (.slice A n c) l) (ht : isAgg? P t = some true) (hs : size? P t = some sz) (hA : A = some ⟨b, off, none⟩) (hx : l[k]? = some x) :
  Loads P w t ⟨b, off + k * sz, none⟩ (agg (f x)) := by
 rw [← hf x] at hs
 exact Rd.ldN h ht hs hA fun j u hu => flat_at hf hx j u hu
theorem RdT.ldf {A : Option Addr} {n c k b off o : Nat} {x : α} {u : Value} (hf : ∀ x, (f x).length = sz) (h : RdT w sz f (.slice A n c) l) (ht : isAgg? P t = some false) (hA : A = some ⟨b, off, none⟩) (hx : l[k]? = some x) (hu : (f x)[o]? = some u) :
  Loads P w t ⟨b, off + k * sz + o, none⟩ u := by
 rw [Nat.add_assoc]
 exact Rd.ld1 h ht hA (flat_at hf hx o u hu)
end
structure RowM where
 name : List UInt8
 amount : Int
def RowM.cells (x : RowM) : List Value := [.string (str x.name), i64 x.amount]
theorem RowM.two (x : RowM) : x.cells.length = 2 := rfl
theorem RowM.one (x : RowM) : oneCells x.cells = true := rfl
abbrev OwnR (w : World) (base e : Nat) (v : Value) (l : List RowM) : Prop := OwnT w base e 2 RowM.cells v l
abbrev RdR (w : World) (v : Value) (l : List RowM) : Prop := RdT w 2 RowM.cells v l
structure ReplyM where
 why : Int
 amount : Int
 rows : List RowM
def Rdr.rows : Nat → Rdr → List RowM × Rdr
 | 0, r => ([], r)
 | n + 1, r => (⟨r.bytes.1, r.bytes.2.int.1⟩ :: (Rdr.rows n r.bytes.2.int.2).1, (Rdr.rows n r.bytes.2.int.2).2)
def Rdr.rhead (r : Rdr) : Nat × Rdr := r.int.2.int.2.sized 600
def Rdr.reply (r : Rdr) : ReplyM × Rdr := (⟨r.int.1, r.int.2.int.1, (Rdr.rows r.rhead.1 r.rhead.2).1⟩, (Rdr.rows r.rhead.1 r.rhead.2).2)
theorem Rdr.Ok.rows : ∀ (n : Nat) {r : Rdr}, r.Ok → (Rdr.rows n r).2.Ok
 | 0, r, h => h
 | n + 1, r, h => Rdr.Ok.rows n h.bytes.int
theorem Rdr.Ok.reply {r : Rdr} (h : r.Ok) : r.reply.2.Ok := Rdr.Ok.rows _ (h.int.int.sized 600)
end Go.Q
namespace Go.Q
open Go.RowKit
section
variable {P : Program} {n : Nat} {os : Array Oper} {K : Loc → World → Prop} {L L' : Loc} {w : World} {i j : Nat} {d di dj : Option Tmp} {S : World → Prop} {fuel : Nat} {is : List Nat}
theorem Dr.callStep {f : Nat} {args : Array Value} {R : Ending → World → Prop} (hc : call? P os L i = some (f, args)) (hd : dst? os i = some d) (C : Calls P f args w R)
  (h : ∀ e w', R e w' → ∃ v L', e = .returned v ∧ setL n d v L = some L' ∧ S w' ∧ Dr P n os S fuel (i :: is) K L' w') {a : Act} (ha : Rep n a L) :
  wpOp P os (drPost n K) i (fun a' w' => S w' ∧ wpAnyH P .any os (drPost n K) S fuel (marks os.size (i :: is)) a' w') a w := by
 unfold call? at hc
 cases h0 : at? os L i with
 | none => rw [h0] at hc; cases hc
 | some o =>
  rw [h0] at hc
  simp only at hc
  cases hx : next? P L o with
  | none => rw [hx] at hc; cases hc
  | some x =>
   rw [hx] at hc
   cases x with
   | enter f' args' =>
    simp only [Option.some.injEq, Prod.mk.injEq] at hc
    obtain ⟨rfl, rfl⟩ := hc
    obtain ⟨ho, hw, _, _⟩ := at?_spec h0
    have hd' : o.dst = d := by simpa [dst?, ho] using hd
    unfold wpOp
    simp only [ho, wants_wanted ha hw, if_true, Oper.wp, next?_run ha hx, Oper.upon]
    refine .inl (Calls.mono C fun e w' he => ?_)
    obtain ⟨v, L', rfl, hs, hS', hn⟩ := h e w' he
    exact ⟨hS', hn hS' _ (ha.setL (by rw [hd']; exact hs))⟩
   | _ => cases hc
def DrB (P : Program) (n : Nat) (os : Array Oper) (S : World → Prop) (fuel : Nat) (is : List Nat) (i : Nat) (K : Loc → World → Prop) (L L1 : Loc) (w : World) : Prop :=
 Dr P n os S (fuel + 1) is K L w ∧ Dr P n os S fuel (i :: is) K L1 w
theorem Dr.swap {is' : List Nat} (hm : marks os.size is = marks os.size is') (h : Dr P n os S fuel is K L w) : Dr P n os S fuel is' K L w := by
 unfold Dr at h ⊢
 rw [← hm]
 exact h
theorem DrB.call {t : TypeId} {a : Addr} {v : Value} {f : Nat} {args : Array Value} {R : Ending → World → Prop} {L1 : Loc} {l : List Nat}
  (hr : Region.ready .any os (marks os.size is) = l) (hl2 : l = [i, j] ∨ l = [j, i]) (hij : Region.ready .any os (marks os.size (i :: is)) = [j]) (hm : marks os.size (i :: j :: is) = marks os.size (j :: i :: is))
  (hi0 : okAt os L i = true) (hld : ld? L (opn os i) = some (t, a)) (hdi : dst? os i = some di) (hsi : (match setL n di v L with | some Lx => restrict Lx (L1.map Prod.fst) | none => none) = some L1)
  (hc1 : call? P os L1 j = some (f, args)) (hc0 : call? P os L j = some (f, args)) (hdj : dst? os j = some dj)
  (hl : Loads P w t a v) (hS : S w) (C : Calls P f args w R)
  (h : ∀ e w', R e w' → ∃ u La Lb, e = .returned u ∧ S w' ∧ setL n dj u L = some La ∧ setL n dj u L1 = some Lb ∧ DrB P n os S fuel (j :: is) i K La Lb w') : DrB P n os S (fuel + 1) is i K L L1 w := by
 have h2 : Dr P n os S (fuel + 1) (i :: is) K L1 w := Dr.call hij hc1 hdj (fun _ => C) fun e w' he => by
  obtain ⟨u, La, Lb, rfl, h2, h3, h4, h5⟩ := h e w' he
  exact ⟨u, Lb, rfl, h4, h2, Dr.swap hm h5.2⟩
 refine ⟨?_, h2⟩
 intro hS0 act ha
 refine wpAnyH_all hr (by rcases hl2 with rfl | rfl <;> simp) fun q hq => ?_
 have hq : q = i ∨ q = j := by rcases hl2 with rfl | rfl <;> simp at hq <;> omega
 rcases hq with rfl | rfl
 ·cases hx : setL n di v L with
  | none => rw [hx] at hsi; cases hsi
  | some Lx =>
   rw [hx] at hsi
   exact Dr.opStep hi0 (Runs.load hld hl) hdi hx hS (Dr.keep hsi h2) ha
 ·refine Dr.callStep hc0 hdj C (fun e w' he => ?_) ha
  obtain ⟨u, La, Lb, rfl, h2, h3, h4, h5⟩ := h e w' he
  exact ⟨u, La, rfl, h3, h2, h5.1⟩
theorem DrB.new {t : TypeId} {a : Addr} {v : Value} {o : Obj} {V : Nat → Value} {L1 : Loc} {La Lb : Nat → Loc} {l : List Nat}
  (hr : Region.ready .any os (marks os.size is) = l) (hl2 : l = [i, j] ∨ l = [j, i]) (hij : Region.ready .any os (marks os.size (i :: is)) = [j]) (hm : marks os.size (i :: j :: is) = marks os.size (j :: i :: is))
  (hi0 : okAt os L i = true) (hld : ld? L (opn os i) = some (t, a)) (hdi : dst? os i = some di) (hsi : (match setL n di v L with | some Lx => restrict Lx (L1.map Prod.fst) | none => none) = some L1)
  (hn1 : newAt? P os L1 j = some (o, fun b => some (V b))) (hn0 : newAt? P os L j = some (o, fun b => some (V b))) (hdj : dst? os j = some dj) (hsj0 : ∀ b, setL n dj (V b) L = some (La b)) (hsj1 : ∀ b, setL n dj (V b) L1 = some (Lb b))
  (hl : Loads P w t a v) (hS : S w)
  (h : ∀ b w', b = w.heap.size → Has w' b o → Keeps none_ w w' → w'.heap.size = b + 1 → S w' ∧ DrB P n os S fuel (j :: is) i K (La b) (Lb b) w') : DrB P n os S (fuel + 1) is i K L L1 w := by
 obtain ⟨hS2, hD⟩ := h w.heap.size (w.alloc o) rfl (Has.new w o) (Keeps.alloc w o) (by simp)
 have h2 : Dr P n os S (fuel + 1) (i :: is) K L1 w := by
  obtain ⟨h1, h2⟩ := Runs.new (w := w) hn1
  exact Dr.go hij h1 h2 hdj (hsj1 _) hS2 (Dr.swap hm hD.2)
 refine ⟨?_, h2⟩
 intro hS0 act ha
 refine wpAnyH_all hr (by rcases hl2 with rfl | rfl <;> simp) fun q hq => ?_
 have hq : q = i ∨ q = j := by rcases hl2 with rfl | rfl <;> simp at hq <;> omega
 rcases hq with rfl | rfl
 ·cases hx : setL n di v L with
  | none => rw [hx] at hsi; cases hsi
  | some Lx =>
   rw [hx] at hsi
   exact Dr.opStep hi0 (Runs.load hld hl) hdi hx hS (Dr.keep hsi h2) ha
 ·obtain ⟨h1, h3⟩ := Runs.new (w := w) hn0
  exact Dr.opStep h1 h3 hdj (hsj0 _) hS2 hD.1 ha
theorem DrB.takes {L1 : Loc} {fuel' : Nat} {is' : List Nat} (todo : List Nat) (Ra Rb : Loc) (hf : Nat.beq (fuel' + todo.length) fuel = true) (hi : todo.reverse ++ is = is') (hm : marks os.size (todo.reverse ++ (i :: is)) = marks os.size (i :: is'))
  (ha : (match Q.takes P n os todo is L with | some L1 => restrict L1 (Ra.map Prod.fst) | none => none) = some Ra) (hb : (match Q.takes P n os todo (i :: is) L1 with | some L1 => restrict L1 (Rb.map Prod.fst) | none => none) = some Rb)
  (h : DrB P n os S fuel' is' i K Ra Rb w) : DrB P n os S fuel is i K L L1 w :=
 ⟨Dr.takes (fuel' := fuel' + 1) todo Ra (Nat.beq_eq ▸ (by have := Nat.eq_of_beq_eq_true hf; omega)) hi ha h.1, Dr.takes todo Rb hf rfl hb (Dr.swap hm.symm h.2)⟩
theorem DrB.end_ {t : TypeId} {a : Addr} {v : Value} {L1 R : Loc} (hr : Region.ready .any os (marks os.size is) = [i]) (hi0 : okAt os L i = true) (hld : ld? L (opn os i) = some (t, a)) (hdi : dst? os i = some di)
  (hsi : (match setL n di v L with | some Lx => restrict Lx (R.map Prod.fst) | none => none) = some R) (hs2 : restrict L1 (R.map Prod.fst) = some R) (hl : Loads P w t a v) (hS : S w) (h : Dr P n os S fuel (i :: is) K R w) : DrB P n os S fuel is i K L L1 w := by
 refine ⟨?_, Dr.keep hs2 h⟩
 cases hx : setL n di v L with
 | none => rw [hx] at hsi; cases hsi
 | some Lx =>
  rw [hx] at hsi
  exact Dr.go hr hi0 (Runs.load hld hl) hdi hx hS (Dr.keep hsi h)
theorem DrB.strong {S' : World → Prop} {L1 : Loc} (hS' : S' w) (hS : ∀ w, S' w → S w) (h : DrB P n os S' fuel is i K L L1 w) : DrB P n os S fuel is i K L L1 w := ⟨Dr.strong hS' hS h.1, Dr.strong hS' hS h.2⟩
theorem DrB.keep {L1 R R1 : Loc} (hs : restrict L (R.map Prod.fst) = some R) (hs1 : restrict L1 (R1.map Prod.fst) = some R1) (h : DrB P n os S fuel is i K R R1 w) : DrB P n os S fuel is i K L L1 w := ⟨Dr.keep hs h.1, Dr.keep hs1 h.2⟩
end
end Go.Q
namespace Go.Q
open Go.RowKit
theorem OwnB.cut {w : World} {base e n c : Nat} {A : Option Addr} {xs ys : List UInt8} (h : OwnB w base e (.slice A n c) (xs ++ ys)) (h0 : 0 < ys.length) : OwnB w base e (.slice A xs.length c) xs := by
 obtain ⟨hl, h⟩ := h
 refine ⟨by simp [bv_length], ?_⟩
 rcases h with ⟨_, hn⟩ | ⟨g, cap, cur, hv, hb, hg, h1, h2, h3, h4⟩
 ·rw [List.length_append] at hn; omega
 ·injection hv with e1 e2 e3
  subst e1; subst e3
  have hle : xs.length ≤ (xs ++ ys).length := by rw [List.length_append]; omega
  refine .inr ⟨g, c, cur, rfl, hb, hg, by omega, h2, h3, ?_⟩
  have : cur.toList.take (xs.length * 1) = (cur.toList.take ((xs ++ ys).length * 1)).take (xs.length * 1) := by rw [List.take_take, Nat.min_eq_left (by omega)]
  rw [this, h4, bv_append, Nat.mul_one, ← bv_length xs, List.take_left]
theorem cellB_str_iff (a b : List UInt8) : cellB (.string (str a)) (.string (str b)) = true ↔ a = b := by
 show ((str a).toList == (str b).toList) = true ↔ _
 rw [str_toList, str_toList, beq_iff_eq]
theorem cellB_int_iff (k : IntKind) (a b : Int) : cellB (.int k a) (.int k b) = true ↔ a = b := by
 show (a == b) = true ↔ _
 rw [beq_iff_eq]
theorem aggB_row (x y : RowM) : aggB [.string (str x.name), i64 x.amount] [.string (str y.name), i64 y.amount] = true ↔ x = y := by
 cases x; cases y
 simp only [aggB, Bool.and_eq_true, cellB_str_iff, cellB_int_iff, RowM.mk.injEq, and_true]
theorem aggB_row_f {x y : RowM} (h : aggB [.string (str x.name), i64 x.amount] [.string (str y.name), i64 y.amount] = false) : x ≠ y := fun e => by
 rw [(aggB_row x y).2 e] at h; cases h
theorem take_eq_succ {α : Type} {a b : List α} {i : Nat} {x : α} (h : a.take i = b.take i) (ha : a[i]? = some x) (hb : b[i]? = some x) : a.take (i + 1) = b.take (i + 1) := by
 have la := (List.getElem?_eq_some_iff.1 ha)
 have lb := (List.getElem?_eq_some_iff.1 hb)
 obtain ⟨ha1, ha2⟩ := la
 obtain ⟨hb1, hb2⟩ := lb
 rw [List.take_succ_eq_append_getElem ha1, List.take_succ_eq_append_getElem hb1, h, ha2, hb2]
theorem take_all_eq {α : Type} {a b : List α} {i : Nat} (h : a.take i = b.take i) (ha : a.length = i) (hb : b.length = i) : a = b := by
 rw [List.take_of_length_le (by omega), List.take_of_length_le (by omega)] at h; exact h
theorem getElem_ne {α : Type} {a b : List α} {i : Nat} {x y : α} (ha : a[i]? = some x) (hb : b[i]? = some y) (h : x ≠ y) : a ≠ b := fun e => by
 subst e; rw [ha] at hb; exact h (Option.some.inj hb)
theorem RdT.open {α : Type} {f : α → List Value} {w : World} {sz n c k : Nat} {A : Option Addr} {l : List α} (h : RdT w sz f (.slice A n c) l) (hl : l.length = n) (hk : k < n) : ∃ b o x, A = some ⟨b, o, none⟩ ∧ l[k]? = some x := by
 obtain ⟨b, o, hA⟩ := Rd.addr h (by omega)
 exact ⟨b, o, l[k], hA, List.getElem?_eq_getElem (by omega)⟩
end Go.Q
namespace Go.Q
def Rdr.step (r : Rdr) (kind most : Int) : Rdr :=
 if kind.tmod 8 = 0 then r.uint.2 else if kind.tmod 8 = 1 then r.int.2 else if kind.tmod 8 = 2 then r.bytes.2 else if kind.tmod 8 = 3 then r.bytes.2
 else if kind.tmod 8 = 4 then r.bool_.2 else if kind.tmod 8 = 5 then (r.sized most).2 else if kind.tmod 8 = 6 then r.op.2 else r.reply.2
theorem Rdr.Ok.step {r : Rdr} (h : r.Ok) (k m : Int) : (r.step k m).Ok := by
 unfold Rdr.step
 (repeat' split) <;> first | exact h.uint | exact h.bytes | exact h.bool_ | exact h.sized m | exact h.op | exact h.reply
end Go.Q
namespace Go.Q
structure AccM where
 name : List UInt8
 amt : Int
 own : List UInt8
deriving DecidableEq
abbrev AccV := Int × List UInt8
def accv (a : AccV) : Value := agg [i64 a.1, .string (str a.2)]
def AccM.pair (a : AccM) : List UInt8 × AccV := (a.name, a.amt, a.own)
def letterB (c : UInt8) : Bool := decide ((97 ≤ c.toNat ∧ c.toNat ≤ 122) ∨ (48 ≤ c.toNat ∧ c.toNat ≤ 57) ∨ c.toNat = 95)
def nameOk (s : List UInt8) : Bool := decide (1 ≤ s.length ∧ s.length ≤ 24) && s.all letterB
structure AccM.Ok (a : AccM) : Prop where
 name : nameOk a.name = true
 lo : 0 ≤ a.amt
 hi : a.amt ≤ 9223372036854775807
 own : a.own.length ≤ 65536
abbrev ltN (a b : List UInt8) : Prop := a < b
structure Accs (S : List AccM) : Prop where
 sorted : S.Pairwise (fun a b => ltN a.name b.name)
 ok : ∀ a ∈ S, a.Ok
 len : S.length ≤ 200
structure Book (m : List (List UInt8 × AccV)) (S : List AccM) : Prop where
 accs : Accs S
 perm : (S.map AccM.pair).Perm m
theorem ltN_irrefl (a : List UInt8) : ¬ ltN a a := List.lt_irrefl a
theorem ltN_trans {a b c : List UInt8} (h : ltN a b) (k : ltN b c) : ltN a c := List.lt_trans h k
theorem ltN_or (a b : List UInt8) : ltN a b ∨ a = b ∨ ltN b a := by
 rcases List.le_total a b with h | h
 ·rcases List.le_iff_lt_or_eq.1 h with h | h
  ·exact .inl h
  ·exact .inr (.inl h)
 ·rcases List.le_iff_lt_or_eq.1 h with h | h
  ·exact .inr (.inr h)
  ·exact .inr (.inl h.symm)
def getS (S : List AccM) (n : List UInt8) : Option AccM := S.find? (fun a => decide (a.name = n))
def setS (S : List AccM) (n : List UInt8) (x : AccV) : List AccM := S.map fun a => if a.name = n then ⟨n, x.1, x.2⟩ else a
def insS : List AccM → AccM → List AccM
 | [], a => [a]
 | b :: S, a => if b.name < a.name then b :: insS S a else a :: b :: S
def putE (S : List AccM) (n : List UInt8) (k : Int) : Int :=
 if nameOk n = false then 46 else if k < 0 then 47 else if (getS S n).isSome then 41 else if 200 ≤ S.length then 4 else 0
def putS (S : List AccM) (n : List UInt8) (k : Int) : List AccM := if putE S n k = 0 then insS S ⟨n, k, []⟩ else S
def addF (n : Int) (a : AccV) : Int × AccV := if n < 1 then (47, a) else if 9223372036854775807 - n < a.1 then (43, a) else (0, a.1 + n, a.2)
def takeF (n : Int) (a : AccV) : Int × AccV := if n < 1 then (47, a) else if a.1 < n then (42, a) else (0, a.1 - n, a.2)
def holdF (x : List UInt8) (a : AccV) : Int × AccV := if x = [] ∨ 65536 < x.length then (1, a) else if a.2 ≠ [] ∧ a.2 ≠ x then (5, a) else (0, a.1, x)
def freeF (x : List UInt8) (a : AccV) : Int × AccV := if x = [] ∨ a.2 ≠ x then (5, a) else (0, a.1, [])
def chgE (f : AccV → Int × AccV) (S : List AccM) (n : List UInt8) : Int := match getS S n with | none => 40 | some a => (f (a.amt, a.own)).1
def chgS (f : AccV → Int × AccV) (S : List AccM) (n : List UInt8) : List AccM := match getS S n with | none => S | some a => setS S n (f (a.amt, a.own)).2
def amtE (S : List AccM) (n : List UInt8) : Int × Int := match getS S n with | none => (0, 40) | some a => (a.amt, 0)
def ownE (S : List AccM) (n : List UInt8) : List UInt8 := match getS S n with | none => [] | some a => a.own
def heldN (S : List AccM) : Nat := (S.filter fun a => decide (a.own ≠ [])).length
def slotB (s : List UInt8) : Nat := crcMore 0 s % 16
def AccM.row (a : AccM) : RowM := ⟨a.name, a.amt⟩
def inSlot (k : Int) (a : AccM) : Bool := decide (k = -1 ∨ ((slotB a.name : Nat) : Int) = k)
def rowsS (S : List AccM) (k : Int) : List RowM := (S.filter (inSlot k)).map AccM.row
def dropS (S : List AccM) (k : Int) : List AccM := if k < 0 then S else S.filter fun a => !(inSlot k a)
def dropN (S : List AccM) (k : Int) : Nat := if k < 0 then 0 else (rowsS S k).length
def accB (a : AccM) : List UInt8 := tv a.name ++ (iv a.amt ++ tv a.own)
def bookB (S : List AccM) : List UInt8 := uv S.length ++ S.flatMap accB
theorem getS_some {S : List AccM} {n : List UInt8} {a : AccM} (h : getS S n = some a) : a ∈ S ∧ a.name = n := by
 unfold getS at h
 exact ⟨List.mem_of_find?_eq_some h, by simpa using List.find?_some h⟩
theorem getS_none {S : List AccM} {n : List UInt8} (h : getS S n = none) : ∀ a ∈ S, a.name ≠ n := by
 unfold getS at h
 rw [List.find?_eq_none] at h
 intro a ha
 simpa using h a ha
theorem Accs.nil : Accs [] := ⟨List.Pairwise.nil, fun a h => (by cases h), by simp⟩
theorem Accs.nodup {S : List AccM} (h : Accs S) : (S.map (·.name)).Nodup := by
 refine List.pairwise_map.2 (h.sorted.imp fun hlt e => ?_)
 exact ltN_irrefl _ (by rw [e] at hlt; exact hlt)
theorem Accs.get_of {S : List AccM} (h : Accs S) {a : AccM} (ha : a ∈ S) : getS S a.name = some a := by
 unfold getS
 have hs := h.sorted
 clear h
 induction S with
 | nil => cases ha
 | cons b S ih =>
  rw [List.pairwise_cons] at hs
  rcases List.mem_cons.1 ha with rfl | ha
  ·simp
  ·rw [List.find?_cons_of_neg, ih ha hs.2]
   have := hs.1 a ha
   intro e
   have e : b.name = a.name := by simpa using e
   rw [e] at this
   exact ltN_irrefl _ this
theorem Book.nil : Book [] [] := ⟨Accs.nil, List.Perm.refl _⟩
theorem Book.len {m : List (List UInt8 × AccV)} {S : List AccM} (h : Book m S) : m.length = S.length := by have := h.perm.length_eq; simpa using this.symm
theorem pair_map_fst (S : List AccM) : (S.map AccM.pair).map (·.1) = S.map (·.name) := by rw [List.map_map]; rfl
theorem Book.nodup {m : List (List UInt8 × AccV)} {S : List AccM} (h : Book m S) : (m.map (·.1)).Nodup := by
 have := (h.perm.map (·.1)).nodup_iff.1 (by rw [pair_map_fst]; exact h.accs.nodup)
 exact this
theorem Book.get {m : List (List UInt8 × AccV)} {S : List AccM} (h : Book m S) (n : List UInt8) : getM m n = (getS S n).map fun a => (a.amt, a.own) := by
 cases hg : getS S n with
 | none =>
  rw [Option.map_none]
  refine getM_none fun hx => ?_
  have hx := (h.perm.map (·.1)).mem_iff.2 hx
  rw [pair_map_fst, List.mem_map] at hx
  obtain ⟨a, ha, e⟩ := hx
  exact getS_none hg a ha e
 | some a =>
  obtain ⟨ha, rfl⟩ := getS_some hg
  have hm : (a.name, a.amt, a.own) ∈ m := h.perm.mem_iff.1 (List.mem_map.2 ⟨a, ha, rfl⟩)
  obtain ⟨i, hi⟩ := List.getElem?_of_mem hm
  exact getM_at h.nodup hi rfl
theorem insS_perm : ∀ (S : List AccM) (a : AccM), (insS S a).Perm (S ++ [a])
 | [], a => List.Perm.refl _
 | b :: S, a => by
  unfold insS
  split
  ·exact (insS_perm S a).cons b
  ·exact (List.perm_append_comm (l₁ := [a]) (l₂ := b :: S))
theorem insS_sorted : ∀ {S : List AccM} {a : AccM}, S.Pairwise (fun a b => ltN a.name b.name) → (∀ b ∈ S, b.name ≠ a.name) → (insS S a).Pairwise (fun a b => ltN a.name b.name)
 | [], a, _, _ => by simp [insS]
 | b :: S, a, h, hn => by
  rw [List.pairwise_cons] at h
  unfold insS
  split
  ·next hlt =>
   rw [List.pairwise_cons]
   refine ⟨fun c hc => ?_, insS_sorted h.2 fun c hc => hn c (List.mem_cons_of_mem _ hc)⟩
   rcases List.mem_append.1 ((insS_perm S a).mem_iff.1 hc) with hc | hc
   ·exact h.1 c hc
   ·rw [List.mem_singleton.1 hc]; exact hlt
  ·next hlt =>
   have hba : ltN a.name b.name := by
    rcases ltN_or b.name a.name with h1 | h1 | h1
    ·exact absurd h1 hlt
    ·exact absurd h1 (hn b (List.mem_cons_self ..))
    ·exact h1
   rw [List.pairwise_cons, List.pairwise_cons]
   refine ⟨fun c hc => ?_, h.1, h.2⟩
   rcases List.mem_cons.1 hc with rfl | hc
   ·exact hba
   ·exact ltN_trans hba (h.1 c hc)
theorem Accs.ins {S : List AccM} {a : AccM} (h : Accs S) (ha : a.Ok) (hg : getS S a.name = none) (hl : S.length < 200) : Accs (insS S a) where
 sorted := insS_sorted h.sorted (getS_none hg)
 ok b hb := by
  rcases List.mem_append.1 ((insS_perm S a).mem_iff.1 hb) with hb | hb
  ·exact h.ok b hb
  ·rw [List.mem_singleton.1 hb]; exact ha
 len := by rw [(insS_perm S a).length_eq, List.length_append]; simp only [List.length_singleton]; omega
theorem Accs.set {S : List AccM} {n : List UInt8} {x : AccV} (h : Accs S) (h0 : 0 ≤ x.1 ∧ x.1 ≤ 9223372036854775807) (hx : x.2.length ≤ 65536) : Accs (setS S n x) where
 sorted := by
  unfold setS
  refine List.pairwise_map.2 (h.sorted.imp fun {a b} hlt => ?_)
  have e : ∀ c : AccM, (if c.name = n then (⟨n, x.1, x.2⟩ : AccM) else c).name = c.name := by
   intro c
   split
   ·next h => exact h.symm
   ·rfl
  rw [e, e]
  exact hlt
 ok b hb := by
  unfold setS at hb
  obtain ⟨c, hc, rfl⟩ := List.mem_map.1 hb
  split
  ·next hn => exact ⟨by rw [← hn]; exact (h.ok c hc).name, h0.1, h0.2, hx⟩
  ·exact h.ok c hc
 len := by unfold setS; rw [List.length_map]; exact h.len
theorem Accs.filter {S : List AccM} (h : Accs S) (p : AccM → Bool) : Accs (S.filter p) where
 sorted := h.sorted.filter p
 ok b hb := h.ok b (List.mem_filter.1 hb).1
 len := Nat.le_trans (List.length_filter_le _ _) h.len
theorem putE_zero {S : List AccM} {n : List UInt8} {k : Int} (h : putE S n k = 0) : nameOk n = true ∧ 0 ≤ k ∧ getS S n = none ∧ S.length < 200 := by
 unfold putE at h
 split at h
 ·cases h
 ·split at h
  ·cases h
  ·split at h
   ·cases h
   ·split at h
    ·cases h
    ·next h1 h2 h3 h4 => exact ⟨by simpa using h1, by omega, by simpa using h3, by omega⟩
theorem Accs.put {S : List AccM} {n : List UInt8} {k : Int} (h : Accs S) (hk : k ≤ 9223372036854775807) : Accs (putS S n k) := by
 unfold putS
 split
 ·next h0 =>
  obtain ⟨h1, h2, h3, h4⟩ := putE_zero h0
  exact h.ins ⟨h1, h2, hk, by simp⟩ h3 h4
 ·exact h
theorem Book.put {m : List (List UInt8 × AccV)} {S : List AccM} (h : Book m S) {n : List UInt8} {k : Int} (hk : k ≤ 9223372036854775807) (h0 : putE S n k = 0) : Book (putM m n (k, [])) (putS S n k) where
 accs := h.accs.put hk
 perm := by
  obtain ⟨h1, h2, h3, h4⟩ := putE_zero h0
  have hm : n ∉ m.map (·.1) := getM_not (by rw [h.get, h3]; rfl)
  unfold putS putM
  rw [if_pos h0, if_neg hm]
  have := (insS_perm S ⟨n, k, []⟩).map AccM.pair
  refine this.trans ?_
  rw [List.map_append]
  exact h.perm.append_right _
theorem Book.keep {m : List (List UInt8 × AccV)} {S : List AccM} (h : Book m S) {n : List UInt8} {k : Int} (h0 : putE S n k ≠ 0) : Book m (putS S n k) := by
 unfold putS; rw [if_neg h0]; exact h
def Calm (f : AccV → Int × AccV) : Prop := ∀ a : AccV, 0 ≤ a.1 → a.1 ≤ 9223372036854775807 → a.2.length ≤ 65536 → (0 ≤ (f a).2.1 ∧ (f a).2.1 ≤ 9223372036854775807) ∧ (f a).2.2.length ≤ 65536
theorem Book.none {m : List (List UInt8 × AccV)} {S : List AccM} (h : Book m S) {f : AccV → Int × AccV} {n : List UInt8} (hg : getS S n = none) : Book m (chgS f S n) := by unfold chgS; rw [hg]; exact h
end Go.Q
