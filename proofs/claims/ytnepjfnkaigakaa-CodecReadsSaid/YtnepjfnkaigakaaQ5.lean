/- Small facts for walks: sums that do not wrap, cells of lists. -/
import Derived.Test.YtnepjfnkaigakaaQ4
namespace Go.Q
open Go.RowKit

theorem wrap_i64 {x : Int} (h0 : -9223372036854775808 ≤ x) (h1 : x ≤ 9223372036854775807) : IntKind.i64.wrap x = x := by
  have e : (2 : Int) ^ IntKind.i64.bits = 18446744073709551616 := by decide
  have e1 : (2 : Int) ^ (IntKind.i64.bits - 1) = 9223372036854775808 := by decide
  unfold IntKind.wrap
  simp only [e, e1, IntKind.signed, Bool.true_and, decide_eq_true_eq]
  split <;> omega

theorem wrap_u64 {x : Int} (h0 : 0 ≤ x) (h1 : x ≤ 18446744073709551615) : IntKind.u64.wrap x = x := by
  have e : (2 : Int) ^ IntKind.u64.bits = 18446744073709551616 := by decide
  unfold IntKind.wrap
  simp only [e, IntKind.signed, Bool.false_and, Bool.false_eq_true, if_false]
  omega

theorem wrap_u8 {x : Int} (h0 : 0 ≤ x) (h1 : x ≤ 255) : IntKind.u8.wrap x = x := by
  have e : (2 : Int) ^ IntKind.u8.bits = 256 := by decide
  unfold IntKind.wrap
  simp only [e, IntKind.signed, Bool.false_and, Bool.false_eq_true, if_false]
  omega

theorem wrap_u32 {x : Int} (h0 : 0 ≤ x) (h1 : x ≤ 4294967295) : IntKind.u32.wrap x = x := by
  have e : (2 : Int) ^ IntKind.u32.bits = 4294967296 := by decide
  unfold IntKind.wrap
  simp only [e, IntKind.signed, Bool.false_and, Bool.false_eq_true, if_false]
  omega

/-- A loop, k rounds at most. -/
def roll (P : Program) (n : Nat) (c : Code) (Q : Exit → Loc → World → Prop) : Nat → Loc → World → Prop
  | 0 => fun _ _ => False
  | k + 1 => fun L w => wp P n c (thn (roll P n c Q k) Q) L w

theorem q_roll {P : Program} {n : Nat} {f : Func} {p : List Nat} {Q : Exit → Loc → World → Prop} {L : Loc} {w : World} (k : Nat) (hc : isLoop (cd f p) = true) (h : roll P n (cd f (0 :: p)) Q k L w) : wp P n (cd f p) Q L w :=
  q_loop (fun s L w => roll P n (cd f (0 :: p)) Q s L w) id k hc h fun s L w hI => by
    cases s with
    | zero => exact hI.elim
    | succ s =>
      refine q_mono hI fun e L' w' hq => ?_
      cases e with
      | normal => exact ⟨s, hq, Nat.lt_succ_self s⟩
      | _ => exact hq

theorem roll_step {P : Program} {n : Nat} {c : Code} {Q : Exit → Loc → World → Prop} {k : Nat} {L : Loc} {w : World} (h : wp P n c (thn (roll P n c Q k) Q) L w) : roll P n c Q (k + 1) L w := h

def ints (l : List Int) : List Value := l.map i64
theorem ints_length (l : List Int) : (ints l).length = l.length := by simp [ints]
theorem intsL_at (l : List Int) (k : Nat) (h : k < l.length) : (ints l)[k]? = some (i64 (l.getD k 0)) := by
  simp [ints, List.getElem?_eq_getElem h, List.getD]
theorem ints_set (l : List Int) (k : Nat) (x : Int) : (ints l).set k (i64 x) = ints (l.set k x) := by simp [ints, List.map_set]

theorem beq_t {x y : Int} (h : x = y) : (x == y) = true := by simpa using h
theorem beq_f {x y : Int} (h : x ≠ y) : (x == y) = false := by simpa using h
theorem bne_t {x y : Int} (h : x ≠ y) : (x != y) = true := by simpa using h
theorem bne_f {x y : Int} (h : x = y) : (x != y) = false := by simpa using h
theorem of_beq_t {x y : Int} (h : (x == y) = true) : x = y := by simpa using h
theorem of_beq_f {x y : Int} (h : (x == y) = false) : ¬ (x = y) := by simpa using h
theorem of_bne_t {x y : Int} (h : (x != y) = true) : ¬ (x = y) := by simpa using h
theorem of_bne_f {x y : Int} (h : (x != y) = false) : x = y := by simpa using h

theorem bnot_true {b : Bool} (h : (!b) = true) : b = false := by simpa using h
theorem bnot_false {b : Bool} (h : (!b) = false) : b = true := by simpa using h

theorem loadC1 {P : Program} {t : TypeId} {xs : List Value} {off : Nat} {v : Value} (ht : isAgg? P t = some false) (hx : xs[off]? = some v) : loadC P t xs off = some v := by
  simp only [loadC, ht, hx]

theorem loadCN {P : Program} {t : TypeId} {xs vs : List Value} {off : Nat} (ht : isAgg? P t = some true) (hs : size? P t = some vs.length) (hx : (xs.drop off).take vs.length = vs) (hl : off + vs.length ≤ xs.length) :
    loadC P t xs off = some (agg vs) := by
  simp only [loadC, ht, hs]
  rw [show Nat.ble (off + vs.length) xs.length = true from Nat.ble_eq_true_of_le hl]
  simp [hx]

theorem storeC1 {P : Program} {t : TypeId} {xs ys : List Value} {off : Nat} {v : Value} (hs : size? P t = some 1) (hv : v.oneCell' = true) (hl : off < xs.length) (hy : xs.set off v = ys) : storeC P t xs off v = some ys := by
  have hc : v.cells.toList = [v] := by cases v <;> first | rfl | cases hv
  simp only [storeC, hs, hc]
  rw [show Nat.beq [v].length 1 = true from rfl, show Nat.ble (off + 1) xs.length = true from Nat.ble_eq_true_of_le hl]
  simp only [oneCells, hv, Bool.and_true, cond_true, Option.some.injEq]
  rw [← hy, List.set_eq_take_append_cons_drop, if_pos hl]
  simp

theorem storeCN {P : Program} {t : TypeId} {xs ys vs : List Value} {off : Nat} (hs : size? P t = some vs.length) (hv : oneCells vs = true) (hl : off + vs.length ≤ xs.length) (hy : xs.take off ++ vs ++ xs.drop (off + vs.length) = ys) :
    storeC P t xs off (agg vs) = some ys := by
  simp only [storeC, hs, Value.cells]
  rw [show Nat.beq vs.length vs.length = true from Nat.beq_refl _, show Nat.ble (off + vs.length) xs.length = true from Nat.ble_eq_true_of_le hl]
  simp [hv, ← hy]

end Go.Q
