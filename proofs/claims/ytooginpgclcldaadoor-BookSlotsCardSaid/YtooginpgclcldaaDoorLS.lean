/- The reference's sum, bit by bit; its first frame. -/
import Derived.Test.YtooginpgclcldaaDoorLP
set_option linter.unusedVariables false
namespace Go.Q
open Go.RowKit

/-- A byte, its bits from i on. -/
def shr8 (c i : Nat) : Nat := c / 2 ^ i
theorem shr8_le (c i : Nat) : shr8 c i ≤ c := Nat.div_le_self _ _
theorem shr8_zero (c : Nat) : shr8 c 0 = c := by simp [shr8]
theorem shr8_next (c i : Nat) : shr8 c (i + 1) = shr8 c i / 2 := by unfold shr8; rw [Nat.pow_succ, Nat.div_div_eq_div_mul]
theorem shr8_end {c : Nat} (h : c < 256) : shr8 c 8 = 0 := by unfold shr8; exact Nat.div_eq_of_lt (by omega)
theorem run_shrv {P : Program} {w : World} {t : TypeId} {k : IntKind} {c i : Nat} {s : Int} (hs : s = (i : Int)) (hi : i ≤ 8) : (binOp .shr t (.int .u8 ((c : Nat) : Int)) (.int k s)).run P w = .ok (.int .u8 ((shr8 c i : Nat) : Int)) w := by
  have h1 : ¬ s < 0 := by omega
  have h2 : min s.toNat IntKind.u8.bits = i := by
    have : IntKind.u8.bits = 8 := rfl
    rw [this]; omega
  simp only [binOp, Op.shift, h1, if_false, h2]
  have e : ((c : Nat) : Int).fdiv (2 ^ i) = ((shr8 c i : Nat) : Int) := by
    unfold shr8
    rw [Int.fdiv_eq_ediv_of_nonneg _ (by exact Int.pow_nonneg (by decide))]
    simp
  rw [e]
  rfl
theorem and_one (a : Nat) : a &&& 1 = a % 2 := Nat.and_one_is_mod a
theorem step_t {r s : Nat} (h : ((((r ^^^ s) &&& 1 : Nat)) : Int) = 1) : (r / 2 ^^^ 2197175160) ^^^ (s / 2) = shiftB (r ^^^ s) := by
  have h1 : (r ^^^ s) &&& 1 = 1 := by omega
  unfold shiftB
  rw [h1, show (2197175160 &&& neg32 1) = 2197175160 from by decide, Nat.xor_div_two, Nat.xor_assoc, Nat.xor_assoc, Nat.xor_comm 2197175160]
theorem step_f {r s : Nat} (h : ¬ ((((r ^^^ s) &&& 1 : Nat)) : Int) = 1) : (r / 2) ^^^ (s / 2) = shiftB (r ^^^ s) := by
  have h1 : (r ^^^ s) &&& 1 = 0 := by rw [and_one] at h ⊢; omega
  unfold shiftB
  rw [h1, show (2197175160 &&& neg32 0) = 0 from by decide, Nat.xor_div_two, Nat.xor_zero]
theorem four_eq (s : Nat) : [byte (s % 256), byte (s / 256 % 256), byte (s / 65536 % 256), byte (s / 16777216 % 256)] = fourB s := by
  unfold fourB
  rw [Nat.div_div_eq_div_mul, Nat.div_div_eq_div_mul]

theorem lit4 {w : World} {b : Nat} {E : TypeId} {m0 m1 m2 m3 : Nat} (h0 : m0 < 256) (h1 : m1 < 256) (h2 : m2 < 256) (h3 : m3 < 256) (H : Has w b (rowL [Value.int IntKind.u8 ((m0 : Nat) : Int), Value.int IntKind.u8 ((m1 : Nat) : Int), Value.int IntKind.u8 ((m2 : Nat) : Int), Value.int IntKind.u8 ((m3 : Nat) : Int)] E)) :
    RdB w (.slice (some ⟨b, 0, none⟩) 4 4) [byte m0, byte m1, byte m2, byte m3] := by
  refine RdB.lit (xs := [byte m0, byte m1, byte m2, byte m3]) (E := E) ?_ (by simp [maxLen])
  have e : bv [byte m0, byte m1, byte m2, byte m3] = [Value.int IntKind.u8 ((m0 : Nat) : Int), Value.int IntKind.u8 ((m1 : Nat) : Int), Value.int IntKind.u8 ((m2 : Nat) : Int), Value.int IntKind.u8 ((m3 : Nat) : Int)] := by
    simp only [bv, List.map, byte_toNat _ h0, byte_toNat _ h1, byte_toNat _ h2, byte_toNat _ h3]
  rw [e]; exact H
/-- The first frame as the reference reads it: what is in it, what stands behind it, the error. -/
def firstB (bs : List UInt8) : List UInt8 × List UInt8 × Int :=
  if (scanB bs).2.2 ≠ 0 then ([], [], (scanB bs).2.2)
  else if 65536 < (scanB bs).1 then ([], [], 3)
  else if bs.length < (scanB bs).2.1 + 4 + (scanB bs).1 then ([], [], 10)
  else ((bs.drop ((scanB bs).2.1 + 4)).take (scanB bs).1, bs.drop ((scanB bs).2.1 + 4 + (scanB bs).1),
    if (bs.drop (scanB bs).2.1).take 4 = fourB (crcMore 0 ((bs.drop ((scanB bs).2.1 + 4)).take (scanB bs).1)) then 0 else 12)
theorem byte_inj {a : UInt8} {n : Nat} (h : n < 256) : a = byte n ↔ a.toNat = n := by
  constructor
  · rintro rfl; exact byte_toNat n h
  · intro hh; exact UInt8.toNat_inj.1 (by rw [byte_toNat n h]; exact hh)
theorem four_le {bs : List UInt8} {k s : Nat} (hk : k + 4 ≤ bs.length) (hs : s < 4294967296) :
    (bs.drop k).take 4 = fourB s ↔ le4 (byteN bs k) (byteN bs (k + 1)) (byteN bs (k + 2)) (byteN bs (k + 3)) = s := by
  have hb : ∀ j, j < 4 → ∃ x, bs[k + j]? = some x := fun j hj => ⟨_, List.getElem?_eq_getElem (by omega)⟩
  obtain ⟨x0, h0⟩ := hb 0 (by omega)
  obtain ⟨x1, h1⟩ := hb 1 (by omega)
  obtain ⟨x2, h2⟩ := hb 2 (by omega)
  obtain ⟨x3, h3⟩ := hb 3 (by omega)
  rw [Nat.add_zero] at h0
  rw [byteN_at h0, byteN_at h1, byteN_at h2, byteN_at h3]
  have hl : (bs.drop k).take 4 = [x0, x1, x2, x3] := by
    apply List.ext_getElem?
    intro i
    rw [List.getElem?_take]
    split
    · rw [List.getElem?_drop]
      rcases i with _ | _ | _ | _ | i
      · rw [Nat.add_zero, h0]; rfl
      · rw [h1]; rfl
      · rw [h2]; rfl
      · rw [h3]; rfl
      · omega
    · rw [List.getElem?_eq_none (by simp; omega)]
  have g0 := x0.toNat_lt
  have g1 := x1.toNat_lt
  have g2 := x2.toNat_lt
  have g3 := x3.toNat_lt
  rw [hl, le4_eq (by omega) (by omega) (by omega) (by omega)]
  unfold fourB
  simp only [List.cons.injEq, and_true]
  rw [byte_inj (by omega), byte_inj (by omega), byte_inj (by omega), byte_inj (by omega)]
  omega
/-- The two frames are one. -/
theorem first_why (bs : List UInt8) : (firstB bs).2.2 = (cutB bs).2.2 := by
  unfold firstB cutB
  by_cases h1 : (scanB bs).2.2 ≠ 0
  · rw [if_pos h1, if_pos h1]
  · rw [if_neg h1, if_neg h1]
    by_cases h2 : 65536 < (scanB bs).1
    · rw [if_pos h2, if_pos h2]
    · rw [if_neg h2, if_neg h2]
      by_cases h3 : bs.length < (scanB bs).2.1 + 4 + (scanB bs).1
      · rw [if_pos h3, if_pos h3]
      · rw [if_neg h3, if_neg h3]
        have hq := four_le (bs := bs) (k := (scanB bs).2.1) (s := crcMore 0 ((bs.drop ((scanB bs).2.1 + 4)).take (scanB bs).1)) (by omega) (crcMore_lt _ (by omega))
        by_cases h4 : le4 (byteN bs (scanB bs).2.1) (byteN bs ((scanB bs).2.1 + 1)) (byteN bs ((scanB bs).2.1 + 2)) (byteN bs ((scanB bs).2.1 + 3)) = crcMore 0 ((bs.drop ((scanB bs).2.1 + 4)).take (scanB bs).1)
        · rw [if_pos (hq.2 h4), if_neg (not_not_intro h4)]
        · rw [if_neg (fun q => h4 (hq.1 q)), if_pos h4]
theorem first_rest {bs : List UInt8} (h : 0 < (cutB bs).2.1) : (firstB bs).2.1 = bs.drop (cutB bs).2.1 := by
  revert h
  unfold firstB cutB
  by_cases h1 : (scanB bs).2.2 ≠ 0
  · rw [if_pos h1, if_pos h1]; intro h; exact absurd h (by simp)
  · rw [if_neg h1, if_neg h1]
    by_cases h2 : 65536 < (scanB bs).1
    · rw [if_pos h2, if_pos h2]; intro h; exact absurd h (by simp)
    · rw [if_neg h2, if_neg h2]
      by_cases h3 : bs.length < (scanB bs).2.1 + 4 + (scanB bs).1
      · rw [if_pos h3, if_pos h3]; intro h; exact absurd h (by simp)
      · rw [if_neg h3, if_neg h3]
        intro _
        by_cases h4 : le4 (byteN bs (scanB bs).2.1) (byteN bs ((scanB bs).2.1 + 1)) (byteN bs ((scanB bs).2.1 + 2)) (byteN bs ((scanB bs).2.1 + 3)) ≠ crcMore 0 ((bs.drop ((scanB bs).2.1 + 4)).take (scanB bs).1)
        · rw [if_pos h4]
        · rw [if_neg h4]
theorem scanA_why : ∀ (bs : List UInt8) (i n : Nat), (scanA bs i n).2.2 = 0 ∨ (scanA bs i n).2.2 = 10 ∨ (scanA bs i n).2.2 = 11
  | [], i, n => .inr (.inl rfl)
  | c :: cs, i, n => by
    rw [scanA]
    split
    · exact .inr (.inr rfl)
    · split
      · exact .inl rfl
      · exact scanA_why cs _ _
theorem first_none {bs : List UInt8} (h : (cutB bs).2.1 = 0) : (firstB bs).2.2 ≠ 0 ∧ (firstB bs).2.2 ≠ 12 := by
  revert h
  unfold firstB cutB
  by_cases h1 : (scanB bs).2.2 ≠ 0
  · rw [if_pos h1, if_pos h1]
    intro _
    have := scanA_why bs 0 0
    refine ⟨h1, ?_⟩
    show (scanB bs).2.2 ≠ 12
    unfold scanB
    omega
  · rw [if_neg h1, if_neg h1]
    by_cases h2 : 65536 < (scanB bs).1
    · rw [if_pos h2, if_pos h2]; intro _; exact ⟨by simp, by simp⟩
    · rw [if_neg h2, if_neg h2]
      by_cases h3 : bs.length < (scanB bs).2.1 + 4 + (scanB bs).1
      · rw [if_pos h3, if_pos h3]; intro _; exact ⟨by simp, by simp⟩
      · rw [if_neg h3, if_neg h3]; intro h
        exfalso
        split at h <;> simp at h
theorem first_12 {bs : List UInt8} (h : (firstB bs).2.2 = 0 ∨ (firstB bs).2.2 = 12) : 0 < (cutB bs).2.1 := by
  rcases Nat.eq_zero_or_pos (cutB bs).2.1 with h0 | h0
  · have := first_none h0; omega
  · exact h0
theorem first_uint (bs : List UInt8) : (⟨bs, 0, 0⟩ : Rdr).uint.2.why = (scanB bs).2.2 ∧ ((scanB bs).2.2 = 0 → (⟨bs, 0, 0⟩ : Rdr).uint.1 = (scanB bs).1 ∧ (⟨bs, 0, 0⟩ : Rdr).uint.2.pos = (scanB bs).2.1) := by
  unfold Rdr.uint
  simp only [ne_eq, not_true, if_false, List.drop_zero, Nat.zero_add]
  split
  · rename_i h; exact ⟨rfl, fun q => absurd q h⟩
  · rename_i h; exact ⟨by simpa using (Classical.not_not.1 h).symm, fun _ => ⟨rfl, rfl⟩⟩
theorem first_data {bs : List UInt8} (h : (cutB bs).2.2 = 0) : (firstB bs).1 = (cutB bs).1 := by
  have hw := first_why bs
  rw [h] at hw
  revert hw h
  unfold firstB cutB
  by_cases h1 : (scanB bs).2.2 ≠ 0
  · rw [if_pos h1, if_pos h1]; intro h; exact absurd h h1
  · rw [if_neg h1, if_neg h1]
    by_cases h2 : 65536 < (scanB bs).1
    · rw [if_pos h2, if_pos h2]; intro h; cases h
    · rw [if_neg h2, if_neg h2]
      by_cases h3 : bs.length < (scanB bs).2.1 + 4 + (scanB bs).1
      · rw [if_pos h3, if_pos h3]; intro h; cases h
      · rw [if_neg h3, if_neg h3]
        intro h _
        split at h
        · cases h
        · rename_i h4; rw [if_neg h4]
theorem cut_zero {bs : List UInt8} (h : (cutB bs).2.2 ≠ 0) (h2 : (cutB bs).2.2 ≠ 12) : (cutB bs).2.1 = 0 := by
  revert h h2
  unfold cutB
  split
  · intro _ _; rfl
  · split
    · intro _ _; rfl
    · split
      · intro _ _; rfl
      · split
        · intro _ h; exact absurd rfl h
        · intro h _; exact absurd rfl h
theorem unframe_a {bs : List UInt8} (h : (firstB bs).2.2 ≠ 0) (h2 : (firstB bs).2.2 ≠ 12) : unframeB bs = ([], (firstB bs).2.2) := by
  rw [first_why] at h h2 ⊢
  have := cut_zero h h2
  unfold unframeB
  rw [if_neg (by omega), if_pos h]
theorem unframe_b {bs : List UInt8} (h : (firstB bs).2.2 = 0 ∨ (firstB bs).2.2 = 12) (hr : 0 < (firstB bs).2.1.length) : unframeB bs = ([], 11) := by
  have hp := first_12 h
  rw [first_rest hp, List.length_drop] at hr
  unfold unframeB
  rw [if_pos (by omega)]
theorem unframe_c {bs : List UInt8} (h : (firstB bs).2.2 = 12) (hr : (firstB bs).2.1.length = 0) : unframeB bs = ([], 12) := by
  have hp := first_12 (.inr h)
  rw [first_rest hp, List.length_drop] at hr
  rw [first_why] at h
  unfold unframeB
  rw [if_neg (by omega), if_pos (by omega), h]
theorem unframe_d {bs : List UInt8} (h : (firstB bs).2.2 = 0) (hr : (firstB bs).2.1.length = 0) : unframeB bs = ((firstB bs).1, 0) := by
  have hp := first_12 (.inl h)
  rw [first_rest hp, List.length_drop] at hr
  rw [first_why] at h
  unfold unframeB
  rw [if_neg (by omega), if_neg (by omega), first_data h]
theorem frames_first {bs : List UInt8} (h : bs.length ≠ 0) (h2 : (firstB bs).2.2 = 0) : framesB bs = (firstB bs).1 :: framesB (firstB bs).2.1 ∧ (firstB bs).2.1.length < bs.length := by
  have hp := first_12 (.inl h2)
  have hr := first_rest hp
  rw [first_why] at h2
  refine ⟨by rw [frames_cons h h2, first_data h2, hr], ?_⟩
  rw [hr, List.length_drop]
  omega
theorem frames_stop {bs : List UInt8} (h : bs.length = 0 ∨ (firstB bs).2.2 ≠ 0) : framesB bs = [] := frames_nil (by rw [← first_why]; exact h)
theorem first_le (bs : List UInt8) : (firstB bs).1.length ≤ bs.length ∧ (firstB bs).2.1.length ≤ bs.length := by
  unfold firstB
  split
  · exact ⟨by simp, by simp⟩
  · split
    · exact ⟨by simp, by simp⟩
    · split
      · exact ⟨by simp, by simp⟩
      · simp only [List.length_take, List.length_drop]; omega
theorem framesN_le : ∀ (N : Nat) (bs : List UInt8), (framesN N bs).length ≤ bs.length
  | 0, bs => by simp [framesN]
  | N + 1, bs => by
    unfold framesN
    split
    · simp
    · rename_i hc
      have hp := cut_pos (bs := bs) (Classical.byContradiction fun q => hc (.inr q))
      have := framesN_le N (bs.drop (cutB bs).2.1)
      rw [List.length_drop] at this
      rw [List.length_cons]
      omega
theorem frames_le (bs : List UInt8) : (framesB bs).length ≤ bs.length := framesN_le _ _
theorem cut_data_le (bs : List UInt8) : (cutB bs).1.length ≤ 65536 := by
  unfold cutB
  split
  · simp
  · split
    · simp
    · split
      · simp
      · split
        · simp
        · simp only [List.length_take]; omega
theorem framesN_short : ∀ (N : Nat) (bs : List UInt8), ∀ p ∈ framesN N bs, p.length ≤ 65536
  | 0, bs, p, h => by cases h
  | N + 1, bs, p, h => by
    unfold framesN at h
    split at h
    · cases h
    · rcases List.mem_cons.1 h with rfl | h
      · exact cut_data_le bs
      · exact framesN_short N _ p h
theorem part_le (bs : List UInt8) (j : Nat) : ((framesB bs).getD j []).length ≤ 140737488351232 := by
  rw [List.getD_eq_getElem?_getD]
  cases h : (framesB bs)[j]? with
  | none => simp
  | some p => have := framesN_short _ _ p (List.mem_of_getElem? h); simp only [Option.getD_some]; omega
theorem unframe_le (bs : List UInt8) : (unframeB bs).1.length ≤ 65536 := by
  have := cut_data_le bs
  unfold unframeB
  split
  · simp
  · split
    · simp
    · exact this
end Go.Q
