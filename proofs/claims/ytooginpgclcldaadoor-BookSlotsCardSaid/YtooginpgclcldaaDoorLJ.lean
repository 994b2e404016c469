/- Frames that are read. -/
import Derived.Test.YtooginpgclcldaaDoorLI
set_option linter.unusedVariables false
namespace Go.Q
open Go.RowKit

def le4 (a b c d : Nat) : Nat := (((0 ||| a * 1) ||| b * 256) ||| c * 65536) ||| d * 16777216
theorem or_add {k A x : Nat} (h : A < 2 ^ k) : A ||| x * 2 ^ k = A + x * 2 ^ k := by
  have := Nat.two_pow_add_eq_or_of_lt h x
  rw [Nat.or_comm, Nat.mul_comm x, ← this, Nat.add_comm]
theorem le4_eq {a b c d : Nat} (ha : a < 256) (hb : b < 256) (hc : c < 256) (hd : d < 256) : le4 a b c d = a + b * 256 + c * 65536 + d * 16777216 := by
  unfold le4
  have h1 : (0 ||| a * 1) = a := by simp
  have h2 : a ||| b * 256 = a + b * 256 := or_add (k := 8) (by omega)
  have h3 : (a + b * 256) ||| c * 65536 = a + b * 256 + c * 65536 := or_add (k := 16) (by omega)
  have h4 : (a + b * 256 + c * 65536) ||| d * 16777216 = a + b * 256 + c * 65536 + d * 16777216 := or_add (k := 24) (by omega)
  rw [h1, h2, h3, h4]
def byteN (bs : List UInt8) (k : Nat) : Nat := (bs.getD k 0).toNat
theorem byteN_at {bs : List UInt8} {k : Nat} {x : UInt8} (h : bs[k]? = some x) : byteN bs k = x.toNat := by unfold byteN; rw [List.getD_eq_getElem?_getD, h]; rfl
/-- The first frame of bytes: what is in it, how many bytes it has, the error. -/
def cutB (bs : List UInt8) : List UInt8 × Nat × Int :=
  if (scanB bs).2.2 ≠ 0 then ([], 0, (scanB bs).2.2)
  else if 65536 < (scanB bs).1 then ([], 0, 3)
  else if bs.length < (scanB bs).2.1 + 4 + (scanB bs).1 then ([], 0, 10)
  else if le4 (byteN bs (scanB bs).2.1) (byteN bs ((scanB bs).2.1 + 1)) (byteN bs ((scanB bs).2.1 + 2)) (byteN bs ((scanB bs).2.1 + 3)) ≠ crcMore 0 ((bs.drop ((scanB bs).2.1 + 4)).take (scanB bs).1) then ([], (scanB bs).2.1 + 4 + (scanB bs).1, 12)
  else ((bs.drop ((scanB bs).2.1 + 4)).take (scanB bs).1, (scanB bs).2.1 + 4 + (scanB bs).1, 0)
def unframeB (bs : List UInt8) : List UInt8 × Int :=
  if 0 < (cutB bs).2.1 ∧ (cutB bs).2.1 < bs.length then ([], 11)
  else if (cutB bs).2.2 ≠ 0 then ([], (cutB bs).2.2)
  else ((cutB bs).1, 0)
theorem scanB_le (bs : List UInt8) : (scanB bs).1 < 18446744073709551616 ∧ (scanB bs).2.1 ≤ bs.length := by
  have hb := scanA_bound bs 0 0 (by omega) (p7_pos 0)
  rw [Nat.zero_add] at hb
  exact hb
theorem frame_scan (p rest : List UInt8) (hp : p.length ≤ 65536) : scanB (frameB p ++ rest) = (p.length, (uv p.length).length, 0) := by
  unfold frameB
  rw [List.append_assoc]
  exact scanB_uv _ (by omega)
theorem frame_len (p : List UInt8) : (frameB p).length = (uv p.length).length + 4 + p.length := by
  unfold frameB fourB
  simp only [List.length_append, List.length_cons, List.length_nil]
  omega
theorem frame_cut {p rest : List UInt8} (hp : p.length ≤ 65536) : cutB (frameB p ++ rest) = (p, (uv p.length).length + 4 + p.length, 0) := by
  have hs := frame_scan p rest hp
  have hl := frame_len p
  have hd : (frameB p ++ rest).drop ((uv p.length).length + 4) = p ++ rest := by
    unfold frameB fourB
    simp only [List.append_assoc]
    rw [← List.drop_drop, List.drop_left]
    rfl
  have hb : ∀ j, j < 4 → byteN (frameB p ++ rest) ((uv p.length).length + j) = byteN (fourB (crcMore 0 p)) j := by
    intro j hj
    unfold byteN frameB
    rw [List.getD_eq_getElem?_getD, List.getD_eq_getElem?_getD, List.append_assoc, List.getElem?_append_right (by omega), Nat.add_sub_cancel_left, List.append_assoc, List.getElem?_append_left (by unfold fourB; simpa using hj)]
  have hc := crcMore_lt p (s := 0) (by omega)
  unfold cutB
  rw [hs, if_neg (by simp), if_neg (by simp only; omega), if_neg (by simp only [List.length_append]; omega)]
  simp only [hd, List.take_left]
  have h0 := hb 0 (by omega)
  rw [Nat.add_zero] at h0
  rw [h0, hb 1 (by omega), hb 2 (by omega), hb 3 (by omega)]
  have hle : le4 (byteN (fourB (crcMore 0 p)) 0) (byteN (fourB (crcMore 0 p)) 1) (byteN (fourB (crcMore 0 p)) 2) (byteN (fourB (crcMore 0 p)) 3) = crcMore 0 p := by
    have b0 : byteN (fourB (crcMore 0 p)) 0 = crcMore 0 p % 256 := by unfold byteN fourB; simp
    have b1 : byteN (fourB (crcMore 0 p)) 1 = crcMore 0 p / 256 % 256 := by unfold byteN fourB; simp
    have b2 : byteN (fourB (crcMore 0 p)) 2 = crcMore 0 p / 65536 % 256 := by unfold byteN fourB; simp; omega
    have b3 : byteN (fourB (crcMore 0 p)) 3 = crcMore 0 p / 16777216 % 256 := by unfold byteN fourB; simp; omega
    rw [b0, b1, b2, b3, le4_eq (by omega) (by omega) (by omega) (by omega)]
    omega
  rw [hle, if_neg (by simp)]
theorem unframe_frame {p : List UInt8} (hp : p.length ≤ 65536) : unframeB (frameB p) = (p, 0) := by
  have h := frame_cut (rest := []) hp
  rw [List.append_nil] at h
  have hl := frame_len p
  unfold unframeB
  rw [h, if_neg (by simp only; omega), if_neg (by simp)]
theorem unframe_short {p : List UInt8} {k : Nat} (hp : p.length ≤ 65536) (hk : k < (frameB p).length) : unframeB ((frameB p).take k) = ([], 10) := by
  have hl := frame_len p
  have hc : cutB ((frameB p).take k) = ([], 0, 10) := by
    rcases Nat.lt_or_ge k (uv p.length).length with h | h
    · have e : (frameB p).take k = (uv p.length).take k := by
        unfold frameB
        rw [List.take_append_of_le_length (by omega)]
      have hs := scanA_short p.length k 0 0 h (.inl rfl) (by rw [show p7 0 = 1 from rfl]; omega) (by omega)
      unfold cutB
      rw [e]
      have : (scanB ((uv p.length).take k)).2.2 = 10 := by show (scanA ((uv p.length).take k) 0 0).2.2 = 10; rw [hs]
      rw [if_pos (by omega), this]
    · have e : (frameB p).take k = uv p.length ++ ((fourB (crcMore 0 p) ++ p).take (k - (uv p.length).length)) := by
        unfold frameB
        rw [List.take_append, List.take_of_length_le h]
      have hs := scanB_uv (m := p.length) ((fourB (crcMore 0 p) ++ p).take (k - (uv p.length).length)) (by omega)
      have hlen : ((frameB p).take k).length = k := by rw [List.length_take]; omega
      unfold cutB
      rw [hlen, e, hs, if_neg (by simp), if_neg (by simp only; omega), if_pos (by simp only; omega)]
  unfold unframeB
  rw [hc, if_neg (by simp), if_pos (by simp)]
end Go.Q
