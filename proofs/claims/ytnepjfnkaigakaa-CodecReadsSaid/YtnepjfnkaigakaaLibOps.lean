/- Operations, answers, as they are read. -/
import Derived.Test.YtnepjfnkaigakaaLibOwn
import Derived.Test.YtnepjfnkaigakaaLibNum
set_option linter.unusedVariables false
namespace Go.Q
open Go.RowKit

/-- An operation. -/
structure Opm where
  kind : Int
  frm : List UInt8
  to : List UInt8
  amount : Int
  key : List UInt8
  slot : Int
  shard : Int
def Opm.cells (o : Opm) : List Value := [i64 o.kind, .string (str o.frm), .string (str o.to), i64 o.amount, .string (str o.key), i64 o.slot, i64 o.shard]
def Rdr.op (r : Rdr) : Opm × Rdr :=
  (⟨r.int.1, r.int.2.bytes.1, r.int.2.bytes.2.bytes.1, r.int.2.bytes.2.bytes.2.int.1, r.int.2.bytes.2.bytes.2.int.2.bytes.1, r.int.2.bytes.2.bytes.2.int.2.bytes.2.int.1, r.int.2.bytes.2.bytes.2.int.2.bytes.2.int.2.int.1⟩,
    r.int.2.bytes.2.bytes.2.int.2.bytes.2.int.2.int.2)
theorem Rdr.Ok.op {r : Rdr} (h : r.Ok) : r.op.2.Ok := h.int.bytes.bytes.int.bytes.int.int
theorem Rdr.op_bs (r : Rdr) : r.op.2.bs = r.bs := by
  show r.int.2.bytes.2.bytes.2.int.2.bytes.2.int.2.int.2.bs = r.bs
  rw [Rdr.int_bs, Rdr.int_bs, Rdr.bytes_bs, Rdr.int_bs, Rdr.bytes_bs, Rdr.bytes_bs, Rdr.int_bs]

/-! ### once there is an error, it stays -/
theorem Rdr.uint_err {r : Rdr} (h : r.why ≠ 0) : r.uint = (0, r) := by unfold Rdr.uint; rw [if_pos h]
theorem Rdr.int_err {r : Rdr} (h : r.why ≠ 0) : r.int.2 = r := by unfold Rdr.int; rw [Rdr.uint_err h]
theorem Rdr.sized_err {r : Rdr} (h : r.why ≠ 0) (m : Int) : (r.sized m) = (0, r) := by unfold Rdr.sized; rw [if_pos h]
theorem Rdr.bytes_err {r : Rdr} (h : r.why ≠ 0) : r.bytes = ([], r) := by unfold Rdr.bytes; rw [Rdr.sized_err h, if_pos h]
theorem Rdr.bool_err {r : Rdr} (h : r.why ≠ 0) : r.bool_ = (false, r) := by unfold Rdr.bool_; rw [if_pos h]
theorem Rdr.op_err {r : Rdr} (h : r.why ≠ 0) : r.op.2 = r := by
  show r.int.2.bytes.2.bytes.2.int.2.bytes.2.int.2.int.2 = r
  rw [Rdr.int_err h, Rdr.bytes_err h]
  show r.bytes.2.int.2.bytes.2.int.2.int.2 = r
  rw [Rdr.bytes_err h]
  show r.int.2.bytes.2.int.2.int.2 = r
  rw [Rdr.int_err h, Rdr.bytes_err h]
  show r.int.2.int.2 = r
  rw [Rdr.int_err h, Rdr.int_err h]

/-! ### a reader never goes back -/
theorem Rdr.uint_mono (r : Rdr) : r.pos ≤ r.uint.2.pos := by
  unfold Rdr.uint
  (repeat' split) <;> simp
theorem Rdr.int_mono (r : Rdr) : r.pos ≤ r.int.2.pos := r.uint_mono
theorem Rdr.sized_mono (r : Rdr) (m : Int) : r.pos ≤ (r.sized m).2.pos := by
  have := r.uint_mono
  unfold Rdr.sized
  (repeat' split) <;> first | exact Nat.le_refl _ | exact this
theorem Rdr.bytes_mono (r : Rdr) : r.pos ≤ r.bytes.2.pos := by
  have := r.sized_mono 65536
  unfold Rdr.bytes
  split
  · exact this
  · show r.pos ≤ (r.sized 65536).2.pos + _; omega
theorem Rdr.bool_mono (r : Rdr) : r.pos ≤ r.bool_.2.pos := by
  unfold Rdr.bool_
  (repeat' split) <;> simp
theorem Rdr.op_mono (r : Rdr) : r.pos ≤ r.op.2.pos := by
  show r.pos ≤ r.int.2.bytes.2.bytes.2.int.2.bytes.2.int.2.int.2.pos
  exact Nat.le_trans r.int_mono (Nat.le_trans (Rdr.bytes_mono _) (Nat.le_trans (Rdr.bytes_mono _) (Nat.le_trans (Rdr.int_mono _) (Nat.le_trans (Rdr.bytes_mono _) (Nat.le_trans (Rdr.int_mono _) (Rdr.int_mono _))))))

/-- Bytes out of the middle of a slice. -/
theorem RdB.cutlh {w : World} {A : Option Addr} {n c : Nat} {bs : List UInt8} (h : RdB w (.slice A n c) bs) (l k : Nat) (h1 : l ≤ k) (h2 : k ≤ n) :
    RdB w (.slice (if c = l then A else Option.map (fun q => Addr.add q (l * 1)) A) (k - l) (c - l)) ((bs.drop l).take (k - l)) := by
  have hs := h.slice
  have := Rd.cut h l k c h1 (by omega) (Nat.le_refl _) h2
  have e : ((bv bs).drop (l * 1)).take ((k - l) * 1) = bv ((bs.drop l).take (k - l)) := by
    simp only [bv, Nat.mul_one, List.map_drop, List.map_take]
  rw [e] at this
  exact this
end Go.Q
namespace Go.Q
/-! ### what a reader's methods have in common -/
structure Rdr.Goes (r r' : Rdr) : Prop where
  bs : r'.bs = r.bs
  mono : r.pos ≤ r'.pos
  pos : r.why ≠ 0 → r'.pos = r.pos
  why : r.why ≠ 0 → r'.why = r.why
theorem Rdr.goes_of {r r' : Rdr} (h1 : r'.bs = r.bs) (h2 : r.pos ≤ r'.pos) (h3 : r.why ≠ 0 → r' = r) : r.Goes r' := ⟨h1, h2, fun h => by rw [h3 h], fun h => by rw [h3 h]⟩
theorem Rdr.goes_uint (r : Rdr) : r.Goes r.uint.2 := goes_of r.uint_bs r.uint_mono fun h => by rw [Rdr.uint_err h]
theorem Rdr.goes_int (r : Rdr) : r.Goes r.int.2 := goes_of r.int_bs r.int_mono fun h => by rw [Rdr.int_err h]
theorem Rdr.goes_sized (r : Rdr) (m : Int) : r.Goes (r.sized m).2 := goes_of (r.sized_bs m) (r.sized_mono m) fun h => by rw [Rdr.sized_err h]
theorem Rdr.goes_bytes (r : Rdr) : r.Goes r.bytes.2 := goes_of r.bytes_bs r.bytes_mono fun h => by rw [Rdr.bytes_err h]
theorem Rdr.goes_bool (r : Rdr) : r.Goes r.bool_.2 := goes_of r.bool_bs r.bool_mono fun h => by rw [Rdr.bool_err h]
theorem Rdr.goes_op (r : Rdr) : r.Goes r.op.2 := goes_of r.op_bs r.op_mono fun h => Rdr.op_err h
theorem Rdr.end_spec (r : Rdr) : (r.why = 0 → r.end_ = 0 ∨ r.end_ = 11) ∧ (r.why ≠ 0 → r.end_ = r.why) := by
  unfold Rdr.end_
  constructor
  · intro h; split
    · exact .inr rfl
    · exact .inl h
  · intro h; rw [if_neg (fun q => h q.1)]

def cnt (a k : Int) : Int := if a.tmod k < 0 then a.tmod k + k else a.tmod k
theorem tmod_range (a : Int) {k : Int} (hk : 0 < k) : -k < a.tmod k ∧ a.tmod k < k := by
  have h1 := Int.tmod_lt_of_pos a hk
  have h2 := Int.tmod_lt_of_pos (-a) hk
  rw [Int.neg_tmod] at h2
  omega
theorem cnt_range (a : Int) {k : Int} (hk : 0 < k) : 0 ≤ cnt a k ∧ cnt a k < k := by
  have := tmod_range a hk
  unfold cnt
  split <;> omega
end Go.Q
