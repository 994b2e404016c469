/- Readers: how many, bytes, truths. -/
import Derived.Test.YtnepjfnkaigakaaLibRead2
set_option linter.unusedVariables false
namespace Go.Q

def Rdr.sized (r : Rdr) (most : Int) : Nat × Rdr :=
  if r.why ≠ 0 then (0, r)
  else if r.uint.2.why ≠ 0 then (0, ⟨r.bs, r.pos, r.uint.2.why⟩)
  else if most < 0 ∨ most < ((r.uint.1 : Nat) : Int) then (0, ⟨r.bs, r.pos, 3⟩)
  else if r.bs.length - r.uint.2.pos < r.uint.1 then (0, ⟨r.bs, r.pos, 10⟩)
  else r.uint
def Rdr.bytes (r : Rdr) : List UInt8 × Rdr :=
  if (r.sized 65536).2.why ≠ 0 then ([], (r.sized 65536).2)
  else ((r.bs.drop (r.sized 65536).2.pos).take (r.sized 65536).1, ⟨r.bs, (r.sized 65536).2.pos + (r.sized 65536).1, (r.sized 65536).2.why⟩)
def Rdr.bool_ (r : Rdr) : Bool × Rdr :=
  if r.why ≠ 0 then (false, r)
  else match r.bs.drop r.pos with
    | [] => (false, ⟨r.bs, r.pos, 10⟩)
    | c :: _ => if 1 < c.toNat then (false, ⟨r.bs, r.pos, 11⟩) else (c.toNat == 1, ⟨r.bs, r.pos + 1, r.why⟩)
theorem Rdr.sized_bs (r : Rdr) (m : Int) : (r.sized m).2.bs = r.bs := by unfold Rdr.sized; (repeat' split) <;> first | rfl | exact r.uint_bs
theorem Rdr.bytes_bs (r : Rdr) : r.bytes.2.bs = r.bs := by unfold Rdr.bytes; split <;> first | rfl | exact r.sized_bs _
theorem Rdr.bool_bs (r : Rdr) : r.bool_.2.bs = r.bs := by unfold Rdr.bool_; (repeat' split) <;> rfl
theorem cut_block {A : Option Addr} {c l k g o : Nat} {s : Option Nat} (h : (if c = l then A else A.map (·.add k)) = some ⟨g, o, s⟩) : ∃ o' s', A = some ⟨g, o', s'⟩ := by
  split at h
  · exact ⟨o, s, h⟩
  · cases A with
    | none => cases h
    | some a =>
      simp only [Option.map_some, Option.some.injEq] at h
      refine ⟨a.off, a.spot, ?_⟩
      have : a.block = g := by have := congrArg Addr.block h; unfold Addr.add at this; split at this <;> exact this
      rw [← this]
end Go.Q
