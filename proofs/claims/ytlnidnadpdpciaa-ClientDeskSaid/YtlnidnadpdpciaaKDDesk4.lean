/- What the claim stands on, part 4: rules of the walk, contracts of the functions, plain laws. -/
import Derived.Test.YtlnidnadpdpciaaKDDesk3
import Derived.Lib.ConvBytes
set_option linter.unusedVariables false
namespace Go.Q
open Go.RowKit

/-! ### operations and answers as bytes -/
structure Opm.Ok (o : Opm) : Prop where
  kind : -9223372036854775808 ≤ o.kind ∧ o.kind ≤ 9223372036854775807
  amount : -9223372036854775808 ≤ o.amount ∧ o.amount ≤ 9223372036854775807
  slot : -9223372036854775808 ≤ o.slot ∧ o.slot ≤ 9223372036854775807
  shard : -9223372036854775808 ≤ o.shard ∧ o.shard ≤ 9223372036854775807
def opv (o : Opm) : List UInt8 := iv o.kind ++ (tv o.frm ++ (tv o.to ++ (iv o.amount ++ (tv o.key ++ (iv o.slot ++ iv o.shard)))))
def rowsv : List RowM → List UInt8
  | [] => []
  | x :: l => tv x.name ++ (iv x.amount ++ rowsv l)
structure ReplyM.Ok (p : ReplyM) : Prop where
  why : -9223372036854775808 ≤ p.why ∧ p.why ≤ 9223372036854775807
  amount : -9223372036854775808 ≤ p.amount ∧ p.amount ≤ 9223372036854775807
  rows : ∀ x ∈ p.rows, -9223372036854775808 ≤ x.amount ∧ x.amount ≤ 9223372036854775807
def rpv (p : ReplyM) : List UInt8 := iv p.why ++ (iv p.amount ++ (uv p.rows.length ++ rowsv p.rows))
theorem tv_ge (s : List UInt8) : s.length ≤ (tv s).length := by unfold tv; rw [List.length_append]; omega
theorem tv_le {s : List UInt8} (h : s.length < 18446744073709551616) : (tv s).length ≤ s.length + 10 := by
  have := uv_length_10 h
  unfold tv; rw [List.length_append]; omega
theorem iv_pos (n : Int) : 0 < (iv n).length := uv_pos _
theorem opv_len (o : Opm) : (opv o).length = (iv o.kind).length + (tv o.frm).length + (tv o.to).length + (iv o.amount).length + (tv o.key).length + (iv o.slot).length + (iv o.shard).length := by
  unfold opv; simp only [List.length_append]; omega
theorem rpv_len (p : ReplyM) : (rpv p).length = (iv p.why).length + (iv p.amount).length + (uv p.rows.length).length + (rowsv p.rows).length := by
  unfold rpv; simp only [List.length_append]; omega
theorem rowsv_append : ∀ (l m : List RowM), rowsv (l ++ m) = rowsv l ++ rowsv m
  | [], m => rfl
  | x :: l, m => by simp [rowsv, rowsv_append l m, List.append_assoc]
theorem rowsv_take {l : List RowM} {i : Nat} {x : RowM} (h : l[i]? = some x) : rowsv (l.take (i + 1)) = rowsv (l.take i) ++ (tv x.name ++ iv x.amount) := by
  obtain ⟨h1, h2⟩ := List.getElem?_eq_some_iff.1 h
  rw [List.take_succ_eq_append_getElem h1, rowsv_append, h2]
  simp [rowsv]
theorem rowsv_take_le (l : List RowM) (i : Nat) : (rowsv (l.take i)).length ≤ (rowsv l).length := by
  have := congrArg List.length (rowsv_append (l.take i) (l.drop i))
  rw [List.take_append_drop, List.length_append] at this
  omega
theorem rowsv_len_le {B : Nat} : ∀ (l : List RowM), (∀ x ∈ l, x.name.length ≤ B) → (∀ x ∈ l, -9223372036854775808 ≤ x.amount ∧ x.amount ≤ 9223372036854775807) → B < 18446744073709551616 → (rowsv l).length ≤ l.length * (B + 20)
  | [], _, _, _ => by simp [rowsv]
  | x :: l, h, h2, hB => by
    have h3 := h x (by simp)
    have h4 := tv_le (s := x.name) (by omega)
    have h5 := iv_length_10 (h2 x (by simp))
    have h6 := rowsv_len_le l (fun y hy => h y (by simp [hy])) (fun y hy => h2 y (by simp [hy])) hB
    simp only [rowsv, List.length_append, List.length_cons, Nat.add_mul, Nat.one_mul]
    omega

/-! ### what is written is read -/
theorem rowsv_ge : ∀ (l : List RowM), l.length ≤ (rowsv l).length
  | [] => by simp
  | x :: l => by
    have h1 := rowsv_ge l
    have h2 := iv_pos x.amount
    simp only [rowsv, List.length_append, List.length_cons]
    omega
end Go.Q
namespace Go.Q
end Go.Q
namespace Go.Q
end Go.Q
namespace Go.Q
end Go.Q
