/- What the claim stands on, part 4: rules of the walk, contracts of the functions, plain laws. -/
import Derived.Test.YtnmpepjikfbpdaaKRDeaf3
import Derived.Lib.ConvBytes
set_option linter.unusedVariables false
namespace Go.Q
open Go.RowKit

/-! ### operations and answers as bytes -/
structure Opm.Ok (o : Opm) : Prop where
  kind : -9223372036854775808 ≤ o.kind ∧ o.kind ≤ 9223372036854775807
  amount : -9223372036854775808 ≤ o.amount ∧ o.amount ≤ 9223372036854775807
  slot : -9223372036854775808 ≤ o.slot ∧ o.slot ≤ 9223372036854775807
  shard : -9223372036854775808 ≤ o.shard ∧ o.shard ≤ 9223372036854775807
def opv (o : Opm) : List UInt8 := iv o.kind ++ (tv o.frm ++ (tv o.to ++ (iv o.amount ++ (tv o.key ++ (iv o.slot ++ iv o.shard)))))
def rowsv : List RowM → List UInt8
  | [] => []
  | x :: l => tv x.name ++ (iv x.amount ++ rowsv l)
structure ReplyM.Ok (p : ReplyM) : Prop where
  why : -9223372036854775808 ≤ p.why ∧ p.why ≤ 9223372036854775807
  amount : -9223372036854775808 ≤ p.amount ∧ p.amount ≤ 9223372036854775807
  rows : ∀ x ∈ p.rows, -9223372036854775808 ≤ x.amount ∧ x.amount ≤ 9223372036854775807
def rpv (p : ReplyM) : List UInt8 := iv p.why ++ (iv p.amount ++ (uv p.rows.length ++ rowsv p.rows))
theorem tv_ge (s : List UInt8) : s.length ≤ (tv s).length := by unfold tv; rw [List.length_append]; omega
/-! ### what is written is read -/
end Go.Q
namespace Go.Q
end Go.Q
namespace Go.Q
end Go.Q
namespace Go.Q
end Go.Q
