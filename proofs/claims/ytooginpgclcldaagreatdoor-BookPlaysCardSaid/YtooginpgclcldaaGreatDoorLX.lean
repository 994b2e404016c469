/- Short names of rules that are used often: what the kernel decides is left out. -/
import Derived.Test.YtooginpgclcldaaGreatDoorLA
set_option linter.unusedVariables false
namespace Go.Q
variable {P : Program} {n : Nat} {Q : Exit → Loc → World → Prop} {L : Loc} {w : World} {f : Func} {p : List Nat} {os : Array Oper} {i : Nat} {K : Loc → World → Prop}
theorem qs (h : wp P n (cd f (0 :: p)) (thn (wp P n (cd f (1 :: p)) Q) Q) L w) (hc : isSeq (cd f p) = true := by kernel_rfl) : wp P n (cd f p) Q L w := q_seq hc h
theorem qg (h : Ops P n (opsOf (cd f p)) 0 (Q .normal) L w) (hc : isRegion (cd f p) = true := by kernel_rfl) : wp P n (cd f p) Q L w := q_region hc h
theorem od (h : K L w) (hi : Nat.beq os.size i = true := by kernel_rfl) : Ops P n os i K L w := Ops.done hi h
theorem og (k : Nat) (R : Loc) (j : Nat) (hn : Ops P n os j K R w) (hj : Nat.beq (i + k) j = true := by kernel_rfl) (h : (match Go.Q.regs P n os k i L with | some L1 => restrict L1 (R.map Prod.fst) | none => none) = some R := by kernel_rfl) : Ops P n os i K L w := Ops.regs k R hj h hn
theorem Keeps.t0 {a b c : World} (h : Keeps none_ a b) (k : Keeps none_ b c) : Keeps none_ a c := h.trans k (fun _ _ h => h) (fun _ _ h => h)
end Go.Q
