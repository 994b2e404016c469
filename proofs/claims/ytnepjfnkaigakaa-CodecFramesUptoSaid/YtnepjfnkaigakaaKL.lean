/- a number below a bound -/
import Derived.Test.YtnepjfnkaigakaaProg
import Derived.Test.YtnepjfnkaigakaaKB
set_option linter.unusedVariables false
namespace Go.Proofs.Ytnepjfnkaigakaa
open Go.Q Go.RowKit

theorem Count01_calls (w : World) (a k : Int) (hk : 0 < k ∧ k ≤ 9223372036854775807) : Calls Try.prog 19 ⟨[(i64 a), (i64 k)]⟩ w (fun e w' => e = .returned (i64 (cnt a k)) ∧ w = w') := by
  have htm := tmod_range a hk.1
  refine q_calls Try.func19 (by kernel_rfl) (by kernel_rfl) ?_
  refine q_seq (by kernel_rfl) ?_
  refine q_region (by kernel_rfl) ?_
  refine Ops.regs 1 [(0, (i64 a)), (1, (i64 k)), (4, (i64 0))] (j := 1) (by kernel_rfl) (by kernel_rfl) ?_
  refine Ops.done (by kernel_rfl) ?_
  refine q_seq (by kernel_rfl) ?_
  refine q_region (by kernel_rfl) ?_
  refine Ops.regs 2 [(0, (i64 a)), (1, (i64 k)), (4, (i64 0)), (5, (i64 a)), (6, (i64 k))] (j := 2) (by kernel_rfl) (by kernel_rfl) ?_
  refine Ops.go (by kernel_rfl) (Runs.int (op := .rem) (t := 3) (x := a) (y := k) (by kernel_rfl) (run_rem (k := IntKind.i64) (by omega))) (d := (some 7)) (by kernel_rfl) rfl ?_
  refine Ops.regs 1 [(0, (i64 ((a : Int).tmod k))), (1, (i64 k)), (4, (i64 0))] (j := 4) (by kernel_rfl) (by kernel_rfl) ?_
  refine Ops.done (by kernel_rfl) ?_
  refine q_seq (by kernel_rfl) ?_
  refine q_seq (by kernel_rfl) ?_
  refine q_region (by kernel_rfl) ?_
  refine Ops.regs 2 [(0, (i64 ((a : Int).tmod k))), (1, (i64 k)), (4, (i64 0)), (9, (Value.bool (decide ((a : Int).tmod k < 0))))] (j := 2) (by kernel_rfl) (by kernel_rfl) ?_
  refine Ops.done (by kernel_rfl) ?_
  refine q_cond (o := .tmp 9) (b := (decide ((a : Int).tmod k < 0))) (by kernel_rfl) rfl (fun h1 => ?_) (fun h1 => ?_)
  · rw [h1]
    have p2 : (a : Int).tmod k < 0 := of_decide_eq_true h1
    refine q_region (by kernel_rfl) ?_
    refine Ops.regs 3 [(0, (i64 ((a : Int).tmod k))), (4, (i64 0)), (12, (i64 (IntKind.i64.wrap (((a : Int).tmod k) + k))))] (j := 3) (by kernel_rfl) (by kernel_rfl) ?_
    have e3 : IntKind.i64.wrap (((a : Int).tmod k) + k) = ((a : Int).tmod k) + k := wrap_i64 (by omega) (by omega)
    rw [e3]
    refine Ops.regs 1 [(0, (i64 (((a : Int).tmod k) + k))), (4, (i64 0))] (j := 4) (by kernel_rfl) (by kernel_rfl) ?_
    refine Ops.done (by kernel_rfl) ?_
    refine q_seq (by kernel_rfl) ?_
    refine q_region (by kernel_rfl) ?_
    refine Ops.regs 2 [(4, (i64 (((a : Int).tmod k) + k)))] (j := 2) (by kernel_rfl) (by kernel_rfl) ?_
    refine Ops.done (by kernel_rfl) ?_
    refine q_ret (by kernel_rfl) ?_
    refine ⟨(i64 (((a : Int).tmod k) + k)), retv_tmp rfl rfl, ?_⟩
    exact ⟨by unfold cnt; first | (rw [if_pos (by omega)]; done) | (rw [if_neg (by omega)]; done), rfl⟩
  · rw [h1]
    have p4 : ¬ ((a : Int).tmod k < 0) := of_decide_eq_false h1
    refine q_skip (by kernel_rfl) ?_
    refine q_seq (by kernel_rfl) ?_
    refine q_region (by kernel_rfl) ?_
    refine Ops.regs 2 [(4, (i64 ((a : Int).tmod k)))] (j := 2) (by kernel_rfl) (by kernel_rfl) ?_
    refine Ops.done (by kernel_rfl) ?_
    refine q_ret (by kernel_rfl) ?_
    refine ⟨(i64 ((a : Int).tmod k)), retv_tmp rfl rfl, ?_⟩
    exact ⟨by unfold cnt; first | (rw [if_pos (by omega)]; done) | (rw [if_neg (by omega)]; done), rfl⟩
end Go.Proofs.Ytnepjfnkaigakaa
