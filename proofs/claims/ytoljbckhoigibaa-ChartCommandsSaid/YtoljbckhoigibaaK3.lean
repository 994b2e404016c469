/- chart: a list of numbers -/
import Derived.Test.YtoljbckhoigibaaProg
import Derived.Test.YtoljbckhoigibaaK2
set_option linter.unusedVariables false
namespace Go.Proofs.Ytoljbckhoigibaa
open Go.Q Go.RowKit

theorem ints_calls (w : World) (v : Value) (xs : List UInt8) (b : Nat) (l : List Int) (n : Nat) (hv : RdB w v xs) (H0 : Has w b (rowL (ints l) 2)) (hln : l.length = n) (hr : ∀ x ∈ l, -9223372036854775808 ≤ x ∧ x ≤ 9223372036854775807) (h0 : 0 < n ∧ n ≤ 1000) (hl : xs.length ≤ 549755813888) : Calls Try.prog 66 ⟨[v, (Value.slice (some ⟨b, 0, none⟩) n n)]⟩ w (fun e w' => ∃ v', e = .returned v' ∧ Keeps none_ w w' ∧ OwnB w' w.heap.size 5 v' (xs ++ ivs l)) := by
  have K0 : Keeps none_ w w := Keeps.refl w
  refine q_calls Try.func66 (by kernel_rfl) (by kernel_rfl) ?_
  refine q_seq (by kernel_rfl) ?_
  refine q_region (by kernel_rfl) ?_
  refine Ops.regs 1 [(0, v), (1, (Value.slice (some ⟨b, 0, none⟩) n n)), (4, (Value.slice none 0 0))] (j := 1) (by kernel_rfl) (by kernel_rfl) ?_
  refine Ops.done (by kernel_rfl) ?_
  refine q_seq (by kernel_rfl) ?_
  refine q_seq (by kernel_rfl) ?_
  refine q_region (by kernel_rfl) ?_
  refine Ops.regs 3 [(0, v), (4, (Value.slice none 0 0)), (7, (Value.slice (some ⟨b, 0, none⟩) n n)), (8, (i64 ((n : Nat) : Int))), (9, (i64 0))] (j := 3) (by kernel_rfl) (by kernel_rfl) ?_
  refine Ops.done (by kernel_rfl) ?_
  refine q_block (id := 0) (by kernel_rfl) ?_
  refine q_keep (R := [(0, v), (4, (Value.slice none 0 0)), (7, (Value.slice (some ⟨b, 0, none⟩) n n)), (8, (i64 ((n : Nat) : Int))), (9, (i64 0))]) (by kernel_rfl) ?_
  refine q_loop (fun (gs : Value × Nat × (List UInt8)) L (wx : World) => match gs with | (v, i, ys) => L = [(0, v), (4, (Value.slice none 0 0)), (7, (Value.slice (some ⟨b, 0, none⟩) n n)), (8, (i64 ((n : Nat) : Int))), (9, (i64 ((i : Nat) : Int)))] ∧ RdB wx v ys ∧ (0 < i → OwnB wx w.heap.size 5 v ys) ∧ ys = xs ++ ivs (l.take i) ∧ i ≤ n ∧ Keeps none_ w wx ∧ Has wx b (rowL (ints l) 2)) (fun (gs : Value × Nat × (List UInt8)) => match gs with | (v, i, ys) => n - i) (v, 0, xs) (by kernel_rfl) ⟨rfl, hv, (fun h => absurd h (Nat.lt_irrefl 0)), (by simp), Nat.zero_le _, K0, H0⟩ ?_
  clear H0 K0
  rintro ⟨v, i, ys⟩ _ w1 ⟨rfl, hR, hO, hE, hi, K2, H3⟩
  have hO0 := hO
  have hlen := congrArg List.length hE
  simp only [List.length_append] at hlen
  have htk := ivs_take_length hr i (by omega)
  have hri := getD_range hr i
  refine q_seq (by kernel_rfl) ?_
  refine q_region (by kernel_rfl) ?_
  refine Ops.regs 1 [(0, v), (4, (Value.slice none 0 0)), (7, (Value.slice (some ⟨b, 0, none⟩) n n)), (8, (i64 ((n : Nat) : Int))), (9, (i64 ((i : Nat) : Int))), (10, (Value.bool (decide (((i : Nat) : Int) < ((n : Nat) : Int)))))] (j := 1) (by kernel_rfl) (by kernel_rfl) ?_
  refine Ops.done (by kernel_rfl) ?_
  refine q_seq (by kernel_rfl) ?_
  refine q_cond (o := .tmp 10) (b := (decide (((i : Nat) : Int) < ((n : Nat) : Int)))) (by kernel_rfl) rfl (fun h4 => ?_) (fun h4 => ?_)
  · rw [h4]
    have p5 : ((i : Nat) : Int) < ((n : Nat) : Int) := of_decide_eq_true h4
    refine q_skip (by kernel_rfl) ?_
    refine q_seq (by kernel_rfl) ?_
    refine q_block (id := 1) (by kernel_rfl) ?_
    refine q_seq (by kernel_rfl) ?_
    refine q_region (by kernel_rfl) ?_
    refine Ops.go (by kernel_rfl) (Runs.ixSlice (k := IntKind.i64) (t := 45) (b := b) (off := 0) (len := n) (cap := n) (s := 1) (off' := i) (i := ((i : Nat) : Int)) (by kernel_rfl) (by kernel_rfl) (by omega) (by omega) (by omega)) (d := (some 11)) (by kernel_rfl) rfl ?_
    refine Ops.go (v := (i64 (l.getD i 0))) (by kernel_rfl) (Runs.load (t := 2) (a := ⟨b, i, none⟩) (by kernel_rfl) (H3.loads (loadC1 (by kernel_rfl) (intsL_at _ i (by rw [hln]; omega))))) (d := (some 12)) (by kernel_rfl) rfl ?_
    refine Ops.regs 1 [(0, v), (4, (Value.slice none 0 0)), (6, (i64 (l.getD i 0))), (7, (Value.slice (some ⟨b, 0, none⟩) n n)), (8, (i64 ((n : Nat) : Int))), (9, (i64 ((i : Nat) : Int))), (10, (Value.bool true))] (j := 3) (by kernel_rfl) (by kernel_rfl) ?_
    refine Ops.done (by kernel_rfl) ?_
    refine q_region (by kernel_rfl) ?_
    refine Ops.regs 2 [(0, v), (4, (Value.slice none 0 0)), (6, (i64 (l.getD i 0))), (7, (Value.slice (some ⟨b, 0, none⟩) n n)), (8, (i64 ((n : Nat) : Int))), (9, (i64 ((i : Nat) : Int))), (10, (Value.bool true)), (13, v), (14, (i64 (l.getD i 0)))] (j := 2) (by kernel_rfl) (by kernel_rfl) ?_
    refine Ops.call (by kernel_rfl) (d := (some 15)) (by kernel_rfl) (Int_calls _ v ys (l.getD i 0) hR (by omega) (by (try simp only at *); (try simp only [List.length_append] at *); (try simp only [List.length_cons] at *); (try simp only [List.length_nil] at *); omega)) ?_
    rintro _ w8 ⟨v7, rfl, K9, hO10⟩
    have O11 := own_base hO10 K2.size
    clear hO10
    have hL6 := iv_length_10 (n := (l.getD i 0)) (by omega)
    refine ⟨_, _, rfl, rfl, ?_⟩
    have H12 := H3.keep K9 (fun h => h)
    clear H3
    have F13 := hR.keep0 (by omega) K9
    clear hR
    have K14 := K2.trans K9 (U := none_) (fun i h1 h2 => h2) (fun i h1 h2 => by exact h2)
    clear K2
    clear K9
    refine Ops.regs 1 [(0, v7), (4, (Value.slice none 0 0)), (6, (i64 (l.getD i 0))), (7, (Value.slice (some ⟨b, 0, none⟩) n n)), (8, (i64 ((n : Nat) : Int))), (9, (i64 ((i : Nat) : Int))), (10, (Value.bool true))] (j := 4) (by kernel_rfl) (by kernel_rfl) ?_
    refine Ops.done (by kernel_rfl) ?_
    refine q_region (by kernel_rfl) ?_
    refine Ops.regs 1 [(0, v7), (4, (Value.slice none 0 0)), (6, (i64 (l.getD i 0))), (7, (Value.slice (some ⟨b, 0, none⟩) n n)), (8, (i64 ((n : Nat) : Int))), (9, (i64 ((i : Nat) : Int))), (10, (Value.bool true)), (16, (i64 (IntKind.i64.wrap (((i : Nat) : Int) + 1))))] (j := 1) (by kernel_rfl) (by kernel_rfl) ?_
    have e15 : IntKind.i64.wrap (((i : Nat) : Int) + 1) = ((i : Nat) : Int) + 1 := wrap_i64 (by omega) (by omega)
    rw [e15]
    refine Ops.regs 1 [(0, v7), (4, (Value.slice none 0 0)), (6, (i64 (l.getD i 0))), (7, (Value.slice (some ⟨b, 0, none⟩) n n)), (8, (i64 ((n : Nat) : Int))), (9, (i64 (((i : Nat) : Int) + 1))), (10, (Value.bool true))] (j := 2) (by kernel_rfl) (by kernel_rfl) ?_
    refine Ops.keep (R := [(0, v7), (4, (Value.slice none 0 0)), (7, (Value.slice (some ⟨b, 0, none⟩) n n)), (8, (i64 ((n : Nat) : Int))), (9, (i64 ((i + 1 : Nat) : Int)))]) (by kernel_rfl) ?_
    refine Ops.done (by kernel_rfl) ?_
    exact ⟨(v7, i + 1, ys ++ iv (l.getD i 0)), ⟨rfl, (OwnB.rd O11), (fun _ => O11), (by rw [ivs_take_succ l i (by omega), ← List.append_assoc, ← hE]), (by omega), K14, H12⟩, (show n - (i + 1) < n - i from by omega)⟩
  · rw [h4]
    have p16 : ¬ (((i : Nat) : Int) < ((n : Nat) : Int)) := of_decide_eq_false h4
    refine q_exit (id := 0) (by kernel_rfl) ?_
    refine q_seq (by kernel_rfl) ?_
    refine q_region (by kernel_rfl) ?_
    refine Ops.regs 2 [(4, v)] (j := 2) (by kernel_rfl) (by kernel_rfl) ?_
    refine Ops.done (by kernel_rfl) ?_
    refine q_ret (by kernel_rfl) ?_
    refine ⟨v, retv_tmp rfl rfl, ?_⟩
    have hin : i = n := by omega
    have hO1 := hO (by omega)
    rw [hE, show l.take i = l from by rw [hin, ← hln, List.take_length]] at hO1
    exact ⟨_, rfl, K2, hO1⟩
end Go.Proofs.Ytoljbckhoigibaa
