/- chart: New, printed by a program of this session -/
import Derived.Test.YtoljbckhoigibaaProg
import Derived.Test.YtoljbckhoigibaaChart3
import Derived.Test.YtoljbckhoigibaaA
set_option linter.unusedVariables false
namespace Go.Proofs.Ytoljbckhoigibaa
open Go.Q Go.RowKit

theorem New_bad (w : World) (s : Int) (h : ¬ (1 ≤ s ∧ s ≤ 3)) : Calls Try.prog 13 ⟨[(i64 s)]⟩ w (fun e w' => e = .returned (.tuple #[.pointer none, i64 1]) ∧ Keeps none_ w w') := by
  have K0 : Keeps none_ w w := Keeps.refl w
  refine q_calls Try.func13 (by kernel_rfl) (by kernel_rfl) ?_
  refine q_seq (by kernel_rfl) ?_
  refine q_region (by kernel_rfl) ?_
  refine Ops.regs 2 [(0, (i64 s)), (2, (Value.pointer none)), (3, (i64 0))] (j := 2) (by kernel_rfl) (by kernel_rfl) ?_
  refine Ops.done (by kernel_rfl) ?_
  refine q_seq (by kernel_rfl) ?_
  refine q_seq (by kernel_rfl) ?_
  refine q_region (by kernel_rfl) ?_
  refine Ops.regs 3 [(0, (i64 s)), (2, (Value.pointer none)), (3, (i64 0)), (8, (Value.bool (decide (s < 1))))] (j := 3) (by kernel_rfl) (by kernel_rfl) ?_
  refine Ops.split (decide (s < 1)) (fun h1 => ?_) (fun h1 => ?_)
  · rw [h1]
    have p2 : s < 1 := of_decide_eq_true h1
    refine Ops.regs 3 [(0, (i64 s)), (2, (Value.pointer none)), (3, (i64 0)), (11, (Value.bool true))] (j := 6) (by kernel_rfl) (by kernel_rfl) ?_
    refine Ops.done (by kernel_rfl) ?_
    refine q_then (o := .tmp 11) (by kernel_rfl) rfl ?_
    refine q_seq (by kernel_rfl) ?_
    refine q_region (by kernel_rfl) ?_
    refine Ops.regs 2 [(0, (i64 s)), (2, (Value.pointer none)), (3, (i64 1))] (j := 2) (by kernel_rfl) (by kernel_rfl) ?_
    refine Ops.done (by kernel_rfl) ?_
    refine q_ret (by kernel_rfl) ?_
    refine ⟨(Value.tuple #[(Value.pointer none), (i64 1)]), retv_tmp2 rfl rfl rfl, ?_⟩
    exact ⟨rfl, K0⟩
  · rw [h1]
    have p3 : ¬ (s < 1) := of_decide_eq_false h1
    refine Ops.regs 3 [(0, (i64 s)), (2, (Value.pointer none)), (3, (i64 0)), (11, (Value.bool (decide (s > 3))))] (j := 6) (by kernel_rfl) (by kernel_rfl) ?_
    refine Ops.done (by kernel_rfl) ?_
    have h4 : (decide (s > 3)) = true := decide_eq_true (by omega)
    rw [h4]
    refine q_then (o := .tmp 11) (by kernel_rfl) rfl ?_
    refine q_seq (by kernel_rfl) ?_
    refine q_region (by kernel_rfl) ?_
    refine Ops.regs 2 [(0, (i64 s)), (2, (Value.pointer none)), (3, (i64 1))] (j := 2) (by kernel_rfl) (by kernel_rfl) ?_
    refine Ops.done (by kernel_rfl) ?_
    refine q_ret (by kernel_rfl) ?_
    refine ⟨(Value.tuple #[(Value.pointer none), (i64 1)]), retv_tmp2 rfl rfl rfl, ?_⟩
    exact ⟨rfl, K0⟩

theorem New_ok (w : World) (s : Int) (h0 : 1 ≤ s) (h1 : s ≤ 3) : Calls Try.prog 13 ⟨[(i64 s)]⟩ w (fun e w' => ∃ b, e = .returned (.tuple #[.pointer (some ⟨b, 0, none⟩), i64 0]) ∧ w.heap.size ≤ b ∧ Keeps none_ w w' ∧ Has w' b (rowL (chL (newCh s 16)) 118)) := by
  have K0 : Keeps none_ w w := Keeps.refl w
  refine q_calls Try.func13 (by kernel_rfl) (by kernel_rfl) ?_
  refine q_seq (by kernel_rfl) ?_
  refine q_region (by kernel_rfl) ?_
  refine Ops.regs 2 [(0, (i64 s)), (2, (Value.pointer none)), (3, (i64 0))] (j := 2) (by kernel_rfl) (by kernel_rfl) ?_
  refine Ops.done (by kernel_rfl) ?_
  refine q_seq (by kernel_rfl) ?_
  refine q_seq (by kernel_rfl) ?_
  refine q_region (by kernel_rfl) ?_
  refine Ops.regs 3 [(0, (i64 s)), (2, (Value.pointer none)), (3, (i64 0)), (8, (Value.bool (decide (s < 1))))] (j := 3) (by kernel_rfl) (by kernel_rfl) ?_
  have h1 : (decide (s < 1)) = false := decide_eq_false (by omega)
  rw [h1]
  refine Ops.regs 3 [(0, (i64 s)), (2, (Value.pointer none)), (3, (i64 0)), (11, (Value.bool (decide (s > 3))))] (j := 6) (by kernel_rfl) (by kernel_rfl) ?_
  refine Ops.done (by kernel_rfl) ?_
  have h2 : (decide (s > 3)) = false := decide_eq_false (by omega)
  rw [h2]
  refine q_else (o := .tmp 11) (by kernel_rfl) rfl ?_
  refine q_skip (by kernel_rfl) ?_
  refine q_seq (by kernel_rfl) ?_
  refine q_region (by kernel_rfl) ?_
  refine Ops.regs 2 [(0, (i64 s)), (2, (Value.pointer none)), (3, (i64 0)), (13, (agg [(i64 s), (i64 0), (i64 0), (i64 0), (i64 0), (i64 0), (i64 0), (i64 0), (i64 0), (i64 0), (i64 0), (i64 0), (i64 0), (i64 0), (i64 0), (i64 0), (i64 0), (i64 0), (i64 0), (i64 0), (i64 0), (i64 0), (i64 0), (i64 0), (i64 0), (i64 0), (i64 0), (i64 0), (i64 0), (i64 0), (i64 0), (i64 0), (i64 0), (i64 0), (i64 0), (i64 0), (i64 0), (i64 0), (i64 0), (i64 0), (i64 0), (i64 0)]))] (j := 2) (by kernel_rfl) (by kernel_rfl) ?_
  refine Ops.new (o := rowL [(i64 s), (i64 0), (i64 0), (i64 0), (i64 0), (i64 0), (i64 0), (i64 0), (i64 0), (i64 0), (i64 0), (i64 0), (i64 0), (i64 0), (i64 0), (i64 0), (i64 0), (i64 0), (i64 0), (i64 0), (i64 0), (i64 0), (i64 0), (i64 0), (i64 0), (i64 0), (i64 0), (i64 0), (i64 0), (i64 0), (i64 0), (i64 0), (i64 0), (i64 0), (i64 0), (i64 0), (i64 0), (i64 0), (i64 0), (i64 0), (i64 0), (i64 0)] 118) (V := fun b => (Value.pointer (some ⟨b, 0, none⟩))) (by kernel_rfl) (d := (some 14)) (by kernel_rfl) (fun b => rfl) (fun b3 w4 hb5 H6 K7 hs8 => ?_)
  have nb3 : w.heap.size ≤ b3 := by have := K0.size; omega
  have K9 := K0.trans K7 (U := none_) (fun i h1 h2 => h2) (fun i h1 h2 => by exact h2)
  clear K0
  clear K7 hs8
  refine Ops.regs 1 [(0, (i64 s)), (2, (Value.pointer none)), (3, (i64 0)), (4, (Value.pointer (some ⟨b3, 0, none⟩)))] (j := 4) (by kernel_rfl) (by kernel_rfl) ?_
  refine Ops.done (by kernel_rfl) ?_
  refine q_seq (by kernel_rfl) ?_
  refine q_seq (by kernel_rfl) ?_
  refine q_region (by kernel_rfl) ?_
  refine Ops.regs 1 [(0, (i64 s)), (2, (Value.pointer none)), (3, (i64 0)), (4, (Value.pointer (some ⟨b3, 0, none⟩))), (15, (i64 0))] (j := 1) (by kernel_rfl) (by kernel_rfl) ?_
  refine Ops.done (by kernel_rfl) ?_
  refine q_block (id := 0) (by kernel_rfl) ?_
  refine q_keep (R := [(0, (i64 s)), (2, (Value.pointer none)), (3, (i64 0)), (4, (Value.pointer (some ⟨b3, 0, none⟩))), (15, (i64 0))]) (by kernel_rfl) ?_
  refine q_loop (fun (k : Nat) L (wx : World) => L = [(0, (i64 s)), (2, (Value.pointer none)), (3, (i64 0)), (4, (Value.pointer (some ⟨b3, 0, none⟩))), (15, (i64 ((k : Nat) : Int)))] ∧ k ≤ 16 ∧ Keeps none_ w wx ∧ Has wx b3 (rowL (chL (newCh s k)) 118)) (fun (k : Nat) => 16 - k) 0 (by kernel_rfl) ⟨rfl, by omega, K9, (show Has _ b3 (rowL (chL (newCh s 0)) 118) from H6)⟩ ?_
  clear H6 K9
  rintro k _ w10 ⟨rfl, hk, K11, H12⟩
  have hm0 := Int.tmod_nonneg s (show (0 : Int) ≤ (k : Int) by omega)
  have hm1 := Int.tmod_lt_of_pos (k : Int) (show (0 : Int) < s by omega)
  refine q_seq (by kernel_rfl) ?_
  refine q_region (by kernel_rfl) ?_
  refine Ops.regs 1 [(0, (i64 s)), (2, (Value.pointer none)), (3, (i64 0)), (4, (Value.pointer (some ⟨b3, 0, none⟩))), (15, (i64 ((k : Nat) : Int))), (16, (Value.bool (decide (((k : Nat) : Int) < 16))))] (j := 1) (by kernel_rfl) (by kernel_rfl) ?_
  refine Ops.done (by kernel_rfl) ?_
  refine q_seq (by kernel_rfl) ?_
  refine q_cond (o := .tmp 16) (b := (decide (((k : Nat) : Int) < 16))) (by kernel_rfl) rfl (fun h13 => ?_) (fun h13 => ?_)
  · rw [h13]
    have p14 : ((k : Nat) : Int) < 16 := of_decide_eq_true h13
    refine q_skip (by kernel_rfl) ?_
    refine q_seq (by kernel_rfl) ?_
    refine q_block (id := 1) (by kernel_rfl) ?_
    refine q_seq (by kernel_rfl) ?_
    refine q_region (by kernel_rfl) ?_
    refine Ops.regs 2 [(0, (i64 s)), (2, (Value.pointer none)), (3, (i64 0)), (4, (Value.pointer (some ⟨b3, 0, none⟩))), (5, (i64 ((k : Nat) : Int))), (15, (i64 ((k : Nat) : Int))), (16, (Value.bool true))] (j := 2) (by kernel_rfl) (by kernel_rfl) ?_
    refine Ops.done (by kernel_rfl) ?_
    refine q_draw (fun wz => Keeps (fun i => i = b3) w10 wz) 10 (by kernel_rfl) (by kernel_rfl) (by kernel_rfl) (fun w15 K16 _ _ => ⟨(K16.mono (fun _ _ h => h.elim)), ?_⟩)
    have H17 := H12.keep K16 (fun h => h)
    clear H12
    have K18 := K11.trans K16 (U := none_) (fun i h1 h2 => h2) (fun i h1 h2 => by exact h2)
    clear K11
    refine Dr.strong (S' := (fun wz => Keeps (fun i => i = b3) w15 wz)) ((Keeps.refl w15).mono (fun _ _ h => h.elim)) (fun wz hx => K16.trans hx (fun _ _ h => h.elim) (fun _ _ h => h)) ?_
    clear K16
    refine Dr.takes (fuel' := 6) (is' := [3, 2, 1, 0]) [0, 1, 2, 3] [(0, (i64 s)), (2, (Value.pointer none)), (3, (i64 0)), (4, (Value.pointer (some ⟨b3, 0, none⟩))), (5, (i64 ((k : Nat) : Int))), (15, (i64 ((k : Nat) : Int))), (16, (Value.bool true)), (18, (Value.pointer (some ⟨b3, 0, none⟩))), (19, (i64 ((k : Nat) : Int))), (20, (i64 ((k : Nat) : Int))), (21, (i64 s))] (by kernel_rfl) rfl (by kernel_rfl) ?_
    refine Dr.take (i := 4) (v := (i64 ((((k : Nat) : Int) : Int).tmod s))) (by kernel_rfl) (by kernel_rfl) (fun wz hS => Runs.int (op := .rem) (t := 3) (x := ((k : Nat) : Int)) (y := s) (by kernel_rfl) (run_rem (by omega))) (d := (some 22)) (by kernel_rfl) rfl ?_
    refine Dr.takes (fuel' := 4) (is' := [5, 4, 3, 2, 1, 0]) [5] [(0, (i64 s)), (2, (Value.pointer none)), (3, (i64 0)), (4, (Value.pointer (some ⟨b3, 0, none⟩))), (5, (i64 ((k : Nat) : Int))), (15, (i64 ((k : Nat) : Int))), (16, (Value.bool true)), (18, (Value.pointer (some ⟨b3, 0, none⟩))), (19, (i64 ((k : Nat) : Int))), (23, (i64 (IntKind.i64.wrap (1 + ((((k : Nat) : Int) : Int).tmod s)))))] (by kernel_rfl) rfl (by kernel_rfl) ?_
    have e19 : IntKind.i64.wrap (1 + ((((k : Nat) : Int) : Int).tmod s)) = 1 + ((((k : Nat) : Int) : Int).tmod s) := wrap_i64 (by omega) (by omega)
    rw [e19]
    refine Dr.takes (fuel' := 2) (is' := [7, 6, 5, 4, 3, 2, 1, 0]) [6, 7] [(0, (i64 s)), (2, (Value.pointer none)), (3, (i64 0)), (4, (Value.pointer (some ⟨b3, 0, none⟩))), (5, (i64 ((k : Nat) : Int))), (15, (i64 ((k : Nat) : Int))), (16, (Value.bool true)), (19, (i64 ((k : Nat) : Int))), (23, (i64 (1 + ((((k : Nat) : Int) : Int).tmod s)))), (25, (Value.pointer (some ⟨b3, 1, none⟩)))] (by kernel_rfl) rfl (by kernel_rfl) ?_
    refine Dr.take (i := 8) (v := (Value.pointer (some ⟨b3, 1 + k, none⟩))) (by kernel_rfl) (by kernel_rfl) (fun wz hS => Runs.ixArray (k := IntKind.i64) (t := 115) (b := b3) (off := 1) (len := 16) (s := 1) (off' := 1 + k) (i := ((k : Nat) : Int)) (by kernel_rfl) (by kernel_rfl) (by omega) (by omega) (by omega)) (d := (some 26)) (by kernel_rfl) rfl ?_
    have ok20 : Ch.Ok ({ newCh s k with owner := ((newCh s k).owner).set k (1 + ((((k : Nat) : Int) : Int).tmod s)) } : Ch) := ⟨by simp [(newCh_ok s k).o], by simp [(newCh_ok s k).e]⟩
    refine Dr.put (i := 9) (t := 3) (b := b3) (off := 1 + k) (v := (i64 (1 + ((((k : Nat) : Int) : Int).tmod s)))) (ys := (chL ({ newCh s k with owner := ((newCh s k).owner).set k (1 + ((((k : Nat) : Int) : Int).tmod s)) } : Ch))) (by kernel_rfl) (by kernel_rfl) (by kernel_rfl) H17 (storeC1 (by kernel_rfl) rfl (by rw [chL_length (newCh_ok s k)]; omega) (chs_own (newCh_ok s k) k (by omega) _)) (d := none) (by kernel_rfl) rfl (fun w21 H22 K23 => ?_)
    clear H17
    have K24 := K18.trans K23 (U := none_) (fun i h1 h2 => h2) (fun i h1 h2 => by have h2 : i = b3 := h2; exfalso; omega)
    clear K18
    refine ⟨K23, ?_⟩
    refine Dr.strong (S' := (fun wz => Keeps (fun i => i = b3) w21 wz)) ((Keeps.refl w21).mono (fun _ _ h => h.elim)) (fun wz hx => K23.trans hx (fun _ _ h => by have h : _ = b3 := h; show _ = b3; omega) (fun _ _ h => h)) ?_
    clear K23
    refine Dr.done (by kernel_rfl) ?_
    refine q_region (by kernel_rfl) ?_
    refine Ops.regs 1 [(0, (i64 s)), (2, (Value.pointer none)), (3, (i64 0)), (4, (Value.pointer (some ⟨b3, 0, none⟩))), (5, (i64 ((k : Nat) : Int))), (15, (i64 ((k : Nat) : Int))), (16, (Value.bool true)), (27, (i64 (IntKind.i64.wrap (((k : Nat) : Int) + 1))))] (j := 1) (by kernel_rfl) (by kernel_rfl) ?_
    have e25 : IntKind.i64.wrap (((k : Nat) : Int) + 1) = ((k : Nat) : Int) + 1 := wrap_i64 (by omega) (by omega)
    rw [e25]
    refine Ops.regs 1 [(0, (i64 s)), (2, (Value.pointer none)), (3, (i64 0)), (4, (Value.pointer (some ⟨b3, 0, none⟩))), (5, (i64 ((k : Nat) : Int))), (15, (i64 (((k : Nat) : Int) + 1))), (16, (Value.bool true))] (j := 2) (by kernel_rfl) (by kernel_rfl) ?_
    refine Ops.keep (R := [(0, (i64 s)), (2, (Value.pointer none)), (3, (i64 0)), (4, (Value.pointer (some ⟨b3, 0, none⟩))), (15, (i64 ((k + 1 : Nat) : Int)))]) (by kernel_rfl) ?_
    refine Ops.done (by kernel_rfl) ?_
    exact ⟨k + 1, ⟨rfl, by omega, K24, (newCh_succ s k (by omega) ▸ H22)⟩, (show 16 - (k + 1) < 16 - k from by omega)⟩
  · rw [h13]
    have p26 : ¬ (((k : Nat) : Int) < 16) := of_decide_eq_false h13
    refine q_exit (id := 0) (by kernel_rfl) ?_
    refine q_seq (by kernel_rfl) ?_
    refine q_region (by kernel_rfl) ?_
    refine Ops.regs 3 [(2, (Value.pointer (some ⟨b3, 0, none⟩))), (3, (i64 0))] (j := 3) (by kernel_rfl) (by kernel_rfl) ?_
    refine Ops.done (by kernel_rfl) ?_
    refine q_ret (by kernel_rfl) ?_
    refine ⟨(Value.tuple #[(Value.pointer (some ⟨b3, 0, none⟩)), (i64 0)]), retv_tmp2 rfl rfl rfl, ?_⟩
    have : k = 16 := by omega
    subst this
    exact ⟨b3, rfl, nb3, K11, H12⟩
end Go.Proofs.Ytoljbckhoigibaa
