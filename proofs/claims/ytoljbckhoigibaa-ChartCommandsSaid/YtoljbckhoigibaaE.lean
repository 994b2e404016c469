/- chart: ChartOwners returns true, printed by a program of this session -/
import Derived.Test.YtoljbckhoigibaaProg
import Derived.Test.YtoljbckhoigibaaChart6
import Derived.Test.YtoljbckhoigibaaD
set_option linter.unusedVariables false
namespace Go.Proofs.Ytoljbckhoigibaa
open Go.Q Go.RowKit

theorem Owners_none (w : World) (s : Int) (A : Option Addr) (n cap : Nat) (l : List Cmd) (h : ¬ (1 ≤ s ∧ s ≤ 3)) : Calls Try.prog 5 ⟨[(i64 s), (Value.slice A n cap)]⟩ w (fun e w' => e = .returned (.bool true) ∧ Keeps none_ w w') := by
  have K0 : Keeps none_ w w := Keeps.refl w
  refine q_calls Try.func5 (by kernel_rfl) (by kernel_rfl) ?_
  refine q_seq (by kernel_rfl) ?_
  refine q_region (by kernel_rfl) ?_
  refine Ops.regs 1 [(0, (i64 s)), (1, (Value.slice A n cap)), (4, (Value.bool false))] (j := 1) (by kernel_rfl) (by kernel_rfl) ?_
  refine Ops.done (by kernel_rfl) ?_
  refine q_seq (by kernel_rfl) ?_
  refine q_region (by kernel_rfl) ?_
  refine Ops.regs 1 [(0, (i64 s)), (1, (Value.slice A n cap)), (4, (Value.bool false)), (18, (i64 s))] (j := 1) (by kernel_rfl) (by kernel_rfl) ?_
  refine Ops.call (by kernel_rfl) (d := (some 19)) (by kernel_rfl) (New_bad _ s (by omega)) ?_
  rintro _ w1 ⟨rfl, K2⟩
  refine ⟨_, _, rfl, rfl, ?_⟩
  have K3 := K0.trans K2 (U := none_) (fun i h1 h2 => h2) (fun i h1 h2 => by exact h2)
  clear K0
  clear K2
  refine Ops.regs 5 [(0, (i64 s)), (1, (Value.slice A n cap)), (4, (Value.bool false)), (5, (Value.pointer none)), (6, (i64 1))] (j := 7) (by kernel_rfl) (by kernel_rfl) ?_
  refine Ops.done (by kernel_rfl) ?_
  refine q_seq (by kernel_rfl) ?_
  refine q_seq (by kernel_rfl) ?_
  refine q_region (by kernel_rfl) ?_
  refine Ops.regs 6 [(0, (i64 s)), (1, (Value.slice A n cap)), (4, (Value.bool false)), (5, (Value.pointer none)), (6, (i64 1)), (27, (Value.bool true))] (j := 6) (by kernel_rfl) (by kernel_rfl) ?_
  refine Ops.done (by kernel_rfl) ?_
  refine q_then (o := .tmp 27) (by kernel_rfl) rfl ?_
  refine q_seq (by kernel_rfl) ?_
  refine q_region (by kernel_rfl) ?_
  refine Ops.regs 3 [(0, (i64 s)), (1, (Value.slice A n cap)), (4, (Value.bool false)), (5, (Value.pointer none)), (30, (Value.bool true))] (j := 3) (by kernel_rfl) (by kernel_rfl) ?_
  refine Ops.call (by kernel_rfl) (d := (some 31)) (by kernel_rfl) (known_calls _) ?_
  rintro _ w4 ⟨rfl, K5⟩
  refine ⟨_, _, rfl, rfl, ?_⟩
  have K6 := K3.trans K5 (U := none_) (fun i h1 h2 => h2) (fun i h1 h2 => by exact h2)
  clear K3
  clear K5
  refine Ops.regs 2 [(0, (i64 s)), (1, (Value.slice A n cap)), (4, (Value.bool true)), (5, (Value.pointer none))] (j := 6) (by kernel_rfl) (by kernel_rfl) ?_
  refine Ops.done (by kernel_rfl) ?_
  refine q_ret (by kernel_rfl) ?_
  refine ⟨(Value.bool true), retv_tmp rfl rfl, ?_⟩
  exact ⟨rfl, K6⟩

theorem Owners_some (w : World) (s : Int) (A : Option Addr) (n cap : Nat) (l : List Cmd) (h : 1 ≤ s ∧ s ≤ 3) (hL : Elems w A n 5 (l.map Cmd.v)) (hn : l.length = n) (hm : n ≤ 9223372036854775807) : Calls Try.prog 5 ⟨[(i64 s), (Value.slice A n cap)]⟩ w (fun e w' => e = .returned (.bool true) ∧ Keeps none_ w w') := by
  have K0 : Keeps none_ w w := Keeps.refl w
  refine q_calls Try.func5 (by kernel_rfl) (by kernel_rfl) ?_
  refine q_seq (by kernel_rfl) ?_
  refine q_region (by kernel_rfl) ?_
  refine Ops.regs 1 [(0, (i64 s)), (1, (Value.slice A n cap)), (4, (Value.bool false))] (j := 1) (by kernel_rfl) (by kernel_rfl) ?_
  refine Ops.done (by kernel_rfl) ?_
  refine q_seq (by kernel_rfl) ?_
  refine q_region (by kernel_rfl) ?_
  refine Ops.regs 1 [(0, (i64 s)), (1, (Value.slice A n cap)), (4, (Value.bool false)), (18, (i64 s))] (j := 1) (by kernel_rfl) (by kernel_rfl) ?_
  refine Ops.call (by kernel_rfl) (d := (some 19)) (by kernel_rfl) (New_ok _ s (by omega) (by omega)) ?_
  rintro _ w2 ⟨b1, rfl, q5, K3, H4⟩
  have nb1 : w.heap.size ≤ b1 := by have := K0.size; omega
  clear q5
  have inv6 := newCh_inv s (by omega) (by omega)
  refine ⟨_, _, rfl, rfl, ?_⟩
  have K7 := K0.trans K3 (U := none_) (fun i h1 h2 => h2) (fun i h1 h2 => by exact h2)
  clear K0
  clear K3
  refine Ops.regs 5 [(0, (i64 s)), (1, (Value.slice A n cap)), (4, (Value.bool false)), (5, (Value.pointer (some ⟨b1, 0, none⟩))), (6, (i64 0))] (j := 7) (by kernel_rfl) (by kernel_rfl) ?_
  refine Ops.done (by kernel_rfl) ?_
  refine q_seq (by kernel_rfl) ?_
  refine q_seq (by kernel_rfl) ?_
  refine q_region (by kernel_rfl) ?_
  refine Ops.regs 6 [(0, (i64 s)), (1, (Value.slice A n cap)), (4, (Value.bool false)), (5, (Value.pointer (some ⟨b1, 0, none⟩))), (6, (i64 0)), (27, (Value.bool false))] (j := 6) (by kernel_rfl) (by kernel_rfl) ?_
  refine Ops.done (by kernel_rfl) ?_
  refine q_else (o := .tmp 27) (by kernel_rfl) rfl ?_
  refine q_skip (by kernel_rfl) ?_
  refine q_seq (by kernel_rfl) ?_
  refine q_seq (by kernel_rfl) ?_
  refine q_region (by kernel_rfl) ?_
  refine Ops.regs 1 [(0, (i64 s)), (1, (Value.slice A n cap)), (4, (Value.bool false)), (5, (Value.pointer (some ⟨b1, 0, none⟩))), (7, (i64 0))] (j := 1) (by kernel_rfl) (by kernel_rfl) ?_
  refine Ops.done (by kernel_rfl) ?_
  refine q_block (id := 0) (by kernel_rfl) ?_
  refine q_keep (R := [(0, (i64 s)), (1, (Value.slice A n cap)), (5, (Value.pointer (some ⟨b1, 0, none⟩))), (7, (i64 0))]) (by kernel_rfl) ?_
  refine q_loop (fun (gs : Nat × Ch) L (wx : World) => match gs with | (i, c) => L = [(0, (i64 s)), (1, (Value.slice A n cap)), (5, (Value.pointer (some ⟨b1, 0, none⟩))), (7, (i64 ((i : Nat) : Int)))] ∧ i ≤ n ∧ i ≤ 100 ∧ c.Inv ∧ c.shards = s ∧ Keeps none_ w wx ∧ Has wx b1 (rowL (chL c) 118)) (fun (gs : Nat × Ch) => match gs with | (i, c) => 100 - i) (0, newCh s 16) (by kernel_rfl) ⟨rfl, Nat.zero_le _, Nat.zero_le _, inv6, rfl, K7, H4⟩ ?_
  clear H4 K7
  rintro ⟨i, c⟩ _ w8 ⟨rfl, hi, hi2, hc, hsh, K9, H10⟩
  refine q_seq (by kernel_rfl) ?_
  refine q_seq (by kernel_rfl) ?_
  refine q_region (by kernel_rfl) ?_
  refine Ops.regs 5 [(0, (i64 s)), (1, (Value.slice A n cap)), (5, (Value.pointer (some ⟨b1, 0, none⟩))), (7, (i64 ((i : Nat) : Int))), (37, (Value.bool (decide (((i : Nat) : Int) < ((n : Nat) : Int)))))] (j := 5) (by kernel_rfl) (by kernel_rfl) ?_
  refine Ops.split (decide (((i : Nat) : Int) < ((n : Nat) : Int))) (fun h11 => ?_) (fun h11 => ?_)
  · rw [h11]
    have p12 : ((i : Nat) : Int) < ((n : Nat) : Int) := of_decide_eq_true h11
    refine Ops.regs 3 [(0, (i64 s)), (1, (Value.slice A n cap)), (5, (Value.pointer (some ⟨b1, 0, none⟩))), (7, (i64 ((i : Nat) : Int))), (40, (Value.bool (decide (((i : Nat) : Int) < 100))))] (j := 8) (by kernel_rfl) (by kernel_rfl) ?_
    refine Ops.done (by kernel_rfl) ?_
    refine q_cond (o := .tmp 40) (b := (decide (((i : Nat) : Int) < 100))) (by kernel_rfl) rfl (fun h13 => ?_) (fun h13 => ?_)
    · rw [h13]
      have p14 : ((i : Nat) : Int) < 100 := of_decide_eq_true h13
      obtain ⟨x15, lb16, lo17, hx18, hA19, hLd20⟩ := Elems.at (P := Try.prog) (t := 40) hL (k := i) (by omega) Cmd.l (fun _ => rfl) (by kernel_rfl) (fun _ => by kernel_rfl)
      refine q_skip (by kernel_rfl) ?_
      refine q_seq (by kernel_rfl) ?_
      refine q_block (id := 1) (by kernel_rfl) ?_
      refine q_seq (by kernel_rfl) ?_
      refine q_region (by kernel_rfl) ?_
      refine Ops.new (o := rowL [(i64 0), (i64 0), (i64 0), (i64 0), (i64 0), (i64 0), (i64 0), (i64 0), (i64 0), (i64 0), (i64 0), (i64 0), (i64 0), (i64 0), (i64 0), (i64 0)] 3) (V := fun b => (Value.slice (some ⟨b, 0, none⟩) 16 16)) (by kernel_rfl) (d := (some 43)) (by kernel_rfl) (fun b => rfl) (fun b21 w22 hb23 H24 K25 hs26 => ?_)
      have lb21 : b1 < b21 := by have := H10.lt; omega
      have nb21 : w.heap.size ≤ b21 := by have := K9.size; omega
      have H27 := H10.keep K25 (fun h => h)
      clear H10
      have K28 := K9.trans K25 (U := none_) (fun i h1 h2 => h2) (fun i h1 h2 => by exact h2)
      clear K9
      clear K25 hs26
      refine Ops.regs 1 [(0, (i64 s)), (1, (Value.slice A n cap)), (5, (Value.pointer (some ⟨b1, 0, none⟩))), (7, (i64 ((i : Nat) : Int))), (8, (Value.slice (some ⟨b21, 0, none⟩) 16 16)), (40, (Value.bool true))] (j := 2) (by kernel_rfl) (by kernel_rfl) ?_
      refine Ops.done (by kernel_rfl) ?_
      refine q_seq (by kernel_rfl) ?_
      refine q_region (by kernel_rfl) ?_
      refine Ops.new (o := rowL [(i64 0), (i64 0), (i64 0), (i64 0), (i64 0), (i64 0), (i64 0), (i64 0), (i64 0), (i64 0), (i64 0), (i64 0), (i64 0), (i64 0), (i64 0), (i64 0)] 2) (V := fun b => (Value.slice (some ⟨b, 0, none⟩) 16 16)) (by kernel_rfl) (d := (some 44)) (by kernel_rfl) (fun b => rfl) (fun b29 w30 hb31 H32 K33 hs34 => ?_)
      have lb29 : b21 < b29 := by have := H24.lt; omega
      have nb29 : w.heap.size ≤ b29 := by have := K28.size; omega
      have H35 := H27.keep K33 (fun h => h)
      clear H27
      have H36 := H24.keep K33 (fun h => h)
      clear H24
      have K37 := K28.trans K33 (U := none_) (fun i h1 h2 => h2) (fun i h1 h2 => by exact h2)
      clear K28
      clear K33 hs34
      refine Ops.regs 1 [(0, (i64 s)), (1, (Value.slice A n cap)), (5, (Value.pointer (some ⟨b1, 0, none⟩))), (7, (i64 ((i : Nat) : Int))), (8, (Value.slice (some ⟨b21, 0, none⟩) 16 16)), (9, (Value.slice (some ⟨b29, 0, none⟩) 16 16)), (40, (Value.bool true))] (j := 2) (by kernel_rfl) (by kernel_rfl) ?_
      refine Ops.done (by kernel_rfl) ?_
      refine q_seq (by kernel_rfl) ?_
      refine q_seq (by kernel_rfl) ?_
      refine q_region (by kernel_rfl) ?_
      refine Ops.regs 1 [(0, (i64 s)), (1, (Value.slice A n cap)), (5, (Value.pointer (some ⟨b1, 0, none⟩))), (7, (i64 ((i : Nat) : Int))), (8, (Value.slice (some ⟨b21, 0, none⟩) 16 16)), (9, (Value.slice (some ⟨b29, 0, none⟩) 16 16)), (10, (i64 0)), (40, (Value.bool true))] (j := 1) (by kernel_rfl) (by kernel_rfl) ?_
      refine Ops.done (by kernel_rfl) ?_
      refine q_block (id := 2) (by kernel_rfl) ?_
      refine q_keep (R := [(0, (i64 s)), (1, (Value.slice A n cap)), (5, (Value.pointer (some ⟨b1, 0, none⟩))), (7, (i64 ((i : Nat) : Int))), (8, (Value.slice (some ⟨b21, 0, none⟩) 16 16)), (9, (Value.slice (some ⟨b29, 0, none⟩) 16 16)), (10, (i64 0)), (40, (Value.bool true))]) (by kernel_rfl) ?_
      refine q_loop (fun (k : Nat) L (wx : World) => L = [(0, (i64 s)), (1, (Value.slice A n cap)), (5, (Value.pointer (some ⟨b1, 0, none⟩))), (7, (i64 ((i : Nat) : Int))), (8, (Value.slice (some ⟨b21, 0, none⟩) 16 16)), (9, (Value.slice (some ⟨b29, 0, none⟩) 16 16)), (10, (i64 ((k : Nat) : Int))), (40, (Value.bool true))] ∧ k ≤ 16 ∧ Keeps none_ w wx ∧ Has wx b1 (rowL (chL c) 118) ∧ Has wx b21 (rowL (ints (fillk (fun k => Ch.ownerAt c ((k : Nat) : Int)) k)) 3) ∧ Has wx b29 (rowL (ints (fillk (fun k => Ch.epochAt c ((k : Nat) : Int)) k)) 2)) (fun (k : Nat) => 16 - k) 0 (by kernel_rfl) ⟨rfl, by omega, K37, H35, (show Has _ b21 (rowL (ints (fillk (fun k => Ch.ownerAt c ((k : Nat) : Int)) 0)) 3) from H36), (show Has _ b29 (rowL (ints (fillk (fun k => Ch.epochAt c ((k : Nat) : Int)) 0)) 2) from H32)⟩ ?_
      clear H35 H36 H32 K37
      rintro k _ w38 ⟨rfl, hk, K39, H40, H41, H42⟩
      refine q_seq (by kernel_rfl) ?_
      refine q_seq (by kernel_rfl) ?_
      refine q_region (by kernel_rfl) ?_
      refine Ops.regs 2 [(0, (i64 s)), (1, (Value.slice A n cap)), (5, (Value.pointer (some ⟨b1, 0, none⟩))), (7, (i64 ((i : Nat) : Int))), (8, (Value.slice (some ⟨b21, 0, none⟩) 16 16)), (9, (Value.slice (some ⟨b29, 0, none⟩) 16 16)), (10, (i64 ((k : Nat) : Int))), (40, (Value.bool true)), (46, (Value.bool (decide (((k : Nat) : Int) < 16))))] (j := 2) (by kernel_rfl) (by kernel_rfl) ?_
      refine Ops.done (by kernel_rfl) ?_
      refine q_cond (o := .tmp 46) (b := (decide (((k : Nat) : Int) < 16))) (by kernel_rfl) rfl (fun h43 => ?_) (fun h43 => ?_)
      · rw [h43]
        have p44 : ((k : Nat) : Int) < 16 := of_decide_eq_true h43
        refine q_skip (by kernel_rfl) ?_
        refine q_seq (by kernel_rfl) ?_
        refine q_block (id := 3) (by kernel_rfl) ?_
        refine q_seq (by kernel_rfl) ?_
        refine q_region (by kernel_rfl) ?_
        refine Ops.regs 4 [(0, (i64 s)), (1, (Value.slice A n cap)), (5, (Value.pointer (some ⟨b1, 0, none⟩))), (7, (i64 ((i : Nat) : Int))), (8, (Value.slice (some ⟨b21, 0, none⟩) 16 16)), (9, (Value.slice (some ⟨b29, 0, none⟩) 16 16)), (10, (i64 ((k : Nat) : Int))), (40, (Value.bool true)), (46, (Value.bool true)), (49, (Value.slice (some ⟨b21, 0, none⟩) 16 16)), (50, (i64 ((k : Nat) : Int))), (51, (Value.pointer (some ⟨b1, 0, none⟩))), (52, (i64 ((k : Nat) : Int)))] (j := 4) (by kernel_rfl) (by kernel_rfl) ?_
        refine Ops.call (by kernel_rfl) (d := (some 53)) (by kernel_rfl) (Owner_calls _ b1 c ((k : Nat) : Int) hc H40) ?_
        rintro _ w45 ⟨rfl, K46⟩
        refine ⟨_, _, rfl, rfl, ?_⟩
        have H47 := H40.keep K46 (fun h => h)
        clear H40
        have H48 := H41.keep K46 (fun h => h)
        clear H41
        have H49 := H42.keep K46 (fun h => h)
        clear H42
        have K50 := K39.trans K46 (U := none_) (fun i h1 h2 => h2) (fun i h1 h2 => by exact h2)
        clear K39
        clear K46
        refine Ops.go (by kernel_rfl) (Runs.ixSlice (k := IntKind.i64) (t := 44) (b := b21) (off := 0) (len := 16) (cap := 16) (s := 1) (off' := k) (i := ((k : Nat) : Int)) (by kernel_rfl) (by kernel_rfl) (by omega) (by omega) (by omega)) (d := (some 54)) (by kernel_rfl) rfl ?_
        refine Ops.put (t := 3) (b := b21) (off := k) (v := (i64 (Ch.ownerAt c ((k : Nat) : Int)))) (ys := (ints ((fillk (fun k => Ch.ownerAt c ((k : Nat) : Int)) k).set k (Ch.ownerAt c ((k : Nat) : Int))))) (by kernel_rfl) (by kernel_rfl) H48 (storeC1 (by kernel_rfl) rfl (by rw [ints_length, fillk_length]; omega) (ints_set _ k _)) (d := none) (by kernel_rfl) rfl (fun w51 H52 K53 => ?_)
        clear H48
        have H54 := H47.keep K53 (by intro h; change b1 = b21 at h; omega)
        clear H47
        have H55 := H49.keep K53 (by intro h; change b29 = b21 at h; omega)
        clear H49
        have K56 := K50.trans K53 (U := none_) (fun i h1 h2 => h2) (fun i h1 h2 => by have h2 : i = b21 := h2; exfalso; omega)
        clear K50
        clear K53
        refine Ops.done (by kernel_rfl) ?_
        refine q_region (by kernel_rfl) ?_
        refine Ops.regs 4 [(0, (i64 s)), (1, (Value.slice A n cap)), (5, (Value.pointer (some ⟨b1, 0, none⟩))), (7, (i64 ((i : Nat) : Int))), (8, (Value.slice (some ⟨b21, 0, none⟩) 16 16)), (9, (Value.slice (some ⟨b29, 0, none⟩) 16 16)), (10, (i64 ((k : Nat) : Int))), (40, (Value.bool true)), (46, (Value.bool true)), (55, (Value.slice (some ⟨b29, 0, none⟩) 16 16)), (56, (i64 ((k : Nat) : Int))), (57, (Value.pointer (some ⟨b1, 0, none⟩))), (58, (i64 ((k : Nat) : Int)))] (j := 4) (by kernel_rfl) (by kernel_rfl) ?_
        refine Ops.call (by kernel_rfl) (d := (some 59)) (by kernel_rfl) (Epoch_calls _ b1 c ((k : Nat) : Int) hc H54) ?_
        rintro _ w57 ⟨rfl, K58⟩
        refine ⟨_, _, rfl, rfl, ?_⟩
        have H59 := H54.keep K58 (fun h => h)
        clear H54
        have H60 := H52.keep K58 (fun h => h)
        clear H52
        have H61 := H55.keep K58 (fun h => h)
        clear H55
        have K62 := K56.trans K58 (U := none_) (fun i h1 h2 => h2) (fun i h1 h2 => by exact h2)
        clear K56
        clear K58
        refine Ops.go (by kernel_rfl) (Runs.ixSlice (k := IntKind.i64) (t := 45) (b := b29) (off := 0) (len := 16) (cap := 16) (s := 1) (off' := k) (i := ((k : Nat) : Int)) (by kernel_rfl) (by kernel_rfl) (by omega) (by omega) (by omega)) (d := (some 60)) (by kernel_rfl) rfl ?_
        refine Ops.put (t := 2) (b := b29) (off := k) (v := (i64 (Ch.epochAt c ((k : Nat) : Int)))) (ys := (ints ((fillk (fun k => Ch.epochAt c ((k : Nat) : Int)) k).set k (Ch.epochAt c ((k : Nat) : Int))))) (by kernel_rfl) (by kernel_rfl) H61 (storeC1 (by kernel_rfl) rfl (by rw [ints_length, fillk_length]; omega) (ints_set _ k _)) (d := none) (by kernel_rfl) rfl (fun w63 H64 K65 => ?_)
        clear H61
        have H66 := H59.keep K65 (by intro h; change b1 = b29 at h; omega)
        clear H59
        have H67 := H60.keep K65 (by intro h; change b21 = b29 at h; omega)
        clear H60
        have K68 := K62.trans K65 (U := none_) (fun i h1 h2 => h2) (fun i h1 h2 => by have h2 : i = b29 := h2; exfalso; omega)
        clear K62
        clear K65
        refine Ops.done (by kernel_rfl) ?_
        refine q_region (by kernel_rfl) ?_
        refine Ops.regs 2 [(0, (i64 s)), (1, (Value.slice A n cap)), (5, (Value.pointer (some ⟨b1, 0, none⟩))), (7, (i64 ((i : Nat) : Int))), (8, (Value.slice (some ⟨b21, 0, none⟩) 16 16)), (9, (Value.slice (some ⟨b29, 0, none⟩) 16 16)), (10, (i64 ((k : Nat) : Int))), (40, (Value.bool true)), (46, (Value.bool true)), (48, (i64 (IntKind.i64.wrap (((k : Nat) : Int) + 1))))] (j := 2) (by kernel_rfl) (by kernel_rfl) ?_
        have e69 : IntKind.i64.wrap (((k : Nat) : Int) + 1) = ((k : Nat) : Int) + 1 := wrap_i64 (by omega) (by omega)
        rw [e69]
        refine Ops.regs 1 [(0, (i64 s)), (1, (Value.slice A n cap)), (5, (Value.pointer (some ⟨b1, 0, none⟩))), (7, (i64 ((i : Nat) : Int))), (8, (Value.slice (some ⟨b21, 0, none⟩) 16 16)), (9, (Value.slice (some ⟨b29, 0, none⟩) 16 16)), (10, (i64 (((k : Nat) : Int) + 1))), (40, (Value.bool true)), (46, (Value.bool true))] (j := 3) (by kernel_rfl) (by kernel_rfl) ?_
        refine Ops.keep (R := [(0, (i64 s)), (1, (Value.slice A n cap)), (5, (Value.pointer (some ⟨b1, 0, none⟩))), (7, (i64 ((i : Nat) : Int))), (8, (Value.slice (some ⟨b21, 0, none⟩) 16 16)), (9, (Value.slice (some ⟨b29, 0, none⟩) 16 16)), (10, (i64 ((k + 1 : Nat) : Int))), (40, (Value.bool true))]) (by kernel_rfl) ?_
        refine Ops.done (by kernel_rfl) ?_
        exact ⟨k + 1, ⟨rfl, by omega, K68, H66, (fillk_succ (fun k => Ch.ownerAt c ((k : Nat) : Int)) k (by omega) ▸ H67), (fillk_succ (fun k => Ch.epochAt c ((k : Nat) : Int)) k (by omega) ▸ H64)⟩, (show 16 - (k + 1) < 16 - k from by omega)⟩
      · rw [h43]
        have p70 : ¬ (((k : Nat) : Int) < 16) := of_decide_eq_false h43
        refine q_exit (id := 2) (by kernel_rfl) ?_
        refine q_seq (by kernel_rfl) ?_
        refine q_region (by kernel_rfl) ?_
        refine Ops.regs 2 [(0, (i64 s)), (1, (Value.slice A n cap)), (5, (Value.pointer (some ⟨b1, 0, none⟩))), (7, (i64 ((i : Nat) : Int))), (8, (Value.slice (some ⟨b21, 0, none⟩) 16 16)), (9, (Value.slice (some ⟨b29, 0, none⟩) 16 16)), (10, (i64 ((k : Nat) : Int))), (40, (Value.bool true)), (46, (Value.bool false)), (61, (Value.slice A n cap)), (62, (i64 ((i : Nat) : Int)))] (j := 2) (by kernel_rfl) (by kernel_rfl) ?_
        refine Ops.go (by kernel_rfl) (Runs.ixSliceE (k := IntKind.i64) (t := 38) (len := n) (cap := cap) (s := 5) (off' := lo17 + i * 5) (i := ((i : Nat) : Int)) hA19 (by kernel_rfl) (by kernel_rfl) (by omega) (by omega) (by omega)) (d := (some 63)) (by kernel_rfl) rfl ?_
        refine Ops.go (v := (agg [(i64 x15.kind), (i64 x15.slot), (i64 x15.shard), (i64 x15.n), (i64 x15.phase)])) (by kernel_rfl) (Runs.load (t := 40) (a := ⟨lb16, lo17 + i * 5, none⟩) (by kernel_rfl) (hLd20 _ K39)) (d := (some 64)) (by kernel_rfl) rfl ?_
        refine Ops.call (by kernel_rfl) (d := (some 65)) (by kernel_rfl) (given_calls _ ⟨x15.kind, x15.slot, x15.shard, x15.n, x15.phase⟩) ?_
        rintro _ w71 ⟨rfl, K72⟩
        refine ⟨_, _, rfl, rfl, ?_⟩
        have H73 := H40.keep K72 (fun h => h)
        clear H40
        have H74 := H41.keep K72 (fun h => h)
        clear H41
        have H75 := H42.keep K72 (fun h => h)
        clear H42
        have K76 := K39.trans K72 (U := none_) (fun i h1 h2 => h2) (fun i h1 h2 => by exact h2)
        clear K39
        clear K72
        refine Ops.new (o := rowL [(i64 0), (i64 0), (i64 0), (i64 0), (i64 0)] 32) (V := fun b => (Value.pointer (some ⟨b, 0, none⟩))) (by kernel_rfl) (d := (some 11)) (by kernel_rfl) (fun b => rfl) (fun b77 w78 hb79 H80 K81 hs82 => ?_)
        have lb77 : b29 < b77 := by have := H75.lt; omega
        have nb77 : w.heap.size ≤ b77 := by have := K76.size; omega
        have H83 := H73.keep K81 (fun h => h)
        clear H73
        have H84 := H74.keep K81 (fun h => h)
        clear H74
        have H85 := H75.keep K81 (fun h => h)
        clear H75
        have K86 := K76.trans K81 (U := none_) (fun i h1 h2 => h2) (fun i h1 h2 => by exact h2)
        clear K76
        clear K81 hs82
        refine Ops.put (t := 32) (b := b77) (off := 0) (v := (agg [(i64 x15.kind), (i64 x15.slot), (i64 x15.shard), (i64 x15.n), (i64 x15.phase)])) (ys := [(i64 x15.kind), (i64 x15.slot), (i64 x15.shard), (i64 x15.n), (i64 x15.phase)]) (by kernel_rfl) (by kernel_rfl) H80 (by kernel_rfl) (d := none) (by kernel_rfl) rfl (fun w87 H88 K89 => ?_)
        clear H80
        have H90 := H83.keep K89 (by intro h; change b1 = b77 at h; omega)
        clear H83
        have H91 := H84.keep K89 (by intro h; change b21 = b77 at h; omega)
        clear H84
        have H92 := H85.keep K89 (by intro h; change b29 = b77 at h; omega)
        clear H85
        have K93 := K86.trans K89 (U := none_) (fun i h1 h2 => h2) (fun i h1 h2 => by have h2 : i = b77 := h2; exfalso; omega)
        clear K86
        clear K89
        refine Ops.done (by kernel_rfl) ?_
        refine q_seq (by kernel_rfl) ?_
        refine q_region (by kernel_rfl) ?_
        refine Ops.regs 1 [(0, (i64 s)), (1, (Value.slice A n cap)), (5, (Value.pointer (some ⟨b1, 0, none⟩))), (7, (i64 ((i : Nat) : Int))), (8, (Value.slice (some ⟨b21, 0, none⟩) 16 16)), (9, (Value.slice (some ⟨b29, 0, none⟩) 16 16)), (10, (i64 ((k : Nat) : Int))), (11, (Value.pointer (some ⟨b77, 0, none⟩))), (40, (Value.bool true)), (46, (Value.bool false)), (66, (Value.pointer (some ⟨b1, 0, none⟩)))] (j := 1) (by kernel_rfl) (by kernel_rfl) ?_
        refine Ops.go (v := (agg [(i64 x15.kind), (i64 x15.slot), (i64 x15.shard), (i64 x15.n), (i64 x15.phase)])) (by kernel_rfl) (Runs.load (t := 32) (a := ⟨b77, 0, none⟩) (by kernel_rfl) (H88.loads (by kernel_rfl))) (d := (some 67)) (by kernel_rfl) rfl ?_
        refine Ops.call (by kernel_rfl) (d := (some 68)) (by kernel_rfl) (Do_calls _ b1 c ⟨x15.kind, x15.slot, x15.shard, x15.n, x15.phase⟩ hc H90) ?_
        rintro _ w94 ⟨rfl, K95, H96⟩
        refine ⟨_, _, rfl, rfl, ?_⟩
        have H97 := H91.keep K95 (by intro h; change b21 = b1 at h; omega)
        clear H91
        have H98 := H92.keep K95 (by intro h; change b29 = b1 at h; omega)
        clear H92
        have H99 := H88.keep K95 (by intro h; change b77 = b1 at h; omega)
        clear H88
        have K100 := K93.trans K95 (U := none_) (fun i h1 h2 => h2) (fun i h1 h2 => by have h2 : i = b1 := h2; exfalso; omega)
        clear K93
        clear K95
        refine Ops.new (o := rowL [(i64 0), (Value.bool false), (i64 0)] 29) (V := fun b => (Value.pointer (some ⟨b, 0, none⟩))) (by kernel_rfl) (d := (some 12)) (by kernel_rfl) (fun b => rfl) (fun b101 w102 hb103 H104 K105 hs106 => ?_)
        have lb101 : b77 < b101 := by have := H99.lt; omega
        have nb101 : w.heap.size ≤ b101 := by have := K100.size; omega
        have H107 := H96.keep K105 (fun h => h)
        clear H96
        have H108 := H97.keep K105 (fun h => h)
        clear H97
        have H109 := H98.keep K105 (fun h => h)
        clear H98
        have H110 := H99.keep K105 (fun h => h)
        clear H99
        have K111 := K100.trans K105 (U := none_) (fun i h1 h2 => h2) (fun i h1 h2 => by exact h2)
        clear K100
        clear K105 hs106
        refine Ops.put (t := 29) (b := b101) (off := 0) (v := (agg [(i64 ((c.do_ ⟨x15.kind, x15.slot, x15.shard, x15.n, x15.phase⟩).1.why)), (Value.bool ((c.do_ ⟨x15.kind, x15.slot, x15.shard, x15.n, x15.phase⟩).1.wait)), (i64 ((c.do_ ⟨x15.kind, x15.slot, x15.shard, x15.n, x15.phase⟩).1.n))])) (ys := [(i64 ((c.do_ ⟨x15.kind, x15.slot, x15.shard, x15.n, x15.phase⟩).1.why)), (Value.bool ((c.do_ ⟨x15.kind, x15.slot, x15.shard, x15.n, x15.phase⟩).1.wait)), (i64 ((c.do_ ⟨x15.kind, x15.slot, x15.shard, x15.n, x15.phase⟩).1.n))]) (by kernel_rfl) (by kernel_rfl) H104 (by kernel_rfl) (d := none) (by kernel_rfl) rfl (fun w112 H113 K114 => ?_)
        clear H104
        have H115 := H107.keep K114 (by intro h; change b1 = b101 at h; omega)
        clear H107
        have H116 := H108.keep K114 (by intro h; change b21 = b101 at h; omega)
        clear H108
        have H117 := H109.keep K114 (by intro h; change b29 = b101 at h; omega)
        clear H109
        have H118 := H110.keep K114 (by intro h; change b77 = b101 at h; omega)
        clear H110
        have K119 := K111.trans K114 (U := none_) (fun i h1 h2 => h2) (fun i h1 h2 => by have h2 : i = b101 := h2; exfalso; omega)
        clear K111
        clear K114
        refine Ops.done (by kernel_rfl) ?_
        refine q_seq (by kernel_rfl) ?_
        refine q_seq (by kernel_rfl) ?_
        refine q_region (by kernel_rfl) ?_
        refine Ops.regs 1 [(0, (i64 s)), (1, (Value.slice A n cap)), (5, (Value.pointer (some ⟨b1, 0, none⟩))), (7, (i64 ((i : Nat) : Int))), (8, (Value.slice (some ⟨b21, 0, none⟩) 16 16)), (9, (Value.slice (some ⟨b29, 0, none⟩) 16 16)), (10, (i64 ((k : Nat) : Int))), (11, (Value.pointer (some ⟨b77, 0, none⟩))), (12, (Value.pointer (some ⟨b101, 0, none⟩))), (13, (i64 0)), (40, (Value.bool true)), (46, (Value.bool false))] (j := 1) (by kernel_rfl) (by kernel_rfl) ?_
        refine Ops.done (by kernel_rfl) ?_
        refine q_block (id := 4) (by kernel_rfl) ?_
        refine q_keep (R := [(0, (i64 s)), (1, (Value.slice A n cap)), (5, (Value.pointer (some ⟨b1, 0, none⟩))), (7, (i64 ((i : Nat) : Int))), (8, (Value.slice (some ⟨b21, 0, none⟩) 16 16)), (9, (Value.slice (some ⟨b29, 0, none⟩) 16 16)), (10, (i64 ((k : Nat) : Int))), (11, (Value.pointer (some ⟨b77, 0, none⟩))), (12, (Value.pointer (some ⟨b101, 0, none⟩))), (13, (i64 0)), (40, (Value.bool true)), (46, (Value.bool false))]) (by kernel_rfl) ?_
        refine q_loop (fun (m : Nat) L (wx : World) => L = [(0, (i64 s)), (1, (Value.slice A n cap)), (5, (Value.pointer (some ⟨b1, 0, none⟩))), (7, (i64 ((i : Nat) : Int))), (8, (Value.slice (some ⟨b21, 0, none⟩) 16 16)), (9, (Value.slice (some ⟨b29, 0, none⟩) 16 16)), (10, (i64 ((k : Nat) : Int))), (11, (Value.pointer (some ⟨b77, 0, none⟩))), (12, (Value.pointer (some ⟨b101, 0, none⟩))), (13, (i64 ((m : Nat) : Int))), (40, (Value.bool true)), (46, (Value.bool false))] ∧ m ≤ 16 ∧ Keeps none_ w wx ∧ Has wx b1 (rowL (chL ((c.do_ ⟨x15.kind, x15.slot, x15.shard, x15.n, x15.phase⟩).2)) 118) ∧ Has wx b21 (rowL (ints (fillk (fun k => Ch.ownerAt c ((k : Nat) : Int)) 16)) 3) ∧ Has wx b29 (rowL (ints (fillk (fun k => Ch.epochAt c ((k : Nat) : Int)) 16)) 2) ∧ Has wx b77 (rowL [(i64 x15.kind), (i64 x15.slot), (i64 x15.shard), (i64 x15.n), (i64 x15.phase)] 32) ∧ Has wx b101 (rowL [(i64 ((c.do_ ⟨x15.kind, x15.slot, x15.shard, x15.n, x15.phase⟩).1.why)), (Value.bool ((c.do_ ⟨x15.kind, x15.slot, x15.shard, x15.n, x15.phase⟩).1.wait)), (i64 ((c.do_ ⟨x15.kind, x15.slot, x15.shard, x15.n, x15.phase⟩).1.n))] 29)) (fun (m : Nat) => 16 - m) 0 (by kernel_rfl) ⟨rfl, by omega, K119, H115, ((show k = 16 from by omega) ▸ H116), ((show k = 16 from by omega) ▸ H117), H118, H113⟩ ?_
        clear H115 H116 H117 H118 H113 K119
        rintro m _ w120 ⟨rfl, hm1, K121, H122, H123, H124, H125, H126⟩
        refine q_seq (by kernel_rfl) ?_
        refine q_seq (by kernel_rfl) ?_
        refine q_region (by kernel_rfl) ?_
        refine Ops.regs 2 [(0, (i64 s)), (1, (Value.slice A n cap)), (5, (Value.pointer (some ⟨b1, 0, none⟩))), (7, (i64 ((i : Nat) : Int))), (8, (Value.slice (some ⟨b21, 0, none⟩) 16 16)), (9, (Value.slice (some ⟨b29, 0, none⟩) 16 16)), (10, (i64 ((k : Nat) : Int))), (11, (Value.pointer (some ⟨b77, 0, none⟩))), (12, (Value.pointer (some ⟨b101, 0, none⟩))), (13, (i64 ((m : Nat) : Int))), (40, (Value.bool true)), (46, (Value.bool false)), (70, (Value.bool (decide (((m : Nat) : Int) < 16))))] (j := 2) (by kernel_rfl) (by kernel_rfl) ?_
        refine Ops.done (by kernel_rfl) ?_
        refine q_cond (o := .tmp 70) (b := (decide (((m : Nat) : Int) < 16))) (by kernel_rfl) rfl (fun h127 => ?_) (fun h127 => ?_)
        · rw [h127]
          have p128 : ((m : Nat) : Int) < 16 := of_decide_eq_true h127
          have hmm : m < 16 := by omega
          have q1 := (Ch.Inv.do_ hc ⟨x15.kind, x15.slot, x15.shard, x15.n, x15.phase⟩).own m hmm
          have q2 := do_own hc ⟨x15.kind, x15.slot, x15.shard, x15.n, x15.phase⟩ m hmm
          have q3 : Ch.ownerAt ((c.do_ ⟨x15.kind, x15.slot, x15.shard, x15.n, x15.phase⟩).2) ((m : Nat) : Int) = ((c.do_ ⟨x15.kind, x15.slot, x15.shard, x15.n, x15.phase⟩).2).owner.getD m 0 := at_own hmm
          have q4 : Ch.epochAt ((c.do_ ⟨x15.kind, x15.slot, x15.shard, x15.n, x15.phase⟩).2) ((m : Nat) : Int) = ((c.do_ ⟨x15.kind, x15.slot, x15.shard, x15.n, x15.phase⟩).2).epoch.getD m 0 := at_ep hmm
          have q5 : (fillk (fun k => Ch.ownerAt c ((k : Nat) : Int)) 16).getD m 0 = c.owner.getD m 0 := (fillk_get _ m hmm).trans (at_own hmm)
          have q6 : (fillk (fun k => Ch.epochAt c ((k : Nat) : Int)) 16).getD m 0 = c.epoch.getD m 0 := (fillk_get _ m hmm).trans (at_ep hmm)
          have q7 : ((c.do_ ⟨x15.kind, x15.slot, x15.shard, x15.n, x15.phase⟩).2).shards = s := by simp only [do_shards]; exact hsh
          have q8 := hc.ep m hmm
          have q9 := hc.bg
          refine q_skip (by kernel_rfl) ?_
          refine q_seq (by kernel_rfl) ?_
          refine q_block (id := 5) (by kernel_rfl) ?_
          refine q_seq (by kernel_rfl) ?_
          refine q_region (by kernel_rfl) ?_
          refine Ops.regs 2 [(0, (i64 s)), (1, (Value.slice A n cap)), (5, (Value.pointer (some ⟨b1, 0, none⟩))), (7, (i64 ((i : Nat) : Int))), (8, (Value.slice (some ⟨b21, 0, none⟩) 16 16)), (9, (Value.slice (some ⟨b29, 0, none⟩) 16 16)), (10, (i64 ((k : Nat) : Int))), (11, (Value.pointer (some ⟨b77, 0, none⟩))), (12, (Value.pointer (some ⟨b101, 0, none⟩))), (13, (i64 ((m : Nat) : Int))), (40, (Value.bool true)), (46, (Value.bool false)), (70, (Value.bool true)), (73, (Value.pointer (some ⟨b1, 0, none⟩))), (74, (i64 ((m : Nat) : Int)))] (j := 2) (by kernel_rfl) (by kernel_rfl) ?_
          refine Ops.call (by kernel_rfl) (d := (some 75)) (by kernel_rfl) (Owner_calls _ b1 ((c.do_ ⟨x15.kind, x15.slot, x15.shard, x15.n, x15.phase⟩).2) ((m : Nat) : Int) (Ch.Inv.do_ hc ⟨x15.kind, x15.slot, x15.shard, x15.n, x15.phase⟩) H122) ?_
          rintro _ w129 ⟨rfl, K130⟩
          refine ⟨_, _, rfl, rfl, ?_⟩
          have H131 := H122.keep K130 (fun h => h)
          clear H122
          have H132 := H123.keep K130 (fun h => h)
          clear H123
          have H133 := H124.keep K130 (fun h => h)
          clear H124
          have H134 := H125.keep K130 (fun h => h)
          clear H125
          have H135 := H126.keep K130 (fun h => h)
          clear H126
          have K136 := K121.trans K130 (U := none_) (fun i h1 h2 => h2) (fun i h1 h2 => by exact h2)
          clear K121
          clear K130
          refine Ops.regs 1 [(0, (i64 s)), (1, (Value.slice A n cap)), (5, (Value.pointer (some ⟨b1, 0, none⟩))), (7, (i64 ((i : Nat) : Int))), (8, (Value.slice (some ⟨b21, 0, none⟩) 16 16)), (9, (Value.slice (some ⟨b29, 0, none⟩) 16 16)), (10, (i64 ((k : Nat) : Int))), (11, (Value.pointer (some ⟨b77, 0, none⟩))), (12, (Value.pointer (some ⟨b101, 0, none⟩))), (13, (i64 ((m : Nat) : Int))), (14, (i64 (Ch.ownerAt ((c.do_ ⟨x15.kind, x15.slot, x15.shard, x15.n, x15.phase⟩).2) ((m : Nat) : Int)))), (40, (Value.bool true)), (46, (Value.bool false)), (70, (Value.bool true))] (j := 4) (by kernel_rfl) (by kernel_rfl) ?_
          refine Ops.done (by kernel_rfl) ?_
          refine q_seq (by kernel_rfl) ?_
          refine q_draw (fun wz => Keeps none_ w129 wz) 43 (by kernel_rfl) (by kernel_rfl) (by kernel_rfl) (fun w137 K138 _ _ => ⟨K138, ?_⟩)
          have H139 := H131.keep K138 (fun h => h)
          clear H131
          have H140 := H132.keep K138 (fun h => h)
          clear H132
          have H141 := H133.keep K138 (fun h => h)
          clear H133
          have H142 := H134.keep K138 (fun h => h)
          clear H134
          have H143 := H135.keep K138 (fun h => h)
          clear H135
          have K144 := K136.trans K138 (U := none_) (fun i h1 h2 => h2) (fun i h1 h2 => by exact h2)
          clear K136
          refine Dr.strong (S' := (fun wz => Keeps none_ w137 wz)) (Keeps.refl w137) (fun wz hx => K138.trans hx (fun _ _ h => h) (fun _ _ h => h)) ?_
          clear K138
          refine Dr.takes (fuel' := 40) (is' := [2, 1, 0]) [0, 1, 2] [(0, (i64 s)), (1, (Value.slice A n cap)), (5, (Value.pointer (some ⟨b1, 0, none⟩))), (7, (i64 ((i : Nat) : Int))), (8, (Value.slice (some ⟨b21, 0, none⟩) 16 16)), (9, (Value.slice (some ⟨b29, 0, none⟩) 16 16)), (10, (i64 ((k : Nat) : Int))), (11, (Value.pointer (some ⟨b77, 0, none⟩))), (12, (Value.pointer (some ⟨b101, 0, none⟩))), (13, (i64 ((m : Nat) : Int))), (14, (i64 (Ch.ownerAt ((c.do_ ⟨x15.kind, x15.slot, x15.shard, x15.n, x15.phase⟩).2) ((m : Nat) : Int)))), (40, (Value.bool true)), (46, (Value.bool false)), (70, (Value.bool true)), (78, (Value.bool (decide (Ch.ownerAt ((c.do_ ⟨x15.kind, x15.slot, x15.shard, x15.n, x15.phase⟩).2) ((m : Nat) : Int) < 1))))] (by kernel_rfl) rfl (by kernel_rfl) ?_
          have h145 : (decide (Ch.ownerAt ((c.do_ ⟨x15.kind, x15.slot, x15.shard, x15.n, x15.phase⟩).2) ((m : Nat) : Int) < 1)) = false := decide_eq_false (by omega)
          rw [h145]
          refine Dr.takes (fuel' := 35) (is' := [7, 6, 5, 4, 3, 2, 1, 0]) [3, 4, 5, 6, 7] [(0, (i64 s)), (1, (Value.slice A n cap)), (5, (Value.pointer (some ⟨b1, 0, none⟩))), (7, (i64 ((i : Nat) : Int))), (8, (Value.slice (some ⟨b21, 0, none⟩) 16 16)), (9, (Value.slice (some ⟨b29, 0, none⟩) 16 16)), (10, (i64 ((k : Nat) : Int))), (11, (Value.pointer (some ⟨b77, 0, none⟩))), (12, (Value.pointer (some ⟨b101, 0, none⟩))), (13, (i64 ((m : Nat) : Int))), (14, (i64 (Ch.ownerAt ((c.do_ ⟨x15.kind, x15.slot, x15.shard, x15.n, x15.phase⟩).2) ((m : Nat) : Int)))), (40, (Value.bool true)), (46, (Value.bool false)), (70, (Value.bool true)), (83, (Value.bool (decide (Ch.ownerAt ((c.do_ ⟨x15.kind, x15.slot, x15.shard, x15.n, x15.phase⟩).2) ((m : Nat) : Int) > s))))] (by kernel_rfl) rfl (by kernel_rfl) ?_
          have h146 : (decide (Ch.ownerAt ((c.do_ ⟨x15.kind, x15.slot, x15.shard, x15.n, x15.phase⟩).2) ((m : Nat) : Int) > s)) = false := decide_eq_false (by omega)
          rw [h146]
          refine Dr.takes (fuel' := 32) (is' := [10, 9, 8, 7, 6, 5, 4, 3, 2, 1, 0]) [8, 9, 10] [(0, (i64 s)), (1, (Value.slice A n cap)), (5, (Value.pointer (some ⟨b1, 0, none⟩))), (7, (i64 ((i : Nat) : Int))), (8, (Value.slice (some ⟨b21, 0, none⟩) 16 16)), (9, (Value.slice (some ⟨b29, 0, none⟩) 16 16)), (10, (i64 ((k : Nat) : Int))), (11, (Value.pointer (some ⟨b77, 0, none⟩))), (12, (Value.pointer (some ⟨b101, 0, none⟩))), (13, (i64 ((m : Nat) : Int))), (14, (i64 (Ch.ownerAt ((c.do_ ⟨x15.kind, x15.slot, x15.shard, x15.n, x15.phase⟩).2) ((m : Nat) : Int)))), (40, (Value.bool true)), (46, (Value.bool false)), (70, (Value.bool true)), (83, (Value.bool false)), (84, (i64 (Ch.ownerAt ((c.do_ ⟨x15.kind, x15.slot, x15.shard, x15.n, x15.phase⟩).2) ((m : Nat) : Int)))), (85, (Value.slice (some ⟨b21, 0, none⟩) 16 16)), (86, (i64 ((m : Nat) : Int)))] (by kernel_rfl) rfl (by kernel_rfl) ?_
          refine Dr.take (i := 11) (v := (Value.pointer (some ⟨b21, m, none⟩))) (by kernel_rfl) (by kernel_rfl) (fun wz hS => Runs.ixSlice (k := IntKind.i64) (t := 44) (b := b21) (off := 0) (len := 16) (cap := 16) (s := 1) (off' := m) (i := ((m : Nat) : Int)) (by kernel_rfl) (by kernel_rfl) (by omega) (by omega) (by omega)) (d := (some 87)) (by kernel_rfl) rfl ?_
          refine Dr.take (i := 12) (v := (i64 ((fillk (fun k => Ch.ownerAt c ((k : Nat) : Int)) 16).getD m 0))) (by kernel_rfl) (by kernel_rfl) (fun wz hS => Runs.load (t := 3) (a := ⟨b21, m, none⟩) (by kernel_rfl) ((H140.keep hS (fun h => h)).loads (loadC1 (by kernel_rfl) (intsL_at _ m (by rw [fillk_length]; omega))))) (d := (some 88)) (by kernel_rfl) rfl ?_
          refine Dr.takes (fuel' := 25) (is' := [18, 17, 15, 14, 13, 12, 11, 10, 9, 8, 7, 6, 5, 4, 3, 2, 1, 0]) [13, 14, 15, 17, 18] [(0, (i64 s)), (1, (Value.slice A n cap)), (5, (Value.pointer (some ⟨b1, 0, none⟩))), (7, (i64 ((i : Nat) : Int))), (8, (Value.slice (some ⟨b21, 0, none⟩) 16 16)), (9, (Value.slice (some ⟨b29, 0, none⟩) 16 16)), (10, (i64 ((k : Nat) : Int))), (11, (Value.pointer (some ⟨b77, 0, none⟩))), (12, (Value.pointer (some ⟨b101, 0, none⟩))), (13, (i64 ((m : Nat) : Int))), (14, (i64 (Ch.ownerAt ((c.do_ ⟨x15.kind, x15.slot, x15.shard, x15.n, x15.phase⟩).2) ((m : Nat) : Int)))), (40, (Value.bool true)), (46, (Value.bool false)), (70, (Value.bool true)), (83, (Value.bool false)), (89, (Value.bool ((Ch.ownerAt ((c.do_ ⟨x15.kind, x15.slot, x15.shard, x15.n, x15.phase⟩).2) ((m : Nat) : Int)) != ((fillk (fun k => Ch.ownerAt c ((k : Nat) : Int)) 16).getD m 0)))), (90, (Value.pointer (some ⟨b1, 0, none⟩))), (91, (i64 ((m : Nat) : Int))), (93, (Value.slice (some ⟨b29, 0, none⟩) 16 16)), (94, (i64 ((m : Nat) : Int)))] (by kernel_rfl) rfl (by kernel_rfl) ?_
          refine Dr.take (i := 19) (v := (Value.pointer (some ⟨b29, m, none⟩))) (by kernel_rfl) (by kernel_rfl) (fun wz hS => Runs.ixSlice (k := IntKind.i64) (t := 45) (b := b29) (off := 0) (len := 16) (cap := 16) (s := 1) (off' := m) (i := ((m : Nat) : Int)) (by kernel_rfl) (by kernel_rfl) (by omega) (by omega) (by omega)) (d := (some 95)) (by kernel_rfl) rfl ?_
          refine Dr.take (i := 20) (v := (i64 ((fillk (fun k => Ch.epochAt c ((k : Nat) : Int)) 16).getD m 0))) (by kernel_rfl) (by kernel_rfl) (fun wz hS => Runs.load (t := 2) (a := ⟨b29, m, none⟩) (by kernel_rfl) ((H141.keep hS (fun h => h)).loads (loadC1 (by kernel_rfl) (intsL_at _ m (by rw [fillk_length]; omega))))) (d := (some 96)) (by kernel_rfl) rfl ?_
          refine Dr.takes (fuel' := 22) (is' := [21, 20, 19, 18, 17, 15, 14, 13, 12, 11, 10, 9, 8, 7, 6, 5, 4, 3, 2, 1, 0]) [21] [(0, (i64 s)), (1, (Value.slice A n cap)), (5, (Value.pointer (some ⟨b1, 0, none⟩))), (7, (i64 ((i : Nat) : Int))), (8, (Value.slice (some ⟨b21, 0, none⟩) 16 16)), (9, (Value.slice (some ⟨b29, 0, none⟩) 16 16)), (10, (i64 ((k : Nat) : Int))), (11, (Value.pointer (some ⟨b77, 0, none⟩))), (12, (Value.pointer (some ⟨b101, 0, none⟩))), (13, (i64 ((m : Nat) : Int))), (14, (i64 (Ch.ownerAt ((c.do_ ⟨x15.kind, x15.slot, x15.shard, x15.n, x15.phase⟩).2) ((m : Nat) : Int)))), (40, (Value.bool true)), (46, (Value.bool false)), (70, (Value.bool true)), (83, (Value.bool false)), (89, (Value.bool ((Ch.ownerAt ((c.do_ ⟨x15.kind, x15.slot, x15.shard, x15.n, x15.phase⟩).2) ((m : Nat) : Int)) != ((fillk (fun k => Ch.ownerAt c ((k : Nat) : Int)) 16).getD m 0)))), (90, (Value.pointer (some ⟨b1, 0, none⟩))), (91, (i64 ((m : Nat) : Int))), (97, (i64 (IntKind.i64.wrap (((fillk (fun k => Ch.epochAt c ((k : Nat) : Int)) 16).getD m 0) + 1))))] (by kernel_rfl) rfl (by kernel_rfl) ?_
          have e147 : IntKind.i64.wrap (((fillk (fun k => Ch.epochAt c ((k : Nat) : Int)) 16).getD m 0) + 1) = ((fillk (fun k => Ch.epochAt c ((k : Nat) : Int)) 16).getD m 0) + 1 := wrap_i64 (by omega) (by omega)
          rw [e147]
          refine Dr.call (i := 16) (by kernel_rfl) (by kernel_rfl) (d := (some 92)) (by kernel_rfl) (fun _ => Epoch_calls _ b1 ((c.do_ ⟨x15.kind, x15.slot, x15.shard, x15.n, x15.phase⟩).2) ((m : Nat) : Int) (Ch.Inv.do_ hc ⟨x15.kind, x15.slot, x15.shard, x15.n, x15.phase⟩) H139) ?_
          rintro _ w148 ⟨rfl, K149⟩
          have H150 := H139.keep K149 (fun h => h)
          clear H139
          have H151 := H140.keep K149 (fun h => h)
          clear H140
          have H152 := H141.keep K149 (fun h => h)
          clear H141
          have H153 := H142.keep K149 (fun h => h)
          clear H142
          have H154 := H143.keep K149 (fun h => h)
          clear H143
          have K155 := K144.trans K149 (U := none_) (fun i h1 h2 => h2) (fun i h1 h2 => by exact h2)
          clear K144
          refine ⟨_, _, rfl, rfl, K149, ?_⟩
          refine Dr.strong (S' := (fun wz => Keeps none_ w148 wz)) (Keeps.refl w148) (fun wz hx => K149.trans hx (fun _ _ h => h) (fun _ _ h => h)) ?_
          clear K149
          refine Dr.takes (fuel' := 20) (is' := [22, 16, 21, 20, 19, 18, 17, 15, 14, 13, 12, 11, 10, 9, 8, 7, 6, 5, 4, 3, 2, 1, 0]) [22] [(0, (i64 s)), (1, (Value.slice A n cap)), (5, (Value.pointer (some ⟨b1, 0, none⟩))), (7, (i64 ((i : Nat) : Int))), (8, (Value.slice (some ⟨b21, 0, none⟩) 16 16)), (9, (Value.slice (some ⟨b29, 0, none⟩) 16 16)), (10, (i64 ((k : Nat) : Int))), (11, (Value.pointer (some ⟨b77, 0, none⟩))), (12, (Value.pointer (some ⟨b101, 0, none⟩))), (13, (i64 ((m : Nat) : Int))), (14, (i64 (Ch.ownerAt ((c.do_ ⟨x15.kind, x15.slot, x15.shard, x15.n, x15.phase⟩).2) ((m : Nat) : Int)))), (40, (Value.bool true)), (46, (Value.bool false)), (70, (Value.bool true)), (83, (Value.bool false)), (89, (Value.bool ((Ch.ownerAt ((c.do_ ⟨x15.kind, x15.slot, x15.shard, x15.n, x15.phase⟩).2) ((m : Nat) : Int)) != ((fillk (fun k => Ch.ownerAt c ((k : Nat) : Int)) 16).getD m 0)))), (98, (Value.bool ((Ch.epochAt ((c.do_ ⟨x15.kind, x15.slot, x15.shard, x15.n, x15.phase⟩).2) ((m : Nat) : Int)) == (((fillk (fun k => Ch.epochAt c ((k : Nat) : Int)) 16).getD m 0) + 1))))] (by kernel_rfl) rfl (by kernel_rfl) ?_
          refine Dr.split ((Ch.ownerAt ((c.do_ ⟨x15.kind, x15.slot, x15.shard, x15.n, x15.phase⟩).2) ((m : Nat) : Int)) != ((fillk (fun k => Ch.ownerAt c ((k : Nat) : Int)) 16).getD m 0)) (fun h156 => ?_) (fun h156 => ?_)
          · rw [h156]
            have p157 : ¬ (Ch.ownerAt ((c.do_ ⟨x15.kind, x15.slot, x15.shard, x15.n, x15.phase⟩).2) ((m : Nat) : Int) = (fillk (fun k => Ch.ownerAt c ((k : Nat) : Int)) 16).getD m 0) := of_bne_t h156
            have h158 : ((Ch.epochAt ((c.do_ ⟨x15.kind, x15.slot, x15.shard, x15.n, x15.phase⟩).2) ((m : Nat) : Int)) == (((fillk (fun k => Ch.epochAt c ((k : Nat) : Int)) 16).getD m 0) + 1)) = true := beq_t (by omega)
            rw [h158]
            refine Dr.takes (fuel' := 14) (is' := [28, 27, 26, 25, 24, 23, 22, 16, 21, 20, 19, 18, 17, 15, 14, 13, 12, 11, 10, 9, 8, 7, 6, 5, 4, 3, 2, 1, 0]) [23, 24, 25, 26, 27, 28] [(0, (i64 s)), (1, (Value.slice A n cap)), (5, (Value.pointer (some ⟨b1, 0, none⟩))), (7, (i64 ((i : Nat) : Int))), (8, (Value.slice (some ⟨b21, 0, none⟩) 16 16)), (9, (Value.slice (some ⟨b29, 0, none⟩) 16 16)), (10, (i64 ((k : Nat) : Int))), (11, (Value.pointer (some ⟨b77, 0, none⟩))), (12, (Value.pointer (some ⟨b101, 0, none⟩))), (13, (i64 ((m : Nat) : Int))), (14, (i64 (Ch.ownerAt ((c.do_ ⟨x15.kind, x15.slot, x15.shard, x15.n, x15.phase⟩).2) ((m : Nat) : Int)))), (40, (Value.bool true)), (46, (Value.bool false)), (70, (Value.bool true)), (101, (Value.bool false)), (102, (i64 (Ch.ownerAt ((c.do_ ⟨x15.kind, x15.slot, x15.shard, x15.n, x15.phase⟩).2) ((m : Nat) : Int)))), (103, (Value.slice (some ⟨b21, 0, none⟩) 16 16)), (104, (i64 ((m : Nat) : Int)))] (by kernel_rfl) rfl (by kernel_rfl) ?_
            refine Dr.take (i := 29) (v := (Value.pointer (some ⟨b21, m, none⟩))) (by kernel_rfl) (by kernel_rfl) (fun wz hS => Runs.ixSlice (k := IntKind.i64) (t := 44) (b := b21) (off := 0) (len := 16) (cap := 16) (s := 1) (off' := m) (i := ((m : Nat) : Int)) (by kernel_rfl) (by kernel_rfl) (by omega) (by omega) (by omega)) (d := (some 105)) (by kernel_rfl) rfl ?_
            refine Dr.take (i := 30) (v := (i64 ((fillk (fun k => Ch.ownerAt c ((k : Nat) : Int)) 16).getD m 0))) (by kernel_rfl) (by kernel_rfl) (fun wz hS => Runs.load (t := 3) (a := ⟨b21, m, none⟩) (by kernel_rfl) ((H151.keep hS (fun h => h)).loads (loadC1 (by kernel_rfl) (intsL_at _ m (by rw [fillk_length]; omega))))) (d := (some 106)) (by kernel_rfl) rfl ?_
            refine Dr.takes (fuel' := 10) (is' := [32, 31, 30, 29, 28, 27, 26, 25, 24, 23, 22, 16, 21, 20, 19, 18, 17, 15, 14, 13, 12, 11, 10, 9, 8, 7, 6, 5, 4, 3, 2, 1, 0]) [31, 32] [(0, (i64 s)), (1, (Value.slice A n cap)), (5, (Value.pointer (some ⟨b1, 0, none⟩))), (7, (i64 ((i : Nat) : Int))), (8, (Value.slice (some ⟨b21, 0, none⟩) 16 16)), (9, (Value.slice (some ⟨b29, 0, none⟩) 16 16)), (10, (i64 ((k : Nat) : Int))), (11, (Value.pointer (some ⟨b77, 0, none⟩))), (12, (Value.pointer (some ⟨b101, 0, none⟩))), (13, (i64 ((m : Nat) : Int))), (14, (i64 (Ch.ownerAt ((c.do_ ⟨x15.kind, x15.slot, x15.shard, x15.n, x15.phase⟩).2) ((m : Nat) : Int)))), (40, (Value.bool true)), (46, (Value.bool false)), (70, (Value.bool true)), (101, (Value.bool false)), (108, (Value.bool ((Ch.ownerAt ((c.do_ ⟨x15.kind, x15.slot, x15.shard, x15.n, x15.phase⟩).2) ((m : Nat) : Int)) == ((fillk (fun k => Ch.ownerAt c ((k : Nat) : Int)) 16).getD m 0))))] (by kernel_rfl) rfl (by kernel_rfl) ?_
            have h159 : ((Ch.ownerAt ((c.do_ ⟨x15.kind, x15.slot, x15.shard, x15.n, x15.phase⟩).2) ((m : Nat) : Int)) == ((fillk (fun k => Ch.ownerAt c ((k : Nat) : Int)) 16).getD m 0)) = false := beq_f (by omega)
            rw [h159]
            refine Dr.takes (fuel' := 0) (is' := [42, 41, 40, 39, 38, 37, 36, 35, 34, 33, 32, 31, 30, 29, 28, 27, 26, 25, 24, 23, 22, 16, 21, 20, 19, 18, 17, 15, 14, 13, 12, 11, 10, 9, 8, 7, 6, 5, 4, 3, 2, 1, 0]) [33, 34, 35, 36, 37, 38, 39, 40, 41, 42] [(0, (i64 s)), (1, (Value.slice A n cap)), (5, (Value.pointer (some ⟨b1, 0, none⟩))), (7, (i64 ((i : Nat) : Int))), (8, (Value.slice (some ⟨b21, 0, none⟩) 16 16)), (9, (Value.slice (some ⟨b29, 0, none⟩) 16 16)), (10, (i64 ((k : Nat) : Int))), (11, (Value.pointer (some ⟨b77, 0, none⟩))), (12, (Value.pointer (some ⟨b101, 0, none⟩))), (13, (i64 ((m : Nat) : Int))), (14, (i64 (Ch.ownerAt ((c.do_ ⟨x15.kind, x15.slot, x15.shard, x15.n, x15.phase⟩).2) ((m : Nat) : Int)))), (40, (Value.bool true)), (46, (Value.bool false)), (70, (Value.bool true)), (118, (Value.bool false))] (by kernel_rfl) rfl (by kernel_rfl) ?_
            refine Dr.done (by kernel_rfl) ?_
            refine q_else (o := .tmp 118) (by kernel_rfl) rfl ?_
            refine q_skip (by kernel_rfl) ?_
            refine q_region (by kernel_rfl) ?_
            refine Ops.regs 2 [(0, (i64 s)), (1, (Value.slice A n cap)), (5, (Value.pointer (some ⟨b1, 0, none⟩))), (7, (i64 ((i : Nat) : Int))), (8, (Value.slice (some ⟨b21, 0, none⟩) 16 16)), (9, (Value.slice (some ⟨b29, 0, none⟩) 16 16)), (10, (i64 ((k : Nat) : Int))), (11, (Value.pointer (some ⟨b77, 0, none⟩))), (12, (Value.pointer (some ⟨b101, 0, none⟩))), (13, (i64 ((m : Nat) : Int))), (14, (i64 (Ch.ownerAt ((c.do_ ⟨x15.kind, x15.slot, x15.shard, x15.n, x15.phase⟩).2) ((m : Nat) : Int)))), (40, (Value.bool true)), (46, (Value.bool false)), (70, (Value.bool true)), (72, (i64 (IntKind.i64.wrap (((m : Nat) : Int) + 1)))), (118, (Value.bool false))] (j := 2) (by kernel_rfl) (by kernel_rfl) ?_
            have e160 : IntKind.i64.wrap (((m : Nat) : Int) + 1) = ((m : Nat) : Int) + 1 := wrap_i64 (by omega) (by omega)
            rw [e160]
            refine Ops.regs 1 [(0, (i64 s)), (1, (Value.slice A n cap)), (5, (Value.pointer (some ⟨b1, 0, none⟩))), (7, (i64 ((i : Nat) : Int))), (8, (Value.slice (some ⟨b21, 0, none⟩) 16 16)), (9, (Value.slice (some ⟨b29, 0, none⟩) 16 16)), (10, (i64 ((k : Nat) : Int))), (11, (Value.pointer (some ⟨b77, 0, none⟩))), (12, (Value.pointer (some ⟨b101, 0, none⟩))), (13, (i64 (((m : Nat) : Int) + 1))), (14, (i64 (Ch.ownerAt ((c.do_ ⟨x15.kind, x15.slot, x15.shard, x15.n, x15.phase⟩).2) ((m : Nat) : Int)))), (40, (Value.bool true)), (46, (Value.bool false)), (70, (Value.bool true)), (118, (Value.bool false))] (j := 3) (by kernel_rfl) (by kernel_rfl) ?_
            refine Ops.keep (R := [(0, (i64 s)), (1, (Value.slice A n cap)), (5, (Value.pointer (some ⟨b1, 0, none⟩))), (7, (i64 ((i : Nat) : Int))), (8, (Value.slice (some ⟨b21, 0, none⟩) 16 16)), (9, (Value.slice (some ⟨b29, 0, none⟩) 16 16)), (10, (i64 ((k : Nat) : Int))), (11, (Value.pointer (some ⟨b77, 0, none⟩))), (12, (Value.pointer (some ⟨b101, 0, none⟩))), (13, (i64 ((m + 1 : Nat) : Int))), (40, (Value.bool true)), (46, (Value.bool false))]) (by kernel_rfl) ?_
            refine Ops.done (by kernel_rfl) ?_
            exact ⟨m + 1, ⟨rfl, by omega, K155, H150, H151, H152, H153, H154⟩, (show 16 - (m + 1) < 16 - m from by omega)⟩
          · rw [h156]
            have p161 : Ch.ownerAt ((c.do_ ⟨x15.kind, x15.slot, x15.shard, x15.n, x15.phase⟩).2) ((m : Nat) : Int) = (fillk (fun k => Ch.ownerAt c ((k : Nat) : Int)) 16).getD m 0 := of_bne_f h156
            have h162 : ((Ch.epochAt ((c.do_ ⟨x15.kind, x15.slot, x15.shard, x15.n, x15.phase⟩).2) ((m : Nat) : Int)) == (((fillk (fun k => Ch.epochAt c ((k : Nat) : Int)) 16).getD m 0) + 1)) = false := beq_f (by omega)
            rw [h162]
            refine Dr.takes (fuel' := 14) (is' := [28, 27, 26, 25, 24, 23, 22, 16, 21, 20, 19, 18, 17, 15, 14, 13, 12, 11, 10, 9, 8, 7, 6, 5, 4, 3, 2, 1, 0]) [23, 24, 25, 26, 27, 28] [(0, (i64 s)), (1, (Value.slice A n cap)), (5, (Value.pointer (some ⟨b1, 0, none⟩))), (7, (i64 ((i : Nat) : Int))), (8, (Value.slice (some ⟨b21, 0, none⟩) 16 16)), (9, (Value.slice (some ⟨b29, 0, none⟩) 16 16)), (10, (i64 ((k : Nat) : Int))), (11, (Value.pointer (some ⟨b77, 0, none⟩))), (12, (Value.pointer (some ⟨b101, 0, none⟩))), (13, (i64 ((m : Nat) : Int))), (14, (i64 (Ch.ownerAt ((c.do_ ⟨x15.kind, x15.slot, x15.shard, x15.n, x15.phase⟩).2) ((m : Nat) : Int)))), (40, (Value.bool true)), (46, (Value.bool false)), (70, (Value.bool true)), (101, (Value.bool false)), (102, (i64 (Ch.ownerAt ((c.do_ ⟨x15.kind, x15.slot, x15.shard, x15.n, x15.phase⟩).2) ((m : Nat) : Int)))), (103, (Value.slice (some ⟨b21, 0, none⟩) 16 16)), (104, (i64 ((m : Nat) : Int)))] (by kernel_rfl) rfl (by kernel_rfl) ?_
            refine Dr.take (i := 29) (v := (Value.pointer (some ⟨b21, m, none⟩))) (by kernel_rfl) (by kernel_rfl) (fun wz hS => Runs.ixSlice (k := IntKind.i64) (t := 44) (b := b21) (off := 0) (len := 16) (cap := 16) (s := 1) (off' := m) (i := ((m : Nat) : Int)) (by kernel_rfl) (by kernel_rfl) (by omega) (by omega) (by omega)) (d := (some 105)) (by kernel_rfl) rfl ?_
            refine Dr.take (i := 30) (v := (i64 ((fillk (fun k => Ch.ownerAt c ((k : Nat) : Int)) 16).getD m 0))) (by kernel_rfl) (by kernel_rfl) (fun wz hS => Runs.load (t := 3) (a := ⟨b21, m, none⟩) (by kernel_rfl) ((H151.keep hS (fun h => h)).loads (loadC1 (by kernel_rfl) (intsL_at _ m (by rw [fillk_length]; omega))))) (d := (some 106)) (by kernel_rfl) rfl ?_
            refine Dr.takes (fuel' := 10) (is' := [32, 31, 30, 29, 28, 27, 26, 25, 24, 23, 22, 16, 21, 20, 19, 18, 17, 15, 14, 13, 12, 11, 10, 9, 8, 7, 6, 5, 4, 3, 2, 1, 0]) [31, 32] [(0, (i64 s)), (1, (Value.slice A n cap)), (5, (Value.pointer (some ⟨b1, 0, none⟩))), (7, (i64 ((i : Nat) : Int))), (8, (Value.slice (some ⟨b21, 0, none⟩) 16 16)), (9, (Value.slice (some ⟨b29, 0, none⟩) 16 16)), (10, (i64 ((k : Nat) : Int))), (11, (Value.pointer (some ⟨b77, 0, none⟩))), (12, (Value.pointer (some ⟨b101, 0, none⟩))), (13, (i64 ((m : Nat) : Int))), (14, (i64 (Ch.ownerAt ((c.do_ ⟨x15.kind, x15.slot, x15.shard, x15.n, x15.phase⟩).2) ((m : Nat) : Int)))), (40, (Value.bool true)), (46, (Value.bool false)), (70, (Value.bool true)), (101, (Value.bool false)), (108, (Value.bool ((Ch.ownerAt ((c.do_ ⟨x15.kind, x15.slot, x15.shard, x15.n, x15.phase⟩).2) ((m : Nat) : Int)) == ((fillk (fun k => Ch.ownerAt c ((k : Nat) : Int)) 16).getD m 0))))] (by kernel_rfl) rfl (by kernel_rfl) ?_
            have h163 : ((Ch.ownerAt ((c.do_ ⟨x15.kind, x15.slot, x15.shard, x15.n, x15.phase⟩).2) ((m : Nat) : Int)) == ((fillk (fun k => Ch.ownerAt c ((k : Nat) : Int)) 16).getD m 0)) = true := beq_t (by omega)
            rw [h163]
            refine Dr.takes (fuel' := 6) (is' := [37, 36, 34, 33, 32, 31, 30, 29, 28, 27, 26, 25, 24, 23, 22, 16, 21, 20, 19, 18, 17, 15, 14, 13, 12, 11, 10, 9, 8, 7, 6, 5, 4, 3, 2, 1, 0]) [33, 34, 36, 37] [(0, (i64 s)), (1, (Value.slice A n cap)), (5, (Value.pointer (some ⟨b1, 0, none⟩))), (7, (i64 ((i : Nat) : Int))), (8, (Value.slice (some ⟨b21, 0, none⟩) 16 16)), (9, (Value.slice (some ⟨b29, 0, none⟩) 16 16)), (10, (i64 ((k : Nat) : Int))), (11, (Value.pointer (some ⟨b77, 0, none⟩))), (12, (Value.pointer (some ⟨b101, 0, none⟩))), (13, (i64 ((m : Nat) : Int))), (14, (i64 (Ch.ownerAt ((c.do_ ⟨x15.kind, x15.slot, x15.shard, x15.n, x15.phase⟩).2) ((m : Nat) : Int)))), (40, (Value.bool true)), (46, (Value.bool false)), (70, (Value.bool true)), (101, (Value.bool false)), (108, (Value.bool true)), (109, (Value.pointer (some ⟨b1, 0, none⟩))), (110, (i64 ((m : Nat) : Int))), (112, (Value.slice (some ⟨b29, 0, none⟩) 16 16)), (113, (i64 ((m : Nat) : Int)))] (by kernel_rfl) rfl (by kernel_rfl) ?_
            refine Dr.take (i := 38) (v := (Value.pointer (some ⟨b29, m, none⟩))) (by kernel_rfl) (by kernel_rfl) (fun wz hS => Runs.ixSlice (k := IntKind.i64) (t := 45) (b := b29) (off := 0) (len := 16) (cap := 16) (s := 1) (off' := m) (i := ((m : Nat) : Int)) (by kernel_rfl) (by kernel_rfl) (by omega) (by omega) (by omega)) (d := (some 114)) (by kernel_rfl) rfl ?_
            refine Dr.take (i := 39) (v := (i64 ((fillk (fun k => Ch.epochAt c ((k : Nat) : Int)) 16).getD m 0))) (by kernel_rfl) (by kernel_rfl) (fun wz hS => Runs.load (t := 2) (a := ⟨b29, m, none⟩) (by kernel_rfl) ((H152.keep hS (fun h => h)).loads (loadC1 (by kernel_rfl) (intsL_at _ m (by rw [fillk_length]; omega))))) (d := (some 115)) (by kernel_rfl) rfl ?_
            refine Dr.call (i := 35) (by kernel_rfl) (by kernel_rfl) (d := (some 111)) (by kernel_rfl) (fun _ => Epoch_calls _ b1 ((c.do_ ⟨x15.kind, x15.slot, x15.shard, x15.n, x15.phase⟩).2) ((m : Nat) : Int) (Ch.Inv.do_ hc ⟨x15.kind, x15.slot, x15.shard, x15.n, x15.phase⟩) H150) ?_
            rintro _ w164 ⟨rfl, K165⟩
            have H166 := H150.keep K165 (fun h => h)
            clear H150
            have H167 := H151.keep K165 (fun h => h)
            clear H151
            have H168 := H152.keep K165 (fun h => h)
            clear H152
            have H169 := H153.keep K165 (fun h => h)
            clear H153
            have H170 := H154.keep K165 (fun h => h)
            clear H154
            have K171 := K155.trans K165 (U := none_) (fun i h1 h2 => h2) (fun i h1 h2 => by exact h2)
            clear K155
            refine ⟨_, _, rfl, rfl, K165, ?_⟩
            refine Dr.strong (S' := (fun wz => Keeps none_ w164 wz)) (Keeps.refl w164) (fun wz hx => K165.trans hx (fun _ _ h => h) (fun _ _ h => h)) ?_
            clear K165
            refine Dr.takes (fuel' := 0) (is' := [42, 41, 40, 35, 39, 38, 37, 36, 34, 33, 32, 31, 30, 29, 28, 27, 26, 25, 24, 23, 22, 16, 21, 20, 19, 18, 17, 15, 14, 13, 12, 11, 10, 9, 8, 7, 6, 5, 4, 3, 2, 1, 0]) [40, 41, 42] [(0, (i64 s)), (1, (Value.slice A n cap)), (5, (Value.pointer (some ⟨b1, 0, none⟩))), (7, (i64 ((i : Nat) : Int))), (8, (Value.slice (some ⟨b21, 0, none⟩) 16 16)), (9, (Value.slice (some ⟨b29, 0, none⟩) 16 16)), (10, (i64 ((k : Nat) : Int))), (11, (Value.pointer (some ⟨b77, 0, none⟩))), (12, (Value.pointer (some ⟨b101, 0, none⟩))), (13, (i64 ((m : Nat) : Int))), (14, (i64 (Ch.ownerAt ((c.do_ ⟨x15.kind, x15.slot, x15.shard, x15.n, x15.phase⟩).2) ((m : Nat) : Int)))), (40, (Value.bool true)), (46, (Value.bool false)), (70, (Value.bool true)), (118, (Value.bool ((Ch.epochAt ((c.do_ ⟨x15.kind, x15.slot, x15.shard, x15.n, x15.phase⟩).2) ((m : Nat) : Int)) != ((fillk (fun k => Ch.epochAt c ((k : Nat) : Int)) 16).getD m 0))))] (by kernel_rfl) rfl (by kernel_rfl) ?_
            refine Dr.done (by kernel_rfl) ?_
            have h172 : ((Ch.epochAt ((c.do_ ⟨x15.kind, x15.slot, x15.shard, x15.n, x15.phase⟩).2) ((m : Nat) : Int)) != ((fillk (fun k => Ch.epochAt c ((k : Nat) : Int)) 16).getD m 0)) = false := bne_f (by omega)
            rw [h172]
            refine q_else (o := .tmp 118) (by kernel_rfl) rfl ?_
            refine q_skip (by kernel_rfl) ?_
            refine q_region (by kernel_rfl) ?_
            refine Ops.regs 2 [(0, (i64 s)), (1, (Value.slice A n cap)), (5, (Value.pointer (some ⟨b1, 0, none⟩))), (7, (i64 ((i : Nat) : Int))), (8, (Value.slice (some ⟨b21, 0, none⟩) 16 16)), (9, (Value.slice (some ⟨b29, 0, none⟩) 16 16)), (10, (i64 ((k : Nat) : Int))), (11, (Value.pointer (some ⟨b77, 0, none⟩))), (12, (Value.pointer (some ⟨b101, 0, none⟩))), (13, (i64 ((m : Nat) : Int))), (14, (i64 (Ch.ownerAt ((c.do_ ⟨x15.kind, x15.slot, x15.shard, x15.n, x15.phase⟩).2) ((m : Nat) : Int)))), (40, (Value.bool true)), (46, (Value.bool false)), (70, (Value.bool true)), (72, (i64 (IntKind.i64.wrap (((m : Nat) : Int) + 1)))), (118, (Value.bool false))] (j := 2) (by kernel_rfl) (by kernel_rfl) ?_
            have e173 : IntKind.i64.wrap (((m : Nat) : Int) + 1) = ((m : Nat) : Int) + 1 := wrap_i64 (by omega) (by omega)
            rw [e173]
            refine Ops.regs 1 [(0, (i64 s)), (1, (Value.slice A n cap)), (5, (Value.pointer (some ⟨b1, 0, none⟩))), (7, (i64 ((i : Nat) : Int))), (8, (Value.slice (some ⟨b21, 0, none⟩) 16 16)), (9, (Value.slice (some ⟨b29, 0, none⟩) 16 16)), (10, (i64 ((k : Nat) : Int))), (11, (Value.pointer (some ⟨b77, 0, none⟩))), (12, (Value.pointer (some ⟨b101, 0, none⟩))), (13, (i64 (((m : Nat) : Int) + 1))), (14, (i64 (Ch.ownerAt ((c.do_ ⟨x15.kind, x15.slot, x15.shard, x15.n, x15.phase⟩).2) ((m : Nat) : Int)))), (40, (Value.bool true)), (46, (Value.bool false)), (70, (Value.bool true)), (118, (Value.bool false))] (j := 3) (by kernel_rfl) (by kernel_rfl) ?_
            refine Ops.keep (R := [(0, (i64 s)), (1, (Value.slice A n cap)), (5, (Value.pointer (some ⟨b1, 0, none⟩))), (7, (i64 ((i : Nat) : Int))), (8, (Value.slice (some ⟨b21, 0, none⟩) 16 16)), (9, (Value.slice (some ⟨b29, 0, none⟩) 16 16)), (10, (i64 ((k : Nat) : Int))), (11, (Value.pointer (some ⟨b77, 0, none⟩))), (12, (Value.pointer (some ⟨b101, 0, none⟩))), (13, (i64 ((m + 1 : Nat) : Int))), (40, (Value.bool true)), (46, (Value.bool false))]) (by kernel_rfl) ?_
            refine Ops.done (by kernel_rfl) ?_
            exact ⟨m + 1, ⟨rfl, by omega, K171, H166, H167, H168, H169, H170⟩, (show 16 - (m + 1) < 16 - m from by omega)⟩
        · rw [h127]
          have p174 : ¬ (((m : Nat) : Int) < 16) := of_decide_eq_false h127
          refine q_exit (id := 4) (by kernel_rfl) ?_
          refine q_seq (by kernel_rfl) ?_
          refine q_region (by kernel_rfl) ?_
          refine Ops.regs 1 [(0, (i64 s)), (1, (Value.slice A n cap)), (5, (Value.pointer (some ⟨b1, 0, none⟩))), (7, (i64 ((i : Nat) : Int))), (8, (Value.slice (some ⟨b21, 0, none⟩) 16 16)), (9, (Value.slice (some ⟨b29, 0, none⟩) 16 16)), (10, (i64 ((k : Nat) : Int))), (11, (Value.pointer (some ⟨b77, 0, none⟩))), (12, (Value.pointer (some ⟨b101, 0, none⟩))), (13, (i64 ((m : Nat) : Int))), (40, (Value.bool true)), (46, (Value.bool false)), (70, (Value.bool false)), (120, (Value.pointer (some ⟨b1, 0, none⟩)))] (j := 1) (by kernel_rfl) (by kernel_rfl) ?_
          refine Ops.call (by kernel_rfl) (d := (some 121)) (by kernel_rfl) (Audit_calls _ b1 ((c.do_ ⟨x15.kind, x15.slot, x15.shard, x15.n, x15.phase⟩).2)  (Ch.Inv.do_ hc ⟨x15.kind, x15.slot, x15.shard, x15.n, x15.phase⟩) H122) ?_
          rintro _ w175 ⟨rfl, K176⟩
          refine ⟨_, _, rfl, rfl, ?_⟩
          have H177 := H122.keep K176 (fun h => h)
          clear H122
          have H178 := H123.keep K176 (fun h => h)
          clear H123
          have H179 := H124.keep K176 (fun h => h)
          clear H124
          have H180 := H125.keep K176 (fun h => h)
          clear H125
          have H181 := H126.keep K176 (fun h => h)
          clear H126
          have K182 := K121.trans K176 (U := none_) (fun i h1 h2 => h2) (fun i h1 h2 => by exact h2)
          clear K121
          clear K176
          refine Ops.regs 5 [(0, (i64 s)), (1, (Value.slice A n cap)), (5, (Value.pointer (some ⟨b1, 0, none⟩))), (7, (i64 ((i : Nat) : Int))), (8, (Value.slice (some ⟨b21, 0, none⟩) 16 16)), (9, (Value.slice (some ⟨b29, 0, none⟩) 16 16)), (10, (i64 ((k : Nat) : Int))), (11, (Value.pointer (some ⟨b77, 0, none⟩))), (12, (Value.pointer (some ⟨b101, 0, none⟩))), (13, (i64 ((m : Nat) : Int))), (16, (i64 (((c.do_ ⟨x15.kind, x15.slot, x15.shard, x15.n, x15.phase⟩).2).phase))), (40, (Value.bool true)), (46, (Value.bool false)), (70, (Value.bool false))] (j := 7) (by kernel_rfl) (by kernel_rfl) ?_
          refine Ops.done (by kernel_rfl) ?_
          refine q_seq (by kernel_rfl) ?_
          refine q_seq (by kernel_rfl) ?_
          refine q_region (by kernel_rfl) ?_
          refine Ops.regs 1 [(0, (i64 s)), (1, (Value.slice A n cap)), (5, (Value.pointer (some ⟨b1, 0, none⟩))), (7, (i64 ((i : Nat) : Int))), (8, (Value.slice (some ⟨b21, 0, none⟩) 16 16)), (9, (Value.slice (some ⟨b29, 0, none⟩) 16 16)), (10, (i64 ((k : Nat) : Int))), (11, (Value.pointer (some ⟨b77, 0, none⟩))), (12, (Value.pointer (some ⟨b101, 0, none⟩))), (13, (i64 ((m : Nat) : Int))), (16, (i64 (((c.do_ ⟨x15.kind, x15.slot, x15.shard, x15.n, x15.phase⟩).2).phase))), (40, (Value.bool true)), (46, (Value.bool false)), (70, (Value.bool false)), (124, (Value.pointer (some ⟨b1, 0, none⟩)))] (j := 1) (by kernel_rfl) (by kernel_rfl) ?_
          refine Ops.call (by kernel_rfl) (d := (some 125)) (by kernel_rfl) (Move_calls _ b1 ((c.do_ ⟨x15.kind, x15.slot, x15.shard, x15.n, x15.phase⟩).2)  (Ch.Inv.do_ hc ⟨x15.kind, x15.slot, x15.shard, x15.n, x15.phase⟩) H177) ?_
          rintro _ w183 ⟨rfl, K184⟩
          refine ⟨_, _, rfl, rfl, ?_⟩
          have H185 := H177.keep K184 (fun h => h)
          clear H177
          have H186 := H178.keep K184 (fun h => h)
          clear H178
          have H187 := H179.keep K184 (fun h => h)
          clear H179
          have H188 := H180.keep K184 (fun h => h)
          clear H180
          have H189 := H181.keep K184 (fun h => h)
          clear H181
          have K190 := K182.trans K184 (U := none_) (fun i h1 h2 => h2) (fun i h1 h2 => by exact h2)
          clear K182
          clear K184
          refine Ops.regs 3 [(0, (i64 s)), (1, (Value.slice A n cap)), (5, (Value.pointer (some ⟨b1, 0, none⟩))), (7, (i64 ((i : Nat) : Int))), (8, (Value.slice (some ⟨b21, 0, none⟩) 16 16)), (9, (Value.slice (some ⟨b29, 0, none⟩) 16 16)), (10, (i64 ((k : Nat) : Int))), (11, (Value.pointer (some ⟨b77, 0, none⟩))), (12, (Value.pointer (some ⟨b101, 0, none⟩))), (13, (i64 ((m : Nat) : Int))), (16, (i64 (((c.do_ ⟨x15.kind, x15.slot, x15.shard, x15.n, x15.phase⟩).2).phase))), (40, (Value.bool true)), (46, (Value.bool false)), (70, (Value.bool false)), (128, (Value.bool ((((c.do_ ⟨x15.kind, x15.slot, x15.shard, x15.n, x15.phase⟩).2).mp) != 0)))] (j := 5) (by kernel_rfl) (by kernel_rfl) ?_
          refine Ops.split ((((c.do_ ⟨x15.kind, x15.slot, x15.shard, x15.n, x15.phase⟩).2).mp) != 0) (fun h191 => ?_) (fun h191 => ?_)
          · rw [h191]
            have p192 : ¬ (((c.do_ ⟨x15.kind, x15.slot, x15.shard, x15.n, x15.phase⟩).2).mp = 0) := of_bne_t h191
            refine Ops.regs 3 [(0, (i64 s)), (1, (Value.slice A n cap)), (5, (Value.pointer (some ⟨b1, 0, none⟩))), (7, (i64 ((i : Nat) : Int))), (8, (Value.slice (some ⟨b21, 0, none⟩) 16 16)), (9, (Value.slice (some ⟨b29, 0, none⟩) 16 16)), (10, (i64 ((k : Nat) : Int))), (11, (Value.pointer (some ⟨b77, 0, none⟩))), (12, (Value.pointer (some ⟨b101, 0, none⟩))), (13, (i64 ((m : Nat) : Int))), (16, (i64 (((c.do_ ⟨x15.kind, x15.slot, x15.shard, x15.n, x15.phase⟩).2).phase))), (40, (Value.bool true)), (46, (Value.bool false)), (70, (Value.bool false)), (131, (Value.bool ((((c.do_ ⟨x15.kind, x15.slot, x15.shard, x15.n, x15.phase⟩).2).phase) != 0)))] (j := 8) (by kernel_rfl) (by kernel_rfl) ?_
            refine Ops.done (by kernel_rfl) ?_
            have h193 : ((((c.do_ ⟨x15.kind, x15.slot, x15.shard, x15.n, x15.phase⟩).2).phase) != 0) = false := by have q := (Ch.Inv.do_ hc ⟨x15.kind, x15.slot, x15.shard, x15.n, x15.phase⟩).m1 (by assumption); simp; omega
            rw [h193]
            refine q_else (o := .tmp 131) (by kernel_rfl) rfl ?_
            refine q_skip (by kernel_rfl) ?_
            refine q_seq (by kernel_rfl) ?_
            refine q_region (by kernel_rfl) ?_
            refine Ops.regs 1 [(0, (i64 s)), (1, (Value.slice A n cap)), (5, (Value.pointer (some ⟨b1, 0, none⟩))), (7, (i64 ((i : Nat) : Int))), (8, (Value.slice (some ⟨b21, 0, none⟩) 16 16)), (9, (Value.slice (some ⟨b29, 0, none⟩) 16 16)), (10, (i64 ((k : Nat) : Int))), (11, (Value.pointer (some ⟨b77, 0, none⟩))), (12, (Value.pointer (some ⟨b101, 0, none⟩))), (13, (i64 ((m : Nat) : Int))), (16, (i64 (((c.do_ ⟨x15.kind, x15.slot, x15.shard, x15.n, x15.phase⟩).2).phase))), (40, (Value.bool true)), (46, (Value.bool false)), (70, (Value.bool false)), (131, (Value.bool false)), (132, (Value.pointer (some ⟨b101, 0, none⟩)))] (j := 1) (by kernel_rfl) (by kernel_rfl) ?_
            refine Ops.go (v := (i64 ((c.do_ ⟨x15.kind, x15.slot, x15.shard, x15.n, x15.phase⟩).1.why))) (by kernel_rfl) (Runs.load (t := 23) (a := ⟨b101, 0, none⟩) (by kernel_rfl) (H189.loads (by kernel_rfl))) (d := (some 133)) (by kernel_rfl) rfl ?_
            refine Ops.regs 2 [(0, (i64 s)), (1, (Value.slice A n cap)), (5, (Value.pointer (some ⟨b1, 0, none⟩))), (7, (i64 ((i : Nat) : Int))), (8, (Value.slice (some ⟨b21, 0, none⟩) 16 16)), (9, (Value.slice (some ⟨b29, 0, none⟩) 16 16)), (10, (i64 ((k : Nat) : Int))), (11, (Value.pointer (some ⟨b77, 0, none⟩))), (12, (Value.pointer (some ⟨b101, 0, none⟩))), (13, (i64 ((m : Nat) : Int))), (16, (i64 (((c.do_ ⟨x15.kind, x15.slot, x15.shard, x15.n, x15.phase⟩).2).phase))), (40, (Value.bool true)), (46, (Value.bool false)), (70, (Value.bool false)), (131, (Value.bool false)), (135, (Value.bool (((c.do_ ⟨x15.kind, x15.slot, x15.shard, x15.n, x15.phase⟩).1.why) == 0)))] (j := 4) (by kernel_rfl) (by kernel_rfl) ?_
            refine Ops.split (((c.do_ ⟨x15.kind, x15.slot, x15.shard, x15.n, x15.phase⟩).1.why) == 0) (fun h194 => ?_) (fun h194 => ?_)
            · rw [h194]
              have p195 : (c.do_ ⟨x15.kind, x15.slot, x15.shard, x15.n, x15.phase⟩).1.why = 0 := of_beq_t h194
              refine Ops.regs 1 [(0, (i64 s)), (1, (Value.slice A n cap)), (5, (Value.pointer (some ⟨b1, 0, none⟩))), (7, (i64 ((i : Nat) : Int))), (8, (Value.slice (some ⟨b21, 0, none⟩) 16 16)), (9, (Value.slice (some ⟨b29, 0, none⟩) 16 16)), (10, (i64 ((k : Nat) : Int))), (11, (Value.pointer (some ⟨b77, 0, none⟩))), (12, (Value.pointer (some ⟨b101, 0, none⟩))), (13, (i64 ((m : Nat) : Int))), (16, (i64 (((c.do_ ⟨x15.kind, x15.slot, x15.shard, x15.n, x15.phase⟩).2).phase))), (40, (Value.bool true)), (46, (Value.bool false)), (70, (Value.bool false)), (131, (Value.bool false)), (135, (Value.bool true)), (136, (Value.pointer (some ⟨b77, 0, none⟩)))] (j := 5) (by kernel_rfl) (by kernel_rfl) ?_
              refine Ops.go (v := (i64 x15.kind)) (by kernel_rfl) (Runs.load (t := 3) (a := ⟨b77, 0, none⟩) (by kernel_rfl) (H188.loads (by kernel_rfl))) (d := (some 137)) (by kernel_rfl) rfl ?_
              refine Ops.regs 3 [(0, (i64 s)), (1, (Value.slice A n cap)), (5, (Value.pointer (some ⟨b1, 0, none⟩))), (7, (i64 ((i : Nat) : Int))), (8, (Value.slice (some ⟨b21, 0, none⟩) 16 16)), (9, (Value.slice (some ⟨b29, 0, none⟩) 16 16)), (10, (i64 ((k : Nat) : Int))), (11, (Value.pointer (some ⟨b77, 0, none⟩))), (12, (Value.pointer (some ⟨b101, 0, none⟩))), (13, (i64 ((m : Nat) : Int))), (16, (i64 (((c.do_ ⟨x15.kind, x15.slot, x15.shard, x15.n, x15.phase⟩).2).phase))), (40, (Value.bool true)), (46, (Value.bool false)), (70, (Value.bool false)), (131, (Value.bool false)), (140, (Value.bool (decide (x15.kind ≥ 2))))] (j := 9) (by kernel_rfl) (by kernel_rfl) ?_
              refine Ops.split (decide (x15.kind ≥ 2)) (fun h196 => ?_) (fun h196 => ?_)
              · rw [h196]
                have p197 : x15.kind ≥ 2 := of_decide_eq_true h196
                refine Ops.regs 1 [(0, (i64 s)), (1, (Value.slice A n cap)), (5, (Value.pointer (some ⟨b1, 0, none⟩))), (7, (i64 ((i : Nat) : Int))), (8, (Value.slice (some ⟨b21, 0, none⟩) 16 16)), (9, (Value.slice (some ⟨b29, 0, none⟩) 16 16)), (10, (i64 ((k : Nat) : Int))), (11, (Value.pointer (some ⟨b77, 0, none⟩))), (12, (Value.pointer (some ⟨b101, 0, none⟩))), (13, (i64 ((m : Nat) : Int))), (16, (i64 (((c.do_ ⟨x15.kind, x15.slot, x15.shard, x15.n, x15.phase⟩).2).phase))), (40, (Value.bool true)), (46, (Value.bool false)), (70, (Value.bool false)), (131, (Value.bool false)), (140, (Value.bool true)), (141, (Value.pointer (some ⟨b77, 0, none⟩)))] (j := 10) (by kernel_rfl) (by kernel_rfl) ?_
                refine Ops.go (v := (i64 x15.kind)) (by kernel_rfl) (Runs.load (t := 3) (a := ⟨b77, 0, none⟩) (by kernel_rfl) (H188.loads (by kernel_rfl))) (d := (some 142)) (by kernel_rfl) rfl ?_
                refine Ops.regs 3 [(0, (i64 s)), (1, (Value.slice A n cap)), (5, (Value.pointer (some ⟨b1, 0, none⟩))), (7, (i64 ((i : Nat) : Int))), (8, (Value.slice (some ⟨b21, 0, none⟩) 16 16)), (9, (Value.slice (some ⟨b29, 0, none⟩) 16 16)), (10, (i64 ((k : Nat) : Int))), (11, (Value.pointer (some ⟨b77, 0, none⟩))), (12, (Value.pointer (some ⟨b101, 0, none⟩))), (13, (i64 ((m : Nat) : Int))), (16, (i64 (((c.do_ ⟨x15.kind, x15.slot, x15.shard, x15.n, x15.phase⟩).2).phase))), (40, (Value.bool true)), (46, (Value.bool false)), (70, (Value.bool false)), (131, (Value.bool false)), (145, (Value.bool (x15.kind != 3)))] (j := 14) (by kernel_rfl) (by kernel_rfl) ?_
                refine Ops.split (x15.kind != 3) (fun h198 => ?_) (fun h198 => ?_)
                · rw [h198]
                  have p199 : ¬ (x15.kind = 3) := of_bne_t h198
                  refine Ops.regs 1 [(0, (i64 s)), (1, (Value.slice A n cap)), (5, (Value.pointer (some ⟨b1, 0, none⟩))), (7, (i64 ((i : Nat) : Int))), (8, (Value.slice (some ⟨b21, 0, none⟩) 16 16)), (9, (Value.slice (some ⟨b29, 0, none⟩) 16 16)), (10, (i64 ((k : Nat) : Int))), (11, (Value.pointer (some ⟨b77, 0, none⟩))), (12, (Value.pointer (some ⟨b101, 0, none⟩))), (13, (i64 ((m : Nat) : Int))), (16, (i64 (((c.do_ ⟨x15.kind, x15.slot, x15.shard, x15.n, x15.phase⟩).2).phase))), (40, (Value.bool true)), (46, (Value.bool false)), (70, (Value.bool false)), (131, (Value.bool false)), (145, (Value.bool true)), (146, (Value.pointer (some ⟨b1, 0, none⟩)))] (j := 15) (by kernel_rfl) (by kernel_rfl) ?_
                  refine Ops.go (v := (agg [(i64 x15.kind), (i64 x15.slot), (i64 x15.shard), (i64 x15.n), (i64 x15.phase)])) (by kernel_rfl) (Runs.load (t := 32) (a := ⟨b77, 0, none⟩) (by kernel_rfl) (H188.loads (by kernel_rfl))) (d := (some 147)) (by kernel_rfl) rfl ?_
                  refine Ops.call (by kernel_rfl) (d := (some 148)) (by kernel_rfl) (Do_calls _ b1 ((c.do_ ⟨x15.kind, x15.slot, x15.shard, x15.n, x15.phase⟩).2) ⟨x15.kind, x15.slot, x15.shard, x15.n, x15.phase⟩ (Ch.Inv.do_ hc ⟨x15.kind, x15.slot, x15.shard, x15.n, x15.phase⟩) H185) ?_
                  rintro _ w200 ⟨rfl, K201, H202⟩
                  refine ⟨_, _, rfl, rfl, ?_⟩
                  have H203 := H186.keep K201 (by intro h; change b21 = b1 at h; omega)
                  clear H186
                  have H204 := H187.keep K201 (by intro h; change b29 = b1 at h; omega)
                  clear H187
                  have H205 := H188.keep K201 (by intro h; change b77 = b1 at h; omega)
                  clear H188
                  have H206 := H189.keep K201 (by intro h; change b101 = b1 at h; omega)
                  clear H189
                  have K207 := K190.trans K201 (U := none_) (fun i h1 h2 => h2) (fun i h1 h2 => by have h2 : i = b1 := h2; exfalso; omega)
                  clear K190
                  clear K201
                  refine Ops.regs 3 [(0, (i64 s)), (1, (Value.slice A n cap)), (5, (Value.pointer (some ⟨b1, 0, none⟩))), (7, (i64 ((i : Nat) : Int))), (8, (Value.slice (some ⟨b21, 0, none⟩) 16 16)), (9, (Value.slice (some ⟨b29, 0, none⟩) 16 16)), (10, (i64 ((k : Nat) : Int))), (11, (Value.pointer (some ⟨b77, 0, none⟩))), (12, (Value.pointer (some ⟨b101, 0, none⟩))), (13, (i64 ((m : Nat) : Int))), (16, (i64 (((c.do_ ⟨x15.kind, x15.slot, x15.shard, x15.n, x15.phase⟩).2).phase))), (40, (Value.bool true)), (46, (Value.bool false)), (70, (Value.bool false)), (131, (Value.bool false)), (151, (Value.bool (((((c.do_ ⟨x15.kind, x15.slot, x15.shard, x15.n, x15.phase⟩).2).do_ ⟨x15.kind, x15.slot, x15.shard, x15.n, x15.phase⟩).1.why) != 5)))] (j := 20) (by kernel_rfl) (by kernel_rfl) ?_
                  refine Ops.done (by kernel_rfl) ?_
                  have h208 : (((((c.do_ ⟨x15.kind, x15.slot, x15.shard, x15.n, x15.phase⟩).2).do_ ⟨x15.kind, x15.slot, x15.shard, x15.n, x15.phase⟩).1.why) != 5) = false := by have q := do_twice (c := c) ⟨x15.kind, x15.slot, x15.shard, x15.n, x15.phase⟩ (by assumption) (by show 2 ≤ _; omega) (by show ¬ (_ = 3); omega); simp; omega
                  rw [h208]
                  refine q_else (o := .tmp 151) (by kernel_rfl) rfl ?_
                  refine q_skip (by kernel_rfl) ?_
                  refine q_region (by kernel_rfl) ?_
                  refine Ops.regs 2 [(0, (i64 s)), (1, (Value.slice A n cap)), (5, (Value.pointer (some ⟨b1, 0, none⟩))), (7, (i64 ((i : Nat) : Int))), (8, (Value.slice (some ⟨b21, 0, none⟩) 16 16)), (9, (Value.slice (some ⟨b29, 0, none⟩) 16 16)), (10, (i64 ((k : Nat) : Int))), (11, (Value.pointer (some ⟨b77, 0, none⟩))), (12, (Value.pointer (some ⟨b101, 0, none⟩))), (13, (i64 ((m : Nat) : Int))), (16, (i64 (((c.do_ ⟨x15.kind, x15.slot, x15.shard, x15.n, x15.phase⟩).2).phase))), (40, (Value.bool true)), (42, (i64 (IntKind.i64.wrap (((i : Nat) : Int) + 1)))), (46, (Value.bool false)), (70, (Value.bool false)), (131, (Value.bool false)), (151, (Value.bool false))] (j := 2) (by kernel_rfl) (by kernel_rfl) ?_
                  have e209 : IntKind.i64.wrap (((i : Nat) : Int) + 1) = ((i : Nat) : Int) + 1 := wrap_i64 (by omega) (by omega)
                  rw [e209]
                  refine Ops.regs 1 [(0, (i64 s)), (1, (Value.slice A n cap)), (5, (Value.pointer (some ⟨b1, 0, none⟩))), (7, (i64 (((i : Nat) : Int) + 1))), (8, (Value.slice (some ⟨b21, 0, none⟩) 16 16)), (9, (Value.slice (some ⟨b29, 0, none⟩) 16 16)), (10, (i64 ((k : Nat) : Int))), (11, (Value.pointer (some ⟨b77, 0, none⟩))), (12, (Value.pointer (some ⟨b101, 0, none⟩))), (13, (i64 ((m : Nat) : Int))), (16, (i64 (((c.do_ ⟨x15.kind, x15.slot, x15.shard, x15.n, x15.phase⟩).2).phase))), (40, (Value.bool true)), (46, (Value.bool false)), (70, (Value.bool false)), (131, (Value.bool false)), (151, (Value.bool false))] (j := 3) (by kernel_rfl) (by kernel_rfl) ?_
                  refine Ops.keep (R := [(0, (i64 s)), (1, (Value.slice A n cap)), (5, (Value.pointer (some ⟨b1, 0, none⟩))), (7, (i64 ((i + 1 : Nat) : Int)))]) (by kernel_rfl) ?_
                  refine Ops.done (by kernel_rfl) ?_
                  exact ⟨(i + 1, (((c.do_ ⟨x15.kind, x15.slot, x15.shard, x15.n, x15.phase⟩).2).do_ ⟨x15.kind, x15.slot, x15.shard, x15.n, x15.phase⟩).2), ⟨rfl, by omega, by omega, Ch.Inv.do_ (Ch.Inv.do_ hc ⟨x15.kind, x15.slot, x15.shard, x15.n, x15.phase⟩) ⟨x15.kind, x15.slot, x15.shard, x15.n, x15.phase⟩, by simp only [do_shards]; exact hsh, K207, H202⟩, (show 100 - (i + 1) < 100 - i from by omega)⟩
                · rw [h198]
                  have p210 : x15.kind = 3 := of_bne_f h198
                  refine Ops.regs 6 [(0, (i64 s)), (1, (Value.slice A n cap)), (5, (Value.pointer (some ⟨b1, 0, none⟩))), (7, (i64 ((i : Nat) : Int))), (8, (Value.slice (some ⟨b21, 0, none⟩) 16 16)), (9, (Value.slice (some ⟨b29, 0, none⟩) 16 16)), (10, (i64 ((k : Nat) : Int))), (11, (Value.pointer (some ⟨b77, 0, none⟩))), (12, (Value.pointer (some ⟨b101, 0, none⟩))), (13, (i64 ((m : Nat) : Int))), (16, (i64 (((c.do_ ⟨x15.kind, x15.slot, x15.shard, x15.n, x15.phase⟩).2).phase))), (40, (Value.bool true)), (46, (Value.bool false)), (70, (Value.bool false)), (131, (Value.bool false)), (151, (Value.bool false))] (j := 20) (by kernel_rfl) (by kernel_rfl) ?_
                  refine Ops.done (by kernel_rfl) ?_
                  refine q_else (o := .tmp 151) (by kernel_rfl) rfl ?_
                  refine q_skip (by kernel_rfl) ?_
                  refine q_region (by kernel_rfl) ?_
                  refine Ops.regs 2 [(0, (i64 s)), (1, (Value.slice A n cap)), (5, (Value.pointer (some ⟨b1, 0, none⟩))), (7, (i64 ((i : Nat) : Int))), (8, (Value.slice (some ⟨b21, 0, none⟩) 16 16)), (9, (Value.slice (some ⟨b29, 0, none⟩) 16 16)), (10, (i64 ((k : Nat) : Int))), (11, (Value.pointer (some ⟨b77, 0, none⟩))), (12, (Value.pointer (some ⟨b101, 0, none⟩))), (13, (i64 ((m : Nat) : Int))), (16, (i64 (((c.do_ ⟨x15.kind, x15.slot, x15.shard, x15.n, x15.phase⟩).2).phase))), (40, (Value.bool true)), (42, (i64 (IntKind.i64.wrap (((i : Nat) : Int) + 1)))), (46, (Value.bool false)), (70, (Value.bool false)), (131, (Value.bool false)), (151, (Value.bool false))] (j := 2) (by kernel_rfl) (by kernel_rfl) ?_
                  have e211 : IntKind.i64.wrap (((i : Nat) : Int) + 1) = ((i : Nat) : Int) + 1 := wrap_i64 (by omega) (by omega)
                  rw [e211]
                  refine Ops.regs 1 [(0, (i64 s)), (1, (Value.slice A n cap)), (5, (Value.pointer (some ⟨b1, 0, none⟩))), (7, (i64 (((i : Nat) : Int) + 1))), (8, (Value.slice (some ⟨b21, 0, none⟩) 16 16)), (9, (Value.slice (some ⟨b29, 0, none⟩) 16 16)), (10, (i64 ((k : Nat) : Int))), (11, (Value.pointer (some ⟨b77, 0, none⟩))), (12, (Value.pointer (some ⟨b101, 0, none⟩))), (13, (i64 ((m : Nat) : Int))), (16, (i64 (((c.do_ ⟨x15.kind, x15.slot, x15.shard, x15.n, x15.phase⟩).2).phase))), (40, (Value.bool true)), (46, (Value.bool false)), (70, (Value.bool false)), (131, (Value.bool false)), (151, (Value.bool false))] (j := 3) (by kernel_rfl) (by kernel_rfl) ?_
                  refine Ops.keep (R := [(0, (i64 s)), (1, (Value.slice A n cap)), (5, (Value.pointer (some ⟨b1, 0, none⟩))), (7, (i64 ((i + 1 : Nat) : Int)))]) (by kernel_rfl) ?_
                  refine Ops.done (by kernel_rfl) ?_
                  exact ⟨(i + 1, (c.do_ ⟨x15.kind, x15.slot, x15.shard, x15.n, x15.phase⟩).2), ⟨rfl, by omega, by omega, Ch.Inv.do_ hc ⟨x15.kind, x15.slot, x15.shard, x15.n, x15.phase⟩, by simp only [do_shards]; exact hsh, K190, H185⟩, (show 100 - (i + 1) < 100 - i from by omega)⟩
              · rw [h196]
                have p212 : ¬ (x15.kind ≥ 2) := of_decide_eq_false h196
                refine Ops.regs 11 [(0, (i64 s)), (1, (Value.slice A n cap)), (5, (Value.pointer (some ⟨b1, 0, none⟩))), (7, (i64 ((i : Nat) : Int))), (8, (Value.slice (some ⟨b21, 0, none⟩) 16 16)), (9, (Value.slice (some ⟨b29, 0, none⟩) 16 16)), (10, (i64 ((k : Nat) : Int))), (11, (Value.pointer (some ⟨b77, 0, none⟩))), (12, (Value.pointer (some ⟨b101, 0, none⟩))), (13, (i64 ((m : Nat) : Int))), (16, (i64 (((c.do_ ⟨x15.kind, x15.slot, x15.shard, x15.n, x15.phase⟩).2).phase))), (40, (Value.bool true)), (46, (Value.bool false)), (70, (Value.bool false)), (131, (Value.bool false)), (151, (Value.bool false))] (j := 20) (by kernel_rfl) (by kernel_rfl) ?_
                refine Ops.done (by kernel_rfl) ?_
                refine q_else (o := .tmp 151) (by kernel_rfl) rfl ?_
                refine q_skip (by kernel_rfl) ?_
                refine q_region (by kernel_rfl) ?_
                refine Ops.regs 2 [(0, (i64 s)), (1, (Value.slice A n cap)), (5, (Value.pointer (some ⟨b1, 0, none⟩))), (7, (i64 ((i : Nat) : Int))), (8, (Value.slice (some ⟨b21, 0, none⟩) 16 16)), (9, (Value.slice (some ⟨b29, 0, none⟩) 16 16)), (10, (i64 ((k : Nat) : Int))), (11, (Value.pointer (some ⟨b77, 0, none⟩))), (12, (Value.pointer (some ⟨b101, 0, none⟩))), (13, (i64 ((m : Nat) : Int))), (16, (i64 (((c.do_ ⟨x15.kind, x15.slot, x15.shard, x15.n, x15.phase⟩).2).phase))), (40, (Value.bool true)), (42, (i64 (IntKind.i64.wrap (((i : Nat) : Int) + 1)))), (46, (Value.bool false)), (70, (Value.bool false)), (131, (Value.bool false)), (151, (Value.bool false))] (j := 2) (by kernel_rfl) (by kernel_rfl) ?_
                have e213 : IntKind.i64.wrap (((i : Nat) : Int) + 1) = ((i : Nat) : Int) + 1 := wrap_i64 (by omega) (by omega)
                rw [e213]
                refine Ops.regs 1 [(0, (i64 s)), (1, (Value.slice A n cap)), (5, (Value.pointer (some ⟨b1, 0, none⟩))), (7, (i64 (((i : Nat) : Int) + 1))), (8, (Value.slice (some ⟨b21, 0, none⟩) 16 16)), (9, (Value.slice (some ⟨b29, 0, none⟩) 16 16)), (10, (i64 ((k : Nat) : Int))), (11, (Value.pointer (some ⟨b77, 0, none⟩))), (12, (Value.pointer (some ⟨b101, 0, none⟩))), (13, (i64 ((m : Nat) : Int))), (16, (i64 (((c.do_ ⟨x15.kind, x15.slot, x15.shard, x15.n, x15.phase⟩).2).phase))), (40, (Value.bool true)), (46, (Value.bool false)), (70, (Value.bool false)), (131, (Value.bool false)), (151, (Value.bool false))] (j := 3) (by kernel_rfl) (by kernel_rfl) ?_
                refine Ops.keep (R := [(0, (i64 s)), (1, (Value.slice A n cap)), (5, (Value.pointer (some ⟨b1, 0, none⟩))), (7, (i64 ((i + 1 : Nat) : Int)))]) (by kernel_rfl) ?_
                refine Ops.done (by kernel_rfl) ?_
                exact ⟨(i + 1, (c.do_ ⟨x15.kind, x15.slot, x15.shard, x15.n, x15.phase⟩).2), ⟨rfl, by omega, by omega, Ch.Inv.do_ hc ⟨x15.kind, x15.slot, x15.shard, x15.n, x15.phase⟩, by simp only [do_shards]; exact hsh, K190, H185⟩, (show 100 - (i + 1) < 100 - i from by omega)⟩
            · rw [h194]
              have p214 : ¬ ((c.do_ ⟨x15.kind, x15.slot, x15.shard, x15.n, x15.phase⟩).1.why = 0) := of_beq_f h194
              refine Ops.regs 16 [(0, (i64 s)), (1, (Value.slice A n cap)), (5, (Value.pointer (some ⟨b1, 0, none⟩))), (7, (i64 ((i : Nat) : Int))), (8, (Value.slice (some ⟨b21, 0, none⟩) 16 16)), (9, (Value.slice (some ⟨b29, 0, none⟩) 16 16)), (10, (i64 ((k : Nat) : Int))), (11, (Value.pointer (some ⟨b77, 0, none⟩))), (12, (Value.pointer (some ⟨b101, 0, none⟩))), (13, (i64 ((m : Nat) : Int))), (16, (i64 (((c.do_ ⟨x15.kind, x15.slot, x15.shard, x15.n, x15.phase⟩).2).phase))), (40, (Value.bool true)), (46, (Value.bool false)), (70, (Value.bool false)), (131, (Value.bool false)), (151, (Value.bool false))] (j := 20) (by kernel_rfl) (by kernel_rfl) ?_
              refine Ops.done (by kernel_rfl) ?_
              refine q_else (o := .tmp 151) (by kernel_rfl) rfl ?_
              refine q_skip (by kernel_rfl) ?_
              refine q_region (by kernel_rfl) ?_
              refine Ops.regs 2 [(0, (i64 s)), (1, (Value.slice A n cap)), (5, (Value.pointer (some ⟨b1, 0, none⟩))), (7, (i64 ((i : Nat) : Int))), (8, (Value.slice (some ⟨b21, 0, none⟩) 16 16)), (9, (Value.slice (some ⟨b29, 0, none⟩) 16 16)), (10, (i64 ((k : Nat) : Int))), (11, (Value.pointer (some ⟨b77, 0, none⟩))), (12, (Value.pointer (some ⟨b101, 0, none⟩))), (13, (i64 ((m : Nat) : Int))), (16, (i64 (((c.do_ ⟨x15.kind, x15.slot, x15.shard, x15.n, x15.phase⟩).2).phase))), (40, (Value.bool true)), (42, (i64 (IntKind.i64.wrap (((i : Nat) : Int) + 1)))), (46, (Value.bool false)), (70, (Value.bool false)), (131, (Value.bool false)), (151, (Value.bool false))] (j := 2) (by kernel_rfl) (by kernel_rfl) ?_
              have e215 : IntKind.i64.wrap (((i : Nat) : Int) + 1) = ((i : Nat) : Int) + 1 := wrap_i64 (by omega) (by omega)
              rw [e215]
              refine Ops.regs 1 [(0, (i64 s)), (1, (Value.slice A n cap)), (5, (Value.pointer (some ⟨b1, 0, none⟩))), (7, (i64 (((i : Nat) : Int) + 1))), (8, (Value.slice (some ⟨b21, 0, none⟩) 16 16)), (9, (Value.slice (some ⟨b29, 0, none⟩) 16 16)), (10, (i64 ((k : Nat) : Int))), (11, (Value.pointer (some ⟨b77, 0, none⟩))), (12, (Value.pointer (some ⟨b101, 0, none⟩))), (13, (i64 ((m : Nat) : Int))), (16, (i64 (((c.do_ ⟨x15.kind, x15.slot, x15.shard, x15.n, x15.phase⟩).2).phase))), (40, (Value.bool true)), (46, (Value.bool false)), (70, (Value.bool false)), (131, (Value.bool false)), (151, (Value.bool false))] (j := 3) (by kernel_rfl) (by kernel_rfl) ?_
              refine Ops.keep (R := [(0, (i64 s)), (1, (Value.slice A n cap)), (5, (Value.pointer (some ⟨b1, 0, none⟩))), (7, (i64 ((i + 1 : Nat) : Int)))]) (by kernel_rfl) ?_
              refine Ops.done (by kernel_rfl) ?_
              exact ⟨(i + 1, (c.do_ ⟨x15.kind, x15.slot, x15.shard, x15.n, x15.phase⟩).2), ⟨rfl, by omega, by omega, Ch.Inv.do_ hc ⟨x15.kind, x15.slot, x15.shard, x15.n, x15.phase⟩, by simp only [do_shards]; exact hsh, K190, H185⟩, (show 100 - (i + 1) < 100 - i from by omega)⟩
          · rw [h191]
            have p216 : ((c.do_ ⟨x15.kind, x15.slot, x15.shard, x15.n, x15.phase⟩).2).mp = 0 := of_bne_f h191
            refine Ops.regs 3 [(0, (i64 s)), (1, (Value.slice A n cap)), (5, (Value.pointer (some ⟨b1, 0, none⟩))), (7, (i64 ((i : Nat) : Int))), (8, (Value.slice (some ⟨b21, 0, none⟩) 16 16)), (9, (Value.slice (some ⟨b29, 0, none⟩) 16 16)), (10, (i64 ((k : Nat) : Int))), (11, (Value.pointer (some ⟨b77, 0, none⟩))), (12, (Value.pointer (some ⟨b101, 0, none⟩))), (13, (i64 ((m : Nat) : Int))), (16, (i64 (((c.do_ ⟨x15.kind, x15.slot, x15.shard, x15.n, x15.phase⟩).2).phase))), (40, (Value.bool true)), (46, (Value.bool false)), (70, (Value.bool false)), (131, (Value.bool false))] (j := 8) (by kernel_rfl) (by kernel_rfl) ?_
            refine Ops.done (by kernel_rfl) ?_
            refine q_else (o := .tmp 131) (by kernel_rfl) rfl ?_
            refine q_skip (by kernel_rfl) ?_
            refine q_seq (by kernel_rfl) ?_
            refine q_region (by kernel_rfl) ?_
            refine Ops.regs 1 [(0, (i64 s)), (1, (Value.slice A n cap)), (5, (Value.pointer (some ⟨b1, 0, none⟩))), (7, (i64 ((i : Nat) : Int))), (8, (Value.slice (some ⟨b21, 0, none⟩) 16 16)), (9, (Value.slice (some ⟨b29, 0, none⟩) 16 16)), (10, (i64 ((k : Nat) : Int))), (11, (Value.pointer (some ⟨b77, 0, none⟩))), (12, (Value.pointer (some ⟨b101, 0, none⟩))), (13, (i64 ((m : Nat) : Int))), (16, (i64 (((c.do_ ⟨x15.kind, x15.slot, x15.shard, x15.n, x15.phase⟩).2).phase))), (40, (Value.bool true)), (46, (Value.bool false)), (70, (Value.bool false)), (131, (Value.bool false)), (132, (Value.pointer (some ⟨b101, 0, none⟩)))] (j := 1) (by kernel_rfl) (by kernel_rfl) ?_
            refine Ops.go (v := (i64 ((c.do_ ⟨x15.kind, x15.slot, x15.shard, x15.n, x15.phase⟩).1.why))) (by kernel_rfl) (Runs.load (t := 23) (a := ⟨b101, 0, none⟩) (by kernel_rfl) (H189.loads (by kernel_rfl))) (d := (some 133)) (by kernel_rfl) rfl ?_
            refine Ops.regs 2 [(0, (i64 s)), (1, (Value.slice A n cap)), (5, (Value.pointer (some ⟨b1, 0, none⟩))), (7, (i64 ((i : Nat) : Int))), (8, (Value.slice (some ⟨b21, 0, none⟩) 16 16)), (9, (Value.slice (some ⟨b29, 0, none⟩) 16 16)), (10, (i64 ((k : Nat) : Int))), (11, (Value.pointer (some ⟨b77, 0, none⟩))), (12, (Value.pointer (some ⟨b101, 0, none⟩))), (13, (i64 ((m : Nat) : Int))), (16, (i64 (((c.do_ ⟨x15.kind, x15.slot, x15.shard, x15.n, x15.phase⟩).2).phase))), (40, (Value.bool true)), (46, (Value.bool false)), (70, (Value.bool false)), (131, (Value.bool false)), (135, (Value.bool (((c.do_ ⟨x15.kind, x15.slot, x15.shard, x15.n, x15.phase⟩).1.why) == 0)))] (j := 4) (by kernel_rfl) (by kernel_rfl) ?_
            refine Ops.split (((c.do_ ⟨x15.kind, x15.slot, x15.shard, x15.n, x15.phase⟩).1.why) == 0) (fun h217 => ?_) (fun h217 => ?_)
            · rw [h217]
              have p218 : (c.do_ ⟨x15.kind, x15.slot, x15.shard, x15.n, x15.phase⟩).1.why = 0 := of_beq_t h217
              refine Ops.regs 1 [(0, (i64 s)), (1, (Value.slice A n cap)), (5, (Value.pointer (some ⟨b1, 0, none⟩))), (7, (i64 ((i : Nat) : Int))), (8, (Value.slice (some ⟨b21, 0, none⟩) 16 16)), (9, (Value.slice (some ⟨b29, 0, none⟩) 16 16)), (10, (i64 ((k : Nat) : Int))), (11, (Value.pointer (some ⟨b77, 0, none⟩))), (12, (Value.pointer (some ⟨b101, 0, none⟩))), (13, (i64 ((m : Nat) : Int))), (16, (i64 (((c.do_ ⟨x15.kind, x15.slot, x15.shard, x15.n, x15.phase⟩).2).phase))), (40, (Value.bool true)), (46, (Value.bool false)), (70, (Value.bool false)), (131, (Value.bool false)), (135, (Value.bool true)), (136, (Value.pointer (some ⟨b77, 0, none⟩)))] (j := 5) (by kernel_rfl) (by kernel_rfl) ?_
              refine Ops.go (v := (i64 x15.kind)) (by kernel_rfl) (Runs.load (t := 3) (a := ⟨b77, 0, none⟩) (by kernel_rfl) (H188.loads (by kernel_rfl))) (d := (some 137)) (by kernel_rfl) rfl ?_
              refine Ops.regs 3 [(0, (i64 s)), (1, (Value.slice A n cap)), (5, (Value.pointer (some ⟨b1, 0, none⟩))), (7, (i64 ((i : Nat) : Int))), (8, (Value.slice (some ⟨b21, 0, none⟩) 16 16)), (9, (Value.slice (some ⟨b29, 0, none⟩) 16 16)), (10, (i64 ((k : Nat) : Int))), (11, (Value.pointer (some ⟨b77, 0, none⟩))), (12, (Value.pointer (some ⟨b101, 0, none⟩))), (13, (i64 ((m : Nat) : Int))), (16, (i64 (((c.do_ ⟨x15.kind, x15.slot, x15.shard, x15.n, x15.phase⟩).2).phase))), (40, (Value.bool true)), (46, (Value.bool false)), (70, (Value.bool false)), (131, (Value.bool false)), (140, (Value.bool (decide (x15.kind ≥ 2))))] (j := 9) (by kernel_rfl) (by kernel_rfl) ?_
              refine Ops.split (decide (x15.kind ≥ 2)) (fun h219 => ?_) (fun h219 => ?_)
              · rw [h219]
                have p220 : x15.kind ≥ 2 := of_decide_eq_true h219
                refine Ops.regs 1 [(0, (i64 s)), (1, (Value.slice A n cap)), (5, (Value.pointer (some ⟨b1, 0, none⟩))), (7, (i64 ((i : Nat) : Int))), (8, (Value.slice (some ⟨b21, 0, none⟩) 16 16)), (9, (Value.slice (some ⟨b29, 0, none⟩) 16 16)), (10, (i64 ((k : Nat) : Int))), (11, (Value.pointer (some ⟨b77, 0, none⟩))), (12, (Value.pointer (some ⟨b101, 0, none⟩))), (13, (i64 ((m : Nat) : Int))), (16, (i64 (((c.do_ ⟨x15.kind, x15.slot, x15.shard, x15.n, x15.phase⟩).2).phase))), (40, (Value.bool true)), (46, (Value.bool false)), (70, (Value.bool false)), (131, (Value.bool false)), (140, (Value.bool true)), (141, (Value.pointer (some ⟨b77, 0, none⟩)))] (j := 10) (by kernel_rfl) (by kernel_rfl) ?_
                refine Ops.go (v := (i64 x15.kind)) (by kernel_rfl) (Runs.load (t := 3) (a := ⟨b77, 0, none⟩) (by kernel_rfl) (H188.loads (by kernel_rfl))) (d := (some 142)) (by kernel_rfl) rfl ?_
                refine Ops.regs 3 [(0, (i64 s)), (1, (Value.slice A n cap)), (5, (Value.pointer (some ⟨b1, 0, none⟩))), (7, (i64 ((i : Nat) : Int))), (8, (Value.slice (some ⟨b21, 0, none⟩) 16 16)), (9, (Value.slice (some ⟨b29, 0, none⟩) 16 16)), (10, (i64 ((k : Nat) : Int))), (11, (Value.pointer (some ⟨b77, 0, none⟩))), (12, (Value.pointer (some ⟨b101, 0, none⟩))), (13, (i64 ((m : Nat) : Int))), (16, (i64 (((c.do_ ⟨x15.kind, x15.slot, x15.shard, x15.n, x15.phase⟩).2).phase))), (40, (Value.bool true)), (46, (Value.bool false)), (70, (Value.bool false)), (131, (Value.bool false)), (145, (Value.bool (x15.kind != 3)))] (j := 14) (by kernel_rfl) (by kernel_rfl) ?_
                refine Ops.split (x15.kind != 3) (fun h221 => ?_) (fun h221 => ?_)
                · rw [h221]
                  have p222 : ¬ (x15.kind = 3) := of_bne_t h221
                  refine Ops.regs 1 [(0, (i64 s)), (1, (Value.slice A n cap)), (5, (Value.pointer (some ⟨b1, 0, none⟩))), (7, (i64 ((i : Nat) : Int))), (8, (Value.slice (some ⟨b21, 0, none⟩) 16 16)), (9, (Value.slice (some ⟨b29, 0, none⟩) 16 16)), (10, (i64 ((k : Nat) : Int))), (11, (Value.pointer (some ⟨b77, 0, none⟩))), (12, (Value.pointer (some ⟨b101, 0, none⟩))), (13, (i64 ((m : Nat) : Int))), (16, (i64 (((c.do_ ⟨x15.kind, x15.slot, x15.shard, x15.n, x15.phase⟩).2).phase))), (40, (Value.bool true)), (46, (Value.bool false)), (70, (Value.bool false)), (131, (Value.bool false)), (145, (Value.bool true)), (146, (Value.pointer (some ⟨b1, 0, none⟩)))] (j := 15) (by kernel_rfl) (by kernel_rfl) ?_
                  refine Ops.go (v := (agg [(i64 x15.kind), (i64 x15.slot), (i64 x15.shard), (i64 x15.n), (i64 x15.phase)])) (by kernel_rfl) (Runs.load (t := 32) (a := ⟨b77, 0, none⟩) (by kernel_rfl) (H188.loads (by kernel_rfl))) (d := (some 147)) (by kernel_rfl) rfl ?_
                  refine Ops.call (by kernel_rfl) (d := (some 148)) (by kernel_rfl) (Do_calls _ b1 ((c.do_ ⟨x15.kind, x15.slot, x15.shard, x15.n, x15.phase⟩).2) ⟨x15.kind, x15.slot, x15.shard, x15.n, x15.phase⟩ (Ch.Inv.do_ hc ⟨x15.kind, x15.slot, x15.shard, x15.n, x15.phase⟩) H185) ?_
                  rintro _ w223 ⟨rfl, K224, H225⟩
                  refine ⟨_, _, rfl, rfl, ?_⟩
                  have H226 := H186.keep K224 (by intro h; change b21 = b1 at h; omega)
                  clear H186
                  have H227 := H187.keep K224 (by intro h; change b29 = b1 at h; omega)
                  clear H187
                  have H228 := H188.keep K224 (by intro h; change b77 = b1 at h; omega)
                  clear H188
                  have H229 := H189.keep K224 (by intro h; change b101 = b1 at h; omega)
                  clear H189
                  have K230 := K190.trans K224 (U := none_) (fun i h1 h2 => h2) (fun i h1 h2 => by have h2 : i = b1 := h2; exfalso; omega)
                  clear K190
                  clear K224
                  refine Ops.regs 3 [(0, (i64 s)), (1, (Value.slice A n cap)), (5, (Value.pointer (some ⟨b1, 0, none⟩))), (7, (i64 ((i : Nat) : Int))), (8, (Value.slice (some ⟨b21, 0, none⟩) 16 16)), (9, (Value.slice (some ⟨b29, 0, none⟩) 16 16)), (10, (i64 ((k : Nat) : Int))), (11, (Value.pointer (some ⟨b77, 0, none⟩))), (12, (Value.pointer (some ⟨b101, 0, none⟩))), (13, (i64 ((m : Nat) : Int))), (16, (i64 (((c.do_ ⟨x15.kind, x15.slot, x15.shard, x15.n, x15.phase⟩).2).phase))), (40, (Value.bool true)), (46, (Value.bool false)), (70, (Value.bool false)), (131, (Value.bool false)), (151, (Value.bool (((((c.do_ ⟨x15.kind, x15.slot, x15.shard, x15.n, x15.phase⟩).2).do_ ⟨x15.kind, x15.slot, x15.shard, x15.n, x15.phase⟩).1.why) != 5)))] (j := 20) (by kernel_rfl) (by kernel_rfl) ?_
                  refine Ops.done (by kernel_rfl) ?_
                  have h231 : (((((c.do_ ⟨x15.kind, x15.slot, x15.shard, x15.n, x15.phase⟩).2).do_ ⟨x15.kind, x15.slot, x15.shard, x15.n, x15.phase⟩).1.why) != 5) = false := by have q := do_twice (c := c) ⟨x15.kind, x15.slot, x15.shard, x15.n, x15.phase⟩ (by assumption) (by show 2 ≤ _; omega) (by show ¬ (_ = 3); omega); simp; omega
                  rw [h231]
                  refine q_else (o := .tmp 151) (by kernel_rfl) rfl ?_
                  refine q_skip (by kernel_rfl) ?_
                  refine q_region (by kernel_rfl) ?_
                  refine Ops.regs 2 [(0, (i64 s)), (1, (Value.slice A n cap)), (5, (Value.pointer (some ⟨b1, 0, none⟩))), (7, (i64 ((i : Nat) : Int))), (8, (Value.slice (some ⟨b21, 0, none⟩) 16 16)), (9, (Value.slice (some ⟨b29, 0, none⟩) 16 16)), (10, (i64 ((k : Nat) : Int))), (11, (Value.pointer (some ⟨b77, 0, none⟩))), (12, (Value.pointer (some ⟨b101, 0, none⟩))), (13, (i64 ((m : Nat) : Int))), (16, (i64 (((c.do_ ⟨x15.kind, x15.slot, x15.shard, x15.n, x15.phase⟩).2).phase))), (40, (Value.bool true)), (42, (i64 (IntKind.i64.wrap (((i : Nat) : Int) + 1)))), (46, (Value.bool false)), (70, (Value.bool false)), (131, (Value.bool false)), (151, (Value.bool false))] (j := 2) (by kernel_rfl) (by kernel_rfl) ?_
                  have e232 : IntKind.i64.wrap (((i : Nat) : Int) + 1) = ((i : Nat) : Int) + 1 := wrap_i64 (by omega) (by omega)
                  rw [e232]
                  refine Ops.regs 1 [(0, (i64 s)), (1, (Value.slice A n cap)), (5, (Value.pointer (some ⟨b1, 0, none⟩))), (7, (i64 (((i : Nat) : Int) + 1))), (8, (Value.slice (some ⟨b21, 0, none⟩) 16 16)), (9, (Value.slice (some ⟨b29, 0, none⟩) 16 16)), (10, (i64 ((k : Nat) : Int))), (11, (Value.pointer (some ⟨b77, 0, none⟩))), (12, (Value.pointer (some ⟨b101, 0, none⟩))), (13, (i64 ((m : Nat) : Int))), (16, (i64 (((c.do_ ⟨x15.kind, x15.slot, x15.shard, x15.n, x15.phase⟩).2).phase))), (40, (Value.bool true)), (46, (Value.bool false)), (70, (Value.bool false)), (131, (Value.bool false)), (151, (Value.bool false))] (j := 3) (by kernel_rfl) (by kernel_rfl) ?_
                  refine Ops.keep (R := [(0, (i64 s)), (1, (Value.slice A n cap)), (5, (Value.pointer (some ⟨b1, 0, none⟩))), (7, (i64 ((i + 1 : Nat) : Int)))]) (by kernel_rfl) ?_
                  refine Ops.done (by kernel_rfl) ?_
                  exact ⟨(i + 1, (((c.do_ ⟨x15.kind, x15.slot, x15.shard, x15.n, x15.phase⟩).2).do_ ⟨x15.kind, x15.slot, x15.shard, x15.n, x15.phase⟩).2), ⟨rfl, by omega, by omega, Ch.Inv.do_ (Ch.Inv.do_ hc ⟨x15.kind, x15.slot, x15.shard, x15.n, x15.phase⟩) ⟨x15.kind, x15.slot, x15.shard, x15.n, x15.phase⟩, by simp only [do_shards]; exact hsh, K230, H225⟩, (show 100 - (i + 1) < 100 - i from by omega)⟩
                · rw [h221]
                  have p233 : x15.kind = 3 := of_bne_f h221
                  refine Ops.regs 6 [(0, (i64 s)), (1, (Value.slice A n cap)), (5, (Value.pointer (some ⟨b1, 0, none⟩))), (7, (i64 ((i : Nat) : Int))), (8, (Value.slice (some ⟨b21, 0, none⟩) 16 16)), (9, (Value.slice (some ⟨b29, 0, none⟩) 16 16)), (10, (i64 ((k : Nat) : Int))), (11, (Value.pointer (some ⟨b77, 0, none⟩))), (12, (Value.pointer (some ⟨b101, 0, none⟩))), (13, (i64 ((m : Nat) : Int))), (16, (i64 (((c.do_ ⟨x15.kind, x15.slot, x15.shard, x15.n, x15.phase⟩).2).phase))), (40, (Value.bool true)), (46, (Value.bool false)), (70, (Value.bool false)), (131, (Value.bool false)), (151, (Value.bool false))] (j := 20) (by kernel_rfl) (by kernel_rfl) ?_
                  refine Ops.done (by kernel_rfl) ?_
                  refine q_else (o := .tmp 151) (by kernel_rfl) rfl ?_
                  refine q_skip (by kernel_rfl) ?_
                  refine q_region (by kernel_rfl) ?_
                  refine Ops.regs 2 [(0, (i64 s)), (1, (Value.slice A n cap)), (5, (Value.pointer (some ⟨b1, 0, none⟩))), (7, (i64 ((i : Nat) : Int))), (8, (Value.slice (some ⟨b21, 0, none⟩) 16 16)), (9, (Value.slice (some ⟨b29, 0, none⟩) 16 16)), (10, (i64 ((k : Nat) : Int))), (11, (Value.pointer (some ⟨b77, 0, none⟩))), (12, (Value.pointer (some ⟨b101, 0, none⟩))), (13, (i64 ((m : Nat) : Int))), (16, (i64 (((c.do_ ⟨x15.kind, x15.slot, x15.shard, x15.n, x15.phase⟩).2).phase))), (40, (Value.bool true)), (42, (i64 (IntKind.i64.wrap (((i : Nat) : Int) + 1)))), (46, (Value.bool false)), (70, (Value.bool false)), (131, (Value.bool false)), (151, (Value.bool false))] (j := 2) (by kernel_rfl) (by kernel_rfl) ?_
                  have e234 : IntKind.i64.wrap (((i : Nat) : Int) + 1) = ((i : Nat) : Int) + 1 := wrap_i64 (by omega) (by omega)
                  rw [e234]
                  refine Ops.regs 1 [(0, (i64 s)), (1, (Value.slice A n cap)), (5, (Value.pointer (some ⟨b1, 0, none⟩))), (7, (i64 (((i : Nat) : Int) + 1))), (8, (Value.slice (some ⟨b21, 0, none⟩) 16 16)), (9, (Value.slice (some ⟨b29, 0, none⟩) 16 16)), (10, (i64 ((k : Nat) : Int))), (11, (Value.pointer (some ⟨b77, 0, none⟩))), (12, (Value.pointer (some ⟨b101, 0, none⟩))), (13, (i64 ((m : Nat) : Int))), (16, (i64 (((c.do_ ⟨x15.kind, x15.slot, x15.shard, x15.n, x15.phase⟩).2).phase))), (40, (Value.bool true)), (46, (Value.bool false)), (70, (Value.bool false)), (131, (Value.bool false)), (151, (Value.bool false))] (j := 3) (by kernel_rfl) (by kernel_rfl) ?_
                  refine Ops.keep (R := [(0, (i64 s)), (1, (Value.slice A n cap)), (5, (Value.pointer (some ⟨b1, 0, none⟩))), (7, (i64 ((i + 1 : Nat) : Int)))]) (by kernel_rfl) ?_
                  refine Ops.done (by kernel_rfl) ?_
                  exact ⟨(i + 1, (c.do_ ⟨x15.kind, x15.slot, x15.shard, x15.n, x15.phase⟩).2), ⟨rfl, by omega, by omega, Ch.Inv.do_ hc ⟨x15.kind, x15.slot, x15.shard, x15.n, x15.phase⟩, by simp only [do_shards]; exact hsh, K190, H185⟩, (show 100 - (i + 1) < 100 - i from by omega)⟩
              · rw [h219]
                have p235 : ¬ (x15.kind ≥ 2) := of_decide_eq_false h219
                refine Ops.regs 11 [(0, (i64 s)), (1, (Value.slice A n cap)), (5, (Value.pointer (some ⟨b1, 0, none⟩))), (7, (i64 ((i : Nat) : Int))), (8, (Value.slice (some ⟨b21, 0, none⟩) 16 16)), (9, (Value.slice (some ⟨b29, 0, none⟩) 16 16)), (10, (i64 ((k : Nat) : Int))), (11, (Value.pointer (some ⟨b77, 0, none⟩))), (12, (Value.pointer (some ⟨b101, 0, none⟩))), (13, (i64 ((m : Nat) : Int))), (16, (i64 (((c.do_ ⟨x15.kind, x15.slot, x15.shard, x15.n, x15.phase⟩).2).phase))), (40, (Value.bool true)), (46, (Value.bool false)), (70, (Value.bool false)), (131, (Value.bool false)), (151, (Value.bool false))] (j := 20) (by kernel_rfl) (by kernel_rfl) ?_
                refine Ops.done (by kernel_rfl) ?_
                refine q_else (o := .tmp 151) (by kernel_rfl) rfl ?_
                refine q_skip (by kernel_rfl) ?_
                refine q_region (by kernel_rfl) ?_
                refine Ops.regs 2 [(0, (i64 s)), (1, (Value.slice A n cap)), (5, (Value.pointer (some ⟨b1, 0, none⟩))), (7, (i64 ((i : Nat) : Int))), (8, (Value.slice (some ⟨b21, 0, none⟩) 16 16)), (9, (Value.slice (some ⟨b29, 0, none⟩) 16 16)), (10, (i64 ((k : Nat) : Int))), (11, (Value.pointer (some ⟨b77, 0, none⟩))), (12, (Value.pointer (some ⟨b101, 0, none⟩))), (13, (i64 ((m : Nat) : Int))), (16, (i64 (((c.do_ ⟨x15.kind, x15.slot, x15.shard, x15.n, x15.phase⟩).2).phase))), (40, (Value.bool true)), (42, (i64 (IntKind.i64.wrap (((i : Nat) : Int) + 1)))), (46, (Value.bool false)), (70, (Value.bool false)), (131, (Value.bool false)), (151, (Value.bool false))] (j := 2) (by kernel_rfl) (by kernel_rfl) ?_
                have e236 : IntKind.i64.wrap (((i : Nat) : Int) + 1) = ((i : Nat) : Int) + 1 := wrap_i64 (by omega) (by omega)
                rw [e236]
                refine Ops.regs 1 [(0, (i64 s)), (1, (Value.slice A n cap)), (5, (Value.pointer (some ⟨b1, 0, none⟩))), (7, (i64 (((i : Nat) : Int) + 1))), (8, (Value.slice (some ⟨b21, 0, none⟩) 16 16)), (9, (Value.slice (some ⟨b29, 0, none⟩) 16 16)), (10, (i64 ((k : Nat) : Int))), (11, (Value.pointer (some ⟨b77, 0, none⟩))), (12, (Value.pointer (some ⟨b101, 0, none⟩))), (13, (i64 ((m : Nat) : Int))), (16, (i64 (((c.do_ ⟨x15.kind, x15.slot, x15.shard, x15.n, x15.phase⟩).2).phase))), (40, (Value.bool true)), (46, (Value.bool false)), (70, (Value.bool false)), (131, (Value.bool false)), (151, (Value.bool false))] (j := 3) (by kernel_rfl) (by kernel_rfl) ?_
                refine Ops.keep (R := [(0, (i64 s)), (1, (Value.slice A n cap)), (5, (Value.pointer (some ⟨b1, 0, none⟩))), (7, (i64 ((i + 1 : Nat) : Int)))]) (by kernel_rfl) ?_
                refine Ops.done (by kernel_rfl) ?_
                exact ⟨(i + 1, (c.do_ ⟨x15.kind, x15.slot, x15.shard, x15.n, x15.phase⟩).2), ⟨rfl, by omega, by omega, Ch.Inv.do_ hc ⟨x15.kind, x15.slot, x15.shard, x15.n, x15.phase⟩, by simp only [do_shards]; exact hsh, K190, H185⟩, (show 100 - (i + 1) < 100 - i from by omega)⟩
            · rw [h217]
              have p237 : ¬ ((c.do_ ⟨x15.kind, x15.slot, x15.shard, x15.n, x15.phase⟩).1.why = 0) := of_beq_f h217
              refine Ops.regs 16 [(0, (i64 s)), (1, (Value.slice A n cap)), (5, (Value.pointer (some ⟨b1, 0, none⟩))), (7, (i64 ((i : Nat) : Int))), (8, (Value.slice (some ⟨b21, 0, none⟩) 16 16)), (9, (Value.slice (some ⟨b29, 0, none⟩) 16 16)), (10, (i64 ((k : Nat) : Int))), (11, (Value.pointer (some ⟨b77, 0, none⟩))), (12, (Value.pointer (some ⟨b101, 0, none⟩))), (13, (i64 ((m : Nat) : Int))), (16, (i64 (((c.do_ ⟨x15.kind, x15.slot, x15.shard, x15.n, x15.phase⟩).2).phase))), (40, (Value.bool true)), (46, (Value.bool false)), (70, (Value.bool false)), (131, (Value.bool false)), (151, (Value.bool false))] (j := 20) (by kernel_rfl) (by kernel_rfl) ?_
              refine Ops.done (by kernel_rfl) ?_
              refine q_else (o := .tmp 151) (by kernel_rfl) rfl ?_
              refine q_skip (by kernel_rfl) ?_
              refine q_region (by kernel_rfl) ?_
              refine Ops.regs 2 [(0, (i64 s)), (1, (Value.slice A n cap)), (5, (Value.pointer (some ⟨b1, 0, none⟩))), (7, (i64 ((i : Nat) : Int))), (8, (Value.slice (some ⟨b21, 0, none⟩) 16 16)), (9, (Value.slice (some ⟨b29, 0, none⟩) 16 16)), (10, (i64 ((k : Nat) : Int))), (11, (Value.pointer (some ⟨b77, 0, none⟩))), (12, (Value.pointer (some ⟨b101, 0, none⟩))), (13, (i64 ((m : Nat) : Int))), (16, (i64 (((c.do_ ⟨x15.kind, x15.slot, x15.shard, x15.n, x15.phase⟩).2).phase))), (40, (Value.bool true)), (42, (i64 (IntKind.i64.wrap (((i : Nat) : Int) + 1)))), (46, (Value.bool false)), (70, (Value.bool false)), (131, (Value.bool false)), (151, (Value.bool false))] (j := 2) (by kernel_rfl) (by kernel_rfl) ?_
              have e238 : IntKind.i64.wrap (((i : Nat) : Int) + 1) = ((i : Nat) : Int) + 1 := wrap_i64 (by omega) (by omega)
              rw [e238]
              refine Ops.regs 1 [(0, (i64 s)), (1, (Value.slice A n cap)), (5, (Value.pointer (some ⟨b1, 0, none⟩))), (7, (i64 (((i : Nat) : Int) + 1))), (8, (Value.slice (some ⟨b21, 0, none⟩) 16 16)), (9, (Value.slice (some ⟨b29, 0, none⟩) 16 16)), (10, (i64 ((k : Nat) : Int))), (11, (Value.pointer (some ⟨b77, 0, none⟩))), (12, (Value.pointer (some ⟨b101, 0, none⟩))), (13, (i64 ((m : Nat) : Int))), (16, (i64 (((c.do_ ⟨x15.kind, x15.slot, x15.shard, x15.n, x15.phase⟩).2).phase))), (40, (Value.bool true)), (46, (Value.bool false)), (70, (Value.bool false)), (131, (Value.bool false)), (151, (Value.bool false))] (j := 3) (by kernel_rfl) (by kernel_rfl) ?_
              refine Ops.keep (R := [(0, (i64 s)), (1, (Value.slice A n cap)), (5, (Value.pointer (some ⟨b1, 0, none⟩))), (7, (i64 ((i + 1 : Nat) : Int)))]) (by kernel_rfl) ?_
              refine Ops.done (by kernel_rfl) ?_
              exact ⟨(i + 1, (c.do_ ⟨x15.kind, x15.slot, x15.shard, x15.n, x15.phase⟩).2), ⟨rfl, by omega, by omega, Ch.Inv.do_ hc ⟨x15.kind, x15.slot, x15.shard, x15.n, x15.phase⟩, by simp only [do_shards]; exact hsh, K190, H185⟩, (show 100 - (i + 1) < 100 - i from by omega)⟩
    · rw [h13]
      have p239 : ¬ (((i : Nat) : Int) < 100) := of_decide_eq_false h13
      refine q_exit (id := 0) (by kernel_rfl) ?_
      refine q_seq (by kernel_rfl) ?_
      refine q_region (by kernel_rfl) ?_
      refine Ops.call (by kernel_rfl) (d := (some 152)) (by kernel_rfl) (known_calls _) ?_
      rintro _ w240 ⟨rfl, K241⟩
      refine ⟨_, _, rfl, rfl, ?_⟩
      have H242 := H10.keep K241 (fun h => h)
      clear H10
      have K243 := K9.trans K241 (U := none_) (fun i h1 h2 => h2) (fun i h1 h2 => by exact h2)
      clear K9
      clear K241
      refine Ops.regs 1 [(4, (Value.bool true))] (j := 2) (by kernel_rfl) (by kernel_rfl) ?_
      refine Ops.done (by kernel_rfl) ?_
      refine q_ret (by kernel_rfl) ?_
      refine ⟨(Value.bool true), retv_tmp rfl rfl, ?_⟩
      exact ⟨rfl, K243⟩
  · rw [h11]
    have p244 : ¬ (((i : Nat) : Int) < ((n : Nat) : Int)) := of_decide_eq_false h11
    refine Ops.regs 3 [(0, (i64 s)), (1, (Value.slice A n cap)), (5, (Value.pointer (some ⟨b1, 0, none⟩))), (7, (i64 ((i : Nat) : Int))), (40, (Value.bool false))] (j := 8) (by kernel_rfl) (by kernel_rfl) ?_
    refine Ops.done (by kernel_rfl) ?_
    refine q_else (o := .tmp 40) (by kernel_rfl) rfl ?_
    refine q_exit (id := 0) (by kernel_rfl) ?_
    refine q_seq (by kernel_rfl) ?_
    refine q_region (by kernel_rfl) ?_
    refine Ops.call (by kernel_rfl) (d := (some 152)) (by kernel_rfl) (known_calls _) ?_
    rintro _ w245 ⟨rfl, K246⟩
    refine ⟨_, _, rfl, rfl, ?_⟩
    have H247 := H10.keep K246 (fun h => h)
    clear H10
    have K248 := K9.trans K246 (U := none_) (fun i h1 h2 => h2) (fun i h1 h2 => by exact h2)
    clear K9
    clear K246
    refine Ops.regs 1 [(4, (Value.bool true))] (j := 2) (by kernel_rfl) (by kernel_rfl) ?_
    refine Ops.done (by kernel_rfl) ?_
    refine q_ret (by kernel_rfl) ?_
    refine ⟨(Value.bool true), retv_tmp rfl rfl, ?_⟩
    exact ⟨rfl, K248⟩
end Go.Proofs.Ytoljbckhoigibaa
