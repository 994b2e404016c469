/- chart: alike -/
import Derived.Test.YtoljbckhoigibaaProg
import Derived.Test.YtoljbckhoigibaaJ
set_option linter.unusedVariables false
namespace Go.Proofs.Ytoljbckhoigibaa
open Go.Q Go.RowKit

theorem alike_calls (w : World) (b rb go co ge ce : Nat) (ro re : List Value) (c : Ch) (h : c.Inv) (H0 : Has w b (rowL (chL c) 118)) (H1 : Has w rb (rowL (rchL c go co ge ce) 54)) (H2 : Has w go (rowL (ints c.owner ++ ro) 3)) (H3 : Has w ge (rowL (ints c.epoch ++ re) 2)) (hd : go ≠ rb ∧ ge ≠ rb ∧ go ≠ ge) : Calls Try.prog 24 ⟨[(Value.pointer (some ⟨b, 0, none⟩)), (Value.pointer (some ⟨rb, 0, none⟩))]⟩ w (fun e w' => e = .returned (.bool true) ∧ Keeps none_ w w') := by
  have K0 : Keeps none_ w w := Keeps.refl w
  have hil := image_len c h
  refine q_calls Try.func24 (by kernel_rfl) (by kernel_rfl) ?_
  refine q_seq (by kernel_rfl) ?_
  refine q_region (by kernel_rfl) ?_
  refine Ops.regs 1 [(0, (Value.pointer (some ⟨b, 0, none⟩))), (1, (Value.pointer (some ⟨rb, 0, none⟩))), (4, (Value.bool false))] (j := 1) (by kernel_rfl) (by kernel_rfl) ?_
  refine Ops.done (by kernel_rfl) ?_
  refine q_seq (by kernel_rfl) ?_
  refine q_seq (by kernel_rfl) ?_
  refine q_region (by kernel_rfl) ?_
  refine Ops.regs 1 [(0, (Value.pointer (some ⟨b, 0, none⟩))), (1, (Value.pointer (some ⟨rb, 0, none⟩))), (4, (Value.bool false)), (5, (i64 (-1)))] (j := 1) (by kernel_rfl) (by kernel_rfl) ?_
  refine Ops.done (by kernel_rfl) ?_
  refine q_block (id := 0) (by kernel_rfl) ?_
  refine q_keep (R := [(0, (Value.pointer (some ⟨b, 0, none⟩))), (1, (Value.pointer (some ⟨rb, 0, none⟩))), (5, (i64 (-1)))]) (by kernel_rfl) ?_
  refine q_loop (fun (k : Nat) L (wx : World) => L = [(0, (Value.pointer (some ⟨b, 0, none⟩))), (1, (Value.pointer (some ⟨rb, 0, none⟩))), (5, (i64 (((k : Nat) : Int) - 1)))] ∧ k ≤ 18 ∧ Keeps none_ w wx ∧ Has wx b (rowL (chL c) 118) ∧ Has wx rb (rowL (rchL c go co ge ce) 54) ∧ Has wx go (rowL (ints c.owner ++ ro) 3) ∧ Has wx ge (rowL (ints c.epoch ++ re) 2)) (fun (k : Nat) => 18 - k) 0 (by kernel_rfl) ⟨rfl, by omega, K0, H0, H1, H2, H3⟩ ?_
  clear H0 H1 H2 H3 K0
  rintro k _ w1 ⟨rfl, hk, K2, H3, H4, H5, H6⟩
  refine q_seq (by kernel_rfl) ?_
  refine q_seq (by kernel_rfl) ?_
  refine q_region (by kernel_rfl) ?_
  refine Ops.regs 2 [(0, (Value.pointer (some ⟨b, 0, none⟩))), (1, (Value.pointer (some ⟨rb, 0, none⟩))), (5, (i64 (((k : Nat) : Int) - 1))), (13, (Value.bool (decide (((k : Nat) : Int) - 1 ≤ 16))))] (j := 2) (by kernel_rfl) (by kernel_rfl) ?_
  refine Ops.done (by kernel_rfl) ?_
  refine q_cond (o := .tmp 13) (b := (decide (((k : Nat) : Int) - 1 ≤ 16))) (by kernel_rfl) rfl (fun h7 => ?_) (fun h7 => ?_)
  · rw [h7]
    have p8 : ((k : Nat) : Int) - 1 ≤ 16 := of_decide_eq_true h7
    refine q_skip (by kernel_rfl) ?_
    refine q_seq (by kernel_rfl) ?_
    refine q_block (id := 1) (by kernel_rfl) ?_
    refine q_seq (by kernel_rfl) ?_
    refine q_region (by kernel_rfl) ?_
    refine Ops.regs 1 [(0, (Value.pointer (some ⟨b, 0, none⟩))), (1, (Value.pointer (some ⟨rb, 0, none⟩))), (5, (i64 (((k : Nat) : Int) - 1))), (6, (i64 0)), (13, (Value.bool true))] (j := 1) (by kernel_rfl) (by kernel_rfl) ?_
    refine Ops.done (by kernel_rfl) ?_
    refine q_seq (by kernel_rfl) ?_
    refine q_region (by kernel_rfl) ?_
    refine Ops.regs 1 [(0, (Value.pointer (some ⟨b, 0, none⟩))), (1, (Value.pointer (some ⟨rb, 0, none⟩))), (5, (i64 (((k : Nat) : Int) - 1))), (6, (i64 0)), (7, (i64 0)), (13, (Value.bool true))] (j := 1) (by kernel_rfl) (by kernel_rfl) ?_
    refine Ops.done (by kernel_rfl) ?_
    refine q_seq (by kernel_rfl) ?_
    refine q_seq (by kernel_rfl) ?_
    refine q_region (by kernel_rfl) ?_
    refine Ops.regs 3 [(0, (Value.pointer (some ⟨b, 0, none⟩))), (1, (Value.pointer (some ⟨rb, 0, none⟩))), (5, (i64 (((k : Nat) : Int) - 1))), (6, (i64 0)), (7, (i64 0)), (13, (Value.bool true)), (18, (Value.bool (decide (((k : Nat) : Int) - 1 ≥ 0))))] (j := 3) (by kernel_rfl) (by kernel_rfl) ?_
    refine Ops.split (decide (((k : Nat) : Int) - 1 ≥ 0)) (fun h9 => ?_) (fun h9 => ?_)
    · rw [h9]
      have p10 : ((k : Nat) : Int) - 1 ≥ 0 := of_decide_eq_true h9
      refine Ops.regs 3 [(0, (Value.pointer (some ⟨b, 0, none⟩))), (1, (Value.pointer (some ⟨rb, 0, none⟩))), (5, (i64 (((k : Nat) : Int) - 1))), (6, (i64 0)), (7, (i64 0)), (13, (Value.bool true)), (21, (Value.bool (decide (((k : Nat) : Int) - 1 < 16))))] (j := 6) (by kernel_rfl) (by kernel_rfl) ?_
      refine Ops.done (by kernel_rfl) ?_
      refine q_cond (o := .tmp 21) (b := (decide (((k : Nat) : Int) - 1 < 16))) (by kernel_rfl) rfl (fun h11 => ?_) (fun h11 => ?_)
      · rw [h11]
        have p12 : ((k : Nat) : Int) - 1 < 16 := of_decide_eq_true h11
        refine q_seq (by kernel_rfl) ?_
        refine q_region (by kernel_rfl) ?_
        refine Ops.regs 3 [(0, (Value.pointer (some ⟨b, 0, none⟩))), (1, (Value.pointer (some ⟨rb, 0, none⟩))), (5, (i64 (((k : Nat) : Int) - 1))), (6, (i64 0)), (7, (i64 0)), (13, (Value.bool true)), (21, (Value.bool true)), (24, (Value.pointer (some ⟨rb, 1, none⟩)))] (j := 3) (by kernel_rfl) (by kernel_rfl) ?_
        refine Ops.go (v := (Value.slice (some ⟨go, 0, none⟩) 16 co)) (by kernel_rfl) (Runs.load (t := 44) (a := ⟨rb, 1, none⟩) (by kernel_rfl) (H4.loads (by kernel_rfl))) (d := (some 25)) (by kernel_rfl) rfl ?_
        refine Ops.regs 1 [(0, (Value.pointer (some ⟨b, 0, none⟩))), (1, (Value.pointer (some ⟨rb, 0, none⟩))), (5, (i64 (((k : Nat) : Int) - 1))), (6, (i64 0)), (7, (i64 0)), (13, (Value.bool true)), (21, (Value.bool true)), (25, (Value.slice (some ⟨go, 0, none⟩) 16 co)), (26, (i64 (((k : Nat) : Int) - 1)))] (j := 5) (by kernel_rfl) (by kernel_rfl) ?_
        refine Ops.go (by kernel_rfl) (Runs.ixSlice (k := IntKind.i64) (t := 44) (b := go) (off := 0) (len := 16) (cap := co) (s := 1) (off' := (((k : Nat) : Int) - 1).toNat) (i := ((k : Nat) : Int) - 1) (by kernel_rfl) (by kernel_rfl) (by omega) (by omega) (by omega)) (d := (some 27)) (by kernel_rfl) rfl ?_
        refine Ops.go (v := (i64 (c.owner.getD ((((k : Nat) : Int) - 1).toNat) 0))) (by kernel_rfl) (Runs.load (t := 3) (a := ⟨go, (((k : Nat) : Int) - 1).toNat, none⟩) (by kernel_rfl) (H5.loads (loadC1 (by kernel_rfl) (intsR_at _ _ ((((k : Nat) : Int) - 1).toNat) (by rw [h.ok.o]; omega))))) (d := (some 28)) (by kernel_rfl) rfl ?_
        refine Ops.regs 1 [(0, (Value.pointer (some ⟨b, 0, none⟩))), (1, (Value.pointer (some ⟨rb, 0, none⟩))), (5, (i64 (((k : Nat) : Int) - 1))), (6, (i64 (c.owner.getD ((((k : Nat) : Int) - 1).toNat) 0))), (7, (i64 0)), (13, (Value.bool true)), (21, (Value.bool true))] (j := 8) (by kernel_rfl) (by kernel_rfl) ?_
        refine Ops.done (by kernel_rfl) ?_
        refine q_region (by kernel_rfl) ?_
        refine Ops.regs 3 [(0, (Value.pointer (some ⟨b, 0, none⟩))), (1, (Value.pointer (some ⟨rb, 0, none⟩))), (5, (i64 (((k : Nat) : Int) - 1))), (6, (i64 (c.owner.getD ((((k : Nat) : Int) - 1).toNat) 0))), (7, (i64 0)), (13, (Value.bool true)), (21, (Value.bool true)), (31, (Value.pointer (some ⟨rb, 2, none⟩)))] (j := 3) (by kernel_rfl) (by kernel_rfl) ?_
        refine Ops.go (v := (Value.slice (some ⟨ge, 0, none⟩) 16 ce)) (by kernel_rfl) (Runs.load (t := 45) (a := ⟨rb, 2, none⟩) (by kernel_rfl) (H4.loads (by kernel_rfl))) (d := (some 32)) (by kernel_rfl) rfl ?_
        refine Ops.regs 1 [(0, (Value.pointer (some ⟨b, 0, none⟩))), (1, (Value.pointer (some ⟨rb, 0, none⟩))), (5, (i64 (((k : Nat) : Int) - 1))), (6, (i64 (c.owner.getD ((((k : Nat) : Int) - 1).toNat) 0))), (7, (i64 0)), (13, (Value.bool true)), (21, (Value.bool true)), (32, (Value.slice (some ⟨ge, 0, none⟩) 16 ce)), (33, (i64 (((k : Nat) : Int) - 1)))] (j := 5) (by kernel_rfl) (by kernel_rfl) ?_
        refine Ops.go (by kernel_rfl) (Runs.ixSlice (k := IntKind.i64) (t := 45) (b := ge) (off := 0) (len := 16) (cap := ce) (s := 1) (off' := (((k : Nat) : Int) - 1).toNat) (i := ((k : Nat) : Int) - 1) (by kernel_rfl) (by kernel_rfl) (by omega) (by omega) (by omega)) (d := (some 34)) (by kernel_rfl) rfl ?_
        refine Ops.go (v := (i64 (c.epoch.getD ((((k : Nat) : Int) - 1).toNat) 0))) (by kernel_rfl) (Runs.load (t := 2) (a := ⟨ge, (((k : Nat) : Int) - 1).toNat, none⟩) (by kernel_rfl) (H6.loads (loadC1 (by kernel_rfl) (intsR_at _ _ ((((k : Nat) : Int) - 1).toNat) (by rw [h.ok.e]; omega))))) (d := (some 35)) (by kernel_rfl) rfl ?_
        refine Ops.regs 1 [(0, (Value.pointer (some ⟨b, 0, none⟩))), (1, (Value.pointer (some ⟨rb, 0, none⟩))), (5, (i64 (((k : Nat) : Int) - 1))), (6, (i64 (c.owner.getD ((((k : Nat) : Int) - 1).toNat) 0))), (7, (i64 (c.epoch.getD ((((k : Nat) : Int) - 1).toNat) 0))), (13, (Value.bool true)), (21, (Value.bool true))] (j := 8) (by kernel_rfl) (by kernel_rfl) ?_
        refine Ops.done (by kernel_rfl) ?_
        refine q_seq (by kernel_rfl) ?_
        refine q_region (by kernel_rfl) ?_
        refine Ops.regs 2 [(0, (Value.pointer (some ⟨b, 0, none⟩))), (1, (Value.pointer (some ⟨rb, 0, none⟩))), (5, (i64 (((k : Nat) : Int) - 1))), (6, (i64 (c.owner.getD ((((k : Nat) : Int) - 1).toNat) 0))), (7, (i64 (c.epoch.getD ((((k : Nat) : Int) - 1).toNat) 0))), (13, (Value.bool true)), (21, (Value.bool true)), (36, (Value.pointer (some ⟨b, 0, none⟩))), (37, (i64 (((k : Nat) : Int) - 1)))] (j := 2) (by kernel_rfl) (by kernel_rfl) ?_
        refine Ops.call (by kernel_rfl) (d := (some 38)) (by kernel_rfl) (Owner_calls _ b c (((k : Nat) : Int) - 1) h H3) ?_
        rintro _ w13 ⟨rfl, K14⟩
        refine ⟨_, _, rfl, rfl, ?_⟩
        have H15 := H3.keep K14 (fun h => h)
        clear H3
        have H16 := H4.keep K14 (fun h => h)
        clear H4
        have H17 := H5.keep K14 (fun h => h)
        clear H5
        have H18 := H6.keep K14 (fun h => h)
        clear H6
        have K19 := K2.trans K14 (U := none_) (fun i h1 h2 => h2) (fun i h1 h2 => by exact h2)
        clear K2
        clear K14
        refine Ops.regs 3 [(0, (Value.pointer (some ⟨b, 0, none⟩))), (1, (Value.pointer (some ⟨rb, 0, none⟩))), (5, (i64 (((k : Nat) : Int) - 1))), (6, (i64 (c.owner.getD ((((k : Nat) : Int) - 1).toNat) 0))), (7, (i64 (c.epoch.getD ((((k : Nat) : Int) - 1).toNat) 0))), (13, (Value.bool true)), (21, (Value.bool true)), (41, (Value.bool ((Ch.ownerAt c (((k : Nat) : Int) - 1)) != (c.owner.getD ((((k : Nat) : Int) - 1).toNat) 0))))] (j := 6) (by kernel_rfl) (by kernel_rfl) ?_
        have h20 : ((Ch.ownerAt c (((k : Nat) : Int) - 1)) != (c.owner.getD ((((k : Nat) : Int) - 1).toNat) 0)) = false := bne_f (ownerAt_in ⟨by omega, by omega⟩)
        rw [h20]
        refine Ops.regs 2 [(0, (Value.pointer (some ⟨b, 0, none⟩))), (1, (Value.pointer (some ⟨rb, 0, none⟩))), (5, (i64 (((k : Nat) : Int) - 1))), (6, (i64 (c.owner.getD ((((k : Nat) : Int) - 1).toNat) 0))), (7, (i64 (c.epoch.getD ((((k : Nat) : Int) - 1).toNat) 0))), (13, (Value.bool true)), (21, (Value.bool true)), (41, (Value.bool false)), (42, (Value.pointer (some ⟨b, 0, none⟩))), (43, (i64 (((k : Nat) : Int) - 1)))] (j := 8) (by kernel_rfl) (by kernel_rfl) ?_
        refine Ops.call (by kernel_rfl) (d := (some 44)) (by kernel_rfl) (Epoch_calls _ b c (((k : Nat) : Int) - 1) h H15) ?_
        rintro _ w21 ⟨rfl, K22⟩
        refine ⟨_, _, rfl, rfl, ?_⟩
        have H23 := H15.keep K22 (fun h => h)
        clear H15
        have H24 := H16.keep K22 (fun h => h)
        clear H16
        have H25 := H17.keep K22 (fun h => h)
        clear H17
        have H26 := H18.keep K22 (fun h => h)
        clear H18
        have K27 := K19.trans K22 (U := none_) (fun i h1 h2 => h2) (fun i h1 h2 => by exact h2)
        clear K19
        clear K22
        refine Ops.regs 3 [(0, (Value.pointer (some ⟨b, 0, none⟩))), (1, (Value.pointer (some ⟨rb, 0, none⟩))), (5, (i64 (((k : Nat) : Int) - 1))), (6, (i64 (c.owner.getD ((((k : Nat) : Int) - 1).toNat) 0))), (7, (i64 (c.epoch.getD ((((k : Nat) : Int) - 1).toNat) 0))), (13, (Value.bool true)), (21, (Value.bool true)), (47, (Value.bool ((Ch.epochAt c (((k : Nat) : Int) - 1)) != (c.epoch.getD ((((k : Nat) : Int) - 1).toNat) 0))))] (j := 12) (by kernel_rfl) (by kernel_rfl) ?_
        refine Ops.done (by kernel_rfl) ?_
        have h28 : ((Ch.epochAt c (((k : Nat) : Int) - 1)) != (c.epoch.getD ((((k : Nat) : Int) - 1).toNat) 0)) = false := bne_f (epochAt_in ⟨by omega, by omega⟩)
        rw [h28]
        refine q_else (o := .tmp 47) (by kernel_rfl) rfl ?_
        refine q_skip (by kernel_rfl) ?_
        refine q_region (by kernel_rfl) ?_
        refine Ops.regs 2 [(0, (Value.pointer (some ⟨b, 0, none⟩))), (1, (Value.pointer (some ⟨rb, 0, none⟩))), (5, (i64 (((k : Nat) : Int) - 1))), (6, (i64 (c.owner.getD ((((k : Nat) : Int) - 1).toNat) 0))), (7, (i64 (c.epoch.getD ((((k : Nat) : Int) - 1).toNat) 0))), (13, (Value.bool true)), (15, (i64 (IntKind.i64.wrap ((((k : Nat) : Int) - 1) + 1)))), (21, (Value.bool true)), (47, (Value.bool false))] (j := 2) (by kernel_rfl) (by kernel_rfl) ?_
        have e29 : IntKind.i64.wrap ((((k : Nat) : Int) - 1) + 1) = ((k + 1 : Nat) : Int) - 1 := by rw [wrap_i64 (by omega) (by omega)]; omega
        rw [e29]
        refine Ops.regs 1 [(0, (Value.pointer (some ⟨b, 0, none⟩))), (1, (Value.pointer (some ⟨rb, 0, none⟩))), (5, (i64 (((k + 1 : Nat) : Int) - 1))), (6, (i64 (c.owner.getD ((((k : Nat) : Int) - 1).toNat) 0))), (7, (i64 (c.epoch.getD ((((k : Nat) : Int) - 1).toNat) 0))), (13, (Value.bool true)), (21, (Value.bool true)), (47, (Value.bool false))] (j := 3) (by kernel_rfl) (by kernel_rfl) ?_
        refine Ops.keep (R := [(0, (Value.pointer (some ⟨b, 0, none⟩))), (1, (Value.pointer (some ⟨rb, 0, none⟩))), (5, (i64 (((k + 1 : Nat) : Int) - 1)))]) (by kernel_rfl) ?_
        refine Ops.done (by kernel_rfl) ?_
        exact ⟨k + 1, ⟨rfl, by omega, K27, H23, H24, H25, H26⟩, (show 18 - (k + 1) < 18 - k from by omega)⟩
      · rw [h11]
        have p30 : ¬ (((k : Nat) : Int) - 1 < 16) := of_decide_eq_false h11
        refine q_skip (by kernel_rfl) ?_
        refine q_seq (by kernel_rfl) ?_
        refine q_region (by kernel_rfl) ?_
        refine Ops.regs 2 [(0, (Value.pointer (some ⟨b, 0, none⟩))), (1, (Value.pointer (some ⟨rb, 0, none⟩))), (5, (i64 (((k : Nat) : Int) - 1))), (6, (i64 0)), (7, (i64 0)), (13, (Value.bool true)), (21, (Value.bool false)), (36, (Value.pointer (some ⟨b, 0, none⟩))), (37, (i64 (((k : Nat) : Int) - 1)))] (j := 2) (by kernel_rfl) (by kernel_rfl) ?_
        refine Ops.call (by kernel_rfl) (d := (some 38)) (by kernel_rfl) (Owner_calls _ b c (((k : Nat) : Int) - 1) h H3) ?_
        rintro _ w31 ⟨rfl, K32⟩
        refine ⟨_, _, rfl, rfl, ?_⟩
        have H33 := H3.keep K32 (fun h => h)
        clear H3
        have H34 := H4.keep K32 (fun h => h)
        clear H4
        have H35 := H5.keep K32 (fun h => h)
        clear H5
        have H36 := H6.keep K32 (fun h => h)
        clear H6
        have K37 := K2.trans K32 (U := none_) (fun i h1 h2 => h2) (fun i h1 h2 => by exact h2)
        clear K2
        clear K32
        refine Ops.regs 3 [(0, (Value.pointer (some ⟨b, 0, none⟩))), (1, (Value.pointer (some ⟨rb, 0, none⟩))), (5, (i64 (((k : Nat) : Int) - 1))), (6, (i64 0)), (7, (i64 0)), (13, (Value.bool true)), (21, (Value.bool false)), (41, (Value.bool ((Ch.ownerAt c (((k : Nat) : Int) - 1)) != 0)))] (j := 6) (by kernel_rfl) (by kernel_rfl) ?_
        have h38 : ((Ch.ownerAt c (((k : Nat) : Int) - 1)) != 0) = false := bne_f (ownerAt_out (by omega))
        rw [h38]
        refine Ops.regs 2 [(0, (Value.pointer (some ⟨b, 0, none⟩))), (1, (Value.pointer (some ⟨rb, 0, none⟩))), (5, (i64 (((k : Nat) : Int) - 1))), (6, (i64 0)), (7, (i64 0)), (13, (Value.bool true)), (21, (Value.bool false)), (41, (Value.bool false)), (42, (Value.pointer (some ⟨b, 0, none⟩))), (43, (i64 (((k : Nat) : Int) - 1)))] (j := 8) (by kernel_rfl) (by kernel_rfl) ?_
        refine Ops.call (by kernel_rfl) (d := (some 44)) (by kernel_rfl) (Epoch_calls _ b c (((k : Nat) : Int) - 1) h H33) ?_
        rintro _ w39 ⟨rfl, K40⟩
        refine ⟨_, _, rfl, rfl, ?_⟩
        have H41 := H33.keep K40 (fun h => h)
        clear H33
        have H42 := H34.keep K40 (fun h => h)
        clear H34
        have H43 := H35.keep K40 (fun h => h)
        clear H35
        have H44 := H36.keep K40 (fun h => h)
        clear H36
        have K45 := K37.trans K40 (U := none_) (fun i h1 h2 => h2) (fun i h1 h2 => by exact h2)
        clear K37
        clear K40
        refine Ops.regs 3 [(0, (Value.pointer (some ⟨b, 0, none⟩))), (1, (Value.pointer (some ⟨rb, 0, none⟩))), (5, (i64 (((k : Nat) : Int) - 1))), (6, (i64 0)), (7, (i64 0)), (13, (Value.bool true)), (21, (Value.bool false)), (47, (Value.bool ((Ch.epochAt c (((k : Nat) : Int) - 1)) != 0)))] (j := 12) (by kernel_rfl) (by kernel_rfl) ?_
        refine Ops.done (by kernel_rfl) ?_
        have h46 : ((Ch.epochAt c (((k : Nat) : Int) - 1)) != 0) = false := bne_f (epochAt_out (by omega))
        rw [h46]
        refine q_else (o := .tmp 47) (by kernel_rfl) rfl ?_
        refine q_skip (by kernel_rfl) ?_
        refine q_region (by kernel_rfl) ?_
        refine Ops.regs 2 [(0, (Value.pointer (some ⟨b, 0, none⟩))), (1, (Value.pointer (some ⟨rb, 0, none⟩))), (5, (i64 (((k : Nat) : Int) - 1))), (6, (i64 0)), (7, (i64 0)), (13, (Value.bool true)), (15, (i64 (IntKind.i64.wrap ((((k : Nat) : Int) - 1) + 1)))), (21, (Value.bool false)), (47, (Value.bool false))] (j := 2) (by kernel_rfl) (by kernel_rfl) ?_
        have e47 : IntKind.i64.wrap ((((k : Nat) : Int) - 1) + 1) = ((k + 1 : Nat) : Int) - 1 := by rw [wrap_i64 (by omega) (by omega)]; omega
        rw [e47]
        refine Ops.regs 1 [(0, (Value.pointer (some ⟨b, 0, none⟩))), (1, (Value.pointer (some ⟨rb, 0, none⟩))), (5, (i64 (((k + 1 : Nat) : Int) - 1))), (6, (i64 0)), (7, (i64 0)), (13, (Value.bool true)), (21, (Value.bool false)), (47, (Value.bool false))] (j := 3) (by kernel_rfl) (by kernel_rfl) ?_
        refine Ops.keep (R := [(0, (Value.pointer (some ⟨b, 0, none⟩))), (1, (Value.pointer (some ⟨rb, 0, none⟩))), (5, (i64 (((k + 1 : Nat) : Int) - 1)))]) (by kernel_rfl) ?_
        refine Ops.done (by kernel_rfl) ?_
        exact ⟨k + 1, ⟨rfl, by omega, K45, H41, H42, H43, H44⟩, (show 18 - (k + 1) < 18 - k from by omega)⟩
    · rw [h9]
      have p48 : ¬ (((k : Nat) : Int) - 1 ≥ 0) := of_decide_eq_false h9
      refine Ops.regs 3 [(0, (Value.pointer (some ⟨b, 0, none⟩))), (1, (Value.pointer (some ⟨rb, 0, none⟩))), (5, (i64 (((k : Nat) : Int) - 1))), (6, (i64 0)), (7, (i64 0)), (13, (Value.bool true)), (21, (Value.bool false))] (j := 6) (by kernel_rfl) (by kernel_rfl) ?_
      refine Ops.done (by kernel_rfl) ?_
      refine q_else (o := .tmp 21) (by kernel_rfl) rfl ?_
      refine q_skip (by kernel_rfl) ?_
      refine q_seq (by kernel_rfl) ?_
      refine q_region (by kernel_rfl) ?_
      refine Ops.regs 2 [(0, (Value.pointer (some ⟨b, 0, none⟩))), (1, (Value.pointer (some ⟨rb, 0, none⟩))), (5, (i64 (((k : Nat) : Int) - 1))), (6, (i64 0)), (7, (i64 0)), (13, (Value.bool true)), (21, (Value.bool false)), (36, (Value.pointer (some ⟨b, 0, none⟩))), (37, (i64 (((k : Nat) : Int) - 1)))] (j := 2) (by kernel_rfl) (by kernel_rfl) ?_
      refine Ops.call (by kernel_rfl) (d := (some 38)) (by kernel_rfl) (Owner_calls _ b c (((k : Nat) : Int) - 1) h H3) ?_
      rintro _ w49 ⟨rfl, K50⟩
      refine ⟨_, _, rfl, rfl, ?_⟩
      have H51 := H3.keep K50 (fun h => h)
      clear H3
      have H52 := H4.keep K50 (fun h => h)
      clear H4
      have H53 := H5.keep K50 (fun h => h)
      clear H5
      have H54 := H6.keep K50 (fun h => h)
      clear H6
      have K55 := K2.trans K50 (U := none_) (fun i h1 h2 => h2) (fun i h1 h2 => by exact h2)
      clear K2
      clear K50
      refine Ops.regs 3 [(0, (Value.pointer (some ⟨b, 0, none⟩))), (1, (Value.pointer (some ⟨rb, 0, none⟩))), (5, (i64 (((k : Nat) : Int) - 1))), (6, (i64 0)), (7, (i64 0)), (13, (Value.bool true)), (21, (Value.bool false)), (41, (Value.bool ((Ch.ownerAt c (((k : Nat) : Int) - 1)) != 0)))] (j := 6) (by kernel_rfl) (by kernel_rfl) ?_
      have h56 : ((Ch.ownerAt c (((k : Nat) : Int) - 1)) != 0) = false := bne_f (ownerAt_out (by omega))
      rw [h56]
      refine Ops.regs 2 [(0, (Value.pointer (some ⟨b, 0, none⟩))), (1, (Value.pointer (some ⟨rb, 0, none⟩))), (5, (i64 (((k : Nat) : Int) - 1))), (6, (i64 0)), (7, (i64 0)), (13, (Value.bool true)), (21, (Value.bool false)), (41, (Value.bool false)), (42, (Value.pointer (some ⟨b, 0, none⟩))), (43, (i64 (((k : Nat) : Int) - 1)))] (j := 8) (by kernel_rfl) (by kernel_rfl) ?_
      refine Ops.call (by kernel_rfl) (d := (some 44)) (by kernel_rfl) (Epoch_calls _ b c (((k : Nat) : Int) - 1) h H51) ?_
      rintro _ w57 ⟨rfl, K58⟩
      refine ⟨_, _, rfl, rfl, ?_⟩
      have H59 := H51.keep K58 (fun h => h)
      clear H51
      have H60 := H52.keep K58 (fun h => h)
      clear H52
      have H61 := H53.keep K58 (fun h => h)
      clear H53
      have H62 := H54.keep K58 (fun h => h)
      clear H54
      have K63 := K55.trans K58 (U := none_) (fun i h1 h2 => h2) (fun i h1 h2 => by exact h2)
      clear K55
      clear K58
      refine Ops.regs 3 [(0, (Value.pointer (some ⟨b, 0, none⟩))), (1, (Value.pointer (some ⟨rb, 0, none⟩))), (5, (i64 (((k : Nat) : Int) - 1))), (6, (i64 0)), (7, (i64 0)), (13, (Value.bool true)), (21, (Value.bool false)), (47, (Value.bool ((Ch.epochAt c (((k : Nat) : Int) - 1)) != 0)))] (j := 12) (by kernel_rfl) (by kernel_rfl) ?_
      refine Ops.done (by kernel_rfl) ?_
      have h64 : ((Ch.epochAt c (((k : Nat) : Int) - 1)) != 0) = false := bne_f (epochAt_out (by omega))
      rw [h64]
      refine q_else (o := .tmp 47) (by kernel_rfl) rfl ?_
      refine q_skip (by kernel_rfl) ?_
      refine q_region (by kernel_rfl) ?_
      refine Ops.regs 2 [(0, (Value.pointer (some ⟨b, 0, none⟩))), (1, (Value.pointer (some ⟨rb, 0, none⟩))), (5, (i64 (((k : Nat) : Int) - 1))), (6, (i64 0)), (7, (i64 0)), (13, (Value.bool true)), (15, (i64 (IntKind.i64.wrap ((((k : Nat) : Int) - 1) + 1)))), (21, (Value.bool false)), (47, (Value.bool false))] (j := 2) (by kernel_rfl) (by kernel_rfl) ?_
      have e65 : IntKind.i64.wrap ((((k : Nat) : Int) - 1) + 1) = ((k + 1 : Nat) : Int) - 1 := by rw [wrap_i64 (by omega) (by omega)]; omega
      rw [e65]
      refine Ops.regs 1 [(0, (Value.pointer (some ⟨b, 0, none⟩))), (1, (Value.pointer (some ⟨rb, 0, none⟩))), (5, (i64 (((k + 1 : Nat) : Int) - 1))), (6, (i64 0)), (7, (i64 0)), (13, (Value.bool true)), (21, (Value.bool false)), (47, (Value.bool false))] (j := 3) (by kernel_rfl) (by kernel_rfl) ?_
      refine Ops.keep (R := [(0, (Value.pointer (some ⟨b, 0, none⟩))), (1, (Value.pointer (some ⟨rb, 0, none⟩))), (5, (i64 (((k + 1 : Nat) : Int) - 1)))]) (by kernel_rfl) ?_
      refine Ops.done (by kernel_rfl) ?_
      exact ⟨k + 1, ⟨rfl, by omega, K63, H59, H60, H61, H62⟩, (show 18 - (k + 1) < 18 - k from by omega)⟩
  · rw [h7]
    have p66 : ¬ (((k : Nat) : Int) - 1 ≤ 16) := of_decide_eq_false h7
    refine q_exit (id := 0) (by kernel_rfl) ?_
    refine q_seq (by kernel_rfl) ?_
    refine q_region (by kernel_rfl) ?_
    refine Ops.regs 1 [(0, (Value.pointer (some ⟨b, 0, none⟩))), (1, (Value.pointer (some ⟨rb, 0, none⟩))), (49, (Value.pointer (some ⟨b, 0, none⟩)))] (j := 1) (by kernel_rfl) (by kernel_rfl) ?_
    refine Ops.call (by kernel_rfl) (d := (some 50)) (by kernel_rfl) (Audit_calls _ b c  h H3) ?_
    rintro _ w67 ⟨rfl, K68⟩
    refine ⟨_, _, rfl, rfl, ?_⟩
    have H69 := H3.keep K68 (fun h => h)
    clear H3
    have H70 := H4.keep K68 (fun h => h)
    clear H4
    have H71 := H5.keep K68 (fun h => h)
    clear H5
    have H72 := H6.keep K68 (fun h => h)
    clear H6
    have K73 := K2.trans K68 (U := none_) (fun i h1 h2 => h2) (fun i h1 h2 => by exact h2)
    clear K2
    clear K68
    refine Ops.regs 5 [(0, (Value.pointer (some ⟨b, 0, none⟩))), (1, (Value.pointer (some ⟨rb, 0, none⟩))), (8, (i64 c.audit)), (9, (i64 c.phase))] (j := 7) (by kernel_rfl) (by kernel_rfl) ?_
    refine Ops.done (by kernel_rfl) ?_
    refine q_seq (by kernel_rfl) ?_
    refine q_region (by kernel_rfl) ?_
    refine Ops.regs 1 [(0, (Value.pointer (some ⟨b, 0, none⟩))), (1, (Value.pointer (some ⟨rb, 0, none⟩))), (8, (i64 c.audit)), (9, (i64 c.phase)), (53, (Value.pointer (some ⟨b, 0, none⟩)))] (j := 1) (by kernel_rfl) (by kernel_rfl) ?_
    refine Ops.call (by kernel_rfl) (d := (some 54)) (by kernel_rfl) (Image_calls _ b c h H69) ?_
    rintro _ w75 ⟨v74, rfl, K76, hO77⟩
    have O78 := own_base hO77 K73.size
    clear hO77
    refine ⟨_, _, rfl, rfl, ?_⟩
    have H79 := H69.keep K76 (fun h => h)
    clear H69
    have H80 := H70.keep K76 (fun h => h)
    clear H70
    have H81 := H71.keep K76 (fun h => h)
    clear H71
    have H82 := H72.keep K76 (fun h => h)
    clear H72
    have K83 := K73.trans K76 (U := none_) (fun i h1 h2 => h2) (fun i h1 h2 => by exact h2)
    clear K73
    clear K76
    refine Ops.regs 1 [(0, (Value.pointer (some ⟨b, 0, none⟩))), (1, (Value.pointer (some ⟨rb, 0, none⟩))), (8, (i64 c.audit)), (9, (i64 c.phase)), (10, v74)] (j := 3) (by kernel_rfl) (by kernel_rfl) ?_
    refine Ops.done (by kernel_rfl) ?_
    refine q_seq (by kernel_rfl) ?_
    refine q_draw (fun wz => Keeps none_ w75 wz) 42 (by kernel_rfl) (by kernel_rfl) (by kernel_rfl) (fun w84 K85 _ _ => ⟨K85, ?_⟩)
    have H86 := H79.keep K85 (fun h => h)
    clear H79
    have H87 := H80.keep K85 (fun h => h)
    clear H80
    have H88 := H81.keep K85 (fun h => h)
    clear H81
    have H89 := H82.keep K85 (fun h => h)
    clear H82
    have F90 := own_keep0 O78 K85
    clear O78
    have K91 := K83.trans K85 (U := none_) (fun i h1 h2 => h2) (fun i h1 h2 => by exact h2)
    clear K83
    refine Dr.strong (S' := (fun wz => Keeps none_ w84 wz)) (Keeps.refl w84) (fun wz hx => K85.trans hx (fun _ _ h => h) (fun _ _ h => h)) ?_
    clear K85
    refine Dr.takes (fuel' := 38) (is' := [5, 4, 3, 0]) [0, 3, 4, 5] [(0, (Value.pointer (some ⟨b, 0, none⟩))), (1, (Value.pointer (some ⟨rb, 0, none⟩))), (8, (i64 c.audit)), (9, (i64 c.phase)), (10, v74), (55, (Value.pointer (some ⟨b, 0, none⟩))), (60, (Value.pointer (some ⟨rb, 4, none⟩)))] (by kernel_rfl) rfl (by kernel_rfl) ?_
    refine Dr.take (i := 6) (v := (agg [(i64 c.ms), (i64 c.mf), (i64 c.mt), (i64 c.me), (i64 c.mp), (i64 c.mn)])) (by kernel_rfl) (by kernel_rfl) (fun wz hS => Runs.load (t := 52) (a := ⟨rb, 4, none⟩) (by kernel_rfl) ((H87.keep hS (fun h => h)).loads (by kernel_rfl))) (d := (some 61)) (by kernel_rfl) rfl ?_
    refine Dr.call (i := 1) (by kernel_rfl) (by kernel_rfl) (d := (some 56)) (by kernel_rfl) (fun _ => Move_calls _ b c  h H86) ?_
    rintro _ w92 ⟨rfl, K93⟩
    have H94 := H86.keep K93 (fun h => h)
    clear H86
    have H95 := H87.keep K93 (fun h => h)
    clear H87
    have H96 := H88.keep K93 (fun h => h)
    clear H88
    have H97 := H89.keep K93 (fun h => h)
    clear H89
    have F98 := own_keep0 F90 K93
    clear F90
    have K99 := K91.trans K93 (U := none_) (fun i h1 h2 => h2) (fun i h1 h2 => by exact h2)
    clear K91
    refine ⟨_, _, rfl, rfl, K93, ?_⟩
    refine Dr.strong (S' := (fun wz => Keeps none_ w92 wz)) (Keeps.refl w92) (fun wz hx => K93.trans hx (fun _ _ h => h) (fun _ _ h => h)) ?_
    clear K93
    refine Dr.call (i := 2) (by kernel_rfl) (by kernel_rfl) (d := (some 57)) (by kernel_rfl) (fun _ => moving_calls _ c.ms c.mf c.mt c.me c.mp c.mn) ?_
    rintro _ w100 ⟨rfl, K101⟩
    have H102 := H94.keep K101 (fun h => h)
    clear H94
    have H103 := H95.keep K101 (fun h => h)
    clear H95
    have H104 := H96.keep K101 (fun h => h)
    clear H96
    have H105 := H97.keep K101 (fun h => h)
    clear H97
    have F106 := own_keep0 F98 K101
    clear F98
    have K107 := K99.trans K101 (U := none_) (fun i h1 h2 => h2) (fun i h1 h2 => by exact h2)
    clear K99
    refine ⟨_, _, rfl, rfl, K101, ?_⟩
    refine Dr.strong (S' := (fun wz => Keeps none_ w100 wz)) (Keeps.refl w100) (fun wz hx => K101.trans hx (fun _ _ h => h) (fun _ _ h => h)) ?_
    clear K101
    refine Dr.take (i := 7) (v := (Value.bool (aggB [(i64 c.ms), (i64 c.mf), (i64 c.mt), (i64 c.me), (i64 c.mp), (i64 c.mn)] [(i64 c.ms), (i64 c.mf), (i64 c.mt), (i64 c.me), (i64 c.mp), (i64 c.mn)]))) (by kernel_rfl) (by kernel_rfl) (fun wz hS => Runs.aggeq (t := 52) (by kernel_rfl) (by kernel_rfl)) (d := (some 62)) (by kernel_rfl) rfl ?_
    refine Dr.takes (fuel' := 33) (is' := [8, 7, 2, 1, 6, 5, 4, 3, 0]) [8] [(0, (Value.pointer (some ⟨b, 0, none⟩))), (1, (Value.pointer (some ⟨rb, 0, none⟩))), (8, (i64 c.audit)), (9, (i64 c.phase)), (10, v74), (63, (Value.bool (aggB [(i64 c.ms), (i64 c.mf), (i64 c.mt), (i64 c.me), (i64 c.mp), (i64 c.mn)] [(i64 c.ms), (i64 c.mf), (i64 c.mt), (i64 c.me), (i64 c.mp), (i64 c.mn)])))] (by kernel_rfl) rfl (by kernel_rfl) ?_
    have h108 : (aggB [(i64 c.ms), (i64 c.mf), (i64 c.mt), (i64 c.me), (i64 c.mp), (i64 c.mn)] [(i64 c.ms), (i64 c.mf), (i64 c.mt), (i64 c.me), (i64 c.mp), (i64 c.mn)]) = true := by simp [aggB, cellB]
    rw [h108]
    refine Dr.takes (fuel' := 29) (is' := [12, 11, 10, 9, 8, 7, 2, 1, 6, 5, 4, 3, 0]) [9, 10, 11, 12] [(0, (Value.pointer (some ⟨b, 0, none⟩))), (1, (Value.pointer (some ⟨rb, 0, none⟩))), (9, (i64 c.phase)), (10, v74), (63, (Value.bool true)), (64, (i64 c.audit)), (67, (Value.pointer (some ⟨rb, 10, none⟩)))] (by kernel_rfl) rfl (by kernel_rfl) ?_
    refine Dr.take (i := 13) (v := (i64 c.audit)) (by kernel_rfl) (by kernel_rfl) (fun wz hS => Runs.load (t := 2) (a := ⟨rb, 10, none⟩) (by kernel_rfl) ((H103.keep hS (fun h => h)).loads (by kernel_rfl))) (d := (some 68)) (by kernel_rfl) rfl ?_
    refine Dr.takes (fuel' := 25) (is' := [16, 15, 14, 13, 12, 11, 10, 9, 8, 7, 2, 1, 6, 5, 4, 3, 0]) [14, 15, 16] [(0, (Value.pointer (some ⟨b, 0, none⟩))), (1, (Value.pointer (some ⟨rb, 0, none⟩))), (9, (i64 c.phase)), (10, v74), (71, (Value.bool (c.audit == c.audit)))] (by kernel_rfl) rfl (by kernel_rfl) ?_
    have h109 : (c.audit == c.audit) = true := by simp
    rw [h109]
    refine Dr.takes (fuel' := 21) (is' := [20, 19, 18, 17, 16, 15, 14, 13, 12, 11, 10, 9, 8, 7, 2, 1, 6, 5, 4, 3, 0]) [17, 18, 19, 20] [(0, (Value.pointer (some ⟨b, 0, none⟩))), (1, (Value.pointer (some ⟨rb, 0, none⟩))), (10, v74), (71, (Value.bool true)), (72, (i64 c.phase)), (75, (Value.pointer (some ⟨rb, 11, none⟩)))] (by kernel_rfl) rfl (by kernel_rfl) ?_
    refine Dr.take (i := 21) (v := (i64 c.phase)) (by kernel_rfl) (by kernel_rfl) (fun wz hS => Runs.load (t := 3) (a := ⟨rb, 11, none⟩) (by kernel_rfl) ((H103.keep hS (fun h => h)).loads (by kernel_rfl))) (d := (some 76)) (by kernel_rfl) rfl ?_
    refine Dr.takes (fuel' := 17) (is' := [24, 23, 22, 21, 20, 19, 18, 17, 16, 15, 14, 13, 12, 11, 10, 9, 8, 7, 2, 1, 6, 5, 4, 3, 0]) [22, 23, 24] [(0, (Value.pointer (some ⟨b, 0, none⟩))), (1, (Value.pointer (some ⟨rb, 0, none⟩))), (10, v74), (79, (Value.bool (c.phase == c.phase)))] (by kernel_rfl) rfl (by kernel_rfl) ?_
    have h110 : (c.phase == c.phase) = true := by simp
    rw [h110]
    refine Dr.takes (fuel' := 13) (is' := [29, 28, 27, 25, 24, 23, 22, 21, 20, 19, 18, 17, 16, 15, 14, 13, 12, 11, 10, 9, 8, 7, 2, 1, 6, 5, 4, 3, 0]) [25, 27, 28, 29] [(1, (Value.pointer (some ⟨rb, 0, none⟩))), (10, v74), (79, (Value.bool true)), (80, (Value.pointer (some ⟨b, 0, none⟩))), (84, (Value.pointer (some ⟨rb, 0, none⟩)))] (by kernel_rfl) rfl (by kernel_rfl) ?_
    refine Dr.take (i := 30) (v := (i64 c.shards)) (by kernel_rfl) (by kernel_rfl) (fun wz hS => Runs.load (t := 3) (a := ⟨rb, 0, none⟩) (by kernel_rfl) ((H103.keep hS (fun h => h)).loads (by kernel_rfl))) (d := (some 85)) (by kernel_rfl) rfl ?_
    refine Dr.call (i := 26) (by kernel_rfl) (by kernel_rfl) (d := (some 81)) (by kernel_rfl) (fun _ => Shards_calls _ b c  h H102) ?_
    rintro _ w111 ⟨rfl, K112⟩
    have H113 := H102.keep K112 (fun h => h)
    clear H102
    have H114 := H103.keep K112 (fun h => h)
    clear H103
    have H115 := H104.keep K112 (fun h => h)
    clear H104
    have H116 := H105.keep K112 (fun h => h)
    clear H105
    have F117 := own_keep0 F106 K112
    clear F106
    have K118 := K107.trans K112 (U := none_) (fun i h1 h2 => h2) (fun i h1 h2 => by exact h2)
    clear K107
    refine ⟨_, _, rfl, rfl, K112, ?_⟩
    refine Dr.strong (S' := (fun wz => Keeps none_ w111 wz)) (Keeps.refl w111) (fun wz hx => K112.trans hx (fun _ _ h => h) (fun _ _ h => h)) ?_
    clear K112
    refine Dr.takes (fuel' := 8) (is' := [33, 32, 31, 26, 30, 29, 28, 27, 25, 24, 23, 22, 21, 20, 19, 18, 17, 16, 15, 14, 13, 12, 11, 10, 9, 8, 7, 2, 1, 6, 5, 4, 3, 0]) [31, 32, 33] [(1, (Value.pointer (some ⟨rb, 0, none⟩))), (10, v74), (88, (Value.bool (c.shards == c.shards)))] (by kernel_rfl) rfl (by kernel_rfl) ?_
    have h119 : (c.shards == c.shards) = true := by simp
    rw [h119]
    refine Dr.takes (fuel' := 7) (is' := [34, 33, 32, 31, 26, 30, 29, 28, 27, 25, 24, 23, 22, 21, 20, 19, 18, 17, 16, 15, 14, 13, 12, 11, 10, 9, 8, 7, 2, 1, 6, 5, 4, 3, 0]) [34] [(1, (Value.pointer (some ⟨rb, 0, none⟩))), (10, v74), (88, (Value.bool true)), (89, v74)] (by kernel_rfl) rfl (by kernel_rfl) ?_
    refine Dr.take (i := 35) (v := (Value.string (str c.image))) (by kernel_rfl) (by kernel_rfl) (fun wz hS => Runs.b2s (s := 59) (d := 9) (e := 5) (by kernel_rfl) (by kernel_rfl) (by kernel_rfl) (Rd.keep0 (by omega) (OwnB.rd F117) hS)) (d := (some 90)) (by kernel_rfl) rfl ?_
    refine Dr.takes (fuel' := 5) (is' := [36, 35, 34, 33, 32, 31, 26, 30, 29, 28, 27, 25, 24, 23, 22, 21, 20, 19, 18, 17, 16, 15, 14, 13, 12, 11, 10, 9, 8, 7, 2, 1, 6, 5, 4, 3, 0]) [36] [(10, v74), (88, (Value.bool true)), (90, (Value.string (str c.image))), (91, (Value.pointer (some ⟨rb, 0, none⟩)))] (by kernel_rfl) rfl (by kernel_rfl) ?_
    refine Dr.call (i := 37) (by kernel_rfl) (by kernel_rfl) (d := (some 92)) (by kernel_rfl) (fun _ => RImage_calls _ rb go co ge ce ro re c h H114 H115 H116 hd) ?_
    rintro _ w121 ⟨v120, rfl, K122, hO123⟩
    have O124 := own_base hO123 K118.size
    clear hO123
    have H125 := H113.keep K122 (fun h => h)
    clear H113
    have H126 := H114.keep K122 (fun h => h)
    clear H114
    have H127 := H115.keep K122 (fun h => h)
    clear H115
    have H128 := H116.keep K122 (fun h => h)
    clear H116
    have F129 := own_keep0 F117 K122
    clear F117
    have K130 := K118.trans K122 (U := none_) (fun i h1 h2 => h2) (fun i h1 h2 => by exact h2)
    clear K118
    refine ⟨_, _, rfl, rfl, K122, ?_⟩
    refine Dr.strong (S' := (fun wz => Keeps none_ w121 wz)) (Keeps.refl w121) (fun wz hx => K122.trans hx (fun _ _ h => h) (fun _ _ h => h)) ?_
    clear K122
    refine Dr.take (i := 38) (v := (Value.string (str c.image))) (by kernel_rfl) (by kernel_rfl) (fun wz hS => Runs.b2s (s := 59) (d := 9) (e := 5) (by kernel_rfl) (by kernel_rfl) (by kernel_rfl) (Rd.keep0 (by omega) (OwnB.rd O124) hS)) (d := (some 93)) (by kernel_rfl) rfl ?_
    refine Dr.take (i := 39) (v := (Value.bool (c.image == c.image))) (by kernel_rfl) (by kernel_rfl) (fun wz hS => Runs.streq (t := 9) (by kernel_rfl)) (d := (some 94)) (by kernel_rfl) rfl ?_
    refine Dr.takes (fuel' := 0) (is' := [41, 40, 39, 38, 37, 36, 35, 34, 33, 32, 31, 26, 30, 29, 28, 27, 25, 24, 23, 22, 21, 20, 19, 18, 17, 16, 15, 14, 13, 12, 11, 10, 9, 8, 7, 2, 1, 6, 5, 4, 3, 0]) [40, 41] [(10, v74), (11, (Value.bool (c.image == c.image)))] (by kernel_rfl) rfl (by kernel_rfl) ?_
    refine Dr.done (by kernel_rfl) ?_
    refine q_seq (by kernel_rfl) ?_
    refine q_region (by kernel_rfl) ?_
    refine Ops.regs 1 [(11, (Value.bool (c.image == c.image))), (96, v74)] (j := 1) (by kernel_rfl) (by kernel_rfl) ?_
    refine Ops.call (by kernel_rfl) (d := (some 97)) (by kernel_rfl) (Spoil_calls _ v74 c.image w.heap.size F129 (image_pos c) (by omega)) ?_
    rintro _ w133 ⟨rfl, K131⟩
    refine ⟨_, _, rfl, rfl, ?_⟩
    have K132 := Keeps.own2 K130 K131
    clear H125 H126 H127 H128 F129 O124 K130 K131
    refine Ops.done (by kernel_rfl) ?_
    refine q_seq (by kernel_rfl) ?_
    refine q_region (by kernel_rfl) ?_
    refine Ops.regs 2 [(4, (Value.bool (c.image == c.image)))] (j := 2) (by kernel_rfl) (by kernel_rfl) ?_
    refine Ops.done (by kernel_rfl) ?_
    refine q_ret (by kernel_rfl) ?_
    refine ⟨(Value.bool (c.image == c.image)), retv_tmp rfl rfl, ?_⟩
    exact ⟨congrArg (fun x => Ending.returned (Value.bool x)) (show (c.image == c.image) = true from by simp), K132⟩
end Go.Proofs.Ytoljbckhoigibaa
