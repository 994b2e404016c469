/- chart: the reference, Do -/
import Derived.Test.YtoljbckhoigibaaProg
import Derived.Test.YtoljbckhoigibaaG
set_option linter.unusedVariables false
namespace Go.Proofs.Ytoljbckhoigibaa
open Go.Q Go.RowKit

theorem rslot_calls (w : World) (slot : Int)  : Calls Try.prog 97 ⟨[(i64 slot)]⟩ w (fun e w' => e = .returned (.bool (there slot)) ∧ w = w') := by
  refine q_calls Try.func97 (by kernel_rfl) (by kernel_rfl) ?_
  refine q_seq (by kernel_rfl) ?_
  refine q_region (by kernel_rfl) ?_
  refine Ops.regs 1 [(0, (i64 slot)), (2, (Value.bool false))] (j := 1) (by kernel_rfl) (by kernel_rfl) ?_
  refine Ops.done (by kernel_rfl) ?_
  refine q_seq (by kernel_rfl) ?_
  refine q_region (by kernel_rfl) ?_
  refine Ops.regs 3 [(0, (i64 slot)), (2, (Value.bool false)), (5, (Value.bool (decide (slot ≥ 0))))] (j := 3) (by kernel_rfl) (by kernel_rfl) ?_
  refine Ops.split (decide (slot ≥ 0)) (fun h1 => ?_) (fun h1 => ?_)
  · rw [h1]
    have p2 : slot ≥ 0 := of_decide_eq_true h1
    refine Ops.regs 4 [(2, (Value.bool (decide (slot < 16))))] (j := 7) (by kernel_rfl) (by kernel_rfl) ?_
    refine Ops.done (by kernel_rfl) ?_
    refine q_ret (by kernel_rfl) ?_
    refine ⟨(Value.bool (decide (slot < 16))), retv_tmp rfl rfl, ?_⟩
    exact ⟨by simp [there, *], rfl⟩
  · rw [h1]
    have p3 : ¬ (slot ≥ 0) := of_decide_eq_false h1
    refine Ops.regs 4 [(2, (Value.bool false))] (j := 7) (by kernel_rfl) (by kernel_rfl) ?_
    refine Ops.done (by kernel_rfl) ?_
    refine q_ret (by kernel_rfl) ?_
    refine ⟨(Value.bool false), retv_tmp rfl rfl, ?_⟩
    exact ⟨by simp [there, *], rfl⟩

theorem rbusy_calls (w : World) (b go co ge ce : Nat) (ro re : List Value) (c : Ch) (H0 : Has w b (rowL (rchL c go co ge ce) 54)) : Calls Try.prog 98 ⟨[(Value.pointer (some ⟨b, 0, none⟩))]⟩ w (fun e w' => e = .returned (.bool ((c.mp != 0) || ((c.phase != 0) || (decide (c.began ≥ 1152921504606846976))))) ∧ w = w') := by
  refine q_calls Try.func98 (by kernel_rfl) (by kernel_rfl) ?_
  refine q_seq (by kernel_rfl) ?_
  refine q_region (by kernel_rfl) ?_
  refine Ops.regs 1 [(0, (Value.pointer (some ⟨b, 0, none⟩))), (2, (Value.bool false))] (j := 1) (by kernel_rfl) (by kernel_rfl) ?_
  refine Ops.done (by kernel_rfl) ?_
  refine q_seq (by kernel_rfl) ?_
  refine q_region (by kernel_rfl) ?_
  refine Ops.regs 4 [(0, (Value.pointer (some ⟨b, 0, none⟩))), (2, (Value.bool false)), (6, (Value.pointer (some ⟨b, 8, none⟩)))] (j := 4) (by kernel_rfl) (by kernel_rfl) ?_
  refine Ops.go (v := (i64 c.mp)) (by kernel_rfl) (Runs.load (t := 3) (a := ⟨b, 8, none⟩) (by kernel_rfl) (H0.loads (by kernel_rfl))) (d := (some 7)) (by kernel_rfl) rfl ?_
  refine Ops.regs 2 [(0, (Value.pointer (some ⟨b, 0, none⟩))), (2, (Value.bool false)), (9, (Value.bool (c.mp != 0)))] (j := 7) (by kernel_rfl) (by kernel_rfl) ?_
  refine Ops.split (c.mp != 0) (fun h1 => ?_) (fun h1 => ?_)
  · rw [h1]
    have p2 : ¬ (c.mp = 0) := of_bne_t h1
    refine Ops.regs 14 [(2, (Value.bool true))] (j := 21) (by kernel_rfl) (by kernel_rfl) ?_
    refine Ops.done (by kernel_rfl) ?_
    refine q_ret (by kernel_rfl) ?_
    refine ⟨(Value.bool true), retv_tmp rfl rfl, ?_⟩
    exact ⟨by simp [*], rfl⟩
  · rw [h1]
    have p3 : c.mp = 0 := of_bne_f h1
    refine Ops.regs 3 [(0, (Value.pointer (some ⟨b, 0, none⟩))), (2, (Value.bool false)), (9, (Value.bool false)), (12, (Value.pointer (some ⟨b, 11, none⟩)))] (j := 10) (by kernel_rfl) (by kernel_rfl) ?_
    refine Ops.go (v := (i64 c.phase)) (by kernel_rfl) (Runs.load (t := 3) (a := ⟨b, 11, none⟩) (by kernel_rfl) (H0.loads (by kernel_rfl))) (d := (some 13)) (by kernel_rfl) rfl ?_
    refine Ops.regs 3 [(0, (Value.pointer (some ⟨b, 0, none⟩))), (2, (Value.bool false)), (16, (Value.bool (c.phase != 0)))] (j := 14) (by kernel_rfl) (by kernel_rfl) ?_
    refine Ops.split (c.phase != 0) (fun h4 => ?_) (fun h4 => ?_)
    · rw [h4]
      have p5 : ¬ (c.phase = 0) := of_bne_t h4
      refine Ops.regs 7 [(2, (Value.bool true))] (j := 21) (by kernel_rfl) (by kernel_rfl) ?_
      refine Ops.done (by kernel_rfl) ?_
      refine q_ret (by kernel_rfl) ?_
      refine ⟨(Value.bool true), retv_tmp rfl rfl, ?_⟩
      exact ⟨by simp [*], rfl⟩
    · rw [h4]
      have p6 : c.phase = 0 := of_bne_f h4
      refine Ops.regs 3 [(2, (Value.bool false)), (16, (Value.bool false)), (19, (Value.pointer (some ⟨b, 3, none⟩)))] (j := 17) (by kernel_rfl) (by kernel_rfl) ?_
      refine Ops.go (v := (i64 c.began)) (by kernel_rfl) (Runs.load (t := 2) (a := ⟨b, 3, none⟩) (by kernel_rfl) (H0.loads (by kernel_rfl))) (d := (some 20)) (by kernel_rfl) rfl ?_
      refine Ops.regs 3 [(2, (Value.bool (decide (c.began ≥ 1152921504606846976))))] (j := 21) (by kernel_rfl) (by kernel_rfl) ?_
      refine Ops.done (by kernel_rfl) ?_
      refine q_ret (by kernel_rfl) ?_
      refine ⟨(Value.bool (decide (c.began ≥ 1152921504606846976))), retv_tmp rfl rfl, ?_⟩
      exact ⟨by simp [*], rfl⟩

theorem RDo_calls (w : World) (b go co ge ce : Nat) (ro re : List Value) (c : Ch) (x : Cmd) (h : c.Inv) (H0 : Has w b (rowL (rchL c go co ge ce) 54)) (H1 : Has w go (rowL (ints c.owner ++ ro) 3)) (H2 : Has w ge (rowL (ints c.epoch ++ re) 2)) (hd : go ≠ b ∧ ge ≠ b ∧ go ≠ ge) : Calls Try.prog 64 ⟨[(Value.pointer (some ⟨b, 0, none⟩)), (agg [(i64 x.kind), (i64 x.slot), (i64 x.shard), (i64 x.n), (i64 x.phase)])]⟩ w (fun e w' => e = .returned (c.do_ x).1.v ∧ Keeps (fun i => i = b ∨ i = go ∨ i = ge) w w' ∧ Has w' b (rowL (rchL (c.do_ x).2 go co ge ce) 54) ∧ Has w' go (rowL (ints (c.do_ x).2.owner ++ ro) 3) ∧ Has w' ge (rowL (ints (c.do_ x).2.epoch ++ re) 2)) := by
  have K0 : Keeps (fun i => i = b ∨ i = go ∨ i = ge) w w := (Keeps.refl w).mono (fun _ _ h => h.elim)
  have Hb := H0.lt
  have Hgo := H1.lt
  have Hge := H2.lt
  have hep := h.ep
  have hsm := h.small
  have hbg := h.bg
  have hmb := h.mb
  have hph := h.ph
  refine q_calls Try.func64 (by kernel_rfl) (by kernel_rfl) ?_
  refine q_seq (by kernel_rfl) ?_
  refine q_region (by kernel_rfl) ?_
  refine Ops.new (o := rowL [(i64 x.kind), (i64 x.slot), (i64 x.shard), (i64 x.n), (i64 x.phase)] 40) (V := fun b => (Value.pointer (some ⟨b, 0, none⟩))) (by kernel_rfl) (d := (some 3)) (by kernel_rfl) (fun b => rfl) (fun b1 w2 hb3 H4 K5 hs6 => ?_)
  have lb1b : b < b1 := by have := H0.lt; omega
  have lb1go : go < b1 := by have := H1.lt; omega
  have lb1ge : ge < b1 := by have := H2.lt; omega
  have nb1 : w.heap.size ≤ b1 := by have := K0.size; omega
  have H7 := H0.keep K5 (fun h => h)
  clear H0
  have H8 := H1.keep K5 (fun h => h)
  clear H1
  have H9 := H2.keep K5 (fun h => h)
  clear H2
  have K10 := K0.trans K5 (U := (fun i => i = b ∨ i = go ∨ i = ge)) (fun i h1 h2 => h2) (fun i h1 h2 => by exact h2.elim)
  clear K0
  clear K5 hs6
  refine Ops.new (o := rowL [(i64 0), (Value.bool false), (i64 0)] 55) (V := fun b => (Value.pointer (some ⟨b, 0, none⟩))) (by kernel_rfl) (d := (some 4)) (by kernel_rfl) (fun b => rfl) (fun b11 w12 hb13 H14 K15 hs16 => ?_)
  have lb11b : b < b11 := by have := H7.lt; omega
  have lb11go : go < b11 := by have := H8.lt; omega
  have lb11ge : ge < b11 := by have := H9.lt; omega
  have lb11b1 : b1 < b11 := by have := H4.lt; omega
  have nb11 : w.heap.size ≤ b11 := by have := K10.size; omega
  have H17 := H7.keep K15 (fun h => h)
  clear H7
  have H18 := H8.keep K15 (fun h => h)
  clear H8
  have H19 := H9.keep K15 (fun h => h)
  clear H9
  have H20 := H4.keep K15 (fun h => h)
  clear H4
  have K21 := K10.trans K15 (U := (fun i => i = b ∨ i = go ∨ i = ge)) (fun i h1 h2 => h2) (fun i h1 h2 => by exact h2.elim)
  clear K10
  clear K15 hs16
  refine Ops.done (by kernel_rfl) ?_
  refine q_seq (by kernel_rfl) ?_
  refine q_seq (by kernel_rfl) ?_
  refine q_region (by kernel_rfl) ?_
  refine Ops.regs 1 [(0, (Value.pointer (some ⟨b, 0, none⟩))), (3, (Value.pointer (some ⟨b1, 0, none⟩))), (4, (Value.pointer (some ⟨b11, 0, none⟩))), (6, (Value.pointer (some ⟨b1, 0, none⟩)))] (j := 1) (by kernel_rfl) (by kernel_rfl) ?_
  refine Ops.go (v := (i64 x.kind)) (by kernel_rfl) (Runs.load (t := 3) (a := ⟨b1, 0, none⟩) (by kernel_rfl) (H20.loads (by kernel_rfl))) (d := (some 7)) (by kernel_rfl) rfl ?_
  refine Ops.done (by kernel_rfl) ?_
  refine q_block (id := 0) (by kernel_rfl) ?_
  refine q_seq (by kernel_rfl) ?_
  refine q_region (by kernel_rfl) ?_
  refine Ops.regs 2 [(0, (Value.pointer (some ⟨b, 0, none⟩))), (3, (Value.pointer (some ⟨b1, 0, none⟩))), (4, (Value.pointer (some ⟨b11, 0, none⟩))), (7, (i64 x.kind)), (8, (Value.bool (x.kind == 1)))] (j := 2) (by kernel_rfl) (by kernel_rfl) ?_
  refine Ops.done (by kernel_rfl) ?_
  refine q_cond (o := .tmp 8) (b := (x.kind == 1)) (by kernel_rfl) rfl (fun h22 => ?_) (fun h22 => ?_)
  · rw [h22]
    have p23 : x.kind = 1 := of_beq_t h22
    refine q_seq (by kernel_rfl) ?_
    refine q_seq (by kernel_rfl) ?_
    refine q_draw (fun wz => Keeps none_ w12 wz) 18 (by kernel_rfl) (by kernel_rfl) (by kernel_rfl) (fun w24 K25 _ _ => ⟨K25, ?_⟩)
    have H26 := H17.keep K25 (fun h => h)
    clear H17
    have H27 := H18.keep K25 (fun h => h)
    clear H18
    have H28 := H19.keep K25 (fun h => h)
    clear H19
    have H29 := H20.keep K25 (fun h => h)
    clear H20
    have H30 := H14.keep K25 (fun h => h)
    clear H14
    have K31 := K21.trans K25 (U := (fun i => i = b ∨ i = go ∨ i = ge)) (fun i h1 h2 => h2) (fun i h1 h2 => by exact h2.elim)
    clear K21
    refine Dr.strong (S' := (fun wz => Keeps none_ w24 wz)) (Keeps.refl w24) (fun wz hx => K25.trans hx (fun _ _ h => h) (fun _ _ h => h)) ?_
    clear K25
    refine Dr.takes (fuel' := 17) (is' := [0]) [0] [(0, (Value.pointer (some ⟨b, 0, none⟩))), (3, (Value.pointer (some ⟨b1, 0, none⟩))), (4, (Value.pointer (some ⟨b11, 0, none⟩))), (7, (i64 x.kind)), (10, (Value.pointer (some ⟨b1, 1, none⟩)))] (by kernel_rfl) rfl (by kernel_rfl) ?_
    refine Dr.take (i := 1) (v := (i64 x.slot)) (by kernel_rfl) (by kernel_rfl) (fun wz hS => Runs.load (t := 3) (a := ⟨b1, 1, none⟩) (by kernel_rfl) ((H29.keep hS (fun h => h)).loads (by kernel_rfl))) (d := (some 11)) (by kernel_rfl) rfl ?_
    refine Dr.call (i := 2) (by kernel_rfl) (by kernel_rfl) (d := (some 12)) (by kernel_rfl) (fun _ => rslot_calls _ x.slot) ?_
    rintro _ _ ⟨rfl, rfl⟩
    refine ⟨_, _, rfl, rfl, (Keeps.refl _), ?_⟩
    refine Dr.takes (fuel' := 13) (is' := [4, 3, 2, 1, 0]) [3, 4] [(0, (Value.pointer (some ⟨b, 0, none⟩))), (3, (Value.pointer (some ⟨b1, 0, none⟩))), (4, (Value.pointer (some ⟨b11, 0, none⟩))), (7, (i64 x.kind)), (14, (Value.bool (!((decide (0 ≤ x.slot)) && (decide (x.slot < 16))))))] (by kernel_rfl) rfl (by kernel_rfl) ?_
    refine Dr.split (!((decide (0 ≤ x.slot)) && (decide (x.slot < 16)))) (fun h32 => ?_) (fun h32 => ?_)
    · rw [h32]
      have p33 : ¬ (0 ≤ x.slot ∧ x.slot < 16) := by simpa using (bnot_true h32)
      refine Dr.takes (fuel' := 0) (is' := [17, 16, 15, 14, 13, 12, 11, 10, 9, 8, 7, 6, 5, 4, 3, 2, 1, 0]) [5, 6, 7, 8, 9, 10, 11, 12, 13, 14, 15, 16, 17] [(0, (Value.pointer (some ⟨b, 0, none⟩))), (3, (Value.pointer (some ⟨b1, 0, none⟩))), (4, (Value.pointer (some ⟨b11, 0, none⟩))), (7, (i64 x.kind)), (27, (Value.bool true))] (by kernel_rfl) rfl (by kernel_rfl) ?_
      refine Dr.done (by kernel_rfl) ?_
      refine q_then (o := .tmp 27) (by kernel_rfl) rfl ?_
      refine q_seq (by kernel_rfl) ?_
      refine q_region (by kernel_rfl) ?_
      refine Ops.regs 1 [(0, (Value.pointer (some ⟨b, 0, none⟩))), (3, (Value.pointer (some ⟨b1, 0, none⟩))), (4, (Value.pointer (some ⟨b11, 0, none⟩))), (7, (i64 x.kind)), (28, (agg [(i64 1), (Value.bool false), (i64 0)]))] (j := 1) (by kernel_rfl) (by kernel_rfl) ?_
      refine Ops.put (t := 55) (b := b11) (off := 0) (v := (agg [(i64 1), (Value.bool false), (i64 0)])) (ys := [(i64 1), (Value.bool false), (i64 0)]) (by kernel_rfl) (by kernel_rfl) H30 (by kernel_rfl) (d := none) (by kernel_rfl) rfl (fun w34 H35 K36 => ?_)
      clear H30
      have H37 := H26.keep K36 (by intro h; change b = b11 at h; omega)
      clear H26
      have H38 := H27.keep K36 (by intro h; change go = b11 at h; omega)
      clear H27
      have H39 := H28.keep K36 (by intro h; change ge = b11 at h; omega)
      clear H28
      have H40 := H29.keep K36 (by intro h; change b1 = b11 at h; omega)
      clear H29
      have K41 := K31.trans K36 (U := (fun i => i = b ∨ i = go ∨ i = ge)) (fun i h1 h2 => h2) (fun i h1 h2 => by have h2 : i = b11 := h2; show i = b ∨ i = go ∨ i = ge; omega)
      clear K31
      clear K36
      refine Ops.done (by kernel_rfl) ?_
      refine q_ret (by kernel_rfl) ?_
      refine ⟨(agg [(i64 1), (Value.bool false), (i64 0)]), retv_cell rfl rfl (H35.loads (by kernel_rfl)), ?_⟩
      have e : c.do_ x = (⟨1, false, 0⟩, (⟨c.shards, c.owner, c.epoch, c.began, c.ms, c.mf, c.mt, c.me, c.mp, c.mn, c.audit, c.phase⟩ : Ch)) := do1_bad (by omega) (by omega)
      exact ⟨by rw [e]; rfl, K41, by rw [e]; exact H37, by rw [e]; exact H38, by rw [e]; exact H39⟩
    · rw [h32]
      have p42 : (0 ≤ x.slot ∧ x.slot < 16) := by simpa using (bnot_false h32)
      refine Dr.takes (fuel' := 12) (is' := [5, 4, 3, 2, 1, 0]) [5] [(0, (Value.pointer (some ⟨b, 0, none⟩))), (3, (Value.pointer (some ⟨b1, 0, none⟩))), (4, (Value.pointer (some ⟨b11, 0, none⟩))), (7, (i64 x.kind)), (14, (Value.bool false)), (15, (Value.pointer (some ⟨b1, 2, none⟩)))] (by kernel_rfl) rfl (by kernel_rfl) ?_
      refine Dr.take (i := 6) (v := (i64 x.shard)) (by kernel_rfl) (by kernel_rfl) (fun wz hS => Runs.load (t := 3) (a := ⟨b1, 2, none⟩) (by kernel_rfl) ((H29.keep hS (fun h => h)).loads (by kernel_rfl))) (d := (some 16)) (by kernel_rfl) rfl ?_
      refine Dr.takes (fuel' := 8) (is' := [9, 8, 7, 6, 5, 4, 3, 2, 1, 0]) [7, 8, 9] [(0, (Value.pointer (some ⟨b, 0, none⟩))), (3, (Value.pointer (some ⟨b1, 0, none⟩))), (4, (Value.pointer (some ⟨b11, 0, none⟩))), (7, (i64 x.kind)), (19, (Value.bool (decide (x.shard < 1))))] (by kernel_rfl) rfl (by kernel_rfl) ?_
      refine Dr.split (decide (x.shard < 1)) (fun h43 => ?_) (fun h43 => ?_)
      · rw [h43]
        have p44 : x.shard < 1 := of_decide_eq_true h43
        refine Dr.takes (fuel' := 0) (is' := [17, 16, 15, 14, 13, 12, 11, 10, 9, 8, 7, 6, 5, 4, 3, 2, 1, 0]) [10, 11, 12, 13, 14, 15, 16, 17] [(0, (Value.pointer (some ⟨b, 0, none⟩))), (3, (Value.pointer (some ⟨b1, 0, none⟩))), (4, (Value.pointer (some ⟨b11, 0, none⟩))), (7, (i64 x.kind)), (27, (Value.bool true))] (by kernel_rfl) rfl (by kernel_rfl) ?_
        refine Dr.done (by kernel_rfl) ?_
        refine q_then (o := .tmp 27) (by kernel_rfl) rfl ?_
        refine q_seq (by kernel_rfl) ?_
        refine q_region (by kernel_rfl) ?_
        refine Ops.regs 1 [(0, (Value.pointer (some ⟨b, 0, none⟩))), (3, (Value.pointer (some ⟨b1, 0, none⟩))), (4, (Value.pointer (some ⟨b11, 0, none⟩))), (7, (i64 x.kind)), (28, (agg [(i64 1), (Value.bool false), (i64 0)]))] (j := 1) (by kernel_rfl) (by kernel_rfl) ?_
        refine Ops.put (t := 55) (b := b11) (off := 0) (v := (agg [(i64 1), (Value.bool false), (i64 0)])) (ys := [(i64 1), (Value.bool false), (i64 0)]) (by kernel_rfl) (by kernel_rfl) H30 (by kernel_rfl) (d := none) (by kernel_rfl) rfl (fun w45 H46 K47 => ?_)
        clear H30
        have H48 := H26.keep K47 (by intro h; change b = b11 at h; omega)
        clear H26
        have H49 := H27.keep K47 (by intro h; change go = b11 at h; omega)
        clear H27
        have H50 := H28.keep K47 (by intro h; change ge = b11 at h; omega)
        clear H28
        have H51 := H29.keep K47 (by intro h; change b1 = b11 at h; omega)
        clear H29
        have K52 := K31.trans K47 (U := (fun i => i = b ∨ i = go ∨ i = ge)) (fun i h1 h2 => h2) (fun i h1 h2 => by have h2 : i = b11 := h2; show i = b ∨ i = go ∨ i = ge; omega)
        clear K31
        clear K47
        refine Ops.done (by kernel_rfl) ?_
        refine q_ret (by kernel_rfl) ?_
        refine ⟨(agg [(i64 1), (Value.bool false), (i64 0)]), retv_cell rfl rfl (H46.loads (by kernel_rfl)), ?_⟩
        have e : c.do_ x = (⟨1, false, 0⟩, (⟨c.shards, c.owner, c.epoch, c.began, c.ms, c.mf, c.mt, c.me, c.mp, c.mn, c.audit, c.phase⟩ : Ch)) := do1_bad (by omega) (by omega)
        exact ⟨by rw [e]; rfl, K52, by rw [e]; exact H48, by rw [e]; exact H49, by rw [e]; exact H50⟩
      · rw [h43]
        have p53 : ¬ (x.shard < 1) := of_decide_eq_false h43
        refine Dr.takes (fuel' := 7) (is' := [10, 9, 8, 7, 6, 5, 4, 3, 2, 1, 0]) [10] [(0, (Value.pointer (some ⟨b, 0, none⟩))), (3, (Value.pointer (some ⟨b1, 0, none⟩))), (4, (Value.pointer (some ⟨b11, 0, none⟩))), (7, (i64 x.kind)), (19, (Value.bool false)), (20, (Value.pointer (some ⟨b1, 2, none⟩)))] (by kernel_rfl) rfl (by kernel_rfl) ?_
        refine Dr.take (i := 11) (v := (i64 x.shard)) (by kernel_rfl) (by kernel_rfl) (fun wz hS => Runs.load (t := 3) (a := ⟨b1, 2, none⟩) (by kernel_rfl) ((H29.keep hS (fun h => h)).loads (by kernel_rfl))) (d := (some 21)) (by kernel_rfl) rfl ?_
        refine Dr.takes (fuel' := 3) (is' := [14, 13, 12, 11, 10, 9, 8, 7, 6, 5, 4, 3, 2, 1, 0]) [12, 13, 14] [(0, (Value.pointer (some ⟨b, 0, none⟩))), (3, (Value.pointer (some ⟨b1, 0, none⟩))), (4, (Value.pointer (some ⟨b11, 0, none⟩))), (7, (i64 x.kind)), (19, (Value.bool false)), (21, (i64 x.shard)), (24, (Value.pointer (some ⟨b, 0, none⟩)))] (by kernel_rfl) rfl (by kernel_rfl) ?_
        refine Dr.take (i := 15) (v := (i64 c.shards)) (by kernel_rfl) (by kernel_rfl) (fun wz hS => Runs.load (t := 3) (a := ⟨b, 0, none⟩) (by kernel_rfl) ((H26.keep hS (fun h => h)).loads (by kernel_rfl))) (d := (some 25)) (by kernel_rfl) rfl ?_
        refine Dr.takes (fuel' := 0) (is' := [17, 16, 15, 14, 13, 12, 11, 10, 9, 8, 7, 6, 5, 4, 3, 2, 1, 0]) [16, 17] [(0, (Value.pointer (some ⟨b, 0, none⟩))), (3, (Value.pointer (some ⟨b1, 0, none⟩))), (4, (Value.pointer (some ⟨b11, 0, none⟩))), (7, (i64 x.kind)), (27, (Value.bool (decide (x.shard > c.shards))))] (by kernel_rfl) rfl (by kernel_rfl) ?_
        refine Dr.done (by kernel_rfl) ?_
        refine q_cond (o := .tmp 27) (b := (decide (x.shard > c.shards))) (by kernel_rfl) rfl (fun h54 => ?_) (fun h54 => ?_)
        · rw [h54]
          have p55 : x.shard > c.shards := of_decide_eq_true h54
          refine q_seq (by kernel_rfl) ?_
          refine q_region (by kernel_rfl) ?_
          refine Ops.regs 1 [(0, (Value.pointer (some ⟨b, 0, none⟩))), (3, (Value.pointer (some ⟨b1, 0, none⟩))), (4, (Value.pointer (some ⟨b11, 0, none⟩))), (7, (i64 x.kind)), (28, (agg [(i64 1), (Value.bool false), (i64 0)]))] (j := 1) (by kernel_rfl) (by kernel_rfl) ?_
          refine Ops.put (t := 55) (b := b11) (off := 0) (v := (agg [(i64 1), (Value.bool false), (i64 0)])) (ys := [(i64 1), (Value.bool false), (i64 0)]) (by kernel_rfl) (by kernel_rfl) H30 (by kernel_rfl) (d := none) (by kernel_rfl) rfl (fun w56 H57 K58 => ?_)
          clear H30
          have H59 := H26.keep K58 (by intro h; change b = b11 at h; omega)
          clear H26
          have H60 := H27.keep K58 (by intro h; change go = b11 at h; omega)
          clear H27
          have H61 := H28.keep K58 (by intro h; change ge = b11 at h; omega)
          clear H28
          have H62 := H29.keep K58 (by intro h; change b1 = b11 at h; omega)
          clear H29
          have K63 := K31.trans K58 (U := (fun i => i = b ∨ i = go ∨ i = ge)) (fun i h1 h2 => h2) (fun i h1 h2 => by have h2 : i = b11 := h2; show i = b ∨ i = go ∨ i = ge; omega)
          clear K31
          clear K58
          refine Ops.done (by kernel_rfl) ?_
          refine q_ret (by kernel_rfl) ?_
          refine ⟨(agg [(i64 1), (Value.bool false), (i64 0)]), retv_cell rfl rfl (H57.loads (by kernel_rfl)), ?_⟩
          have e : c.do_ x = (⟨1, false, 0⟩, (⟨c.shards, c.owner, c.epoch, c.began, c.ms, c.mf, c.mt, c.me, c.mp, c.mn, c.audit, c.phase⟩ : Ch)) := do1_bad (by omega) (by omega)
          exact ⟨by rw [e]; rfl, K63, by rw [e]; exact H59, by rw [e]; exact H60, by rw [e]; exact H61⟩
        · rw [h54]
          have p64 : ¬ (x.shard > c.shards) := of_decide_eq_false h54
          refine q_skip (by kernel_rfl) ?_
          refine q_seq (by kernel_rfl) ?_
          refine q_seq (by kernel_rfl) ?_
          refine q_region (by kernel_rfl) ?_
          refine Ops.regs 1 [(0, (Value.pointer (some ⟨b, 0, none⟩))), (3, (Value.pointer (some ⟨b1, 0, none⟩))), (4, (Value.pointer (some ⟨b11, 0, none⟩))), (7, (i64 x.kind)), (29, (Value.pointer (some ⟨b, 0, none⟩)))] (j := 1) (by kernel_rfl) (by kernel_rfl) ?_
          refine Ops.call (by kernel_rfl) (d := (some 30)) (by kernel_rfl) (rbusy_calls _ b go co ge ce [] [] (⟨c.shards, [], [], c.began, c.ms, c.mf, c.mt, c.me, c.mp, c.mn, c.audit, c.phase⟩ : Ch) H26) ?_
          rintro _ _ ⟨rfl, rfl⟩
          refine ⟨_, _, rfl, rfl, ?_⟩
          refine Ops.done (by kernel_rfl) ?_
          refine q_cond (o := .tmp 30) (b := ((c.mp != 0) || ((c.phase != 0) || (decide (c.began ≥ 1152921504606846976))))) (by kernel_rfl) rfl (fun h65 => ?_) (fun h65 => ?_)
          · rw [h65]
            have p66 : (¬ (c.mp = 0) ∨ (¬ (c.phase = 0) ∨ c.began ≥ 1152921504606846976)) := by simpa using h65
            refine q_seq (by kernel_rfl) ?_
            refine q_region (by kernel_rfl) ?_
            refine Ops.regs 1 [(0, (Value.pointer (some ⟨b, 0, none⟩))), (3, (Value.pointer (some ⟨b1, 0, none⟩))), (4, (Value.pointer (some ⟨b11, 0, none⟩))), (7, (i64 x.kind)), (31, (agg [(i64 50), (Value.bool false), (i64 0)]))] (j := 1) (by kernel_rfl) (by kernel_rfl) ?_
            refine Ops.put (t := 55) (b := b11) (off := 0) (v := (agg [(i64 50), (Value.bool false), (i64 0)])) (ys := [(i64 50), (Value.bool false), (i64 0)]) (by kernel_rfl) (by kernel_rfl) H30 (by kernel_rfl) (d := none) (by kernel_rfl) rfl (fun w67 H68 K69 => ?_)
            clear H30
            have H70 := H26.keep K69 (by intro h; change b = b11 at h; omega)
            clear H26
            have H71 := H27.keep K69 (by intro h; change go = b11 at h; omega)
            clear H27
            have H72 := H28.keep K69 (by intro h; change ge = b11 at h; omega)
            clear H28
            have H73 := H29.keep K69 (by intro h; change b1 = b11 at h; omega)
            clear H29
            have K74 := K31.trans K69 (U := (fun i => i = b ∨ i = go ∨ i = ge)) (fun i h1 h2 => h2) (fun i h1 h2 => by have h2 : i = b11 := h2; show i = b ∨ i = go ∨ i = ge; omega)
            clear K31
            clear K69
            refine Ops.done (by kernel_rfl) ?_
            refine q_ret (by kernel_rfl) ?_
            refine ⟨(agg [(i64 50), (Value.bool false), (i64 0)]), retv_cell rfl rfl (H68.loads (by kernel_rfl)), ?_⟩
            have e : c.do_ x = (⟨50, false, 0⟩, (⟨c.shards, c.owner, c.epoch, c.began, c.ms, c.mf, c.mt, c.me, c.mp, c.mn, c.audit, c.phase⟩ : Ch)) := do1_busy (by omega) (by omega) (show c.mp ≠ 0 ∨ c.phase ≠ 0 ∨ 1152921504606846976 ≤ c.began from by omega)
            exact ⟨by rw [e]; rfl, K74, by rw [e]; exact H70, by rw [e]; exact H71, by rw [e]; exact H72⟩
          · rw [h65]
            have p75 : (c.mp = 0 ∧ (c.phase = 0 ∧ ¬ (c.began ≥ 1152921504606846976))) := by simpa using h65
            refine q_skip (by kernel_rfl) ?_
            refine q_seq (by kernel_rfl) ?_
            refine q_seq (by kernel_rfl) ?_
            refine q_draw (fun wz => Keeps none_ w24 wz) 11 (by kernel_rfl) (by kernel_rfl) (by kernel_rfl) (fun w76 K77 _ _ => ⟨K77, ?_⟩)
            have H78 := H26.keep K77 (fun h => h)
            clear H26
            have H79 := H27.keep K77 (fun h => h)
            clear H27
            have H80 := H28.keep K77 (fun h => h)
            clear H28
            have H81 := H29.keep K77 (fun h => h)
            clear H29
            have H82 := H30.keep K77 (fun h => h)
            clear H30
            have K83 := K31.trans K77 (U := (fun i => i = b ∨ i = go ∨ i = ge)) (fun i h1 h2 => h2) (fun i h1 h2 => by exact h2.elim)
            clear K31
            refine Dr.strong (S' := (fun wz => Keeps none_ w76 wz)) (Keeps.refl w76) (fun wz hx => K77.trans hx (fun _ _ h => h) (fun _ _ h => h)) ?_
            clear K77
            refine Dr.takes (fuel' := 8) (is' := [2, 1, 0]) [0, 1, 2] [(0, (Value.pointer (some ⟨b, 0, none⟩))), (3, (Value.pointer (some ⟨b1, 0, none⟩))), (4, (Value.pointer (some ⟨b11, 0, none⟩))), (7, (i64 x.kind)), (34, (Value.pointer (some ⟨b, 1, none⟩)))] (by kernel_rfl) rfl (by kernel_rfl) ?_
            refine Dr.take (i := 3) (v := (Value.slice (some ⟨go, 0, none⟩) 16 co)) (by kernel_rfl) (by kernel_rfl) (fun wz hS => Runs.load (t := 44) (a := ⟨b, 1, none⟩) (by kernel_rfl) ((H78.keep hS (fun h => h)).loads (by kernel_rfl))) (d := (some 35)) (by kernel_rfl) rfl ?_
            refine Dr.takes (fuel' := 6) (is' := [4, 3, 2, 1, 0]) [4] [(0, (Value.pointer (some ⟨b, 0, none⟩))), (3, (Value.pointer (some ⟨b1, 0, none⟩))), (4, (Value.pointer (some ⟨b11, 0, none⟩))), (7, (i64 x.kind)), (35, (Value.slice (some ⟨go, 0, none⟩) 16 co)), (36, (Value.pointer (some ⟨b1, 1, none⟩)))] (by kernel_rfl) rfl (by kernel_rfl) ?_
            refine Dr.take (i := 5) (v := (i64 x.slot)) (by kernel_rfl) (by kernel_rfl) (fun wz hS => Runs.load (t := 3) (a := ⟨b1, 1, none⟩) (by kernel_rfl) ((H81.keep hS (fun h => h)).loads (by kernel_rfl))) (d := (some 37)) (by kernel_rfl) rfl ?_
            refine Dr.take (i := 6) (v := (Value.pointer (some ⟨go, (x.slot).toNat, none⟩))) (by kernel_rfl) (by kernel_rfl) (fun wz hS => Runs.ixSlice (k := IntKind.i64) (t := 44) (b := go) (off := 0) (len := 16) (cap := co) (s := 1) (off' := (x.slot).toNat) (i := x.slot) (by kernel_rfl) (by kernel_rfl) (by omega) (by omega) (by omega)) (d := (some 38)) (by kernel_rfl) rfl ?_
            refine Dr.take (i := 7) (v := (i64 (c.owner.getD ((x.slot).toNat) 0))) (by kernel_rfl) (by kernel_rfl) (fun wz hS => Runs.load (t := 3) (a := ⟨go, (x.slot).toNat, none⟩) (by kernel_rfl) ((H79.keep hS (fun h => h)).loads (loadC1 (by kernel_rfl) (intsR_at _ _ ((x.slot).toNat) (by rw [h.ok.o]; omega))))) (d := (some 39)) (by kernel_rfl) rfl ?_
            refine Dr.takes (fuel' := 2) (is' := [8, 7, 6, 5, 4, 3, 2, 1, 0]) [8] [(0, (Value.pointer (some ⟨b, 0, none⟩))), (3, (Value.pointer (some ⟨b1, 0, none⟩))), (4, (Value.pointer (some ⟨b11, 0, none⟩))), (7, (i64 x.kind)), (39, (i64 (c.owner.getD ((x.slot).toNat) 0))), (40, (Value.pointer (some ⟨b1, 2, none⟩)))] (by kernel_rfl) rfl (by kernel_rfl) ?_
            refine Dr.take (i := 9) (v := (i64 x.shard)) (by kernel_rfl) (by kernel_rfl) (fun wz hS => Runs.load (t := 3) (a := ⟨b1, 2, none⟩) (by kernel_rfl) ((H81.keep hS (fun h => h)).loads (by kernel_rfl))) (d := (some 41)) (by kernel_rfl) rfl ?_
            refine Dr.takes (fuel' := 0) (is' := [10, 9, 8, 7, 6, 5, 4, 3, 2, 1, 0]) [10] [(0, (Value.pointer (some ⟨b, 0, none⟩))), (3, (Value.pointer (some ⟨b1, 0, none⟩))), (4, (Value.pointer (some ⟨b11, 0, none⟩))), (7, (i64 x.kind)), (42, (Value.bool ((c.owner.getD ((x.slot).toNat) 0) == x.shard)))] (by kernel_rfl) rfl (by kernel_rfl) ?_
            refine Dr.done (by kernel_rfl) ?_
            refine q_cond (o := .tmp 42) (b := ((c.owner.getD ((x.slot).toNat) 0) == x.shard)) (by kernel_rfl) rfl (fun h84 => ?_) (fun h84 => ?_)
            · rw [h84]
              have p85 : c.owner.getD ((x.slot).toNat) 0 = x.shard := of_beq_t h84
              refine q_seq (by kernel_rfl) ?_
              refine q_region (by kernel_rfl) ?_
              refine Ops.regs 1 [(0, (Value.pointer (some ⟨b, 0, none⟩))), (3, (Value.pointer (some ⟨b1, 0, none⟩))), (4, (Value.pointer (some ⟨b11, 0, none⟩))), (7, (i64 x.kind)), (43, (agg [(i64 0), (Value.bool false), (i64 0)]))] (j := 1) (by kernel_rfl) (by kernel_rfl) ?_
              refine Ops.put (t := 55) (b := b11) (off := 0) (v := (agg [(i64 0), (Value.bool false), (i64 0)])) (ys := [(i64 0), (Value.bool false), (i64 0)]) (by kernel_rfl) (by kernel_rfl) H82 (by kernel_rfl) (d := none) (by kernel_rfl) rfl (fun w86 H87 K88 => ?_)
              clear H82
              have H89 := H78.keep K88 (by intro h; change b = b11 at h; omega)
              clear H78
              have H90 := H79.keep K88 (by intro h; change go = b11 at h; omega)
              clear H79
              have H91 := H80.keep K88 (by intro h; change ge = b11 at h; omega)
              clear H80
              have H92 := H81.keep K88 (by intro h; change b1 = b11 at h; omega)
              clear H81
              have K93 := K83.trans K88 (U := (fun i => i = b ∨ i = go ∨ i = ge)) (fun i h1 h2 => h2) (fun i h1 h2 => by have h2 : i = b11 := h2; show i = b ∨ i = go ∨ i = ge; omega)
              clear K83
              clear K88
              refine Ops.done (by kernel_rfl) ?_
              refine q_ret (by kernel_rfl) ?_
              refine ⟨(agg [(i64 0), (Value.bool false), (i64 0)]), retv_cell rfl rfl (H87.loads (by kernel_rfl)), ?_⟩
              have e : c.do_ x = (⟨0, false, 0⟩, (⟨c.shards, c.owner, c.epoch, c.began, c.ms, c.mf, c.mt, c.me, c.mp, c.mn, c.audit, c.phase⟩ : Ch)) := do1_same (by omega) (by omega) (show ¬ (c.mp ≠ 0 ∨ c.phase ≠ 0 ∨ 1152921504606846976 ≤ c.began) from by omega) (by omega)
              exact ⟨by rw [e]; rfl, K93, by rw [e]; exact H89, by rw [e]; exact H90, by rw [e]; exact H91⟩
            · rw [h84]
              have p94 : ¬ (c.owner.getD ((x.slot).toNat) 0 = x.shard) := of_beq_f h84
              refine q_skip (by kernel_rfl) ?_
              refine q_seq (by kernel_rfl) ?_
              refine q_region (by kernel_rfl) ?_
              refine Ops.regs 4 [(0, (Value.pointer (some ⟨b, 0, none⟩))), (3, (Value.pointer (some ⟨b1, 0, none⟩))), (4, (Value.pointer (some ⟨b11, 0, none⟩))), (7, (i64 x.kind)), (44, (Value.pointer (some ⟨b, 0, none⟩))), (47, (Value.pointer (some ⟨b, 3, none⟩)))] (j := 4) (by kernel_rfl) (by kernel_rfl) ?_
              refine Ops.go (v := (i64 c.began)) (by kernel_rfl) (Runs.load (t := 2) (a := ⟨b, 3, none⟩) (by kernel_rfl) (H78.loads (by kernel_rfl))) (d := (some 48)) (by kernel_rfl) rfl ?_
              refine Ops.regs 1 [(0, (Value.pointer (some ⟨b, 0, none⟩))), (3, (Value.pointer (some ⟨b1, 0, none⟩))), (4, (Value.pointer (some ⟨b11, 0, none⟩))), (7, (i64 x.kind)), (44, (Value.pointer (some ⟨b, 0, none⟩))), (49, (i64 (IntKind.i64.wrap (c.began + 1))))] (j := 6) (by kernel_rfl) (by kernel_rfl) ?_
              have e95 : IntKind.i64.wrap (c.began + 1) = c.began + 1 := wrap_i64 (by omega) (by omega)
              rw [e95]
              refine Ops.regs 2 [(0, (Value.pointer (some ⟨b, 0, none⟩))), (3, (Value.pointer (some ⟨b1, 0, none⟩))), (4, (Value.pointer (some ⟨b11, 0, none⟩))), (7, (i64 x.kind)), (49, (i64 (c.began + 1))), (51, (Value.pointer (some ⟨b, 3, none⟩)))] (j := 8) (by kernel_rfl) (by kernel_rfl) ?_
              refine Ops.put (t := 2) (b := b) (off := 3) (v := (i64 (c.began + 1))) (ys := [(i64 c.shards), (Value.slice (some ⟨go, 0, none⟩) 16 co), (Value.slice (some ⟨ge, 0, none⟩) 16 ce), (i64 (c.began + 1)), (i64 c.ms), (i64 c.mf), (i64 c.mt), (i64 c.me), (i64 c.mp), (i64 c.mn), (i64 c.audit), (i64 c.phase)]) (by kernel_rfl) (by kernel_rfl) H78 (by kernel_rfl) (d := none) (by kernel_rfl) rfl (fun w96 H97 K98 => ?_)
              clear H78
              have H99 := H79.keep K98 (by intro h; change go = b at h; omega)
              clear H79
              have H100 := H80.keep K98 (by intro h; change ge = b at h; omega)
              clear H80
              have H101 := H81.keep K98 (by intro h; change b1 = b at h; omega)
              clear H81
              have H102 := H82.keep K98 (by intro h; change b11 = b at h; omega)
              clear H82
              have K103 := K83.trans K98 (U := (fun i => i = b ∨ i = go ∨ i = ge)) (fun i h1 h2 => h2) (fun i h1 h2 => by have h2 : i = b := h2; show i = b ∨ i = go ∨ i = ge; omega)
              clear K83
              clear K98
              refine Ops.done (by kernel_rfl) ?_
              refine q_seq (by kernel_rfl) ?_
              refine q_draw (fun wz => Keeps (fun i => i = b) w96 wz ∧ Loads Try.prog wz 44 ⟨b, 1, none⟩ (Value.slice (some ⟨go, 0, none⟩) 16 co) ∧ Loads Try.prog wz 44 ⟨b, 1, none⟩ (Value.slice (some ⟨go, 0, none⟩) 16 co) ∧ Loads Try.prog wz 44 ⟨b, 1, none⟩ (Value.slice (some ⟨go, 0, none⟩) 16 co) ∧ Loads Try.prog wz 44 ⟨b, 1, none⟩ (Value.slice (some ⟨go, 0, none⟩) 16 co) ∧ Loads Try.prog wz 44 ⟨b, 1, none⟩ (Value.slice (some ⟨go, 0, none⟩) 16 co) ∧ Loads Try.prog wz 44 ⟨b, 1, none⟩ (Value.slice (some ⟨go, 0, none⟩) 16 co) ∧ Loads Try.prog wz 44 ⟨b, 1, none⟩ (Value.slice (some ⟨go, 0, none⟩) 16 co) ∧ Loads Try.prog wz 44 ⟨b, 1, none⟩ (Value.slice (some ⟨go, 0, none⟩) 16 co) ∧ Loads Try.prog wz 45 ⟨b, 2, none⟩ (Value.slice (some ⟨ge, 0, none⟩) 16 ce) ∧ Loads Try.prog wz 44 ⟨b, 1, none⟩ (Value.slice (some ⟨go, 0, none⟩) 16 co) ∧ Loads Try.prog wz 45 ⟨b, 2, none⟩ (Value.slice (some ⟨ge, 0, none⟩) 16 ce) ∧ Loads Try.prog wz 44 ⟨b, 1, none⟩ (Value.slice (some ⟨go, 0, none⟩) 16 co) ∧ Loads Try.prog wz 45 ⟨b, 2, none⟩ (Value.slice (some ⟨ge, 0, none⟩) 16 ce) ∧ Loads Try.prog wz 44 ⟨b, 1, none⟩ (Value.slice (some ⟨go, 0, none⟩) 16 co) ∧ Loads Try.prog wz 45 ⟨b, 2, none⟩ (Value.slice (some ⟨ge, 0, none⟩) 16 ce) ∧ Loads Try.prog wz 44 ⟨b, 1, none⟩ (Value.slice (some ⟨go, 0, none⟩) 16 co) ∧ Loads Try.prog wz 45 ⟨b, 2, none⟩ (Value.slice (some ⟨ge, 0, none⟩) 16 ce) ∧ Loads Try.prog wz 44 ⟨b, 1, none⟩ (Value.slice (some ⟨go, 0, none⟩) 16 co) ∧ Loads Try.prog wz 45 ⟨b, 2, none⟩ (Value.slice (some ⟨ge, 0, none⟩) 16 ce) ∧ Loads Try.prog wz 2 ⟨b, 3, none⟩ (i64 (c.began + 1))) 30 (by kernel_rfl) (by kernel_rfl) (by kernel_rfl) (fun w104 K105 _ _ => ⟨⟨(K105.mono (fun _ _ h => h.elim)), ((H97.keep K105 (fun h => h)).loads (by kernel_rfl)), ((H97.keep K105 (fun h => h)).loads (by kernel_rfl)), ((H97.keep K105 (fun h => h)).loads (by kernel_rfl)), ((H97.keep K105 (fun h => h)).loads (by kernel_rfl)), ((H97.keep K105 (fun h => h)).loads (by kernel_rfl)), ((H97.keep K105 (fun h => h)).loads (by kernel_rfl)), ((H97.keep K105 (fun h => h)).loads (by kernel_rfl)), ((H97.keep K105 (fun h => h)).loads (by kernel_rfl)), ((H97.keep K105 (fun h => h)).loads (by kernel_rfl)), ((H97.keep K105 (fun h => h)).loads (by kernel_rfl)), ((H97.keep K105 (fun h => h)).loads (by kernel_rfl)), ((H97.keep K105 (fun h => h)).loads (by kernel_rfl)), ((H97.keep K105 (fun h => h)).loads (by kernel_rfl)), ((H97.keep K105 (fun h => h)).loads (by kernel_rfl)), ((H97.keep K105 (fun h => h)).loads (by kernel_rfl)), ((H97.keep K105 (fun h => h)).loads (by kernel_rfl)), ((H97.keep K105 (fun h => h)).loads (by kernel_rfl)), ((H97.keep K105 (fun h => h)).loads (by kernel_rfl)), ((H97.keep K105 (fun h => h)).loads (by kernel_rfl)), ((H97.keep K105 (fun h => h)).loads (by kernel_rfl))⟩, ?_⟩)
              have H106 := H97.keep K105 (fun h => h)
              clear H97
              have H107 := H99.keep K105 (fun h => h)
              clear H99
              have H108 := H100.keep K105 (fun h => h)
              clear H100
              have H109 := H101.keep K105 (fun h => h)
              clear H101
              have H110 := H102.keep K105 (fun h => h)
              clear H102
              have K111 := K103.trans K105 (U := (fun i => i = b ∨ i = go ∨ i = ge)) (fun i h1 h2 => h2) (fun i h1 h2 => by exact h2.elim)
              clear K103
              refine Dr.strong (S' := (fun wz => Keeps (fun i => i = b) w104 wz ∧ Loads Try.prog wz 44 ⟨b, 1, none⟩ (Value.slice (some ⟨go, 0, none⟩) 16 co) ∧ Loads Try.prog wz 44 ⟨b, 1, none⟩ (Value.slice (some ⟨go, 0, none⟩) 16 co) ∧ Loads Try.prog wz 44 ⟨b, 1, none⟩ (Value.slice (some ⟨go, 0, none⟩) 16 co) ∧ Loads Try.prog wz 44 ⟨b, 1, none⟩ (Value.slice (some ⟨go, 0, none⟩) 16 co) ∧ Loads Try.prog wz 44 ⟨b, 1, none⟩ (Value.slice (some ⟨go, 0, none⟩) 16 co) ∧ Loads Try.prog wz 44 ⟨b, 1, none⟩ (Value.slice (some ⟨go, 0, none⟩) 16 co) ∧ Loads Try.prog wz 44 ⟨b, 1, none⟩ (Value.slice (some ⟨go, 0, none⟩) 16 co) ∧ Loads Try.prog wz 44 ⟨b, 1, none⟩ (Value.slice (some ⟨go, 0, none⟩) 16 co) ∧ Loads Try.prog wz 45 ⟨b, 2, none⟩ (Value.slice (some ⟨ge, 0, none⟩) 16 ce) ∧ Loads Try.prog wz 44 ⟨b, 1, none⟩ (Value.slice (some ⟨go, 0, none⟩) 16 co) ∧ Loads Try.prog wz 45 ⟨b, 2, none⟩ (Value.slice (some ⟨ge, 0, none⟩) 16 ce) ∧ Loads Try.prog wz 44 ⟨b, 1, none⟩ (Value.slice (some ⟨go, 0, none⟩) 16 co) ∧ Loads Try.prog wz 45 ⟨b, 2, none⟩ (Value.slice (some ⟨ge, 0, none⟩) 16 ce) ∧ Loads Try.prog wz 44 ⟨b, 1, none⟩ (Value.slice (some ⟨go, 0, none⟩) 16 co) ∧ Loads Try.prog wz 45 ⟨b, 2, none⟩ (Value.slice (some ⟨ge, 0, none⟩) 16 ce) ∧ Loads Try.prog wz 44 ⟨b, 1, none⟩ (Value.slice (some ⟨go, 0, none⟩) 16 co) ∧ Loads Try.prog wz 45 ⟨b, 2, none⟩ (Value.slice (some ⟨ge, 0, none⟩) 16 ce) ∧ Loads Try.prog wz 44 ⟨b, 1, none⟩ (Value.slice (some ⟨go, 0, none⟩) 16 co) ∧ Loads Try.prog wz 45 ⟨b, 2, none⟩ (Value.slice (some ⟨ge, 0, none⟩) 16 ce) ∧ Loads Try.prog wz 2 ⟨b, 3, none⟩ (i64 (c.began + 1)))) ⟨((Keeps.refl w104).mono (fun _ _ h => h.elim)), (H106.loads (by kernel_rfl)), (H106.loads (by kernel_rfl)), (H106.loads (by kernel_rfl)), (H106.loads (by kernel_rfl)), (H106.loads (by kernel_rfl)), (H106.loads (by kernel_rfl)), (H106.loads (by kernel_rfl)), (H106.loads (by kernel_rfl)), (H106.loads (by kernel_rfl)), (H106.loads (by kernel_rfl)), (H106.loads (by kernel_rfl)), (H106.loads (by kernel_rfl)), (H106.loads (by kernel_rfl)), (H106.loads (by kernel_rfl)), (H106.loads (by kernel_rfl)), (H106.loads (by kernel_rfl)), (H106.loads (by kernel_rfl)), (H106.loads (by kernel_rfl)), (H106.loads (by kernel_rfl)), (H106.loads (by kernel_rfl))⟩ (fun wz hx => ⟨K105.trans hx.1 (fun _ _ h => h.elim) (fun _ _ h => h), hx.2⟩) ?_
              clear K105
              refine Dr.takes (fuel' := 28) (is' := [1, 0]) [0, 1] [(0, (Value.pointer (some ⟨b, 0, none⟩))), (3, (Value.pointer (some ⟨b1, 0, none⟩))), (4, (Value.pointer (some ⟨b11, 0, none⟩))), (7, (i64 x.kind)), (52, (Value.pointer (some ⟨b, 0, none⟩))), (53, (Value.pointer (some ⟨b1, 1, none⟩)))] (by kernel_rfl) rfl (by kernel_rfl) ?_
              refine Dr.take (i := 2) (v := (i64 x.slot)) (by kernel_rfl) (by kernel_rfl) (fun wz hS => Runs.load (t := 3) (a := ⟨b1, 1, none⟩) (by kernel_rfl) ((H109.keep hS.1 (by intro h; change b1 = b at h; omega)).loads (by kernel_rfl))) (d := (some 54)) (by kernel_rfl) rfl ?_
              refine Dr.takes (fuel' := 24) (is' := [5, 4, 3, 2, 1, 0]) [3, 4, 5] [(0, (Value.pointer (some ⟨b, 0, none⟩))), (3, (Value.pointer (some ⟨b1, 0, none⟩))), (4, (Value.pointer (some ⟨b11, 0, none⟩))), (7, (i64 x.kind)), (52, (Value.pointer (some ⟨b, 0, none⟩))), (54, (i64 x.slot)), (57, (Value.pointer (some ⟨b, 1, none⟩)))] (by kernel_rfl) rfl (by kernel_rfl) ?_
              refine Dr.take (i := 6) (v := (Value.slice (some ⟨go, 0, none⟩) 16 co)) (by kernel_rfl) (by kernel_rfl) (fun wz hS => Runs.load (t := 44) (a := ⟨b, 1, none⟩) (by kernel_rfl) hS.2.1) (d := (some 58)) (by kernel_rfl) rfl ?_
              refine Dr.takes (fuel' := 22) (is' := [7, 6, 5, 4, 3, 2, 1, 0]) [7] [(0, (Value.pointer (some ⟨b, 0, none⟩))), (3, (Value.pointer (some ⟨b1, 0, none⟩))), (4, (Value.pointer (some ⟨b11, 0, none⟩))), (7, (i64 x.kind)), (52, (Value.pointer (some ⟨b, 0, none⟩))), (54, (i64 x.slot)), (58, (Value.slice (some ⟨go, 0, none⟩) 16 co)), (59, (Value.pointer (some ⟨b1, 1, none⟩)))] (by kernel_rfl) rfl (by kernel_rfl) ?_
              refine Dr.take (i := 8) (v := (i64 x.slot)) (by kernel_rfl) (by kernel_rfl) (fun wz hS => Runs.load (t := 3) (a := ⟨b1, 1, none⟩) (by kernel_rfl) ((H109.keep hS.1 (by intro h; change b1 = b at h; omega)).loads (by kernel_rfl))) (d := (some 60)) (by kernel_rfl) rfl ?_
              refine Dr.take (i := 9) (v := (Value.pointer (some ⟨go, (x.slot).toNat, none⟩))) (by kernel_rfl) (by kernel_rfl) (fun wz hS => Runs.ixSlice (k := IntKind.i64) (t := 44) (b := go) (off := 0) (len := 16) (cap := co) (s := 1) (off' := (x.slot).toNat) (i := x.slot) (by kernel_rfl) (by kernel_rfl) (by omega) (by omega) (by omega)) (d := (some 61)) (by kernel_rfl) rfl ?_
              refine Dr.take (i := 10) (v := (i64 (c.owner.getD ((x.slot).toNat) 0))) (by kernel_rfl) (by kernel_rfl) (fun wz hS => Runs.load (t := 3) (a := ⟨go, (x.slot).toNat, none⟩) (by kernel_rfl) ((H107.keep hS.1 (by intro h; change go = b at h; omega)).loads (loadC1 (by kernel_rfl) (intsR_at _ _ ((x.slot).toNat) (by rw [h.ok.o]; omega))))) (d := (some 62)) (by kernel_rfl) rfl ?_
              refine Dr.takes (fuel' := 18) (is' := [11, 10, 9, 8, 7, 6, 5, 4, 3, 2, 1, 0]) [11] [(0, (Value.pointer (some ⟨b, 0, none⟩))), (3, (Value.pointer (some ⟨b1, 0, none⟩))), (4, (Value.pointer (some ⟨b11, 0, none⟩))), (7, (i64 x.kind)), (52, (Value.pointer (some ⟨b, 0, none⟩))), (54, (i64 x.slot)), (62, (i64 (c.owner.getD ((x.slot).toNat) 0))), (63, (Value.pointer (some ⟨b1, 2, none⟩)))] (by kernel_rfl) rfl (by kernel_rfl) ?_
              refine Dr.take (i := 12) (v := (i64 x.shard)) (by kernel_rfl) (by kernel_rfl) (fun wz hS => Runs.load (t := 3) (a := ⟨b1, 2, none⟩) (by kernel_rfl) ((H109.keep hS.1 (by intro h; change b1 = b at h; omega)).loads (by kernel_rfl))) (d := (some 64)) (by kernel_rfl) rfl ?_
              refine Dr.takes (fuel' := 14) (is' := [15, 14, 13, 12, 11, 10, 9, 8, 7, 6, 5, 4, 3, 2, 1, 0]) [13, 14, 15] [(0, (Value.pointer (some ⟨b, 0, none⟩))), (3, (Value.pointer (some ⟨b1, 0, none⟩))), (4, (Value.pointer (some ⟨b11, 0, none⟩))), (7, (i64 x.kind)), (52, (Value.pointer (some ⟨b, 0, none⟩))), (54, (i64 x.slot)), (62, (i64 (c.owner.getD ((x.slot).toNat) 0))), (64, (i64 x.shard)), (67, (Value.pointer (some ⟨b, 2, none⟩)))] (by kernel_rfl) rfl (by kernel_rfl) ?_
              refine Dr.take (i := 16) (v := (Value.slice (some ⟨ge, 0, none⟩) 16 ce)) (by kernel_rfl) (by kernel_rfl) (fun wz hS => Runs.load (t := 45) (a := ⟨b, 2, none⟩) (by kernel_rfl) hS.2.2.2.2.2.2.2.2.2.1) (d := (some 68)) (by kernel_rfl) rfl ?_
              refine Dr.takes (fuel' := 12) (is' := [17, 16, 15, 14, 13, 12, 11, 10, 9, 8, 7, 6, 5, 4, 3, 2, 1, 0]) [17] [(0, (Value.pointer (some ⟨b, 0, none⟩))), (3, (Value.pointer (some ⟨b1, 0, none⟩))), (4, (Value.pointer (some ⟨b11, 0, none⟩))), (7, (i64 x.kind)), (52, (Value.pointer (some ⟨b, 0, none⟩))), (54, (i64 x.slot)), (62, (i64 (c.owner.getD ((x.slot).toNat) 0))), (64, (i64 x.shard)), (68, (Value.slice (some ⟨ge, 0, none⟩) 16 ce)), (69, (Value.pointer (some ⟨b1, 1, none⟩)))] (by kernel_rfl) rfl (by kernel_rfl) ?_
              refine Dr.take (i := 18) (v := (i64 x.slot)) (by kernel_rfl) (by kernel_rfl) (fun wz hS => Runs.load (t := 3) (a := ⟨b1, 1, none⟩) (by kernel_rfl) ((H109.keep hS.1 (by intro h; change b1 = b at h; omega)).loads (by kernel_rfl))) (d := (some 70)) (by kernel_rfl) rfl ?_
              refine Dr.take (i := 19) (v := (Value.pointer (some ⟨ge, (x.slot).toNat, none⟩))) (by kernel_rfl) (by kernel_rfl) (fun wz hS => Runs.ixSlice (k := IntKind.i64) (t := 45) (b := ge) (off := 0) (len := 16) (cap := ce) (s := 1) (off' := (x.slot).toNat) (i := x.slot) (by kernel_rfl) (by kernel_rfl) (by omega) (by omega) (by omega)) (d := (some 71)) (by kernel_rfl) rfl ?_
              refine Dr.take (i := 20) (v := (i64 (c.epoch.getD ((x.slot).toNat) 0))) (by kernel_rfl) (by kernel_rfl) (fun wz hS => Runs.load (t := 2) (a := ⟨ge, (x.slot).toNat, none⟩) (by kernel_rfl) ((H108.keep hS.1 (by intro h; change ge = b at h; omega)).loads (loadC1 (by kernel_rfl) (intsR_at _ _ ((x.slot).toNat) (by rw [h.ok.e]; omega))))) (d := (some 72)) (by kernel_rfl) rfl ?_
              refine Dr.takes (fuel' := 8) (is' := [21, 20, 19, 18, 17, 16, 15, 14, 13, 12, 11, 10, 9, 8, 7, 6, 5, 4, 3, 2, 1, 0]) [21] [(0, (Value.pointer (some ⟨b, 0, none⟩))), (3, (Value.pointer (some ⟨b1, 0, none⟩))), (4, (Value.pointer (some ⟨b11, 0, none⟩))), (7, (i64 x.kind)), (52, (Value.pointer (some ⟨b, 0, none⟩))), (54, (i64 x.slot)), (62, (i64 (c.owner.getD ((x.slot).toNat) 0))), (64, (i64 x.shard)), (73, (i64 (IntKind.i64.wrap ((c.epoch.getD ((x.slot).toNat) 0) + 1))))] (by kernel_rfl) rfl (by kernel_rfl) ?_
              have := hep ((x.slot).toNat) (by omega)
              have e112 : IntKind.i64.wrap ((c.epoch.getD ((x.slot).toNat) 0) + 1) = (c.epoch.getD ((x.slot).toNat) 0) + 1 := wrap_i64 (by omega) (by omega)
              rw [e112]
              refine Dr.takes (fuel' := 5) (is' := [24, 23, 22, 21, 20, 19, 18, 17, 16, 15, 14, 13, 12, 11, 10, 9, 8, 7, 6, 5, 4, 3, 2, 1, 0]) [22, 23, 24] [(0, (Value.pointer (some ⟨b, 0, none⟩))), (3, (Value.pointer (some ⟨b1, 0, none⟩))), (4, (Value.pointer (some ⟨b11, 0, none⟩))), (7, (i64 x.kind)), (52, (Value.pointer (some ⟨b, 0, none⟩))), (54, (i64 x.slot)), (62, (i64 (c.owner.getD ((x.slot).toNat) 0))), (64, (i64 x.shard)), (73, (i64 ((c.epoch.getD ((x.slot).toNat) 0) + 1))), (76, (Value.pointer (some ⟨b, 3, none⟩)))] (by kernel_rfl) rfl (by kernel_rfl) ?_
              refine Dr.take (i := 25) (v := (i64 (c.began + 1))) (by kernel_rfl) (by kernel_rfl) (fun wz hS => Runs.load (t := 2) (a := ⟨b, 3, none⟩) (by kernel_rfl) hS.2.2.2.2.2.2.2.2.2.2.2.2.2.2.2.2.2.2.2.2) (d := (some 77)) (by kernel_rfl) rfl ?_
              refine Dr.takes (fuel' := 1) (is' := [28, 27, 26, 25, 24, 23, 22, 21, 20, 19, 18, 17, 16, 15, 14, 13, 12, 11, 10, 9, 8, 7, 6, 5, 4, 3, 2, 1, 0]) [26, 27, 28] [(0, (Value.pointer (some ⟨b, 0, none⟩))), (3, (Value.pointer (some ⟨b1, 0, none⟩))), (4, (Value.pointer (some ⟨b11, 0, none⟩))), (7, (i64 x.kind)), (78, (agg [(i64 x.slot), (i64 (c.owner.getD ((x.slot).toNat) 0)), (i64 x.shard), (i64 ((c.epoch.getD ((x.slot).toNat) 0) + 1)), (i64 1), (i64 (c.began + 1))])), (80, (Value.pointer (some ⟨b, 4, none⟩)))] (by kernel_rfl) rfl (by kernel_rfl) ?_
              refine Dr.put (i := 29) (t := 52) (b := b) (off := 4) (v := (agg [(i64 x.slot), (i64 (c.owner.getD ((x.slot).toNat) 0)), (i64 x.shard), (i64 ((c.epoch.getD ((x.slot).toNat) 0) + 1)), (i64 1), (i64 (c.began + 1))])) (ys := [(i64 c.shards), (Value.slice (some ⟨go, 0, none⟩) 16 co), (Value.slice (some ⟨ge, 0, none⟩) 16 ce), (i64 (c.began + 1)), (i64 x.slot), (i64 (c.owner.getD ((x.slot).toNat) 0)), (i64 x.shard), (i64 ((c.epoch.getD ((x.slot).toNat) 0) + 1)), (i64 1), (i64 (c.began + 1)), (i64 c.audit), (i64 c.phase)]) (by kernel_rfl) (by kernel_rfl) (by kernel_rfl) H106 (by kernel_rfl) (d := none) (by kernel_rfl) rfl (fun w113 H114 K115 => ?_)
              clear H106
              have H116 := H107.keep K115 (by intro h; change go = b at h; omega)
              clear H107
              have H117 := H108.keep K115 (by intro h; change ge = b at h; omega)
              clear H108
              have H118 := H109.keep K115 (by intro h; change b1 = b at h; omega)
              clear H109
              have H119 := H110.keep K115 (by intro h; change b11 = b at h; omega)
              clear H110
              have K120 := K111.trans K115 (U := (fun i => i = b ∨ i = go ∨ i = ge)) (fun i h1 h2 => h2) (fun i h1 h2 => by have h2 : i = b := h2; show i = b ∨ i = go ∨ i = ge; omega)
              clear K111
              refine ⟨⟨K115, (H114.loads (by kernel_rfl)), (H114.loads (by kernel_rfl)), (H114.loads (by kernel_rfl)), (H114.loads (by kernel_rfl)), (H114.loads (by kernel_rfl)), (H114.loads (by kernel_rfl)), (H114.loads (by kernel_rfl)), (H114.loads (by kernel_rfl)), (H114.loads (by kernel_rfl)), (H114.loads (by kernel_rfl)), (H114.loads (by kernel_rfl)), (H114.loads (by kernel_rfl)), (H114.loads (by kernel_rfl)), (H114.loads (by kernel_rfl)), (H114.loads (by kernel_rfl)), (H114.loads (by kernel_rfl)), (H114.loads (by kernel_rfl)), (H114.loads (by kernel_rfl)), (H114.loads (by kernel_rfl)), (H114.loads (by kernel_rfl))⟩, ?_⟩
              refine Dr.strong (S' := (fun wz => Keeps (fun i => i = b) w113 wz ∧ Loads Try.prog wz 44 ⟨b, 1, none⟩ (Value.slice (some ⟨go, 0, none⟩) 16 co) ∧ Loads Try.prog wz 44 ⟨b, 1, none⟩ (Value.slice (some ⟨go, 0, none⟩) 16 co) ∧ Loads Try.prog wz 44 ⟨b, 1, none⟩ (Value.slice (some ⟨go, 0, none⟩) 16 co) ∧ Loads Try.prog wz 44 ⟨b, 1, none⟩ (Value.slice (some ⟨go, 0, none⟩) 16 co) ∧ Loads Try.prog wz 44 ⟨b, 1, none⟩ (Value.slice (some ⟨go, 0, none⟩) 16 co) ∧ Loads Try.prog wz 44 ⟨b, 1, none⟩ (Value.slice (some ⟨go, 0, none⟩) 16 co) ∧ Loads Try.prog wz 44 ⟨b, 1, none⟩ (Value.slice (some ⟨go, 0, none⟩) 16 co) ∧ Loads Try.prog wz 44 ⟨b, 1, none⟩ (Value.slice (some ⟨go, 0, none⟩) 16 co) ∧ Loads Try.prog wz 45 ⟨b, 2, none⟩ (Value.slice (some ⟨ge, 0, none⟩) 16 ce) ∧ Loads Try.prog wz 44 ⟨b, 1, none⟩ (Value.slice (some ⟨go, 0, none⟩) 16 co) ∧ Loads Try.prog wz 45 ⟨b, 2, none⟩ (Value.slice (some ⟨ge, 0, none⟩) 16 ce) ∧ Loads Try.prog wz 44 ⟨b, 1, none⟩ (Value.slice (some ⟨go, 0, none⟩) 16 co) ∧ Loads Try.prog wz 45 ⟨b, 2, none⟩ (Value.slice (some ⟨ge, 0, none⟩) 16 ce) ∧ Loads Try.prog wz 44 ⟨b, 1, none⟩ (Value.slice (some ⟨go, 0, none⟩) 16 co) ∧ Loads Try.prog wz 45 ⟨b, 2, none⟩ (Value.slice (some ⟨ge, 0, none⟩) 16 ce) ∧ Loads Try.prog wz 44 ⟨b, 1, none⟩ (Value.slice (some ⟨go, 0, none⟩) 16 co) ∧ Loads Try.prog wz 45 ⟨b, 2, none⟩ (Value.slice (some ⟨ge, 0, none⟩) 16 ce) ∧ Loads Try.prog wz 44 ⟨b, 1, none⟩ (Value.slice (some ⟨go, 0, none⟩) 16 co) ∧ Loads Try.prog wz 45 ⟨b, 2, none⟩ (Value.slice (some ⟨ge, 0, none⟩) 16 ce) ∧ Loads Try.prog wz 2 ⟨b, 3, none⟩ (i64 (c.began + 1)))) ⟨((Keeps.refl w113).mono (fun _ _ h => h.elim)), (H114.loads (by kernel_rfl)), (H114.loads (by kernel_rfl)), (H114.loads (by kernel_rfl)), (H114.loads (by kernel_rfl)), (H114.loads (by kernel_rfl)), (H114.loads (by kernel_rfl)), (H114.loads (by kernel_rfl)), (H114.loads (by kernel_rfl)), (H114.loads (by kernel_rfl)), (H114.loads (by kernel_rfl)), (H114.loads (by kernel_rfl)), (H114.loads (by kernel_rfl)), (H114.loads (by kernel_rfl)), (H114.loads (by kernel_rfl)), (H114.loads (by kernel_rfl)), (H114.loads (by kernel_rfl)), (H114.loads (by kernel_rfl)), (H114.loads (by kernel_rfl)), (H114.loads (by kernel_rfl)), (H114.loads (by kernel_rfl))⟩ (fun wz hx => ⟨K115.trans hx.1 (fun _ _ h => by have h : _ = b := h; show _ = b; omega) (fun _ _ h => h), hx.2⟩) ?_
              clear K115
              refine Dr.done (by kernel_rfl) ?_
              refine q_seq (by kernel_rfl) ?_
              refine q_region (by kernel_rfl) ?_
              refine Ops.regs 3 [(0, (Value.pointer (some ⟨b, 0, none⟩))), (3, (Value.pointer (some ⟨b1, 0, none⟩))), (4, (Value.pointer (some ⟨b11, 0, none⟩))), (7, (i64 x.kind)), (83, (Value.pointer (some ⟨b, 3, none⟩)))] (j := 3) (by kernel_rfl) (by kernel_rfl) ?_
              refine Ops.go (v := (i64 (c.began + 1))) (by kernel_rfl) (Runs.load (t := 2) (a := ⟨b, 3, none⟩) (by kernel_rfl) (H114.loads (by kernel_rfl))) (d := (some 84)) (by kernel_rfl) rfl ?_
              refine Ops.regs 1 [(0, (Value.pointer (some ⟨b, 0, none⟩))), (3, (Value.pointer (some ⟨b1, 0, none⟩))), (4, (Value.pointer (some ⟨b11, 0, none⟩))), (7, (i64 x.kind)), (85, (agg [(i64 0), (Value.bool true), (i64 (c.began + 1))]))] (j := 5) (by kernel_rfl) (by kernel_rfl) ?_
              refine Ops.put (t := 55) (b := b11) (off := 0) (v := (agg [(i64 0), (Value.bool true), (i64 (c.began + 1))])) (ys := [(i64 0), (Value.bool true), (i64 (c.began + 1))]) (by kernel_rfl) (by kernel_rfl) H119 (by kernel_rfl) (d := none) (by kernel_rfl) rfl (fun w121 H122 K123 => ?_)
              clear H119
              have H124 := H114.keep K123 (by intro h; change b = b11 at h; omega)
              clear H114
              have H125 := H116.keep K123 (by intro h; change go = b11 at h; omega)
              clear H116
              have H126 := H117.keep K123 (by intro h; change ge = b11 at h; omega)
              clear H117
              have H127 := H118.keep K123 (by intro h; change b1 = b11 at h; omega)
              clear H118
              have K128 := K120.trans K123 (U := (fun i => i = b ∨ i = go ∨ i = ge)) (fun i h1 h2 => h2) (fun i h1 h2 => by have h2 : i = b11 := h2; show i = b ∨ i = go ∨ i = ge; omega)
              clear K120
              clear K123
              refine Ops.done (by kernel_rfl) ?_
              refine q_ret (by kernel_rfl) ?_
              refine ⟨(agg [(i64 0), (Value.bool true), (i64 (c.began + 1))]), retv_cell rfl rfl (H122.loads (by kernel_rfl)), ?_⟩
              have e : c.do_ x = (⟨0, true, c.began + 1⟩, (⟨c.shards, c.owner, c.epoch, c.began + 1, x.slot, c.owner.getD ((x.slot).toNat) 0, x.shard, (c.epoch.getD ((x.slot).toNat) 0) + 1, 1, c.began + 1, c.audit, c.phase⟩ : Ch)) := do1_go (by omega) (by omega) (show ¬ (c.mp ≠ 0 ∨ c.phase ≠ 0 ∨ 1152921504606846976 ≤ c.began) from by omega) (by omega)
              exact ⟨by rw [e]; rfl, K128, by rw [e]; exact H124, by rw [e]; exact H125, by rw [e]; exact H126⟩
  · rw [h22]
    have p129 : ¬ (x.kind = 1) := of_beq_f h22
    refine q_seq (by kernel_rfl) ?_
    refine q_region (by kernel_rfl) ?_
    refine Ops.regs 2 [(0, (Value.pointer (some ⟨b, 0, none⟩))), (3, (Value.pointer (some ⟨b1, 0, none⟩))), (4, (Value.pointer (some ⟨b11, 0, none⟩))), (7, (i64 x.kind)), (86, (Value.bool (x.kind == 2)))] (j := 2) (by kernel_rfl) (by kernel_rfl) ?_
    refine Ops.done (by kernel_rfl) ?_
    refine q_cond (o := .tmp 86) (b := (x.kind == 2)) (by kernel_rfl) rfl (fun h130 => ?_) (fun h130 => ?_)
    · rw [h130]
      have p131 : x.kind = 2 := of_beq_t h130
      refine q_seq (by kernel_rfl) ?_
      refine q_seq (by kernel_rfl) ?_
      refine q_draw (fun wz => Keeps none_ w12 wz) 26 (by kernel_rfl) (by kernel_rfl) (by kernel_rfl) (fun w132 K133 _ _ => ⟨K133, ?_⟩)
      have H134 := H17.keep K133 (fun h => h)
      clear H17
      have H135 := H18.keep K133 (fun h => h)
      clear H18
      have H136 := H19.keep K133 (fun h => h)
      clear H19
      have H137 := H20.keep K133 (fun h => h)
      clear H20
      have H138 := H14.keep K133 (fun h => h)
      clear H14
      have K139 := K21.trans K133 (U := (fun i => i = b ∨ i = go ∨ i = ge)) (fun i h1 h2 => h2) (fun i h1 h2 => by exact h2.elim)
      clear K21
      refine Dr.strong (S' := (fun wz => Keeps none_ w132 wz)) (Keeps.refl w132) (fun wz hx => K133.trans hx (fun _ _ h => h) (fun _ _ h => h)) ?_
      clear K133
      refine Dr.takes (fuel' := 22) (is' := [3, 2, 1, 0]) [0, 1, 2, 3] [(0, (Value.pointer (some ⟨b, 0, none⟩))), (3, (Value.pointer (some ⟨b1, 0, none⟩))), (4, (Value.pointer (some ⟨b11, 0, none⟩))), (7, (i64 x.kind)), (91, (Value.pointer (some ⟨b, 8, none⟩)))] (by kernel_rfl) rfl (by kernel_rfl) ?_
      refine Dr.take (i := 4) (v := (i64 c.mp)) (by kernel_rfl) (by kernel_rfl) (fun wz hS => Runs.load (t := 3) (a := ⟨b, 8, none⟩) (by kernel_rfl) ((H134.keep hS (fun h => h)).loads (by kernel_rfl))) (d := (some 92)) (by kernel_rfl) rfl ?_
      refine Dr.takes (fuel' := 19) (is' := [6, 5, 4, 3, 2, 1, 0]) [5, 6] [(0, (Value.pointer (some ⟨b, 0, none⟩))), (3, (Value.pointer (some ⟨b1, 0, none⟩))), (4, (Value.pointer (some ⟨b11, 0, none⟩))), (7, (i64 x.kind)), (94, (Value.bool (c.mp == 0)))] (by kernel_rfl) rfl (by kernel_rfl) ?_
      refine Dr.split (c.mp == 0) (fun h140 => ?_) (fun h140 => ?_)
      · rw [h140]
        have p141 : c.mp = 0 := of_beq_t h140
        refine Dr.takes (fuel' := 0) (is' := [25, 24, 23, 22, 21, 20, 19, 18, 17, 16, 15, 14, 13, 12, 11, 10, 9, 8, 7, 6, 5, 4, 3, 2, 1, 0]) [7, 8, 9, 10, 11, 12, 13, 14, 15, 16, 17, 18, 19, 20, 21, 22, 23, 24, 25] [(0, (Value.pointer (some ⟨b, 0, none⟩))), (3, (Value.pointer (some ⟨b1, 0, none⟩))), (4, (Value.pointer (some ⟨b11, 0, none⟩))), (7, (i64 x.kind)), (113, (Value.bool true))] (by kernel_rfl) rfl (by kernel_rfl) ?_
        refine Dr.done (by kernel_rfl) ?_
        refine q_then (o := .tmp 113) (by kernel_rfl) rfl ?_
        refine q_seq (by kernel_rfl) ?_
        refine q_region (by kernel_rfl) ?_
        refine Ops.regs 1 [(0, (Value.pointer (some ⟨b, 0, none⟩))), (3, (Value.pointer (some ⟨b1, 0, none⟩))), (4, (Value.pointer (some ⟨b11, 0, none⟩))), (7, (i64 x.kind)), (114, (agg [(i64 5), (Value.bool false), (i64 0)]))] (j := 1) (by kernel_rfl) (by kernel_rfl) ?_
        refine Ops.put (t := 55) (b := b11) (off := 0) (v := (agg [(i64 5), (Value.bool false), (i64 0)])) (ys := [(i64 5), (Value.bool false), (i64 0)]) (by kernel_rfl) (by kernel_rfl) H138 (by kernel_rfl) (d := none) (by kernel_rfl) rfl (fun w142 H143 K144 => ?_)
        clear H138
        have H145 := H134.keep K144 (by intro h; change b = b11 at h; omega)
        clear H134
        have H146 := H135.keep K144 (by intro h; change go = b11 at h; omega)
        clear H135
        have H147 := H136.keep K144 (by intro h; change ge = b11 at h; omega)
        clear H136
        have H148 := H137.keep K144 (by intro h; change b1 = b11 at h; omega)
        clear H137
        have K149 := K139.trans K144 (U := (fun i => i = b ∨ i = go ∨ i = ge)) (fun i h1 h2 => h2) (fun i h1 h2 => by have h2 : i = b11 := h2; show i = b ∨ i = go ∨ i = ge; omega)
        clear K139
        clear K144
        refine Ops.done (by kernel_rfl) ?_
        refine q_ret (by kernel_rfl) ?_
        refine ⟨(agg [(i64 5), (Value.bool false), (i64 0)]), retv_cell rfl rfl (H143.loads (by kernel_rfl)), ?_⟩
        have e : c.do_ x = (⟨5, false, 0⟩, (⟨c.shards, c.owner, c.epoch, c.began, c.ms, c.mf, c.mt, c.me, c.mp, c.mn, c.audit, c.phase⟩ : Ch)) := do2_bad (by omega) (by omega)
        exact ⟨by rw [e]; rfl, K149, by rw [e]; exact H145, by rw [e]; exact H146, by rw [e]; exact H147⟩
      · rw [h140]
        have p150 : ¬ (c.mp = 0) := of_beq_f h140
        refine Dr.takes (fuel' := 15) (is' := [10, 9, 8, 7, 6, 5, 4, 3, 2, 1, 0]) [7, 8, 9, 10] [(0, (Value.pointer (some ⟨b, 0, none⟩))), (3, (Value.pointer (some ⟨b1, 0, none⟩))), (4, (Value.pointer (some ⟨b11, 0, none⟩))), (7, (i64 x.kind)), (94, (Value.bool false)), (98, (Value.pointer (some ⟨b, 9, none⟩)))] (by kernel_rfl) rfl (by kernel_rfl) ?_
        refine Dr.take (i := 11) (v := (i64 c.mn)) (by kernel_rfl) (by kernel_rfl) (fun wz hS => Runs.load (t := 2) (a := ⟨b, 9, none⟩) (by kernel_rfl) ((H134.keep hS (fun h => h)).loads (by kernel_rfl))) (d := (some 99)) (by kernel_rfl) rfl ?_
        refine Dr.takes (fuel' := 13) (is' := [12, 11, 10, 9, 8, 7, 6, 5, 4, 3, 2, 1, 0]) [12] [(0, (Value.pointer (some ⟨b, 0, none⟩))), (3, (Value.pointer (some ⟨b1, 0, none⟩))), (4, (Value.pointer (some ⟨b11, 0, none⟩))), (7, (i64 x.kind)), (94, (Value.bool false)), (99, (i64 c.mn)), (100, (Value.pointer (some ⟨b1, 3, none⟩)))] (by kernel_rfl) rfl (by kernel_rfl) ?_
        refine Dr.take (i := 13) (v := (i64 x.n)) (by kernel_rfl) (by kernel_rfl) (fun wz hS => Runs.load (t := 2) (a := ⟨b1, 3, none⟩) (by kernel_rfl) ((H137.keep hS (fun h => h)).loads (by kernel_rfl))) (d := (some 101)) (by kernel_rfl) rfl ?_
        refine Dr.takes (fuel' := 9) (is' := [16, 15, 14, 13, 12, 11, 10, 9, 8, 7, 6, 5, 4, 3, 2, 1, 0]) [14, 15, 16] [(0, (Value.pointer (some ⟨b, 0, none⟩))), (3, (Value.pointer (some ⟨b1, 0, none⟩))), (4, (Value.pointer (some ⟨b11, 0, none⟩))), (7, (i64 x.kind)), (104, (Value.bool (c.mn != x.n)))] (by kernel_rfl) rfl (by kernel_rfl) ?_
        refine Dr.split (c.mn != x.n) (fun h151 => ?_) (fun h151 => ?_)
        · rw [h151]
          have p152 : ¬ (c.mn = x.n) := of_bne_t h151
          refine Dr.takes (fuel' := 0) (is' := [25, 24, 23, 22, 21, 20, 19, 18, 17, 16, 15, 14, 13, 12, 11, 10, 9, 8, 7, 6, 5, 4, 3, 2, 1, 0]) [17, 18, 19, 20, 21, 22, 23, 24, 25] [(0, (Value.pointer (some ⟨b, 0, none⟩))), (3, (Value.pointer (some ⟨b1, 0, none⟩))), (4, (Value.pointer (some ⟨b11, 0, none⟩))), (7, (i64 x.kind)), (113, (Value.bool true))] (by kernel_rfl) rfl (by kernel_rfl) ?_
          refine Dr.done (by kernel_rfl) ?_
          refine q_then (o := .tmp 113) (by kernel_rfl) rfl ?_
          refine q_seq (by kernel_rfl) ?_
          refine q_region (by kernel_rfl) ?_
          refine Ops.regs 1 [(0, (Value.pointer (some ⟨b, 0, none⟩))), (3, (Value.pointer (some ⟨b1, 0, none⟩))), (4, (Value.pointer (some ⟨b11, 0, none⟩))), (7, (i64 x.kind)), (114, (agg [(i64 5), (Value.bool false), (i64 0)]))] (j := 1) (by kernel_rfl) (by kernel_rfl) ?_
          refine Ops.put (t := 55) (b := b11) (off := 0) (v := (agg [(i64 5), (Value.bool false), (i64 0)])) (ys := [(i64 5), (Value.bool false), (i64 0)]) (by kernel_rfl) (by kernel_rfl) H138 (by kernel_rfl) (d := none) (by kernel_rfl) rfl (fun w153 H154 K155 => ?_)
          clear H138
          have H156 := H134.keep K155 (by intro h; change b = b11 at h; omega)
          clear H134
          have H157 := H135.keep K155 (by intro h; change go = b11 at h; omega)
          clear H135
          have H158 := H136.keep K155 (by intro h; change ge = b11 at h; omega)
          clear H136
          have H159 := H137.keep K155 (by intro h; change b1 = b11 at h; omega)
          clear H137
          have K160 := K139.trans K155 (U := (fun i => i = b ∨ i = go ∨ i = ge)) (fun i h1 h2 => h2) (fun i h1 h2 => by have h2 : i = b11 := h2; show i = b ∨ i = go ∨ i = ge; omega)
          clear K139
          clear K155
          refine Ops.done (by kernel_rfl) ?_
          refine q_ret (by kernel_rfl) ?_
          refine ⟨(agg [(i64 5), (Value.bool false), (i64 0)]), retv_cell rfl rfl (H154.loads (by kernel_rfl)), ?_⟩
          have e : c.do_ x = (⟨5, false, 0⟩, (⟨c.shards, c.owner, c.epoch, c.began, c.ms, c.mf, c.mt, c.me, c.mp, c.mn, c.audit, c.phase⟩ : Ch)) := do2_bad (by omega) (by omega)
          exact ⟨by rw [e]; rfl, K160, by rw [e]; exact H156, by rw [e]; exact H157, by rw [e]; exact H158⟩
        · rw [h151]
          have p161 : c.mn = x.n := of_bne_f h151
          refine Dr.takes (fuel' := 5) (is' := [20, 19, 18, 17, 16, 15, 14, 13, 12, 11, 10, 9, 8, 7, 6, 5, 4, 3, 2, 1, 0]) [17, 18, 19, 20] [(0, (Value.pointer (some ⟨b, 0, none⟩))), (3, (Value.pointer (some ⟨b1, 0, none⟩))), (4, (Value.pointer (some ⟨b11, 0, none⟩))), (7, (i64 x.kind)), (104, (Value.bool false)), (108, (Value.pointer (some ⟨b, 8, none⟩)))] (by kernel_rfl) rfl (by kernel_rfl) ?_
          refine Dr.take (i := 21) (v := (i64 c.mp)) (by kernel_rfl) (by kernel_rfl) (fun wz hS => Runs.load (t := 3) (a := ⟨b, 8, none⟩) (by kernel_rfl) ((H134.keep hS (fun h => h)).loads (by kernel_rfl))) (d := (some 109)) (by kernel_rfl) rfl ?_
          refine Dr.takes (fuel' := 3) (is' := [22, 21, 20, 19, 18, 17, 16, 15, 14, 13, 12, 11, 10, 9, 8, 7, 6, 5, 4, 3, 2, 1, 0]) [22] [(0, (Value.pointer (some ⟨b, 0, none⟩))), (3, (Value.pointer (some ⟨b1, 0, none⟩))), (4, (Value.pointer (some ⟨b11, 0, none⟩))), (7, (i64 x.kind)), (104, (Value.bool false)), (109, (i64 c.mp)), (110, (Value.pointer (some ⟨b1, 4, none⟩)))] (by kernel_rfl) rfl (by kernel_rfl) ?_
          refine Dr.take (i := 23) (v := (i64 x.phase)) (by kernel_rfl) (by kernel_rfl) (fun wz hS => Runs.load (t := 3) (a := ⟨b1, 4, none⟩) (by kernel_rfl) ((H137.keep hS (fun h => h)).loads (by kernel_rfl))) (d := (some 111)) (by kernel_rfl) rfl ?_
          refine Dr.takes (fuel' := 0) (is' := [25, 24, 23, 22, 21, 20, 19, 18, 17, 16, 15, 14, 13, 12, 11, 10, 9, 8, 7, 6, 5, 4, 3, 2, 1, 0]) [24, 25] [(0, (Value.pointer (some ⟨b, 0, none⟩))), (3, (Value.pointer (some ⟨b1, 0, none⟩))), (4, (Value.pointer (some ⟨b11, 0, none⟩))), (7, (i64 x.kind)), (113, (Value.bool (c.mp != x.phase)))] (by kernel_rfl) rfl (by kernel_rfl) ?_
          refine Dr.done (by kernel_rfl) ?_
          refine q_cond (o := .tmp 113) (b := (c.mp != x.phase)) (by kernel_rfl) rfl (fun h162 => ?_) (fun h162 => ?_)
          · rw [h162]
            have p163 : ¬ (c.mp = x.phase) := of_bne_t h162
            refine q_seq (by kernel_rfl) ?_
            refine q_region (by kernel_rfl) ?_
            refine Ops.regs 1 [(0, (Value.pointer (some ⟨b, 0, none⟩))), (3, (Value.pointer (some ⟨b1, 0, none⟩))), (4, (Value.pointer (some ⟨b11, 0, none⟩))), (7, (i64 x.kind)), (114, (agg [(i64 5), (Value.bool false), (i64 0)]))] (j := 1) (by kernel_rfl) (by kernel_rfl) ?_
            refine Ops.put (t := 55) (b := b11) (off := 0) (v := (agg [(i64 5), (Value.bool false), (i64 0)])) (ys := [(i64 5), (Value.bool false), (i64 0)]) (by kernel_rfl) (by kernel_rfl) H138 (by kernel_rfl) (d := none) (by kernel_rfl) rfl (fun w164 H165 K166 => ?_)
            clear H138
            have H167 := H134.keep K166 (by intro h; change b = b11 at h; omega)
            clear H134
            have H168 := H135.keep K166 (by intro h; change go = b11 at h; omega)
            clear H135
            have H169 := H136.keep K166 (by intro h; change ge = b11 at h; omega)
            clear H136
            have H170 := H137.keep K166 (by intro h; change b1 = b11 at h; omega)
            clear H137
            have K171 := K139.trans K166 (U := (fun i => i = b ∨ i = go ∨ i = ge)) (fun i h1 h2 => h2) (fun i h1 h2 => by have h2 : i = b11 := h2; show i = b ∨ i = go ∨ i = ge; omega)
            clear K139
            clear K166
            refine Ops.done (by kernel_rfl) ?_
            refine q_ret (by kernel_rfl) ?_
            refine ⟨(agg [(i64 5), (Value.bool false), (i64 0)]), retv_cell rfl rfl (H165.loads (by kernel_rfl)), ?_⟩
            have e : c.do_ x = (⟨5, false, 0⟩, (⟨c.shards, c.owner, c.epoch, c.began, c.ms, c.mf, c.mt, c.me, c.mp, c.mn, c.audit, c.phase⟩ : Ch)) := do2_bad (by omega) (by omega)
            exact ⟨by rw [e]; rfl, K171, by rw [e]; exact H167, by rw [e]; exact H168, by rw [e]; exact H169⟩
          · rw [h162]
            have p172 : c.mp = x.phase := of_bne_f h162
            refine q_skip (by kernel_rfl) ?_
            refine q_seq (by kernel_rfl) ?_
            refine q_region (by kernel_rfl) ?_
            refine Ops.regs 4 [(0, (Value.pointer (some ⟨b, 0, none⟩))), (3, (Value.pointer (some ⟨b1, 0, none⟩))), (4, (Value.pointer (some ⟨b11, 0, none⟩))), (7, (i64 x.kind)), (118, (Value.pointer (some ⟨b, 9, none⟩)))] (j := 4) (by kernel_rfl) (by kernel_rfl) ?_
            refine Ops.go (v := (i64 c.mn)) (by kernel_rfl) (Runs.load (t := 2) (a := ⟨b, 9, none⟩) (by kernel_rfl) (H134.loads (by kernel_rfl))) (d := (some 119)) (by kernel_rfl) rfl ?_
            refine Ops.regs 1 [(0, (Value.pointer (some ⟨b, 0, none⟩))), (3, (Value.pointer (some ⟨b1, 0, none⟩))), (4, (Value.pointer (some ⟨b11, 0, none⟩))), (5, (i64 c.mn)), (7, (i64 x.kind))] (j := 6) (by kernel_rfl) (by kernel_rfl) ?_
            refine Ops.done (by kernel_rfl) ?_
            refine q_seq (by kernel_rfl) ?_
            refine q_seq (by kernel_rfl) ?_
            refine q_region (by kernel_rfl) ?_
            refine Ops.regs 4 [(0, (Value.pointer (some ⟨b, 0, none⟩))), (3, (Value.pointer (some ⟨b1, 0, none⟩))), (4, (Value.pointer (some ⟨b11, 0, none⟩))), (5, (i64 c.mn)), (7, (i64 x.kind)), (123, (Value.pointer (some ⟨b, 8, none⟩)))] (j := 4) (by kernel_rfl) (by kernel_rfl) ?_
            refine Ops.go (v := (i64 c.mp)) (by kernel_rfl) (Runs.load (t := 3) (a := ⟨b, 8, none⟩) (by kernel_rfl) (H134.loads (by kernel_rfl))) (d := (some 124)) (by kernel_rfl) rfl ?_
            refine Ops.regs 1 [(0, (Value.pointer (some ⟨b, 0, none⟩))), (3, (Value.pointer (some ⟨b1, 0, none⟩))), (4, (Value.pointer (some ⟨b11, 0, none⟩))), (5, (i64 c.mn)), (7, (i64 x.kind)), (125, (Value.bool (c.mp == 2)))] (j := 6) (by kernel_rfl) (by kernel_rfl) ?_
            refine Ops.done (by kernel_rfl) ?_
            refine q_cond (o := .tmp 125) (b := (c.mp == 2)) (by kernel_rfl) rfl (fun h173 => ?_) (fun h173 => ?_)
            · rw [h173]
              have p174 : c.mp = 2 := of_beq_t h173
              refine q_seq (by kernel_rfl) ?_
              refine q_draw (fun wz => Keeps (fun i => i = go) w132 wz) 16 (by kernel_rfl) (by kernel_rfl) (by kernel_rfl) (fun w175 K176 _ _ => ⟨(K176.mono (fun _ _ h => h.elim)), ?_⟩)
              have H177 := H134.keep K176 (fun h => h)
              clear H134
              have H178 := H135.keep K176 (fun h => h)
              clear H135
              have H179 := H136.keep K176 (fun h => h)
              clear H136
              have H180 := H137.keep K176 (fun h => h)
              clear H137
              have H181 := H138.keep K176 (fun h => h)
              clear H138
              have K182 := K139.trans K176 (U := (fun i => i = b ∨ i = go ∨ i = ge)) (fun i h1 h2 => h2) (fun i h1 h2 => by exact h2.elim)
              clear K139
              refine Dr.strong (S' := (fun wz => Keeps (fun i => i = go) w175 wz)) ((Keeps.refl w175).mono (fun _ _ h => h.elim)) (fun wz hx => K176.trans hx (fun _ _ h => h.elim) (fun _ _ h => h)) ?_
              clear K176
              refine Dr.takes (fuel' := 13) (is' := [2, 1, 0]) [0, 1, 2] [(0, (Value.pointer (some ⟨b, 0, none⟩))), (3, (Value.pointer (some ⟨b1, 0, none⟩))), (4, (Value.pointer (some ⟨b11, 0, none⟩))), (5, (i64 c.mn)), (7, (i64 x.kind)), (128, (Value.pointer (some ⟨b, 1, none⟩)))] (by kernel_rfl) rfl (by kernel_rfl) ?_
              refine Dr.take (i := 3) (v := (Value.slice (some ⟨go, 0, none⟩) 16 co)) (by kernel_rfl) (by kernel_rfl) (fun wz hS => Runs.load (t := 44) (a := ⟨b, 1, none⟩) (by kernel_rfl) ((H177.keep hS (by intro h; change b = go at h; omega)).loads (by kernel_rfl))) (d := (some 129)) (by kernel_rfl) rfl ?_
              refine Dr.takes (fuel' := 8) (is' := [7, 6, 5, 4, 3, 2, 1, 0]) [4, 5, 6, 7] [(0, (Value.pointer (some ⟨b, 0, none⟩))), (3, (Value.pointer (some ⟨b1, 0, none⟩))), (4, (Value.pointer (some ⟨b11, 0, none⟩))), (5, (i64 c.mn)), (7, (i64 x.kind)), (129, (Value.slice (some ⟨go, 0, none⟩) 16 co)), (133, (Value.pointer (some ⟨b, 4, none⟩)))] (by kernel_rfl) rfl (by kernel_rfl) ?_
              refine Dr.take (i := 8) (v := (i64 c.ms)) (by kernel_rfl) (by kernel_rfl) (fun wz hS => Runs.load (t := 3) (a := ⟨b, 4, none⟩) (by kernel_rfl) ((H177.keep hS (by intro h; change b = go at h; omega)).loads (by kernel_rfl))) (d := (some 134)) (by kernel_rfl) rfl ?_
              refine Dr.takes (fuel' := 3) (is' := [12, 11, 10, 9, 8, 7, 6, 5, 4, 3, 2, 1, 0]) [9, 10, 11, 12] [(0, (Value.pointer (some ⟨b, 0, none⟩))), (3, (Value.pointer (some ⟨b1, 0, none⟩))), (4, (Value.pointer (some ⟨b11, 0, none⟩))), (5, (i64 c.mn)), (7, (i64 x.kind)), (129, (Value.slice (some ⟨go, 0, none⟩) 16 co)), (134, (i64 c.ms)), (138, (Value.pointer (some ⟨b, 6, none⟩)))] (by kernel_rfl) rfl (by kernel_rfl) ?_
              refine Dr.take (i := 13) (v := (i64 c.mt)) (by kernel_rfl) (by kernel_rfl) (fun wz hS => Runs.load (t := 3) (a := ⟨b, 6, none⟩) (by kernel_rfl) ((H177.keep hS (by intro h; change b = go at h; omega)).loads (by kernel_rfl))) (d := (some 139)) (by kernel_rfl) rfl ?_
              refine Dr.take (i := 14) (v := (Value.pointer (some ⟨go, (c.ms).toNat, none⟩))) (by kernel_rfl) (by kernel_rfl) (fun wz hS => Runs.ixSlice (k := IntKind.i64) (t := 44) (b := go) (off := 0) (len := 16) (cap := co) (s := 1) (off' := (c.ms).toNat) (i := c.ms) (by kernel_rfl) (by kernel_rfl) (by omega) (by omega) (by omega)) (d := (some 140)) (by kernel_rfl) rfl ?_
              refine Dr.put (i := 15) (t := 3) (b := go) (off := (c.ms).toNat) (v := (i64 c.mt)) (ys := (ints (c.owner.set ((c.ms).toNat) c.mt) ++ ro)) (by kernel_rfl) (by kernel_rfl) (by kernel_rfl) H178 (storeC1 (by kernel_rfl) rfl (by rw [List.length_append, ints_length, h.ok.o]; omega) (intsR_set _ _ ((c.ms).toNat) (by rw [h.ok.o]; omega) _)) (d := none) (by kernel_rfl) rfl (fun w183 H184 K185 => ?_)
              clear H178
              have H186 := H177.keep K185 (by intro h; change b = go at h; omega)
              clear H177
              have H187 := H179.keep K185 (by intro h; change ge = go at h; omega)
              clear H179
              have H188 := H180.keep K185 (by intro h; change b1 = go at h; omega)
              clear H180
              have H189 := H181.keep K185 (by intro h; change b11 = go at h; omega)
              clear H181
              have K190 := K182.trans K185 (U := (fun i => i = b ∨ i = go ∨ i = ge)) (fun i h1 h2 => h2) (fun i h1 h2 => by have h2 : i = go := h2; show i = b ∨ i = go ∨ i = ge; omega)
              clear K182
              refine ⟨K185, ?_⟩
              refine Dr.strong (S' := (fun wz => Keeps (fun i => i = go) w183 wz)) ((Keeps.refl w183).mono (fun _ _ h => h.elim)) (fun wz hx => K185.trans hx (fun _ _ h => by have h : _ = go := h; show _ = go; omega) (fun _ _ h => h)) ?_
              clear K185
              refine Dr.done (by kernel_rfl) ?_
              refine q_draw (fun wz => Keeps (fun i => i = ge) w183 wz) 16 (by kernel_rfl) (by kernel_rfl) (by kernel_rfl) (fun w191 K192 _ _ => ⟨(K192.mono (fun _ _ h => h.elim)), ?_⟩)
              have H193 := H186.keep K192 (fun h => h)
              clear H186
              have H194 := H184.keep K192 (fun h => h)
              clear H184
              have H195 := H187.keep K192 (fun h => h)
              clear H187
              have H196 := H188.keep K192 (fun h => h)
              clear H188
              have H197 := H189.keep K192 (fun h => h)
              clear H189
              have K198 := K190.trans K192 (U := (fun i => i = b ∨ i = go ∨ i = ge)) (fun i h1 h2 => h2) (fun i h1 h2 => by exact h2.elim)
              clear K190
              refine Dr.strong (S' := (fun wz => Keeps (fun i => i = ge) w191 wz)) ((Keeps.refl w191).mono (fun _ _ h => h.elim)) (fun wz hx => K192.trans hx (fun _ _ h => h.elim) (fun _ _ h => h)) ?_
              clear K192
              refine Dr.takes (fuel' := 13) (is' := [2, 1, 0]) [0, 1, 2] [(0, (Value.pointer (some ⟨b, 0, none⟩))), (3, (Value.pointer (some ⟨b1, 0, none⟩))), (4, (Value.pointer (some ⟨b11, 0, none⟩))), (5, (i64 c.mn)), (7, (i64 x.kind)), (143, (Value.pointer (some ⟨b, 2, none⟩)))] (by kernel_rfl) rfl (by kernel_rfl) ?_
              refine Dr.take (i := 3) (v := (Value.slice (some ⟨ge, 0, none⟩) 16 ce)) (by kernel_rfl) (by kernel_rfl) (fun wz hS => Runs.load (t := 45) (a := ⟨b, 2, none⟩) (by kernel_rfl) ((H193.keep hS (by intro h; change b = ge at h; omega)).loads (by kernel_rfl))) (d := (some 144)) (by kernel_rfl) rfl ?_
              refine Dr.takes (fuel' := 8) (is' := [7, 6, 5, 4, 3, 2, 1, 0]) [4, 5, 6, 7] [(0, (Value.pointer (some ⟨b, 0, none⟩))), (3, (Value.pointer (some ⟨b1, 0, none⟩))), (4, (Value.pointer (some ⟨b11, 0, none⟩))), (5, (i64 c.mn)), (7, (i64 x.kind)), (144, (Value.slice (some ⟨ge, 0, none⟩) 16 ce)), (148, (Value.pointer (some ⟨b, 4, none⟩)))] (by kernel_rfl) rfl (by kernel_rfl) ?_
              refine Dr.take (i := 8) (v := (i64 c.ms)) (by kernel_rfl) (by kernel_rfl) (fun wz hS => Runs.load (t := 3) (a := ⟨b, 4, none⟩) (by kernel_rfl) ((H193.keep hS (by intro h; change b = ge at h; omega)).loads (by kernel_rfl))) (d := (some 149)) (by kernel_rfl) rfl ?_
              refine Dr.takes (fuel' := 3) (is' := [12, 11, 10, 9, 8, 7, 6, 5, 4, 3, 2, 1, 0]) [9, 10, 11, 12] [(0, (Value.pointer (some ⟨b, 0, none⟩))), (3, (Value.pointer (some ⟨b1, 0, none⟩))), (4, (Value.pointer (some ⟨b11, 0, none⟩))), (5, (i64 c.mn)), (7, (i64 x.kind)), (144, (Value.slice (some ⟨ge, 0, none⟩) 16 ce)), (149, (i64 c.ms)), (153, (Value.pointer (some ⟨b, 7, none⟩)))] (by kernel_rfl) rfl (by kernel_rfl) ?_
              refine Dr.take (i := 13) (v := (i64 c.me)) (by kernel_rfl) (by kernel_rfl) (fun wz hS => Runs.load (t := 2) (a := ⟨b, 7, none⟩) (by kernel_rfl) ((H193.keep hS (by intro h; change b = ge at h; omega)).loads (by kernel_rfl))) (d := (some 154)) (by kernel_rfl) rfl ?_
              refine Dr.take (i := 14) (v := (Value.pointer (some ⟨ge, (c.ms).toNat, none⟩))) (by kernel_rfl) (by kernel_rfl) (fun wz hS => Runs.ixSlice (k := IntKind.i64) (t := 45) (b := ge) (off := 0) (len := 16) (cap := ce) (s := 1) (off' := (c.ms).toNat) (i := c.ms) (by kernel_rfl) (by kernel_rfl) (by omega) (by omega) (by omega)) (d := (some 155)) (by kernel_rfl) rfl ?_
              refine Dr.put (i := 15) (t := 2) (b := ge) (off := (c.ms).toNat) (v := (i64 c.me)) (ys := (ints (c.epoch.set ((c.ms).toNat) c.me) ++ re)) (by kernel_rfl) (by kernel_rfl) (by kernel_rfl) H195 (storeC1 (by kernel_rfl) rfl (by rw [List.length_append, ints_length, h.ok.e]; omega) (intsR_set _ _ ((c.ms).toNat) (by rw [h.ok.e]; omega) _)) (d := none) (by kernel_rfl) rfl (fun w199 H200 K201 => ?_)
              clear H195
              have H202 := H193.keep K201 (by intro h; change b = ge at h; omega)
              clear H193
              have H203 := H194.keep K201 (by intro h; change go = ge at h; omega)
              clear H194
              have H204 := H196.keep K201 (by intro h; change b1 = ge at h; omega)
              clear H196
              have H205 := H197.keep K201 (by intro h; change b11 = ge at h; omega)
              clear H197
              have K206 := K198.trans K201 (U := (fun i => i = b ∨ i = go ∨ i = ge)) (fun i h1 h2 => h2) (fun i h1 h2 => by have h2 : i = ge := h2; show i = b ∨ i = go ∨ i = ge; omega)
              clear K198
              refine ⟨K201, ?_⟩
              refine Dr.strong (S' := (fun wz => Keeps (fun i => i = ge) w199 wz)) ((Keeps.refl w199).mono (fun _ _ h => h.elim)) (fun wz hx => K201.trans hx (fun _ _ h => by have h : _ = ge := h; show _ = ge; omega) (fun _ _ h => h)) ?_
              clear K201
              refine Dr.done (by kernel_rfl) ?_
              refine q_seq (by kernel_rfl) ?_
              refine q_region (by kernel_rfl) ?_
              refine Ops.regs 5 [(0, (Value.pointer (some ⟨b, 0, none⟩))), (3, (Value.pointer (some ⟨b1, 0, none⟩))), (4, (Value.pointer (some ⟨b11, 0, none⟩))), (5, (i64 c.mn)), (7, (i64 x.kind)), (156, (Value.pointer (some ⟨b, 0, none⟩))), (160, (Value.pointer (some ⟨b, 8, none⟩)))] (j := 5) (by kernel_rfl) (by kernel_rfl) ?_
              refine Ops.go (v := (i64 c.mp)) (by kernel_rfl) (Runs.load (t := 3) (a := ⟨b, 8, none⟩) (by kernel_rfl) (H202.loads (by kernel_rfl))) (d := (some 161)) (by kernel_rfl) rfl ?_
              refine Ops.regs 1 [(0, (Value.pointer (some ⟨b, 0, none⟩))), (3, (Value.pointer (some ⟨b1, 0, none⟩))), (4, (Value.pointer (some ⟨b11, 0, none⟩))), (5, (i64 c.mn)), (7, (i64 x.kind)), (156, (Value.pointer (some ⟨b, 0, none⟩))), (162, (i64 (IntKind.i64.wrap (c.mp + 1))))] (j := 7) (by kernel_rfl) (by kernel_rfl) ?_
              have e207 : IntKind.i64.wrap (c.mp + 1) = c.mp + 1 := wrap_i64 (by omega) (by omega)
              rw [e207]
              refine Ops.regs 3 [(0, (Value.pointer (some ⟨b, 0, none⟩))), (3, (Value.pointer (some ⟨b1, 0, none⟩))), (4, (Value.pointer (some ⟨b11, 0, none⟩))), (5, (i64 c.mn)), (7, (i64 x.kind)), (162, (i64 (c.mp + 1))), (165, (Value.pointer (some ⟨b, 8, none⟩)))] (j := 10) (by kernel_rfl) (by kernel_rfl) ?_
              refine Ops.put (t := 3) (b := b) (off := 8) (v := (i64 (c.mp + 1))) (ys := [(i64 c.shards), (Value.slice (some ⟨go, 0, none⟩) 16 co), (Value.slice (some ⟨ge, 0, none⟩) 16 ce), (i64 c.began), (i64 c.ms), (i64 c.mf), (i64 c.mt), (i64 c.me), (i64 (c.mp + 1)), (i64 c.mn), (i64 c.audit), (i64 c.phase)]) (by kernel_rfl) (by kernel_rfl) H202 (by kernel_rfl) (d := none) (by kernel_rfl) rfl (fun w208 H209 K210 => ?_)
              clear H202
              have H211 := H203.keep K210 (by intro h; change go = b at h; omega)
              clear H203
              have H212 := H200.keep K210 (by intro h; change ge = b at h; omega)
              clear H200
              have H213 := H204.keep K210 (by intro h; change b1 = b at h; omega)
              clear H204
              have H214 := H205.keep K210 (by intro h; change b11 = b at h; omega)
              clear H205
              have K215 := K206.trans K210 (U := (fun i => i = b ∨ i = go ∨ i = ge)) (fun i h1 h2 => h2) (fun i h1 h2 => by have h2 : i = b := h2; show i = b ∨ i = go ∨ i = ge; omega)
              clear K206
              clear K210
              refine Ops.done (by kernel_rfl) ?_
              refine q_seq (by kernel_rfl) ?_
              refine q_seq (by kernel_rfl) ?_
              refine q_region (by kernel_rfl) ?_
              refine Ops.regs 4 [(0, (Value.pointer (some ⟨b, 0, none⟩))), (3, (Value.pointer (some ⟨b1, 0, none⟩))), (4, (Value.pointer (some ⟨b11, 0, none⟩))), (5, (i64 c.mn)), (7, (i64 x.kind)), (169, (Value.pointer (some ⟨b, 8, none⟩)))] (j := 4) (by kernel_rfl) (by kernel_rfl) ?_
              refine Ops.go (v := (i64 (c.mp + 1))) (by kernel_rfl) (Runs.load (t := 3) (a := ⟨b, 8, none⟩) (by kernel_rfl) (H209.loads (by kernel_rfl))) (d := (some 170)) (by kernel_rfl) rfl ?_
              refine Ops.regs 1 [(0, (Value.pointer (some ⟨b, 0, none⟩))), (3, (Value.pointer (some ⟨b1, 0, none⟩))), (4, (Value.pointer (some ⟨b11, 0, none⟩))), (5, (i64 c.mn)), (7, (i64 x.kind)), (171, (Value.bool ((c.mp + 1) == 4)))] (j := 6) (by kernel_rfl) (by kernel_rfl) ?_
              refine Ops.done (by kernel_rfl) ?_
              refine q_cond (o := .tmp 171) (b := ((c.mp + 1) == 4)) (by kernel_rfl) rfl (fun h216 => ?_) (fun h216 => ?_)
              · rw [h216]
                have p217 : c.mp + 1 = 4 := of_beq_t h216
                refine q_region (by kernel_rfl) ?_
                refine Ops.regs 4 [(0, (Value.pointer (some ⟨b, 0, none⟩))), (3, (Value.pointer (some ⟨b1, 0, none⟩))), (4, (Value.pointer (some ⟨b11, 0, none⟩))), (5, (i64 c.mn)), (7, (i64 x.kind)), (173, (agg [(i64 0), (i64 0), (i64 0), (i64 0), (i64 0), (i64 0)])), (175, (Value.pointer (some ⟨b, 4, none⟩)))] (j := 4) (by kernel_rfl) (by kernel_rfl) ?_
                refine Ops.put (t := 52) (b := b) (off := 4) (v := (agg [(i64 0), (i64 0), (i64 0), (i64 0), (i64 0), (i64 0)])) (ys := [(i64 c.shards), (Value.slice (some ⟨go, 0, none⟩) 16 co), (Value.slice (some ⟨ge, 0, none⟩) 16 ce), (i64 c.began), (i64 0), (i64 0), (i64 0), (i64 0), (i64 0), (i64 0), (i64 c.audit), (i64 c.phase)]) (by kernel_rfl) (by kernel_rfl) H209 (by kernel_rfl) (d := none) (by kernel_rfl) rfl (fun w218 H219 K220 => ?_)
                clear H209
                have H221 := H211.keep K220 (by intro h; change go = b at h; omega)
                clear H211
                have H222 := H212.keep K220 (by intro h; change ge = b at h; omega)
                clear H212
                have H223 := H213.keep K220 (by intro h; change b1 = b at h; omega)
                clear H213
                have H224 := H214.keep K220 (by intro h; change b11 = b at h; omega)
                clear H214
                have K225 := K215.trans K220 (U := (fun i => i = b ∨ i = go ∨ i = ge)) (fun i h1 h2 => h2) (fun i h1 h2 => by have h2 : i = b := h2; show i = b ∨ i = go ∨ i = ge; omega)
                clear K215
                clear K220
                refine Ops.done (by kernel_rfl) ?_
                refine q_seq (by kernel_rfl) ?_
                refine q_region (by kernel_rfl) ?_
                refine Ops.regs 2 [(0, (Value.pointer (some ⟨b, 0, none⟩))), (3, (Value.pointer (some ⟨b1, 0, none⟩))), (4, (Value.pointer (some ⟨b11, 0, none⟩))), (7, (i64 x.kind)), (177, (agg [(i64 0), (Value.bool false), (i64 c.mn)]))] (j := 2) (by kernel_rfl) (by kernel_rfl) ?_
                refine Ops.put (t := 55) (b := b11) (off := 0) (v := (agg [(i64 0), (Value.bool false), (i64 c.mn)])) (ys := [(i64 0), (Value.bool false), (i64 c.mn)]) (by kernel_rfl) (by kernel_rfl) H224 (by kernel_rfl) (d := none) (by kernel_rfl) rfl (fun w226 H227 K228 => ?_)
                clear H224
                have H229 := H219.keep K228 (by intro h; change b = b11 at h; omega)
                clear H219
                have H230 := H221.keep K228 (by intro h; change go = b11 at h; omega)
                clear H221
                have H231 := H222.keep K228 (by intro h; change ge = b11 at h; omega)
                clear H222
                have H232 := H223.keep K228 (by intro h; change b1 = b11 at h; omega)
                clear H223
                have K233 := K225.trans K228 (U := (fun i => i = b ∨ i = go ∨ i = ge)) (fun i h1 h2 => h2) (fun i h1 h2 => by have h2 : i = b11 := h2; show i = b ∨ i = go ∨ i = ge; omega)
                clear K225
                clear K228
                refine Ops.done (by kernel_rfl) ?_
                refine q_ret (by kernel_rfl) ?_
                refine ⟨(agg [(i64 0), (Value.bool false), (i64 c.mn)]), retv_cell rfl rfl (H227.loads (by kernel_rfl)), ?_⟩
                exact absurd rfl (show ¬ (c.mp = c.mp) from by omega)
              · rw [h216]
                have p234 : ¬ (c.mp + 1 = 4) := of_beq_f h216
                refine q_skip (by kernel_rfl) ?_
                refine q_seq (by kernel_rfl) ?_
                refine q_region (by kernel_rfl) ?_
                refine Ops.regs 2 [(0, (Value.pointer (some ⟨b, 0, none⟩))), (3, (Value.pointer (some ⟨b1, 0, none⟩))), (4, (Value.pointer (some ⟨b11, 0, none⟩))), (7, (i64 x.kind)), (177, (agg [(i64 0), (Value.bool false), (i64 c.mn)]))] (j := 2) (by kernel_rfl) (by kernel_rfl) ?_
                refine Ops.put (t := 55) (b := b11) (off := 0) (v := (agg [(i64 0), (Value.bool false), (i64 c.mn)])) (ys := [(i64 0), (Value.bool false), (i64 c.mn)]) (by kernel_rfl) (by kernel_rfl) H214 (by kernel_rfl) (d := none) (by kernel_rfl) rfl (fun w235 H236 K237 => ?_)
                clear H214
                have H238 := H209.keep K237 (by intro h; change b = b11 at h; omega)
                clear H209
                have H239 := H211.keep K237 (by intro h; change go = b11 at h; omega)
                clear H211
                have H240 := H212.keep K237 (by intro h; change ge = b11 at h; omega)
                clear H212
                have H241 := H213.keep K237 (by intro h; change b1 = b11 at h; omega)
                clear H213
                have K242 := K215.trans K237 (U := (fun i => i = b ∨ i = go ∨ i = ge)) (fun i h1 h2 => h2) (fun i h1 h2 => by have h2 : i = b11 := h2; show i = b ∨ i = go ∨ i = ge; omega)
                clear K215
                clear K237
                refine Ops.done (by kernel_rfl) ?_
                refine q_ret (by kernel_rfl) ?_
                refine ⟨(agg [(i64 0), (Value.bool false), (i64 c.mn)]), retv_cell rfl rfl (H236.loads (by kernel_rfl)), ?_⟩
                have e : c.do_ x = (⟨0, false, c.mn⟩, (⟨c.shards, c.owner.set ((c.ms).toNat) c.mt, c.epoch.set ((c.ms).toNat) c.me, c.began, c.ms, c.mf, c.mt, c.me, c.mp + 1, c.mn, c.audit, c.phase⟩ : Ch)) := do2_2 (by omega) (by omega) (by omega)
                exact ⟨by rw [e]; rfl, K242, by rw [e]; exact H238, by rw [e]; exact H239, by rw [e]; exact H240⟩
            · rw [h173]
              have p243 : ¬ (c.mp = 2) := of_beq_f h173
              refine q_skip (by kernel_rfl) ?_
              refine q_seq (by kernel_rfl) ?_
              refine q_region (by kernel_rfl) ?_
              refine Ops.regs 5 [(0, (Value.pointer (some ⟨b, 0, none⟩))), (3, (Value.pointer (some ⟨b1, 0, none⟩))), (4, (Value.pointer (some ⟨b11, 0, none⟩))), (5, (i64 c.mn)), (7, (i64 x.kind)), (156, (Value.pointer (some ⟨b, 0, none⟩))), (160, (Value.pointer (some ⟨b, 8, none⟩)))] (j := 5) (by kernel_rfl) (by kernel_rfl) ?_
              refine Ops.go (v := (i64 c.mp)) (by kernel_rfl) (Runs.load (t := 3) (a := ⟨b, 8, none⟩) (by kernel_rfl) (H134.loads (by kernel_rfl))) (d := (some 161)) (by kernel_rfl) rfl ?_
              refine Ops.regs 1 [(0, (Value.pointer (some ⟨b, 0, none⟩))), (3, (Value.pointer (some ⟨b1, 0, none⟩))), (4, (Value.pointer (some ⟨b11, 0, none⟩))), (5, (i64 c.mn)), (7, (i64 x.kind)), (156, (Value.pointer (some ⟨b, 0, none⟩))), (162, (i64 (IntKind.i64.wrap (c.mp + 1))))] (j := 7) (by kernel_rfl) (by kernel_rfl) ?_
              have e244 : IntKind.i64.wrap (c.mp + 1) = c.mp + 1 := wrap_i64 (by omega) (by omega)
              rw [e244]
              refine Ops.regs 3 [(0, (Value.pointer (some ⟨b, 0, none⟩))), (3, (Value.pointer (some ⟨b1, 0, none⟩))), (4, (Value.pointer (some ⟨b11, 0, none⟩))), (5, (i64 c.mn)), (7, (i64 x.kind)), (162, (i64 (c.mp + 1))), (165, (Value.pointer (some ⟨b, 8, none⟩)))] (j := 10) (by kernel_rfl) (by kernel_rfl) ?_
              refine Ops.put (t := 3) (b := b) (off := 8) (v := (i64 (c.mp + 1))) (ys := [(i64 c.shards), (Value.slice (some ⟨go, 0, none⟩) 16 co), (Value.slice (some ⟨ge, 0, none⟩) 16 ce), (i64 c.began), (i64 c.ms), (i64 c.mf), (i64 c.mt), (i64 c.me), (i64 (c.mp + 1)), (i64 c.mn), (i64 c.audit), (i64 c.phase)]) (by kernel_rfl) (by kernel_rfl) H134 (by kernel_rfl) (d := none) (by kernel_rfl) rfl (fun w245 H246 K247 => ?_)
              clear H134
              have H248 := H135.keep K247 (by intro h; change go = b at h; omega)
              clear H135
              have H249 := H136.keep K247 (by intro h; change ge = b at h; omega)
              clear H136
              have H250 := H137.keep K247 (by intro h; change b1 = b at h; omega)
              clear H137
              have H251 := H138.keep K247 (by intro h; change b11 = b at h; omega)
              clear H138
              have K252 := K139.trans K247 (U := (fun i => i = b ∨ i = go ∨ i = ge)) (fun i h1 h2 => h2) (fun i h1 h2 => by have h2 : i = b := h2; show i = b ∨ i = go ∨ i = ge; omega)
              clear K139
              clear K247
              refine Ops.done (by kernel_rfl) ?_
              refine q_seq (by kernel_rfl) ?_
              refine q_seq (by kernel_rfl) ?_
              refine q_region (by kernel_rfl) ?_
              refine Ops.regs 4 [(0, (Value.pointer (some ⟨b, 0, none⟩))), (3, (Value.pointer (some ⟨b1, 0, none⟩))), (4, (Value.pointer (some ⟨b11, 0, none⟩))), (5, (i64 c.mn)), (7, (i64 x.kind)), (169, (Value.pointer (some ⟨b, 8, none⟩)))] (j := 4) (by kernel_rfl) (by kernel_rfl) ?_
              refine Ops.go (v := (i64 (c.mp + 1))) (by kernel_rfl) (Runs.load (t := 3) (a := ⟨b, 8, none⟩) (by kernel_rfl) (H246.loads (by kernel_rfl))) (d := (some 170)) (by kernel_rfl) rfl ?_
              refine Ops.regs 1 [(0, (Value.pointer (some ⟨b, 0, none⟩))), (3, (Value.pointer (some ⟨b1, 0, none⟩))), (4, (Value.pointer (some ⟨b11, 0, none⟩))), (5, (i64 c.mn)), (7, (i64 x.kind)), (171, (Value.bool ((c.mp + 1) == 4)))] (j := 6) (by kernel_rfl) (by kernel_rfl) ?_
              refine Ops.done (by kernel_rfl) ?_
              refine q_cond (o := .tmp 171) (b := ((c.mp + 1) == 4)) (by kernel_rfl) rfl (fun h253 => ?_) (fun h253 => ?_)
              · rw [h253]
                have p254 : c.mp + 1 = 4 := of_beq_t h253
                refine q_region (by kernel_rfl) ?_
                refine Ops.regs 4 [(0, (Value.pointer (some ⟨b, 0, none⟩))), (3, (Value.pointer (some ⟨b1, 0, none⟩))), (4, (Value.pointer (some ⟨b11, 0, none⟩))), (5, (i64 c.mn)), (7, (i64 x.kind)), (173, (agg [(i64 0), (i64 0), (i64 0), (i64 0), (i64 0), (i64 0)])), (175, (Value.pointer (some ⟨b, 4, none⟩)))] (j := 4) (by kernel_rfl) (by kernel_rfl) ?_
                refine Ops.put (t := 52) (b := b) (off := 4) (v := (agg [(i64 0), (i64 0), (i64 0), (i64 0), (i64 0), (i64 0)])) (ys := [(i64 c.shards), (Value.slice (some ⟨go, 0, none⟩) 16 co), (Value.slice (some ⟨ge, 0, none⟩) 16 ce), (i64 c.began), (i64 0), (i64 0), (i64 0), (i64 0), (i64 0), (i64 0), (i64 c.audit), (i64 c.phase)]) (by kernel_rfl) (by kernel_rfl) H246 (by kernel_rfl) (d := none) (by kernel_rfl) rfl (fun w255 H256 K257 => ?_)
                clear H246
                have H258 := H248.keep K257 (by intro h; change go = b at h; omega)
                clear H248
                have H259 := H249.keep K257 (by intro h; change ge = b at h; omega)
                clear H249
                have H260 := H250.keep K257 (by intro h; change b1 = b at h; omega)
                clear H250
                have H261 := H251.keep K257 (by intro h; change b11 = b at h; omega)
                clear H251
                have K262 := K252.trans K257 (U := (fun i => i = b ∨ i = go ∨ i = ge)) (fun i h1 h2 => h2) (fun i h1 h2 => by have h2 : i = b := h2; show i = b ∨ i = go ∨ i = ge; omega)
                clear K252
                clear K257
                refine Ops.done (by kernel_rfl) ?_
                refine q_seq (by kernel_rfl) ?_
                refine q_region (by kernel_rfl) ?_
                refine Ops.regs 2 [(0, (Value.pointer (some ⟨b, 0, none⟩))), (3, (Value.pointer (some ⟨b1, 0, none⟩))), (4, (Value.pointer (some ⟨b11, 0, none⟩))), (7, (i64 x.kind)), (177, (agg [(i64 0), (Value.bool false), (i64 c.mn)]))] (j := 2) (by kernel_rfl) (by kernel_rfl) ?_
                refine Ops.put (t := 55) (b := b11) (off := 0) (v := (agg [(i64 0), (Value.bool false), (i64 c.mn)])) (ys := [(i64 0), (Value.bool false), (i64 c.mn)]) (by kernel_rfl) (by kernel_rfl) H261 (by kernel_rfl) (d := none) (by kernel_rfl) rfl (fun w263 H264 K265 => ?_)
                clear H261
                have H266 := H256.keep K265 (by intro h; change b = b11 at h; omega)
                clear H256
                have H267 := H258.keep K265 (by intro h; change go = b11 at h; omega)
                clear H258
                have H268 := H259.keep K265 (by intro h; change ge = b11 at h; omega)
                clear H259
                have H269 := H260.keep K265 (by intro h; change b1 = b11 at h; omega)
                clear H260
                have K270 := K262.trans K265 (U := (fun i => i = b ∨ i = go ∨ i = ge)) (fun i h1 h2 => h2) (fun i h1 h2 => by have h2 : i = b11 := h2; show i = b ∨ i = go ∨ i = ge; omega)
                clear K262
                clear K265
                refine Ops.done (by kernel_rfl) ?_
                refine q_ret (by kernel_rfl) ?_
                refine ⟨(agg [(i64 0), (Value.bool false), (i64 c.mn)]), retv_cell rfl rfl (H264.loads (by kernel_rfl)), ?_⟩
                have e : c.do_ x = (⟨0, false, c.mn⟩, (⟨c.shards, c.owner, c.epoch, c.began, 0, 0, 0, 0, 0, 0, c.audit, c.phase⟩ : Ch)) := do2_3 (by omega) (by omega) (by omega) (by omega)
                exact ⟨by rw [e]; rfl, K270, by rw [e]; exact H266, by rw [e]; exact H267, by rw [e]; exact H268⟩
              · rw [h253]
                have p271 : ¬ (c.mp + 1 = 4) := of_beq_f h253
                refine q_skip (by kernel_rfl) ?_
                refine q_seq (by kernel_rfl) ?_
                refine q_region (by kernel_rfl) ?_
                refine Ops.regs 2 [(0, (Value.pointer (some ⟨b, 0, none⟩))), (3, (Value.pointer (some ⟨b1, 0, none⟩))), (4, (Value.pointer (some ⟨b11, 0, none⟩))), (7, (i64 x.kind)), (177, (agg [(i64 0), (Value.bool false), (i64 c.mn)]))] (j := 2) (by kernel_rfl) (by kernel_rfl) ?_
                refine Ops.put (t := 55) (b := b11) (off := 0) (v := (agg [(i64 0), (Value.bool false), (i64 c.mn)])) (ys := [(i64 0), (Value.bool false), (i64 c.mn)]) (by kernel_rfl) (by kernel_rfl) H251 (by kernel_rfl) (d := none) (by kernel_rfl) rfl (fun w272 H273 K274 => ?_)
                clear H251
                have H275 := H246.keep K274 (by intro h; change b = b11 at h; omega)
                clear H246
                have H276 := H248.keep K274 (by intro h; change go = b11 at h; omega)
                clear H248
                have H277 := H249.keep K274 (by intro h; change ge = b11 at h; omega)
                clear H249
                have H278 := H250.keep K274 (by intro h; change b1 = b11 at h; omega)
                clear H250
                have K279 := K252.trans K274 (U := (fun i => i = b ∨ i = go ∨ i = ge)) (fun i h1 h2 => h2) (fun i h1 h2 => by have h2 : i = b11 := h2; show i = b ∨ i = go ∨ i = ge; omega)
                clear K252
                clear K274
                refine Ops.done (by kernel_rfl) ?_
                refine q_ret (by kernel_rfl) ?_
                refine ⟨(agg [(i64 0), (Value.bool false), (i64 c.mn)]), retv_cell rfl rfl (H273.loads (by kernel_rfl)), ?_⟩
                have e : c.do_ x = (⟨0, false, c.mn⟩, (⟨c.shards, c.owner, c.epoch, c.began, c.ms, c.mf, c.mt, c.me, c.mp + 1, c.mn, c.audit, c.phase⟩ : Ch)) := do2_1 (by omega) (by omega) (by omega)
                exact ⟨by rw [e]; rfl, K279, by rw [e]; exact H275, by rw [e]; exact H276, by rw [e]; exact H277⟩
    · rw [h130]
      have p280 : ¬ (x.kind = 2) := of_beq_f h130
      refine q_seq (by kernel_rfl) ?_
      refine q_region (by kernel_rfl) ?_
      refine Ops.regs 2 [(0, (Value.pointer (some ⟨b, 0, none⟩))), (3, (Value.pointer (some ⟨b1, 0, none⟩))), (4, (Value.pointer (some ⟨b11, 0, none⟩))), (7, (i64 x.kind)), (178, (Value.bool (x.kind == 3)))] (j := 2) (by kernel_rfl) (by kernel_rfl) ?_
      refine Ops.done (by kernel_rfl) ?_
      refine q_cond (o := .tmp 178) (b := (x.kind == 3)) (by kernel_rfl) rfl (fun h281 => ?_) (fun h281 => ?_)
      · rw [h281]
        have p282 : x.kind = 3 := of_beq_t h281
        refine q_seq (by kernel_rfl) ?_
        refine q_seq (by kernel_rfl) ?_
        refine q_region (by kernel_rfl) ?_
        refine Ops.regs 1 [(0, (Value.pointer (some ⟨b, 0, none⟩))), (3, (Value.pointer (some ⟨b1, 0, none⟩))), (4, (Value.pointer (some ⟨b11, 0, none⟩))), (7, (i64 x.kind)), (180, (Value.pointer (some ⟨b, 0, none⟩)))] (j := 1) (by kernel_rfl) (by kernel_rfl) ?_
        refine Ops.call (by kernel_rfl) (d := (some 181)) (by kernel_rfl) (rbusy_calls _ b go co ge ce [] [] (⟨c.shards, [], [], c.began, c.ms, c.mf, c.mt, c.me, c.mp, c.mn, c.audit, c.phase⟩ : Ch) H17) ?_
        rintro _ _ ⟨rfl, rfl⟩
        refine ⟨_, _, rfl, rfl, ?_⟩
        refine Ops.done (by kernel_rfl) ?_
        refine q_cond (o := .tmp 181) (b := ((c.mp != 0) || ((c.phase != 0) || (decide (c.began ≥ 1152921504606846976))))) (by kernel_rfl) rfl (fun h283 => ?_) (fun h283 => ?_)
        · rw [h283]
          have p284 : (¬ (c.mp = 0) ∨ (¬ (c.phase = 0) ∨ c.began ≥ 1152921504606846976)) := by simpa using h283
          refine q_seq (by kernel_rfl) ?_
          refine q_region (by kernel_rfl) ?_
          refine Ops.regs 1 [(0, (Value.pointer (some ⟨b, 0, none⟩))), (3, (Value.pointer (some ⟨b1, 0, none⟩))), (4, (Value.pointer (some ⟨b11, 0, none⟩))), (7, (i64 x.kind)), (182, (agg [(i64 50), (Value.bool false), (i64 0)]))] (j := 1) (by kernel_rfl) (by kernel_rfl) ?_
          refine Ops.put (t := 55) (b := b11) (off := 0) (v := (agg [(i64 50), (Value.bool false), (i64 0)])) (ys := [(i64 50), (Value.bool false), (i64 0)]) (by kernel_rfl) (by kernel_rfl) H14 (by kernel_rfl) (d := none) (by kernel_rfl) rfl (fun w285 H286 K287 => ?_)
          clear H14
          have H288 := H17.keep K287 (by intro h; change b = b11 at h; omega)
          clear H17
          have H289 := H18.keep K287 (by intro h; change go = b11 at h; omega)
          clear H18
          have H290 := H19.keep K287 (by intro h; change ge = b11 at h; omega)
          clear H19
          have H291 := H20.keep K287 (by intro h; change b1 = b11 at h; omega)
          clear H20
          have K292 := K21.trans K287 (U := (fun i => i = b ∨ i = go ∨ i = ge)) (fun i h1 h2 => h2) (fun i h1 h2 => by have h2 : i = b11 := h2; show i = b ∨ i = go ∨ i = ge; omega)
          clear K21
          clear K287
          refine Ops.done (by kernel_rfl) ?_
          refine q_ret (by kernel_rfl) ?_
          refine ⟨(agg [(i64 50), (Value.bool false), (i64 0)]), retv_cell rfl rfl (H286.loads (by kernel_rfl)), ?_⟩
          have e : c.do_ x = (⟨50, false, 0⟩, (⟨c.shards, c.owner, c.epoch, c.began, c.ms, c.mf, c.mt, c.me, c.mp, c.mn, c.audit, c.phase⟩ : Ch)) := do3_busy (by omega) (show c.mp ≠ 0 ∨ c.phase ≠ 0 ∨ 1152921504606846976 ≤ c.began from by omega)
          exact ⟨by rw [e]; rfl, K292, by rw [e]; exact H288, by rw [e]; exact H289, by rw [e]; exact H290⟩
        · rw [h283]
          have p293 : (c.mp = 0 ∧ (c.phase = 0 ∧ ¬ (c.began ≥ 1152921504606846976))) := by simpa using h283
          refine q_skip (by kernel_rfl) ?_
          refine q_seq (by kernel_rfl) ?_
          refine q_region (by kernel_rfl) ?_
          refine Ops.regs 4 [(0, (Value.pointer (some ⟨b, 0, none⟩))), (3, (Value.pointer (some ⟨b1, 0, none⟩))), (4, (Value.pointer (some ⟨b11, 0, none⟩))), (7, (i64 x.kind)), (183, (Value.pointer (some ⟨b, 0, none⟩))), (186, (Value.pointer (some ⟨b, 3, none⟩)))] (j := 4) (by kernel_rfl) (by kernel_rfl) ?_
          refine Ops.go (v := (i64 c.began)) (by kernel_rfl) (Runs.load (t := 2) (a := ⟨b, 3, none⟩) (by kernel_rfl) (H17.loads (by kernel_rfl))) (d := (some 187)) (by kernel_rfl) rfl ?_
          refine Ops.regs 1 [(0, (Value.pointer (some ⟨b, 0, none⟩))), (3, (Value.pointer (some ⟨b1, 0, none⟩))), (4, (Value.pointer (some ⟨b11, 0, none⟩))), (7, (i64 x.kind)), (183, (Value.pointer (some ⟨b, 0, none⟩))), (188, (i64 (IntKind.i64.wrap (c.began + 1))))] (j := 6) (by kernel_rfl) (by kernel_rfl) ?_
          have e294 : IntKind.i64.wrap (c.began + 1) = c.began + 1 := wrap_i64 (by omega) (by omega)
          rw [e294]
          refine Ops.regs 2 [(0, (Value.pointer (some ⟨b, 0, none⟩))), (3, (Value.pointer (some ⟨b1, 0, none⟩))), (4, (Value.pointer (some ⟨b11, 0, none⟩))), (7, (i64 x.kind)), (188, (i64 (c.began + 1))), (190, (Value.pointer (some ⟨b, 3, none⟩)))] (j := 8) (by kernel_rfl) (by kernel_rfl) ?_
          refine Ops.put (t := 2) (b := b) (off := 3) (v := (i64 (c.began + 1))) (ys := [(i64 c.shards), (Value.slice (some ⟨go, 0, none⟩) 16 co), (Value.slice (some ⟨ge, 0, none⟩) 16 ce), (i64 (c.began + 1)), (i64 c.ms), (i64 c.mf), (i64 c.mt), (i64 c.me), (i64 c.mp), (i64 c.mn), (i64 c.audit), (i64 c.phase)]) (by kernel_rfl) (by kernel_rfl) H17 (by kernel_rfl) (d := none) (by kernel_rfl) rfl (fun w295 H296 K297 => ?_)
          clear H17
          have H298 := H18.keep K297 (by intro h; change go = b at h; omega)
          clear H18
          have H299 := H19.keep K297 (by intro h; change ge = b at h; omega)
          clear H19
          have H300 := H20.keep K297 (by intro h; change b1 = b at h; omega)
          clear H20
          have H301 := H14.keep K297 (by intro h; change b11 = b at h; omega)
          clear H14
          have K302 := K21.trans K297 (U := (fun i => i = b ∨ i = go ∨ i = ge)) (fun i h1 h2 => h2) (fun i h1 h2 => by have h2 : i = b := h2; show i = b ∨ i = go ∨ i = ge; omega)
          clear K21
          clear K297
          refine Ops.done (by kernel_rfl) ?_
          refine q_seq (by kernel_rfl) ?_
          refine q_region (by kernel_rfl) ?_
          refine Ops.regs 4 [(0, (Value.pointer (some ⟨b, 0, none⟩))), (3, (Value.pointer (some ⟨b1, 0, none⟩))), (4, (Value.pointer (some ⟨b11, 0, none⟩))), (7, (i64 x.kind)), (191, (Value.pointer (some ⟨b, 0, none⟩))), (194, (Value.pointer (some ⟨b, 3, none⟩)))] (j := 4) (by kernel_rfl) (by kernel_rfl) ?_
          refine Ops.go (v := (i64 (c.began + 1))) (by kernel_rfl) (Runs.load (t := 2) (a := ⟨b, 3, none⟩) (by kernel_rfl) (H296.loads (by kernel_rfl))) (d := (some 195)) (by kernel_rfl) rfl ?_
          refine Ops.regs 2 [(0, (Value.pointer (some ⟨b, 0, none⟩))), (3, (Value.pointer (some ⟨b1, 0, none⟩))), (4, (Value.pointer (some ⟨b11, 0, none⟩))), (7, (i64 x.kind)), (195, (i64 (c.began + 1))), (197, (Value.pointer (some ⟨b, 10, none⟩)))] (j := 7) (by kernel_rfl) (by kernel_rfl) ?_
          refine Ops.put (t := 2) (b := b) (off := 10) (v := (i64 (c.began + 1))) (ys := [(i64 c.shards), (Value.slice (some ⟨go, 0, none⟩) 16 co), (Value.slice (some ⟨ge, 0, none⟩) 16 ce), (i64 (c.began + 1)), (i64 c.ms), (i64 c.mf), (i64 c.mt), (i64 c.me), (i64 c.mp), (i64 c.mn), (i64 (c.began + 1)), (i64 c.phase)]) (by kernel_rfl) (by kernel_rfl) H296 (by kernel_rfl) (d := none) (by kernel_rfl) rfl (fun w303 H304 K305 => ?_)
          clear H296
          have H306 := H298.keep K305 (by intro h; change go = b at h; omega)
          clear H298
          have H307 := H299.keep K305 (by intro h; change ge = b at h; omega)
          clear H299
          have H308 := H300.keep K305 (by intro h; change b1 = b at h; omega)
          clear H300
          have H309 := H301.keep K305 (by intro h; change b11 = b at h; omega)
          clear H301
          have K310 := K302.trans K305 (U := (fun i => i = b ∨ i = go ∨ i = ge)) (fun i h1 h2 => h2) (fun i h1 h2 => by have h2 : i = b := h2; show i = b ∨ i = go ∨ i = ge; omega)
          clear K302
          clear K305
          refine Ops.done (by kernel_rfl) ?_
          refine q_seq (by kernel_rfl) ?_
          refine q_region (by kernel_rfl) ?_
          refine Ops.regs 3 [(0, (Value.pointer (some ⟨b, 0, none⟩))), (3, (Value.pointer (some ⟨b1, 0, none⟩))), (4, (Value.pointer (some ⟨b11, 0, none⟩))), (7, (i64 x.kind)), (200, (Value.pointer (some ⟨b, 11, none⟩)))] (j := 3) (by kernel_rfl) (by kernel_rfl) ?_
          refine Ops.put (t := 3) (b := b) (off := 11) (v := (i64 1)) (ys := [(i64 c.shards), (Value.slice (some ⟨go, 0, none⟩) 16 co), (Value.slice (some ⟨ge, 0, none⟩) 16 ce), (i64 (c.began + 1)), (i64 c.ms), (i64 c.mf), (i64 c.mt), (i64 c.me), (i64 c.mp), (i64 c.mn), (i64 (c.began + 1)), (i64 1)]) (by kernel_rfl) (by kernel_rfl) H304 (by kernel_rfl) (d := none) (by kernel_rfl) rfl (fun w311 H312 K313 => ?_)
          clear H304
          have H314 := H306.keep K313 (by intro h; change go = b at h; omega)
          clear H306
          have H315 := H307.keep K313 (by intro h; change ge = b at h; omega)
          clear H307
          have H316 := H308.keep K313 (by intro h; change b1 = b at h; omega)
          clear H308
          have H317 := H309.keep K313 (by intro h; change b11 = b at h; omega)
          clear H309
          have K318 := K310.trans K313 (U := (fun i => i = b ∨ i = go ∨ i = ge)) (fun i h1 h2 => h2) (fun i h1 h2 => by have h2 : i = b := h2; show i = b ∨ i = go ∨ i = ge; omega)
          clear K310
          clear K313
          refine Ops.done (by kernel_rfl) ?_
          refine q_seq (by kernel_rfl) ?_
          refine q_region (by kernel_rfl) ?_
          refine Ops.regs 3 [(0, (Value.pointer (some ⟨b, 0, none⟩))), (3, (Value.pointer (some ⟨b1, 0, none⟩))), (4, (Value.pointer (some ⟨b11, 0, none⟩))), (7, (i64 x.kind)), (203, (Value.pointer (some ⟨b, 3, none⟩)))] (j := 3) (by kernel_rfl) (by kernel_rfl) ?_
          refine Ops.go (v := (i64 (c.began + 1))) (by kernel_rfl) (Runs.load (t := 2) (a := ⟨b, 3, none⟩) (by kernel_rfl) (H312.loads (by kernel_rfl))) (d := (some 204)) (by kernel_rfl) rfl ?_
          refine Ops.regs 1 [(0, (Value.pointer (some ⟨b, 0, none⟩))), (3, (Value.pointer (some ⟨b1, 0, none⟩))), (4, (Value.pointer (some ⟨b11, 0, none⟩))), (7, (i64 x.kind)), (205, (agg [(i64 0), (Value.bool true), (i64 (c.began + 1))]))] (j := 5) (by kernel_rfl) (by kernel_rfl) ?_
          refine Ops.put (t := 55) (b := b11) (off := 0) (v := (agg [(i64 0), (Value.bool true), (i64 (c.began + 1))])) (ys := [(i64 0), (Value.bool true), (i64 (c.began + 1))]) (by kernel_rfl) (by kernel_rfl) H317 (by kernel_rfl) (d := none) (by kernel_rfl) rfl (fun w319 H320 K321 => ?_)
          clear H317
          have H322 := H312.keep K321 (by intro h; change b = b11 at h; omega)
          clear H312
          have H323 := H314.keep K321 (by intro h; change go = b11 at h; omega)
          clear H314
          have H324 := H315.keep K321 (by intro h; change ge = b11 at h; omega)
          clear H315
          have H325 := H316.keep K321 (by intro h; change b1 = b11 at h; omega)
          clear H316
          have K326 := K318.trans K321 (U := (fun i => i = b ∨ i = go ∨ i = ge)) (fun i h1 h2 => h2) (fun i h1 h2 => by have h2 : i = b11 := h2; show i = b ∨ i = go ∨ i = ge; omega)
          clear K318
          clear K321
          refine Ops.done (by kernel_rfl) ?_
          refine q_ret (by kernel_rfl) ?_
          refine ⟨(agg [(i64 0), (Value.bool true), (i64 (c.began + 1))]), retv_cell rfl rfl (H320.loads (by kernel_rfl)), ?_⟩
          have e : c.do_ x = (⟨0, true, c.began + 1⟩, (⟨c.shards, c.owner, c.epoch, c.began + 1, c.ms, c.mf, c.mt, c.me, c.mp, c.mn, c.began + 1, 1⟩ : Ch)) := do3_go (by omega) (show ¬ (c.mp ≠ 0 ∨ c.phase ≠ 0 ∨ 1152921504606846976 ≤ c.began) from by omega)
          exact ⟨by rw [e]; rfl, K326, by rw [e]; exact H322, by rw [e]; exact H323, by rw [e]; exact H324⟩
      · rw [h281]
        have p327 : ¬ (x.kind = 3) := of_beq_f h281
        refine q_seq (by kernel_rfl) ?_
        refine q_region (by kernel_rfl) ?_
        refine Ops.regs 2 [(0, (Value.pointer (some ⟨b, 0, none⟩))), (3, (Value.pointer (some ⟨b1, 0, none⟩))), (4, (Value.pointer (some ⟨b11, 0, none⟩))), (7, (i64 x.kind)), (206, (Value.bool (x.kind == 4)))] (j := 2) (by kernel_rfl) (by kernel_rfl) ?_
        refine Ops.done (by kernel_rfl) ?_
        refine q_cond (o := .tmp 206) (b := (x.kind == 4)) (by kernel_rfl) rfl (fun h328 => ?_) (fun h328 => ?_)
        · rw [h328]
          have p329 : x.kind = 4 := of_beq_t h328
          refine q_seq (by kernel_rfl) ?_
          refine q_seq (by kernel_rfl) ?_
          refine q_draw (fun wz => Keeps none_ w12 wz) 14 (by kernel_rfl) (by kernel_rfl) (by kernel_rfl) (fun w330 K331 _ _ => ⟨K331, ?_⟩)
          have H332 := H17.keep K331 (fun h => h)
          clear H17
          have H333 := H18.keep K331 (fun h => h)
          clear H18
          have H334 := H19.keep K331 (fun h => h)
          clear H19
          have H335 := H20.keep K331 (fun h => h)
          clear H20
          have H336 := H14.keep K331 (fun h => h)
          clear H14
          have K337 := K21.trans K331 (U := (fun i => i = b ∨ i = go ∨ i = ge)) (fun i h1 h2 => h2) (fun i h1 h2 => by exact h2.elim)
          clear K21
          refine Dr.strong (S' := (fun wz => Keeps none_ w330 wz)) (Keeps.refl w330) (fun wz hx => K331.trans hx (fun _ _ h => h) (fun _ _ h => h)) ?_
          clear K331
          refine Dr.takes (fuel' := 11) (is' := [2, 1, 0]) [0, 1, 2] [(0, (Value.pointer (some ⟨b, 0, none⟩))), (3, (Value.pointer (some ⟨b1, 0, none⟩))), (4, (Value.pointer (some ⟨b11, 0, none⟩))), (7, (i64 x.kind)), (210, (Value.pointer (some ⟨b, 11, none⟩)))] (by kernel_rfl) rfl (by kernel_rfl) ?_
          refine Dr.take (i := 3) (v := (i64 c.phase)) (by kernel_rfl) (by kernel_rfl) (fun wz hS => Runs.load (t := 3) (a := ⟨b, 11, none⟩) (by kernel_rfl) ((H332.keep hS (fun h => h)).loads (by kernel_rfl))) (d := (some 211)) (by kernel_rfl) rfl ?_
          refine Dr.takes (fuel' := 8) (is' := [5, 4, 3, 2, 1, 0]) [4, 5] [(0, (Value.pointer (some ⟨b, 0, none⟩))), (3, (Value.pointer (some ⟨b1, 0, none⟩))), (4, (Value.pointer (some ⟨b11, 0, none⟩))), (7, (i64 x.kind)), (213, (Value.bool (c.phase != 1)))] (by kernel_rfl) rfl (by kernel_rfl) ?_
          refine Dr.split (c.phase != 1) (fun h338 => ?_) (fun h338 => ?_)
          · rw [h338]
            have p339 : ¬ (c.phase = 1) := of_bne_t h338
            refine Dr.takes (fuel' := 0) (is' := [13, 12, 11, 10, 9, 8, 7, 6, 5, 4, 3, 2, 1, 0]) [6, 7, 8, 9, 10, 11, 12, 13] [(0, (Value.pointer (some ⟨b, 0, none⟩))), (3, (Value.pointer (some ⟨b1, 0, none⟩))), (4, (Value.pointer (some ⟨b11, 0, none⟩))), (7, (i64 x.kind)), (221, (Value.bool true))] (by kernel_rfl) rfl (by kernel_rfl) ?_
            refine Dr.done (by kernel_rfl) ?_
            refine q_then (o := .tmp 221) (by kernel_rfl) rfl ?_
            refine q_seq (by kernel_rfl) ?_
            refine q_region (by kernel_rfl) ?_
            refine Ops.regs 1 [(0, (Value.pointer (some ⟨b, 0, none⟩))), (3, (Value.pointer (some ⟨b1, 0, none⟩))), (4, (Value.pointer (some ⟨b11, 0, none⟩))), (7, (i64 x.kind)), (222, (agg [(i64 5), (Value.bool false), (i64 0)]))] (j := 1) (by kernel_rfl) (by kernel_rfl) ?_
            refine Ops.put (t := 55) (b := b11) (off := 0) (v := (agg [(i64 5), (Value.bool false), (i64 0)])) (ys := [(i64 5), (Value.bool false), (i64 0)]) (by kernel_rfl) (by kernel_rfl) H336 (by kernel_rfl) (d := none) (by kernel_rfl) rfl (fun w340 H341 K342 => ?_)
            clear H336
            have H343 := H332.keep K342 (by intro h; change b = b11 at h; omega)
            clear H332
            have H344 := H333.keep K342 (by intro h; change go = b11 at h; omega)
            clear H333
            have H345 := H334.keep K342 (by intro h; change ge = b11 at h; omega)
            clear H334
            have H346 := H335.keep K342 (by intro h; change b1 = b11 at h; omega)
            clear H335
            have K347 := K337.trans K342 (U := (fun i => i = b ∨ i = go ∨ i = ge)) (fun i h1 h2 => h2) (fun i h1 h2 => by have h2 : i = b11 := h2; show i = b ∨ i = go ∨ i = ge; omega)
            clear K337
            clear K342
            refine Ops.done (by kernel_rfl) ?_
            refine q_ret (by kernel_rfl) ?_
            refine ⟨(agg [(i64 5), (Value.bool false), (i64 0)]), retv_cell rfl rfl (H341.loads (by kernel_rfl)), ?_⟩
            have e : c.do_ x = (⟨5, false, 0⟩, (⟨c.shards, c.owner, c.epoch, c.began, c.ms, c.mf, c.mt, c.me, c.mp, c.mn, c.audit, c.phase⟩ : Ch)) := do4_bad (by omega) (by omega)
            exact ⟨by rw [e]; rfl, K347, by rw [e]; exact H343, by rw [e]; exact H344, by rw [e]; exact H345⟩
          · rw [h338]
            have p348 : c.phase = 1 := of_bne_f h338
            refine Dr.takes (fuel' := 5) (is' := [8, 7, 6, 5, 4, 3, 2, 1, 0]) [6, 7, 8] [(0, (Value.pointer (some ⟨b, 0, none⟩))), (3, (Value.pointer (some ⟨b1, 0, none⟩))), (4, (Value.pointer (some ⟨b11, 0, none⟩))), (7, (i64 x.kind)), (213, (Value.bool false)), (216, (Value.pointer (some ⟨b, 10, none⟩)))] (by kernel_rfl) rfl (by kernel_rfl) ?_
            refine Dr.take (i := 9) (v := (i64 c.audit)) (by kernel_rfl) (by kernel_rfl) (fun wz hS => Runs.load (t := 2) (a := ⟨b, 10, none⟩) (by kernel_rfl) ((H332.keep hS (fun h => h)).loads (by kernel_rfl))) (d := (some 217)) (by kernel_rfl) rfl ?_
            refine Dr.takes (fuel' := 3) (is' := [10, 9, 8, 7, 6, 5, 4, 3, 2, 1, 0]) [10] [(0, (Value.pointer (some ⟨b, 0, none⟩))), (3, (Value.pointer (some ⟨b1, 0, none⟩))), (4, (Value.pointer (some ⟨b11, 0, none⟩))), (7, (i64 x.kind)), (213, (Value.bool false)), (217, (i64 c.audit)), (218, (Value.pointer (some ⟨b1, 3, none⟩)))] (by kernel_rfl) rfl (by kernel_rfl) ?_
            refine Dr.take (i := 11) (v := (i64 x.n)) (by kernel_rfl) (by kernel_rfl) (fun wz hS => Runs.load (t := 2) (a := ⟨b1, 3, none⟩) (by kernel_rfl) ((H335.keep hS (fun h => h)).loads (by kernel_rfl))) (d := (some 219)) (by kernel_rfl) rfl ?_
            refine Dr.takes (fuel' := 0) (is' := [13, 12, 11, 10, 9, 8, 7, 6, 5, 4, 3, 2, 1, 0]) [12, 13] [(0, (Value.pointer (some ⟨b, 0, none⟩))), (3, (Value.pointer (some ⟨b1, 0, none⟩))), (4, (Value.pointer (some ⟨b11, 0, none⟩))), (7, (i64 x.kind)), (221, (Value.bool (c.audit != x.n)))] (by kernel_rfl) rfl (by kernel_rfl) ?_
            refine Dr.done (by kernel_rfl) ?_
            refine q_cond (o := .tmp 221) (b := (c.audit != x.n)) (by kernel_rfl) rfl (fun h349 => ?_) (fun h349 => ?_)
            · rw [h349]
              have p350 : ¬ (c.audit = x.n) := of_bne_t h349
              refine q_seq (by kernel_rfl) ?_
              refine q_region (by kernel_rfl) ?_
              refine Ops.regs 1 [(0, (Value.pointer (some ⟨b, 0, none⟩))), (3, (Value.pointer (some ⟨b1, 0, none⟩))), (4, (Value.pointer (some ⟨b11, 0, none⟩))), (7, (i64 x.kind)), (222, (agg [(i64 5), (Value.bool false), (i64 0)]))] (j := 1) (by kernel_rfl) (by kernel_rfl) ?_
              refine Ops.put (t := 55) (b := b11) (off := 0) (v := (agg [(i64 5), (Value.bool false), (i64 0)])) (ys := [(i64 5), (Value.bool false), (i64 0)]) (by kernel_rfl) (by kernel_rfl) H336 (by kernel_rfl) (d := none) (by kernel_rfl) rfl (fun w351 H352 K353 => ?_)
              clear H336
              have H354 := H332.keep K353 (by intro h; change b = b11 at h; omega)
              clear H332
              have H355 := H333.keep K353 (by intro h; change go = b11 at h; omega)
              clear H333
              have H356 := H334.keep K353 (by intro h; change ge = b11 at h; omega)
              clear H334
              have H357 := H335.keep K353 (by intro h; change b1 = b11 at h; omega)
              clear H335
              have K358 := K337.trans K353 (U := (fun i => i = b ∨ i = go ∨ i = ge)) (fun i h1 h2 => h2) (fun i h1 h2 => by have h2 : i = b11 := h2; show i = b ∨ i = go ∨ i = ge; omega)
              clear K337
              clear K353
              refine Ops.done (by kernel_rfl) ?_
              refine q_ret (by kernel_rfl) ?_
              refine ⟨(agg [(i64 5), (Value.bool false), (i64 0)]), retv_cell rfl rfl (H352.loads (by kernel_rfl)), ?_⟩
              have e : c.do_ x = (⟨5, false, 0⟩, (⟨c.shards, c.owner, c.epoch, c.began, c.ms, c.mf, c.mt, c.me, c.mp, c.mn, c.audit, c.phase⟩ : Ch)) := do4_bad (by omega) (by omega)
              exact ⟨by rw [e]; rfl, K358, by rw [e]; exact H354, by rw [e]; exact H355, by rw [e]; exact H356⟩
            · rw [h349]
              have p359 : c.audit = x.n := of_bne_f h349
              refine q_skip (by kernel_rfl) ?_
              refine q_seq (by kernel_rfl) ?_
              refine q_region (by kernel_rfl) ?_
              refine Ops.regs 3 [(0, (Value.pointer (some ⟨b, 0, none⟩))), (3, (Value.pointer (some ⟨b1, 0, none⟩))), (4, (Value.pointer (some ⟨b11, 0, none⟩))), (7, (i64 x.kind)), (225, (Value.pointer (some ⟨b, 11, none⟩)))] (j := 3) (by kernel_rfl) (by kernel_rfl) ?_
              refine Ops.put (t := 3) (b := b) (off := 11) (v := (i64 2)) (ys := [(i64 c.shards), (Value.slice (some ⟨go, 0, none⟩) 16 co), (Value.slice (some ⟨ge, 0, none⟩) 16 ce), (i64 c.began), (i64 c.ms), (i64 c.mf), (i64 c.mt), (i64 c.me), (i64 c.mp), (i64 c.mn), (i64 c.audit), (i64 2)]) (by kernel_rfl) (by kernel_rfl) H332 (by kernel_rfl) (d := none) (by kernel_rfl) rfl (fun w360 H361 K362 => ?_)
              clear H332
              have H363 := H333.keep K362 (by intro h; change go = b at h; omega)
              clear H333
              have H364 := H334.keep K362 (by intro h; change ge = b at h; omega)
              clear H334
              have H365 := H335.keep K362 (by intro h; change b1 = b at h; omega)
              clear H335
              have H366 := H336.keep K362 (by intro h; change b11 = b at h; omega)
              clear H336
              have K367 := K337.trans K362 (U := (fun i => i = b ∨ i = go ∨ i = ge)) (fun i h1 h2 => h2) (fun i h1 h2 => by have h2 : i = b := h2; show i = b ∨ i = go ∨ i = ge; omega)
              clear K337
              clear K362
              refine Ops.done (by kernel_rfl) ?_
              refine q_seq (by kernel_rfl) ?_
              refine q_region (by kernel_rfl) ?_
              refine Ops.regs 1 [(0, (Value.pointer (some ⟨b, 0, none⟩))), (3, (Value.pointer (some ⟨b1, 0, none⟩))), (4, (Value.pointer (some ⟨b11, 0, none⟩))), (7, (i64 x.kind)), (226, (Value.pointer (some ⟨b1, 3, none⟩)))] (j := 1) (by kernel_rfl) (by kernel_rfl) ?_
              refine Ops.go (v := (i64 x.n)) (by kernel_rfl) (Runs.load (t := 2) (a := ⟨b1, 3, none⟩) (by kernel_rfl) (H365.loads (by kernel_rfl))) (d := (some 227)) (by kernel_rfl) rfl ?_
              refine Ops.regs 1 [(0, (Value.pointer (some ⟨b, 0, none⟩))), (3, (Value.pointer (some ⟨b1, 0, none⟩))), (4, (Value.pointer (some ⟨b11, 0, none⟩))), (7, (i64 x.kind)), (228, (agg [(i64 0), (Value.bool false), (i64 x.n)]))] (j := 3) (by kernel_rfl) (by kernel_rfl) ?_
              refine Ops.put (t := 55) (b := b11) (off := 0) (v := (agg [(i64 0), (Value.bool false), (i64 x.n)])) (ys := [(i64 0), (Value.bool false), (i64 x.n)]) (by kernel_rfl) (by kernel_rfl) H366 (by kernel_rfl) (d := none) (by kernel_rfl) rfl (fun w368 H369 K370 => ?_)
              clear H366
              have H371 := H361.keep K370 (by intro h; change b = b11 at h; omega)
              clear H361
              have H372 := H363.keep K370 (by intro h; change go = b11 at h; omega)
              clear H363
              have H373 := H364.keep K370 (by intro h; change ge = b11 at h; omega)
              clear H364
              have H374 := H365.keep K370 (by intro h; change b1 = b11 at h; omega)
              clear H365
              have K375 := K367.trans K370 (U := (fun i => i = b ∨ i = go ∨ i = ge)) (fun i h1 h2 => h2) (fun i h1 h2 => by have h2 : i = b11 := h2; show i = b ∨ i = go ∨ i = ge; omega)
              clear K367
              clear K370
              refine Ops.done (by kernel_rfl) ?_
              refine q_ret (by kernel_rfl) ?_
              refine ⟨(agg [(i64 0), (Value.bool false), (i64 x.n)]), retv_cell rfl rfl (H369.loads (by kernel_rfl)), ?_⟩
              have e : c.do_ x = (⟨0, false, x.n⟩, (⟨c.shards, c.owner, c.epoch, c.began, c.ms, c.mf, c.mt, c.me, c.mp, c.mn, c.audit, 2⟩ : Ch)) := do4_go (by omega) (by omega)
              exact ⟨by rw [e]; rfl, K375, by rw [e]; exact H371, by rw [e]; exact H372, by rw [e]; exact H373⟩
        · rw [h328]
          have p376 : ¬ (x.kind = 4) := of_beq_f h328
          refine q_seq (by kernel_rfl) ?_
          refine q_region (by kernel_rfl) ?_
          refine Ops.regs 2 [(0, (Value.pointer (some ⟨b, 0, none⟩))), (3, (Value.pointer (some ⟨b1, 0, none⟩))), (4, (Value.pointer (some ⟨b11, 0, none⟩))), (229, (Value.bool (x.kind == 5)))] (j := 2) (by kernel_rfl) (by kernel_rfl) ?_
          refine Ops.done (by kernel_rfl) ?_
          refine q_cond (o := .tmp 229) (b := (x.kind == 5)) (by kernel_rfl) rfl (fun h377 => ?_) (fun h377 => ?_)
          · rw [h377]
            have p378 : x.kind = 5 := of_beq_t h377
            refine q_seq (by kernel_rfl) ?_
            refine q_seq (by kernel_rfl) ?_
            refine q_draw (fun wz => Keeps none_ w12 wz) 14 (by kernel_rfl) (by kernel_rfl) (by kernel_rfl) (fun w379 K380 _ _ => ⟨K380, ?_⟩)
            have H381 := H17.keep K380 (fun h => h)
            clear H17
            have H382 := H18.keep K380 (fun h => h)
            clear H18
            have H383 := H19.keep K380 (fun h => h)
            clear H19
            have H384 := H20.keep K380 (fun h => h)
            clear H20
            have H385 := H14.keep K380 (fun h => h)
            clear H14
            have K386 := K21.trans K380 (U := (fun i => i = b ∨ i = go ∨ i = ge)) (fun i h1 h2 => h2) (fun i h1 h2 => by exact h2.elim)
            clear K21
            refine Dr.strong (S' := (fun wz => Keeps none_ w379 wz)) (Keeps.refl w379) (fun wz hx => K380.trans hx (fun _ _ h => h) (fun _ _ h => h)) ?_
            clear K380
            refine Dr.takes (fuel' := 11) (is' := [2, 1, 0]) [0, 1, 2] [(0, (Value.pointer (some ⟨b, 0, none⟩))), (3, (Value.pointer (some ⟨b1, 0, none⟩))), (4, (Value.pointer (some ⟨b11, 0, none⟩))), (233, (Value.pointer (some ⟨b, 11, none⟩)))] (by kernel_rfl) rfl (by kernel_rfl) ?_
            refine Dr.take (i := 3) (v := (i64 c.phase)) (by kernel_rfl) (by kernel_rfl) (fun wz hS => Runs.load (t := 3) (a := ⟨b, 11, none⟩) (by kernel_rfl) ((H381.keep hS (fun h => h)).loads (by kernel_rfl))) (d := (some 234)) (by kernel_rfl) rfl ?_
            refine Dr.takes (fuel' := 8) (is' := [5, 4, 3, 2, 1, 0]) [4, 5] [(0, (Value.pointer (some ⟨b, 0, none⟩))), (3, (Value.pointer (some ⟨b1, 0, none⟩))), (4, (Value.pointer (some ⟨b11, 0, none⟩))), (236, (Value.bool (c.phase != 2)))] (by kernel_rfl) rfl (by kernel_rfl) ?_
            refine Dr.split (c.phase != 2) (fun h387 => ?_) (fun h387 => ?_)
            · rw [h387]
              have p388 : ¬ (c.phase = 2) := of_bne_t h387
              refine Dr.takes (fuel' := 0) (is' := [13, 12, 11, 10, 9, 8, 7, 6, 5, 4, 3, 2, 1, 0]) [6, 7, 8, 9, 10, 11, 12, 13] [(0, (Value.pointer (some ⟨b, 0, none⟩))), (3, (Value.pointer (some ⟨b1, 0, none⟩))), (4, (Value.pointer (some ⟨b11, 0, none⟩))), (244, (Value.bool true))] (by kernel_rfl) rfl (by kernel_rfl) ?_
              refine Dr.done (by kernel_rfl) ?_
              refine q_then (o := .tmp 244) (by kernel_rfl) rfl ?_
              refine q_seq (by kernel_rfl) ?_
              refine q_region (by kernel_rfl) ?_
              refine Ops.regs 1 [(0, (Value.pointer (some ⟨b, 0, none⟩))), (3, (Value.pointer (some ⟨b1, 0, none⟩))), (4, (Value.pointer (some ⟨b11, 0, none⟩))), (245, (agg [(i64 5), (Value.bool false), (i64 0)]))] (j := 1) (by kernel_rfl) (by kernel_rfl) ?_
              refine Ops.put (t := 55) (b := b11) (off := 0) (v := (agg [(i64 5), (Value.bool false), (i64 0)])) (ys := [(i64 5), (Value.bool false), (i64 0)]) (by kernel_rfl) (by kernel_rfl) H385 (by kernel_rfl) (d := none) (by kernel_rfl) rfl (fun w389 H390 K391 => ?_)
              clear H385
              have H392 := H381.keep K391 (by intro h; change b = b11 at h; omega)
              clear H381
              have H393 := H382.keep K391 (by intro h; change go = b11 at h; omega)
              clear H382
              have H394 := H383.keep K391 (by intro h; change ge = b11 at h; omega)
              clear H383
              have H395 := H384.keep K391 (by intro h; change b1 = b11 at h; omega)
              clear H384
              have K396 := K386.trans K391 (U := (fun i => i = b ∨ i = go ∨ i = ge)) (fun i h1 h2 => h2) (fun i h1 h2 => by have h2 : i = b11 := h2; show i = b ∨ i = go ∨ i = ge; omega)
              clear K386
              clear K391
              refine Ops.done (by kernel_rfl) ?_
              refine q_ret (by kernel_rfl) ?_
              refine ⟨(agg [(i64 5), (Value.bool false), (i64 0)]), retv_cell rfl rfl (H390.loads (by kernel_rfl)), ?_⟩
              have e : c.do_ x = (⟨5, false, 0⟩, (⟨c.shards, c.owner, c.epoch, c.began, c.ms, c.mf, c.mt, c.me, c.mp, c.mn, c.audit, c.phase⟩ : Ch)) := do5_bad (by omega) (by omega)
              exact ⟨by rw [e]; rfl, K396, by rw [e]; exact H392, by rw [e]; exact H393, by rw [e]; exact H394⟩
            · rw [h387]
              have p397 : c.phase = 2 := of_bne_f h387
              refine Dr.takes (fuel' := 5) (is' := [8, 7, 6, 5, 4, 3, 2, 1, 0]) [6, 7, 8] [(0, (Value.pointer (some ⟨b, 0, none⟩))), (3, (Value.pointer (some ⟨b1, 0, none⟩))), (4, (Value.pointer (some ⟨b11, 0, none⟩))), (236, (Value.bool false)), (239, (Value.pointer (some ⟨b, 10, none⟩)))] (by kernel_rfl) rfl (by kernel_rfl) ?_
              refine Dr.take (i := 9) (v := (i64 c.audit)) (by kernel_rfl) (by kernel_rfl) (fun wz hS => Runs.load (t := 2) (a := ⟨b, 10, none⟩) (by kernel_rfl) ((H381.keep hS (fun h => h)).loads (by kernel_rfl))) (d := (some 240)) (by kernel_rfl) rfl ?_
              refine Dr.takes (fuel' := 3) (is' := [10, 9, 8, 7, 6, 5, 4, 3, 2, 1, 0]) [10] [(0, (Value.pointer (some ⟨b, 0, none⟩))), (3, (Value.pointer (some ⟨b1, 0, none⟩))), (4, (Value.pointer (some ⟨b11, 0, none⟩))), (236, (Value.bool false)), (240, (i64 c.audit)), (241, (Value.pointer (some ⟨b1, 3, none⟩)))] (by kernel_rfl) rfl (by kernel_rfl) ?_
              refine Dr.take (i := 11) (v := (i64 x.n)) (by kernel_rfl) (by kernel_rfl) (fun wz hS => Runs.load (t := 2) (a := ⟨b1, 3, none⟩) (by kernel_rfl) ((H384.keep hS (fun h => h)).loads (by kernel_rfl))) (d := (some 242)) (by kernel_rfl) rfl ?_
              refine Dr.takes (fuel' := 0) (is' := [13, 12, 11, 10, 9, 8, 7, 6, 5, 4, 3, 2, 1, 0]) [12, 13] [(0, (Value.pointer (some ⟨b, 0, none⟩))), (3, (Value.pointer (some ⟨b1, 0, none⟩))), (4, (Value.pointer (some ⟨b11, 0, none⟩))), (244, (Value.bool (c.audit != x.n)))] (by kernel_rfl) rfl (by kernel_rfl) ?_
              refine Dr.done (by kernel_rfl) ?_
              refine q_cond (o := .tmp 244) (b := (c.audit != x.n)) (by kernel_rfl) rfl (fun h398 => ?_) (fun h398 => ?_)
              · rw [h398]
                have p399 : ¬ (c.audit = x.n) := of_bne_t h398
                refine q_seq (by kernel_rfl) ?_
                refine q_region (by kernel_rfl) ?_
                refine Ops.regs 1 [(0, (Value.pointer (some ⟨b, 0, none⟩))), (3, (Value.pointer (some ⟨b1, 0, none⟩))), (4, (Value.pointer (some ⟨b11, 0, none⟩))), (245, (agg [(i64 5), (Value.bool false), (i64 0)]))] (j := 1) (by kernel_rfl) (by kernel_rfl) ?_
                refine Ops.put (t := 55) (b := b11) (off := 0) (v := (agg [(i64 5), (Value.bool false), (i64 0)])) (ys := [(i64 5), (Value.bool false), (i64 0)]) (by kernel_rfl) (by kernel_rfl) H385 (by kernel_rfl) (d := none) (by kernel_rfl) rfl (fun w400 H401 K402 => ?_)
                clear H385
                have H403 := H381.keep K402 (by intro h; change b = b11 at h; omega)
                clear H381
                have H404 := H382.keep K402 (by intro h; change go = b11 at h; omega)
                clear H382
                have H405 := H383.keep K402 (by intro h; change ge = b11 at h; omega)
                clear H383
                have H406 := H384.keep K402 (by intro h; change b1 = b11 at h; omega)
                clear H384
                have K407 := K386.trans K402 (U := (fun i => i = b ∨ i = go ∨ i = ge)) (fun i h1 h2 => h2) (fun i h1 h2 => by have h2 : i = b11 := h2; show i = b ∨ i = go ∨ i = ge; omega)
                clear K386
                clear K402
                refine Ops.done (by kernel_rfl) ?_
                refine q_ret (by kernel_rfl) ?_
                refine ⟨(agg [(i64 5), (Value.bool false), (i64 0)]), retv_cell rfl rfl (H401.loads (by kernel_rfl)), ?_⟩
                have e : c.do_ x = (⟨5, false, 0⟩, (⟨c.shards, c.owner, c.epoch, c.began, c.ms, c.mf, c.mt, c.me, c.mp, c.mn, c.audit, c.phase⟩ : Ch)) := do5_bad (by omega) (by omega)
                exact ⟨by rw [e]; rfl, K407, by rw [e]; exact H403, by rw [e]; exact H404, by rw [e]; exact H405⟩
              · rw [h398]
                have p408 : c.audit = x.n := of_bne_f h398
                refine q_skip (by kernel_rfl) ?_
                refine q_seq (by kernel_rfl) ?_
                refine q_region (by kernel_rfl) ?_
                refine Ops.regs 3 [(0, (Value.pointer (some ⟨b, 0, none⟩))), (3, (Value.pointer (some ⟨b1, 0, none⟩))), (4, (Value.pointer (some ⟨b11, 0, none⟩))), (248, (Value.pointer (some ⟨b, 11, none⟩)))] (j := 3) (by kernel_rfl) (by kernel_rfl) ?_
                refine Ops.put (t := 3) (b := b) (off := 11) (v := (i64 0)) (ys := [(i64 c.shards), (Value.slice (some ⟨go, 0, none⟩) 16 co), (Value.slice (some ⟨ge, 0, none⟩) 16 ce), (i64 c.began), (i64 c.ms), (i64 c.mf), (i64 c.mt), (i64 c.me), (i64 c.mp), (i64 c.mn), (i64 c.audit), (i64 0)]) (by kernel_rfl) (by kernel_rfl) H381 (by kernel_rfl) (d := none) (by kernel_rfl) rfl (fun w409 H410 K411 => ?_)
                clear H381
                have H412 := H382.keep K411 (by intro h; change go = b at h; omega)
                clear H382
                have H413 := H383.keep K411 (by intro h; change ge = b at h; omega)
                clear H383
                have H414 := H384.keep K411 (by intro h; change b1 = b at h; omega)
                clear H384
                have H415 := H385.keep K411 (by intro h; change b11 = b at h; omega)
                clear H385
                have K416 := K386.trans K411 (U := (fun i => i = b ∨ i = go ∨ i = ge)) (fun i h1 h2 => h2) (fun i h1 h2 => by have h2 : i = b := h2; show i = b ∨ i = go ∨ i = ge; omega)
                clear K386
                clear K411
                refine Ops.done (by kernel_rfl) ?_
                refine q_seq (by kernel_rfl) ?_
                refine q_region (by kernel_rfl) ?_
                refine Ops.regs 3 [(3, (Value.pointer (some ⟨b1, 0, none⟩))), (4, (Value.pointer (some ⟨b11, 0, none⟩))), (251, (Value.pointer (some ⟨b, 10, none⟩)))] (j := 3) (by kernel_rfl) (by kernel_rfl) ?_
                refine Ops.put (t := 2) (b := b) (off := 10) (v := (i64 0)) (ys := [(i64 c.shards), (Value.slice (some ⟨go, 0, none⟩) 16 co), (Value.slice (some ⟨ge, 0, none⟩) 16 ce), (i64 c.began), (i64 c.ms), (i64 c.mf), (i64 c.mt), (i64 c.me), (i64 c.mp), (i64 c.mn), (i64 0), (i64 0)]) (by kernel_rfl) (by kernel_rfl) H410 (by kernel_rfl) (d := none) (by kernel_rfl) rfl (fun w417 H418 K419 => ?_)
                clear H410
                have H420 := H412.keep K419 (by intro h; change go = b at h; omega)
                clear H412
                have H421 := H413.keep K419 (by intro h; change ge = b at h; omega)
                clear H413
                have H422 := H414.keep K419 (by intro h; change b1 = b at h; omega)
                clear H414
                have H423 := H415.keep K419 (by intro h; change b11 = b at h; omega)
                clear H415
                have K424 := K416.trans K419 (U := (fun i => i = b ∨ i = go ∨ i = ge)) (fun i h1 h2 => h2) (fun i h1 h2 => by have h2 : i = b := h2; show i = b ∨ i = go ∨ i = ge; omega)
                clear K416
                clear K419
                refine Ops.done (by kernel_rfl) ?_
                refine q_seq (by kernel_rfl) ?_
                refine q_region (by kernel_rfl) ?_
                refine Ops.regs 1 [(4, (Value.pointer (some ⟨b11, 0, none⟩))), (252, (Value.pointer (some ⟨b1, 3, none⟩)))] (j := 1) (by kernel_rfl) (by kernel_rfl) ?_
                refine Ops.go (v := (i64 x.n)) (by kernel_rfl) (Runs.load (t := 2) (a := ⟨b1, 3, none⟩) (by kernel_rfl) (H422.loads (by kernel_rfl))) (d := (some 253)) (by kernel_rfl) rfl ?_
                refine Ops.regs 1 [(4, (Value.pointer (some ⟨b11, 0, none⟩))), (254, (agg [(i64 0), (Value.bool false), (i64 x.n)]))] (j := 3) (by kernel_rfl) (by kernel_rfl) ?_
                refine Ops.put (t := 55) (b := b11) (off := 0) (v := (agg [(i64 0), (Value.bool false), (i64 x.n)])) (ys := [(i64 0), (Value.bool false), (i64 x.n)]) (by kernel_rfl) (by kernel_rfl) H423 (by kernel_rfl) (d := none) (by kernel_rfl) rfl (fun w425 H426 K427 => ?_)
                clear H423
                have H428 := H418.keep K427 (by intro h; change b = b11 at h; omega)
                clear H418
                have H429 := H420.keep K427 (by intro h; change go = b11 at h; omega)
                clear H420
                have H430 := H421.keep K427 (by intro h; change ge = b11 at h; omega)
                clear H421
                have H431 := H422.keep K427 (by intro h; change b1 = b11 at h; omega)
                clear H422
                have K432 := K424.trans K427 (U := (fun i => i = b ∨ i = go ∨ i = ge)) (fun i h1 h2 => h2) (fun i h1 h2 => by have h2 : i = b11 := h2; show i = b ∨ i = go ∨ i = ge; omega)
                clear K424
                clear K427
                refine Ops.done (by kernel_rfl) ?_
                refine q_ret (by kernel_rfl) ?_
                refine ⟨(agg [(i64 0), (Value.bool false), (i64 x.n)]), retv_cell rfl rfl (H426.loads (by kernel_rfl)), ?_⟩
                have e : c.do_ x = (⟨0, false, x.n⟩, (⟨c.shards, c.owner, c.epoch, c.began, c.ms, c.mf, c.mt, c.me, c.mp, c.mn, 0, 0⟩ : Ch)) := do5_go (by omega) (by omega)
                exact ⟨by rw [e]; rfl, K432, by rw [e]; exact H428, by rw [e]; exact H429, by rw [e]; exact H430⟩
          · rw [h377]
            have p433 : ¬ (x.kind = 5) := of_beq_f h377
            refine q_skip (by kernel_rfl) ?_
            refine q_seq (by kernel_rfl) ?_
            refine q_region (by kernel_rfl) ?_
            refine Ops.regs 1 [(4, (Value.pointer (some ⟨b11, 0, none⟩))), (255, (agg [(i64 1), (Value.bool false), (i64 0)]))] (j := 1) (by kernel_rfl) (by kernel_rfl) ?_
            refine Ops.put (t := 55) (b := b11) (off := 0) (v := (agg [(i64 1), (Value.bool false), (i64 0)])) (ys := [(i64 1), (Value.bool false), (i64 0)]) (by kernel_rfl) (by kernel_rfl) H14 (by kernel_rfl) (d := none) (by kernel_rfl) rfl (fun w434 H435 K436 => ?_)
            clear H14
            have H437 := H17.keep K436 (by intro h; change b = b11 at h; omega)
            clear H17
            have H438 := H18.keep K436 (by intro h; change go = b11 at h; omega)
            clear H18
            have H439 := H19.keep K436 (by intro h; change ge = b11 at h; omega)
            clear H19
            have H440 := H20.keep K436 (by intro h; change b1 = b11 at h; omega)
            clear H20
            have K441 := K21.trans K436 (U := (fun i => i = b ∨ i = go ∨ i = ge)) (fun i h1 h2 => h2) (fun i h1 h2 => by have h2 : i = b11 := h2; show i = b ∨ i = go ∨ i = ge; omega)
            clear K21
            clear K436
            refine Ops.done (by kernel_rfl) ?_
            refine q_ret (by kernel_rfl) ?_
            refine ⟨(agg [(i64 1), (Value.bool false), (i64 0)]), retv_cell rfl rfl (H435.loads (by kernel_rfl)), ?_⟩
            have e : c.do_ x = (⟨1, false, 0⟩, (⟨c.shards, c.owner, c.epoch, c.began, c.ms, c.mf, c.mt, c.me, c.mp, c.mn, c.audit, c.phase⟩ : Ch)) := do_none (by omega)
            exact ⟨by rw [e]; rfl, K441, by rw [e]; exact H437, by rw [e]; exact H438, by rw [e]; exact H439⟩
end Go.Proofs.Ytoljbckhoigibaa
